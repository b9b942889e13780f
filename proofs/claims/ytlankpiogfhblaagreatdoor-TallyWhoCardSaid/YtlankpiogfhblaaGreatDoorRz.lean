/- Contract: agoraref21.Same. -/
import Derived.Test.YtlankpiogfhblaaGreatDoorMf
set_option linter.unusedVariables false
set_option linter.unusedSimpArgs false
namespace Go.Proofs.YtlankpiogfhblaaGreatDoor
open Go Go.Proofs Sy
theorem same21_pu (s r : SlV) (l m : List ByteArray) : Pu Tryz.prog 14 #[s.v, r.v] (fun w => Strs w s l ∧ Strs w r m) (.bool (eqL l m)) := by
  refine pu_of_cw (args := [_, _]) _ Tryz.func14 rfl Tryz.ntmps14 rfl fun av bor w0 => ?_
  refine cw_know (p := (s.n = l.length ∧ s.n ≤ maxLen ∧ (0 < l.length → s.p.isSome = true)) ∧ (r.n = m.length ∧ r.n ≤ maxLen ∧ (0 < m.length → r.p.isSome = true))) (fun w h => ⟨⟨h.1.len_, Nat.le_trans (RowsD.cap h.1) (RowsD.max h.1), h.1.some_⟩, ⟨h.2.len_, Nat.le_trans (RowsD.cap h.2) (RowsD.max h.2), h.2.some_⟩⟩) fun ⟨⟨hl, hm, hp⟩, ⟨hl', hm', hp'⟩⟩ => ?_
  simp only [maxLen] at hm hm'
  repeat' (first | apply sw_nil | apply cw_seq | apply cw_reg | refine sy_move (h := ?_) | refine sy_assign (h := ?_) | refine sy_ld (h := ?_) | refine sy_ldAll (h := ?_) | refine sy_neq (h := ?_) | refine sy_lss (h := ?_) | refine sy_sneq (h := ?_) | refine sy_slen (h := ?_) | refine sy_len (h := ?_) | refine sy_add (h := ?_) | refine cw_cond_t (ht := ?_) | refine cw_cond_f (hf := ?_) | apply cw_skip | apply cw_block | apply cw_ret | apply cw_exit | refine sy_bneq (h := ?_) | refine sy_arrA (h := ?_) | refine sy_strI (h := ?_) | (refine cw_cond (ht := ?_) (hf := ?_); all_goals (intro hx_; first | have := of_decide_eq_true hx_ | have := of_decide_eq_false hx_ | skip)))
  · apply ends_ret; apply res_tmp; rfl; rfl
    have : ¬ l.length = m.length := by
      have h1 : ¬ (s.n : Int) = (r.n : Int) := by simpa using hx_
      omega
    simp only [eqL, decide_eq_false this, Bool.false_and]
  have hlm : l.length = m.length := by
    have h1 : (s.n : Int) = (r.n : Int) := by simpa using hx_
    omega
  refine cw_loop (ι := Upto l.length (eqBad l m)) (fun i => ⟨[(0, s.v), (1, r.v), (5, .int .i64 i.k)], [], fun w => Strs w s l ∧ Strs w r m⟩) (fun i => l.length - i.k) (Upto.zero _ _) (ok_sub (by repeat (first | exact trivial | refine ⟨rfl, ?_⟩)) (List.Sublist.refl _) fun _ h => h) fun i => ?_
  have hik := i.hk
  repeat' (first | apply sw_nil | apply cw_seq | apply cw_reg | refine sy_move (h := ?_) | refine sy_assign (h := ?_) | refine sy_ld (h := ?_) | refine sy_ldAll (h := ?_) | refine sy_neq (h := ?_) | refine sy_lss (h := ?_) | refine sy_sneq (h := ?_) | refine sy_slen (h := ?_) | refine sy_len (h := ?_) | refine sy_add (h := ?_) | refine cw_cond_t (ht := ?_) | refine cw_cond_f (hf := ?_) | apply cw_skip | apply cw_block | apply cw_ret | apply cw_exit | refine sy_bneq (h := ?_) | refine sy_arrA (h := ?_) | refine sy_strI (h := ?_) | (refine cw_cond (ht := ?_) (hf := ?_); all_goals (intro hx_; first | have := of_decide_eq_true hx_ | have := of_decide_eq_false hx_ | skip)))
  · have hlt : i.k < l.length := by omega
    have hlt' : i.k < m.length := by omega
    have hp1 := hp (by omega)
    have hp2 := hp' (by omega)
    (apply cw_draw0; kernel_rfl)
    all_goals (refine aw_take 0 (h := ?_))
    all_goals (refine aw_take 1 (h := ?_))
    all_goals (first | refine aw_take 2 (h := ?_) | refine aw_take 2 (hy := by (first | (apply y_idxX (q := i.k); rfl; rfl; omega; omega; assumption; omega))) (h := ?_))
    all_goals (first | refine aw_take 3 (h := ?_) | refine aw_take 3 (hy := by (first | (apply y_ldX; rfl; exact fun w h => Strs.get h.1 hlt) | (apply y_ldX; rfl; exact fun w h => Strs.get h.2 hlt'))) (h := ?_))
    all_goals (refine aw_take 4 (h := ?_))
    all_goals (refine aw_take 5 (h := ?_))
    all_goals (first | refine aw_take 6 (h := ?_) | refine aw_take 6 (hy := by (first | (apply y_idxX (q := i.k); rfl; rfl; omega; omega; assumption; omega))) (h := ?_))
    all_goals (first | refine aw_take 7 (h := ?_) | refine aw_take 7 (hy := by (first | (apply y_ldX; rfl; exact fun w h => Strs.get h.1 hlt) | (apply y_ldX; rfl; exact fun w h => Strs.get h.2 hlt'))) (h := ?_))
    all_goals (refine aw_take 8 (h := ?_))
    all_goals (refine aw_done (h := ?_))
    repeat' (first | apply sw_nil | apply cw_seq | apply cw_reg | refine sy_move (h := ?_) | refine sy_assign (h := ?_) | refine sy_ld (h := ?_) | refine sy_ldAll (h := ?_) | refine sy_neq (h := ?_) | refine sy_lss (h := ?_) | refine sy_sneq (h := ?_) | refine sy_slen (h := ?_) | refine sy_len (h := ?_) | refine sy_add (h := ?_) | refine cw_cond_t (ht := ?_) | refine cw_cond_f (hf := ?_) | apply cw_skip | apply cw_block | apply cw_ret | apply cw_exit | refine sy_bneq (h := ?_) | refine sy_arrA (h := ?_) | refine sy_strI (h := ?_) | (refine cw_cond (ht := ?_) (hf := ?_); all_goals (intro hx_; first | have := of_decide_eq_true hx_ | have := of_decide_eq_false hx_ | skip)))
    · apply ends_ret; apply res_tmp; rfl; rfl
      rw [eqL, allB_false hlt (by assumption), Bool.and_false]
    · exact ⟨i.next hlt (by assumption), (by show l.length - (i.k + 1) < l.length - i.k; omega), ok_sub (by repeat (first | exact trivial | refine ⟨rfl, ?_⟩)) (List.Sublist.refl _) fun _ h => h⟩
  · apply ends_ret; apply res_tmp; rfl; rfl
    rw [eqL, i.all (by omega), decide_eq_true hlm]
    rfl
end Go.Proofs.YtlankpiogfhblaaGreatDoor
