/- The law RelationLists: the walk (small is a hypothesis here). -/
import Derived.Test.YtepckpofhegmiaaGreatDoorRu
import Derived.Test.YtepckpofhegmiaaGreatDoorMg
set_option linter.unusedVariables false
set_option linter.unusedSimpArgs false
namespace Go.Proofs.YtepckpofhegmiaaGreatDoor
open Go Go.Proofs Sy
theorem hasL_pu (s : SlV) (l : List ByteArray) (x : ByteArray) : Pu Tryz.prog 10 #[s.v, .string x] (fun w => Strs w s l) (.bool (hasS l x)) := by
  refine pu_of_cw (args := [_, _]) _ Tryz.func10 rfl Tryz.ntmps10 rfl fun av bor w0 => ?_
  refine cw_know (p := s.n = l.length ∧ (0 < l.length → s.p.isSome = true) ∧ s.n ≤ maxLen) (fun w h => ⟨h.len_, h.some_, Nat.le_trans (RowsD.cap h) (RowsD.max h)⟩) fun ⟨hl, hp, hm⟩ => ?_
  simp only [maxLen] at hm
  rw [← has21_has]
  repeat' (first | apply sw_nil | apply cw_seq | apply cw_reg | refine sy_move (h := ?_) | refine sy_assign (h := ?_) | refine sy_ld (h := ?_) | refine sy_ldAll (h := ?_) | refine sy_eql (h := ?_) | refine sy_lss (h := ?_) | refine sy_seql (h := ?_) | refine sy_slen (h := ?_) | refine sy_len (h := ?_) | refine sy_add (h := ?_) | refine cw_cond_t (ht := ?_) | refine cw_cond_f (hf := ?_) | apply cw_skip | apply cw_block | apply cw_ret | apply cw_exit | refine sy_beql (h := ?_) | refine sy_arrA (h := ?_) | refine sy_strI (h := ?_) | (refine cw_cond (ht := ?_) (hf := ?_); all_goals (intro hx_; first | have := of_decide_eq_true hx_ | have := of_decide_eq_false hx_ | skip)))
  refine cw_loop (ι := Upto l.length (fun k => seqB (l.getD k .empty) x)) (fun i => ⟨[(0, s.v), (1, .string x), (5, .int .i64 i.k)], [], fun w => Strs w s l⟩) (fun i => l.length - i.k) (Upto.zero _ _) (ok_sub ⟨rfl, rfl, rfl, trivial⟩ (List.Sublist.refl _) fun _ h => h) fun i => ?_
  have hik := i.hk
  repeat' (first | apply sw_nil | apply cw_seq | apply cw_reg | refine sy_move (h := ?_) | refine sy_assign (h := ?_) | refine sy_ld (h := ?_) | refine sy_ldAll (h := ?_) | refine sy_eql (h := ?_) | refine sy_lss (h := ?_) | refine sy_seql (h := ?_) | refine sy_slen (h := ?_) | refine sy_len (h := ?_) | refine sy_add (h := ?_) | refine cw_cond_t (ht := ?_) | refine cw_cond_f (hf := ?_) | apply cw_skip | apply cw_block | apply cw_ret | apply cw_exit | refine sy_beql (h := ?_) | refine sy_arrA (h := ?_) | refine sy_strI (h := ?_) | (refine cw_cond (ht := ?_) (hf := ?_); all_goals (intro hx_; first | have := of_decide_eq_true hx_ | have := of_decide_eq_false hx_ | skip)))
  · have hlt : i.k < l.length := by omega
    have hp' := hp (by omega)
    repeat' (first | apply sw_nil | apply cw_seq | apply cw_reg | refine sy_move (h := ?_) | refine sy_assign (h := ?_) | refine sy_ld (h := ?_) | refine sy_ldAll (h := ?_) | refine sy_eql (h := ?_) | refine sy_lss (h := ?_) | refine sy_seql (h := ?_) | refine sy_slen (h := ?_) | refine sy_len (h := ?_) | refine sy_add (h := ?_) | refine cw_cond_t (ht := ?_) | refine cw_cond_f (hf := ?_) | apply cw_skip | apply cw_block | apply cw_ret | apply cw_exit | refine sy_beql (h := ?_) | refine sy_arrA (h := ?_) | refine sy_strI (h := ?_) | (refine sy_idxX (q := i.k) (h := ?_)) | (refine sy_ldX (q := i.k) (u := .string (l.getD i.k .empty)) (hF := fun w h => h.get hlt) (h := ?_)) | (refine cw_cond (ht := ?_) (hf := ?_); all_goals (intro hx_; first | have := of_decide_eq_true hx_ | have := of_decide_eq_false hx_ | skip)))
    · apply ends_ret; apply res_tmp; rfl; rfl
      rw [has21_found hlt (by assumption)]
    · exact ⟨i.next hlt (by assumption), (by show l.length - (i.k + 1) < l.length - i.k; omega), ok_sub ⟨rfl, rfl, rfl, trivial⟩ (List.Sublist.refl _) fun _ h => h⟩
  · apply ends_ret; apply res_tmp; rfl; rfl
    rw [has21_none fun k hk => i.ok k (by omega)]
section
open Go Go.Proofs Sy
variable {P : Program} {N : Nat} {av bor : List Nat} {w0 : World} {st : St} {t t2 ty : TypeId} {x y : Operand}
theorem y_sleqF {a b : ByteArray} (hx : ev st.env x = some (.string a)) (hy : ev st.env y = some (.string b)) (hab : ltB b a = true) : Sy.Yields P N av bor w0 st (.binOp .leq t x y t2) ty (.bool false) := by
  have h := y_sleq (P := P) (N := N) (av := av) (bor := bor) (w0 := w0) (t := t) (t2 := t2) (ty := ty) hx hy
  have e : (Op.bytesLess a.toList b.toList || seqB a b) = false := by
    rw [show Op.bytesLess a.toList b.toList = false from ltB_asymm hab, seqB_ne.2 (fun e => ltB_ne hab e.symm)]
    rfl
  rwa [e] at h
end
structure From1 (n : Nat) where
  k : Nat
  h1 : 1 ≤ k
  hk : k ≤ n ∨ k = 1
end Go.Proofs.YtepckpofhegmiaaGreatDoor
