/- Package agoralaw28: the bound, the equality of tallies, the examples. -/
import Derived.Test.YtlankpiogfhblaaGreatDoorPn
import Derived.Test.YtlankpiogfhblaaGreatDoorFw
import Derived.Test.YtlankpiogfhblaaGreatDoorRz
import Derived.Laws.StructEq
set_option linter.unusedVariables false
set_option linter.unusedSimpArgs false
namespace Go.Proofs.YtlankpiogfhblaaGreatDoor
open Go Go.Proofs Sy
set_option maxHeartbeats 1000000 in
theorem few28_pu (s : SlV) (l : List ChainD) : Pu Tryz.prog 5 #[s.v] (fun w => Chains w s l) (.bool (fewV l)) := by
  refine pu_of_cw (args := [_]) _ Tryz.func5 rfl Tryz.ntmps5 rfl fun av bor w0 => ?_
  refine cw_know (p := s.n = l.length ∧ s.n ≤ maxLen ∧ (0 < l.length → s.p.isSome = true)) (fun w h => ⟨h.len_, h.max_, h.some_⟩) fun ⟨hl, hm, hp⟩ => ?_
  simp only [maxLen] at hm
  repeat' (first | apply sw_nil | apply cw_seq | apply cw_reg | refine sy_move (h := ?_) | refine sy_assign (h := ?_) | refine sy_fld (h := ?_) | refine sy_ld (h := ?_) | refine sy_ldAll (h := ?_) | refine sy_pick_t (h := ?_) | refine sy_pick_f (h := ?_) | refine sy_lss (h := ?_) | refine sy_gtr (h := ?_) | refine sy_slen (h := ?_) | refine sy_len (h := ?_) | refine sy_add (h := ?_) | refine sw_skipT (h := ?_) | refine sw_skipF (h := ?_) | refine sw_skipU (h := ?_) | refine sw_alloc (h := fun _ => ?_) | refine sw_st1 (h := ?_) | refine sw_stAll (h := ?_) | refine cw_cond_t (ht := ?_) | refine cw_cond_f (hf := ?_) | apply cw_skip | apply cw_block | apply cw_ret | apply cw_exit | refine sy_arrA (h := ?_) | refine sy_strI (h := ?_) | ((fail_if_success (refine sw_chk (h := ?_))); refine sw_guard (ht := ?_) (hf := ?_); all_goals (intro hx_; first | have := of_decide_eq_true hx_ | have := of_decide_eq_false hx_ | skip)) | (refine cw_cond (ht := ?_) (hf := ?_); all_goals (intro hx_; first | have := of_decide_eq_true hx_ | have := of_decide_eq_false hx_ | skip)))
  · apply ends_ret; apply res_tmp; rfl; rfl
    rw [fewV, decide_eq_false (by omega), Bool.false_and]
  refine cw_loop (ι := Upto l.length (fewBad l)) (fun i => ⟨[(0, s.v), (3, .int .i64 i.k)], [], fun w => Chains w s l⟩) (fun i => l.length - i.k) (Upto.zero _ _) (ok_sub ⟨rfl, rfl, trivial⟩ (List.Sublist.refl _) fun _ h => h) fun i => ?_
  have hik := i.hk
  repeat' (first | apply sw_nil | apply cw_seq | apply cw_reg | refine sy_move (h := ?_) | refine sy_assign (h := ?_) | refine sy_fld (h := ?_) | refine sy_ld (h := ?_) | refine sy_ldAll (h := ?_) | refine sy_pick_t (h := ?_) | refine sy_pick_f (h := ?_) | refine sy_lss (h := ?_) | refine sy_gtr (h := ?_) | refine sy_slen (h := ?_) | refine sy_len (h := ?_) | refine sy_add (h := ?_) | refine sw_skipT (h := ?_) | refine sw_skipF (h := ?_) | refine sw_skipU (h := ?_) | refine sw_alloc (h := fun _ => ?_) | refine sw_st1 (h := ?_) | refine sw_stAll (h := ?_) | refine cw_cond_t (ht := ?_) | refine cw_cond_f (hf := ?_) | apply cw_skip | apply cw_block | apply cw_ret | apply cw_exit | refine sy_arrA (h := ?_) | refine sy_strI (h := ?_) | ((fail_if_success (refine sw_chk (h := ?_))); refine sw_guard (ht := ?_) (hf := ?_); all_goals (intro hx_; first | have := of_decide_eq_true hx_ | have := of_decide_eq_false hx_ | skip)) | (refine cw_cond (ht := ?_) (hf := ?_); all_goals (intro hx_; first | have := of_decide_eq_true hx_ | have := of_decide_eq_false hx_ | skip)))
  · have hlt : i.k < l.length := by omega
    have hp' := hp (by omega)
    obtain ⟨c, hc⟩ : ∃ c, l[i.k]? = some c := ⟨_, List.getElem?_eq_getElem hlt⟩
    have hcm := List.mem_of_getElem? hc
    have hfb : fewBad l i.k = !shortV c := by simp only [fewBad, List.getD_eq_getElem?_getD, hc, Option.getD_some]
    refine sw_know (p := c.acts.n = c.actsL.length ∧ c.acts.n ≤ maxLen ∧ (0 < c.actsL.length → c.acts.p.isSome = true)) (fun w h => ⟨(h.2 c hcm).len_, (h.2 c hcm).max_, (h.2 c hcm).some_⟩) fun ⟨hl2, hm2, hp2⟩ => ?_
    simp only [maxLen] at hm2
    repeat' (first | apply sw_nil | apply cw_seq | apply cw_reg | refine sy_move (h := ?_) | refine sy_assign (h := ?_) | refine sy_fld (h := ?_) | refine sy_ld (h := ?_) | refine sy_ldAll (h := ?_) | refine sy_pick_t (h := ?_) | refine sy_pick_f (h := ?_) | refine sy_lss (h := ?_) | refine sy_gtr (h := ?_) | refine sy_slen (h := ?_) | refine sy_len (h := ?_) | refine sy_add (h := ?_) | refine sw_skipT (h := ?_) | refine sw_skipF (h := ?_) | refine sw_skipU (h := ?_) | refine sw_alloc (h := fun _ => ?_) | refine sw_st1 (h := ?_) | refine sw_stAll (h := ?_) | refine cw_cond_t (ht := ?_) | refine cw_cond_f (hf := ?_) | apply cw_skip | apply cw_block | apply cw_ret | apply cw_exit | refine sy_arrA (h := ?_) | refine sy_strI (h := ?_) | (refine sy_idxX (q := i.k * 6) (h := ?_)) | (refine sy_fldX (h := ?_)) | (refine sy_ldX (q := i.k * 6 + 1) (u := c.acts.v) (hF := fun w h => (Chains.get h hc).2.2 1 _ rfl) (h := ?_)) | ((fail_if_success (refine sw_chk (h := ?_))); refine sw_guard (ht := ?_) (hf := ?_); all_goals (intro hx_; first | have := of_decide_eq_true hx_ | have := of_decide_eq_false hx_ | skip)) | (refine cw_cond (ht := ?_) (hf := ?_); all_goals (intro hx_; first | have := of_decide_eq_true hx_ | have := of_decide_eq_false hx_ | skip)))
    · apply ends_ret; apply res_tmp; rfl; rfl
      rw [fewV, allB_false hlt (by rw [hfb, shortV, decide_eq_false (by omega)]; rfl), Bool.and_false]
    refine cw_loop (ι := Upto c.actsL.length (shortBad c.actsL)) (fun j => ⟨[(0, s.v), (3, .int .i64 i.k), (4, .int .i64 j.k)], [], fun w => Chains w s l⟩) (fun j => c.actsL.length - j.k) (Upto.zero _ _) (ok_sub ⟨rfl, rfl, rfl, trivial⟩ (List.Sublist.refl _) fun _ h => h) fun j => ?_
    have hjk := j.hk
    repeat' (first | apply sw_nil | apply cw_seq | apply cw_reg | refine sy_move (h := ?_) | refine sy_assign (h := ?_) | refine sy_fld (h := ?_) | refine sy_ld (h := ?_) | refine sy_ldAll (h := ?_) | refine sy_pick_t (h := ?_) | refine sy_pick_f (h := ?_) | refine sy_lss (h := ?_) | refine sy_gtr (h := ?_) | refine sy_slen (h := ?_) | refine sy_len (h := ?_) | refine sy_add (h := ?_) | refine sw_skipT (h := ?_) | refine sw_skipF (h := ?_) | refine sw_skipU (h := ?_) | refine sw_alloc (h := fun _ => ?_) | refine sw_st1 (h := ?_) | refine sw_stAll (h := ?_) | refine cw_cond_t (ht := ?_) | refine cw_cond_f (hf := ?_) | apply cw_skip | apply cw_block | apply cw_ret | apply cw_exit | refine sy_arrA (h := ?_) | refine sy_strI (h := ?_) | (refine sy_idxX (q := i.k * 6) (h := ?_)) | (refine sy_fldX (h := ?_)) | (refine sy_ldX (q := i.k * 6 + 1) (u := c.acts.v) (hF := fun w h => (Chains.get h hc).2.2 1 _ rfl) (h := ?_)) | ((fail_if_success (refine sw_chk (h := ?_))); refine sw_guard (ht := ?_) (hf := ?_); all_goals (intro hx_; first | have := of_decide_eq_true hx_ | have := of_decide_eq_false hx_ | skip)) | (refine cw_cond (ht := ?_) (hf := ?_); all_goals (intro hx_; first | have := of_decide_eq_true hx_ | have := of_decide_eq_false hx_ | skip)))
    · have hjl : j.k < c.actsL.length := by omega
      have hp3 := hp2 (by omega)
      obtain ⟨x, hx⟩ : ∃ x, c.actsL[j.k]? = some x := ⟨_, List.getElem?_eq_getElem hjl⟩
      have hB : shortBad c.actsL j.k = (decide (8 < x.to.n) || decide (8 < x.wraps.n) || decide (600 < x.text.size) || decide (600 < x.body.data.size)) := by simp only [shortBad, List.getD_eq_getElem?_getD, hx, Option.getD_some]
      repeat' (first | apply sw_nil | apply cw_seq | apply cw_reg | refine sy_move (h := ?_) | refine sy_assign (h := ?_) | refine sy_fld (h := ?_) | refine sy_ld (h := ?_) | refine sy_ldAll (h := ?_) | refine sy_pick_t (h := ?_) | refine sy_pick_f (h := ?_) | refine sy_lss (h := ?_) | refine sy_gtr (h := ?_) | refine sy_slen (h := ?_) | refine sy_len (h := ?_) | refine sy_add (h := ?_) | refine sw_skipT (h := ?_) | refine sw_skipF (h := ?_) | refine sw_skipU (h := ?_) | refine sw_alloc (h := fun _ => ?_) | refine sw_st1 (h := ?_) | refine sw_stAll (h := ?_) | refine cw_cond_t (ht := ?_) | refine cw_cond_f (hf := ?_) | apply cw_skip | apply cw_block | apply cw_ret | apply cw_exit | refine sy_arrA (h := ?_) | refine sy_strI (h := ?_) | (refine sy_idxX (q := j.k * 20) (h := ?_)) | (refine sy_ldXs (cs := x.cells) (hF := fun w h => Acts.get (h.2 c hcm) hx) (h := ?_)) | ((fail_if_success (refine sw_chk (h := ?_))); refine sw_guard (ht := ?_) (hf := ?_); all_goals (intro hx_; first | have := of_decide_eq_true hx_ | have := of_decide_eq_false hx_ | skip)) | (refine cw_cond (ht := ?_) (hf := ?_); all_goals (intro hx_; first | have := of_decide_eq_true hx_ | have := of_decide_eq_false hx_ | skip)))
      all_goals first
        | (apply ends_ret; apply res_tmp; rfl; rfl
           have hb : shortBad c.actsL j.k = true := by
             rw [hB]; simp only [Bool.or_eq_true, decide_eq_true_eq]; simp only [decide_eq_true_eq, decide_eq_false_iff_not] at *; omega
           rw [fewV, allB_false hlt (by rw [hfb, shortV, allB_false hjl hb, Bool.and_false]; rfl), Bool.and_false])
        | (have hb : shortBad c.actsL j.k = false := by
             rw [hB]; simp only [Bool.or_eq_false_iff, decide_eq_false_iff_not]; simp only [decide_eq_true_eq, decide_eq_false_iff_not] at *; omega
           exact ⟨j.next hjl hb, (by show c.actsL.length - (j.k + 1) < c.actsL.length - j.k; omega), ok_sub ⟨rfl, rfl, rfl, trivial⟩ (List.Sublist.cons _ (List.Sublist.refl _)) fun _ h => h⟩)
    · have hsv : shortV c = true := by rw [shortV, j.all (by omega), decide_eq_true (by omega)]; rfl
      exact ⟨i.next hlt (by rw [hfb, hsv]; rfl), (by show l.length - (i.k + 1) < l.length - i.k; omega), ok_sub ⟨rfl, rfl, trivial⟩ (List.Sublist.refl _) fun _ h => h⟩
  · apply ends_ret; apply res_tmp; rfl; rfl
    rw [fewV, i.all (by omega), decide_eq_true (by omega)]
    rfl
theorem run_partI28 (w : World) {cs : Array Value} {off : Nat} {v : Value} (h : cs[off]? = some v) : (part 3 cs off).run Tryz.prog w = .ok v w := by
  simp [part, isAgg, run_underlying Tryz.underlying3, h]
theorem eqI_run28 (w : World) (d : Nat) (a b : Int) : (Op.equalIn (d + 1) 3 (.int .i64 a) (.int .i64 b)).run Tryz.prog w = .ok (decide (a = b)) w := by
  rw [run_equalIn_int w d _ .i64 .i64 a b Tryz.underlying3]
  rfl
theorem run_eqTD (w : World) (d : Nat) (a : TalD) : (Op.equalIn (d + 2) 33 a.v a.v).run Tryz.prog w = .ok true w := by
  have p0 : ∀ x : TalD, (part 3 x.cells.toArray 0).run Tryz.prog w = .ok (.int .i64 (x.likes : Int)) w := fun x => run_partI28 w rfl
  have p1 : ∀ x : TalD, (part 3 x.cells.toArray 1).run Tryz.prog w = .ok (.int .i64 (x.boosts : Int)) w := fun x => run_partI28 w rfl
  have p2 : ∀ x : TalD, (part 3 x.cells.toArray 2).run Tryz.prog w = .ok (.int .i64 (x.replies : Int)) w := fun x => run_partI28 w rfl
  unfold TalD.v
  rw [run_equalIn_agg _ _ _ _ _ (by kernel_rfl) (by kernel_rfl)]
  simp only [Program.fieldsOf, Tryz.underlying33]
  simp [Op.eqFields, p0, p1, p2, eqI_run28]
section
variable {N : Nat} {av bor : List Nat} {w0 : World} {x y : Operand} {t2 : TypeId} {ty : TypeId} {st : St}
theorem y_eqTD (a : TalD) (hx : ev st.env x = some a.v) (hy : ev st.env y = some a.v) : Sy.Yields Tryz.prog N av bor w0 st (.binOp .eql 33 x y t2) ty (.bool true) := Sy.Yields.mk fun A w ok d pos af g => by
  have h1 := run_eqGuard_agg (P := Tryz.prog) w .eql 33 x y a.cells.toArray a.cells.toArray (by kernel_rfl)
  have h2 := run_eql_struct (P := Tryz.prog) w 33 a.cells.toArray a.cells.toArray
  have h3 := run_eqTD w 9998 a
  simp only [TalD.v] at hx hy h3
  simp [execOp, ok.eval hx, ok.eval hy, h1, h2, h3]
end
end Go.Proofs.YtlankpiogfhblaaGreatDoor
