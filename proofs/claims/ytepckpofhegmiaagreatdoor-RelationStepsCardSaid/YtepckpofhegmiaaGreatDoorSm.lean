/- Contracts: chain.Draft, undoable, fits, Fits. -/
import Derived.Test.YtepckpofhegmiaaGreatDoorSl
import Derived.Test.YtepckpofhegmiaaGreatDoorMf
import Derived.Test.YtepckpofhegmiaaGreatDoorRg
import Derived.Test.YtepckpofhegmiaaGreatDoorMg
set_option linter.unusedVariables false
set_option linter.unusedSimpArgs false
namespace Go.Proofs.YtepckpofhegmiaaGreatDoor
open Go Go.Proofs Sy
def draftV (c : ChainD) (k t : Int) : ActD := { ActD.zero with author := c.id, seq := (c.acts.n : Int), prev := c.prev, kind := k, time := t }
theorem draft_pu (c : ChainD) (k t : Int) : Pu Tryz.prog 42 #[c.v, .int .i64 k, .int .i64 t] (fun _ => True) (draftV c k t).v := by
  refine pu_of_cw (args := [_, _, _]) _ Tryz.func42 rfl Tryz.ntmps42 rfl fun av bor w0 => ?_
  repeat' (first | apply sw_nil | apply cw_seq | apply cw_reg | refine sy_move (h := ?_) | refine sy_assign (h := ?_) | refine sy_fld (h := ?_) | refine sy_ld (h := ?_) | refine sy_ldAll (h := ?_) | refine sy_slen (h := ?_) | refine sy_len (h := ?_) | refine sw_alloc (h := fun _ => ?_) | refine sw_box (h := fun _ => ?_) | refine sw_st1 (h := ?_) | refine sw_stAll (h := ?_) | refine cw_cond_t (ht := ?_) | refine cw_cond_f (hf := ?_) | apply cw_skip | apply cw_block | apply cw_ret | apply cw_exit | refine sy_arrA (h := ?_) | refine sy_strI (h := ?_) | (refine sy_build (cs := (draftV c k t).cells) (hf := by rfl) (h := ?_)) | (refine cw_cond (ht := ?_) (hf := ?_); all_goals (intro hx_; first | have := of_decide_eq_true hx_ | have := of_decide_eq_false hx_ | skip)))
  exact ends_ret (res_cell rfl rfl (by (repeat (first | exact List.mem_cons_self | apply List.mem_cons_of_mem))) (by rfl)) rfl
def undoK (k : Int) : Bool := decide (k = 4) || decide (k = 5) || decide (k = 7) || decide (k = 8) || decide (k = 10) || decide (k = 11) || decide (k = 17) || decide (k = 23)
theorem undoable_pu (k : Int) : Pu Tryz.prog 77 #[.int .i64 k] (fun _ => True) (.bool (undoK k)) := by
  refine pu_of_cw (args := [_]) _ Tryz.func77 rfl Tryz.ntmps77 rfl fun av bor w0 => ?_
  repeat' (first | apply sw_nil | apply cw_seq | apply cw_reg | refine sy_move (h := ?_) | refine sy_assign (h := ?_) | refine sy_eql (h := ?_) | refine sy_seql (h := ?_) | refine cw_cond_t (ht := ?_) | refine cw_cond_f (hf := ?_) | apply cw_skip | apply cw_block | apply cw_ret | apply cw_exit | refine sy_beql (h := ?_) | refine sy_arrA (h := ?_) | refine sy_strI (h := ?_) | (refine cw_cond (ht := ?_) (hf := ?_); all_goals (intro hx_; first | have := of_decide_eq_true hx_ | have := of_decide_eq_false hx_ | skip)))
  (all_goals (apply ends_ret; apply res_tmp; rfl; rfl)); all_goals first | rfl | (simp only [undoK, *, decide_true, decide_false, cond_true, cond_false, Bool.and_true, Bool.true_and, Bool.and_false, Bool.false_and, Bool.not_true, Bool.not_false, Bool.or_true, Bool.true_or, Bool.or_false, Bool.false_or]; done) | (simp_all [undoK]; done)
def atK (c : ChainD) (o : Option Nat) (p : Int → Bool) : Bool := match o with
  | some j => p (c.actsL.getD j ActD.zero).kind
  | none => false
def fitsV (c : ChainD) (a : ActD) (pl : Option Nat) : Bool :=
  bif !rightB a || !seqB a.author c.id || !decide (a.seq = (c.acts.n : Int)) || !seqB a.prev c.prev then false
  else bif decide (a.kind = 0) != decide ((c.acts.n : Int) = 0) then false
  else bif decide (a.kind = 6) then atK c pl undoK
  else bif decide (a.kind = 13) || decide (a.kind = 14) then atK c pl postK else true
set_option maxRecDepth 20000 in
set_option maxHeartbeats 4000000 in
theorem fits_pu (c : ChainD) (a : ActD) (gf : Nat) [FnBody Tryz.prog gf] (lb : List Value) (pl : Option Nat) (Y : World → Prop) (hpl : Pu Tryz.prog gf (.string a.object :: lb).toArray Y (idxP pl)) (hlt : ∀ j, pl = some j → j < c.actsL.length) :
    Pu Tryz.prog 49 #[c.v, a.v, .func (.func gf) #[] lb.toArray] (fun w => c.at_ w ∧ a.at_ w ∧ Y w) (.bool (fitsV c a pl)) := by
  refine pu_of_cw (args := [_, _, _]) _ Tryz.func49 rfl Tryz.ntmps49 rfl fun av bor w0 => ?_
  refine cw_know (p := c.acts.n = c.actsL.length ∧ c.acts.n ≤ maxLen ∧ (0 < c.actsL.length → c.acts.p.isSome = true)) (fun w h => ⟨h.1.len_, h.1.max_, h.1.some_⟩) fun ⟨hl, hm, hp⟩ => ?_
  simp only [maxLen] at hm
  have hri := actRight_pu a
  cases hB : (!rightB a || !seqB a.author c.id || !decide (a.seq = (c.acts.n : Int)) || !seqB a.prev c.prev) with
  | true =>
    rw [show fitsV c a pl = false from by rw [fitsV, hB]; rfl]
    repeat' (first | apply sw_nil | apply cw_seq | apply cw_reg | refine sy_move (h := ?_) | refine sy_assign (h := ?_) | refine sy_fld (h := ?_) | refine sy_ld (h := ?_) | refine sy_ldAll (h := ?_) | refine sy_pick_t (h := ?_) | refine sy_pick_f (h := ?_) | refine sy_not (h := ?_) | refine sy_eql (h := ?_) | refine sy_neq (h := ?_) | refine sy_seql (h := ?_) | refine sy_sneq (h := ?_) | refine sy_slen (h := ?_) | refine sy_len (h := ?_) | refine sy_extract (h := ?_) | refine sw_skipT (h := ?_) | refine sw_skipF (h := ?_) | refine sw_skipU (h := ?_) | refine sw_box (h := fun _ => ?_) | refine cw_cond_t (ht := ?_) | refine cw_cond_f (hf := ?_) | apply cw_skip | apply cw_block | apply cw_ret | apply cw_exit | refine sy_beql (h := ?_) | refine sy_bneq (h := ?_) | refine sy_arrA (h := ?_) | refine sy_strI (h := ?_) | (refine sw_pu (hc := hri) (hX := fun _ h => h.2.1) (h := ?_)) | ((fail_if_success (refine sw_chk (h := ?_))); refine sw_guard (ht := ?_) (hf := ?_); all_goals (intro hx_; first | have := of_decide_eq_true hx_ | have := of_decide_eq_false hx_ | skip)) | (refine cw_cond (ht := ?_) (hf := ?_); all_goals (intro hx_; first | have := of_decide_eq_true hx_ | have := of_decide_eq_false hx_ | skip)))
    all_goals first
      | (apply ends_ret; apply res_tmp; rfl; rfl; rfl)
      | (exfalso; simp_all; done)
  | false =>
    have hB' := hB
    simp only [Bool.or_eq_false_iff, Bool.not_eq_false', decide_eq_true_eq] at hB'
    obtain ⟨⟨⟨e1, e2⟩, e3⟩, e4⟩ := hB'
    rw [e1] at hri
    cases hK : (decide (a.kind = 0) != decide ((c.acts.n : Int) = 0)) with
    | true =>
      rw [show fitsV c a pl = false from by rw [fitsV, hB, hK]; rfl]
      repeat' (first | refine sy_neqF (hab := e3) (h := ?_) | apply sw_nil | apply cw_seq | apply cw_reg | refine sy_move (h := ?_) | refine sy_assign (h := ?_) | refine sy_fld (h := ?_) | refine sy_ld (h := ?_) | refine sy_ldAll (h := ?_) | refine sy_pick_t (h := ?_) | refine sy_pick_f (h := ?_) | refine sy_not (h := ?_) | refine sy_eql (h := ?_) | refine sy_neq (h := ?_) | refine sy_seql (h := ?_) | refine sy_sneq (h := ?_) | refine sy_slen (h := ?_) | refine sy_len (h := ?_) | refine sy_extract (h := ?_) | refine sw_skipT (h := ?_) | refine sw_skipF (h := ?_) | refine sw_skipU (h := ?_) | refine sw_box (h := fun _ => ?_) | refine cw_cond_t (ht := ?_) | refine cw_cond_f (hf := ?_) | apply cw_skip | apply cw_block | apply cw_ret | apply cw_exit | refine sy_beql (h := ?_) | refine sy_bneq (h := ?_) | refine sy_arrA (h := ?_) | refine sy_strI (h := ?_) | (refine sw_pu (hc := hri) (hX := fun _ h => h.2.1) (h := ?_)) | ((fail_if_success (refine sw_chk (h := ?_))); refine sw_guard (ht := ?_) (hf := ?_); all_goals (intro hx_; first | have := of_decide_eq_true hx_ | have := of_decide_eq_false hx_ | skip)) | (refine cw_cond (ht := ?_) (hf := ?_); all_goals (intro hx_; first | have := of_decide_eq_true hx_ | have := of_decide_eq_false hx_ | skip)))
      all_goals first
        | (apply ends_ret; apply res_tmp; rfl; rfl; rfl)
        | (exfalso; simp_all; done)
    | false =>
      have hF : fitsV c a pl = (bif decide (a.kind = 6) then atK c pl undoK else bif decide (a.kind = 13) || decide (a.kind = 14) then atK c pl postK else true) := by rw [fitsV, hB, hK]; rfl
      rw [hF]
      cases pl with
      | none =>
        have hpl' : Pu Tryz.prog gf (.string a.object :: lb).toArray Y (.tuple #[.int .i64 0, .bool false]) := hpl
        repeat' (first | refine sy_neqF (hab := e3) (h := ?_) | apply sw_nil | apply cw_seq | apply cw_reg | refine sy_move (h := ?_) | refine sy_assign (h := ?_) | refine sy_fld (h := ?_) | refine sy_ld (h := ?_) | refine sy_ldAll (h := ?_) | refine sy_pick_t (h := ?_) | refine sy_pick_f (h := ?_) | refine sy_not (h := ?_) | refine sy_eql (h := ?_) | refine sy_neq (h := ?_) | refine sy_seql (h := ?_) | refine sy_sneq (h := ?_) | refine sy_slen (h := ?_) | refine sy_len (h := ?_) | refine sy_extract (h := ?_) | refine sw_skipT (h := ?_) | refine sw_skipF (h := ?_) | refine sw_skipU (h := ?_) | refine sw_box (h := fun _ => ?_) | refine cw_cond_t (ht := ?_) | refine cw_cond_f (hf := ?_) | apply cw_skip | apply cw_block | apply cw_ret | apply cw_exit | refine sy_beql (h := ?_) | refine sy_bneq (h := ?_) | refine sy_arrA (h := ?_) | refine sy_strI (h := ?_) | (refine sw_pu (hc := hri) (hX := fun _ h => h.2.1) (h := ?_)) | (refine sw_puV (hc := hpl') (hX := fun _ h => h.2.2) (h := ?_)) | ((fail_if_success (refine sw_chk (h := ?_))); refine sw_guard (ht := ?_) (hf := ?_); all_goals (intro hx_; first | have := of_decide_eq_true hx_ | have := of_decide_eq_false hx_ | skip)) | (refine cw_cond (ht := ?_) (hf := ?_); all_goals (intro hx_; first | have := of_decide_eq_true hx_ | have := of_decide_eq_false hx_ | skip)))
        all_goals first
          | (exfalso; simp_all; done)
          | (apply ends_ret; apply res_tmp; rfl; rfl; simp_all [atK]; done)
      | some j =>
        have hjl := hlt j rfl
        have hp' := hp (by omega)
        obtain ⟨x, hx⟩ : ∃ x, c.actsL[j]? = some x := ⟨_, List.getElem?_eq_getElem hjl⟩
        have hA : ∀ p, atK c (some j) p = p x.kind := fun p => by simp only [atK, List.getD_eq_getElem?_getD, hx, Option.getD_some]
        rw [hA, hA] at hF ⊢
        have hpl' : Pu Tryz.prog gf (.string a.object :: lb).toArray Y (.tuple #[.int .i64 (j : Nat), .bool true]) := hpl
        clear hpl
        repeat' (first | refine sy_neqF (hab := e3) (h := ?_) | apply sw_nil | apply cw_seq | apply cw_reg | refine sy_move (h := ?_) | refine sy_assign (h := ?_) | refine sy_fld (h := ?_) | refine sy_ld (h := ?_) | refine sy_ldAll (h := ?_) | refine sy_pick_t (h := ?_) | refine sy_pick_f (h := ?_) | refine sy_not (h := ?_) | refine sy_eql (h := ?_) | refine sy_neq (h := ?_) | refine sy_seql (h := ?_) | refine sy_sneq (h := ?_) | refine sy_slen (h := ?_) | refine sy_len (h := ?_) | refine sy_extract (h := ?_) | refine sw_skipT (h := ?_) | refine sw_skipF (h := ?_) | refine sw_skipU (h := ?_) | refine sw_box (h := fun _ => ?_) | refine cw_cond_t (ht := ?_) | refine cw_cond_f (hf := ?_) | apply cw_skip | apply cw_block | apply cw_ret | apply cw_exit | refine sy_beql (h := ?_) | refine sy_bneq (h := ?_) | refine sy_arrA (h := ?_) | refine sy_strI (h := ?_) | (refine sw_pu (hc := hri) (hX := fun _ h => h.2.1) (h := ?_)) | (refine sw_puV (hc := hpl') (hX := fun _ h => h.2.2) (h := ?_)) | (refine sy_idxX (q := j * 20) (h := ?_)) | (refine sy_fldX (h := ?_)) | (refine sy_ldX (q := j * 20 + 3) (u := .int .i64 x.kind) (hF := fun w h => (Acts.get h.1 hx).2.2 3 _ rfl) (h := ?_)) | refine sw_pu (hc := undoable_pu x.kind) (h := ?_) | refine sw_pu (hc := posting_pu x.kind) (h := ?_) | ((fail_if_success (refine sw_chk (h := ?_))); refine sw_guard (ht := ?_) (hf := ?_); all_goals (intro hx_; first | have := of_decide_eq_true hx_ | have := of_decide_eq_false hx_ | skip)) | (refine cw_cond (ht := ?_) (hf := ?_); all_goals (intro hx_; first | have := of_decide_eq_true hx_ | have := of_decide_eq_false hx_ | skip)))
        all_goals first
          | (exfalso; simp_all; done)
          | (apply ends_ret; apply res_tmp; rfl; rfl; simp_all; done)
theorem fits1_pu (c : ChainD) (hc : ActsOk c.actsL) (b : Nat) (d : ByteArray) : Pu Tryz.prog 50 #[.string d, .pointer (some ⟨b, 0, none⟩)] (fun w => (c.at_ w ∧ Glob w) ∧ ChBox c b w) (idxP (idxV c.actsL d)) := by
  refine pu_of_cw (args := [_, _]) _ Tryz.func50 rfl Tryz.ntmps50 rfl fun av bor w0 => ?_
  repeat' (first | apply sw_nil | apply cw_seq | apply cw_reg | refine sy_move (h := ?_) | refine sy_assign (h := ?_) | refine sy_ld (h := ?_) | refine sy_ldAll (h := ?_) | refine sy_extract (h := ?_) | refine cw_cond_t (ht := ?_) | refine cw_cond_f (hf := ?_) | apply cw_skip | apply cw_block | apply cw_ret | apply cw_exit | refine sy_arrA (h := ?_) | refine sy_strI (h := ?_) | (refine sy_ldCs (cs := c.cells) (hF := fun w h => h.2.cell) (hl := rfl) (h := ?_)) | (refine sw_pu (hc := index_pu c hc d) (hX := fun _ h => h.1) (h := ?_)) | (refine cw_cond (ht := ?_) (hf := ?_); all_goals (intro hx_; first | have := of_decide_eq_true hx_ | have := of_decide_eq_false hx_ | skip)))
  exact ends_ret (res_tmp2 rfl rfl rfl) rfl
theorem chFits_pu (c : ChainD) (hc : ActsOk c.actsL) (a : ActD) : Pu Tryz.prog 29 #[c.v, a.v] (fun w => (c.at_ w ∧ Glob w) ∧ a.at_ w) (.bool (fitsV c a (idxV c.actsL a.object))) := by
  refine pu_of_cw (args := [_, _]) _ Tryz.func29 rfl Tryz.ntmps29 rfl fun av bor w0 => ?_
  have hf := fun b => fits_pu c a 50 [.pointer (some ⟨b, 0, none⟩)] (idxV c.actsL a.object) _ (fits1_pu c hc b a.object) (fun j h => idxV_lt h)
  repeat' (first | apply sw_nil | apply cw_seq | apply cw_reg | refine sy_move (h := ?_) | refine sy_assign (h := ?_) | refine sy_ld (h := ?_) | refine sy_ldAll (h := ?_) | refine sw_box (h := fun _ => ?_) | refine cw_cond_t (ht := ?_) | refine cw_cond_f (hf := ?_) | apply cw_skip | apply cw_block | apply cw_ret | apply cw_exit | refine sy_arrA (h := ?_) | refine sy_strI (h := ?_) | (refine sy_makeFunc (h := ?_)) | (refine sw_puL (hc := hf _) (hX := fun w h hr => ⟨h.1.1, h.2, h.1, hr _ (List.mem_cons_of_mem _ List.mem_cons_self)⟩) (h := ?_)) | (refine cw_cond (ht := ?_) (hf := ?_); all_goals (intro hx_; first | have := of_decide_eq_true hx_ | have := of_decide_eq_false hx_ | skip)))
  exact ends_ret (res_tmp rfl rfl) rfl
end Go.Proofs.YtepckpofhegmiaaGreatDoor
