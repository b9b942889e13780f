/- Contract of agoralaw21.Draft, for the kinds that the small law's story wishes. -/
import Derived.Test.YtepckpofhegmiaaGreatDoorTk
import Derived.Test.YtepckpofhegmiaaGreatDoorSm
set_option linter.unusedVariables false
set_option linter.unusedSimpArgs false
namespace Go.Proofs.YtepckpofhegmiaaGreatDoor
open Go Go.Proofs Sy
structure WishD where
  by_ : Int
  do_ : Int
  who : Int
  what : Int
  text : ByteArray
  time : Int
def WishD.cells (w : WishD) : List Value := [.int .i64 w.by_, .int .i64 w.do_, .int .i64 w.who, .int .i64 w.what, .string w.text, .int .i64 w.time]
def WishD.v (w : WishD) : Value := .agg w.cells.toArray
theorem pickV_rng (n : Int) (m : Nat) (hm : 1 ≤ m) : ∃ p : Nat, p < m ∧ pickV n m = (p : Int) := by
  have h1 : n.tmod (m : Int) < m := Int.tmod_lt_of_pos _ (by omega)
  have h2 : -(m : Int) < n.tmod m := Int.lt_tmod_of_pos _ (by omega)
  have hv : pickV n m = bif decide (n.tmod (m : Int) < 0) then n.tmod (m : Int) + m else n.tmod (m : Int) := rfl
  generalize n.tmod (m : Int) = r at *
  by_cases h : r < 0
  · rw [decide_eq_true h] at hv
    exact ⟨(r + m).toNat, by omega, by rw [hv]; show r + m = _; omega⟩
  · rw [decide_eq_false h] at hv
    exact ⟨r.toNat, by omega, by rw [hv]; show r = _; omega⟩
set_option maxRecDepth 20000 in
set_option maxHeartbeats 4000000 in
theorem draftT_pu (c : ChainD) (w : WishD) (s : SlV) (p : Nat) (hp : pickV w.who (4 : Nat) = (p : Int)) (hp4 : p < 4) (hk : w.do_ = 7 ∨ w.do_ = 8 ∨ w.do_ = 10) :
    Pu Tryz.prog 28 #[c.v, w.v, s.v] Glob ({ draftV c w.do_ w.time with target := idA21 p } : ActD).v := by
  have hpk := pick_pu w.who 4 (by decide) (by decide)
  rw [hp] at hpk
  have hid := id_pu p (by omega)
  have hpo := posting_pu w.do_
  have g7 : decide (7 ≤ w.do_) = true := decide_eq_true (by omega)
  have g11 : decide (w.do_ ≤ 11) = true := decide_eq_true (by omega)
  have n2 : decide (w.do_ = 2) = false := decide_eq_false (by omega)
  have n3 : decide (w.do_ = 3) = false := decide_eq_false (by omega)
  have n4 : decide (w.do_ = 4) = false := decide_eq_false (by omega)
  have n5 : decide (w.do_ = 5) = false := decide_eq_false (by omega)
  have n6 : decide (w.do_ = 6) = false := decide_eq_false (by omega)
  have n13 : decide (w.do_ = 13) = false := decide_eq_false (by omega)
  have n14 : decide (w.do_ = 14) = false := decide_eq_false (by omega)
  have n12 : decide (w.do_ = 12) = false := decide_eq_false (by omega)
  have hP : postK w.do_ = false := by rw [postK, decide_eq_false (by omega), n2, n3]; rfl
  rw [hP] at hpo
  have hdr := draft_pu c w.do_ w.time
  generalize hD : draftV c w.do_ w.time = D at *
  refine pu_of_cw (args := [_, _, _]) _ Tryz.func28 rfl Tryz.ntmps28 rfl fun av bor w0 => ?_
  repeat' (first | apply sw_nil | apply cw_seq | apply cw_reg | refine sy_move (h := ?_) | refine sy_assign (h := ?_) | refine sy_fld (h := ?_) | refine sy_ld (h := ?_) | refine sy_ldAll (h := ?_) | refine sy_pick_t (h := ?_) | refine sy_pick_f (h := ?_) | refine sy_eql (h := ?_) | refine sy_leq (h := ?_) | refine sy_gtr (h := ?_) | refine sy_geq (h := ?_) | refine sy_seql (h := ?_) | refine sy_slen (h := ?_) | refine sy_len (h := ?_) | refine sw_skipT (h := ?_) | refine sw_skipF (h := ?_) | refine sw_skipU (h := ?_) | refine sw_alloc (h := fun _ => ?_) | refine sw_box (h := fun _ => ?_) | refine sw_st1 (h := ?_) | refine sw_stAll (h := ?_) | refine cw_cond_t (ht := ?_) | refine cw_cond_f (hf := ?_) | apply cw_skip | apply cw_block | apply cw_ret | apply cw_exit | refine sy_beql (h := ?_) | refine sy_arrA (h := ?_) | refine sy_strI (h := ?_) | (refine sw_pu (hc := hdr) (hX := fun _ _ => trivial) (h := ?_)) | (refine sw_pu (hc := hpk) (hX := fun _ _ => trivial) (h := ?_)) | (refine sw_pu (hc := hid) (hX := fun _ h => h) (h := ?_)) | (refine sw_pu (hc := hpo) (hX := fun _ _ => trivial) (h := ?_)) | (refine sw_stSub ({ D with target := idA21 p } : ActD).cells (h := ?_)) | ((fail_if_success (refine sw_chk (h := ?_))); refine sw_guard (ht := ?_) (hf := ?_); all_goals (intro hx_; first | have := of_decide_eq_true hx_ | have := of_decide_eq_false hx_ | skip)) | (refine cw_cond (ht := ?_) (hf := ?_); all_goals (intro hx_; first | have := of_decide_eq_true hx_ | have := of_decide_eq_false hx_ | skip)))
  exact ends_ret (res_cell rfl rfl (by (repeat (first | exact List.mem_cons_self | apply List.mem_cons_of_mem))) (by rfl)) rfl
theorem draftO_pu (c : ChainD) (w : WishD) (s : SlV) (ks : List ByteArray) (p : Nat) (hks : 0 < ks.length) (hp : pickV w.what (ks.length : Nat) = (p : Int)) (hpl : p < ks.length) (hk : w.do_ = 6) (x : ByteArray) (hx : ks[p]? = some x) :
    Pu Tryz.prog 28 #[c.v, w.v, s.v] (fun w => Strs w s ks ∧ Glob w) ({ draftV c w.do_ w.time with object := x } : ActD).v := by
  refine pu_of_cw (args := [_, _, _]) _ Tryz.func28 rfl Tryz.ntmps28 rfl fun av bor w0 => ?_
  refine cw_know (p := s.n = ks.length ∧ s.n ≤ maxLen ∧ (0 < ks.length → s.p.isSome = true)) (fun w h => ⟨h.1.len_, Nat.le_trans (RowsD.cap h.1) (RowsD.max h.1), h.1.some_⟩) fun ⟨hl, hm, hsp⟩ => ?_
  simp only [maxLen] at hm
  have hsp' := hsp hks
  have hpk := pick_pu w.what s.n (by omega) (by omega)
  rw [show pickV w.what (s.n : Nat) = (p : Int) from by rw [hl]; exact hp] at hpk
  have hpo := posting_pu w.do_
  have g7 : decide (7 ≤ w.do_) = false := decide_eq_false (by omega)
  have n2 : decide (w.do_ = 2) = false := decide_eq_false (by omega)
  have n3 : decide (w.do_ = 3) = false := decide_eq_false (by omega)
  have n4 : decide (w.do_ = 4) = false := decide_eq_false (by omega)
  have n5 : decide (w.do_ = 5) = false := decide_eq_false (by omega)
  have n6 : decide (w.do_ = 6) = true := decide_eq_true (by omega)
  have n14 : decide (w.do_ = 14) = false := decide_eq_false (by omega)
  have n12 : decide (w.do_ = 12) = false := decide_eq_false (by omega)
  have hP : postK w.do_ = false := by rw [postK, decide_eq_false (by omega), n2, n3]; rfl
  rw [hP] at hpo
  have hdr := draft_pu c w.do_ w.time
  generalize hD : draftV c w.do_ w.time = D at *
  have hgt : decide ((0 : Int) < (s.n : Int)) = true := decide_eq_true (by omega)
  repeat' (first | apply sw_nil | apply cw_seq | apply cw_reg | refine sy_move (h := ?_) | refine sy_assign (h := ?_) | refine sy_fld (h := ?_) | refine sy_ld (h := ?_) | refine sy_ldAll (h := ?_) | refine sy_pick_t (h := ?_) | refine sy_pick_f (h := ?_) | refine sy_eql (h := ?_) | refine sy_leq (h := ?_) | refine sy_gtr (h := ?_) | refine sy_geq (h := ?_) | refine sy_seql (h := ?_) | refine sy_slen (h := ?_) | refine sy_len (h := ?_) | refine sw_skipT (h := ?_) | refine sw_skipF (h := ?_) | refine sw_skipU (h := ?_) | refine sw_alloc (h := fun _ => ?_) | refine sw_box (h := fun _ => ?_) | refine sw_st1 (h := ?_) | refine sw_stAll (h := ?_) | refine cw_cond_t (ht := ?_) | refine cw_cond_f (hf := ?_) | apply cw_skip | apply cw_block | apply cw_ret | apply cw_exit | refine sy_beql (h := ?_) | refine sy_arrA (h := ?_) | refine sy_strI (h := ?_) | (refine sw_pu (hc := hdr) (hX := fun _ _ => trivial) (h := ?_)) | (refine sw_pu (hc := hpk) (hX := fun _ _ => trivial) (h := ?_)) | (refine sy_idxX (q := p) (h := ?_)) | (refine sy_ldX (q := p) (u := .string x) (hF := fun w h => h.1.at_ hx) (h := ?_)) | (refine sw_pu (hc := hpo) (hX := fun _ _ => trivial) (h := ?_)) | (refine sw_stSub ({ D with object := x } : ActD).cells (h := ?_)) | ((fail_if_success (refine sw_chk (h := ?_))); refine sw_guard (ht := ?_) (hf := ?_); all_goals (intro hx_; first | have := of_decide_eq_true hx_ | have := of_decide_eq_false hx_ | skip)) | (refine cw_cond (ht := ?_) (hf := ?_); all_goals (intro hx_; first | have := of_decide_eq_true hx_ | have := of_decide_eq_false hx_ | skip)))
  exact ends_ret (res_cell rfl rfl (by (repeat (first | exact List.mem_cons_self | apply List.mem_cons_of_mem))) (by rfl)) rfl
end Go.Proofs.YtepckpofhegmiaaGreatDoor
