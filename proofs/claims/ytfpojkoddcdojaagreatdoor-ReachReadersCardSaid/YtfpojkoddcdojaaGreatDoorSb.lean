/- Package agoralaw25: the examples. -/
import Derived.Test.YtfpojkoddcdojaaGreatDoorRc
set_option linter.unusedVariables false
set_option linter.unusedSimpArgs false
namespace Go.Proofs.YtfpojkoddcdojaaGreatDoor
open Go Go.Proofs Sy
def exP1 : ActD := { ActD.zero with kind := 1 }
def exP2 : ActD := { ActD.zero with kind := 1, scope := 1 }
def exP3 : ActD := { ActD.zero with kind := 5 }
def exL : List ActD := [exP1, exP2, exP3]
def chainR (b : Nat) : ChainD := ⟨idA, ⟨some ⟨b, 0, none⟩, 3, 3⟩, ⟨none, 0, 0⟩, ⟨#[]⟩, 0, false, exL⟩
theorem exL_mem {P : ActD → Prop} (h1 : P exP1) (h2 : P exP2) (h3 : P exP3) : ∀ a ∈ exL, P a := by
  intro a ha
  simp only [exL, List.mem_cons, List.not_mem_nil, or_false] at ha
  rcases ha with rfl | rfl | rfl
  · exact h1
  · exact h2
  · exact h3
theorem exL_ok : ActsOk exL := ⟨exL_mem ⟨by decide, fun w hw => absurd hw (by show ¬ w ∈ []; simp), rfl, rfl⟩ ⟨by decide, fun w hw => absurd hw (by show ¬ w ∈ []; simp), rfl, rfl⟩ ⟨by decide, fun w hw => absurd hw (by show ¬ w ∈ []; simp), rfl, rfl⟩,
  exL_mem ⟨by decide, by decide, by decide⟩ ⟨by decide, by decide, by decide⟩ ⟨by decide, by decide, by decide⟩⟩
theorem chainR_at {b : Nat} {w : World} (h : Glob w) (hc : (cel b 49 (exL.map ActD.cells).flatten).F w) : XC (chainR b) w :=
  ⟨⟨rows_of_cel hc rfl (by decide) (cells_len exL), exL_mem ⟨rowsD_nil w 1, rowsD_nil w 5⟩ ⟨rowsD_nil w 1, rowsD_nil w 5⟩ ⟨rowsD_nil w 1, rowsD_nil w 5⟩⟩, h⟩
theorem small25_pu : Pu Tryz.prog 31 #[] Glob (.bool true) := by
  refine pu_of_cw (args := []) _ Tryz.func31 rfl Tryz.ntmps31 rfl fun av bor w0 => ?_
  repeat' (first | refine sy_build (cs := exP1.cells) (hf := by rfl) (h := ?_) | refine sy_build (cs := exP2.cells) (hf := by rfl) (h := ?_) | refine sy_build (cs := exP3.cells) (hf := by rfl) (h := ?_) | apply sw_nil | apply cw_seq | apply cw_reg | refine sy_move (h := ?_) | refine sy_assign (h := ?_) | refine sy_nilCheck (h := ?_) | refine sy_fld (h := ?_) | refine sy_ld (h := ?_) | refine sy_ldAll (h := ?_) | refine sy_pick_t (h := ?_) | refine sy_pick_f (h := ?_) | refine sy_not (h := ?_) | refine sy_eql (h := ?_) | refine sy_neq (h := ?_) | refine sy_lss (h := ?_) | refine sy_leq (h := ?_) | refine sy_gtr (h := ?_) | refine sy_geq (h := ?_) | refine sy_seql (h := ?_) | refine sy_sneq (h := ?_) | refine sy_slen (h := ?_) | refine sy_len (h := ?_) | refine sy_extract (h := ?_) | refine sy_add (h := ?_) | refine sy_sub (h := ?_) | refine sw_skipT (h := ?_) | refine sw_skipF (h := ?_) | refine sw_skipU (h := ?_) | refine sw_alloc (h := fun _ => ?_) | refine sw_box (h := fun _ => ?_) | refine sw_rangeS (h := fun _ => ?_) | refine sw_nextS (h1 := fun _ => ?_) (h2 := fun _ => ?_) | refine sw_bsl (h := fun _ => ?_) | refine sw_st1 (h := ?_) | refine sw_stAll (h := ?_) | refine cw_cond_t (ht := ?_) | refine cw_cond_f (hf := ?_) | apply cw_skip | apply cw_block | apply cw_ret | apply cw_exit | refine sy_and (h := ?_) | refine sy_or (h := ?_) | refine sy_xor (h := ?_) | refine sy_andNot (h := ?_) | refine sy_xorU (h := ?_) | refine sy_shl (h := ?_) | refine sy_shr (h := ?_) | refine sy_mul (h := ?_) | refine sy_int (h := ?_) | refine sy_beql (h := ?_) | refine sy_bneq (h := ?_) | refine sy_min (h := ?_) | refine sy_max (h := ?_) | refine sy_arrA (h := ?_) | refine sy_strI (h := ?_) | refine sw_bslS (vs := [.agg exP1.cells.toArray, .agg exP2.cells.toArray, .agg exP3.cells.toArray]) (css := (exL.map ActD.cells).flatten) (hsz := by rfl) (hcs := by rfl) (h := fun bR => ?_); refine sw_give ?_ | refine sy_build (h := ?_) | ((fail_if_success (refine sw_chk (h := ?_))); refine sw_guard (ht := ?_) (hf := ?_); all_goals (intro hx_; first | have := of_decide_eq_true hx_ | have := of_decide_eq_false hx_ | skip)) | (refine cw_cond (ht := ?_) (hf := ?_); all_goals (intro hx_; first | have := of_decide_eq_true hx_ | have := of_decide_eq_false hx_ | skip)))
  rename_i b2
  have r0 := read_mk (chainR bR) exL_ok (by show 3 ≤ _; omega) 0
  have r1 := read_mk (chainR bR) exL_ok (by show 3 ≤ _; omega) 1
  have r2 := read_mk (chainR bR) exL_ok (by show 3 ≤ _; omega) 2
  rw [show readB (chainR bR) 0 = false from by kernel_rfl, show readL (chainR bR) 0 = [] from by kernel_rfl] at r0
  rw [show readB (chainR bR) 1 = true from by kernel_rfl, show readL (chainR bR) 1 = [idA] from by kernel_rfl] at r1
  rw [show readB (chainR bR) 2 = true from by kernel_rfl, show readL (chainR bR) 2 = [] from by kernel_rfl] at r2
  refine sw_mk (hc := r0) (hX := fun w h => chainR_at h.1 h.2) (h := fun v1 X1 h1 => ?_)
  obtain ⟨s1, rfl, hs1⟩ := h1
  refine sw_know (p := s1.n = 0) (fun w h => RowsD.len (hs1 w h.2)) fun hn1 => ?_
  repeat' (first | apply sw_nil | apply cw_seq | apply cw_reg | refine sy_move (h := ?_) | refine sy_assign (h := ?_) | refine sy_nilCheck (h := ?_) | refine sy_fld (h := ?_) | refine sy_ld (h := ?_) | refine sy_ldAll (h := ?_) | refine sy_pick_t (h := ?_) | refine sy_pick_f (h := ?_) | refine sy_not (h := ?_) | refine sy_eql (h := ?_) | refine sy_neq (h := ?_) | refine sy_lss (h := ?_) | refine sy_leq (h := ?_) | refine sy_gtr (h := ?_) | refine sy_geq (h := ?_) | refine sy_seql (h := ?_) | refine sy_sneq (h := ?_) | refine sy_slen (h := ?_) | refine sy_len (h := ?_) | refine sy_extract (h := ?_) | refine sy_add (h := ?_) | refine sy_sub (h := ?_) | refine sw_skipT (h := ?_) | refine sw_skipF (h := ?_) | refine sw_skipU (h := ?_) | refine sw_alloc (h := fun _ => ?_) | refine sw_box (h := fun _ => ?_) | refine sw_rangeS (h := fun _ => ?_) | refine sw_nextS (h1 := fun _ => ?_) (h2 := fun _ => ?_) | refine sw_bsl (h := fun _ => ?_) | refine sw_st1 (h := ?_) | refine sw_stAll (h := ?_) | refine cw_cond_t (ht := ?_) | refine cw_cond_f (hf := ?_) | apply cw_skip | apply cw_block | apply cw_ret | apply cw_exit | refine sy_and (h := ?_) | refine sy_or (h := ?_) | refine sy_xor (h := ?_) | refine sy_andNot (h := ?_) | refine sy_xorU (h := ?_) | refine sy_shl (h := ?_) | refine sy_shr (h := ?_) | refine sy_mul (h := ?_) | refine sy_int (h := ?_) | refine sy_beql (h := ?_) | refine sy_bneq (h := ?_) | refine sy_min (h := ?_) | refine sy_max (h := ?_) | refine sy_arrA (h := ?_) | refine sy_strI (h := ?_))
  refine sw_mk (hc := r1) (hX := fun w h => chainR_at h.1.1 h.1.2) (h := fun v2 X2 h2 => ?_)
  obtain ⟨s2, rfl, hs2⟩ := h2
  repeat' (first | apply sw_nil | apply cw_seq | apply cw_reg | refine sy_move (h := ?_) | refine sy_assign (h := ?_) | refine sy_nilCheck (h := ?_) | refine sy_fld (h := ?_) | refine sy_ld (h := ?_) | refine sy_ldAll (h := ?_) | refine sy_pick_t (h := ?_) | refine sy_pick_f (h := ?_) | refine sy_not (h := ?_) | refine sy_eql (h := ?_) | refine sy_neq (h := ?_) | refine sy_lss (h := ?_) | refine sy_leq (h := ?_) | refine sy_gtr (h := ?_) | refine sy_geq (h := ?_) | refine sy_seql (h := ?_) | refine sy_sneq (h := ?_) | refine sy_slen (h := ?_) | refine sy_len (h := ?_) | refine sy_extract (h := ?_) | refine sy_add (h := ?_) | refine sy_sub (h := ?_) | refine sw_skipT (h := ?_) | refine sw_skipF (h := ?_) | refine sw_skipU (h := ?_) | refine sw_alloc (h := fun _ => ?_) | refine sw_box (h := fun _ => ?_) | refine sw_rangeS (h := fun _ => ?_) | refine sw_nextS (h1 := fun _ => ?_) (h2 := fun _ => ?_) | refine sw_bsl (h := fun _ => ?_) | refine sw_st1 (h := ?_) | refine sw_stAll (h := ?_) | refine cw_cond_t (ht := ?_) | refine cw_cond_f (hf := ?_) | apply cw_skip | apply cw_block | apply cw_ret | apply cw_exit | refine sy_and (h := ?_) | refine sy_or (h := ?_) | refine sy_xor (h := ?_) | refine sy_andNot (h := ?_) | refine sy_xorU (h := ?_) | refine sy_shl (h := ?_) | refine sy_shr (h := ?_) | refine sy_mul (h := ?_) | refine sy_int (h := ?_) | refine sy_beql (h := ?_) | refine sy_bneq (h := ?_) | refine sy_min (h := ?_) | refine sy_max (h := ?_) | refine sy_arrA (h := ?_) | refine sy_strI (h := ?_))
  refine sw_mk (hc := r2) (hX := fun w h => chainR_at h.1.1.1 h.1.1.2) (h := fun v3 X3 h3 => ?_)
  obtain ⟨s3, rfl, hs3⟩ := h3
  refine sw_know (p := s3.n = 0) (fun w h => RowsD.len (hs3 w h.2)) fun hn3 => ?_
  have hsa : ∀ r : SlV, Pu Tryz.prog 30 #[s2.v, r.v] (fun w => Strs w s2 [idA] ∧ Strs w r [idA]) (.bool true) := fun r => by
    have := same21_pu s2 r [idA] [idA]
    rw [show eqL [idA] [idA] = true from by decide +kernel] at this
    exact this
  have m0 := may_pu (chainR bR) exL_ok (by show 3 ≤ _; omega) 0 ⟨#[]⟩
  have m1 := may_pu (chainR bR) exL_ok (by show 3 ≤ _; omega) 1 ⟨#[]⟩
  have m2 := may_pu (chainR bR) exL_ok (by show 3 ≤ _; omega) 1 idA
  have m3 := may_pu (chainR bR) exL_ok (by show 3 ≤ _; omega) 2 idA
  have m4 := may_pu (chainR bR) exL_ok (by show 3 ≤ _; omega) 3 idA
  have m5 := may_pu (chainR bR) exL_ok (by show 3 ≤ _; omega) (-1) idA
  rw [show mayV (chainR bR) 0 ⟨#[]⟩ = true from by kernel_rfl] at m0
  rw [show mayV (chainR bR) 1 ⟨#[]⟩ = false from by kernel_rfl] at m1
  rw [show mayV (chainR bR) 1 idA = true from by kernel_rfl] at m2
  rw [show mayV (chainR bR) 2 idA = false from by kernel_rfl] at m3
  rw [show mayV (chainR bR) 3 idA = false from by kernel_rfl] at m4
  rw [show mayV (chainR bR) (-1) idA = false from by kernel_rfl] at m5
  repeat' (first | refine sy_eqlT (hab := by omega) (h := ?_) | (refine sw_bsl (len := 1) (vs := [encB idA]) (h := fun b3 => ?_); refine sw_give ?_; refine sw_pu (hc := hsa ⟨some ⟨b3, 0, none⟩, 1, 1⟩) (hX := fun w h => ⟨hs2 w h.1.1.2, strs_of_cel (l := [idA]) h.2 (by decide)⟩) (h := ?_)) | apply sw_nil | apply cw_seq | apply cw_reg | refine sy_move (h := ?_) | refine sy_assign (h := ?_) | refine sy_nilCheck (h := ?_) | refine sy_fld (h := ?_) | refine sy_ld (h := ?_) | refine sy_ldAll (h := ?_) | refine sy_pick_t (h := ?_) | refine sy_pick_f (h := ?_) | refine sy_not (h := ?_) | refine sy_eql (h := ?_) | refine sy_neq (h := ?_) | refine sy_lss (h := ?_) | refine sy_leq (h := ?_) | refine sy_gtr (h := ?_) | refine sy_geq (h := ?_) | refine sy_seql (h := ?_) | refine sy_sneq (h := ?_) | refine sy_slen (h := ?_) | refine sy_len (h := ?_) | refine sy_extract (h := ?_) | refine sy_add (h := ?_) | refine sy_sub (h := ?_) | refine sw_skipT (h := ?_) | refine sw_skipF (h := ?_) | refine sw_skipU (h := ?_) | refine sw_alloc (h := fun _ => ?_) | refine sw_box (h := fun _ => ?_) | refine sw_rangeS (h := fun _ => ?_) | refine sw_nextS (h1 := fun _ => ?_) (h2 := fun _ => ?_) | refine sw_bsl (h := fun _ => ?_) | refine sw_st1 (h := ?_) | refine sw_stAll (h := ?_) | refine cw_cond_t (ht := ?_) | refine cw_cond_f (hf := ?_) | apply cw_skip | apply cw_block | apply cw_ret | apply cw_exit | refine sy_and (h := ?_) | refine sy_or (h := ?_) | refine sy_xor (h := ?_) | refine sy_andNot (h := ?_) | refine sy_xorU (h := ?_) | refine sy_shl (h := ?_) | refine sy_shr (h := ?_) | refine sy_mul (h := ?_) | refine sy_int (h := ?_) | refine sy_beql (h := ?_) | refine sy_bneq (h := ?_) | refine sy_min (h := ?_) | refine sy_max (h := ?_) | refine sy_arrA (h := ?_) | refine sy_strI (h := ?_) | (refine sw_pu (hc := m0) (hX := fun w h => chainR_at h.1.1.1.1.1 h.1.1.1.1.2) (h := ?_)) | (refine sw_pu (hc := m1) (hX := fun w h => chainR_at h.1.1.1.1.1 h.1.1.1.1.2) (h := ?_)) | (refine sw_pu (hc := m2) (hX := fun w h => chainR_at h.1.1.1.1.1 h.1.1.1.1.2) (h := ?_)) | (refine sw_pu (hc := m3) (hX := fun w h => chainR_at h.1.1.1.1.1 h.1.1.1.1.2) (h := ?_)) | (refine sw_pu (hc := m4) (hX := fun w h => chainR_at h.1.1.1.1.1 h.1.1.1.1.2) (h := ?_)) | (refine sw_pu (hc := m5) (hX := fun w h => chainR_at h.1.1.1.1.1 h.1.1.1.1.2) (h := ?_)) | ((fail_if_success (refine sw_chk (h := ?_))); refine sw_guard (ht := ?_) (hf := ?_); all_goals (intro hx_; first | have := of_decide_eq_true hx_ | have := of_decide_eq_false hx_ | skip)) | (refine cw_cond (ht := ?_) (hf := ?_); all_goals (intro hx_; first | have := of_decide_eq_true hx_ | have := of_decide_eq_false hx_ | skip)))
  · apply ends_ret; apply res_tmp; rfl; rfl
    rfl
end Go.Proofs.YtfpojkoddcdojaaGreatDoor
