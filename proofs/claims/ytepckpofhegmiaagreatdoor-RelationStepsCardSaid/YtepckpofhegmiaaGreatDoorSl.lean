/- Contract: act.Sign. -/
import Derived.Test.YtepckpofhegmiaaGreatDoorSk
import Derived.Test.YtepckpofhegmiaaGreatDoorMe1
set_option linter.unusedVariables false
set_option linter.unusedSimpArgs false
namespace Go.Proofs.YtepckpofhegmiaaGreatDoor
open Go Go.Proofs Sy
def ActD.sig (a : ActD) (g : SgD) : ActD := { a with e := g.e, s := g.s }
def actSignV (k : KyD) (a : ActD) : ActD := bif rightB (a.sig SgD.zero) && rightK k then a.sig (signV k (coreV (a.sig SgD.zero))) else ActD.zero
theorem rng_sig {a : ActD} (h : a.Rng) {g : SgD} (h1 : g.e < 9223372036854775808) (h2 : g.s < 9223372036854775808) : (a.sig g).Rng := by
  obtain ⟨⟨i1, i2, i3, i4, i5, i6, i7, i8, i9⟩, h2', h3, h4⟩ := h
  exact ⟨⟨i1, i2, i3, i4, i5, i6, i7, h1, h2⟩, h2', h3, h4⟩
theorem signV_rng (k : KyD) (msg : ByteArray) : (signV k msg).e < 9223372036854775808 ∧ (signV k msg).s < 9223372036854775808 := by
  rw [signV]
  cases rightK k with
  | false => exact ⟨(show (0 : Int) < 9223372036854775808 by decide), (show (0 : Int) < 9223372036854775808 by decide)⟩
  | true =>
    have h1 := chalN_lt (expV 37 (nonceN k.s msg)) k.p.toNat msg
    have h2 := Nat.mod_lt (nonceN k.s msg + sigE k msg * k.s.toNat % 2305843009213693950) (show 2305843009213693950 > 0 by decide)
    refine ⟨?_, ?_⟩
    · show ((sigE k msg : Nat) : Int) < _
      unfold sigE
      omega
    · show ((sigS k msg : Nat) : Int) < _
      unfold sigS
      omega
def ActTo (b : ActD) (u : Value) (X : World → Prop) : Prop := ∃ s1 s2 : SlV, u = (b.re s1 s2).v ∧ s1.n = b.to.n ∧ s2.n = b.wraps.n ∧ ∀ w, X w → (b.re s1 s2).at_ w
set_option maxRecDepth 20000 in
set_option maxHeartbeats 2000000 in
theorem actSign_mk (k : KyD) (a : ActD) (hr : a.Rng) (hs : a.Sm) : Mk Tryz.prog 26 #[k.v, a.v] (fun w => a.at_ w ∧ Glob w) (ActTo (actSignV k a)) := by
  refine mk_of_cw2 (args := [_, _]) _ Tryz.func26 rfl Tryz.ntmps26 rfl fun av bor w0 => ?_
  have hr0 : (a.sig SgD.zero).Rng := rng_sig hr (by decide) (by decide)
  have hri := actRight_pu (a.sig SgD.zero)
  have hrk := signRight_pu k
  cases hb : rightB (a.sig SgD.zero) with
  | false =>
    rw [hb] at hri
    rw [show actSignV k a = ActD.zero from by rw [actSignV, hb]; rfl]
    repeat' (first | apply sw_nil | apply cw_seq | apply cw_reg | refine sy_move (h := ?_) | refine sy_assign (h := ?_) | refine sy_fld (h := ?_) | refine sy_ld (h := ?_) | refine sy_ldAll (h := ?_) | refine sy_pick_t (h := ?_) | refine sy_pick_f (h := ?_) | refine sy_not (h := ?_) | refine sw_skipT (h := ?_) | refine sw_skipF (h := ?_) | refine sw_skipU (h := ?_) | refine sw_alloc (h := fun _ => ?_) | refine sw_box (h := fun _ => ?_) | refine sw_st1 (h := ?_) | refine sw_stAll (h := ?_) | refine cw_cond_t (ht := ?_) | refine cw_cond_f (hf := ?_) | apply cw_skip | apply cw_block | apply cw_ret | apply cw_exit | refine sy_arrA (h := ?_) | refine sy_strI (h := ?_) | (refine sy_build (cs := SgD.zero.cells) (hf := by rfl) (h := ?_)) | (refine sw_stSub (a.sig SgD.zero).cells (h := ?_)) | (refine sw_pu (hc := hri) (hX := fun _ h => h.1) (h := ?_)) | (refine sy_build (cs := ActD.zero.cells) (hf := by rfl) (h := ?_)) | ((fail_if_success (refine sw_chk (h := ?_))); refine sw_guard (ht := ?_) (hf := ?_); all_goals (intro hx_; first | have := of_decide_eq_true hx_ | have := of_decide_eq_false hx_ | skip)) | (refine cw_cond (ht := ?_) (hf := ?_); all_goals (intro hx_; first | have := of_decide_eq_true hx_ | have := of_decide_eq_false hx_ | skip)))
    refine ends_ret (res_cell rfl rfl (by (repeat (first | exact List.mem_cons_self | apply List.mem_cons_of_mem))) (by rfl)) ⟨⟨none, 0, 0⟩, ⟨none, 0, 0⟩, rfl, rfl, rfl, fun w _ => ⟨rowsD_nil w 1, rowsD_nil w 5⟩⟩
  | true =>
    rw [hb] at hri
    cases hk : rightK k with
    | false =>
      rw [hk] at hrk
      rw [show actSignV k a = ActD.zero from by rw [actSignV, hb, hk]; rfl]
      repeat' (first | apply sw_nil | apply cw_seq | apply cw_reg | refine sy_move (h := ?_) | refine sy_assign (h := ?_) | refine sy_fld (h := ?_) | refine sy_ld (h := ?_) | refine sy_ldAll (h := ?_) | refine sy_pick_t (h := ?_) | refine sy_pick_f (h := ?_) | refine sy_not (h := ?_) | refine sw_skipT (h := ?_) | refine sw_skipF (h := ?_) | refine sw_skipU (h := ?_) | refine sw_alloc (h := fun _ => ?_) | refine sw_box (h := fun _ => ?_) | refine sw_st1 (h := ?_) | refine sw_stAll (h := ?_) | refine cw_cond_t (ht := ?_) | refine cw_cond_f (hf := ?_) | apply cw_skip | apply cw_block | apply cw_ret | apply cw_exit | refine sy_arrA (h := ?_) | refine sy_strI (h := ?_) | (refine sy_build (cs := SgD.zero.cells) (hf := by rfl) (h := ?_)) | (refine sw_stSub (a.sig SgD.zero).cells (h := ?_)) | (refine sw_pu (hc := hri) (hX := fun _ h => h.1) (h := ?_)) | (refine sw_pu (hc := hrk) (hX := fun _ _ => trivial) (h := ?_)) | (refine sy_build (cs := ActD.zero.cells) (hf := by rfl) (h := ?_)) | ((fail_if_success (refine sw_chk (h := ?_))); refine sw_guard (ht := ?_) (hf := ?_); all_goals (intro hx_; first | have := of_decide_eq_true hx_ | have := of_decide_eq_false hx_ | skip)) | (refine cw_cond (ht := ?_) (hf := ?_); all_goals (intro hx_; first | have := of_decide_eq_true hx_ | have := of_decide_eq_false hx_ | skip)))
      refine ends_ret (res_cell rfl rfl (by (repeat (first | exact List.mem_cons_self | apply List.mem_cons_of_mem))) (by rfl)) ⟨⟨none, 0, 0⟩, ⟨none, 0, 0⟩, rfl, rfl, rfl, fun w _ => ⟨rowsD_nil w 1, rowsD_nil w 5⟩⟩
    | true =>
      rw [hk] at hrk
      rw [show actSignV k a = a.sig (signV k (coreV (a.sig SgD.zero))) from by rw [actSignV, hb, hk]; rfl]
      have hco := core_pu (a.sig SgD.zero) (fun h => fit_of_right hr0 h)
      rw [hb] at hco
      have hcs := coreV_size (fit_of_right hr0 hb)
      have hsi := sign_pu k (coreV (a.sig SgD.zero)) (by omega)
      generalize hg : signV k (coreV (a.sig SgD.zero)) = g at *
      repeat' (first | apply sw_nil | apply cw_seq | apply cw_reg | refine sy_move (h := ?_) | refine sy_assign (h := ?_) | refine sy_fld (h := ?_) | refine sy_ld (h := ?_) | refine sy_ldAll (h := ?_) | refine sy_pick_t (h := ?_) | refine sy_pick_f (h := ?_) | refine sy_not (h := ?_) | refine sw_skipT (h := ?_) | refine sw_skipF (h := ?_) | refine sw_skipU (h := ?_) | refine sw_alloc (h := fun _ => ?_) | refine sw_box (h := fun _ => ?_) | refine sw_st1 (h := ?_) | refine sw_stAll (h := ?_) | refine cw_cond_t (ht := ?_) | refine cw_cond_f (hf := ?_) | apply cw_skip | apply cw_block | apply cw_ret | apply cw_exit | refine sy_arrA (h := ?_) | refine sy_strI (h := ?_) | (refine sy_build (cs := SgD.zero.cells) (hf := by rfl) (h := ?_)) | (refine sw_stSub (a.sig SgD.zero).cells (h := ?_)) | (refine sw_pu (hc := hri) (hX := fun _ h => h.1) (h := ?_)) | (refine sw_pu (hc := hrk) (hX := fun _ _ => trivial) (h := ?_)) | ((fail_if_success (refine sw_chk (h := ?_))); refine sw_guard (ht := ?_) (hf := ?_); all_goals (intro hx_; first | have := of_decide_eq_true hx_ | have := of_decide_eq_false hx_ | skip)) | (refine cw_cond (ht := ?_) (hf := ?_); all_goals (intro hx_; first | have := of_decide_eq_true hx_ | have := of_decide_eq_false hx_ | skip)))
      rename_i b2 b3 b4
      (refine cw_draw [cel b2 75 k.cells] (fun w => a.at_ w ∧ Glob w) (by kernel_rfl) ?_)
      all_goals (refine aw_take 0 (h := ?_))
      all_goals (refine aw_step 1 (h := ?_); (first | (refine sy_ld (h := ?_)) | (refine sy_ldAll (h := ?_))); apply sw_nil; refine aw_fin (h := ?_))
      all_goals (refine aw_step 2 (h := ?_); (first | (refine sw_pu (hc := hco) (hX := fun _ h => h.1) (h := ?_)) | (refine sw_pu (hc := hsi) (hX := fun _ h => h.2) (h := ?_))); apply sw_nil; refine aw_fin (h := ?_))
      all_goals (refine aw_step 3 (h := ?_); (first | (refine sw_pu (hc := hco) (hX := fun _ h => h.1) (h := ?_)) | (refine sw_pu (hc := hsi) (hX := fun _ h => h.2) (h := ?_))); apply sw_nil; refine aw_fin (h := ?_))
      all_goals (refine aw_take 4 (h := ?_))
      all_goals (refine aw_step 5 (h := ?_); (first | (refine sw_st1 (h := ?_)) | (refine sw_stAll (h := ?_)) | (refine sw_stSub (a.sig g).cells (h := ?_))); apply sw_nil; refine aw_fin (h := ?_))
      all_goals (refine aw_done (h := ?_))
      repeat' (first | apply sw_nil | apply cw_seq | apply cw_reg | refine sy_move (h := ?_) | refine sy_assign (h := ?_) | refine sy_fld (h := ?_) | refine sy_ld (h := ?_) | refine sy_ldAll (h := ?_) | refine sy_pick_t (h := ?_) | refine sy_pick_f (h := ?_) | refine sy_not (h := ?_) | refine sw_skipT (h := ?_) | refine sw_skipF (h := ?_) | refine sw_skipU (h := ?_) | refine sw_alloc (h := fun _ => ?_) | refine sw_box (h := fun _ => ?_) | refine sw_st1 (h := ?_) | refine sw_stAll (h := ?_) | refine cw_cond_t (ht := ?_) | refine cw_cond_f (hf := ?_) | apply cw_skip | apply cw_block | apply cw_ret | apply cw_exit | refine sy_arrA (h := ?_) | refine sy_strI (h := ?_) | ((fail_if_success (refine sw_chk (h := ?_))); refine sw_guard (ht := ?_) (hf := ?_); all_goals (intro hx_; first | have := of_decide_eq_true hx_ | have := of_decide_eq_false hx_ | skip)) | (refine cw_cond (ht := ?_) (hf := ?_); all_goals (intro hx_; first | have := of_decide_eq_true hx_ | have := of_decide_eq_false hx_ | skip)))
      refine sw_mk (hc := cloneS_mk a.to (strs a.toL) hs.to (fun cs hcs => by simp only [strs, List.mem_map] at hcs; obtain ⟨x, _, rfl⟩ := hcs; rfl)) (hX := fun w h => h.1.1) (h := fun v1 X1 h1 => ?_)
      obtain ⟨s1, rfl, hn1, hw1⟩ := h1
      repeat' (first | apply sw_nil | apply cw_seq | apply cw_reg | refine sy_move (h := ?_) | refine sy_assign (h := ?_) | refine sy_fld (h := ?_) | refine sy_ld (h := ?_) | refine sy_ldAll (h := ?_) | refine sy_pick_t (h := ?_) | refine sy_pick_f (h := ?_) | refine sy_not (h := ?_) | refine sw_skipT (h := ?_) | refine sw_skipF (h := ?_) | refine sw_skipU (h := ?_) | refine sw_alloc (h := fun _ => ?_) | refine sw_box (h := fun _ => ?_) | refine sw_st1 (h := ?_) | refine sw_stAll (h := ?_) | refine cw_cond_t (ht := ?_) | refine cw_cond_f (hf := ?_) | apply cw_skip | apply cw_block | apply cw_ret | apply cw_exit | refine sy_arrA (h := ?_) | refine sy_strI (h := ?_) | ((fail_if_success (refine sw_chk (h := ?_))); refine sw_guard (ht := ?_) (hf := ?_); all_goals (intro hx_; first | have := of_decide_eq_true hx_ | have := of_decide_eq_false hx_ | skip)) | (refine cw_cond (ht := ?_) (hf := ?_); all_goals (intro hx_; first | have := of_decide_eq_true hx_ | have := of_decide_eq_false hx_ | skip)))
      refine sw_mk (hc := cloneW_mk a.wraps (a.wrapsL.map WrapD.cells) hs.wraps (fun cs hcs => by simp only [List.mem_map] at hcs; obtain ⟨x, _, rfl⟩ := hcs; rfl)) (hX := fun w h => h.1.1.2) (h := fun v2 X2 h2 => ?_)
      obtain ⟨s2, rfl, hn2, hw2⟩ := h2
      repeat' (first | apply sw_nil | apply cw_seq | apply cw_reg | refine sy_move (h := ?_) | refine sy_assign (h := ?_) | refine sy_fld (h := ?_) | refine sy_ld (h := ?_) | refine sy_ldAll (h := ?_) | refine sy_pick_t (h := ?_) | refine sy_pick_f (h := ?_) | refine sy_not (h := ?_) | refine sw_skipT (h := ?_) | refine sw_skipF (h := ?_) | refine sw_skipU (h := ?_) | refine sw_alloc (h := fun _ => ?_) | refine sw_box (h := fun _ => ?_) | refine sw_st1 (h := ?_) | refine sw_stAll (h := ?_) | refine cw_cond_t (ht := ?_) | refine cw_cond_f (hf := ?_) | apply cw_skip | apply cw_block | apply cw_ret | apply cw_exit | refine sy_arrA (h := ?_) | refine sy_strI (h := ?_) | ((fail_if_success (refine sw_chk (h := ?_))); refine sw_guard (ht := ?_) (hf := ?_); all_goals (intro hx_; first | have := of_decide_eq_true hx_ | have := of_decide_eq_false hx_ | skip)) | (refine cw_cond (ht := ?_) (hf := ?_); all_goals (intro hx_; first | have := of_decide_eq_true hx_ | have := of_decide_eq_false hx_ | skip)))
      refine ends_ret (res_cell rfl rfl (by (repeat (first | exact List.mem_cons_self | apply List.mem_cons_of_mem))) (by rfl)) ⟨s1, s2, rfl, ?_, ?_, fun w h => ⟨hw1 w h.1.1.2, hw2 w h.1.2⟩⟩
      · show s1.n = a.to.n
        rw [hn1, hr.to_len]
        simp [strs]
      · show s2.n = a.wraps.n
        rw [hn2, hr.wraps_len]
        simp
end Go.Proofs.YtepckpofhegmiaaGreatDoor
