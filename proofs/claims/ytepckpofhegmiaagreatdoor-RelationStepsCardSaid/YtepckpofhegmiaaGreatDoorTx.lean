/- agoralaw21.small: the walk, and that it is true. -/
import Derived.Test.YtepckpofhegmiaaGreatDoorTt
import Derived.Test.YtepckpofhegmiaaGreatDoorTw
import Derived.Test.YtepckpofhegmiaaGreatDoorMf
import Derived.Test.YtepckpofhegmiaaGreatDoorRt
set_option linter.unusedVariables false
set_option linter.unusedSimpArgs false
namespace Go.Proofs.YtepckpofhegmiaaGreatDoor
open Go Go.Proofs Sy
theorem chains_ok {L : List ChainD} {m : Nat} (h : ∀ c ∈ L, ActsOk c.actsL ∧ c.actsL.length ≤ m) : ∀ c ∈ L, ActsOk c.actsL := fun c hc => (h c hc).1
theorem chains_ids {L : List ChainD} {l : List WishD} {M : List ChainD} (h : L.map ChainD.can = (toldV l).1) (hm : (toldV l).1 = M) (hM : ∀ c ∈ M, c.id.size ≤ maxLen) : ∀ c ∈ L, c.id.size ≤ maxLen := fun c hc => by
  have h1 : c.can ∈ L.map ChainD.can := List.mem_map_of_mem hc
  rw [h, hm] at h1
  show c.can.id.size ≤ maxLen
  exact hM _ h1
theorem chains_len {L : List ChainD} {l : List WishD} {M : List ChainD} (h : L.map ChainD.can = (toldV l).1) (hm : (toldV l).1 = M) : L.length = M.length := by
  rw [← hm, ← h, List.length_map]
set_option maxRecDepth 20000 in
set_option maxHeartbeats 8000000 in
theorem small21_pu : Pu Tryz.prog 5 #[] Glob (.bool true) := by
  refine pu_of_cw (args := []) _ Tryz.func5 rfl Tryz.ntmps5 rfl fun av bor w0 => ?_
  repeat' (first | apply sw_nil | apply cw_seq | apply cw_reg | refine sy_move (h := ?_) | refine sy_assign (h := ?_) | refine sy_pick_t (h := ?_) | refine sy_pick_f (h := ?_) | refine sy_not (h := ?_) | refine sy_eql (h := ?_) | refine sy_seql (h := ?_) | refine sy_slen (h := ?_) | refine sy_len (h := ?_) | refine sw_skipT (h := ?_) | refine sw_skipF (h := ?_) | refine sw_skipU (h := ?_) | refine sw_bsl (h := fun _ => ?_) | refine cw_cond_t (ht := ?_) | refine cw_cond_f (hf := ?_) | apply cw_skip | apply cw_block | apply cw_ret | apply cw_exit | refine sy_beql (h := ?_) | refine sy_arrA (h := ?_) | refine sy_strI (h := ?_) | (refine sy_build (cs := skw1.cells) (hf := by rfl) (h := ?_)) | refine sw_bslS (size := 6) (vs := [.agg skw1.cells.toArray]) (css := skw1.cells) (hsz := by rfl) (hcs := by rfl) (h := fun _ => ?_) | ((fail_if_success (refine sw_chk (h := ?_))); refine sw_guard (ht := ?_) (hf := ?_); all_goals (intro hx_; first | have := of_decide_eq_true hx_ | have := of_decide_eq_false hx_ | skip)) | (refine cw_cond (ht := ?_) (hf := ?_); all_goals (intro hx_; first | have := of_decide_eq_true hx_ | have := of_decide_eq_false hx_ | skip)))
  rename_i b
  refine sw_orow (size := 6) (m := 1) (hl := by rfl) (hm := by decide) (h := ?_)
  have t1 : Ct Tryz.prog 15 #[.slice (some ⟨b, 0, none⟩) 1 1] [orow 48 6 (.slice (some ⟨b, 0, none⟩) 1 1) 1 (skw1.cells)] Glob (ToldAt [skw1] (orow 48 6 (.slice (some ⟨b, 0, none⟩) 1 1) 1 (skw1.cells))) := told_ct ⟨(some ⟨b, 0, none⟩), 1, 1⟩ [skw1] rfl (by decide) skok_1 sktm_1
  refine sw_fn (pre := [_]) (fr := []) (hc := t1) (hX := fun w h => h) (h := ?_)
  rintro _ _ X1 ⟨L1, s1, hL1, hb1, rfl, rfl, hX1⟩
  refine sw_to (st' := ⟨[(12, s1.v), (1, .slice (some ⟨b, 0, none⟩) 1 1)], [orow 48 6 (.slice (some ⟨b, 0, none⟩) 1 1) 1 (skw1.cells)], fun w => Glob w ∧ X1 w⟩) (ok_sub ⟨rfl, rfl, trivial⟩ (List.Sublist.refl _) fun _ h => h) ?_
  repeat' (first | apply sw_nil | apply cw_seq | apply cw_reg | refine sy_move (h := ?_) | refine sy_assign (h := ?_) | refine sy_pick_t (h := ?_) | refine sy_pick_f (h := ?_) | refine sy_not (h := ?_) | refine sy_eql (h := ?_) | refine sy_seql (h := ?_) | refine sy_slen (h := ?_) | refine sy_len (h := ?_) | refine sw_skipT (h := ?_) | refine sw_skipF (h := ?_) | refine sw_skipU (h := ?_) | refine sw_bsl (h := fun _ => ?_) | refine cw_cond_t (ht := ?_) | refine cw_cond_f (hf := ?_) | apply cw_skip | apply cw_block | apply cw_ret | apply cw_exit | refine sy_beql (h := ?_) | refine sy_arrA (h := ?_) | refine sy_strI (h := ?_) | (refine sy_build (cs := skw2.cells) (hf := by rfl) (h := ?_)) | refine sw_bslS (size := 6) (vs := [.agg skw2.cells.toArray]) (css := skw2.cells) (hsz := by rfl) (hcs := by rfl) (h := fun _ => ?_) | ((fail_if_success (refine sw_chk (h := ?_))); refine sw_guard (ht := ?_) (hf := ?_); all_goals (intro hx_; first | have := of_decide_eq_true hx_ | have := of_decide_eq_false hx_ | skip)) | (refine cw_cond (ht := ?_) (hf := ?_); all_goals (intro hx_; first | have := of_decide_eq_true hx_ | have := of_decide_eq_false hx_ | skip)))
  refine sw_append (size := 6) (news := skw2.cells) (q := 1) rfl rfl rfl rfl (fun _ => At.there _ (At.here _)) (fun w G => src_cel G List.mem_cons_self rfl rfl 1) (by decide) (by decide) rfl ?_ rfl ?_
  · (first | with_reducible rfl | with_reducible assumption | with_reducible exact Bool.not_false | with_reducible exact Bool.not_true)
  intro A2 c2
  repeat' (first | apply sw_nil | apply cw_seq | apply cw_reg | refine sy_move (h := ?_) | refine sy_assign (h := ?_) | refine sy_pick_t (h := ?_) | refine sy_pick_f (h := ?_) | refine sy_not (h := ?_) | refine sy_eql (h := ?_) | refine sy_seql (h := ?_) | refine sy_slen (h := ?_) | refine sy_len (h := ?_) | refine sw_skipT (h := ?_) | refine sw_skipF (h := ?_) | refine sw_skipU (h := ?_) | refine sw_bsl (h := fun _ => ?_) | refine cw_cond_t (ht := ?_) | refine cw_cond_f (hf := ?_) | apply cw_skip | apply cw_block | apply cw_ret | apply cw_exit | refine sy_beql (h := ?_) | refine sy_arrA (h := ?_) | refine sy_strI (h := ?_))
  refine sw_drop (List.sublist_cons_self _ _) ?_
  have t2 : Ct Tryz.prog 15 #[.slice A2 2 c2] [orow 48 6 (.slice A2 2 c2) 2 (skw1.cells ++ skw2.cells)] Glob (ToldAt [skw1, skw2] (orow 48 6 (.slice A2 2 c2) 2 (skw1.cells ++ skw2.cells))) := told_ct ⟨A2, 2, c2⟩ [skw1, skw2] rfl (by decide) skok_2 sktm_2
  refine sw_fn (pre := [_]) (fr := []) (hc := t2) (hX := fun w h => h.1) (h := ?_)
  rintro _ _ X2 ⟨L2, s2, hL2, hb2, rfl, rfl, hX2⟩
  refine sw_to (st' := ⟨[(18, s2.v), (1, .slice A2 2 c2), (2, s1.v)], [orow 48 6 (.slice A2 2 c2) 2 (skw1.cells ++ skw2.cells)], fun w => (Glob w ∧ X1 w) ∧ X2 w⟩) (ok_sub ⟨rfl, rfl, rfl, trivial⟩ (List.Sublist.refl _) fun _ h => h) ?_
  repeat' (first | apply sw_nil | apply cw_seq | apply cw_reg | refine sy_move (h := ?_) | refine sy_assign (h := ?_) | refine sy_pick_t (h := ?_) | refine sy_pick_f (h := ?_) | refine sy_not (h := ?_) | refine sy_eql (h := ?_) | refine sy_seql (h := ?_) | refine sy_slen (h := ?_) | refine sy_len (h := ?_) | refine sw_skipT (h := ?_) | refine sw_skipF (h := ?_) | refine sw_skipU (h := ?_) | refine sw_bsl (h := fun _ => ?_) | refine cw_cond_t (ht := ?_) | refine cw_cond_f (hf := ?_) | apply cw_skip | apply cw_block | apply cw_ret | apply cw_exit | refine sy_beql (h := ?_) | refine sy_arrA (h := ?_) | refine sy_strI (h := ?_) | (refine sy_build (cs := skw3.cells) (hf := by rfl) (h := ?_)) | refine sw_bslS (size := 6) (vs := [.agg skw3.cells.toArray]) (css := skw3.cells) (hsz := by rfl) (hcs := by rfl) (h := fun _ => ?_) | ((fail_if_success (refine sw_chk (h := ?_))); refine sw_guard (ht := ?_) (hf := ?_); all_goals (intro hx_; first | have := of_decide_eq_true hx_ | have := of_decide_eq_false hx_ | skip)) | (refine cw_cond (ht := ?_) (hf := ?_); all_goals (intro hx_; first | have := of_decide_eq_true hx_ | have := of_decide_eq_false hx_ | skip)))
  refine sw_append (size := 6) (news := skw3.cells) (q := 1) rfl rfl rfl rfl (fun _ => At.there _ (At.here _)) (fun w G => src_cel G List.mem_cons_self rfl rfl 1) (by decide) (by decide) rfl ?_ rfl ?_
  · (first | with_reducible rfl | with_reducible assumption | with_reducible exact Bool.not_false | with_reducible exact Bool.not_true)
  intro A3 c3
  repeat' (first | apply sw_nil | apply cw_seq | apply cw_reg | refine sy_move (h := ?_) | refine sy_assign (h := ?_) | refine sy_pick_t (h := ?_) | refine sy_pick_f (h := ?_) | refine sy_not (h := ?_) | refine sy_eql (h := ?_) | refine sy_seql (h := ?_) | refine sy_slen (h := ?_) | refine sy_len (h := ?_) | refine sw_skipT (h := ?_) | refine sw_skipF (h := ?_) | refine sw_skipU (h := ?_) | refine sw_bsl (h := fun _ => ?_) | refine cw_cond_t (ht := ?_) | refine cw_cond_f (hf := ?_) | apply cw_skip | apply cw_block | apply cw_ret | apply cw_exit | refine sy_beql (h := ?_) | refine sy_arrA (h := ?_) | refine sy_strI (h := ?_))
  refine sw_drop (List.sublist_cons_self _ _) ?_
  have t3 : Ct Tryz.prog 15 #[.slice A3 3 c3] [orow 48 6 (.slice A3 3 c3) 3 (skw1.cells ++ skw2.cells ++ skw3.cells)] Glob (ToldAt [skw1, skw2, skw3] (orow 48 6 (.slice A3 3 c3) 3 (skw1.cells ++ skw2.cells ++ skw3.cells))) := told_ct ⟨A3, 3, c3⟩ [skw1, skw2, skw3] rfl (by decide) skok_3 sktm_3
  refine sw_fn (pre := [_]) (fr := []) (hc := t3) (hX := fun w h => h.1.1) (h := ?_)
  rintro _ _ X3 ⟨L3, s3, hL3, hb3, rfl, rfl, hX3⟩
  refine sw_to (st' := ⟨[(24, s3.v), (1, .slice A3 3 c3), (2, s1.v), (3, s2.v)], [orow 48 6 (.slice A3 3 c3) 3 (skw1.cells ++ skw2.cells ++ skw3.cells)], fun w => ((Glob w ∧ X1 w) ∧ X2 w) ∧ X3 w⟩) (ok_sub ⟨rfl, rfl, rfl, rfl, trivial⟩ (List.Sublist.refl _) fun _ h => h) ?_
  repeat' (first | apply sw_nil | apply cw_seq | apply cw_reg | refine sy_move (h := ?_) | refine sy_assign (h := ?_) | refine sy_pick_t (h := ?_) | refine sy_pick_f (h := ?_) | refine sy_not (h := ?_) | refine sy_eql (h := ?_) | refine sy_seql (h := ?_) | refine sy_slen (h := ?_) | refine sy_len (h := ?_) | refine sw_skipT (h := ?_) | refine sw_skipF (h := ?_) | refine sw_skipU (h := ?_) | refine sw_bsl (h := fun _ => ?_) | refine cw_cond_t (ht := ?_) | refine cw_cond_f (hf := ?_) | apply cw_skip | apply cw_block | apply cw_ret | apply cw_exit | refine sy_beql (h := ?_) | refine sy_arrA (h := ?_) | refine sy_strI (h := ?_) | (refine sy_build (cs := skw4.cells) (hf := by rfl) (h := ?_)) | refine sw_bslS (size := 6) (vs := [.agg skw4.cells.toArray]) (css := skw4.cells) (hsz := by rfl) (hcs := by rfl) (h := fun _ => ?_) | ((fail_if_success (refine sw_chk (h := ?_))); refine sw_guard (ht := ?_) (hf := ?_); all_goals (intro hx_; first | have := of_decide_eq_true hx_ | have := of_decide_eq_false hx_ | skip)) | (refine cw_cond (ht := ?_) (hf := ?_); all_goals (intro hx_; first | have := of_decide_eq_true hx_ | have := of_decide_eq_false hx_ | skip)))
  refine sw_append (size := 6) (news := skw4.cells) (q := 1) rfl rfl rfl rfl (fun _ => At.there _ (At.here _)) (fun w G => src_cel G List.mem_cons_self rfl rfl 1) (by decide) (by decide) rfl ?_ rfl ?_
  · (first | with_reducible rfl | with_reducible assumption | with_reducible exact Bool.not_false | with_reducible exact Bool.not_true)
  intro A4 c4
  repeat' (first | apply sw_nil | apply cw_seq | apply cw_reg | refine sy_move (h := ?_) | refine sy_assign (h := ?_) | refine sy_pick_t (h := ?_) | refine sy_pick_f (h := ?_) | refine sy_not (h := ?_) | refine sy_eql (h := ?_) | refine sy_seql (h := ?_) | refine sy_slen (h := ?_) | refine sy_len (h := ?_) | refine sw_skipT (h := ?_) | refine sw_skipF (h := ?_) | refine sw_skipU (h := ?_) | refine sw_bsl (h := fun _ => ?_) | refine cw_cond_t (ht := ?_) | refine cw_cond_f (hf := ?_) | apply cw_skip | apply cw_block | apply cw_ret | apply cw_exit | refine sy_beql (h := ?_) | refine sy_arrA (h := ?_) | refine sy_strI (h := ?_))
  refine sw_drop (List.sublist_cons_self _ _) ?_
  have t4 : Ct Tryz.prog 15 #[.slice A4 4 c4] [orow 48 6 (.slice A4 4 c4) 4 (skw1.cells ++ skw2.cells ++ skw3.cells ++ skw4.cells)] Glob (ToldAt [skw1, skw2, skw3, skw4] (orow 48 6 (.slice A4 4 c4) 4 (skw1.cells ++ skw2.cells ++ skw3.cells ++ skw4.cells))) := told_ct ⟨A4, 4, c4⟩ [skw1, skw2, skw3, skw4] rfl (by decide) skok_4 sktm_4
  refine sw_fn (pre := [_]) (fr := []) (hc := t4) (hX := fun w h => h.1.1.1) (h := ?_)
  rintro _ _ X4 ⟨L4, s4, hL4, hb4, rfl, rfl, hX4⟩
  refine sw_to (st' := ⟨[(30, s4.v), (1, .slice A4 4 c4), (2, s1.v), (3, s2.v), (4, s3.v)], [orow 48 6 (.slice A4 4 c4) 4 (skw1.cells ++ skw2.cells ++ skw3.cells ++ skw4.cells)], fun w => (((Glob w ∧ X1 w) ∧ X2 w) ∧ X3 w) ∧ X4 w⟩) (ok_sub ⟨rfl, rfl, rfl, rfl, rfl, trivial⟩ (List.Sublist.refl _) fun _ h => h) ?_
  repeat' (first | apply sw_nil | apply cw_seq | apply cw_reg | refine sy_move (h := ?_) | refine sy_assign (h := ?_) | refine sy_pick_t (h := ?_) | refine sy_pick_f (h := ?_) | refine sy_not (h := ?_) | refine sy_eql (h := ?_) | refine sy_seql (h := ?_) | refine sy_slen (h := ?_) | refine sy_len (h := ?_) | refine sw_skipT (h := ?_) | refine sw_skipF (h := ?_) | refine sw_skipU (h := ?_) | refine sw_bsl (h := fun _ => ?_) | refine cw_cond_t (ht := ?_) | refine cw_cond_f (hf := ?_) | apply cw_skip | apply cw_block | apply cw_ret | apply cw_exit | refine sy_beql (h := ?_) | refine sy_arrA (h := ?_) | refine sy_strI (h := ?_) | (refine sy_build (cs := skw5.cells) (hf := by rfl) (h := ?_)) | refine sw_bslS (size := 6) (vs := [.agg skw5.cells.toArray]) (css := skw5.cells) (hsz := by rfl) (hcs := by rfl) (h := fun _ => ?_) | ((fail_if_success (refine sw_chk (h := ?_))); refine sw_guard (ht := ?_) (hf := ?_); all_goals (intro hx_; first | have := of_decide_eq_true hx_ | have := of_decide_eq_false hx_ | skip)) | (refine cw_cond (ht := ?_) (hf := ?_); all_goals (intro hx_; first | have := of_decide_eq_true hx_ | have := of_decide_eq_false hx_ | skip)))
  refine sw_append (size := 6) (news := skw5.cells) (q := 1) rfl rfl rfl rfl (fun _ => At.there _ (At.here _)) (fun w G => src_cel G List.mem_cons_self rfl rfl 1) (by decide) (by decide) rfl ?_ rfl ?_
  · (first | with_reducible rfl | with_reducible assumption | with_reducible exact Bool.not_false | with_reducible exact Bool.not_true)
  intro A5 c5
  repeat' (first | apply sw_nil | apply cw_seq | apply cw_reg | refine sy_move (h := ?_) | refine sy_assign (h := ?_) | refine sy_pick_t (h := ?_) | refine sy_pick_f (h := ?_) | refine sy_not (h := ?_) | refine sy_eql (h := ?_) | refine sy_seql (h := ?_) | refine sy_slen (h := ?_) | refine sy_len (h := ?_) | refine sw_skipT (h := ?_) | refine sw_skipF (h := ?_) | refine sw_skipU (h := ?_) | refine sw_bsl (h := fun _ => ?_) | refine cw_cond_t (ht := ?_) | refine cw_cond_f (hf := ?_) | apply cw_skip | apply cw_block | apply cw_ret | apply cw_exit | refine sy_beql (h := ?_) | refine sy_arrA (h := ?_) | refine sy_strI (h := ?_))
  refine sw_drop (List.sublist_cons_self _ _) ?_
  have t5 : Ct Tryz.prog 15 #[.slice A5 5 c5] [orow 48 6 (.slice A5 5 c5) 5 (skw1.cells ++ skw2.cells ++ skw3.cells ++ skw4.cells ++ skw5.cells)] Glob (ToldAt [skw1, skw2, skw3, skw4, skw5] (orow 48 6 (.slice A5 5 c5) 5 (skw1.cells ++ skw2.cells ++ skw3.cells ++ skw4.cells ++ skw5.cells))) := told_ct ⟨A5, 5, c5⟩ [skw1, skw2, skw3, skw4, skw5] rfl (by decide) skok_5 sktm_5
  refine sw_fn (pre := [_]) (fr := []) (hc := t5) (hX := fun w h => h.1.1.1.1) (h := ?_)
  rintro _ _ X5 ⟨L5, s5, hL5, hb5, rfl, rfl, hX5⟩
  refine sw_to (st' := ⟨[(36, s5.v), (1, .slice A5 5 c5), (2, s1.v), (3, s2.v), (4, s3.v), (5, s4.v)], [orow 48 6 (.slice A5 5 c5) 5 (skw1.cells ++ skw2.cells ++ skw3.cells ++ skw4.cells ++ skw5.cells)], fun w => ((((Glob w ∧ X1 w) ∧ X2 w) ∧ X3 w) ∧ X4 w) ∧ X5 w⟩) (ok_sub ⟨rfl, rfl, rfl, rfl, rfl, rfl, trivial⟩ (List.Sublist.refl _) fun _ h => h) ?_
  have hi0 : Pu Tryz.prog 16 #[.int .i64 0] Glob (.string (idA21 0)) := id_pu 0 (by decide)
  have hi1 : Pu Tryz.prog 16 #[.int .i64 1] Glob (.string (idA21 1)) := id_pu 1 (by decide)
  have f1 := follows_pu s1 L1 (idA21 1) (idA21 0) (chains_ok hb1)
  rw [skq_1 hL1] at f1
  have f2 := follows_pu s2 L2 (idA21 1) (idA21 0) (chains_ok hb2)
  rw [skq_2 hL2] at f2
  have f3 := follows_pu s2 L2 (idA21 0) (idA21 1) (chains_ok hb2)
  rw [skq_3 hL2] at f3
  have f4 := follows_pu s3 L3 (idA21 1) (idA21 0) (chains_ok hb3)
  rw [skq_4 hL3] at f4
  have f5 := blocked_pu s3 L3 (idA21 1) (idA21 0) (chains_ok hb3)
  rw [skq_5 hL3] at f5
  have f6 := follows_pu s4 L4 (idA21 1) (idA21 0) (chains_ok hb4)
  rw [skq_6 hL4] at f6
  have f7 := blocked_pu s4 L4 (idA21 0) (idA21 1) (chains_ok hb4)
  rw [skq_7 hL4] at f7
  have f8 := follows_pu s5 L5 (idA21 1) (idA21 0) (chains_ok hb5)
  rw [skq_8 hL5] at f8
  have hids : ∀ c ∈ L5, c.id.size ≤ maxLen := chains_ids hL5 (congrArg Prod.fst skto_5) (by decide +kernel)
  have hlen5 : L5.length ≤ 1000000 := by rw [chains_len hL5 (congrArg Prod.fst skto_5)]; decide
  have f9 := followers_mk s5 L5 (idA21 0) (chains_ok hb5) hids hlen5
  have f10 := following_mk s5 L5 (idA21 1) (chains_ok hb5) (fun c hc => Nat.le_trans (hb5 c hc).2 (by decide))
  have n9 := skq_9 hL5
  have n10 := skq_10 hL5
  generalize idA21 0 = x0 at *
  generalize idA21 1 = x1 at *
  repeat' (first | apply sw_nil | apply cw_seq | apply cw_reg | refine sy_move (h := ?_) | refine sy_assign (h := ?_) | refine sy_pick_t (h := ?_) | refine sy_pick_f (h := ?_) | refine sy_not (h := ?_) | refine sy_eql (h := ?_) | refine sy_seql (h := ?_) | refine sy_slen (h := ?_) | refine sy_len (h := ?_) | refine sw_skipT (h := ?_) | refine sw_skipF (h := ?_) | refine sw_skipU (h := ?_) | refine sw_bsl (h := fun _ => ?_) | refine cw_cond_t (ht := ?_) | refine cw_cond_f (hf := ?_) | apply cw_skip | apply cw_block | apply cw_ret | apply cw_exit | refine sy_beql (h := ?_) | refine sy_arrA (h := ?_) | refine sy_strI (h := ?_) | (refine sw_pu (hc := hi0) (hX := fun w h => h.1.1.1.1.1) (h := ?_)) | (refine sw_pu (hc := hi1) (hX := fun w h => h.1.1.1.1.1) (h := ?_)) | (refine sw_pu (hc := f1) (hX := fun w h => (hX1 w (h.1.1.1.1.2)).symm) (h := ?_)) | (refine sw_pu (hc := f2) (hX := fun w h => (hX2 w (h.1.1.1.2)).symm) (h := ?_)) | (refine sw_pu (hc := f3) (hX := fun w h => (hX2 w (h.1.1.1.2)).symm) (h := ?_)) | (refine sw_pu (hc := f4) (hX := fun w h => (hX3 w (h.1.1.2)).symm) (h := ?_)) | (refine sw_pu (hc := f5) (hX := fun w h => (hX3 w (h.1.1.2)).symm) (h := ?_)) | (refine sw_pu (hc := f6) (hX := fun w h => (hX4 w (h.1.2)).symm) (h := ?_)) | (refine sw_pu (hc := f7) (hX := fun w h => (hX4 w (h.1.2)).symm) (h := ?_)) | (refine sw_pu (hc := f8) (hX := fun w h => (hX5 w (h.2)).symm) (h := ?_)) | ((fail_if_success (refine sw_chk (h := ?_))); refine sw_guard (ht := ?_) (hf := ?_); all_goals (intro hx_; first | have := of_decide_eq_true hx_ | have := of_decide_eq_false hx_ | skip)) | (refine cw_cond (ht := ?_) (hf := ?_); all_goals (intro hx_; first | have := of_decide_eq_true hx_ | have := of_decide_eq_false hx_ | skip)))
  refine sw_mk (hc := f9) (hX := fun w h => (hX5 w h.2).symm) (h := fun v9 X9 h9 => ?_)
  obtain ⟨⟨p9, m9, c9⟩, rfl, h9⟩ := h9
  refine sw_know (p := m9 = 1) (fun w h => by have := (h9 w h.2).len_; rw [n9] at this; exact this) fun e9 => ?_
  subst e9
  repeat' (first | refine sy_eqlT (hab := by rfl) (h := ?_) | apply sw_nil | apply cw_seq | apply cw_reg | refine sy_move (h := ?_) | refine sy_assign (h := ?_) | refine sy_pick_t (h := ?_) | refine sy_pick_f (h := ?_) | refine sy_not (h := ?_) | refine sy_eql (h := ?_) | refine sy_seql (h := ?_) | refine sy_slen (h := ?_) | refine sy_len (h := ?_) | refine sw_skipT (h := ?_) | refine sw_skipF (h := ?_) | refine sw_skipU (h := ?_) | refine sw_bsl (h := fun _ => ?_) | refine cw_cond_t (ht := ?_) | refine cw_cond_f (hf := ?_) | apply cw_skip | apply cw_block | apply cw_ret | apply cw_exit | refine sy_beql (h := ?_) | refine sy_arrA (h := ?_) | refine sy_strI (h := ?_) | ((fail_if_success (refine sw_chk (h := ?_))); refine sw_guard (ht := ?_) (hf := ?_); all_goals (intro hx_; first | have := of_decide_eq_true hx_ | have := of_decide_eq_false hx_ | skip)) | (refine cw_cond (ht := ?_) (hf := ?_); all_goals (intro hx_; first | have := of_decide_eq_true hx_ | have := of_decide_eq_false hx_ | skip)))
  refine sw_mk (hc := f10) (hX := fun w h => (hX5 w h.1.2).symm) (h := fun v9 X10 h10 => ?_)
  obtain ⟨⟨p10, m10, c10⟩, rfl, h10⟩ := h10
  refine sw_know (p := m10 = 1) (fun w h => by have := (h10 w h.2).len_; rw [n10] at this; exact this) fun e10 => ?_
  subst e10
  repeat' (first | refine sy_eqlT (hab := by rfl) (h := ?_) | apply sw_nil | apply cw_seq | apply cw_reg | refine sy_move (h := ?_) | refine sy_assign (h := ?_) | refine sy_pick_t (h := ?_) | refine sy_pick_f (h := ?_) | refine sy_not (h := ?_) | refine sy_eql (h := ?_) | refine sy_seql (h := ?_) | refine sy_slen (h := ?_) | refine sy_len (h := ?_) | refine sw_skipT (h := ?_) | refine sw_skipF (h := ?_) | refine sw_skipU (h := ?_) | refine sw_bsl (h := fun _ => ?_) | refine cw_cond_t (ht := ?_) | refine cw_cond_f (hf := ?_) | apply cw_skip | apply cw_block | apply cw_ret | apply cw_exit | refine sy_beql (h := ?_) | refine sy_arrA (h := ?_) | refine sy_strI (h := ?_) | ((fail_if_success (refine sw_chk (h := ?_))); refine sw_guard (ht := ?_) (hf := ?_); all_goals (intro hx_; first | have := of_decide_eq_true hx_ | have := of_decide_eq_false hx_ | skip)) | (refine cw_cond (ht := ?_) (hf := ?_); all_goals (intro hx_; first | have := of_decide_eq_true hx_ | have := of_decide_eq_false hx_ | skip)))
  exact ends_ret (res_tmp rfl rfl) rfl
end Go.Proofs.YtepckpofhegmiaaGreatDoor
