/- Contracts: package act, encodings. -/
import Derived.Test.YtfpojkoddcdojaaGreatDoorCo
set_option linter.unusedVariables false
set_option linter.unusedSimpArgs false
namespace Go.Proofs.YtfpojkoddcdojaaGreatDoor
open Go Go.Proofs Sy

theorem textV_size (s : ByteArray) : (textV s).size ≤ 10 + s.size := by have := numV_size s.size; rw [textV, ByteArray.size_append]; omega
structure BoxD.Fit (b : BoxD) : Prop where
  nonce : b.nonce.size ≤ 1073741824
  data : b.data.size ≤ 1073741824
  tag : b.tag.size ≤ 1073741824
def boxV (b : BoxD) : ByteArray := textV b.nonce ++ textV b.data ++ textV b.tag
theorem boxV_size {b : BoxD} (h : b.Fit) : (boxV b).size ≤ 4294967296 := by
  have h1 := textV_size b.nonce
  have h2 := textV_size b.data
  have h3 := textV_size b.tag
  have := h.nonce
  have := h.data
  have := h.tag
  simp only [boxV, ByteArray.size_append]
  omega
theorem boxBytes_pu (b : BoxD) (hb : b.Fit) : Pu Tryz.prog 144 #[b.v] (fun _ => True) (.string (boxV b)) := by
  refine pu_of_cw (args := [_]) _ Tryz.func144 rfl Tryz.ntmps144 rfl fun av bor w0 => ?_
  have h1 := textV_size b.nonce
  have h2 := textV_size b.data
  have h3 := textV_size b.tag
  have := hb.nonce
  have := hb.data
  have := hb.tag
  repeat' (first | apply sw_nil | apply cw_seq | apply cw_reg | refine sy_move (h := ?_) | refine sy_assign (h := ?_) | refine sy_nilCheck (h := ?_) | refine sy_fld (h := ?_) | refine sy_ld (h := ?_) | refine sy_ldAll (h := ?_) | refine sy_pick_t (h := ?_) | refine sy_pick_f (h := ?_) | refine sy_not (h := ?_) | refine sy_eql (h := ?_) | refine sy_neq (h := ?_) | refine sy_lss (h := ?_) | refine sy_leq (h := ?_) | refine sy_gtr (h := ?_) | refine sy_geq (h := ?_) | refine sy_seql (h := ?_) | refine sy_sneq (h := ?_) | refine sy_slen (h := ?_) | refine sy_len (h := ?_) | refine sy_extract (h := ?_) | refine sy_add (h := ?_) | refine sy_sub (h := ?_) | refine sw_skipT (h := ?_) | refine sw_skipF (h := ?_) | refine sw_skipU (h := ?_) | refine sw_alloc (h := fun _ => ?_) | refine sw_box (h := fun _ => ?_) | refine sw_rangeS (h := fun _ => ?_) | refine sw_nextS (h1 := fun _ => ?_) (h2 := fun _ => ?_) | refine sw_bsl (h := fun _ => ?_) | refine sw_st1 (h := ?_) | refine sw_stAll (h := ?_) | refine cw_cond_t (ht := ?_) | refine cw_cond_f (hf := ?_) | apply cw_skip | apply cw_block | apply cw_ret | apply cw_exit | refine sy_and (h := ?_) | refine sy_or (h := ?_) | refine sy_xor (h := ?_) | refine sy_andNot (h := ?_) | refine sy_xorU (h := ?_) | refine sy_shl (h := ?_) | refine sy_shr (h := ?_) | refine sy_mul (h := ?_) | refine sy_int (h := ?_) | refine sy_beql (h := ?_) | refine sy_bneq (h := ?_) | refine sy_min (h := ?_) | refine sy_max (h := ?_) | refine sy_arrA (h := ?_) | refine sy_strI (h := ?_) | ((fail_if_success (refine sw_chk (h := ?_))); refine sw_guard (ht := ?_) (hf := ?_); all_goals (intro hx_; first | have := of_decide_eq_true hx_ | have := of_decide_eq_false hx_ | skip)) | (refine cw_cond (ht := ?_) (hf := ?_); all_goals (intro hx_; first | have := of_decide_eq_true hx_ | have := of_decide_eq_false hx_ | skip)))
  (apply cw_draw0; kernel_rfl)
  all_goals (first | refine aw_take 0 (h := ?_) | refine aw_take 0 (hy := by (first | (apply y_cat; rfl; rfl; (try simp only [ByteArray.size_append]); omega))) (h := ?_))
  all_goals (first | refine aw_take 1 (h := ?_) | refine aw_take 1 (hy := by (first | (apply y_cat; rfl; rfl; (try simp only [ByteArray.size_append]); omega))) (h := ?_))
  all_goals (first | refine aw_take 3 (h := ?_) | refine aw_take 3 (hy := by (first | (apply y_cat; rfl; rfl; (try simp only [ByteArray.size_append]); omega))) (h := ?_))
  all_goals (first | refine aw_take 4 (h := ?_) | refine aw_take 4 (hy := by (first | (apply y_cat; rfl; rfl; (try simp only [ByteArray.size_append]); omega))) (h := ?_))
  all_goals (first | refine aw_take 7 (h := ?_) | refine aw_take 7 (hy := by (first | (apply y_cat; rfl; rfl; (try simp only [ByteArray.size_append]); omega))) (h := ?_))
  all_goals (first | refine aw_take 8 (h := ?_) | refine aw_take 8 (hy := by (first | (apply y_cat; rfl; rfl; (try simp only [ByteArray.size_append]); omega))) (h := ?_))
  all_goals (refine aw_step 2 (h := ?_); (first | refine sw_pu (hc := text_pu _ (by omega)) (h := ?_)); apply sw_nil; refine aw_fin (h := ?_))
  all_goals (refine aw_step 5 (h := ?_); (first | refine sw_pu (hc := text_pu _ (by omega)) (h := ?_)); apply sw_nil; refine aw_fin (h := ?_))
  all_goals (first | refine aw_take 6 (h := ?_) | refine aw_take 6 (hy := by (first | (apply y_cat; rfl; rfl; (try simp only [ByteArray.size_append]); omega))) (h := ?_))
  all_goals (refine aw_step 9 (h := ?_); (first | refine sw_pu (hc := text_pu _ (by omega)) (h := ?_)); apply sw_nil; refine aw_fin (h := ?_))
  all_goals (first | refine aw_take 10 (h := ?_) | refine aw_take 10 (hy := by (first | (apply y_cat; rfl; rfl; (try simp only [ByteArray.size_append]); omega))) (h := ?_))
  all_goals (refine aw_take 11 (h := ?_))
  all_goals (refine aw_done (h := ?_))
  repeat' (first | apply sw_nil | apply cw_seq | apply cw_reg | refine sy_move (h := ?_) | refine sy_assign (h := ?_) | refine sy_nilCheck (h := ?_) | refine sy_fld (h := ?_) | refine sy_ld (h := ?_) | refine sy_ldAll (h := ?_) | refine sy_pick_t (h := ?_) | refine sy_pick_f (h := ?_) | refine sy_not (h := ?_) | refine sy_eql (h := ?_) | refine sy_neq (h := ?_) | refine sy_lss (h := ?_) | refine sy_leq (h := ?_) | refine sy_gtr (h := ?_) | refine sy_geq (h := ?_) | refine sy_seql (h := ?_) | refine sy_sneq (h := ?_) | refine sy_slen (h := ?_) | refine sy_len (h := ?_) | refine sy_extract (h := ?_) | refine sy_add (h := ?_) | refine sy_sub (h := ?_) | refine sw_skipT (h := ?_) | refine sw_skipF (h := ?_) | refine sw_skipU (h := ?_) | refine sw_alloc (h := fun _ => ?_) | refine sw_box (h := fun _ => ?_) | refine sw_rangeS (h := fun _ => ?_) | refine sw_nextS (h1 := fun _ => ?_) (h2 := fun _ => ?_) | refine sw_bsl (h := fun _ => ?_) | refine sw_st1 (h := ?_) | refine sw_stAll (h := ?_) | refine cw_cond_t (ht := ?_) | refine cw_cond_f (hf := ?_) | apply cw_skip | apply cw_block | apply cw_ret | apply cw_exit | refine sy_and (h := ?_) | refine sy_or (h := ?_) | refine sy_xor (h := ?_) | refine sy_andNot (h := ?_) | refine sy_xorU (h := ?_) | refine sy_shl (h := ?_) | refine sy_shr (h := ?_) | refine sy_mul (h := ?_) | refine sy_int (h := ?_) | refine sy_beql (h := ?_) | refine sy_bneq (h := ?_) | refine sy_min (h := ?_) | refine sy_max (h := ?_) | refine sy_arrA (h := ?_) | refine sy_strI (h := ?_) | ((fail_if_success (refine sw_chk (h := ?_))); refine sw_guard (ht := ?_) (hf := ?_); all_goals (intro hx_; first | have := of_decide_eq_true hx_ | have := of_decide_eq_false hx_ | skip)) | (refine cw_cond (ht := ?_) (hf := ?_); all_goals (intro hx_; first | have := of_decide_eq_true hx_ | have := of_decide_eq_false hx_ | skip)))
  (all_goals (apply ends_ret; apply res_tmp; rfl; rfl)); all_goals first | rfl | (simp only [boxV, *, decide_true, decide_false, cond_true, cond_false, Bool.and_true, Bool.true_and, Bool.and_false, Bool.false_and, Bool.not_true, Bool.not_false, Bool.or_true, Bool.true_or, Bool.or_false, Bool.false_or]; done) | (simp_all [boxV]; done)
end Go.Proofs.YtfpojkoddcdojaaGreatDoor
