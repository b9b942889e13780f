/- Contracts: act.Core, act.Bytes. -/
import Derived.Test.YtfpojkoddcdojaaGreatDoorR
set_option linter.unusedVariables false
set_option linter.unusedSimpArgs false
namespace Go.Proofs.YtfpojkoddcdojaaGreatDoor
open Go Go.Proofs Sy
structure Kth (n : Nat) where
  k : Nat
  hk : k ≤ n
def wrapV (w : WrapD) : ByteArray := numV w.to ++ numV w.eph ++ boxV w.box
structure ActD.Fit (a : ActD) : Prop where
  author : a.author.size ≤ 1073741824
  prev : a.prev.size ≤ 1073741824
  object : a.object.size ≤ 1073741824
  target : a.target.size ≤ 1073741824
  group : a.group.size ≤ 1073741824
  text : a.text.size ≤ 1073741824
  body : a.body.Fit
  to : (listV a.toL).size ≤ 1073741824
  wraps : ∀ w ∈ a.wrapsL, w.box.Fit
  wrapsV : (cats (a.wrapsL.map wrapV)).size ≤ 1073741824
  ints : a.seq < 9223372036854775808 ∧ a.kind < 9223372036854775808 ∧ a.time < 9223372036854775808 ∧ a.scope < 9223372036854775808 ∧ a.epoch < 9223372036854775808 ∧ a.n < 9223372036854775808 ∧ a.m < 9223372036854775808 ∧ a.e < 9223372036854775808 ∧ a.s < 9223372036854775808
  wints : ∀ w ∈ a.wrapsL, w.to < 9223372036854775808 ∧ w.eph < 9223372036854775808
def core1 (a : ActD) : ByteArray := textV ⟨#[97, 99, 116]⟩ ++ textV a.author ++ numV a.seq ++ textV a.prev
def core2 (a : ActD) : ByteArray := core1 a ++ (numV a.kind ++ numV a.time ++ textV a.object ++ textV a.target)
def core3 (a : ActD) : ByteArray := core2 a ++ (numV a.scope ++ textV a.group ++ listV a.toL ++ textV a.text)
def core4 (a : ActD) : ByteArray := core3 a ++ (boxV a.body ++ numV a.epoch ++ numV a.wrapsL.length)
def core5 (a : ActD) (k : Nat) : ByteArray := core4 a ++ cats ((a.wrapsL.map wrapV).take k)
def coreV (a : ActD) : ByteArray := core5 a a.wrapsL.length ++ numV a.n ++ numV a.m
theorem core_pu (a : ActD) (ha : rightB a = true → a.Fit) : Pu Tryz.prog 118 #[a.v] (ActD.at_ · a) (.string (bif rightB a then coreV a else ⟨#[]⟩)) := by
  cases hrB : rightB a with
  | false =>
    have hrN : (!rightB a) = true := by rw [hrB]; rfl
    refine pu_of_cw (args := [_]) _ Tryz.func118 rfl Tryz.ntmps118 rfl fun av bor w0 => ?_
    repeat' (first | apply sw_nil | apply cw_seq | apply cw_reg | refine sy_move (h := ?_) | refine sy_assign (h := ?_) | refine sy_nilCheck (h := ?_) | refine sy_fld (h := ?_) | refine sy_ld (h := ?_) | refine sy_ldAll (h := ?_) | refine sy_pick_t (h := ?_) | refine sy_pick_f (h := ?_) | refine sy_not (h := ?_) | refine sy_eql (h := ?_) | refine sy_neq (h := ?_) | refine sy_lss (h := ?_) | refine sy_leq (h := ?_) | refine sy_gtr (h := ?_) | refine sy_geq (h := ?_) | refine sy_seql (h := ?_) | refine sy_sneq (h := ?_) | refine sy_slen (h := ?_) | refine sy_len (h := ?_) | refine sy_extract (h := ?_) | refine sy_add (h := ?_) | refine sy_sub (h := ?_) | refine sw_skipT (h := ?_) | refine sw_skipF (h := ?_) | refine sw_skipU (h := ?_) | refine sw_alloc (h := fun _ => ?_) | refine sw_box (h := fun _ => ?_) | refine sw_rangeS (h := fun _ => ?_) | refine sw_nextS (h1 := fun _ => ?_) (h2 := fun _ => ?_) | refine sw_bsl (h := fun _ => ?_) | refine sw_st1 (h := ?_) | refine sw_stAll (h := ?_) | refine cw_cond_t (ht := ?_) | refine cw_cond_f (hf := ?_) | apply cw_skip | apply cw_block | apply cw_ret | apply cw_exit | refine sy_and (h := ?_) | refine sy_or (h := ?_) | refine sy_xor (h := ?_) | refine sy_andNot (h := ?_) | refine sy_xorU (h := ?_) | refine sy_shl (h := ?_) | refine sy_shr (h := ?_) | refine sy_mul (h := ?_) | refine sy_int (h := ?_) | refine sy_beql (h := ?_) | refine sy_bneq (h := ?_) | refine sy_min (h := ?_) | refine sy_max (h := ?_) | refine sy_arrA (h := ?_) | refine sy_strI (h := ?_) | refine sw_pu (hc := actRight_pu a) (h := ?_) | ((fail_if_success (refine sw_chk (h := ?_))); refine sw_guard (ht := ?_) (hf := ?_); all_goals (intro hx_; first | have := of_decide_eq_true hx_ | have := of_decide_eq_false hx_ | skip)) | (refine cw_cond (ht := ?_) (hf := ?_); all_goals (intro hx_; first | have := of_decide_eq_true hx_ | have := of_decide_eq_false hx_ | skip)))
    apply ends_ret; apply res_tmp; rfl; rfl; rfl
  | true =>
  have hrN : (!rightB a) = false := by rw [hrB]; rfl
  replace ha := ha hrB
  refine pu_of_cw (args := [_]) _ Tryz.func118 rfl Tryz.ntmps118 rfl fun av bor w0 => ?_
  refine cw_know (p := a.wraps.n = a.wrapsL.length ∧ a.wraps.n ≤ maxLen ∧ (0 < a.wrapsL.length → a.wraps.p.isSome = true)) (fun w h => ⟨h.2.len_, Nat.le_trans (RowsD.cap h.2) (RowsD.max h.2), h.2.some_⟩) fun ⟨hl, hm, hp⟩ => ?_
  simp only [maxLen] at hm
  obtain ⟨i1, i2, i3, i4, i5, i6, i7, i8, i9⟩ := ha.ints
  have s1 := textV_size a.author
  have s2 := textV_size a.prev
  have s3 := textV_size a.object
  have s4 := textV_size a.target
  have s5 := textV_size a.group
  have s6 := textV_size a.text
  have s7 := textV_size ⟨#[97, 99, 116]⟩
  have s8 := boxV_size ha.body
  have h1 := ha.author
  have h2 := ha.prev
  have h3 := ha.object
  have h4 := ha.target
  have h5 := ha.group
  have h6 := ha.text
  have h7 := ha.to
  have h8 : (⟨#[97, 99, 116]⟩ : ByteArray).size = 3 := rfl
  have n1 := numV_size a.seq
  have n2 := numV_size a.kind
  have n3 := numV_size a.time
  have n4 := numV_size a.scope
  have n5 := numV_size a.epoch
  have n6 := numV_size a.wraps.n
  have n7 := numV_size a.n
  have n8 := numV_size a.m
  repeat' (first | apply sw_nil | apply cw_seq | apply cw_reg | refine sy_move (h := ?_) | refine sy_assign (h := ?_) | refine sy_nilCheck (h := ?_) | refine sy_fld (h := ?_) | refine sy_ld (h := ?_) | refine sy_ldAll (h := ?_) | refine sy_pick_t (h := ?_) | refine sy_pick_f (h := ?_) | refine sy_not (h := ?_) | refine sy_eql (h := ?_) | refine sy_neq (h := ?_) | refine sy_lss (h := ?_) | refine sy_leq (h := ?_) | refine sy_gtr (h := ?_) | refine sy_geq (h := ?_) | refine sy_seql (h := ?_) | refine sy_sneq (h := ?_) | refine sy_slen (h := ?_) | refine sy_len (h := ?_) | refine sy_extract (h := ?_) | refine sy_add (h := ?_) | refine sy_sub (h := ?_) | refine sw_skipT (h := ?_) | refine sw_skipF (h := ?_) | refine sw_skipU (h := ?_) | refine sw_alloc (h := fun _ => ?_) | refine sw_box (h := fun _ => ?_) | refine sw_rangeS (h := fun _ => ?_) | refine sw_nextS (h1 := fun _ => ?_) (h2 := fun _ => ?_) | refine sw_bsl (h := fun _ => ?_) | refine sw_st1 (h := ?_) | refine sw_stAll (h := ?_) | refine cw_cond_t (ht := ?_) | refine cw_cond_f (hf := ?_) | apply cw_skip | apply cw_block | apply cw_ret | apply cw_exit | refine sy_and (h := ?_) | refine sy_or (h := ?_) | refine sy_xor (h := ?_) | refine sy_andNot (h := ?_) | refine sy_xorU (h := ?_) | refine sy_shl (h := ?_) | refine sy_shr (h := ?_) | refine sy_mul (h := ?_) | refine sy_int (h := ?_) | refine sy_beql (h := ?_) | refine sy_bneq (h := ?_) | refine sy_min (h := ?_) | refine sy_max (h := ?_) | refine sy_arrA (h := ?_) | refine sy_strI (h := ?_) | refine sw_pu (hc := actRight_pu a) (h := ?_) | ((fail_if_success (refine sw_chk (h := ?_))); refine sw_guard (ht := ?_) (hf := ?_); all_goals (intro hx_; first | have := of_decide_eq_true hx_ | have := of_decide_eq_false hx_ | skip)) | (refine cw_cond (ht := ?_) (hf := ?_); all_goals (intro hx_; first | have := of_decide_eq_true hx_ | have := of_decide_eq_false hx_ | skip)))
  (apply cw_draw0; kernel_rfl)
  all_goals (first | refine aw_take 1 (h := ?_) | refine aw_take 1 (hy := by (first | (apply y_cat; rfl; rfl; (try simp only [ByteArray.size_append]); omega))) (h := ?_))
  all_goals (first | refine aw_take 2 (h := ?_) | refine aw_take 2 (hy := by (first | (apply y_cat; rfl; rfl; (try simp only [ByteArray.size_append]); omega))) (h := ?_))
  all_goals (first | refine aw_take 5 (h := ?_) | refine aw_take 5 (hy := by (first | (apply y_cat; rfl; rfl; (try simp only [ByteArray.size_append]); omega))) (h := ?_))
  all_goals (first | refine aw_take 6 (h := ?_) | refine aw_take 6 (hy := by (first | (apply y_cat; rfl; rfl; (try simp only [ByteArray.size_append]); omega))) (h := ?_))
  all_goals (first | refine aw_take 9 (h := ?_) | refine aw_take 9 (hy := by (first | (apply y_cat; rfl; rfl; (try simp only [ByteArray.size_append]); omega))) (h := ?_))
  all_goals (first | refine aw_take 10 (h := ?_) | refine aw_take 10 (hy := by (first | (apply y_cat; rfl; rfl; (try simp only [ByteArray.size_append]); omega))) (h := ?_))
  all_goals (refine aw_step 0 (h := ?_); (first | refine sw_pu (hc := num_pu _ (by omega)) (h := ?_) | refine sw_pu (hc := text_pu _ (by omega)) (h := ?_)); apply sw_nil; refine aw_fin (h := ?_))
  all_goals (refine aw_step 3 (h := ?_); (first | refine sw_pu (hc := num_pu _ (by omega)) (h := ?_) | refine sw_pu (hc := text_pu _ (by omega)) (h := ?_)); apply sw_nil; refine aw_fin (h := ?_))
  all_goals (first | refine aw_take 4 (h := ?_) | refine aw_take 4 (hy := by (first | (apply y_cat; rfl; rfl; (try simp only [ByteArray.size_append]); omega))) (h := ?_))
  all_goals (refine aw_step 7 (h := ?_); (first | refine sw_pu (hc := num_pu _ (by omega)) (h := ?_) | refine sw_pu (hc := text_pu _ (by omega)) (h := ?_)); apply sw_nil; refine aw_fin (h := ?_))
  all_goals (first | refine aw_take 8 (h := ?_) | refine aw_take 8 (hy := by (first | (apply y_cat; rfl; rfl; (try simp only [ByteArray.size_append]); omega))) (h := ?_))
  all_goals (refine aw_step 11 (h := ?_); (first | refine sw_pu (hc := num_pu _ (by omega)) (h := ?_) | refine sw_pu (hc := text_pu _ (by omega)) (h := ?_)); apply sw_nil; refine aw_fin (h := ?_))
  all_goals (first | refine aw_take 12 (h := ?_) | refine aw_take 12 (hy := by (first | (apply y_cat; rfl; rfl; (try simp only [ByteArray.size_append]); omega))) (h := ?_))
  all_goals (refine aw_take 13 (h := ?_))
  all_goals (refine aw_done (h := ?_))
  repeat' (first | apply sw_nil | apply cw_seq | apply cw_reg | refine sy_move (h := ?_) | refine sy_assign (h := ?_) | refine sy_nilCheck (h := ?_) | refine sy_fld (h := ?_) | refine sy_ld (h := ?_) | refine sy_ldAll (h := ?_) | refine sy_pick_t (h := ?_) | refine sy_pick_f (h := ?_) | refine sy_not (h := ?_) | refine sy_eql (h := ?_) | refine sy_neq (h := ?_) | refine sy_lss (h := ?_) | refine sy_leq (h := ?_) | refine sy_gtr (h := ?_) | refine sy_geq (h := ?_) | refine sy_seql (h := ?_) | refine sy_sneq (h := ?_) | refine sy_slen (h := ?_) | refine sy_len (h := ?_) | refine sy_extract (h := ?_) | refine sy_add (h := ?_) | refine sy_sub (h := ?_) | refine sw_skipT (h := ?_) | refine sw_skipF (h := ?_) | refine sw_skipU (h := ?_) | refine sw_alloc (h := fun _ => ?_) | refine sw_box (h := fun _ => ?_) | refine sw_rangeS (h := fun _ => ?_) | refine sw_nextS (h1 := fun _ => ?_) (h2 := fun _ => ?_) | refine sw_bsl (h := fun _ => ?_) | refine sw_st1 (h := ?_) | refine sw_stAll (h := ?_) | refine cw_cond_t (ht := ?_) | refine cw_cond_f (hf := ?_) | apply cw_skip | apply cw_block | apply cw_ret | apply cw_exit | refine sy_and (h := ?_) | refine sy_or (h := ?_) | refine sy_xor (h := ?_) | refine sy_andNot (h := ?_) | refine sy_xorU (h := ?_) | refine sy_shl (h := ?_) | refine sy_shr (h := ?_) | refine sy_mul (h := ?_) | refine sy_int (h := ?_) | refine sy_beql (h := ?_) | refine sy_bneq (h := ?_) | refine sy_min (h := ?_) | refine sy_max (h := ?_) | refine sy_arrA (h := ?_) | refine sy_strI (h := ?_) | ((fail_if_success (refine sw_chk (h := ?_))); refine sw_guard (ht := ?_) (hf := ?_); all_goals (intro hx_; first | have := of_decide_eq_true hx_ | have := of_decide_eq_false hx_ | skip)) | (refine cw_cond (ht := ?_) (hf := ?_); all_goals (intro hx_; first | have := of_decide_eq_true hx_ | have := of_decide_eq_false hx_ | skip)))
  (apply cw_draw0; kernel_rfl)
  all_goals (refine aw_take 0 (h := ?_))
  all_goals (first | refine aw_take 1 (h := ?_) | refine aw_take 1 (hy := by (first | (apply y_cat; rfl; rfl; (try simp only [ByteArray.size_append]); omega))) (h := ?_))
  all_goals (first | refine aw_take 2 (h := ?_) | refine aw_take 2 (hy := by (first | (apply y_cat; rfl; rfl; (try simp only [ByteArray.size_append]); omega))) (h := ?_))
  all_goals (first | refine aw_take 4 (h := ?_) | refine aw_take 4 (hy := by (first | (apply y_cat; rfl; rfl; (try simp only [ByteArray.size_append]); omega))) (h := ?_))
  all_goals (first | refine aw_take 5 (h := ?_) | refine aw_take 5 (hy := by (first | (apply y_cat; rfl; rfl; (try simp only [ByteArray.size_append]); omega))) (h := ?_))
  all_goals (first | refine aw_take 8 (h := ?_) | refine aw_take 8 (hy := by (first | (apply y_cat; rfl; rfl; (try simp only [ByteArray.size_append]); omega))) (h := ?_))
  all_goals (first | refine aw_take 9 (h := ?_) | refine aw_take 9 (hy := by (first | (apply y_cat; rfl; rfl; (try simp only [ByteArray.size_append]); omega))) (h := ?_))
  all_goals (first | refine aw_take 12 (h := ?_) | refine aw_take 12 (hy := by (first | (apply y_cat; rfl; rfl; (try simp only [ByteArray.size_append]); omega))) (h := ?_))
  all_goals (first | refine aw_take 13 (h := ?_) | refine aw_take 13 (hy := by (first | (apply y_cat; rfl; rfl; (try simp only [ByteArray.size_append]); omega))) (h := ?_))
  all_goals (refine aw_step 3 (h := ?_); (first | refine sw_pu (hc := num_pu _ (by omega)) (h := ?_) | refine sw_pu (hc := text_pu _ (by omega)) (h := ?_)); apply sw_nil; refine aw_fin (h := ?_))
  all_goals (refine aw_step 6 (h := ?_); (first | refine sw_pu (hc := num_pu _ (by omega)) (h := ?_) | refine sw_pu (hc := text_pu _ (by omega)) (h := ?_)); apply sw_nil; refine aw_fin (h := ?_))
  all_goals (first | refine aw_take 7 (h := ?_) | refine aw_take 7 (hy := by (first | (apply y_cat; rfl; rfl; (try simp only [ByteArray.size_append]); omega))) (h := ?_))
  all_goals (refine aw_step 10 (h := ?_); (first | refine sw_pu (hc := num_pu _ (by omega)) (h := ?_) | refine sw_pu (hc := text_pu _ (by omega)) (h := ?_)); apply sw_nil; refine aw_fin (h := ?_))
  all_goals (first | refine aw_take 11 (h := ?_) | refine aw_take 11 (hy := by (first | (apply y_cat; rfl; rfl; (try simp only [ByteArray.size_append]); omega))) (h := ?_))
  all_goals (refine aw_step 14 (h := ?_); (first | refine sw_pu (hc := num_pu _ (by omega)) (h := ?_) | refine sw_pu (hc := text_pu _ (by omega)) (h := ?_)); apply sw_nil; refine aw_fin (h := ?_))
  all_goals (first | refine aw_take 15 (h := ?_) | refine aw_take 15 (hy := by (first | (apply y_cat; rfl; rfl; (try simp only [ByteArray.size_append]); omega))) (h := ?_))
  all_goals (first | refine aw_take 16 (h := ?_) | refine aw_take 16 (hy := by (first | (apply y_cat; rfl; rfl; (try simp only [ByteArray.size_append]); omega))) (h := ?_))
  all_goals (refine aw_take 17 (h := ?_))
  all_goals (refine aw_done (h := ?_))
  repeat' (first | apply sw_nil | apply cw_seq | apply cw_reg | refine sy_move (h := ?_) | refine sy_assign (h := ?_) | refine sy_nilCheck (h := ?_) | refine sy_fld (h := ?_) | refine sy_ld (h := ?_) | refine sy_ldAll (h := ?_) | refine sy_pick_t (h := ?_) | refine sy_pick_f (h := ?_) | refine sy_not (h := ?_) | refine sy_eql (h := ?_) | refine sy_neq (h := ?_) | refine sy_lss (h := ?_) | refine sy_leq (h := ?_) | refine sy_gtr (h := ?_) | refine sy_geq (h := ?_) | refine sy_seql (h := ?_) | refine sy_sneq (h := ?_) | refine sy_slen (h := ?_) | refine sy_len (h := ?_) | refine sy_extract (h := ?_) | refine sy_add (h := ?_) | refine sy_sub (h := ?_) | refine sw_skipT (h := ?_) | refine sw_skipF (h := ?_) | refine sw_skipU (h := ?_) | refine sw_alloc (h := fun _ => ?_) | refine sw_box (h := fun _ => ?_) | refine sw_rangeS (h := fun _ => ?_) | refine sw_nextS (h1 := fun _ => ?_) (h2 := fun _ => ?_) | refine sw_bsl (h := fun _ => ?_) | refine sw_st1 (h := ?_) | refine sw_stAll (h := ?_) | refine cw_cond_t (ht := ?_) | refine cw_cond_f (hf := ?_) | apply cw_skip | apply cw_block | apply cw_ret | apply cw_exit | refine sy_and (h := ?_) | refine sy_or (h := ?_) | refine sy_xor (h := ?_) | refine sy_andNot (h := ?_) | refine sy_xorU (h := ?_) | refine sy_shl (h := ?_) | refine sy_shr (h := ?_) | refine sy_mul (h := ?_) | refine sy_int (h := ?_) | refine sy_beql (h := ?_) | refine sy_bneq (h := ?_) | refine sy_min (h := ?_) | refine sy_max (h := ?_) | refine sy_arrA (h := ?_) | refine sy_strI (h := ?_) | ((fail_if_success (refine sw_chk (h := ?_))); refine sw_guard (ht := ?_) (hf := ?_); all_goals (intro hx_; first | have := of_decide_eq_true hx_ | have := of_decide_eq_false hx_ | skip)) | (refine cw_cond (ht := ?_) (hf := ?_); all_goals (intro hx_; first | have := of_decide_eq_true hx_ | have := of_decide_eq_false hx_ | skip)))
  (apply cw_draw0; kernel_rfl)
  all_goals (refine aw_take 0 (h := ?_))
  all_goals (first | refine aw_take 1 (h := ?_) | refine aw_take 1 (hy := by (first | (apply y_cat; rfl; rfl; (try simp only [ByteArray.size_append]); omega))) (h := ?_))
  all_goals (first | refine aw_take 2 (h := ?_) | refine aw_take 2 (hy := by (first | (apply y_cat; rfl; rfl; (try simp only [ByteArray.size_append]); omega))) (h := ?_))
  all_goals (first | refine aw_take 4 (h := ?_) | refine aw_take 4 (hy := by (first | (apply y_cat; rfl; rfl; (try simp only [ByteArray.size_append]); omega))) (h := ?_))
  all_goals (first | refine aw_take 5 (h := ?_) | refine aw_take 5 (hy := by (first | (apply y_cat; rfl; rfl; (try simp only [ByteArray.size_append]); omega))) (h := ?_))
  all_goals (first | refine aw_take 8 (h := ?_) | refine aw_take 8 (hy := by (first | (apply y_cat; rfl; rfl; (try simp only [ByteArray.size_append]); omega))) (h := ?_))
  all_goals (first | refine aw_take 9 (h := ?_) | refine aw_take 9 (hy := by (first | (apply y_cat; rfl; rfl; (try simp only [ByteArray.size_append]); omega))) (h := ?_))
  all_goals (first | refine aw_take 12 (h := ?_) | refine aw_take 12 (hy := by (first | (apply y_cat; rfl; rfl; (try simp only [ByteArray.size_append]); omega))) (h := ?_))
  all_goals (first | refine aw_take 13 (h := ?_) | refine aw_take 13 (hy := by (first | (apply y_cat; rfl; rfl; (try simp only [ByteArray.size_append]); omega))) (h := ?_))
  all_goals (refine aw_step 3 (h := ?_); (first | refine sw_pu (hc := num_pu _ (by omega)) (h := ?_) | refine sw_pu (hc := text_pu _ (by omega)) (h := ?_) | refine sw_pu (hc := list_pu a.to a.toL (by omega)) (h := ?_)); apply sw_nil; refine aw_fin (h := ?_))
  all_goals (refine aw_step 6 (h := ?_); (first | refine sw_pu (hc := num_pu _ (by omega)) (h := ?_) | refine sw_pu (hc := text_pu _ (by omega)) (h := ?_) | refine sw_pu (hc := list_pu a.to a.toL (by omega)) (h := ?_)); apply sw_nil; refine aw_fin (h := ?_))
  all_goals (first | refine aw_take 7 (h := ?_) | refine aw_take 7 (hy := by (first | (apply y_cat; rfl; rfl; (try simp only [ByteArray.size_append]); omega))) (h := ?_))
  all_goals (refine aw_step 10 (h := ?_); (first | refine sw_pu (hc := num_pu _ (by omega)) (h := ?_) | refine sw_pu (hc := text_pu _ (by omega)) (h := ?_) | refine sw_pu (hc := list_pu a.to a.toL (by omega)) (h := ?_)); apply sw_nil; refine aw_fin (h := ?_))
  all_goals (first | refine aw_take 11 (h := ?_) | refine aw_take 11 (hy := by (first | (apply y_cat; rfl; rfl; (try simp only [ByteArray.size_append]); omega))) (h := ?_))
  all_goals (refine aw_step 14 (h := ?_); (first | refine sw_pu (hc := num_pu _ (by omega)) (h := ?_) | refine sw_pu (hc := text_pu _ (by omega)) (h := ?_) | refine sw_pu (hc := list_pu a.to a.toL (by omega)) (h := ?_)); apply sw_nil; refine aw_fin (h := ?_))
  all_goals (first | refine aw_take 15 (h := ?_) | refine aw_take 15 (hy := by (first | (apply y_cat; rfl; rfl; (try simp only [ByteArray.size_append]); omega))) (h := ?_))
  all_goals (first | refine aw_take 16 (h := ?_) | refine aw_take 16 (hy := by (first | (apply y_cat; rfl; rfl; (try simp only [ByteArray.size_append]); omega))) (h := ?_))
  all_goals (refine aw_take 17 (h := ?_))
  all_goals (refine aw_done (h := ?_))
  repeat' (first | apply sw_nil | apply cw_seq | apply cw_reg | refine sy_move (h := ?_) | refine sy_assign (h := ?_) | refine sy_nilCheck (h := ?_) | refine sy_fld (h := ?_) | refine sy_ld (h := ?_) | refine sy_ldAll (h := ?_) | refine sy_pick_t (h := ?_) | refine sy_pick_f (h := ?_) | refine sy_not (h := ?_) | refine sy_eql (h := ?_) | refine sy_neq (h := ?_) | refine sy_lss (h := ?_) | refine sy_leq (h := ?_) | refine sy_gtr (h := ?_) | refine sy_geq (h := ?_) | refine sy_seql (h := ?_) | refine sy_sneq (h := ?_) | refine sy_slen (h := ?_) | refine sy_len (h := ?_) | refine sy_extract (h := ?_) | refine sy_add (h := ?_) | refine sy_sub (h := ?_) | refine sw_skipT (h := ?_) | refine sw_skipF (h := ?_) | refine sw_skipU (h := ?_) | refine sw_alloc (h := fun _ => ?_) | refine sw_box (h := fun _ => ?_) | refine sw_rangeS (h := fun _ => ?_) | refine sw_nextS (h1 := fun _ => ?_) (h2 := fun _ => ?_) | refine sw_bsl (h := fun _ => ?_) | refine sw_st1 (h := ?_) | refine sw_stAll (h := ?_) | refine cw_cond_t (ht := ?_) | refine cw_cond_f (hf := ?_) | apply cw_skip | apply cw_block | apply cw_ret | apply cw_exit | refine sy_and (h := ?_) | refine sy_or (h := ?_) | refine sy_xor (h := ?_) | refine sy_andNot (h := ?_) | refine sy_xorU (h := ?_) | refine sy_shl (h := ?_) | refine sy_shr (h := ?_) | refine sy_mul (h := ?_) | refine sy_int (h := ?_) | refine sy_beql (h := ?_) | refine sy_bneq (h := ?_) | refine sy_min (h := ?_) | refine sy_max (h := ?_) | refine sy_arrA (h := ?_) | refine sy_strI (h := ?_) | ((fail_if_success (refine sw_chk (h := ?_))); refine sw_guard (ht := ?_) (hf := ?_); all_goals (intro hx_; first | have := of_decide_eq_true hx_ | have := of_decide_eq_false hx_ | skip)) | (refine cw_cond (ht := ?_) (hf := ?_); all_goals (intro hx_; first | have := of_decide_eq_true hx_ | have := of_decide_eq_false hx_ | skip)))
  (apply cw_draw0; kernel_rfl)
  all_goals (refine aw_take 0 (h := ?_))
  all_goals (first | refine aw_take 1 (h := ?_) | refine aw_take 1 (hy := by (first | (apply y_cat; rfl; rfl; (try simp only [ByteArray.size_append]); omega))) (h := ?_))
  all_goals (first | refine aw_take 2 (h := ?_) | refine aw_take 2 (hy := by (first | (apply y_ldSub; rfl; (repeat (first | exact List.mem_cons_self | apply List.mem_cons_of_mem)); exact ActD.cells_body _; rfl) | (apply y_cat; rfl; rfl; (try simp only [ByteArray.size_append]); omega))) (h := ?_))
  all_goals (first | refine aw_take 4 (h := ?_) | refine aw_take 4 (hy := by (first | (apply y_cat; rfl; rfl; (try simp only [ByteArray.size_append]); omega))) (h := ?_))
  all_goals (first | refine aw_take 5 (h := ?_) | refine aw_take 5 (hy := by (first | (apply y_ldSub; rfl; (repeat (first | exact List.mem_cons_self | apply List.mem_cons_of_mem)); exact ActD.cells_body _; rfl) | (apply y_cat; rfl; rfl; (try simp only [ByteArray.size_append]); omega))) (h := ?_))
  all_goals (first | refine aw_take 8 (h := ?_) | refine aw_take 8 (hy := by (first | (apply y_cat; rfl; rfl; (try simp only [ByteArray.size_append]); omega))) (h := ?_))
  all_goals (first | refine aw_take 9 (h := ?_) | refine aw_take 9 (hy := by (first | (apply y_ldSub; rfl; (repeat (first | exact List.mem_cons_self | apply List.mem_cons_of_mem)); exact ActD.cells_body _; rfl) | (apply y_cat; rfl; rfl; (try simp only [ByteArray.size_append]); omega))) (h := ?_))
  all_goals (first | refine aw_take 10 (h := ?_) | refine aw_take 10 (hy := by (first | (apply y_cat; rfl; rfl; (try simp only [ByteArray.size_append]); omega))) (h := ?_))
  all_goals (refine aw_step 3 (h := ?_); (first | refine sw_pu (hc := num_pu _ (by omega)) (h := ?_) | refine sw_pu (hc := boxBytes_pu a.body ha.body) (h := ?_)); apply sw_nil; refine aw_fin (h := ?_))
  all_goals (refine aw_step 6 (h := ?_); (first | refine sw_pu (hc := num_pu _ (by omega)) (h := ?_) | refine sw_pu (hc := boxBytes_pu a.body ha.body) (h := ?_)); apply sw_nil; refine aw_fin (h := ?_))
  all_goals (first | refine aw_take 7 (h := ?_) | refine aw_take 7 (hy := by (first | (apply y_cat; rfl; rfl; (try simp only [ByteArray.size_append]); omega))) (h := ?_))
  all_goals (refine aw_step 11 (h := ?_); (first | refine sw_pu (hc := num_pu _ (by omega)) (h := ?_) | refine sw_pu (hc := boxBytes_pu a.body ha.body) (h := ?_)); apply sw_nil; refine aw_fin (h := ?_))
  all_goals (first | refine aw_take 12 (h := ?_) | refine aw_take 12 (hy := by (first | (apply y_cat; rfl; rfl; (try simp only [ByteArray.size_append]); omega))) (h := ?_))
  all_goals (first | refine aw_take 13 (h := ?_) | refine aw_take 13 (hy := by (first | (apply y_cat; rfl; rfl; (try simp only [ByteArray.size_append]); omega))) (h := ?_))
  all_goals (refine aw_take 14 (h := ?_))
  all_goals (refine aw_done (h := ?_))
  repeat' (first | apply sw_nil | apply cw_seq | apply cw_reg | refine sy_move (h := ?_) | refine sy_assign (h := ?_) | refine sy_nilCheck (h := ?_) | refine sy_fld (h := ?_) | refine sy_ld (h := ?_) | refine sy_ldAll (h := ?_) | refine sy_pick_t (h := ?_) | refine sy_pick_f (h := ?_) | refine sy_not (h := ?_) | refine sy_eql (h := ?_) | refine sy_neq (h := ?_) | refine sy_lss (h := ?_) | refine sy_leq (h := ?_) | refine sy_gtr (h := ?_) | refine sy_geq (h := ?_) | refine sy_seql (h := ?_) | refine sy_sneq (h := ?_) | refine sy_slen (h := ?_) | refine sy_len (h := ?_) | refine sy_extract (h := ?_) | refine sy_add (h := ?_) | refine sy_sub (h := ?_) | refine sw_skipT (h := ?_) | refine sw_skipF (h := ?_) | refine sw_skipU (h := ?_) | refine sw_alloc (h := fun _ => ?_) | refine sw_box (h := fun _ => ?_) | refine sw_rangeS (h := fun _ => ?_) | refine sw_nextS (h1 := fun _ => ?_) (h2 := fun _ => ?_) | refine sw_bsl (h := fun _ => ?_) | refine sw_st1 (h := ?_) | refine sw_stAll (h := ?_) | refine cw_cond_t (ht := ?_) | refine cw_cond_f (hf := ?_) | apply cw_skip | apply cw_block | apply cw_ret | apply cw_exit | refine sy_and (h := ?_) | refine sy_or (h := ?_) | refine sy_xor (h := ?_) | refine sy_andNot (h := ?_) | refine sy_xorU (h := ?_) | refine sy_shl (h := ?_) | refine sy_shr (h := ?_) | refine sy_mul (h := ?_) | refine sy_int (h := ?_) | refine sy_beql (h := ?_) | refine sy_bneq (h := ?_) | refine sy_min (h := ?_) | refine sy_max (h := ?_) | refine sy_arrA (h := ?_) | refine sy_strI (h := ?_) | ((fail_if_success (refine sw_chk (h := ?_))); refine sw_guard (ht := ?_) (hf := ?_); all_goals (intro hx_; first | have := of_decide_eq_true hx_ | have := of_decide_eq_false hx_ | skip)) | (refine cw_cond (ht := ?_) (hf := ?_); all_goals (intro hx_; first | have := of_decide_eq_true hx_ | have := of_decide_eq_false hx_ | skip)))
  rename_i b
  have hc4 : (core4 a).size ≤ 100000000000 := by
    have : (numV a.wrapsL.length).size ≤ 10 := numV_size _
    simp only [core4, core3, core2, core1, ByteArray.size_append]
    omega
  have hle := cats_take (a.wrapsL.map wrapV)
  have hw := ha.wrapsV
  have e0 : core5 a 0 = core4 a := by simp [core5, cats]
  refine cw_loop (ι := Kth a.wrapsL.length) (fun i => ⟨[(1, .pointer (some ⟨b, 0, none⟩)), (3, .string (core5 a i.k)), (71, a.wraps.v), (72, .int .i64 a.wraps.n), (73, .int .i64 i.k)], [cel b 49 a.cells], (ActD.at_ · a)⟩) (fun i => a.wrapsL.length - i.k) ⟨0, Nat.zero_le _⟩ (ok_sub ⟨rfl, ?_, rfl, rfl, rfl, trivial⟩ (List.Sublist.refl _) fun _ h => h) fun i => ?_
  · simp only [e0, core4, core3, core2, core1, ← hl]; rfl
  have hik := i.hk
  have hk5 : (core5 a i.k).size ≤ 200000000000 := by have := hle i.k; simp only [core5, ByteArray.size_append]; omega
  repeat' (first | apply sw_nil | apply cw_seq | apply cw_reg | refine sy_move (h := ?_) | refine sy_assign (h := ?_) | refine sy_nilCheck (h := ?_) | refine sy_fld (h := ?_) | refine sy_ld (h := ?_) | refine sy_ldAll (h := ?_) | refine sy_pick_t (h := ?_) | refine sy_pick_f (h := ?_) | refine sy_not (h := ?_) | refine sy_eql (h := ?_) | refine sy_neq (h := ?_) | refine sy_lss (h := ?_) | refine sy_leq (h := ?_) | refine sy_gtr (h := ?_) | refine sy_geq (h := ?_) | refine sy_seql (h := ?_) | refine sy_sneq (h := ?_) | refine sy_slen (h := ?_) | refine sy_len (h := ?_) | refine sy_extract (h := ?_) | refine sy_add (h := ?_) | refine sy_sub (h := ?_) | refine sw_skipT (h := ?_) | refine sw_skipF (h := ?_) | refine sw_skipU (h := ?_) | refine sw_alloc (h := fun _ => ?_) | refine sw_box (h := fun _ => ?_) | refine sw_rangeS (h := fun _ => ?_) | refine sw_nextS (h1 := fun _ => ?_) (h2 := fun _ => ?_) | refine sw_bsl (h := fun _ => ?_) | refine sw_st1 (h := ?_) | refine sw_stAll (h := ?_) | refine cw_cond_t (ht := ?_) | refine cw_cond_f (hf := ?_) | apply cw_skip | apply cw_block | apply cw_ret | apply cw_exit | refine sy_and (h := ?_) | refine sy_or (h := ?_) | refine sy_xor (h := ?_) | refine sy_andNot (h := ?_) | refine sy_xorU (h := ?_) | refine sy_shl (h := ?_) | refine sy_shr (h := ?_) | refine sy_mul (h := ?_) | refine sy_int (h := ?_) | refine sy_beql (h := ?_) | refine sy_bneq (h := ?_) | refine sy_min (h := ?_) | refine sy_max (h := ?_) | refine sy_arrA (h := ?_) | refine sy_strI (h := ?_) | ((fail_if_success (refine sw_chk (h := ?_))); refine sw_guard (ht := ?_) (hf := ?_); all_goals (intro hx_; first | have := of_decide_eq_true hx_ | have := of_decide_eq_false hx_ | skip)) | (refine cw_cond (ht := ?_) (hf := ?_); all_goals (intro hx_; first | have := of_decide_eq_true hx_ | have := of_decide_eq_false hx_ | skip)))
  · have hlt : i.k < a.wrapsL.length := by omega
    have hp' := hp (by omega)
    obtain ⟨x, hx⟩ : ∃ x, a.wrapsL[i.k]? = some x := ⟨_, List.getElem?_eq_getElem hlt⟩
    have hxm : x ∈ a.wrapsL := List.mem_of_getElem? hx
    have hf := ha.wraps x hxm
    have hfs := boxV_size hf
    obtain ⟨w1, w2⟩ := ha.wints x hxm
    have m1 := numV_size x.to
    have m2 := numV_size x.eph
    repeat' (first | apply sw_nil | apply cw_seq | apply cw_reg | refine sy_move (h := ?_) | refine sy_assign (h := ?_) | refine sy_nilCheck (h := ?_) | refine sy_fld (h := ?_) | refine sy_ld (h := ?_) | refine sy_ldAll (h := ?_) | refine sy_pick_t (h := ?_) | refine sy_pick_f (h := ?_) | refine sy_not (h := ?_) | refine sy_eql (h := ?_) | refine sy_neq (h := ?_) | refine sy_lss (h := ?_) | refine sy_leq (h := ?_) | refine sy_gtr (h := ?_) | refine sy_geq (h := ?_) | refine sy_seql (h := ?_) | refine sy_sneq (h := ?_) | refine sy_slen (h := ?_) | refine sy_len (h := ?_) | refine sy_extract (h := ?_) | refine sy_add (h := ?_) | refine sy_sub (h := ?_) | refine sw_skipT (h := ?_) | refine sw_skipF (h := ?_) | refine sw_skipU (h := ?_) | refine sw_alloc (h := fun _ => ?_) | refine sw_box (h := fun _ => ?_) | refine sw_rangeS (h := fun _ => ?_) | refine sw_nextS (h1 := fun _ => ?_) (h2 := fun _ => ?_) | refine sw_bsl (h := fun _ => ?_) | refine sw_st1 (h := ?_) | refine sw_stAll (h := ?_) | refine cw_cond_t (ht := ?_) | refine cw_cond_f (hf := ?_) | apply cw_skip | apply cw_block | apply cw_ret | apply cw_exit | refine sy_and (h := ?_) | refine sy_or (h := ?_) | refine sy_xor (h := ?_) | refine sy_andNot (h := ?_) | refine sy_xorU (h := ?_) | refine sy_shl (h := ?_) | refine sy_shr (h := ?_) | refine sy_mul (h := ?_) | refine sy_int (h := ?_) | refine sy_beql (h := ?_) | refine sy_bneq (h := ?_) | refine sy_min (h := ?_) | refine sy_max (h := ?_) | refine sy_arrA (h := ?_) | refine sy_strI (h := ?_) | (refine sy_idxX (q := i.k * 5) (h := ?_)) | (refine sy_ldXs (cs := x.cells) (hF := fun w h => Wraps.get h.2 hx) (h := ?_)) | ((fail_if_success (refine sw_chk (h := ?_))); refine sw_guard (ht := ?_) (hf := ?_); all_goals (intro hx_; first | have := of_decide_eq_true hx_ | have := of_decide_eq_false hx_ | skip)) | (refine cw_cond (ht := ?_) (hf := ?_); all_goals (intro hx_; first | have := of_decide_eq_true hx_ | have := of_decide_eq_false hx_ | skip)))
    (apply cw_draw0; kernel_rfl)
    all_goals (refine aw_take 0 (h := ?_))
    all_goals (first | refine aw_take 1 (h := ?_) | refine aw_take 1 (hy := by (first | (apply y_cat; rfl; rfl; (try simp only [ByteArray.size_append]); omega))) (h := ?_))
    all_goals (first | refine aw_take 2 (h := ?_) | refine aw_take 2 (hy := by (first | (apply y_ldSub; rfl; (repeat (first | exact List.mem_cons_self | apply List.mem_cons_of_mem)); exact WrapD.cells_box _; rfl) | (apply y_cat; rfl; rfl; (try simp only [ByteArray.size_append]); omega))) (h := ?_))
    all_goals (first | refine aw_take 4 (h := ?_) | refine aw_take 4 (hy := by (first | (apply y_cat; rfl; rfl; (try simp only [ByteArray.size_append]); omega))) (h := ?_))
    all_goals (first | refine aw_take 5 (h := ?_) | refine aw_take 5 (hy := by (first | (apply y_ldSub; rfl; (repeat (first | exact List.mem_cons_self | apply List.mem_cons_of_mem)); exact WrapD.cells_box _; rfl) | (apply y_cat; rfl; rfl; (try simp only [ByteArray.size_append]); omega))) (h := ?_))
    all_goals (first | refine aw_take 8 (h := ?_) | refine aw_take 8 (hy := by (first | (apply y_cat; rfl; rfl; (try simp only [ByteArray.size_append]); omega))) (h := ?_))
    all_goals (first | refine aw_take 9 (h := ?_) | refine aw_take 9 (hy := by (first | (apply y_ldSub; rfl; (repeat (first | exact List.mem_cons_self | apply List.mem_cons_of_mem)); exact WrapD.cells_box _; rfl) | (apply y_cat; rfl; rfl; (try simp only [ByteArray.size_append]); omega))) (h := ?_))
    all_goals (refine aw_step 3 (h := ?_); (first | refine sw_pu (hc := num_pu _ (by omega)) (h := ?_) | refine sw_pu (hc := boxBytes_pu x.box hf) (h := ?_)); apply sw_nil; refine aw_fin (h := ?_))
    all_goals (refine aw_step 6 (h := ?_); (first | refine sw_pu (hc := num_pu _ (by omega)) (h := ?_) | refine sw_pu (hc := boxBytes_pu x.box hf) (h := ?_)); apply sw_nil; refine aw_fin (h := ?_))
    all_goals (first | refine aw_take 7 (h := ?_) | refine aw_take 7 (hy := by (first | (apply y_cat; rfl; rfl; (try simp only [ByteArray.size_append]); omega))) (h := ?_))
    all_goals (refine aw_step 10 (h := ?_); (first | refine sw_pu (hc := num_pu _ (by omega)) (h := ?_) | refine sw_pu (hc := boxBytes_pu x.box hf) (h := ?_)); apply sw_nil; refine aw_fin (h := ?_))
    all_goals (first | refine aw_take 11 (h := ?_) | refine aw_take 11 (hy := by (first | (apply y_cat; rfl; rfl; (try simp only [ByteArray.size_append]); omega))) (h := ?_))
    all_goals (first | refine aw_take 12 (h := ?_) | refine aw_take 12 (hy := by (first | (apply y_cat; rfl; rfl; (try simp only [ByteArray.size_append]); omega))) (h := ?_))
    all_goals (refine aw_take 13 (h := ?_))
    all_goals (refine aw_done (h := ?_))
    repeat' (first | apply sw_nil | apply cw_seq | apply cw_reg | refine sy_move (h := ?_) | refine sy_assign (h := ?_) | refine sy_nilCheck (h := ?_) | refine sy_fld (h := ?_) | refine sy_ld (h := ?_) | refine sy_ldAll (h := ?_) | refine sy_pick_t (h := ?_) | refine sy_pick_f (h := ?_) | refine sy_not (h := ?_) | refine sy_eql (h := ?_) | refine sy_neq (h := ?_) | refine sy_lss (h := ?_) | refine sy_leq (h := ?_) | refine sy_gtr (h := ?_) | refine sy_geq (h := ?_) | refine sy_seql (h := ?_) | refine sy_sneq (h := ?_) | refine sy_slen (h := ?_) | refine sy_len (h := ?_) | refine sy_extract (h := ?_) | refine sy_add (h := ?_) | refine sy_sub (h := ?_) | refine sw_skipT (h := ?_) | refine sw_skipF (h := ?_) | refine sw_skipU (h := ?_) | refine sw_alloc (h := fun _ => ?_) | refine sw_box (h := fun _ => ?_) | refine sw_rangeS (h := fun _ => ?_) | refine sw_nextS (h1 := fun _ => ?_) (h2 := fun _ => ?_) | refine sw_bsl (h := fun _ => ?_) | refine sw_st1 (h := ?_) | refine sw_stAll (h := ?_) | refine cw_cond_t (ht := ?_) | refine cw_cond_f (hf := ?_) | apply cw_skip | apply cw_block | apply cw_ret | apply cw_exit | refine sy_and (h := ?_) | refine sy_or (h := ?_) | refine sy_xor (h := ?_) | refine sy_andNot (h := ?_) | refine sy_xorU (h := ?_) | refine sy_shl (h := ?_) | refine sy_shr (h := ?_) | refine sy_mul (h := ?_) | refine sy_int (h := ?_) | refine sy_beql (h := ?_) | refine sy_bneq (h := ?_) | refine sy_min (h := ?_) | refine sy_max (h := ?_) | refine sy_arrA (h := ?_) | refine sy_strI (h := ?_) | ((fail_if_success (refine sw_chk (h := ?_))); refine sw_guard (ht := ?_) (hf := ?_); all_goals (intro hx_; first | have := of_decide_eq_true hx_ | have := of_decide_eq_false hx_ | skip)) | (refine cw_cond (ht := ?_) (hf := ?_); all_goals (intro hx_; first | have := of_decide_eq_true hx_ | have := of_decide_eq_false hx_ | skip)))
    have hsucc := cats_succ (a.wrapsL.map wrapV) (k := i.k) (by simpa using hlt)
    have hget : (a.wrapsL.map wrapV).getD i.k .empty = wrapV x := by simp [hx]
    rw [hget] at hsucc
    have e2 : core5 a (i.k + 1) = core5 a i.k ++ (numV x.to ++ numV x.eph ++ boxV x.box) := by simp only [core5, hsucc, ByteArray.append_assoc, wrapV]
    all_goals exact ⟨(⟨i.k + 1, hlt⟩ : Kth a.wrapsL.length), (by show a.wrapsL.length - (i.k + 1) < a.wrapsL.length - i.k; omega), ok_sub ⟨rfl, by rw [e2]; rfl, rfl, rfl, rfl, trivial⟩ (List.Sublist.cons _ (List.Sublist.refl _)) fun _ h => h⟩
  have hke : i.k = a.wrapsL.length := by omega
  (apply cw_draw0; kernel_rfl)
  all_goals (refine aw_take 0 (h := ?_))
  all_goals (first | refine aw_take 1 (h := ?_) | refine aw_take 1 (hy := by (first | (apply y_cat; rfl; rfl; (try simp only [ByteArray.size_append]); omega))) (h := ?_))
  all_goals (first | refine aw_take 2 (h := ?_) | refine aw_take 2 (hy := by (first | (apply y_cat; rfl; rfl; (try simp only [ByteArray.size_append]); omega))) (h := ?_))
  all_goals (first | refine aw_take 5 (h := ?_) | refine aw_take 5 (hy := by (first | (apply y_cat; rfl; rfl; (try simp only [ByteArray.size_append]); omega))) (h := ?_))
  all_goals (first | refine aw_take 6 (h := ?_) | refine aw_take 6 (hy := by (first | (apply y_cat; rfl; rfl; (try simp only [ByteArray.size_append]); omega))) (h := ?_))
  all_goals (refine aw_step 3 (h := ?_); (first | refine sw_pu (hc := num_pu _ (by omega)) (h := ?_)); apply sw_nil; refine aw_fin (h := ?_))
  all_goals (first | refine aw_take 4 (h := ?_) | refine aw_take 4 (hy := by (first | (apply y_cat; rfl; rfl; (try simp only [ByteArray.size_append]); omega))) (h := ?_))
  all_goals (refine aw_step 7 (h := ?_); (first | refine sw_pu (hc := num_pu _ (by omega)) (h := ?_)); apply sw_nil; refine aw_fin (h := ?_))
  all_goals (first | refine aw_take 8 (h := ?_) | refine aw_take 8 (hy := by (first | (apply y_cat; rfl; rfl; (try simp only [ByteArray.size_append]); omega))) (h := ?_))
  all_goals (refine aw_take 9 (h := ?_))
  all_goals (refine aw_done (h := ?_))
  repeat' (first | apply sw_nil | apply cw_seq | apply cw_reg | refine sy_move (h := ?_) | refine sy_assign (h := ?_) | refine sy_nilCheck (h := ?_) | refine sy_fld (h := ?_) | refine sy_ld (h := ?_) | refine sy_ldAll (h := ?_) | refine sy_pick_t (h := ?_) | refine sy_pick_f (h := ?_) | refine sy_not (h := ?_) | refine sy_eql (h := ?_) | refine sy_neq (h := ?_) | refine sy_lss (h := ?_) | refine sy_leq (h := ?_) | refine sy_gtr (h := ?_) | refine sy_geq (h := ?_) | refine sy_seql (h := ?_) | refine sy_sneq (h := ?_) | refine sy_slen (h := ?_) | refine sy_len (h := ?_) | refine sy_extract (h := ?_) | refine sy_add (h := ?_) | refine sy_sub (h := ?_) | refine sw_skipT (h := ?_) | refine sw_skipF (h := ?_) | refine sw_skipU (h := ?_) | refine sw_alloc (h := fun _ => ?_) | refine sw_box (h := fun _ => ?_) | refine sw_rangeS (h := fun _ => ?_) | refine sw_nextS (h1 := fun _ => ?_) (h2 := fun _ => ?_) | refine sw_bsl (h := fun _ => ?_) | refine sw_st1 (h := ?_) | refine sw_stAll (h := ?_) | refine cw_cond_t (ht := ?_) | refine cw_cond_f (hf := ?_) | apply cw_skip | apply cw_block | apply cw_ret | apply cw_exit | refine sy_and (h := ?_) | refine sy_or (h := ?_) | refine sy_xor (h := ?_) | refine sy_andNot (h := ?_) | refine sy_xorU (h := ?_) | refine sy_shl (h := ?_) | refine sy_shr (h := ?_) | refine sy_mul (h := ?_) | refine sy_int (h := ?_) | refine sy_beql (h := ?_) | refine sy_bneq (h := ?_) | refine sy_min (h := ?_) | refine sy_max (h := ?_) | refine sy_arrA (h := ?_) | refine sy_strI (h := ?_) | ((fail_if_success (refine sw_chk (h := ?_))); refine sw_guard (ht := ?_) (hf := ?_); all_goals (intro hx_; first | have := of_decide_eq_true hx_ | have := of_decide_eq_false hx_ | skip)) | (refine cw_cond (ht := ?_) (hf := ?_); all_goals (intro hx_; first | have := of_decide_eq_true hx_ | have := of_decide_eq_false hx_ | skip)))
  apply ends_ret; apply res_tmp; rfl; rfl
  simp only [cond_true, coreV, ← hke]
theorem coreV_size {a : ActD} (ha : a.Fit) : (coreV a).size ≤ 300000000000 := by
  have s1 := textV_size a.author
  have s2 := textV_size a.prev
  have s3 := textV_size a.object
  have s4 := textV_size a.target
  have s5 := textV_size a.group
  have s6 := textV_size a.text
  have s7 := textV_size ⟨#[97, 99, 116]⟩
  have s8 := boxV_size ha.body
  have h1 := ha.author
  have h2 := ha.prev
  have h3 := ha.object
  have h4 := ha.target
  have h5 := ha.group
  have h6 := ha.text
  have h7 := ha.to
  have h8 : (⟨#[97, 99, 116]⟩ : ByteArray).size = 3 := rfl
  have n1 := numV_size a.seq
  have n2 := numV_size a.kind
  have n3 := numV_size a.time
  have n4 := numV_size a.scope
  have n5 := numV_size a.epoch
  have n6 := numV_size a.wrapsL.length
  have n7 := numV_size a.n
  have n8 := numV_size a.m
  have hle := cats_take (a.wrapsL.map wrapV) a.wrapsL.length
  have hw := ha.wrapsV
  simp only [coreV, core5, core4, core3, core2, core1, ByteArray.size_append]
  omega
def actCore (a : ActD) : ByteArray := bif rightB a then coreV a else ⟨#[]⟩
def actBytes (a : ActD) : ByteArray := bif seqB (actCore a) ⟨#[]⟩ then ⟨#[]⟩ else actCore a ++ numV a.e ++ numV a.s
theorem actBytes_pu (a : ActD) (ha : rightB a = true → a.Fit) (hi : a.e < 9223372036854775808 ∧ a.s < 9223372036854775808) : Pu Tryz.prog 93 #[a.v] (ActD.at_ · a) (.string (actBytes a)) := by
  refine pu_of_cw (args := [_]) _ Tryz.func93 rfl Tryz.ntmps93 rfl fun av bor w0 => ?_
  obtain ⟨i8, i9⟩ := hi
  have n7 := numV_size a.e
  have n8 := numV_size a.s
  have hc : (actCore a).size ≤ 300000000000 := by
    unfold actCore
    cases hrB : rightB a with
    | true => exact coreV_size (ha hrB)
    | false => simp [ByteArray.size]
  have hcp : Pu Tryz.prog 118 #[a.v] (ActD.at_ · a) (.string (actCore a)) := core_pu a ha
  repeat' (first | apply sw_nil | apply cw_seq | apply cw_reg | refine sy_move (h := ?_) | refine sy_assign (h := ?_) | refine sy_nilCheck (h := ?_) | refine sy_fld (h := ?_) | refine sy_ld (h := ?_) | refine sy_ldAll (h := ?_) | refine sy_pick_t (h := ?_) | refine sy_pick_f (h := ?_) | refine sy_not (h := ?_) | refine sy_eql (h := ?_) | refine sy_neq (h := ?_) | refine sy_lss (h := ?_) | refine sy_leq (h := ?_) | refine sy_gtr (h := ?_) | refine sy_geq (h := ?_) | refine sy_seql (h := ?_) | refine sy_sneq (h := ?_) | refine sy_slen (h := ?_) | refine sy_len (h := ?_) | refine sy_extract (h := ?_) | refine sy_add (h := ?_) | refine sy_sub (h := ?_) | refine sw_skipT (h := ?_) | refine sw_skipF (h := ?_) | refine sw_skipU (h := ?_) | refine sw_alloc (h := fun _ => ?_) | refine sw_box (h := fun _ => ?_) | refine sw_rangeS (h := fun _ => ?_) | refine sw_nextS (h1 := fun _ => ?_) (h2 := fun _ => ?_) | refine sw_bsl (h := fun _ => ?_) | refine sw_st1 (h := ?_) | refine sw_stAll (h := ?_) | refine cw_cond_t (ht := ?_) | refine cw_cond_f (hf := ?_) | apply cw_skip | apply cw_block | apply cw_ret | apply cw_exit | refine sy_and (h := ?_) | refine sy_or (h := ?_) | refine sy_xor (h := ?_) | refine sy_andNot (h := ?_) | refine sy_xorU (h := ?_) | refine sy_shl (h := ?_) | refine sy_shr (h := ?_) | refine sy_mul (h := ?_) | refine sy_int (h := ?_) | refine sy_beql (h := ?_) | refine sy_bneq (h := ?_) | refine sy_min (h := ?_) | refine sy_max (h := ?_) | refine sy_arrA (h := ?_) | refine sy_strI (h := ?_) | refine sw_pu (hc := hcp) (h := ?_) | ((fail_if_success (refine sw_chk (h := ?_))); refine sw_guard (ht := ?_) (hf := ?_); all_goals (intro hx_; first | have := of_decide_eq_true hx_ | have := of_decide_eq_false hx_ | skip)) | (refine cw_cond (ht := ?_) (hf := ?_); all_goals (intro hx_; first | have := of_decide_eq_true hx_ | have := of_decide_eq_false hx_ | skip)))
  · (all_goals (apply ends_ret; apply res_tmp; rfl; rfl)); all_goals first | rfl | (simp only [actBytes, *, decide_true, decide_false, cond_true, cond_false, Bool.and_true, Bool.true_and, Bool.and_false, Bool.false_and, Bool.not_true, Bool.not_false, Bool.or_true, Bool.true_or, Bool.or_false, Bool.false_or]; done) | (simp_all [actBytes]; done)
  (apply cw_draw0; kernel_rfl)
  all_goals (refine aw_take 0 (h := ?_))
  all_goals (first | refine aw_take 1 (h := ?_) | refine aw_take 1 (hy := by (first | (apply y_cat; rfl; rfl; (try simp only [ByteArray.size_append]); omega))) (h := ?_))
  all_goals (first | refine aw_take 2 (h := ?_) | refine aw_take 2 (hy := by (first | (apply y_cat; rfl; rfl; (try simp only [ByteArray.size_append]); omega))) (h := ?_))
  all_goals (first | refine aw_take 3 (h := ?_) | refine aw_take 3 (hy := by (first | (apply y_cat; rfl; rfl; (try simp only [ByteArray.size_append]); omega))) (h := ?_))
  all_goals (first | refine aw_take 6 (h := ?_) | refine aw_take 6 (hy := by (first | (apply y_cat; rfl; rfl; (try simp only [ByteArray.size_append]); omega))) (h := ?_))
  all_goals (first | refine aw_take 7 (h := ?_) | refine aw_take 7 (hy := by (first | (apply y_cat; rfl; rfl; (try simp only [ByteArray.size_append]); omega))) (h := ?_))
  all_goals (first | refine aw_take 8 (h := ?_) | refine aw_take 8 (hy := by (first | (apply y_cat; rfl; rfl; (try simp only [ByteArray.size_append]); omega))) (h := ?_))
  all_goals (refine aw_step 4 (h := ?_); (first | refine sw_pu (hc := num_pu _ (by omega)) (h := ?_)); apply sw_nil; refine aw_fin (h := ?_))
  all_goals (first | refine aw_take 5 (h := ?_) | refine aw_take 5 (hy := by (first | (apply y_cat; rfl; rfl; (try simp only [ByteArray.size_append]); omega))) (h := ?_))
  all_goals (refine aw_step 9 (h := ?_); (first | refine sw_pu (hc := num_pu _ (by omega)) (h := ?_)); apply sw_nil; refine aw_fin (h := ?_))
  all_goals (first | refine aw_take 10 (h := ?_) | refine aw_take 10 (hy := by (first | (apply y_cat; rfl; rfl; (try simp only [ByteArray.size_append]); omega))) (h := ?_))
  all_goals (refine aw_take 11 (h := ?_))
  all_goals (refine aw_done (h := ?_))
  repeat' (first | apply sw_nil | apply cw_seq | apply cw_reg | refine sy_move (h := ?_) | refine sy_assign (h := ?_) | refine sy_nilCheck (h := ?_) | refine sy_fld (h := ?_) | refine sy_ld (h := ?_) | refine sy_ldAll (h := ?_) | refine sy_pick_t (h := ?_) | refine sy_pick_f (h := ?_) | refine sy_not (h := ?_) | refine sy_eql (h := ?_) | refine sy_neq (h := ?_) | refine sy_lss (h := ?_) | refine sy_leq (h := ?_) | refine sy_gtr (h := ?_) | refine sy_geq (h := ?_) | refine sy_seql (h := ?_) | refine sy_sneq (h := ?_) | refine sy_slen (h := ?_) | refine sy_len (h := ?_) | refine sy_extract (h := ?_) | refine sy_add (h := ?_) | refine sy_sub (h := ?_) | refine sw_skipT (h := ?_) | refine sw_skipF (h := ?_) | refine sw_skipU (h := ?_) | refine sw_alloc (h := fun _ => ?_) | refine sw_box (h := fun _ => ?_) | refine sw_rangeS (h := fun _ => ?_) | refine sw_nextS (h1 := fun _ => ?_) (h2 := fun _ => ?_) | refine sw_bsl (h := fun _ => ?_) | refine sw_st1 (h := ?_) | refine sw_stAll (h := ?_) | refine cw_cond_t (ht := ?_) | refine cw_cond_f (hf := ?_) | apply cw_skip | apply cw_block | apply cw_ret | apply cw_exit | refine sy_and (h := ?_) | refine sy_or (h := ?_) | refine sy_xor (h := ?_) | refine sy_andNot (h := ?_) | refine sy_xorU (h := ?_) | refine sy_shl (h := ?_) | refine sy_shr (h := ?_) | refine sy_mul (h := ?_) | refine sy_int (h := ?_) | refine sy_beql (h := ?_) | refine sy_bneq (h := ?_) | refine sy_min (h := ?_) | refine sy_max (h := ?_) | refine sy_arrA (h := ?_) | refine sy_strI (h := ?_) | ((fail_if_success (refine sw_chk (h := ?_))); refine sw_guard (ht := ?_) (hf := ?_); all_goals (intro hx_; first | have := of_decide_eq_true hx_ | have := of_decide_eq_false hx_ | skip)) | (refine cw_cond (ht := ?_) (hf := ?_); all_goals (intro hx_; first | have := of_decide_eq_true hx_ | have := of_decide_eq_false hx_ | skip)))
  all_goals ((all_goals (apply ends_ret; apply res_tmp; rfl; rfl)); all_goals first | rfl | (simp only [actBytes, *, decide_true, decide_false, cond_true, cond_false, Bool.and_true, Bool.true_and, Bool.and_false, Bool.false_and, Bool.not_true, Bool.not_false, Bool.or_true, Bool.true_or, Bool.or_false, Bool.false_or]; done) | (simp_all [actBytes]; done))
end Go.Proofs.YtfpojkoddcdojaaGreatDoor
