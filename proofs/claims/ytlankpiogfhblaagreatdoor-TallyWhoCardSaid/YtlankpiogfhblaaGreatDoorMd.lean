/- Joined by program (wip/dev/merge.py) out of: G H It Ti Su. -/
import Derived.Test.YtlankpiogfhblaaGreatDoorMc
import Derived.Test.YtlankpiogfhblaaGreatDoorMb
/- Contracts: act.Core, act.Bytes. -/
set_option linter.unusedVariables false
set_option linter.unusedSimpArgs false
namespace Go.Proofs.YtlankpiogfhblaaGreatDoor
open Go Go.Proofs Sy
structure Kth (n : Nat) where
  k : Nat
  hk : k ≤ n
def wrapV (w : WrapD) : ByteArray := numV w.to ++ numV w.eph ++ boxV w.box
structure ActD.Fit (a : ActD) : Prop where
  author : a.author.size ≤ 1073741824
  prev : a.prev.size ≤ 1073741824
  object : a.object.size ≤ 1073741824
  target : a.target.size ≤ 1073741824
  group : a.group.size ≤ 1073741824
  text : a.text.size ≤ 1073741824
  body : a.body.Fit
  to : (listV a.toL).size ≤ 1073741824
  wraps : ∀ w ∈ a.wrapsL, w.box.Fit
  wrapsV : (cats (a.wrapsL.map wrapV)).size ≤ 1073741824
  ints : a.seq < 9223372036854775808 ∧ a.kind < 9223372036854775808 ∧ a.time < 9223372036854775808 ∧ a.scope < 9223372036854775808 ∧ a.epoch < 9223372036854775808 ∧ a.n < 9223372036854775808 ∧ a.m < 9223372036854775808 ∧ a.e < 9223372036854775808 ∧ a.s < 9223372036854775808
  wints : ∀ w ∈ a.wrapsL, w.to < 9223372036854775808 ∧ w.eph < 9223372036854775808
def core1 (a : ActD) : ByteArray := textV ⟨#[97, 99, 116]⟩ ++ textV a.author ++ numV a.seq ++ textV a.prev
def core2 (a : ActD) : ByteArray := core1 a ++ (numV a.kind ++ numV a.time ++ textV a.object ++ textV a.target)
def core3 (a : ActD) : ByteArray := core2 a ++ (numV a.scope ++ textV a.group ++ listV a.toL ++ textV a.text)
def core4 (a : ActD) : ByteArray := core3 a ++ (boxV a.body ++ numV a.epoch ++ numV a.wrapsL.length)
def core5 (a : ActD) (k : Nat) : ByteArray := core4 a ++ cats ((a.wrapsL.map wrapV).take k)
def coreV (a : ActD) : ByteArray := core5 a a.wrapsL.length ++ numV a.n ++ numV a.m
theorem core_pu (a : ActD) (ha : rightB a = true → a.Fit) : Pu Tryz.prog 59 #[a.v] (ActD.at_ · a) (.string (bif rightB a then coreV a else ⟨#[]⟩)) := by
  cases hrB : rightB a with
  | false =>
    have hrN : (!rightB a) = true := by rw [hrB]; rfl
    refine pu_of_cw (args := [_]) _ Tryz.func59 rfl Tryz.ntmps59 rfl fun av bor w0 => ?_
    repeat' (first | apply sw_nil | apply cw_seq | apply cw_reg | refine sy_move (h := ?_) | refine sy_assign (h := ?_) | refine sy_fld (h := ?_) | refine sy_ld (h := ?_) | refine sy_ldAll (h := ?_) | refine sy_not (h := ?_) | refine sy_lss (h := ?_) | refine sy_slen (h := ?_) | refine sy_len (h := ?_) | refine sy_add (h := ?_) | refine sw_alloc (h := fun _ => ?_) | refine sw_box (h := fun _ => ?_) | refine sw_st1 (h := ?_) | refine sw_stAll (h := ?_) | refine cw_cond_t (ht := ?_) | refine cw_cond_f (hf := ?_) | apply cw_skip | apply cw_block | apply cw_ret | apply cw_exit | refine sy_arrA (h := ?_) | refine sy_strI (h := ?_) | refine sw_pu (hc := actRight_pu a) (h := ?_) | (refine cw_cond (ht := ?_) (hf := ?_); all_goals (intro hx_; first | have := of_decide_eq_true hx_ | have := of_decide_eq_false hx_ | skip)))
    apply ends_ret; apply res_tmp; rfl; rfl; rfl
  | true =>
  have hrN : (!rightB a) = false := by rw [hrB]; rfl
  replace ha := ha hrB
  refine pu_of_cw (args := [_]) _ Tryz.func59 rfl Tryz.ntmps59 rfl fun av bor w0 => ?_
  refine cw_know (p := a.wraps.n = a.wrapsL.length ∧ a.wraps.n ≤ maxLen ∧ (0 < a.wrapsL.length → a.wraps.p.isSome = true)) (fun w h => ⟨h.2.len_, Nat.le_trans (RowsD.cap h.2) (RowsD.max h.2), h.2.some_⟩) fun ⟨hl, hm, hp⟩ => ?_
  simp only [maxLen] at hm
  obtain ⟨i1, i2, i3, i4, i5, i6, i7, i8, i9⟩ := ha.ints
  have s1 := textV_size a.author
  have s2 := textV_size a.prev
  have s3 := textV_size a.object
  have s4 := textV_size a.target
  have s5 := textV_size a.group
  have s6 := textV_size a.text
  have s7 := textV_size ⟨#[97, 99, 116]⟩
  have s8 := boxV_size ha.body
  have h1 := ha.author
  have h2 := ha.prev
  have h3 := ha.object
  have h4 := ha.target
  have h5 := ha.group
  have h6 := ha.text
  have h7 := ha.to
  have h8 : (⟨#[97, 99, 116]⟩ : ByteArray).size = 3 := rfl
  have n1 := numV_size a.seq
  have n2 := numV_size a.kind
  have n3 := numV_size a.time
  have n4 := numV_size a.scope
  have n5 := numV_size a.epoch
  have n6 := numV_size a.wraps.n
  have n7 := numV_size a.n
  have n8 := numV_size a.m
  repeat' (first | apply sw_nil | apply cw_seq | apply cw_reg | refine sy_move (h := ?_) | refine sy_assign (h := ?_) | refine sy_fld (h := ?_) | refine sy_ld (h := ?_) | refine sy_ldAll (h := ?_) | refine sy_not (h := ?_) | refine sy_lss (h := ?_) | refine sy_slen (h := ?_) | refine sy_len (h := ?_) | refine sy_add (h := ?_) | refine sw_alloc (h := fun _ => ?_) | refine sw_box (h := fun _ => ?_) | refine sw_st1 (h := ?_) | refine sw_stAll (h := ?_) | refine cw_cond_t (ht := ?_) | refine cw_cond_f (hf := ?_) | apply cw_skip | apply cw_block | apply cw_ret | apply cw_exit | refine sy_arrA (h := ?_) | refine sy_strI (h := ?_) | refine sw_pu (hc := actRight_pu a) (h := ?_) | (refine cw_cond (ht := ?_) (hf := ?_); all_goals (intro hx_; first | have := of_decide_eq_true hx_ | have := of_decide_eq_false hx_ | skip)))
  (apply cw_draw0; kernel_rfl)
  all_goals (first | refine aw_take 1 (h := ?_) | refine aw_take 1 (hy := by (first | (apply y_cat; rfl; rfl; (try simp only [ByteArray.size_append]); omega))) (h := ?_))
  all_goals (first | refine aw_take 2 (h := ?_) | refine aw_take 2 (hy := by (first | (apply y_cat; rfl; rfl; (try simp only [ByteArray.size_append]); omega))) (h := ?_))
  all_goals (first | refine aw_take 5 (h := ?_) | refine aw_take 5 (hy := by (first | (apply y_cat; rfl; rfl; (try simp only [ByteArray.size_append]); omega))) (h := ?_))
  all_goals (first | refine aw_take 6 (h := ?_) | refine aw_take 6 (hy := by (first | (apply y_cat; rfl; rfl; (try simp only [ByteArray.size_append]); omega))) (h := ?_))
  all_goals (first | refine aw_take 9 (h := ?_) | refine aw_take 9 (hy := by (first | (apply y_cat; rfl; rfl; (try simp only [ByteArray.size_append]); omega))) (h := ?_))
  all_goals (first | refine aw_take 10 (h := ?_) | refine aw_take 10 (hy := by (first | (apply y_cat; rfl; rfl; (try simp only [ByteArray.size_append]); omega))) (h := ?_))
  all_goals (refine aw_step 0 (h := ?_); (first | refine sw_pu (hc := num_pu _ (by omega)) (h := ?_) | refine sw_pu (hc := text_pu _ (by omega)) (h := ?_)); apply sw_nil; refine aw_fin (h := ?_))
  all_goals (refine aw_step 3 (h := ?_); (first | refine sw_pu (hc := num_pu _ (by omega)) (h := ?_) | refine sw_pu (hc := text_pu _ (by omega)) (h := ?_)); apply sw_nil; refine aw_fin (h := ?_))
  all_goals (first | refine aw_take 4 (h := ?_) | refine aw_take 4 (hy := by (first | (apply y_cat; rfl; rfl; (try simp only [ByteArray.size_append]); omega))) (h := ?_))
  all_goals (refine aw_step 7 (h := ?_); (first | refine sw_pu (hc := num_pu _ (by omega)) (h := ?_) | refine sw_pu (hc := text_pu _ (by omega)) (h := ?_)); apply sw_nil; refine aw_fin (h := ?_))
  all_goals (first | refine aw_take 8 (h := ?_) | refine aw_take 8 (hy := by (first | (apply y_cat; rfl; rfl; (try simp only [ByteArray.size_append]); omega))) (h := ?_))
  all_goals (refine aw_step 11 (h := ?_); (first | refine sw_pu (hc := num_pu _ (by omega)) (h := ?_) | refine sw_pu (hc := text_pu _ (by omega)) (h := ?_)); apply sw_nil; refine aw_fin (h := ?_))
  all_goals (first | refine aw_take 12 (h := ?_) | refine aw_take 12 (hy := by (first | (apply y_cat; rfl; rfl; (try simp only [ByteArray.size_append]); omega))) (h := ?_))
  all_goals (refine aw_take 13 (h := ?_))
  all_goals (refine aw_done (h := ?_))
  repeat' (first | apply sw_nil | apply cw_seq | apply cw_reg | refine sy_move (h := ?_) | refine sy_assign (h := ?_) | refine sy_fld (h := ?_) | refine sy_ld (h := ?_) | refine sy_ldAll (h := ?_) | refine sy_not (h := ?_) | refine sy_lss (h := ?_) | refine sy_slen (h := ?_) | refine sy_len (h := ?_) | refine sy_add (h := ?_) | refine sw_alloc (h := fun _ => ?_) | refine sw_box (h := fun _ => ?_) | refine sw_st1 (h := ?_) | refine sw_stAll (h := ?_) | refine cw_cond_t (ht := ?_) | refine cw_cond_f (hf := ?_) | apply cw_skip | apply cw_block | apply cw_ret | apply cw_exit | refine sy_arrA (h := ?_) | refine sy_strI (h := ?_) | (refine cw_cond (ht := ?_) (hf := ?_); all_goals (intro hx_; first | have := of_decide_eq_true hx_ | have := of_decide_eq_false hx_ | skip)))
  (apply cw_draw0; kernel_rfl)
  all_goals (refine aw_take 0 (h := ?_))
  all_goals (first | refine aw_take 1 (h := ?_) | refine aw_take 1 (hy := by (first | (apply y_cat; rfl; rfl; (try simp only [ByteArray.size_append]); omega))) (h := ?_))
  all_goals (first | refine aw_take 2 (h := ?_) | refine aw_take 2 (hy := by (first | (apply y_cat; rfl; rfl; (try simp only [ByteArray.size_append]); omega))) (h := ?_))
  all_goals (first | refine aw_take 4 (h := ?_) | refine aw_take 4 (hy := by (first | (apply y_cat; rfl; rfl; (try simp only [ByteArray.size_append]); omega))) (h := ?_))
  all_goals (first | refine aw_take 5 (h := ?_) | refine aw_take 5 (hy := by (first | (apply y_cat; rfl; rfl; (try simp only [ByteArray.size_append]); omega))) (h := ?_))
  all_goals (first | refine aw_take 8 (h := ?_) | refine aw_take 8 (hy := by (first | (apply y_cat; rfl; rfl; (try simp only [ByteArray.size_append]); omega))) (h := ?_))
  all_goals (first | refine aw_take 9 (h := ?_) | refine aw_take 9 (hy := by (first | (apply y_cat; rfl; rfl; (try simp only [ByteArray.size_append]); omega))) (h := ?_))
  all_goals (first | refine aw_take 12 (h := ?_) | refine aw_take 12 (hy := by (first | (apply y_cat; rfl; rfl; (try simp only [ByteArray.size_append]); omega))) (h := ?_))
  all_goals (first | refine aw_take 13 (h := ?_) | refine aw_take 13 (hy := by (first | (apply y_cat; rfl; rfl; (try simp only [ByteArray.size_append]); omega))) (h := ?_))
  all_goals (refine aw_step 3 (h := ?_); (first | refine sw_pu (hc := num_pu _ (by omega)) (h := ?_) | refine sw_pu (hc := text_pu _ (by omega)) (h := ?_)); apply sw_nil; refine aw_fin (h := ?_))
  all_goals (refine aw_step 6 (h := ?_); (first | refine sw_pu (hc := num_pu _ (by omega)) (h := ?_) | refine sw_pu (hc := text_pu _ (by omega)) (h := ?_)); apply sw_nil; refine aw_fin (h := ?_))
  all_goals (first | refine aw_take 7 (h := ?_) | refine aw_take 7 (hy := by (first | (apply y_cat; rfl; rfl; (try simp only [ByteArray.size_append]); omega))) (h := ?_))
  all_goals (refine aw_step 10 (h := ?_); (first | refine sw_pu (hc := num_pu _ (by omega)) (h := ?_) | refine sw_pu (hc := text_pu _ (by omega)) (h := ?_)); apply sw_nil; refine aw_fin (h := ?_))
  all_goals (first | refine aw_take 11 (h := ?_) | refine aw_take 11 (hy := by (first | (apply y_cat; rfl; rfl; (try simp only [ByteArray.size_append]); omega))) (h := ?_))
  all_goals (refine aw_step 14 (h := ?_); (first | refine sw_pu (hc := num_pu _ (by omega)) (h := ?_) | refine sw_pu (hc := text_pu _ (by omega)) (h := ?_)); apply sw_nil; refine aw_fin (h := ?_))
  all_goals (first | refine aw_take 15 (h := ?_) | refine aw_take 15 (hy := by (first | (apply y_cat; rfl; rfl; (try simp only [ByteArray.size_append]); omega))) (h := ?_))
  all_goals (first | refine aw_take 16 (h := ?_) | refine aw_take 16 (hy := by (first | (apply y_cat; rfl; rfl; (try simp only [ByteArray.size_append]); omega))) (h := ?_))
  all_goals (refine aw_take 17 (h := ?_))
  all_goals (refine aw_done (h := ?_))
  repeat' (first | apply sw_nil | apply cw_seq | apply cw_reg | refine sy_move (h := ?_) | refine sy_assign (h := ?_) | refine sy_fld (h := ?_) | refine sy_ld (h := ?_) | refine sy_ldAll (h := ?_) | refine sy_not (h := ?_) | refine sy_lss (h := ?_) | refine sy_slen (h := ?_) | refine sy_len (h := ?_) | refine sy_add (h := ?_) | refine sw_alloc (h := fun _ => ?_) | refine sw_box (h := fun _ => ?_) | refine sw_st1 (h := ?_) | refine sw_stAll (h := ?_) | refine cw_cond_t (ht := ?_) | refine cw_cond_f (hf := ?_) | apply cw_skip | apply cw_block | apply cw_ret | apply cw_exit | refine sy_arrA (h := ?_) | refine sy_strI (h := ?_) | (refine cw_cond (ht := ?_) (hf := ?_); all_goals (intro hx_; first | have := of_decide_eq_true hx_ | have := of_decide_eq_false hx_ | skip)))
  (apply cw_draw0; kernel_rfl)
  all_goals (refine aw_take 0 (h := ?_))
  all_goals (first | refine aw_take 1 (h := ?_) | refine aw_take 1 (hy := by (first | (apply y_cat; rfl; rfl; (try simp only [ByteArray.size_append]); omega))) (h := ?_))
  all_goals (first | refine aw_take 2 (h := ?_) | refine aw_take 2 (hy := by (first | (apply y_cat; rfl; rfl; (try simp only [ByteArray.size_append]); omega))) (h := ?_))
  all_goals (first | refine aw_take 4 (h := ?_) | refine aw_take 4 (hy := by (first | (apply y_cat; rfl; rfl; (try simp only [ByteArray.size_append]); omega))) (h := ?_))
  all_goals (first | refine aw_take 5 (h := ?_) | refine aw_take 5 (hy := by (first | (apply y_cat; rfl; rfl; (try simp only [ByteArray.size_append]); omega))) (h := ?_))
  all_goals (first | refine aw_take 8 (h := ?_) | refine aw_take 8 (hy := by (first | (apply y_cat; rfl; rfl; (try simp only [ByteArray.size_append]); omega))) (h := ?_))
  all_goals (first | refine aw_take 9 (h := ?_) | refine aw_take 9 (hy := by (first | (apply y_cat; rfl; rfl; (try simp only [ByteArray.size_append]); omega))) (h := ?_))
  all_goals (first | refine aw_take 12 (h := ?_) | refine aw_take 12 (hy := by (first | (apply y_cat; rfl; rfl; (try simp only [ByteArray.size_append]); omega))) (h := ?_))
  all_goals (first | refine aw_take 13 (h := ?_) | refine aw_take 13 (hy := by (first | (apply y_cat; rfl; rfl; (try simp only [ByteArray.size_append]); omega))) (h := ?_))
  all_goals (refine aw_step 3 (h := ?_); (first | refine sw_pu (hc := num_pu _ (by omega)) (h := ?_) | refine sw_pu (hc := text_pu _ (by omega)) (h := ?_) | refine sw_pu (hc := list_pu a.to a.toL (by omega)) (h := ?_)); apply sw_nil; refine aw_fin (h := ?_))
  all_goals (refine aw_step 6 (h := ?_); (first | refine sw_pu (hc := num_pu _ (by omega)) (h := ?_) | refine sw_pu (hc := text_pu _ (by omega)) (h := ?_) | refine sw_pu (hc := list_pu a.to a.toL (by omega)) (h := ?_)); apply sw_nil; refine aw_fin (h := ?_))
  all_goals (first | refine aw_take 7 (h := ?_) | refine aw_take 7 (hy := by (first | (apply y_cat; rfl; rfl; (try simp only [ByteArray.size_append]); omega))) (h := ?_))
  all_goals (refine aw_step 10 (h := ?_); (first | refine sw_pu (hc := num_pu _ (by omega)) (h := ?_) | refine sw_pu (hc := text_pu _ (by omega)) (h := ?_) | refine sw_pu (hc := list_pu a.to a.toL (by omega)) (h := ?_)); apply sw_nil; refine aw_fin (h := ?_))
  all_goals (first | refine aw_take 11 (h := ?_) | refine aw_take 11 (hy := by (first | (apply y_cat; rfl; rfl; (try simp only [ByteArray.size_append]); omega))) (h := ?_))
  all_goals (refine aw_step 14 (h := ?_); (first | refine sw_pu (hc := num_pu _ (by omega)) (h := ?_) | refine sw_pu (hc := text_pu _ (by omega)) (h := ?_) | refine sw_pu (hc := list_pu a.to a.toL (by omega)) (h := ?_)); apply sw_nil; refine aw_fin (h := ?_))
  all_goals (first | refine aw_take 15 (h := ?_) | refine aw_take 15 (hy := by (first | (apply y_cat; rfl; rfl; (try simp only [ByteArray.size_append]); omega))) (h := ?_))
  all_goals (first | refine aw_take 16 (h := ?_) | refine aw_take 16 (hy := by (first | (apply y_cat; rfl; rfl; (try simp only [ByteArray.size_append]); omega))) (h := ?_))
  all_goals (refine aw_take 17 (h := ?_))
  all_goals (refine aw_done (h := ?_))
  repeat' (first | apply sw_nil | apply cw_seq | apply cw_reg | refine sy_move (h := ?_) | refine sy_assign (h := ?_) | refine sy_fld (h := ?_) | refine sy_ld (h := ?_) | refine sy_ldAll (h := ?_) | refine sy_not (h := ?_) | refine sy_lss (h := ?_) | refine sy_slen (h := ?_) | refine sy_len (h := ?_) | refine sy_add (h := ?_) | refine sw_alloc (h := fun _ => ?_) | refine sw_box (h := fun _ => ?_) | refine sw_st1 (h := ?_) | refine sw_stAll (h := ?_) | refine cw_cond_t (ht := ?_) | refine cw_cond_f (hf := ?_) | apply cw_skip | apply cw_block | apply cw_ret | apply cw_exit | refine sy_arrA (h := ?_) | refine sy_strI (h := ?_) | (refine cw_cond (ht := ?_) (hf := ?_); all_goals (intro hx_; first | have := of_decide_eq_true hx_ | have := of_decide_eq_false hx_ | skip)))
  (apply cw_draw0; kernel_rfl)
  all_goals (refine aw_take 0 (h := ?_))
  all_goals (first | refine aw_take 1 (h := ?_) | refine aw_take 1 (hy := by (first | (apply y_cat; rfl; rfl; (try simp only [ByteArray.size_append]); omega))) (h := ?_))
  all_goals (first | refine aw_take 2 (h := ?_) | refine aw_take 2 (hy := by (first | (apply y_ldSub; rfl; (repeat (first | exact List.mem_cons_self | apply List.mem_cons_of_mem)); exact ActD.cells_body _; rfl) | (apply y_cat; rfl; rfl; (try simp only [ByteArray.size_append]); omega))) (h := ?_))
  all_goals (first | refine aw_take 4 (h := ?_) | refine aw_take 4 (hy := by (first | (apply y_cat; rfl; rfl; (try simp only [ByteArray.size_append]); omega))) (h := ?_))
  all_goals (first | refine aw_take 5 (h := ?_) | refine aw_take 5 (hy := by (first | (apply y_ldSub; rfl; (repeat (first | exact List.mem_cons_self | apply List.mem_cons_of_mem)); exact ActD.cells_body _; rfl) | (apply y_cat; rfl; rfl; (try simp only [ByteArray.size_append]); omega))) (h := ?_))
  all_goals (first | refine aw_take 8 (h := ?_) | refine aw_take 8 (hy := by (first | (apply y_cat; rfl; rfl; (try simp only [ByteArray.size_append]); omega))) (h := ?_))
  all_goals (first | refine aw_take 9 (h := ?_) | refine aw_take 9 (hy := by (first | (apply y_ldSub; rfl; (repeat (first | exact List.mem_cons_self | apply List.mem_cons_of_mem)); exact ActD.cells_body _; rfl) | (apply y_cat; rfl; rfl; (try simp only [ByteArray.size_append]); omega))) (h := ?_))
  all_goals (first | refine aw_take 10 (h := ?_) | refine aw_take 10 (hy := by (first | (apply y_cat; rfl; rfl; (try simp only [ByteArray.size_append]); omega))) (h := ?_))
  all_goals (refine aw_step 3 (h := ?_); (first | refine sw_pu (hc := num_pu _ (by omega)) (h := ?_) | refine sw_pu (hc := boxBytes_pu a.body ha.body) (h := ?_)); apply sw_nil; refine aw_fin (h := ?_))
  all_goals (refine aw_step 6 (h := ?_); (first | refine sw_pu (hc := num_pu _ (by omega)) (h := ?_) | refine sw_pu (hc := boxBytes_pu a.body ha.body) (h := ?_)); apply sw_nil; refine aw_fin (h := ?_))
  all_goals (first | refine aw_take 7 (h := ?_) | refine aw_take 7 (hy := by (first | (apply y_cat; rfl; rfl; (try simp only [ByteArray.size_append]); omega))) (h := ?_))
  all_goals (refine aw_step 11 (h := ?_); (first | refine sw_pu (hc := num_pu _ (by omega)) (h := ?_) | refine sw_pu (hc := boxBytes_pu a.body ha.body) (h := ?_)); apply sw_nil; refine aw_fin (h := ?_))
  all_goals (first | refine aw_take 12 (h := ?_) | refine aw_take 12 (hy := by (first | (apply y_cat; rfl; rfl; (try simp only [ByteArray.size_append]); omega))) (h := ?_))
  all_goals (first | refine aw_take 13 (h := ?_) | refine aw_take 13 (hy := by (first | (apply y_cat; rfl; rfl; (try simp only [ByteArray.size_append]); omega))) (h := ?_))
  all_goals (refine aw_take 14 (h := ?_))
  all_goals (refine aw_done (h := ?_))
  repeat' (first | apply sw_nil | apply cw_seq | apply cw_reg | refine sy_move (h := ?_) | refine sy_assign (h := ?_) | refine sy_fld (h := ?_) | refine sy_ld (h := ?_) | refine sy_ldAll (h := ?_) | refine sy_not (h := ?_) | refine sy_lss (h := ?_) | refine sy_slen (h := ?_) | refine sy_len (h := ?_) | refine sy_add (h := ?_) | refine sw_alloc (h := fun _ => ?_) | refine sw_box (h := fun _ => ?_) | refine sw_st1 (h := ?_) | refine sw_stAll (h := ?_) | refine cw_cond_t (ht := ?_) | refine cw_cond_f (hf := ?_) | apply cw_skip | apply cw_block | apply cw_ret | apply cw_exit | refine sy_arrA (h := ?_) | refine sy_strI (h := ?_) | (refine cw_cond (ht := ?_) (hf := ?_); all_goals (intro hx_; first | have := of_decide_eq_true hx_ | have := of_decide_eq_false hx_ | skip)))
  rename_i b
  have hc4 : (core4 a).size ≤ 100000000000 := by
    have : (numV a.wrapsL.length).size ≤ 10 := numV_size _
    simp only [core4, core3, core2, core1, ByteArray.size_append]
    omega
  have hle := cats_take (a.wrapsL.map wrapV)
  have hw := ha.wrapsV
  have e0 : core5 a 0 = core4 a := by simp [core5, cats]
  refine cw_loop (ι := Kth a.wrapsL.length) (fun i => ⟨[(1, .pointer (some ⟨b, 0, none⟩)), (3, .string (core5 a i.k)), (71, a.wraps.v), (72, .int .i64 a.wraps.n), (73, .int .i64 i.k)], [cel b 47 a.cells], (ActD.at_ · a)⟩) (fun i => a.wrapsL.length - i.k) ⟨0, Nat.zero_le _⟩ (ok_sub ⟨rfl, ?_, rfl, rfl, rfl, trivial⟩ (List.Sublist.refl _) fun _ h => h) fun i => ?_
  · simp only [e0, core4, core3, core2, core1, ← hl]; rfl
  have hik := i.hk
  have hk5 : (core5 a i.k).size ≤ 200000000000 := by have := hle i.k; simp only [core5, ByteArray.size_append]; omega
  repeat' (first | apply sw_nil | apply cw_seq | apply cw_reg | refine sy_move (h := ?_) | refine sy_assign (h := ?_) | refine sy_fld (h := ?_) | refine sy_ld (h := ?_) | refine sy_ldAll (h := ?_) | refine sy_not (h := ?_) | refine sy_lss (h := ?_) | refine sy_slen (h := ?_) | refine sy_len (h := ?_) | refine sy_add (h := ?_) | refine sw_alloc (h := fun _ => ?_) | refine sw_box (h := fun _ => ?_) | refine sw_st1 (h := ?_) | refine sw_stAll (h := ?_) | refine cw_cond_t (ht := ?_) | refine cw_cond_f (hf := ?_) | apply cw_skip | apply cw_block | apply cw_ret | apply cw_exit | refine sy_arrA (h := ?_) | refine sy_strI (h := ?_) | (refine cw_cond (ht := ?_) (hf := ?_); all_goals (intro hx_; first | have := of_decide_eq_true hx_ | have := of_decide_eq_false hx_ | skip)))
  · have hlt : i.k < a.wrapsL.length := by omega
    have hp' := hp (by omega)
    obtain ⟨x, hx⟩ : ∃ x, a.wrapsL[i.k]? = some x := ⟨_, List.getElem?_eq_getElem hlt⟩
    have hxm : x ∈ a.wrapsL := List.mem_of_getElem? hx
    have hf := ha.wraps x hxm
    have hfs := boxV_size hf
    obtain ⟨w1, w2⟩ := ha.wints x hxm
    have m1 := numV_size x.to
    have m2 := numV_size x.eph
    repeat' (first | apply sw_nil | apply cw_seq | apply cw_reg | refine sy_move (h := ?_) | refine sy_assign (h := ?_) | refine sy_fld (h := ?_) | refine sy_ld (h := ?_) | refine sy_ldAll (h := ?_) | refine sy_not (h := ?_) | refine sy_lss (h := ?_) | refine sy_slen (h := ?_) | refine sy_len (h := ?_) | refine sy_add (h := ?_) | refine sw_alloc (h := fun _ => ?_) | refine sw_box (h := fun _ => ?_) | refine sw_st1 (h := ?_) | refine sw_stAll (h := ?_) | refine cw_cond_t (ht := ?_) | refine cw_cond_f (hf := ?_) | apply cw_skip | apply cw_block | apply cw_ret | apply cw_exit | refine sy_arrA (h := ?_) | refine sy_strI (h := ?_) | (refine sy_idxX (q := i.k * 5) (h := ?_)) | (refine sy_ldXs (cs := x.cells) (hF := fun w h => Wraps.get h.2 hx) (h := ?_)) | (refine cw_cond (ht := ?_) (hf := ?_); all_goals (intro hx_; first | have := of_decide_eq_true hx_ | have := of_decide_eq_false hx_ | skip)))
    (apply cw_draw0; kernel_rfl)
    all_goals (refine aw_take 0 (h := ?_))
    all_goals (first | refine aw_take 1 (h := ?_) | refine aw_take 1 (hy := by (first | (apply y_cat; rfl; rfl; (try simp only [ByteArray.size_append]); omega))) (h := ?_))
    all_goals (first | refine aw_take 2 (h := ?_) | refine aw_take 2 (hy := by (first | (apply y_ldSub; rfl; (repeat (first | exact List.mem_cons_self | apply List.mem_cons_of_mem)); exact WrapD.cells_box _; rfl) | (apply y_cat; rfl; rfl; (try simp only [ByteArray.size_append]); omega))) (h := ?_))
    all_goals (first | refine aw_take 4 (h := ?_) | refine aw_take 4 (hy := by (first | (apply y_cat; rfl; rfl; (try simp only [ByteArray.size_append]); omega))) (h := ?_))
    all_goals (first | refine aw_take 5 (h := ?_) | refine aw_take 5 (hy := by (first | (apply y_ldSub; rfl; (repeat (first | exact List.mem_cons_self | apply List.mem_cons_of_mem)); exact WrapD.cells_box _; rfl) | (apply y_cat; rfl; rfl; (try simp only [ByteArray.size_append]); omega))) (h := ?_))
    all_goals (first | refine aw_take 8 (h := ?_) | refine aw_take 8 (hy := by (first | (apply y_cat; rfl; rfl; (try simp only [ByteArray.size_append]); omega))) (h := ?_))
    all_goals (first | refine aw_take 9 (h := ?_) | refine aw_take 9 (hy := by (first | (apply y_ldSub; rfl; (repeat (first | exact List.mem_cons_self | apply List.mem_cons_of_mem)); exact WrapD.cells_box _; rfl) | (apply y_cat; rfl; rfl; (try simp only [ByteArray.size_append]); omega))) (h := ?_))
    all_goals (refine aw_step 3 (h := ?_); (first | refine sw_pu (hc := num_pu _ (by omega)) (h := ?_) | refine sw_pu (hc := boxBytes_pu x.box hf) (h := ?_)); apply sw_nil; refine aw_fin (h := ?_))
    all_goals (refine aw_step 6 (h := ?_); (first | refine sw_pu (hc := num_pu _ (by omega)) (h := ?_) | refine sw_pu (hc := boxBytes_pu x.box hf) (h := ?_)); apply sw_nil; refine aw_fin (h := ?_))
    all_goals (first | refine aw_take 7 (h := ?_) | refine aw_take 7 (hy := by (first | (apply y_cat; rfl; rfl; (try simp only [ByteArray.size_append]); omega))) (h := ?_))
    all_goals (refine aw_step 10 (h := ?_); (first | refine sw_pu (hc := num_pu _ (by omega)) (h := ?_) | refine sw_pu (hc := boxBytes_pu x.box hf) (h := ?_)); apply sw_nil; refine aw_fin (h := ?_))
    all_goals (first | refine aw_take 11 (h := ?_) | refine aw_take 11 (hy := by (first | (apply y_cat; rfl; rfl; (try simp only [ByteArray.size_append]); omega))) (h := ?_))
    all_goals (first | refine aw_take 12 (h := ?_) | refine aw_take 12 (hy := by (first | (apply y_cat; rfl; rfl; (try simp only [ByteArray.size_append]); omega))) (h := ?_))
    all_goals (refine aw_take 13 (h := ?_))
    all_goals (refine aw_done (h := ?_))
    repeat' (first | apply sw_nil | apply cw_seq | apply cw_reg | refine sy_move (h := ?_) | refine sy_assign (h := ?_) | refine sy_fld (h := ?_) | refine sy_ld (h := ?_) | refine sy_ldAll (h := ?_) | refine sy_not (h := ?_) | refine sy_lss (h := ?_) | refine sy_slen (h := ?_) | refine sy_len (h := ?_) | refine sy_add (h := ?_) | refine sw_alloc (h := fun _ => ?_) | refine sw_box (h := fun _ => ?_) | refine sw_st1 (h := ?_) | refine sw_stAll (h := ?_) | refine cw_cond_t (ht := ?_) | refine cw_cond_f (hf := ?_) | apply cw_skip | apply cw_block | apply cw_ret | apply cw_exit | refine sy_arrA (h := ?_) | refine sy_strI (h := ?_) | (refine cw_cond (ht := ?_) (hf := ?_); all_goals (intro hx_; first | have := of_decide_eq_true hx_ | have := of_decide_eq_false hx_ | skip)))
    have hsucc := cats_succ (a.wrapsL.map wrapV) (k := i.k) (by simpa using hlt)
    have hget : (a.wrapsL.map wrapV).getD i.k .empty = wrapV x := by simp [hx]
    rw [hget] at hsucc
    have e2 : core5 a (i.k + 1) = core5 a i.k ++ (numV x.to ++ numV x.eph ++ boxV x.box) := by simp only [core5, hsucc, ByteArray.append_assoc, wrapV]
    all_goals exact ⟨(⟨i.k + 1, hlt⟩ : Kth a.wrapsL.length), (by show a.wrapsL.length - (i.k + 1) < a.wrapsL.length - i.k; omega), ok_sub ⟨rfl, by rw [e2]; rfl, rfl, rfl, rfl, trivial⟩ (List.Sublist.cons _ (List.Sublist.refl _)) fun _ h => h⟩
  have hke : i.k = a.wrapsL.length := by omega
  (apply cw_draw0; kernel_rfl)
  all_goals (refine aw_take 0 (h := ?_))
  all_goals (first | refine aw_take 1 (h := ?_) | refine aw_take 1 (hy := by (first | (apply y_cat; rfl; rfl; (try simp only [ByteArray.size_append]); omega))) (h := ?_))
  all_goals (first | refine aw_take 2 (h := ?_) | refine aw_take 2 (hy := by (first | (apply y_cat; rfl; rfl; (try simp only [ByteArray.size_append]); omega))) (h := ?_))
  all_goals (first | refine aw_take 5 (h := ?_) | refine aw_take 5 (hy := by (first | (apply y_cat; rfl; rfl; (try simp only [ByteArray.size_append]); omega))) (h := ?_))
  all_goals (first | refine aw_take 6 (h := ?_) | refine aw_take 6 (hy := by (first | (apply y_cat; rfl; rfl; (try simp only [ByteArray.size_append]); omega))) (h := ?_))
  all_goals (refine aw_step 3 (h := ?_); (first | refine sw_pu (hc := num_pu _ (by omega)) (h := ?_)); apply sw_nil; refine aw_fin (h := ?_))
  all_goals (first | refine aw_take 4 (h := ?_) | refine aw_take 4 (hy := by (first | (apply y_cat; rfl; rfl; (try simp only [ByteArray.size_append]); omega))) (h := ?_))
  all_goals (refine aw_step 7 (h := ?_); (first | refine sw_pu (hc := num_pu _ (by omega)) (h := ?_)); apply sw_nil; refine aw_fin (h := ?_))
  all_goals (first | refine aw_take 8 (h := ?_) | refine aw_take 8 (hy := by (first | (apply y_cat; rfl; rfl; (try simp only [ByteArray.size_append]); omega))) (h := ?_))
  all_goals (refine aw_take 9 (h := ?_))
  all_goals (refine aw_done (h := ?_))
  repeat' (first | apply sw_nil | apply cw_seq | apply cw_reg | refine sy_move (h := ?_) | refine sy_assign (h := ?_) | refine sy_fld (h := ?_) | refine sy_ld (h := ?_) | refine sy_ldAll (h := ?_) | refine sy_not (h := ?_) | refine sy_lss (h := ?_) | refine sy_slen (h := ?_) | refine sy_len (h := ?_) | refine sy_add (h := ?_) | refine sw_alloc (h := fun _ => ?_) | refine sw_box (h := fun _ => ?_) | refine sw_st1 (h := ?_) | refine sw_stAll (h := ?_) | refine cw_cond_t (ht := ?_) | refine cw_cond_f (hf := ?_) | apply cw_skip | apply cw_block | apply cw_ret | apply cw_exit | refine sy_arrA (h := ?_) | refine sy_strI (h := ?_) | (refine cw_cond (ht := ?_) (hf := ?_); all_goals (intro hx_; first | have := of_decide_eq_true hx_ | have := of_decide_eq_false hx_ | skip)))
  apply ends_ret; apply res_tmp; rfl; rfl
  simp only [cond_true, coreV, ← hke]
theorem coreV_size {a : ActD} (ha : a.Fit) : (coreV a).size ≤ 300000000000 := by
  have s1 := textV_size a.author
  have s2 := textV_size a.prev
  have s3 := textV_size a.object
  have s4 := textV_size a.target
  have s5 := textV_size a.group
  have s6 := textV_size a.text
  have s7 := textV_size ⟨#[97, 99, 116]⟩
  have s8 := boxV_size ha.body
  have h1 := ha.author
  have h2 := ha.prev
  have h3 := ha.object
  have h4 := ha.target
  have h5 := ha.group
  have h6 := ha.text
  have h7 := ha.to
  have h8 : (⟨#[97, 99, 116]⟩ : ByteArray).size = 3 := rfl
  have n1 := numV_size a.seq
  have n2 := numV_size a.kind
  have n3 := numV_size a.time
  have n4 := numV_size a.scope
  have n5 := numV_size a.epoch
  have n6 := numV_size a.wrapsL.length
  have n7 := numV_size a.n
  have n8 := numV_size a.m
  have hle := cats_take (a.wrapsL.map wrapV) a.wrapsL.length
  have hw := ha.wrapsV
  simp only [coreV, core5, core4, core3, core2, core1, ByteArray.size_append]
  omega
def actCore (a : ActD) : ByteArray := bif rightB a then coreV a else ⟨#[]⟩
def actBytes (a : ActD) : ByteArray := bif seqB (actCore a) ⟨#[]⟩ then ⟨#[]⟩ else actCore a ++ numV a.e ++ numV a.s
theorem actBytes_pu (a : ActD) (ha : rightB a = true → a.Fit) (hi : a.e < 9223372036854775808 ∧ a.s < 9223372036854775808) : Pu Tryz.prog 38 #[a.v] (ActD.at_ · a) (.string (actBytes a)) := by
  refine pu_of_cw (args := [_]) _ Tryz.func38 rfl Tryz.ntmps38 rfl fun av bor w0 => ?_
  obtain ⟨i8, i9⟩ := hi
  have n7 := numV_size a.e
  have n8 := numV_size a.s
  have hc : (actCore a).size ≤ 300000000000 := by
    unfold actCore
    cases hrB : rightB a with
    | true => exact coreV_size (ha hrB)
    | false => simp [ByteArray.size]
  have hcp : Pu Tryz.prog 59 #[a.v] (ActD.at_ · a) (.string (actCore a)) := core_pu a ha
  repeat' (first | apply sw_nil | apply cw_seq | apply cw_reg | refine sy_move (h := ?_) | refine sy_assign (h := ?_) | refine sy_fld (h := ?_) | refine sy_ld (h := ?_) | refine sy_ldAll (h := ?_) | refine sy_eql (h := ?_) | refine sy_seql (h := ?_) | refine sy_add (h := ?_) | refine sw_box (h := fun _ => ?_) | refine cw_cond_t (ht := ?_) | refine cw_cond_f (hf := ?_) | apply cw_skip | apply cw_block | apply cw_ret | apply cw_exit | refine sy_beql (h := ?_) | refine sy_arrA (h := ?_) | refine sy_strI (h := ?_) | refine sw_pu (hc := hcp) (h := ?_) | (refine cw_cond (ht := ?_) (hf := ?_); all_goals (intro hx_; first | have := of_decide_eq_true hx_ | have := of_decide_eq_false hx_ | skip)))
  · (all_goals (apply ends_ret; apply res_tmp; rfl; rfl)); all_goals first | rfl | (simp only [actBytes, *, decide_true, decide_false, cond_true, cond_false, Bool.and_true, Bool.true_and, Bool.and_false, Bool.false_and, Bool.not_true, Bool.not_false, Bool.or_true, Bool.true_or, Bool.or_false, Bool.false_or]; done) | (simp_all [actBytes]; done)
  (apply cw_draw0; kernel_rfl)
  all_goals (refine aw_take 0 (h := ?_))
  all_goals (first | refine aw_take 1 (h := ?_) | refine aw_take 1 (hy := by (first | (apply y_cat; rfl; rfl; (try simp only [ByteArray.size_append]); omega))) (h := ?_))
  all_goals (first | refine aw_take 2 (h := ?_) | refine aw_take 2 (hy := by (first | (apply y_cat; rfl; rfl; (try simp only [ByteArray.size_append]); omega))) (h := ?_))
  all_goals (first | refine aw_take 3 (h := ?_) | refine aw_take 3 (hy := by (first | (apply y_cat; rfl; rfl; (try simp only [ByteArray.size_append]); omega))) (h := ?_))
  all_goals (first | refine aw_take 6 (h := ?_) | refine aw_take 6 (hy := by (first | (apply y_cat; rfl; rfl; (try simp only [ByteArray.size_append]); omega))) (h := ?_))
  all_goals (first | refine aw_take 7 (h := ?_) | refine aw_take 7 (hy := by (first | (apply y_cat; rfl; rfl; (try simp only [ByteArray.size_append]); omega))) (h := ?_))
  all_goals (first | refine aw_take 8 (h := ?_) | refine aw_take 8 (hy := by (first | (apply y_cat; rfl; rfl; (try simp only [ByteArray.size_append]); omega))) (h := ?_))
  all_goals (refine aw_step 4 (h := ?_); (first | refine sw_pu (hc := num_pu _ (by omega)) (h := ?_)); apply sw_nil; refine aw_fin (h := ?_))
  all_goals (first | refine aw_take 5 (h := ?_) | refine aw_take 5 (hy := by (first | (apply y_cat; rfl; rfl; (try simp only [ByteArray.size_append]); omega))) (h := ?_))
  all_goals (refine aw_step 9 (h := ?_); (first | refine sw_pu (hc := num_pu _ (by omega)) (h := ?_)); apply sw_nil; refine aw_fin (h := ?_))
  all_goals (first | refine aw_take 10 (h := ?_) | refine aw_take 10 (hy := by (first | (apply y_cat; rfl; rfl; (try simp only [ByteArray.size_append]); omega))) (h := ?_))
  all_goals (refine aw_take 11 (h := ?_))
  all_goals (refine aw_done (h := ?_))
  repeat' (first | apply sw_nil | apply cw_seq | apply cw_reg | refine sy_move (h := ?_) | refine sy_assign (h := ?_) | refine sy_fld (h := ?_) | refine sy_ld (h := ?_) | refine sy_ldAll (h := ?_) | refine sy_eql (h := ?_) | refine sy_seql (h := ?_) | refine sy_add (h := ?_) | refine sw_box (h := fun _ => ?_) | refine cw_cond_t (ht := ?_) | refine cw_cond_f (hf := ?_) | apply cw_skip | apply cw_block | apply cw_ret | apply cw_exit | refine sy_beql (h := ?_) | refine sy_arrA (h := ?_) | refine sy_strI (h := ?_) | (refine cw_cond (ht := ?_) (hf := ?_); all_goals (intro hx_; first | have := of_decide_eq_true hx_ | have := of_decide_eq_false hx_ | skip)))
  all_goals ((all_goals (apply ends_ret; apply res_tmp; rfl; rfl)); all_goals first | rfl | (simp only [actBytes, *, decide_true, decide_false, cond_true, cond_false, Bool.and_true, Bool.true_and, Bool.and_false, Bool.false_and, Bool.not_true, Bool.not_false, Bool.or_true, Bool.true_or, Bool.or_false, Bool.false_or]; done) | (simp_all [actBytes]; done))
end Go.Proofs.YtlankpiogfhblaaGreatDoor

/- Nil checks; the builder's nums. -/
set_option linter.unusedVariables false
set_option linter.unusedSimpArgs false
namespace Go.Proofs.YtlankpiogfhblaaGreatDoor.Sy
open Go Go.RowKit
section
variable {P : Program} {N : Nat} {av bor : List Nat} {w0 : World} {ops : Array Oper} {rest : List Oper} {k : St → Prop} {E : Env} {loc loc' : List Res} {X : World → Prop}
variable {d : Option Tmp} {ty : TypeId} {pos : String} {af : Array Edge} {g : Option (Nat × Bool)} {bb want : Bool} {K : Exit → St → Prop}
theorem y_nilCheck {st : St} {x : Operand} {a : Addr} (hx : ev st.env x = some (.pointer (some a))) : Sy.Yields P N av bor w0 st (.nilCheck x) ty (.pointer (some a)) := Sy.Yields.mk fun A w ok d pos af g => by
  simp [execOp, ok.eval hx]
theorem sy_nilCheck {n : Nat} {x : Operand} {a : Addr} (hx : ev E x = some (.pointer (some a)) := by rfl) (hg : gdB ops E g = some (bb, want) := by rfl) (hbb : bb = want := by (first | with_reducible rfl | with_reducible assumption | with_reducible exact Bool.not_false | with_reducible exact Bool.not_true)) (hd : Nat.blt n N = true := by rfl) (h : Sw P N av bor w0 ops rest ⟨(n, .pointer (some a)) :: E, loc, X⟩ k) :
    Sw P N av bor w0 ops (⟨some n, .nilCheck x, ty, pos, af, g⟩ :: rest) ⟨E, loc, X⟩ k := sw_yield (y_nilCheck hx) hg hbb hd h
end
end Go.Proofs.YtlankpiogfhblaaGreatDoor.Sy
namespace Go.Proofs.YtlankpiogfhblaaGreatDoor
open Go Go.Proofs Sy
def Ints (w : World) (s : SlV) (l : List Int) : Prop := RowsD w 1 s (l.map fun n => [.int .i64 n])
theorem Ints.len_ {w : World} {s : SlV} {l : List Int} (h : Ints w s l) : s.n = l.length := by have := RowsD.len h; simpa using this
theorem Ints.some_ {w : World} {s : SlV} {l : List Int} (h : Ints w s l) (hl : 0 < l.length) : s.p.isSome = true := by
  have hx : l[0]? = some l[0] := List.getElem?_eq_getElem hl
  exact (RowsD.row h 0 [.int .i64 l[0]] (by simp [hx])).2.1
theorem Ints.get {w : World} {s : SlV} {l : List Int} (h : Ints w s l) {i : Nat} (hi : i < l.length) : CellAt w s.p i (.int .i64 (l.getD i 0)) := by
  have hx : l[i]? = some l[i] := List.getElem?_eq_getElem hi
  have := (RowsD.row h i [.int .i64 l[i]] (by simp [hx])).2.2 0 (.int .i64 l[i]) rfl
  simpa [hi] using this
/-- What the builder holds: its struct and its row. -/
def bld (b : Nat) (A : Option Addr) (c : Nat) (s : ByteArray) : List Res := [cel b 98 [.slice A s.size c], orow 5 1 (.slice A s.size c) s.size (u8s (bytesI s))]
def numsV (l : List Int) : ByteArray := cats (l.map numV)
structure NumsS (n : Nat) where
  k : Nat
  hk : k ≤ n
  A : Option Addr
  c : Nat
theorem nums_ct (b : Nat) (A : Option Addr) (c : Nat) (s : ByteArray) (sl : SlV) (l : List Int) (hl : ∀ n ∈ l, n < 9223372036854775808) (hs : s.size + (numsV l).size ≤ 1099511627776) :
    Ct Tryz.prog 37 #[.pointer (some ⟨b, 0, none⟩), sl.v] (bld b A c s) (fun w => Ints w sl l) fun u R _ => ∃ A' c', u = .tuple #[] ∧ R = bld b A' c' (s ++ numsV l) := by
  refine ct_of_cw (args := [_, _]) _ Tryz.func37 rfl Tryz.ntmps37 rfl fun av bor w0 => ?_
  refine cw_know (p := sl.n = l.length ∧ sl.n ≤ maxLen ∧ (0 < l.length → sl.p.isSome = true)) (fun w h => ⟨h.len_, Nat.le_trans (RowsD.cap h) (RowsD.max h), h.some_⟩) fun ⟨hn, hm, hp⟩ => ?_
  simp only [maxLen] at hm
  repeat' (first | apply sw_nil | apply cw_seq | apply cw_reg | refine sy_move (h := ?_) | refine sy_assign (h := ?_) | refine sy_nilCheck (h := ?_) | refine sy_fld (h := ?_) | refine sy_ld (h := ?_) | refine sy_ldAll (h := ?_) | refine sy_lss (h := ?_) | refine sy_slen (h := ?_) | refine sy_len (h := ?_) | refine sy_add (h := ?_) | refine sw_st1 (h := ?_) | refine sw_stAll (h := ?_) | refine cw_cond_t (ht := ?_) | refine cw_cond_f (hf := ?_) | apply cw_skip | apply cw_block | apply cw_ret | apply cw_exit | refine sy_arrA (h := ?_) | refine sy_strI (h := ?_) | (refine cw_cond (ht := ?_) (hf := ?_); all_goals (intro hx_; first | have := of_decide_eq_true hx_ | have := of_decide_eq_false hx_ | skip)))
  have hle := cats_take (l.map numV)
  have e0 : s ++ cats ((l.map numV).take 0) = s := by simp [cats]
  have hs' : s.size + (cats (l.map numV)).size ≤ 1099511627776 := hs
  refine cw_loop (ι := NumsS l.length) (fun i => ⟨[(0, .pointer (some ⟨b, 0, none⟩)), (6, sl.v), (7, .int .i64 sl.n), (8, .int .i64 i.k)], bld b i.A i.c (s ++ cats ((l.map numV).take i.k)), fun w => Ints w sl l⟩) (fun i => l.length - i.k) ⟨0, Nat.zero_le _, A, c⟩ (ok_sub ⟨rfl, rfl, rfl, rfl, trivial⟩ (by rw [e0]; exact List.Sublist.refl _) fun _ h => h) fun i => ?_
  have hik := i.hk
  have hout : (s ++ cats ((l.map numV).take i.k)).size ≤ 1099511627776 := by rw [ByteArray.size_append]; have := hle i.k; omega
  generalize ho : s ++ cats ((l.map numV).take i.k) = out at *
  unfold bld
  repeat' (first | apply sw_nil | apply cw_seq | apply cw_reg | refine sy_move (h := ?_) | refine sy_assign (h := ?_) | refine sy_nilCheck (h := ?_) | refine sy_fld (h := ?_) | refine sy_ld (h := ?_) | refine sy_ldAll (h := ?_) | refine sy_lss (h := ?_) | refine sy_slen (h := ?_) | refine sy_len (h := ?_) | refine sy_add (h := ?_) | refine sw_st1 (h := ?_) | refine sw_stAll (h := ?_) | refine cw_cond_t (ht := ?_) | refine cw_cond_f (hf := ?_) | apply cw_skip | apply cw_block | apply cw_ret | apply cw_exit | refine sy_arrA (h := ?_) | refine sy_strI (h := ?_) | (refine cw_cond (ht := ?_) (hf := ?_); all_goals (intro hx_; first | have := of_decide_eq_true hx_ | have := of_decide_eq_false hx_ | skip)))
  · have hlt : i.k < l.length := by omega
    have hp' := hp (by omega)
    have hsucc := cats_succ (l.map numV) (k := i.k) (by simpa using hlt)
    have hget : (l.map numV).getD i.k .empty = numV (l.getD i.k 0) := by simp [hlt]
    rw [hget] at hsucc
    have hln : l.getD i.k 0 < 9223372036854775808 := by simp only [List.getD_eq_getElem?_getD, List.getElem?_eq_getElem hlt, Option.getD_some]; exact hl _ (List.getElem_mem hlt)
    have hn10 := numV_size (l.getD i.k 0)
    repeat' (first | apply sw_nil | apply cw_seq | apply cw_reg | refine sy_move (h := ?_) | refine sy_assign (h := ?_) | refine sy_nilCheck (h := ?_) | refine sy_fld (h := ?_) | refine sy_ld (h := ?_) | refine sy_ldAll (h := ?_) | refine sy_lss (h := ?_) | refine sy_slen (h := ?_) | refine sy_len (h := ?_) | refine sy_add (h := ?_) | refine sw_st1 (h := ?_) | refine sw_stAll (h := ?_) | refine cw_cond_t (ht := ?_) | refine cw_cond_f (hf := ?_) | apply cw_skip | apply cw_block | apply cw_ret | apply cw_exit | refine sy_arrA (h := ?_) | refine sy_strI (h := ?_) | (refine sy_idxX (q := i.k) (h := ?_)) | (refine sy_ldX (hF := fun w h => Ints.get h hlt) (h := ?_)) | (refine cw_cond (ht := ?_) (hf := ?_); all_goals (intro hx_; first | have := of_decide_eq_true hx_ | have := of_decide_eq_false hx_ | skip)))
    (refine cw_draw [] (fun _ => True) (by kernel_rfl) ?_)
    all_goals (refine aw_take 0 (h := ?_))
    all_goals (refine aw_take 1 (h := ?_))
    all_goals (refine aw_take 2 (h := ?_))
    all_goals (refine aw_take 3 (h := ?_))
    all_goals (refine aw_take 5 (h := ?_))
    all_goals (refine aw_two 4 6 (h := ?_) (h' := ?_); (focus (((first | (refine sy_ld (h := ?_)) | (refine sy_ldAll (h := ?_))); apply sw_nil; refine aw_fin (h := ?_)); all_goals ((refine aw_step 6 (h := ?_); (first | refine sw_pu (hc := num_pu _ (by omega)) (h := ?_)); apply sw_nil; refine aw_fin (h := ?_)); all_goals (refine aw_step 7 (h := ?_); (first | (refine sw_append (size := 1) (z := .int .u8 0) rfl rfl rfl rfl (fun _ => At.there _ (At.here _)) (fun w G => src_str (by omega)) (by omega) (by simp only [maxLen]; omega) rfl ?_ rfl ?_; (first | with_reducible rfl | with_reducible assumption | with_reducible exact Bool.not_false | with_reducible exact Bool.not_true); intro A1 c1)); apply sw_nil; refine aw_fin (h := ?_)); all_goals (refine aw_take 8 (h := ?_)); all_goals (refine aw_take 9 (h := ?_)); all_goals (refine aw_step 10 (h := ?_); (first | (refine sw_st1 (h := ?_)) | (refine sw_stAll (h := ?_))); apply sw_nil; refine aw_fin (h := ?_)); all_goals (refine aw_done (h := ?_))))); rotate_right; (focus (((first | refine sw_pu (hc := num_pu _ (by omega)) (h := ?_)); apply sw_nil; refine aw_fin (h := ?_)); all_goals ((refine aw_step 4 (h := ?_); (first | (refine sy_ld (h := ?_)) | (refine sy_ldAll (h := ?_))); apply sw_nil; refine aw_fin (h := ?_)); all_goals (refine aw_step 7 (h := ?_); (first | (refine sw_append (size := 1) (z := .int .u8 0) rfl rfl rfl rfl (fun _ => At.there _ (At.here _)) (fun w G => src_str (by omega)) (by omega) (by simp only [maxLen]; omega) rfl ?_ rfl ?_; (first | with_reducible rfl | with_reducible assumption | with_reducible exact Bool.not_false | with_reducible exact Bool.not_true); intro A1 c1)); apply sw_nil; refine aw_fin (h := ?_)); all_goals (refine aw_take 8 (h := ?_)); all_goals (refine aw_take 9 (h := ?_)); all_goals (refine aw_step 10 (h := ?_); (first | (refine sw_st1 (h := ?_)) | (refine sw_stAll (h := ?_))); apply sw_nil; refine aw_fin (h := ?_)); all_goals (refine aw_done (h := ?_))))))
    all_goals (repeat' (first | apply sw_nil | apply cw_seq | apply cw_reg | refine sy_move (h := ?_) | refine sy_assign (h := ?_) | refine sy_nilCheck (h := ?_) | refine sy_fld (h := ?_) | refine sy_ld (h := ?_) | refine sy_ldAll (h := ?_) | refine sy_lss (h := ?_) | refine sy_slen (h := ?_) | refine sy_len (h := ?_) | refine sy_add (h := ?_) | refine sw_st1 (h := ?_) | refine sw_stAll (h := ?_) | refine cw_cond_t (ht := ?_) | refine cw_cond_f (hf := ?_) | apply cw_skip | apply cw_block | apply cw_ret | apply cw_exit | refine sy_arrA (h := ?_) | refine sy_strI (h := ?_) | (refine cw_cond (ht := ?_) (hf := ?_); all_goals (intro hx_; first | have := of_decide_eq_true hx_ | have := of_decide_eq_false hx_ | skip))))
    have e2 : s ++ cats ((l.map numV).take (i.k + 1)) = out ++ numV (l.getD i.k 0) := by rw [hsucc, ← ByteArray.append_assoc, ho]
    all_goals exact ⟨(⟨i.k + 1, hlt, A1, c1⟩ : NumsS l.length), (by show l.length - (i.k + 1) < l.length - i.k; omega), ok_sub ⟨rfl, rfl, rfl, rfl, trivial⟩ (by
      show List.Sublist (bld b A1 c1 (s ++ cats ((l.map numV).take (i.k + 1)))) _
      have e2 : s ++ cats ((l.map numV).take (i.k + 1)) = out ++ numV (l.getD i.k 0) := by rw [hsucc, ← ByteArray.append_assoc, ho]
      rw [e2]
      simp only [bld, ByteArray.size_append, bytesI_append, u8s_append]
      exact List.Sublist.refl _) fun _ h => h⟩
  · have hk : i.k = l.length := by omega
    refine ends_end (res_none rfl) ⟨i.A, i.c, rfl, ?_⟩
    rw [numsV, ← ho, hk, List.take_of_length_le (by simp)]
end Go.Proofs.YtlankpiogfhblaaGreatDoor

/- Contracts: package item, items of an act alone. -/
set_option linter.unusedVariables false
set_option linter.unusedSimpArgs false
namespace Go.Proofs.YtlankpiogfhblaaGreatDoor.Sy
open Go Go.RowKit
section
variable {P : Program} {N : Nat} {av bor : List Nat} {w0 : World} {ops : Array Oper} {rest : List Oper} {k : St → Prop} {E : Env} {loc loc' : List Res} {X : World → Prop}
variable {d : Option Tmp} {ty : TypeId} {pos : String} {af : Array Edge} {g : Option (Nat × Bool)} {bb want : Bool} {K : Exit → St → Prop}
/-- '==' of closed values: by the kernel. -/
theorem y_eqk {st : St} {x y : Operand} {t t2 : TypeId} {a b : Value} (hx : ev st.env x = some a) (hy : ev st.env y = some b)
    (h : ∀ w, (do eqGuard .eql t x y a b; binOp .eql t a b : Sem Value).run P w = .ok (.bool true) w) : Sy.Yields P N av bor w0 st (.binOp .eql t x y t2) ty (.bool true) := Sy.Yields.mk fun A w ok d pos af g => by
  have := h w
  simp only [execOp, ok.eval hx, ok.eval hy]
  simp only [Sem.run_bind] at this ⊢
  rw [this]
  rfl
theorem sy_eqk {n : Nat} {x y : Operand} {t t2 : TypeId} {a b : Value} (hx : ev E x = some a := by rfl) (hy : ev E y = some b := by rfl) (h0 : ∀ w, (do eqGuard .eql t x y a b; binOp .eql t a b : Sem Value).run P w = .ok (.bool true) w)
    (hg : gdB ops E g = some (bb, want) := by rfl) (hbb : bb = want := by (first | with_reducible rfl | with_reducible assumption | with_reducible exact Bool.not_false | with_reducible exact Bool.not_true)) (hd : Nat.blt n N = true := by rfl) (h : Sw P N av bor w0 ops rest ⟨(n, .bool true) :: E, loc, X⟩ k) :
    Sw P N av bor w0 ops (⟨some n, .binOp .eql t x y t2, ty, pos, af, g⟩ :: rest) ⟨E, loc, X⟩ k := sw_yield (y_eqk hx hy h0) hg hbb hd h
end
end Go.Proofs.YtlankpiogfhblaaGreatDoor.Sy
namespace Go.Proofs.YtlankpiogfhblaaGreatDoor
open Go Go.Proofs Sy
theorem equalS_pu : Pu Tryz.prog 43 #[.slice none 0 0, .slice none 0 0] (fun _ => True) (.bool true) := by
  refine pu_of_cw (args := [_, _]) _ Tryz.func43 rfl Tryz.ntmps43 rfl fun av bor w0 => ?_
  repeat' (first | apply sw_nil | apply cw_seq | apply cw_reg | refine sy_move (h := ?_) | refine sy_assign (h := ?_) | refine sy_ld (h := ?_) | refine sy_ldAll (h := ?_) | refine sy_neq (h := ?_) | refine sy_lss (h := ?_) | refine sy_sneq (h := ?_) | refine sy_slen (h := ?_) | refine sy_len (h := ?_) | refine sy_add (h := ?_) | refine cw_cond_t (ht := ?_) | refine cw_cond_f (hf := ?_) | apply cw_skip | apply cw_block | apply cw_ret | apply cw_exit | refine sy_bneq (h := ?_) | refine sy_arrA (h := ?_) | refine sy_strI (h := ?_) | (refine cw_cond (ht := ?_) (hf := ?_); all_goals (intro hx_; first | have := of_decide_eq_true hx_ | have := of_decide_eq_false hx_ | skip)))
  · simp at *
  refine cw_loop (ι := Unit) (fun _ => ⟨[(12, .int .i64 0), (13, .int .i64 0)], [], fun _ => True⟩) (fun _ => 0) () (ok_sub ⟨rfl, rfl, trivial⟩ (List.Sublist.refl _) fun _ h => h) fun _ => ?_
  repeat' (first | apply sw_nil | apply cw_seq | apply cw_reg | refine sy_move (h := ?_) | refine sy_assign (h := ?_) | refine sy_ld (h := ?_) | refine sy_ldAll (h := ?_) | refine sy_neq (h := ?_) | refine sy_lss (h := ?_) | refine sy_sneq (h := ?_) | refine sy_slen (h := ?_) | refine sy_len (h := ?_) | refine sy_add (h := ?_) | refine cw_cond_t (ht := ?_) | refine cw_cond_f (hf := ?_) | apply cw_skip | apply cw_block | apply cw_ret | apply cw_exit | refine sy_bneq (h := ?_) | refine sy_arrA (h := ?_) | refine sy_strI (h := ?_) | (refine cw_cond (ht := ?_) (hf := ?_); all_goals (intro hx_; first | have := of_decide_eq_true hx_ | have := of_decide_eq_false hx_ | skip)))
  · exact absurd this (by decide)
  · apply ends_ret; apply res_tmp; rfl; rfl; rfl
theorem equalW_pu : Pu Tryz.prog 118 #[.slice none 0 0, .slice none 0 0] (fun _ => True) (.bool true) := by
  refine pu_of_cw (args := [_, _]) _ Tryz.func118 rfl Tryz.ntmps118 rfl fun av bor w0 => ?_
  repeat' (first | apply sw_nil | apply cw_seq | apply cw_reg | refine sy_move (h := ?_) | refine sy_assign (h := ?_) | refine sy_ld (h := ?_) | refine sy_ldAll (h := ?_) | refine sy_neq (h := ?_) | refine sy_lss (h := ?_) | refine sy_sneq (h := ?_) | refine sy_slen (h := ?_) | refine sy_len (h := ?_) | refine sy_add (h := ?_) | refine cw_cond_t (ht := ?_) | refine cw_cond_f (hf := ?_) | apply cw_skip | apply cw_block | apply cw_ret | apply cw_exit | refine sy_bneq (h := ?_) | refine sy_arrA (h := ?_) | refine sy_strI (h := ?_) | (refine cw_cond (ht := ?_) (hf := ?_); all_goals (intro hx_; first | have := of_decide_eq_true hx_ | have := of_decide_eq_false hx_ | skip)))
  · simp at *
  refine cw_loop (ι := Unit) (fun _ => ⟨[(12, .int .i64 0), (13, .int .i64 0)], [], fun _ => True⟩) (fun _ => 0) () (ok_sub ⟨rfl, rfl, trivial⟩ (List.Sublist.refl _) fun _ h => h) fun _ => ?_
  repeat' (first | apply sw_nil | apply cw_seq | apply cw_reg | refine sy_move (h := ?_) | refine sy_assign (h := ?_) | refine sy_ld (h := ?_) | refine sy_ldAll (h := ?_) | refine sy_neq (h := ?_) | refine sy_lss (h := ?_) | refine sy_sneq (h := ?_) | refine sy_slen (h := ?_) | refine sy_len (h := ?_) | refine sy_add (h := ?_) | refine cw_cond_t (ht := ?_) | refine cw_cond_f (hf := ?_) | apply cw_skip | apply cw_block | apply cw_ret | apply cw_exit | refine sy_bneq (h := ?_) | refine sy_arrA (h := ?_) | refine sy_strI (h := ?_) | (refine cw_cond (ht := ?_) (hf := ?_); all_goals (intro hx_; first | have := of_decide_eq_true hx_ | have := of_decide_eq_false hx_ | skip)))
  · exact absurd this (by decide)
  · apply ends_ret; apply res_tmp; rfl; rfl; rfl
def ActD.zero : ActD := ⟨⟨#[]⟩, 0, ⟨#[]⟩, 0, 0, ⟨#[]⟩, ⟨#[]⟩, 0, ⟨#[]⟩, ⟨none, 0, 0⟩, ⟨#[]⟩, BoxD.zero, 0, ⟨none, 0, 0⟩, 0, 0, 0, 0, [], []⟩
set_option maxRecDepth 20000 in
theorem actSame_pu : Pu Tryz.prog 80 #[ActD.zero.v, ActD.zero.v] (fun _ => True) (.bool true) := by
  refine pu_of_cw (args := [_, _]) _ Tryz.func80 rfl Tryz.ntmps80 rfl fun av bor w0 => ?_
  repeat' (first | (refine sy_eqk (h0 := by intro _; kernel_rfl) (h := ?_)) | apply sw_nil | apply cw_seq | apply cw_reg | refine sy_move (h := ?_) | refine sy_assign (h := ?_) | refine sy_fld (h := ?_) | refine sy_ld (h := ?_) | refine sy_ldAll (h := ?_) | refine sy_pick_t (h := ?_) | refine sy_pick_f (h := ?_) | refine sy_eql (h := ?_) | refine sy_seql (h := ?_) | refine sw_skipT (h := ?_) | refine sw_skipF (h := ?_) | refine sw_skipU (h := ?_) | refine sw_box (h := fun _ => ?_) | refine cw_cond_t (ht := ?_) | refine cw_cond_f (hf := ?_) | apply cw_skip | apply cw_block | apply cw_ret | apply cw_exit | refine sy_beql (h := ?_) | refine sy_arrA (h := ?_) | refine sy_strI (h := ?_) | refine sw_pu (hc := equalS_pu) (h := ?_) | refine sw_pu (hc := equalW_pu) (h := ?_) | (refine sy_ldSub (h := ?_)) | (refine sy_ldSub (vs := [.int .i64 0, .int .i64 0]) (hv := rfl) (h := ?_)))
  all_goals (apply ends_ret; apply res_tmp; rfl; rfl; rfl)
def decZero : List Value := [.int .i64 0, .int .i64 0, .int .i64 0, .string ⟨#[]⟩, .string ⟨#[]⟩, .string ⟨#[]⟩, .slice none 0 0, .int .i64 0, .int .i64 0, .int .i64 0, .int .i64 0, .int .i64 0]
set_option maxRecDepth 20000 in
theorem sameDecision_pu : Pu Tryz.prog 81 #[.agg decZero.toArray, .agg decZero.toArray] (fun _ => True) (.bool true) := by
  refine pu_of_cw (args := [_, _]) _ Tryz.func81 rfl Tryz.ntmps81 rfl fun av bor w0 => ?_
  repeat' (first | (refine sy_eqk (h0 := by intro _; kernel_rfl) (h := ?_)) | apply sw_nil | apply cw_seq | apply cw_reg | refine sy_move (h := ?_) | refine sy_assign (h := ?_) | refine sy_fld (h := ?_) | refine sy_ld (h := ?_) | refine sy_ldAll (h := ?_) | refine sy_pick_t (h := ?_) | refine sy_pick_f (h := ?_) | refine sy_eql (h := ?_) | refine sy_seql (h := ?_) | refine sw_skipT (h := ?_) | refine sw_skipF (h := ?_) | refine sw_skipU (h := ?_) | refine sw_box (h := fun _ => ?_) | refine cw_cond_t (ht := ?_) | refine cw_cond_f (hf := ?_) | apply cw_skip | apply cw_block | apply cw_ret | apply cw_exit | refine sy_beql (h := ?_) | refine sy_arrA (h := ?_) | refine sy_strI (h := ?_) | refine sw_pu (hc := equalS_pu) (h := ?_) | (refine sy_ldSub (vs := [.int .i64 0, .int .i64 0]) (hv := rfl) (h := ?_)))
  all_goals (apply ends_ret; apply res_tmp; rfl; rfl; rfl)
def claimZero : List Value := [.string ⟨#[]⟩, .int .i64 0, .string ⟨#[]⟩, .int .i64 0, .int .i64 0, .int .i64 0, .int .i64 0, .int .i64 0, .int .i64 0]
def ballotZero : List Value := [.int .i64 0, .string ⟨#[]⟩, .int .i64 0, .string ⟨#[]⟩, .int .i64 0, .int .i64 0, .int .i64 0]
def itemCells (kind : Int) (a : ActD) : List Value := .int .i64 kind :: (a.cells ++ claimZero ++ ballotZero ++ decZero)
def itemV (kind : Int) (a : ActD) : Value := .agg (itemCells kind a).toArray
set_option maxRecDepth 20000 in
theorem itemSame_pu : Pu Tryz.prog 57 #[itemV 0 ActD.zero, itemV 0 ActD.zero] (fun _ => True) (.bool true) := by
  refine pu_of_cw (args := [_, _]) _ Tryz.func57 rfl Tryz.ntmps57 rfl fun av bor w0 => ?_
  repeat' (first | (refine sy_eqk (h0 := by intro _; kernel_rfl) (h := ?_)) | apply sw_nil | apply cw_seq | apply cw_reg | refine sy_move (h := ?_) | refine sy_assign (h := ?_) | refine sy_fld (h := ?_) | refine sy_ld (h := ?_) | refine sy_ldAll (h := ?_) | refine sy_pick_t (h := ?_) | refine sy_pick_f (h := ?_) | refine sy_eql (h := ?_) | refine sy_seql (h := ?_) | refine sw_skipT (h := ?_) | refine sw_skipF (h := ?_) | refine sw_skipU (h := ?_) | refine sw_box (h := fun _ => ?_) | refine cw_cond_t (ht := ?_) | refine cw_cond_f (hf := ?_) | apply cw_skip | apply cw_block | apply cw_ret | apply cw_exit | refine sy_beql (h := ?_) | refine sy_arrA (h := ?_) | refine sy_strI (h := ?_) | refine sw_pu (hc := actSame_pu) (h := ?_) | refine sw_pu (hc := sameDecision_pu) (h := ?_) | (refine sy_ldSub (vs := ActD.zero.cells) (hv := rfl) (h := ?_)) | (refine sy_ldSub (vs := claimZero) (hv := rfl) (h := ?_)) | (refine sy_ldSub (vs := ballotZero) (hv := rfl) (h := ?_)) | (refine sy_ldSub (vs := decZero) (hv := rfl) (h := ?_)))
  all_goals (apply ends_ret; apply res_tmp; rfl; rfl; rfl)
end Go.Proofs.YtlankpiogfhblaaGreatDoor

/- What the type table says, by hand: arrays, bools, maps. -/
set_option linter.unusedVariables false
namespace Go.Proofs.YtlankpiogfhblaaGreatDoor
open Go Go.Proofs Sy
instance : TyArr Tryz.prog 107 8 106 := ⟨by kernel_rfl⟩
instance : TyArr Tryz.prog 128 64 106 := ⟨by kernel_rfl⟩
end Go.Proofs.YtlankpiogfhblaaGreatDoor

/- Contracts: package sum. -/
set_option linter.unusedVariables false
set_option linter.unusedSimpArgs false
namespace Go.Proofs.YtlankpiogfhblaaGreatDoor
open Go Go.Proofs Sy
def rotlV (x k : Int) : Int := bitsV .or .u32 (shlV .u32 x (bitsV .and .u64 (IntKind.u64.wrap k) 31)) (shrV .u32 x (IntKind.u64.wrap (32 - bitsV .and .u64 (IntKind.u64.wrap k) 31)))
theorem rotl_pu (x k : Int) : Pu Tryz.prog 86 #[.int .u32 x, .int .i64 k] (fun _ => True) (.int .u32 (rotlV x k)) := by
  refine pu_of_cw (args := [_, _]) _ Tryz.func86 rfl Tryz.ntmps86 rfl fun av bor w0 => ?_
  repeat' (first | apply sw_nil | apply cw_seq | apply cw_reg | refine sy_move (h := ?_) | refine sy_assign (h := ?_) | refine sy_sub (h := ?_) | refine cw_cond_t (ht := ?_) | refine cw_cond_f (hf := ?_) | apply cw_skip | apply cw_block | apply cw_ret | apply cw_exit | refine sy_and (h := ?_) | refine sy_or (h := ?_) | refine sy_shl (h := ?_) | refine sy_shr (h := ?_) | refine sy_int (h := ?_) | refine sy_arrA (h := ?_) | refine sy_strI (h := ?_))
  apply ends_ret; apply res_tmp; rfl; rfl; rfl
def turnV (w n : Int) : Int := rotlV w (IntKind.i64.wrap (0 - n))
theorem turn_pu (w n : Int) : Pu Tryz.prog 64 #[.int .u32 w, .int .i64 n] (fun _ => True) (.int .u32 (turnV w n)) := by
  refine pu_of_cw (args := [_, _]) _ Tryz.func64 rfl Tryz.ntmps64 rfl fun av bor w0 => ?_
  repeat' (first | apply sw_nil | apply cw_seq | apply cw_reg | refine sy_move (h := ?_) | refine sy_assign (h := ?_) | refine cw_cond_t (ht := ?_) | refine cw_cond_f (hf := ?_) | apply cw_skip | apply cw_block | apply cw_ret | apply cw_exit | refine sy_arrA (h := ?_) | refine sy_strI (h := ?_) | (refine sy_neg (hc := rfl) (h := ?_)) | refine sw_pu (hc := rotl_pu _ _) (h := ?_))
  apply ends_ret; apply res_tmp; rfl; rfl; rfl

theorem blt_of {a b : Nat} (h : a < b) : Nat.blt a b = true := Nat.ble_eq_true_of_le h
/-! schedule -/
def u32s (ws : List Int) : List Value := ws.map (.int .u32)
theorem u32s_len (ws : List Int) : (u32s ws).length = ws.length := by simp [u32s]
theorem u32s_set (ws : List Int) (i : Nat) (v : Int) : (u32s ws).set i (.int .u32 v) = u32s (ws.set i v) := by simp [u32s, List.map_set]
theorem u32s_get (ws : List Int) (i : Nat) (h : i < ws.length) : (u32s ws)[i]? = some (.int .u32 (ws.getD i 0)) := by simp [u32s, h]
def a32 (a b : Int) : Int := IntKind.u32.wrap (a + b)
def wordV (s : ByteArray) (i : Nat) : Int :=
  bitsV .or .u32 (bitsV .or .u32 (bitsV .or .u32 (shlV .u32 (IntKind.u32.wrap (byteAt (s.extract (4 * (i : Int)).toNat (4 * (i : Int) + 4).toNat) 0)) 24) (shlV .u32 (IntKind.u32.wrap (byteAt (s.extract (4 * (i : Int)).toNat (4 * (i : Int) + 4).toNat) 1)) 16))
    (shlV .u32 (IntKind.u32.wrap (byteAt (s.extract (4 * (i : Int)).toNat (4 * (i : Int) + 4).toNat) 2)) 8)) (IntKind.u32.wrap (byteAt (s.extract (4 * (i : Int)).toNat (4 * (i : Int) + 4).toNat) 3))
def w1 (s : ByteArray) : Nat → List Int
  | 0 => List.replicate 64 0
  | i + 1 => (w1 s i).set i (wordV s i)
theorem w1_len (s : ByteArray) : ∀ i, (w1 s i).length = 64
  | 0 => rfl
  | i + 1 => by rw [w1, List.length_set, w1_len s i]
def early (w : List Int) (i : Nat) : Int := bitsV .xor .u32 (bitsV .xor .u32 (turnV (w.getD (i - 15) 0) 7) (turnV (w.getD (i - 15) 0) 18)) (shrV .u32 (w.getD (i - 15) 0) 3)
def late (w : List Int) (i : Nat) : Int := bitsV .xor .u32 (bitsV .xor .u32 (turnV (w.getD (i - 2) 0) 17) (turnV (w.getD (i - 2) 0) 19)) (shrV .u32 (w.getD (i - 2) 0) 10)
def w2 (s : ByteArray) : Nat → List Int
  | 0 => w1 s 16
  | k + 1 => (w2 s k).set (16 + k) (a32 (a32 (a32 ((w2 s k).getD k 0) (early (w2 s k) (16 + k))) ((w2 s k).getD (16 + k - 7) 0)) (late (w2 s k) (16 + k)))
theorem w2_len (s : ByteArray) : ∀ i, (w2 s i).length = 64
  | 0 => w1_len s 16
  | i + 1 => by rw [w2, List.length_set, w2_len s i]
def schedV (s : ByteArray) : List Int := w2 s 48
theorem schedule_pu (s : ByteArray) (hs : s.size = 64) : Pu Tryz.prog 63 #[.string s] (fun _ => True) (.agg (u32s (schedV s)).toArray) := by
  refine pu_of_cw (args := [_]) _ Tryz.func63 rfl Tryz.ntmps63 rfl fun av bor w0 => ?_
  repeat' (first | apply sw_nil | apply cw_seq | apply cw_reg | refine sy_move (h := ?_) | refine sy_assign (h := ?_) | refine sy_ld (h := ?_) | refine sy_ldAll (h := ?_) | refine sy_lss (h := ?_) | refine sy_add (h := ?_) | refine sy_sub (h := ?_) | refine sw_alloc (h := fun _ => ?_) | refine sw_st1 (h := ?_) | refine sw_stAll (h := ?_) | refine cw_cond_t (ht := ?_) | refine cw_cond_f (hf := ?_) | apply cw_skip | apply cw_block | apply cw_ret | apply cw_exit | refine sy_or (h := ?_) | refine sy_xor (h := ?_) | refine sy_shl (h := ?_) | refine sy_shr (h := ?_) | refine sy_mul (h := ?_) | refine sy_int (h := ?_) | refine sy_arrA (h := ?_) | refine sy_strI (h := ?_))
  rename_i b1 b2
  refine cw_loop (ι := Kth 16) (fun i => ⟨[(0, .string s), (2, .pointer (some ⟨b1, 0, none⟩)), (3, .pointer (some ⟨b2, 0, none⟩)), (11, .int .i64 i.k)], [cel b2 128 (u32s (w1 s i.k)), cel b1 128 (u32s (List.replicate 64 0))], fun _ => True⟩) (fun i => 16 - i.k) ⟨0, Nat.zero_le _⟩ (ok_sub ⟨rfl, rfl, rfl, rfl, trivial⟩ (List.Sublist.refl _) fun _ h => h) fun i => ?_
  have hik := i.hk
  repeat' (first | apply sw_nil | apply cw_seq | apply cw_reg | refine sy_move (h := ?_) | refine sy_assign (h := ?_) | refine sy_ld (h := ?_) | refine sy_ldAll (h := ?_) | refine sy_lss (h := ?_) | refine sy_add (h := ?_) | refine sy_sub (h := ?_) | refine sw_alloc (h := fun _ => ?_) | refine sw_st1 (h := ?_) | refine sw_stAll (h := ?_) | refine cw_cond_t (ht := ?_) | refine cw_cond_f (hf := ?_) | apply cw_skip | apply cw_block | apply cw_ret | apply cw_exit | refine sy_or (h := ?_) | refine sy_xor (h := ?_) | refine sy_shl (h := ?_) | refine sy_shr (h := ?_) | refine sy_mul (h := ?_) | refine sy_int (h := ?_) | refine sy_arrA (h := ?_) | refine sy_strI (h := ?_) | (refine cw_cond (ht := ?_) (hf := ?_); all_goals (intro hx_; first | have := of_decide_eq_true hx_ | have := of_decide_eq_false hx_ | skip)))
  · have hlt : i.k < 16 := by omega
    have hlen := w1_len s i.k
    have hes : (s.extract (4 * (i.k : Int)).toNat (4 * (i.k : Int) + 4).toNat).size = 4 := by simp only [ByteArray.size_extract]; omega
    repeat' (first | apply sw_nil | apply cw_seq | apply cw_reg | refine sy_move (h := ?_) | refine sy_assign (h := ?_) | refine sy_ld (h := ?_) | refine sy_ldAll (h := ?_) | refine sy_lss (h := ?_) | refine sy_add (h := ?_) | refine sy_sub (h := ?_) | refine sw_alloc (h := fun _ => ?_) | refine sw_st1 (h := ?_) | refine sw_stAll (h := ?_) | refine cw_cond_t (ht := ?_) | refine cw_cond_f (hf := ?_) | apply cw_skip | apply cw_block | apply cw_ret | apply cw_exit | refine sy_or (h := ?_) | refine sy_xor (h := ?_) | refine sy_shl (h := ?_) | refine sy_shr (h := ?_) | refine sy_mul (h := ?_) | refine sy_int (h := ?_) | refine sy_arrA (h := ?_) | refine sy_strI (h := ?_) | (refine cw_cond (ht := ?_) (hf := ?_); all_goals (intro hx_; first | have := of_decide_eq_true hx_ | have := of_decide_eq_false hx_ | skip)))
    refine sy_strLH (h0 := by omega) (h1 := by omega) (h2 := by omega) (h := ?_)
    repeat' (first | apply sw_nil | apply cw_seq | apply cw_reg | refine sy_move (h := ?_) | refine sy_assign (h := ?_) | refine sy_ld (h := ?_) | refine sy_ldAll (h := ?_) | refine sy_lss (h := ?_) | refine sy_add (h := ?_) | refine sy_sub (h := ?_) | refine sw_alloc (h := fun _ => ?_) | refine sw_st1 (h := ?_) | refine sw_stAll (h := ?_) | refine cw_cond_t (ht := ?_) | refine cw_cond_f (hf := ?_) | apply cw_skip | apply cw_block | apply cw_ret | apply cw_exit | refine sy_or (h := ?_) | refine sy_xor (h := ?_) | refine sy_shl (h := ?_) | refine sy_shr (h := ?_) | refine sy_mul (h := ?_) | refine sy_int (h := ?_) | refine sy_arrA (h := ?_) | refine sy_strI (h := ?_) | (refine cw_cond (ht := ?_) (hf := ?_); all_goals (intro hx_; first | have := of_decide_eq_true hx_ | have := of_decide_eq_false hx_ | skip)))
    (refine cw_draw [] (fun _ => True) (by kernel_rfl) ?_)
    all_goals (refine aw_take 0 (h := ?_))
    all_goals (refine aw_take 1 (h := ?_))
    all_goals (first | refine aw_take 2 (h := ?_) | refine aw_take 2 (hy := by (first | (apply y_strI; rfl; rfl; decide; (rw [hes]; decide)) | (apply y_arrA (q := i.k); rfl; rfl; omega; omega; omega))) (h := ?_))
    all_goals (first | refine aw_take 3 (h := ?_) | refine aw_take 3 (hy := by (first | (apply y_strI; rfl; rfl; decide; (rw [hes]; decide)) | (apply y_arrA (q := i.k); rfl; rfl; omega; omega; omega))) (h := ?_))
    all_goals (first | refine aw_take 4 (h := ?_) | refine aw_take 4 (hy := by (first | (apply y_strI; rfl; rfl; decide; (rw [hes]; decide)) | (apply y_arrA (q := i.k); rfl; rfl; omega; omega; omega))) (h := ?_))
    all_goals (refine aw_take 5 (h := ?_))
    all_goals (first | refine aw_take 6 (h := ?_) | refine aw_take 6 (hy := by (first | (apply y_strI; rfl; rfl; decide; (rw [hes]; decide)) | (apply y_arrA (q := i.k); rfl; rfl; omega; omega; omega))) (h := ?_))
    all_goals (first | refine aw_take 7 (h := ?_) | refine aw_take 7 (hy := by (first | (apply y_strI; rfl; rfl; decide; (rw [hes]; decide)) | (apply y_arrA (q := i.k); rfl; rfl; omega; omega; omega))) (h := ?_))
    all_goals (first | refine aw_take 8 (h := ?_) | refine aw_take 8 (hy := by (first | (apply y_strI; rfl; rfl; decide; (rw [hes]; decide)) | (apply y_arrA (q := i.k); rfl; rfl; omega; omega; omega))) (h := ?_))
    all_goals (first | refine aw_take 9 (h := ?_) | refine aw_take 9 (hy := by (first | (apply y_strI; rfl; rfl; decide; (rw [hes]; decide)) | (apply y_arrA (q := i.k); rfl; rfl; omega; omega; omega))) (h := ?_))
    all_goals (refine aw_take 10 (h := ?_))
    all_goals (first | refine aw_take 11 (h := ?_) | refine aw_take 11 (hy := by (first | (apply y_strI; rfl; rfl; decide; (rw [hes]; decide)) | (apply y_arrA (q := i.k); rfl; rfl; omega; omega; omega))) (h := ?_))
    all_goals (first | refine aw_take 12 (h := ?_) | refine aw_take 12 (hy := by (first | (apply y_strI; rfl; rfl; decide; (rw [hes]; decide)) | (apply y_arrA (q := i.k); rfl; rfl; omega; omega; omega))) (h := ?_))
    all_goals (first | refine aw_take 13 (h := ?_) | refine aw_take 13 (hy := by (first | (apply y_strI; rfl; rfl; decide; (rw [hes]; decide)) | (apply y_arrA (q := i.k); rfl; rfl; omega; omega; omega))) (h := ?_))
    all_goals (first | refine aw_take 14 (h := ?_) | refine aw_take 14 (hy := by (first | (apply y_strI; rfl; rfl; decide; (rw [hes]; decide)) | (apply y_arrA (q := i.k); rfl; rfl; omega; omega; omega))) (h := ?_))
    all_goals (refine aw_take 15 (h := ?_))
    all_goals (first | refine aw_take 16 (h := ?_) | refine aw_take 16 (hy := by (first | (apply y_strI; rfl; rfl; decide; (rw [hes]; decide)) | (apply y_arrA (q := i.k); rfl; rfl; omega; omega; omega))) (h := ?_))
    all_goals (first | refine aw_take 17 (h := ?_) | refine aw_take 17 (hy := by (first | (apply y_strI; rfl; rfl; decide; (rw [hes]; decide)) | (apply y_arrA (q := i.k); rfl; rfl; omega; omega; omega))) (h := ?_))
    all_goals (first | refine aw_take 18 (h := ?_) | refine aw_take 18 (hy := by (first | (apply y_strI; rfl; rfl; decide; (rw [hes]; decide)) | (apply y_arrA (q := i.k); rfl; rfl; omega; omega; omega))) (h := ?_))
    all_goals (first | refine aw_take 19 (h := ?_) | refine aw_take 19 (hy := by (first | (apply y_strI; rfl; rfl; decide; (rw [hes]; decide)) | (apply y_arrA (q := i.k); rfl; rfl; omega; omega; omega))) (h := ?_))
    all_goals (refine aw_step 20 (h := ?_); (first | (refine sw_st1 (h := ?_)) | (refine sw_stAll (h := ?_)) | (refine sw_st1 (hl := blt_of (by simp only [u32s_len, hlen]; omega)) (h := ?_))); apply sw_nil; refine aw_fin (h := ?_))
    all_goals (refine aw_done (h := ?_))
    repeat' (first | apply sw_nil | apply cw_seq | apply cw_reg | refine sy_move (h := ?_) | refine sy_assign (h := ?_) | refine sy_ld (h := ?_) | refine sy_ldAll (h := ?_) | refine sy_lss (h := ?_) | refine sy_add (h := ?_) | refine sy_sub (h := ?_) | refine sw_alloc (h := fun _ => ?_) | refine sw_st1 (h := ?_) | refine sw_stAll (h := ?_) | refine cw_cond_t (ht := ?_) | refine cw_cond_f (hf := ?_) | apply cw_skip | apply cw_block | apply cw_ret | apply cw_exit | refine sy_or (h := ?_) | refine sy_xor (h := ?_) | refine sy_shl (h := ?_) | refine sy_shr (h := ?_) | refine sy_mul (h := ?_) | refine sy_int (h := ?_) | refine sy_arrA (h := ?_) | refine sy_strI (h := ?_) | (refine cw_cond (ht := ?_) (hf := ?_); all_goals (intro hx_; first | have := of_decide_eq_true hx_ | have := of_decide_eq_false hx_ | skip)))
    exact ⟨(⟨i.k + 1, hlt⟩ : Kth 16), (by show 16 - (i.k + 1) < 16 - i.k; omega), ok_sub ⟨rfl, rfl, rfl, rfl, trivial⟩ (by
      show List.Sublist [cel b2 _ (u32s (w1 s (i.k + 1))), _] _
      rw [w1, ← u32s_set]
      exact List.Sublist.refl _) fun _ h => h⟩
  have hk : i.k = 16 := by omega
  refine cw_loop (ι := Kth 48) (fun i => ⟨[(0, .string s), (2, .pointer (some ⟨b1, 0, none⟩)), (3, .pointer (some ⟨b2, 0, none⟩)), (6, .int .i64 (16 + i.k))], [cel b2 128 (u32s (w2 s i.k)), cel b1 128 (u32s (List.replicate 64 0))], fun _ => True⟩) (fun i => 48 - i.k) ⟨0, Nat.zero_le _⟩ (ok_sub ⟨rfl, rfl, rfl, rfl, trivial⟩ (by
    show List.Sublist [cel b2 _ (u32s (w1 s 16)), _] _
    rw [hk]
    exact List.Sublist.refl _) fun _ h => h) fun i => ?_
  have hik := i.hk
  have hlen := w2_len s i.k
  repeat' (first | apply sw_nil | apply cw_seq | apply cw_reg | refine sy_move (h := ?_) | refine sy_assign (h := ?_) | refine sy_ld (h := ?_) | refine sy_ldAll (h := ?_) | refine sy_lss (h := ?_) | refine sy_add (h := ?_) | refine sy_sub (h := ?_) | refine sw_alloc (h := fun _ => ?_) | refine sw_st1 (h := ?_) | refine sw_stAll (h := ?_) | refine cw_cond_t (ht := ?_) | refine cw_cond_f (hf := ?_) | apply cw_skip | apply cw_block | apply cw_ret | apply cw_exit | refine sy_or (h := ?_) | refine sy_xor (h := ?_) | refine sy_shl (h := ?_) | refine sy_shr (h := ?_) | refine sy_mul (h := ?_) | refine sy_int (h := ?_) | refine sy_arrA (h := ?_) | refine sy_strI (h := ?_) | (refine cw_cond (ht := ?_) (hf := ?_); all_goals (intro hx_; first | have := of_decide_eq_true hx_ | have := of_decide_eq_false hx_ | skip)))
  · have hlt : i.k < 48 := by omega
    (apply cw_draw0; kernel_rfl)
    all_goals (refine aw_take 0 (h := ?_))
    all_goals (first | refine aw_take 1 (h := ?_) | refine aw_take 1 (hy := by (first | (apply y_arrA (q := 16 + i.k - 15); rfl; rfl; omega; omega; omega) | (apply y_arrA (q := 16 + i.k - 2); rfl; rfl; omega; omega; omega))) (h := ?_))
    all_goals (first | refine aw_take 2 (h := ?_) | refine aw_take 2 (hy := by (first | (apply y_arrA (q := 16 + i.k - 15); rfl; rfl; omega; omega; omega) | (apply y_arrA (q := 16 + i.k - 2); rfl; rfl; omega; omega; omega))) (h := ?_))
    all_goals (first | refine aw_take 3 (h := ?_) | refine aw_take 3 (hy := by (first | (apply y_arrA (q := 16 + i.k - 15); rfl; rfl; omega; omega; omega) | (apply y_arrA (q := 16 + i.k - 2); rfl; rfl; omega; omega; omega) | (apply y_ld; rfl; (repeat (first | exact List.mem_cons_self | apply List.mem_cons_of_mem)); exact u32s_get _ _ (by omega)))) (h := ?_))
    all_goals (refine aw_take 4 (h := ?_))
    all_goals (first | refine aw_take 5 (h := ?_) | refine aw_take 5 (hy := by (first | (apply y_arrA (q := 16 + i.k - 15); rfl; rfl; omega; omega; omega) | (apply y_arrA (q := 16 + i.k - 2); rfl; rfl; omega; omega; omega))) (h := ?_))
    all_goals (first | refine aw_take 6 (h := ?_) | refine aw_take 6 (hy := by (first | (apply y_arrA (q := 16 + i.k - 15); rfl; rfl; omega; omega; omega) | (apply y_arrA (q := 16 + i.k - 2); rfl; rfl; omega; omega; omega))) (h := ?_))
    all_goals (first | refine aw_take 7 (h := ?_) | refine aw_take 7 (hy := by (first | (apply y_arrA (q := 16 + i.k - 15); rfl; rfl; omega; omega; omega) | (apply y_arrA (q := 16 + i.k - 2); rfl; rfl; omega; omega; omega) | (apply y_ld; rfl; (repeat (first | exact List.mem_cons_self | apply List.mem_cons_of_mem)); exact u32s_get _ _ (by omega)))) (h := ?_))
    all_goals (refine aw_take 8 (h := ?_))
    all_goals (refine aw_take 9 (h := ?_))
    all_goals (refine aw_done (h := ?_))
    repeat' (first | apply sw_nil | apply cw_seq | apply cw_reg | refine sy_move (h := ?_) | refine sy_assign (h := ?_) | refine sy_ld (h := ?_) | refine sy_ldAll (h := ?_) | refine sy_lss (h := ?_) | refine sy_add (h := ?_) | refine sy_sub (h := ?_) | refine sw_alloc (h := fun _ => ?_) | refine sw_st1 (h := ?_) | refine sw_stAll (h := ?_) | refine cw_cond_t (ht := ?_) | refine cw_cond_f (hf := ?_) | apply cw_skip | apply cw_block | apply cw_ret | apply cw_exit | refine sy_or (h := ?_) | refine sy_xor (h := ?_) | refine sy_shl (h := ?_) | refine sy_shr (h := ?_) | refine sy_mul (h := ?_) | refine sy_int (h := ?_) | refine sy_arrA (h := ?_) | refine sy_strI (h := ?_) | refine sw_pu (hc := turn_pu _ _) (h := ?_) | (refine cw_cond (ht := ?_) (hf := ?_); all_goals (intro hx_; first | have := of_decide_eq_true hx_ | have := of_decide_eq_false hx_ | skip)))
    (refine cw_draw [] (fun _ => True) (by kernel_rfl) ?_)
    all_goals (refine aw_take 0 (h := ?_))
    all_goals (refine aw_take 1 (h := ?_))
    all_goals (first | refine aw_take 2 (h := ?_) | refine aw_take 2 (hy := by (first | (apply y_arrA (q := i.k); rfl; rfl; omega; omega; omega) | (apply y_arrA (q := 16 + i.k - 7); rfl; rfl; omega; omega; omega) | (apply y_arrA (q := 16 + i.k); rfl; rfl; omega; omega; omega))) (h := ?_))
    all_goals (first | refine aw_take 3 (h := ?_) | refine aw_take 3 (hy := by (first | (apply y_arrA (q := i.k); rfl; rfl; omega; omega; omega) | (apply y_arrA (q := 16 + i.k - 7); rfl; rfl; omega; omega; omega) | (apply y_arrA (q := 16 + i.k); rfl; rfl; omega; omega; omega))) (h := ?_))
    all_goals (refine aw_take 5 (h := ?_))
    all_goals (refine aw_take 7 (h := ?_))
    all_goals (first | refine aw_take 8 (h := ?_) | refine aw_take 8 (hy := by (first | (apply y_arrA (q := i.k); rfl; rfl; omega; omega; omega) | (apply y_arrA (q := 16 + i.k - 7); rfl; rfl; omega; omega; omega) | (apply y_arrA (q := 16 + i.k); rfl; rfl; omega; omega; omega))) (h := ?_))
    all_goals (first | refine aw_take 9 (h := ?_) | refine aw_take 9 (hy := by (first | (apply y_arrA (q := i.k); rfl; rfl; omega; omega; omega) | (apply y_arrA (q := 16 + i.k - 7); rfl; rfl; omega; omega; omega) | (apply y_arrA (q := 16 + i.k); rfl; rfl; omega; omega; omega))) (h := ?_))
    all_goals (refine aw_take 12 (h := ?_))
    all_goals (refine aw_two 4 10 (h := ?_) (h' := ?_); (focus (((first | (refine sy_ld (h := ?_)) | (refine sy_ldAll (h := ?_)) | (refine sy_ld (hv := u32s_get _ _ (by omega)) (h := ?_))); apply sw_nil; refine aw_fin (h := ?_)); all_goals ((first | refine aw_take 6 (h := ?_) | refine aw_take 6 (hy := by (first | (apply y_arrA (q := i.k); rfl; rfl; omega; omega; omega) | (apply y_arrA (q := 16 + i.k - 7); rfl; rfl; omega; omega; omega) | (apply y_arrA (q := 16 + i.k); rfl; rfl; omega; omega; omega))) (h := ?_)); all_goals (refine aw_step 10 (h := ?_); (first | (refine sy_ld (h := ?_)) | (refine sy_ldAll (h := ?_)) | (refine sy_ld (hv := u32s_get _ _ (by omega)) (h := ?_))); apply sw_nil; refine aw_fin (h := ?_)); all_goals (first | refine aw_take 11 (h := ?_) | refine aw_take 11 (hy := by (first | (apply y_arrA (q := i.k); rfl; rfl; omega; omega; omega) | (apply y_arrA (q := 16 + i.k - 7); rfl; rfl; omega; omega; omega) | (apply y_arrA (q := 16 + i.k); rfl; rfl; omega; omega; omega))) (h := ?_)); all_goals (first | refine aw_take 13 (h := ?_) | refine aw_take 13 (hy := by (first | (apply y_arrA (q := i.k); rfl; rfl; omega; omega; omega) | (apply y_arrA (q := 16 + i.k - 7); rfl; rfl; omega; omega; omega) | (apply y_arrA (q := 16 + i.k); rfl; rfl; omega; omega; omega))) (h := ?_)); all_goals (first | refine aw_take 14 (h := ?_) | refine aw_take 14 (hy := by (first | (apply y_arrA (q := i.k); rfl; rfl; omega; omega; omega) | (apply y_arrA (q := 16 + i.k - 7); rfl; rfl; omega; omega; omega) | (apply y_arrA (q := 16 + i.k); rfl; rfl; omega; omega; omega))) (h := ?_)); all_goals (refine aw_step 15 (h := ?_); (first | (refine sw_st1 (h := ?_)) | (refine sw_stAll (h := ?_)) | (refine sw_st1 (hl := blt_of (by simp only [u32s_len, hlen]; omega)) (h := ?_))); apply sw_nil; refine aw_fin (h := ?_)); all_goals (refine aw_done (h := ?_))))); rotate_right; (focus (((first | (refine sy_ld (h := ?_)) | (refine sy_ldAll (h := ?_)) | (refine sy_ld (hv := u32s_get _ _ (by omega)) (h := ?_))); apply sw_nil; refine aw_fin (h := ?_)); all_goals ((refine aw_step 4 (h := ?_); (first | (refine sy_ld (h := ?_)) | (refine sy_ldAll (h := ?_)) | (refine sy_ld (hv := u32s_get _ _ (by omega)) (h := ?_))); apply sw_nil; refine aw_fin (h := ?_)); all_goals (first | refine aw_take 6 (h := ?_) | refine aw_take 6 (hy := by (first | (apply y_arrA (q := i.k); rfl; rfl; omega; omega; omega) | (apply y_arrA (q := 16 + i.k - 7); rfl; rfl; omega; omega; omega) | (apply y_arrA (q := 16 + i.k); rfl; rfl; omega; omega; omega))) (h := ?_)); all_goals (first | refine aw_take 11 (h := ?_) | refine aw_take 11 (hy := by (first | (apply y_arrA (q := i.k); rfl; rfl; omega; omega; omega) | (apply y_arrA (q := 16 + i.k - 7); rfl; rfl; omega; omega; omega) | (apply y_arrA (q := 16 + i.k); rfl; rfl; omega; omega; omega))) (h := ?_)); all_goals (first | refine aw_take 13 (h := ?_) | refine aw_take 13 (hy := by (first | (apply y_arrA (q := i.k); rfl; rfl; omega; omega; omega) | (apply y_arrA (q := 16 + i.k - 7); rfl; rfl; omega; omega; omega) | (apply y_arrA (q := 16 + i.k); rfl; rfl; omega; omega; omega))) (h := ?_)); all_goals (first | refine aw_take 14 (h := ?_) | refine aw_take 14 (hy := by (first | (apply y_arrA (q := i.k); rfl; rfl; omega; omega; omega) | (apply y_arrA (q := 16 + i.k - 7); rfl; rfl; omega; omega; omega) | (apply y_arrA (q := 16 + i.k); rfl; rfl; omega; omega; omega))) (h := ?_)); all_goals (refine aw_step 15 (h := ?_); (first | (refine sw_st1 (h := ?_)) | (refine sw_stAll (h := ?_)) | (refine sw_st1 (hl := blt_of (by simp only [u32s_len, hlen]; omega)) (h := ?_))); apply sw_nil; refine aw_fin (h := ?_)); all_goals (refine aw_done (h := ?_))))))
    all_goals (repeat' (first | apply sw_nil | apply cw_seq | apply cw_reg | refine sy_move (h := ?_) | refine sy_assign (h := ?_) | refine sy_ld (h := ?_) | refine sy_ldAll (h := ?_) | refine sy_lss (h := ?_) | refine sy_add (h := ?_) | refine sy_sub (h := ?_) | refine sw_alloc (h := fun _ => ?_) | refine sw_st1 (h := ?_) | refine sw_stAll (h := ?_) | refine cw_cond_t (ht := ?_) | refine cw_cond_f (hf := ?_) | apply cw_skip | apply cw_block | apply cw_ret | apply cw_exit | refine sy_or (h := ?_) | refine sy_xor (h := ?_) | refine sy_shl (h := ?_) | refine sy_shr (h := ?_) | refine sy_mul (h := ?_) | refine sy_int (h := ?_) | refine sy_arrA (h := ?_) | refine sy_strI (h := ?_) | (refine cw_cond (ht := ?_) (hf := ?_); all_goals (intro hx_; first | have := of_decide_eq_true hx_ | have := of_decide_eq_false hx_ | skip))))
    all_goals exact ⟨(⟨i.k + 1, hlt⟩ : Kth 48), (by show 48 - (i.k + 1) < 48 - i.k; omega), ok_sub ⟨rfl, rfl, rfl, rfl, trivial⟩ (by
      show List.Sublist [cel b2 _ (u32s (w2 s (i.k + 1))), _] _
      rw [w2, ← u32s_set]
      exact List.Sublist.refl _) fun _ h => h⟩
  have hk2 : i.k = 48 := by omega
  repeat' (first | apply sw_nil | apply cw_seq | apply cw_reg | refine sy_move (h := ?_) | refine sy_assign (h := ?_) | refine sy_ld (h := ?_) | refine sy_ldAll (h := ?_) | refine sy_lss (h := ?_) | refine sy_add (h := ?_) | refine sy_sub (h := ?_) | refine sw_alloc (h := fun _ => ?_) | refine sw_st1 (h := ?_) | refine sw_stAll (h := ?_) | refine cw_cond_t (ht := ?_) | refine cw_cond_f (hf := ?_) | apply cw_skip | apply cw_block | apply cw_ret | apply cw_exit | refine sy_or (h := ?_) | refine sy_xor (h := ?_) | refine sy_shl (h := ?_) | refine sy_shr (h := ?_) | refine sy_mul (h := ?_) | refine sy_int (h := ?_) | refine sy_arrA (h := ?_) | refine sy_strI (h := ?_) | (refine sy_ldAll (hn := by simp only [u32s_len, hlen]) (h := ?_)) | (refine sw_stAll (hm := by simp only [u32s_len, hlen]) (hn := by rfl) (h1 := by simp [u32s, Value.oneCell']) (h := ?_)))
  apply ends_ret; refine res_cell rfl rfl (by (repeat (first | exact List.mem_cons_self | apply List.mem_cons_of_mem))) ?_
  · simp only [u32s_len, hlen]
  rw [hk2]
  rfl

/-! mix -/
def iniC : List Int := [1779033703, 3144134277, 1013904242, 2773480762, 1359893119, 2600822924, 528734635, 1541459225]
def kC : List Int := [1116352408, 1899447441, 3049323471, 3921009573, 961987163, 1508970993, 2453635748, 2870763221, 3624381080, 310598401, 607225278, 1426881987, 1925078388, 2162078206, 2614888103, 3248222580, 3835390401, 4022224774, 264347078, 604807628, 770255983, 1249150122, 1555081692, 1996064986, 2554220882, 2821834349, 2952996808, 3210313671, 3336571891, 3584528711, 113926993, 338241895, 666307205, 773529912, 1294757372, 1396182291, 1695183700, 1986661051, 2177026350, 2456956037, 2730485921, 2820302411, 3259730800, 3345764771, 3516065817, 3600352804, 4094571909, 275423344, 430227734, 506948616, 659060556, 883997877, 958139571, 1322822218, 1537002063, 1747873779, 1955562222, 2024104815, 2227730452, 2361852424, 2428436474, 2756734187, 3204031479, 3329325298]
def CellsAt (g : Nat) (l : List Value) (w : World) : Prop := ∀ j v, l[j]? = some v → w.cell? ⟨g, j, none⟩ = some v
/-- The two tables of package sum. -/
structure Glob (w : World) : Prop where
  ini : CellsAt 0 (u32s iniC) w
  k : CellsAt 1 (u32s kC) w
structure St8 where
  a : Int
  b : Int
  c : Int
  d : Int
  e : Int
  f : Int
  g : Int
  h : Int
def St8.l (x : St8) : List Int := [x.a, x.b, x.c, x.d, x.e, x.f, x.g, x.h]
def x32 (a b : Int) : Int := bitsV .xor .u32 a b
def n32 (a b : Int) : Int := bitsV .and .u32 a b
def t1V (x : St8) (k w : Int) : Int :=
  a32 (a32 (a32 (a32 x.h (x32 (x32 (turnV x.e 6) (turnV x.e 11)) (turnV x.e 25))) (x32 (n32 x.e x.f) (n32 (x32 (if IntKind.u32.signed then -1 else IntKind.u32.max) x.e) x.g))) k) w
def t2V (x : St8) : Int := a32 (x32 (x32 (turnV x.a 2) (turnV x.a 13)) (turnV x.a 22)) (x32 (x32 (n32 x.a x.b) (n32 x.a x.c)) (n32 x.b x.c))
def roundV (x : St8) (k w : Int) : St8 := ⟨a32 (t1V x k w) (t2V x), x.a, x.b, x.c, a32 x.d (t1V x k w), x.e, x.f, x.g⟩
def roundsV (x : St8) (ws : List Int) : Nat → St8
  | 0 => x
  | i + 1 => roundV (roundsV x ws i) (kC.getD i 0) (ws.getD i 0)
def mixV (x : St8) (s : ByteArray) : St8 :=
  let y := roundsV x (schedV s) 64
  ⟨a32 x.a y.a, a32 x.b y.b, a32 x.c y.c, a32 x.d y.d, a32 x.e y.e, a32 x.f y.f, a32 x.g y.g, a32 x.h y.h⟩
theorem kC_get (i : Nat) (h : i < 64) : (u32s kC)[i]? = some (.int .u32 (kC.getD i 0)) := u32s_get kC i h
theorem mix_pu (x : St8) (s : ByteArray) (hs : s.size = 64) : Pu Tryz.prog 40 #[.agg (u32s x.l).toArray, .string s] Glob (.agg (u32s (mixV x s).l).toArray) := by
  refine pu_of_cw (args := [_, _]) _ Tryz.func40 rfl Tryz.ntmps40 rfl fun av bor w0 => ?_
  obtain ⟨ws, hws, hlen⟩ : ∃ ws, schedV s = ws ∧ ws.length = 64 := ⟨_, rfl, w2_len s 48⟩
  have hsp : Pu Tryz.prog 63 #[.string s] (fun _ => True) (.agg (u32s ws).toArray) := hws ▸ schedule_pu s hs
  unfold mixV
  rw [hws]
  repeat' (first | apply sw_nil | apply cw_seq | apply cw_reg | refine sy_move (h := ?_) | refine sy_assign (h := ?_) | refine sy_ld (h := ?_) | refine sy_ldAll (h := ?_) | refine sy_lss (h := ?_) | refine sy_add (h := ?_) | refine sw_alloc (h := fun _ => ?_) | refine sw_box (h := fun _ => ?_) | refine sw_st1 (h := ?_) | refine sw_stAll (h := ?_) | refine cw_cond_t (ht := ?_) | refine cw_cond_f (hf := ?_) | apply cw_skip | apply cw_block | apply cw_ret | apply cw_exit | refine sy_and (h := ?_) | refine sy_xor (h := ?_) | refine sy_xorU (h := ?_) | refine sy_arrA (h := ?_) | refine sy_strI (h := ?_) | refine sw_pu (hc := hsp) (h := ?_) | (refine sw_stAll (hm := by simp only [u32s_len, hlen]) (hn := by rfl) (h1 := by simp [u32s, Value.oneCell']) (h := ?_)))
  (apply cw_draw0; kernel_rfl)
  all_goals (refine aw_take 0 (h := ?_))
  all_goals (refine aw_take 1 (h := ?_))
  all_goals (refine aw_take 2 (h := ?_))
  all_goals (refine aw_take 3 (h := ?_))
  all_goals (refine aw_take 4 (h := ?_))
  all_goals (refine aw_take 5 (h := ?_))
  all_goals (refine aw_take 6 (h := ?_))
  all_goals (refine aw_take 7 (h := ?_))
  all_goals (refine aw_take 8 (h := ?_))
  all_goals (refine aw_take 9 (h := ?_))
  all_goals (refine aw_take 10 (h := ?_))
  all_goals (refine aw_take 11 (h := ?_))
  all_goals (refine aw_done (h := ?_))
  repeat' (first | apply sw_nil | apply cw_seq | apply cw_reg | refine sy_move (h := ?_) | refine sy_assign (h := ?_) | refine sy_ld (h := ?_) | refine sy_ldAll (h := ?_) | refine sy_lss (h := ?_) | refine sy_add (h := ?_) | refine sw_alloc (h := fun _ => ?_) | refine sw_box (h := fun _ => ?_) | refine sw_st1 (h := ?_) | refine sw_stAll (h := ?_) | refine cw_cond_t (ht := ?_) | refine cw_cond_f (hf := ?_) | apply cw_skip | apply cw_block | apply cw_ret | apply cw_exit | refine sy_and (h := ?_) | refine sy_xor (h := ?_) | refine sy_xorU (h := ?_) | refine sy_arrA (h := ?_) | refine sy_strI (h := ?_))
  (apply cw_draw0; kernel_rfl)
  all_goals (refine aw_take 0 (h := ?_))
  all_goals (refine aw_take 1 (h := ?_))
  all_goals (refine aw_take 2 (h := ?_))
  all_goals (refine aw_take 3 (h := ?_))
  all_goals (refine aw_take 4 (h := ?_))
  all_goals (refine aw_take 5 (h := ?_))
  all_goals (refine aw_take 6 (h := ?_))
  all_goals (refine aw_take 7 (h := ?_))
  all_goals (refine aw_take 8 (h := ?_))
  all_goals (refine aw_take 9 (h := ?_))
  all_goals (refine aw_take 10 (h := ?_))
  all_goals (refine aw_take 11 (h := ?_))
  all_goals (refine aw_done (h := ?_))
  repeat' (first | apply sw_nil | apply cw_seq | apply cw_reg | refine sy_move (h := ?_) | refine sy_assign (h := ?_) | refine sy_ld (h := ?_) | refine sy_ldAll (h := ?_) | refine sy_lss (h := ?_) | refine sy_add (h := ?_) | refine sw_alloc (h := fun _ => ?_) | refine sw_box (h := fun _ => ?_) | refine sw_st1 (h := ?_) | refine sw_stAll (h := ?_) | refine cw_cond_t (ht := ?_) | refine cw_cond_f (hf := ?_) | apply cw_skip | apply cw_block | apply cw_ret | apply cw_exit | refine sy_and (h := ?_) | refine sy_xor (h := ?_) | refine sy_xorU (h := ?_) | refine sy_arrA (h := ?_) | refine sy_strI (h := ?_))
  rename_i b1 b2 b3
  refine cw_loop (ι := Kth 64) (fun i => ⟨[(2, .pointer (some ⟨b1, 0, none⟩)), (4, .pointer (some ⟨b2, 0, none⟩)), (5, .pointer (some ⟨b3, 0, none⟩)), (6, .int .u32 (roundsV x ws i.k).a), (7, .int .u32 (roundsV x ws i.k).b), (8, .int .u32 (roundsV x ws i.k).c), (9, .int .u32 (roundsV x ws i.k).d), (10, .int .u32 (roundsV x ws i.k).e), (11, .int .u32 (roundsV x ws i.k).f), (12, .int .u32 (roundsV x ws i.k).g), (13, .int .u32 (roundsV x ws i.k).h), (35, .int .i64 i.k)],
    [cel b3 128 (u32s ws), cel b2 107 (u32s (List.replicate 8 0)), cel b1 107 (u32s x.l)], Glob⟩) (fun i => 64 - i.k) ⟨0, Nat.zero_le _⟩ (ok_sub ⟨rfl, rfl, rfl, rfl, rfl, rfl, rfl, rfl, rfl, rfl, rfl, rfl, trivial⟩ (List.Sublist.refl _) fun _ h => h) fun i => ?_
  have hik := i.hk
  repeat' (first | apply sw_nil | apply cw_seq | apply cw_reg | refine sy_move (h := ?_) | refine sy_assign (h := ?_) | refine sy_ld (h := ?_) | refine sy_ldAll (h := ?_) | refine sy_lss (h := ?_) | refine sy_add (h := ?_) | refine sw_alloc (h := fun _ => ?_) | refine sw_box (h := fun _ => ?_) | refine sw_st1 (h := ?_) | refine sw_stAll (h := ?_) | refine cw_cond_t (ht := ?_) | refine cw_cond_f (hf := ?_) | apply cw_skip | apply cw_block | apply cw_ret | apply cw_exit | refine sy_and (h := ?_) | refine sy_xor (h := ?_) | refine sy_xorU (h := ?_) | refine sy_arrA (h := ?_) | refine sy_strI (h := ?_) | (refine cw_cond (ht := ?_) (hf := ?_); all_goals (intro hx_; first | have := of_decide_eq_true hx_ | have := of_decide_eq_false hx_ | skip)))
  · have hlt : i.k < 64 := by omega
    generalize hy : roundsV x ws i.k = y at *
    (apply cw_draw0; kernel_rfl)
    all_goals (refine aw_take 0 (h := ?_))
    all_goals (refine aw_take 1 (h := ?_))
    all_goals (refine aw_take 3 (h := ?_))
    all_goals (refine aw_take 6 (h := ?_))
    all_goals (refine aw_take 10 (h := ?_))
    all_goals (refine aw_take 11 (h := ?_))
    all_goals (first | refine aw_take 12 (h := ?_) | refine aw_take 12 (hy := by (first | (apply y_arrA (q := i.k); rfl; rfl; omega; omega; omega))) (h := ?_))
    all_goals (refine aw_take 13 (h := ?_))
    all_goals (refine aw_take 14 (h := ?_))
    all_goals (refine aw_take 15 (h := ?_))
    all_goals (first | refine aw_take 16 (h := ?_) | refine aw_take 16 (hy := by (first | (apply y_arrA (q := i.k); rfl; rfl; omega; omega; omega))) (h := ?_))
    all_goals (first | refine aw_take 17 (h := ?_) | refine aw_take 17 (hy := by (first | (apply y_arrA (q := i.k); rfl; rfl; omega; omega; omega))) (h := ?_))
    all_goals (refine aw_take 19 (h := ?_))
    all_goals (first | refine aw_take 20 (h := ?_) | refine aw_take 20 (hy := by (first | (apply y_arrA (q := i.k); rfl; rfl; omega; omega; omega))) (h := ?_))
    all_goals (first | refine aw_take 21 (h := ?_) | refine aw_take 21 (hy := by (first | (apply y_arrA (q := i.k); rfl; rfl; omega; omega; omega) | (apply y_ldC; rfl; exact fun w h => h.k i.k _ (kC_get _ hlt)) | (apply y_ld; rfl; (repeat (first | exact List.mem_cons_self | apply List.mem_cons_of_mem)); exact u32s_get _ _ (by omega)))) (h := ?_))
    all_goals (refine aw_take 23 (h := ?_))
    all_goals (first | refine aw_take 24 (h := ?_) | refine aw_take 24 (hy := by (first | (apply y_arrA (q := i.k); rfl; rfl; omega; omega; omega))) (h := ?_))
    all_goals (first | refine aw_take 25 (h := ?_) | refine aw_take 25 (hy := by (first | (apply y_arrA (q := i.k); rfl; rfl; omega; omega; omega) | (apply y_ldC; rfl; exact fun w h => h.k i.k _ (kC_get _ hlt)) | (apply y_ld; rfl; (repeat (first | exact List.mem_cons_self | apply List.mem_cons_of_mem)); exact u32s_get _ _ (by omega)))) (h := ?_))
    all_goals (refine aw_step 2 (h := ?_); (first | refine sw_pu (hc := turn_pu _ _) (h := ?_)); apply sw_nil; refine aw_fin (h := ?_))
    all_goals (refine aw_step 4 (h := ?_); (first | refine sw_pu (hc := turn_pu _ _) (h := ?_)); apply sw_nil; refine aw_fin (h := ?_))
    all_goals (first | refine aw_take 5 (h := ?_) | refine aw_take 5 (hy := by (first | (apply y_arrA (q := i.k); rfl; rfl; omega; omega; omega))) (h := ?_))
    all_goals (refine aw_step 7 (h := ?_); (first | refine sw_pu (hc := turn_pu _ _) (h := ?_)); apply sw_nil; refine aw_fin (h := ?_))
    all_goals (first | refine aw_take 8 (h := ?_) | refine aw_take 8 (hy := by (first | (apply y_arrA (q := i.k); rfl; rfl; omega; omega; omega))) (h := ?_))
    all_goals (first | refine aw_take 9 (h := ?_) | refine aw_take 9 (hy := by (first | (apply y_arrA (q := i.k); rfl; rfl; omega; omega; omega))) (h := ?_))
    all_goals (first | refine aw_take 18 (h := ?_) | refine aw_take 18 (hy := by (first | (apply y_arrA (q := i.k); rfl; rfl; omega; omega; omega))) (h := ?_))
    all_goals (first | refine aw_take 22 (h := ?_) | refine aw_take 22 (hy := by (first | (apply y_arrA (q := i.k); rfl; rfl; omega; omega; omega))) (h := ?_))
    all_goals (first | refine aw_take 26 (h := ?_) | refine aw_take 26 (hy := by (first | (apply y_arrA (q := i.k); rfl; rfl; omega; omega; omega))) (h := ?_))
    all_goals (refine aw_take 27 (h := ?_))
    all_goals (refine aw_done (h := ?_))
    repeat' (first | apply sw_nil | apply cw_seq | apply cw_reg | refine sy_move (h := ?_) | refine sy_assign (h := ?_) | refine sy_ld (h := ?_) | refine sy_ldAll (h := ?_) | refine sy_lss (h := ?_) | refine sy_add (h := ?_) | refine sw_alloc (h := fun _ => ?_) | refine sw_box (h := fun _ => ?_) | refine sw_st1 (h := ?_) | refine sw_stAll (h := ?_) | refine cw_cond_t (ht := ?_) | refine cw_cond_f (hf := ?_) | apply cw_skip | apply cw_block | apply cw_ret | apply cw_exit | refine sy_and (h := ?_) | refine sy_xor (h := ?_) | refine sy_xorU (h := ?_) | refine sy_arrA (h := ?_) | refine sy_strI (h := ?_) | refine sw_pu (hc := turn_pu _ _) (h := ?_) | (refine cw_cond (ht := ?_) (hf := ?_); all_goals (intro hx_; first | have := of_decide_eq_true hx_ | have := of_decide_eq_false hx_ | skip)))
    exact ⟨(⟨i.k + 1, hlt⟩ : Kth 64), (by show 64 - (i.k + 1) < 64 - i.k; omega), ok_sub (by
      have e : roundsV x ws (i.k + 1) = roundV y (kC.getD i.k 0) (ws.getD i.k 0) := by rw [roundsV, hy]
      simp only [e]
      exact ⟨rfl, rfl, rfl, rfl, rfl, rfl, rfl, rfl, rfl, rfl, rfl, rfl, trivial⟩) (List.Sublist.refl _) fun _ h => h⟩
  have hk : i.k = 64 := by omega
  repeat' (first | apply sw_nil | apply cw_seq | apply cw_reg | refine sy_move (h := ?_) | refine sy_assign (h := ?_) | refine sy_ld (h := ?_) | refine sy_ldAll (h := ?_) | refine sy_lss (h := ?_) | refine sy_add (h := ?_) | refine sw_alloc (h := fun _ => ?_) | refine sw_box (h := fun _ => ?_) | refine sw_st1 (h := ?_) | refine sw_stAll (h := ?_) | refine cw_cond_t (ht := ?_) | refine cw_cond_f (hf := ?_) | apply cw_skip | apply cw_block | apply cw_ret | apply cw_exit | refine sy_and (h := ?_) | refine sy_xor (h := ?_) | refine sy_xorU (h := ?_) | refine sy_arrA (h := ?_) | refine sy_strI (h := ?_) | (refine sy_buildA (h := ?_)) | (refine cw_cond (ht := ?_) (hf := ?_); all_goals (intro hx_; first | have := of_decide_eq_true hx_ | have := of_decide_eq_false hx_ | skip)))
  apply ends_ret; refine res_cell rfl rfl (by (repeat (first | exact List.mem_cons_self | apply List.mem_cons_of_mem))) ?_
  · rfl
  rw [hk]
  rfl

end Go.Proofs.YtlankpiogfhblaaGreatDoor
