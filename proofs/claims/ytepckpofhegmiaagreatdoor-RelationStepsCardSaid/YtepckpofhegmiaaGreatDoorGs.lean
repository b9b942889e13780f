/- Contracts: math/bits.Rem64 at the two moduli, package group: residue, add, mul. -/
import Derived.Test.YtepckpofhegmiaaGreatDoorGr
set_option linter.unusedVariables false
set_option linter.unusedSimpArgs false
namespace Go.Proofs.YtepckpofhegmiaaGreatDoor
open Go Go.Proofs Sy Go.Shelf
theorem mod_hi (hi lo M : Nat) : (hi % M * 18446744073709551616 + lo) % M = (hi * 18446744073709551616 + lo) % M := by
  rw [Nat.add_mod, Nat.mul_mod, Nat.mod_mod, ← Nat.mul_mod, ← Nat.add_mod]
theorem rem64P (hi lo : Nat) (hlo : lo < 18446744073709551616) :
    Pu Tryz.prog 145 #[.int .u64 (hi : Int), .int .u64 (lo : Int), .int .u64 2305843009213693951] (fun _ => True) (.int .u64 (((hi * 18446744073709551616 + lo) % 2305843009213693951 : Nat) : Int)) := by
  refine pu_of_cw (args := [_, _, _]) _ Tryz.func145 rfl Tryz.ntmps145 rfl fun av bor w0 => ?_
  have hr : Eqq ((hi : Int).tmod 2305843009213693951) ((hi % 2305843009213693951 : Nat) : Int) := rem_n hi 2305843009213693951
  have hd := div64P (hi % 2305843009213693951) lo (Nat.mod_lt _ (by decide)) hlo
  rw [mod_hi] at hd
  repeat' (first | refine sy_rem (hb := by decide) (hc := hr) (h := ?_) | apply sw_nil | apply cw_seq | apply cw_reg | refine sy_move (h := ?_) | refine sy_assign (h := ?_) | refine sy_extract (h := ?_) | refine cw_cond_t (ht := ?_) | refine cw_cond_f (hf := ?_) | apply cw_skip | apply cw_block | apply cw_ret | apply cw_exit | refine sy_arrA (h := ?_) | refine sy_strI (h := ?_) | (refine sw_pu (hc := hd) (hX := fun w h => h) (h := ?_)) | (refine cw_cond (ht := ?_) (hf := ?_); all_goals (intro hx_; first | have := of_decide_eq_true hx_ | have := of_decide_eq_false hx_ | skip)))
  apply ends_ret; apply res_tmp; rfl; rfl
  rfl
theorem rem64N (hi lo : Nat) (hlo : lo < 18446744073709551616) :
    Pu Tryz.prog 145 #[.int .u64 (hi : Int), .int .u64 (lo : Int), .int .u64 2305843009213693950] (fun _ => True) (.int .u64 (((hi * 18446744073709551616 + lo) % 2305843009213693950 : Nat) : Int)) := by
  refine pu_of_cw (args := [_, _, _]) _ Tryz.func145 rfl Tryz.ntmps145 rfl fun av bor w0 => ?_
  have hr : Eqq ((hi : Int).tmod 2305843009213693950) ((hi % 2305843009213693950 : Nat) : Int) := rem_n hi 2305843009213693950
  have hd := div64N (hi % 2305843009213693950) lo (Nat.mod_lt _ (by decide)) hlo
  rw [mod_hi] at hd
  repeat' (first | refine sy_rem (hb := by decide) (hc := hr) (h := ?_) | apply sw_nil | apply cw_seq | apply cw_reg | refine sy_move (h := ?_) | refine sy_assign (h := ?_) | refine sy_extract (h := ?_) | refine cw_cond_t (ht := ?_) | refine cw_cond_f (hf := ?_) | apply cw_skip | apply cw_block | apply cw_ret | apply cw_exit | refine sy_arrA (h := ?_) | refine sy_strI (h := ?_) | (refine sw_pu (hc := hd) (hX := fun w h => h) (h := ?_)) | (refine cw_cond (ht := ?_) (hf := ?_); all_goals (intro hx_; first | have := of_decide_eq_true hx_ | have := of_decide_eq_false hx_ | skip)))
  apply ends_ret; apply res_tmp; rfl; rfl
  rfl
/-- the residue of a number that is not negative -/
theorem residue_pu (a m : Nat) (hm : 0 < m) (hm2 : m < 4611686018427387904) : Pu Tryz.prog 111 #[.int .i64 (a : Int), .int .i64 (m : Int)] (fun _ => True) (.int .i64 ((a % m : Nat) : Int)) := by
  refine pu_of_cw (args := [_, _]) _ Tryz.func111 rfl Tryz.ntmps111 rfl fun av bor w0 => ?_
  have hr : Eqq ((a : Int).tmod (m : Int)) ((a % m : Nat) : Int) := rem_n a m
  repeat' (first | refine sy_rem (hb := by omega) (hc := hr) (h := ?_) | apply sw_nil | apply cw_seq | apply cw_reg | refine sy_move (h := ?_) | refine sy_assign (h := ?_) | refine sy_lss (h := ?_) | refine sy_add (h := ?_) | refine cw_cond_t (ht := ?_) | refine cw_cond_f (hf := ?_) | apply cw_skip | apply cw_block | apply cw_ret | apply cw_exit | refine sy_arrA (h := ?_) | refine sy_strI (h := ?_) | (refine cw_cond (ht := ?_) (hf := ?_); all_goals (intro hx_; first | have := of_decide_eq_true hx_ | have := of_decide_eq_false hx_ | skip)))
  · exfalso; omega
  · apply ends_ret; apply res_tmp; rfl; rfl
    rfl
theorem mulP_pu (a b : Nat) : Pu Tryz.prog 115 #[.int .i64 (a : Int), .int .i64 (b : Int), .int .i64 2305843009213693951] (fun _ => True) (.int .i64 ((a * b % 2305843009213693951 : Nat) : Int)) := by
  refine pu_of_cw (args := [_, _, _]) _ Tryz.func115 rfl Tryz.ntmps115 rfl fun av bor w0 => ?_
  have h1 := residue_pu a 2305843009213693951 (by decide) (by decide)
  have h2 := residue_pu b 2305843009213693951 (by decide) (by decide)
  have hx := Nat.mod_lt a (show 0 < 2305843009213693951 by decide)
  have hy := Nat.mod_lt b (show 0 < 2305843009213693951 by decide)
  have hab : a * b % 2305843009213693951 = (a % 2305843009213693951) * (b % 2305843009213693951) % 2305843009213693951 := Nat.mul_mod a b _
  rw [hab]
  generalize a % 2305843009213693951 = x at *
  generalize b % 2305843009213693951 = y at *
  have h3 := mul64_pu x y (by omega) (by omega)
  have h4 := rem64P (x * y / 18446744073709551616) (x * y % 18446744073709551616) (Nat.mod_lt _ (by decide))
  have e : x * y / 18446744073709551616 * 18446744073709551616 + x * y % 18446744073709551616 = x * y := Nat.div_add_mod' _ _
  rw [e] at h4
  have cx : Eqq (IntKind.u64.wrap (x : Int)) (x : Int) := u64_in _ (by omega)
  have cy : Eqq (IntKind.u64.wrap (y : Int)) (y : Int) := u64_in _ (by omega)
  have hz := Nat.mod_lt (x * y) (show 0 < 2305843009213693951 by decide)
  have cm : Eqq (IntKind.u64.wrap 2305843009213693951) 2305843009213693951 := by unfold Eqq; kernel_rfl
  generalize x * y % 2305843009213693951 = z at *
  have cz : Eqq (IntKind.i64.wrap (z : Int)) (z : Int) := IntWalk.i64_in _ (by omega)
  unfold Eqq at cx cy cm cz
  rw [← cx, ← cy] at h3
  rw [← cm] at h4
  repeat' (first | apply sw_nil | apply cw_seq | apply cw_reg | refine sy_move (h := ?_) | refine sy_assign (h := ?_) | refine sy_extract (h := ?_) | refine cw_cond_t (ht := ?_) | refine cw_cond_f (hf := ?_) | apply cw_skip | apply cw_block | apply cw_ret | apply cw_exit | refine sy_int (h := ?_) | refine sy_arrA (h := ?_) | refine sy_strI (h := ?_) | (refine sw_pu (hc := h1) (hX := fun w h => h) (h := ?_)) | (refine sw_pu (hc := h2) (hX := fun w h => h) (h := ?_)) | (refine sw_pu (hc := h3) (hX := fun w h => h) (h := ?_)) | (refine sw_pu (hc := h4) (hX := fun w h => h) (h := ?_)) | (refine cw_cond (ht := ?_) (hf := ?_); all_goals (intro hx_; first | have := of_decide_eq_true hx_ | have := of_decide_eq_false hx_ | skip)))
  apply ends_ret; apply res_tmp; rfl; rfl
  rfl
theorem addN_pu (a b : Nat) : Pu Tryz.prog 114 #[.int .i64 (a : Int), .int .i64 (b : Int), .int .i64 2305843009213693950] (fun _ => True) (.int .i64 (((a + b) % 2305843009213693950 : Nat) : Int)) := by
  refine pu_of_cw (args := [_, _, _]) _ Tryz.func114 rfl Tryz.ntmps114 rfl fun av bor w0 => ?_
  have h1 := residue_pu a 2305843009213693950 (by decide) (by decide)
  have h2 := residue_pu b 2305843009213693950 (by decide) (by decide)
  have h3 := residue_pu (a % 2305843009213693950 + b % 2305843009213693950) 2305843009213693950 (by decide) (by decide)
  rw [← Nat.add_mod] at h3
  have hs : Eqq (IntKind.i64.wrap (((a % 2305843009213693950 : Nat) : Int) + ((b % 2305843009213693950 : Nat) : Int))) ((a % 2305843009213693950 + b % 2305843009213693950 : Nat) : Int) := by
    have := Nat.mod_lt a (show 0 < 2305843009213693950 by decide)
    have := Nat.mod_lt b (show 0 < 2305843009213693950 by decide)
    generalize a % 2305843009213693950 = x at *
    generalize b % 2305843009213693950 = y at *
    unfold Eqq
    rw [Int.natCast_add]
    exact IntWalk.i64_in _ (by omega)
  repeat' (first | refine sy_add (hc := hs) (h := ?_) | apply sw_nil | apply cw_seq | apply cw_reg | refine sy_move (h := ?_) | refine sy_assign (h := ?_) | refine sy_add (h := ?_) | refine cw_cond_t (ht := ?_) | refine cw_cond_f (hf := ?_) | apply cw_skip | apply cw_block | apply cw_ret | apply cw_exit | refine sy_arrA (h := ?_) | refine sy_strI (h := ?_) | (refine sw_pu (hc := h1) (hX := fun w h => h) (h := ?_)) | (refine sw_pu (hc := h2) (hX := fun w h => h) (h := ?_)) | (refine sw_pu (hc := h3) (hX := fun w h => h) (h := ?_)) | (refine cw_cond (ht := ?_) (hf := ?_); all_goals (intro hx_; first | have := of_decide_eq_true hx_ | have := of_decide_eq_false hx_ | skip)))
  apply ends_ret; apply res_tmp; rfl; rfl
  rfl
theorem mulN_pu (a b : Nat) : Pu Tryz.prog 115 #[.int .i64 (a : Int), .int .i64 (b : Int), .int .i64 2305843009213693950] (fun _ => True) (.int .i64 ((a * b % 2305843009213693950 : Nat) : Int)) := by
  refine pu_of_cw (args := [_, _, _]) _ Tryz.func115 rfl Tryz.ntmps115 rfl fun av bor w0 => ?_
  have h1 := residue_pu a 2305843009213693950 (by decide) (by decide)
  have h2 := residue_pu b 2305843009213693950 (by decide) (by decide)
  have hx := Nat.mod_lt a (show 0 < 2305843009213693950 by decide)
  have hy := Nat.mod_lt b (show 0 < 2305843009213693950 by decide)
  have hab : a * b % 2305843009213693950 = (a % 2305843009213693950) * (b % 2305843009213693950) % 2305843009213693950 := Nat.mul_mod a b _
  rw [hab]
  generalize a % 2305843009213693950 = x at *
  generalize b % 2305843009213693950 = y at *
  have h3 := mul64_pu x y (by omega) (by omega)
  have h4 := rem64N (x * y / 18446744073709551616) (x * y % 18446744073709551616) (Nat.mod_lt _ (by decide))
  have e : x * y / 18446744073709551616 * 18446744073709551616 + x * y % 18446744073709551616 = x * y := Nat.div_add_mod' _ _
  rw [e] at h4
  have cx : Eqq (IntKind.u64.wrap (x : Int)) (x : Int) := u64_in _ (by omega)
  have cy : Eqq (IntKind.u64.wrap (y : Int)) (y : Int) := u64_in _ (by omega)
  have hz := Nat.mod_lt (x * y) (show 0 < 2305843009213693950 by decide)
  have cm : Eqq (IntKind.u64.wrap 2305843009213693950) 2305843009213693950 := by unfold Eqq; kernel_rfl
  generalize x * y % 2305843009213693950 = z at *
  have cz : Eqq (IntKind.i64.wrap (z : Int)) (z : Int) := IntWalk.i64_in _ (by omega)
  unfold Eqq at cx cy cm cz
  rw [← cx, ← cy] at h3
  rw [← cm] at h4
  repeat' (first | apply sw_nil | apply cw_seq | apply cw_reg | refine sy_move (h := ?_) | refine sy_assign (h := ?_) | refine sy_extract (h := ?_) | refine cw_cond_t (ht := ?_) | refine cw_cond_f (hf := ?_) | apply cw_skip | apply cw_block | apply cw_ret | apply cw_exit | refine sy_int (h := ?_) | refine sy_arrA (h := ?_) | refine sy_strI (h := ?_) | (refine sw_pu (hc := h1) (hX := fun w h => h) (h := ?_)) | (refine sw_pu (hc := h2) (hX := fun w h => h) (h := ?_)) | (refine sw_pu (hc := h3) (hX := fun w h => h) (h := ?_)) | (refine sw_pu (hc := h4) (hX := fun w h => h) (h := ?_)) | (refine cw_cond (ht := ?_) (hf := ?_); all_goals (intro hx_; first | have := of_decide_eq_true hx_ | have := of_decide_eq_false hx_ | skip)))
  apply ends_ret; apply res_tmp; rfl; rfl
  rfl
theorem Mul_pu (a b : Nat) : Pu Tryz.prog 113 #[.int .i64 (a : Int), .int .i64 (b : Int)] (fun _ => True) (.int .i64 ((a * b % 2305843009213693951 : Nat) : Int)) := by
  refine pu_of_cw (args := [_, _]) _ Tryz.func113 rfl Tryz.ntmps113 rfl fun av bor w0 => ?_
  repeat' (first | apply sw_nil | apply cw_seq | apply cw_reg | refine sy_move (h := ?_) | refine sy_assign (h := ?_) | refine cw_cond_t (ht := ?_) | refine cw_cond_f (hf := ?_) | apply cw_skip | apply cw_block | apply cw_ret | apply cw_exit | refine sy_arrA (h := ?_) | refine sy_strI (h := ?_) | (refine sw_pu (hc := mulP_pu a b) (hX := fun w h => h) (h := ?_)) | (refine cw_cond (ht := ?_) (hf := ?_); all_goals (intro hx_; first | have := of_decide_eq_true hx_ | have := of_decide_eq_false hx_ | skip)))
  apply ends_ret; apply res_tmp; rfl; rfl
  rfl
theorem MulN_pu (a b : Nat) : Pu Tryz.prog 74 #[.int .i64 (a : Int), .int .i64 (b : Int)] (fun _ => True) (.int .i64 ((a * b % 2305843009213693950 : Nat) : Int)) := by
  refine pu_of_cw (args := [_, _]) _ Tryz.func74 rfl Tryz.ntmps74 rfl fun av bor w0 => ?_
  repeat' (first | apply sw_nil | apply cw_seq | apply cw_reg | refine sy_move (h := ?_) | refine sy_assign (h := ?_) | refine cw_cond_t (ht := ?_) | refine cw_cond_f (hf := ?_) | apply cw_skip | apply cw_block | apply cw_ret | apply cw_exit | refine sy_arrA (h := ?_) | refine sy_strI (h := ?_) | (refine sw_pu (hc := mulN_pu a b) (hX := fun w h => h) (h := ?_)) | (refine cw_cond (ht := ?_) (hf := ?_); all_goals (intro hx_; first | have := of_decide_eq_true hx_ | have := of_decide_eq_false hx_ | skip)))
  apply ends_ret; apply res_tmp; rfl; rfl
  rfl
theorem AddN_pu (a b : Nat) : Pu Tryz.prog 73 #[.int .i64 (a : Int), .int .i64 (b : Int)] (fun _ => True) (.int .i64 (((a + b) % 2305843009213693950 : Nat) : Int)) := by
  refine pu_of_cw (args := [_, _]) _ Tryz.func73 rfl Tryz.ntmps73 rfl fun av bor w0 => ?_
  repeat' (first | apply sw_nil | apply cw_seq | apply cw_reg | refine sy_move (h := ?_) | refine sy_assign (h := ?_) | refine cw_cond_t (ht := ?_) | refine cw_cond_f (hf := ?_) | apply cw_skip | apply cw_block | apply cw_ret | apply cw_exit | refine sy_arrA (h := ?_) | refine sy_strI (h := ?_) | (refine sw_pu (hc := addN_pu a b) (hX := fun w h => h) (h := ?_)) | (refine cw_cond (ht := ?_) (hf := ?_); all_goals (intro hx_; first | have := of_decide_eq_true hx_ | have := of_decide_eq_false hx_ | skip)))
  apply ends_ret; apply res_tmp; rfl; rfl
  rfl
end Go.Proofs.YtepckpofhegmiaaGreatDoor
