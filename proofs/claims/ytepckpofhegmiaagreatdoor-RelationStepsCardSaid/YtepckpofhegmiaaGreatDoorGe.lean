/- Contract: group.Exp. -/
import Derived.Test.YtepckpofhegmiaaGreatDoorGs
set_option linter.unusedVariables false
set_option linter.unusedSimpArgs false
namespace Go.Proofs.YtepckpofhegmiaaGreatDoor
open Go Go.Proofs Sy Go.Shelf
/-- result and power after i rounds -/
def expF (a e : Nat) : Nat → Nat × Nat
  | 0 => (1, a % 2305843009213693951)
  | i + 1 => (bif decide (e / 2 ^ i % 2 = 1) then (expF a e i).1 * (expF a e i).2 % 2305843009213693951 else (expF a e i).1, (expF a e i).2 * (expF a e i).2 % 2305843009213693951)
def expV (a e : Nat) : Nat := (expF a e (Lib.bitLen e)).1
theorem shr_i (e i : Nat) (hi : i ≤ 64) : shrV .i64 (e : Int) (i : Int) = ((e / 2 ^ i : Nat) : Int) := by
  show (e : Int).fdiv (2 ^ (min (i : Int).toNat 64)) = _
  rw [Int.toNat_natCast, Nat.min_eq_left hi, show (2 : Int) ^ i = ((2 ^ i : Nat) : Int) by rw [Int.natCast_pow]; rfl, ← Int.ofNat_fdiv]
theorem and_1 (x : Nat) (hx : x < 9223372036854775808) : bitsV .and .i64 (x : Int) 1 = ((x % 2 : Nat) : Int) := by
  show IntKind.i64.wrap ((((BitVec.ofInt 64 (x : Int)) &&& (BitVec.ofInt 64 1)).toNat : Nat) : Int) = _
  have e : (BitVec.ofInt 64 1).toNat = 1 := by decide
  rw [BitVec.toNat_and, e, BitVec.ofInt_natCast, BitVec.toNat_ofNat, Nat.mod_eq_of_lt (show x < 2 ^ 64 by omega), Nat.and_one_is_mod]
  exact IntWalk.i64_in _ (by omega)
theorem bitLenAux_le : ∀ f x : Nat, Lib.bitLenAux f x ≤ f
  | 0, _ => Nat.le_refl _
  | f + 1, x => by
    rw [Lib.bitLenAux]
    split
    · omega
    · have := bitLenAux_le f (x / 2)
      omega
theorem exp_pu (a e : Nat) (he : e < 9223372036854775808) : Pu Tryz.prog 72 #[.int .i64 (a : Int), .int .i64 (e : Int)] (fun _ => True) (.int .i64 (expV a e : Nat)) := by
  refine pu_of_cw (args := [_, _]) _ Tryz.func72 rfl Tryz.ntmps72 rfl fun av bor w0 => ?_
  have h1 := residue_pu a 2305843009213693951 (by decide) (by decide)
  have h2 := len64_pu e (by omega)
  have ce : Eqq (IntKind.u64.wrap (e : Int)) (e : Int) := u64_in _ (by omega)
  unfold Eqq at ce
  rw [← ce] at h2
  repeat' (first | apply sw_nil | apply cw_seq | apply cw_reg | refine sy_move (h := ?_) | refine sy_assign (h := ?_) | refine sy_eql (h := ?_) | refine sy_lss (h := ?_) | refine sy_seql (h := ?_) | refine sy_add (h := ?_) | refine cw_cond_t (ht := ?_) | refine cw_cond_f (hf := ?_) | apply cw_skip | apply cw_block | apply cw_ret | apply cw_exit | refine sy_and (h := ?_) | refine sy_shr (h := ?_) | refine sy_int (h := ?_) | refine sy_beql (h := ?_) | refine sy_arrA (h := ?_) | refine sy_strI (h := ?_) | (refine sw_pu (hc := h1) (hX := fun w h => h) (h := ?_)) | (refine sw_pu (hc := h2) (hX := fun w h => h) (h := ?_)) | (refine cw_cond (ht := ?_) (hf := ?_); all_goals (intro hx_; first | have := of_decide_eq_true hx_ | have := of_decide_eq_false hx_ | skip)))
  · exfalso; omega
  · have hbl : Lib.bitLen e ≤ 64 := bitLenAux_le 64 e
    refine cw_loop (ι := Kth (Lib.bitLen e)) (fun i => ⟨[(1, .int .i64 (e : Int)), (5, .int .i64 ((expF a e i.k).1 : Nat)), (6, .int .i64 ((expF a e i.k).2 : Nat)), (16, .int .i64 (Lib.bitLen e : Nat)), (17, .int .i64 i.k)], [], fun _ => True⟩) (fun i => Lib.bitLen e - i.k) ⟨0, Nat.zero_le _⟩ (ok_sub ⟨rfl, rfl, rfl, rfl, rfl, trivial⟩ (List.nil_sublist _) fun _ h => h) fun i => ?_
    have hik := i.hk
    have hm1 := Mul_pu (expF a e i.k).1 (expF a e i.k).2
    have hm2 := Mul_pu (expF a e i.k).2 (expF a e i.k).2
    have hb : bitsV .and .i64 (shrV .i64 (e : Int) ((i.k : Nat) : Int)) 1 = ((e / 2 ^ i.k % 2 : Nat) : Int) := by
      rw [shr_i e i.k (by omega), and_1 _ (Nat.lt_of_le_of_lt (Nat.div_le_self _ _) he)]
    have hs : expF a e (i.k + 1) = (bif decide (e / 2 ^ i.k % 2 = 1) then (expF a e i.k).1 * (expF a e i.k).2 % 2305843009213693951 else (expF a e i.k).1, (expF a e i.k).2 * (expF a e i.k).2 % 2305843009213693951) := rfl
    generalize hp : expF a e i.k = p at *
    repeat' (first | apply sw_nil | apply cw_seq | apply cw_reg | refine sy_move (h := ?_) | refine sy_assign (h := ?_) | refine sy_eql (h := ?_) | refine sy_lss (h := ?_) | refine sy_seql (h := ?_) | refine sy_add (h := ?_) | refine cw_cond_t (ht := ?_) | refine cw_cond_f (hf := ?_) | apply cw_skip | apply cw_block | apply cw_ret | apply cw_exit | refine sy_and (h := ?_) | refine sy_shr (h := ?_) | refine sy_int (h := ?_) | refine sy_beql (h := ?_) | refine sy_arrA (h := ?_) | refine sy_strI (h := ?_) | (refine sw_pu (hc := hm1) (hX := fun w h => h) (h := ?_)) | (refine sw_pu (hc := hm2) (hX := fun w h => h) (h := ?_)) | (refine cw_cond (ht := ?_) (hf := ?_); all_goals (intro hx_; first | have := of_decide_eq_true hx_ | have := of_decide_eq_false hx_ | skip)))
    · have hc : e / 2 ^ i.k % 2 = 1 := by
        rw [hb] at hx_
        have := of_decide_eq_true hx_
        omega
      rw [decide_eq_true hc, cond_true] at hs
      exact ⟨(⟨i.k + 1, by omega⟩ : Kth (Lib.bitLen e)), (by show Lib.bitLen e - (i.k + 1) < Lib.bitLen e - i.k; omega), ok_sub ⟨rfl, by rw [hs]; rfl, by rw [hs]; rfl, rfl, rfl, trivial⟩ (List.nil_sublist _) fun _ h => h⟩
    · have hc : ¬ e / 2 ^ i.k % 2 = 1 := by
        rw [hb] at hx_
        have := of_decide_eq_false hx_
        omega
      rw [decide_eq_false hc, cond_false] at hs
      exact ⟨(⟨i.k + 1, by omega⟩ : Kth (Lib.bitLen e)), (by show Lib.bitLen e - (i.k + 1) < Lib.bitLen e - i.k; omega), ok_sub ⟨rfl, by rw [hs]; rfl, by rw [hs]; rfl, rfl, rfl, trivial⟩ (List.nil_sublist _) fun _ h => h⟩
    · have hk : i.k = Lib.bitLen e := by omega
      apply ends_ret; apply res_tmp; rfl; rfl
      rw [expV, ← hk, hp]
end Go.Proofs.YtepckpofhegmiaaGreatDoor
