/- Contracts: math/bits (Len64, Mul64, Div64, Rem64 at the two moduli), package group. -/
import Derived.Test.YtepckpofhegmiaaGreatDoorMf
import Derived.Test.YtepckpofhegmiaaGreatDoorMa
import Derived.Test.YtepckpofhegmiaaGreatDoorSg
import Derived.Shelf.Bits.Mul64
import Derived.Shelf.Strconv.Itoa0
set_option linter.unusedVariables false
set_option linter.unusedSimpArgs false
namespace Go.Proofs.YtepckpofhegmiaaGreatDoor
open Go Go.Proofs Sy Go.Shelf
theorem pu_of_same {P : Program} {f : FuncId} {args : Array Value} {X : World → Prop} {v : Value} (h : ∀ w, Calls P f args w fun e w' => e = .returned v ∧ w' = w) : Pu P f args X v := by
  unfold Pu
  exact Ct.mk fun w av G => (h w).mono fun e w' ⟨he, hw⟩ => ⟨v, [], X, he, ⟨rfl, rfl⟩, by subst hw; exact G⟩
theorem len64_pu (x : Nat) (hx : x < 18446744073709551616) : Pu Tryz.prog 112 #[.int .u64 (x : Int)] (fun _ => True) (.int .i64 (Lib.bitLen x)) :=
  pu_of_same fun w => by
    have h := Any.bits_Len64 Tryz.len64 (x : Int) w (by omega) (by omega)
    rw [Int.toNat_natCast] at h
    exact h
theorem mul64_pu (x y : Nat) (hx : x < 18446744073709551616) (hy : y < 18446744073709551616) : Pu Tryz.prog 144 #[.int .u64 (x : Int), .int .u64 (y : Int)] (fun _ => True) (.tuple #[.int .u64 ((x * y / 18446744073709551616 : Nat) : Int), .int .u64 ((x * y % 18446744073709551616 : Nat) : Int)]) :=
  pu_of_same fun w => Any.bits_Mul64 Tryz.mul64 x y hx hy w
theorem lead_pu (d : Nat) (hd : d = 8 ∨ d = 16) : Pu Tryz.prog 160 #[.int .u64 ((2305843009213693952 - d / 8 : Nat) : Int)] (fun _ => True) (.int .i64 3) := by
  refine pu_of_cw (args := [_]) _ Tryz.func160 rfl Tryz.ntmps160 rfl fun av bor w0 => ?_
  have h := len64_pu (2305843009213693952 - d / 8) (by omega)
  have e : Lib.bitLen (2305843009213693952 - d / 8) = 61 := by rcases hd with rfl | rfl <;> kernel_rfl
  rw [e] at h
  repeat' (first | apply sw_nil | apply cw_seq | apply cw_reg | refine sy_move (h := ?_) | refine sy_assign (h := ?_) | refine sy_sub (h := ?_) | refine cw_cond_t (ht := ?_) | refine cw_cond_f (hf := ?_) | apply cw_skip | apply cw_block | apply cw_ret | apply cw_exit | refine sy_arrA (h := ?_) | refine sy_strI (h := ?_) | (refine sw_pu (hc := h) (hX := fun w h => h) (h := ?_)) | (refine cw_cond (ht := ?_) (hf := ?_); all_goals (intro hx_; first | have := of_decide_eq_true hx_ | have := of_decide_eq_false hx_ | skip)))
  apply ends_ret; apply res_tmp; rfl; rfl
  rfl
namespace Sy
section
variable {P : Program} {N : Nat} {av bor : List Nat} {w0 : World} {st : St} {K : Exit → St → Prop}
theorem cw_meetG {ι : Type} {id : Nat} (M : ι → St) {x y : Code} (h1 : Cw P N av bor w0 x st (blk id (thn (fun s => ∃ i, ∀ a w, Ok N av bor w0 s a w → Ok N av bor w0 (M i) a w) K))) (h2 : ∀ i, Cw P N av bor w0 y (M i) K) :
    Cw P N av bor w0 x st (blk id (thn (fun s => Cw P N av bor w0 y s K) K)) := cw_mono (fun e s h => by
  cases e with
  | normal =>
    obtain ⟨i, hi⟩ := h
    exact cw_to hi (h2 i)
  | exit id' =>
    by_cases e : id' = id
    · simp only [blk, if_pos e] at h ⊢
      obtain ⟨i, hi⟩ := h
      exact cw_to hi (h2 i)
    · simp only [blk, if_neg e] at h ⊢
      exact h
  | _ => exact h) h1
end
end Sy
theorem u64_in (x : Int) (h : 0 ≤ x ∧ x < 18446744073709551616) : IntKind.u64.wrap x = x := by
  rw [IntKind.wrap_u64]
  omega
theorem u64_wr (x : Int) : IntKind.u64.wrap x = x % 18446744073709551616 := IntKind.wrap_u64 x
/-- an equation that omega does not read -/
def Eqq (a b : Int) : Prop := a = b
def Hid (p : Prop) : Prop := p
theorem u64_wr3 (a b c : Int) : IntKind.u64.wrap (IntKind.u64.wrap (IntKind.u64.wrap a + b) - IntKind.u64.wrap c) = (a + b - c) % 18446744073709551616 := by
  simp only [u64_wr]
  omega
theorem div_mod_of {V M Q z : Nat} (h : V = M * Q + z) (hz : z < M) : V / M = Q ∧ V % M = z := by
  subst h
  exact ⟨by rw [Nat.mul_add_div (by omega), Nat.div_eq_of_lt hz, Nat.add_zero], by rw [Nat.mul_add_mod, Nat.mod_eq_of_lt hz]⟩
theorem and32 (a : Nat) (ha : a < 18446744073709551616) : bitsV .and .u64 (a : Int) 4294967295 = ((a % 4294967296 : Nat) : Int) := by
  show IntKind.u64.wrap ((((BitVec.ofInt 64 (a : Int)) &&& (BitVec.ofInt 64 4294967295)).toNat : Nat) : Int) = _
  have e : (BitVec.ofInt 64 4294967295).toNat = 4294967295 := by decide
  rw [BitVec.toNat_and, e, BitVec.ofInt_natCast, BitVec.toNat_ofNat, Nat.mod_eq_of_lt (show a < 2 ^ 64 from ha), show (4294967295 : Nat) = 2 ^ 32 - 1 by decide, Nat.and_two_pow_sub_one_eq_mod, u64_in _ (by omega)]
theorem shl3 (a : Nat) : shlV .u64 (a : Int) 3 = ((a * 8 % 18446744073709551616 : Nat) : Int) := by
  show IntKind.u64.wrap ((a : Int) * 2 ^ (min (3 : Int).toNat 64)) = _
  rw [show (2 : Int) ^ (min (3 : Int).toNat 64) = 8 by kernel_rfl, u64_wr]
  omega
theorem shr_n (a : Nat) {c : Int} (p : Nat) (hp : (2 : Int) ^ (min c.toNat 64) = (p : Int)) : shrV .u64 (a : Int) c = ((a / p : Nat) : Int) := by
  show (a : Int).fdiv (2 ^ (min c.toNat 64)) = _
  rw [hp, ← Int.ofNat_fdiv]
theorem or3 (a b : Nat) (ha : a < 2305843009213693952) (hb : b < 8) : bitsV .or .u64 ((a * 8 : Nat) : Int) (b : Int) = ((a * 8 + b : Nat) : Int) := by
  show IntKind.u64.wrap ((((BitVec.ofInt 64 ((a * 8 : Nat) : Int)) ||| (BitVec.ofInt 64 (b : Int))).toNat : Nat) : Int) = _
  rw [BitVec.ofInt_natCast, BitVec.ofInt_natCast, BitVec.toNat_or, BitVec.toNat_ofNat, BitVec.toNat_ofNat, Nat.mod_eq_of_lt (show a * 8 < 2 ^ 64 by omega), Nat.mod_eq_of_lt (show b < 2 ^ 64 by omega)]
  have e : a * 8 ||| b = a * 8 + b := by
    have h := Nat.shiftLeft_add_eq_or_of_lt (i := 3) (b := b) hb a
    rw [Nat.shiftLeft_eq] at h
    exact h.symm
  rw [e, u64_in _ (by omega)]
theorem quo_n (a b : Nat) (ha : a < 18446744073709551616) (hb : 0 < b) : IntKind.u64.wrap ((a : Int).tdiv (b : Int)) = ((a / b : Nat) : Int) := by
  have h : (a : Int).tdiv (b : Int) = ((a / b : Nat) : Int) := by rw [Int.natCast_ediv, Int.tdiv_eq_ediv_of_nonneg (by omega)]
  have := Nat.div_le_self a b
  rw [h]
  generalize a / b = c at *
  rw [u64_in _ (by omega)]
theorem rem_n (a b : Nat) : (a : Int).tmod (b : Int) = ((a % b : Nat) : Int) := by rw [Int.natCast_emod, Int.tmod_eq_emod_of_nonneg (by omega)]
theorem div_bigP {u v p r : Nat} (isum : (p + 1) * 4294967295 + r = u) (hu : u < 18446744073709551608) (hv : v < 4294967296) (h : 4294967296 ≤ p + 1 ∨ 4294967296 * r + v < (p + 1) * 4294967288) : u * 4294967296 + v < (p + 1) * 18446744073709551608 := by
  rcases h with h | h
  · exact Nat.lt_of_lt_of_le (show u * 4294967296 + v < 4294967296 * 18446744073709551608 by omega) (Nat.mul_le_mul_right 18446744073709551608 h)
  · have e : (p + 1) * 18446744073709551608 = (p + 1) * 4294967295 * 4294967296 + (p + 1) * 4294967288 := by rw [Nat.mul_assoc, ← Nat.mul_add]
    rw [e, ← isum, Nat.add_mul, Nat.add_assoc]
    exact Nat.add_lt_add_left (by rw [Nat.mul_comm r]; exact h) _
theorem div_lowP {u v p r : Nat} (isum : (p + 1) * 4294967295 + r = u) (hr : 4294967296 ≤ r + 4294967295) (itop : p + 1 ≤ 4294967297) : p * 18446744073709551608 ≤ u * 4294967296 + v := by
  have e : p * 18446744073709551608 = p * 4294967295 * 4294967296 + p * 4294967288 := by rw [Nat.mul_assoc, ← Nat.mul_add]
  have h1 : p * 4294967288 ≤ 4294967296 * 4294967296 := Nat.mul_le_mul (by omega) (by decide)
  have hu' : u = p * 4294967295 + (r + 4294967295) := by
    rw [← isum, Nat.succ_mul, Nat.add_assoc, Nat.add_comm 4294967295 r]
  rw [hu', Nat.add_mul, e, Nat.add_assoc]
  exact Nat.add_le_add_left (Nat.le_trans h1 (Nat.le_trans (Nat.mul_le_mul_right 4294967296 hr) (Nat.le_add_right _ _))) _
structure DivIP (u v : Nat) where
  q : Nat
  r : Nat
  sum : q * 4294967295 + r = u
  big : u * 4294967296 + v < (q + 1) * 18446744073709551608
  top : q ≤ 4294967297
  lim : r < 4294967296
structure DivEP (u v : Nat) where
  q : Nat
  lo : q * 18446744073709551608 ≤ u * 4294967296 + v
  hi : u * 4294967296 + v < (q + 1) * 18446744073709551608
set_option maxHeartbeats 4000000 in
set_option maxRecDepth 20000 in
theorem div64P (hi lo : Nat) (hhi : hi < 2305843009213693951) (hlo : lo < 18446744073709551616) :
    Pu Tryz.prog 156 #[.int .u64 (hi : Int), .int .u64 (lo : Int), .int .u64 2305843009213693951] (fun _ => True)
      (.tuple #[.int .u64 (((hi * 18446744073709551616 + lo) / 2305843009213693951 : Nat) : Int), .int .u64 (((hi * 18446744073709551616 + lo) % 2305843009213693951 : Nat) : Int)]) := by
  refine pu_of_cw (args := [_, _, _]) _ Tryz.func156 rfl Tryz.ntmps156 rfl fun av bor w0 => ?_
  have hz := lead_pu 8 (by decide)
  repeat' (first | apply sw_nil | apply cw_seq | apply cw_reg | refine sy_move (h := ?_) | refine sy_assign (h := ?_) | refine sy_ld (h := ?_) | refine sy_ldAll (h := ?_) | refine sy_pick_t (h := ?_) | refine sy_pick_f (h := ?_) | refine sy_eql (h := ?_) | refine sy_leq (h := ?_) | refine sy_gtr (h := ?_) | refine sy_geq (h := ?_) | refine sy_seql (h := ?_) | refine sy_add (h := ?_) | refine sy_sub (h := ?_) | refine sw_skipT (h := ?_) | refine sw_skipF (h := ?_) | refine sw_skipU (h := ?_) | refine cw_cond_t (ht := ?_) | refine cw_cond_f (hf := ?_) | apply cw_skip | apply cw_block | apply cw_ret | apply cw_exit | refine sy_and (h := ?_) | refine sy_or (h := ?_) | refine sy_shl (h := ?_) | refine sy_shr (h := ?_) | refine sy_mul (h := ?_) | refine sy_int (h := ?_) | refine sy_beql (h := ?_) | refine sy_arrA (h := ?_) | refine sy_strI (h := ?_) | (refine sw_pu (hc := hz) (hX := fun w h => h) (h := ?_)) | ((fail_if_success (refine sw_chk (h := ?_))); refine sw_guard (ht := ?_) (hf := ?_); all_goals (intro hx_; first | have := of_decide_eq_true hx_ | have := of_decide_eq_false hx_ | skip)) | (refine cw_cond (ht := ?_) (hf := ?_); all_goals (intro hx_; first | have := of_decide_eq_true hx_ | have := of_decide_eq_false hx_ | skip)))
  · exfalso; omega
  · exfalso; omega
  · have h0 : hi = 0 := by omega
    subst h0
    have e1 : IntKind.u64.wrap ((lo : Int).tdiv 2305843009213693951) = ((lo / 2305843009213693951 : Nat) : Int) := quo_n lo 2305843009213693951 hlo (by decide)
    have e2 : (lo : Int).tmod 2305843009213693951 = ((lo % 2305843009213693951 : Nat) : Int) := rem_n lo 2305843009213693951
    (refine cw_draw [] (fun _ => True) (by kernel_rfl) ?_)
    all_goals (refine aw_dtake 0 (h := ?_))
    all_goals (refine aw_dtake 1 (h := ?_))
    all_goals (first | refine aw_dtake 2 (h := ?_) | refine aw_dtake 2 (hy := by (first | (apply y_quo (c := ((lo / 2305843009213693951 : Nat) : Int)); rfl; rfl; decide; exact e1) | (apply y_rem (c := ((lo % 2305843009213693951 : Nat) : Int)); rfl; rfl; decide; exact e2))) (h := ?_))
    all_goals (refine aw_dtake 3 (h := ?_))
    all_goals (refine aw_dtake 4 (h := ?_))
    all_goals (first | refine aw_dtake 5 (h := ?_) | refine aw_dtake 5 (hy := by (first | (apply y_quo (c := ((lo / 2305843009213693951 : Nat) : Int)); rfl; rfl; decide; exact e1) | (apply y_rem (c := ((lo % 2305843009213693951 : Nat) : Int)); rfl; rfl; decide; exact e2))) (h := ?_))
    all_goals (refine aw_dtake 6 (h := ?_))
    all_goals (refine aw_dtake 7 (h := ?_))
    all_goals (refine aw_done (h := ?_))
    all_goals
      repeat' (first | apply sw_nil | apply cw_seq | apply cw_reg | refine sy_move (h := ?_) | refine sy_assign (h := ?_) | refine sy_ld (h := ?_) | refine sy_ldAll (h := ?_) | refine sy_pick_t (h := ?_) | refine sy_pick_f (h := ?_) | refine sy_eql (h := ?_) | refine sy_leq (h := ?_) | refine sy_gtr (h := ?_) | refine sy_geq (h := ?_) | refine sy_seql (h := ?_) | refine sy_add (h := ?_) | refine sy_sub (h := ?_) | refine sw_skipT (h := ?_) | refine sw_skipF (h := ?_) | refine sw_skipU (h := ?_) | refine cw_cond_t (ht := ?_) | refine cw_cond_f (hf := ?_) | apply cw_skip | apply cw_block | apply cw_ret | apply cw_exit | refine sy_and (h := ?_) | refine sy_or (h := ?_) | refine sy_shl (h := ?_) | refine sy_shr (h := ?_) | refine sy_mul (h := ?_) | refine sy_int (h := ?_) | refine sy_beql (h := ?_) | refine sy_arrA (h := ?_) | refine sy_strI (h := ?_))
      apply ends_ret; apply res_tmp2; rfl; rfl; rfl
      rw [Nat.zero_mul, Nat.zero_add]
  · have e3 : IntKind.u64.wrap 3 = 3 := by kernel_rfl
    have e61 : IntKind.u64.wrap (64 - 3) = 61 := by kernel_rfl
    have ey : shlV .u64 2305843009213693951 3 = 18446744073709551608 := by kernel_rfl
    have ey1 : shrV .u64 18446744073709551608 32 = 4294967295 := by kernel_rfl
    have ey0 : bitsV .and .u64 18446744073709551608 4294967295 = 4294967288 := by kernel_rfl
    have eh : shlV .u64 (hi : Int) 3 = ((hi * 8 : Nat) : Int) := by rw [shl3, Nat.mod_eq_of_lt (by omega)]
    have el : shrV .u64 (lo : Int) 61 = ((lo / 2305843009213693952 : Nat) : Int) := shr_n lo _ (by kernel_rfl)
    have eo : bitsV .or .u64 ((hi * 8 : Nat) : Int) ((lo / 2305843009213693952 : Nat) : Int) = ((hi * 8 + lo / 2305843009213693952 : Nat) : Int) := or3 hi _ (by omega) (by omega)
    have e10 : shlV .u64 (lo : Int) 3 = ((lo * 8 % 18446744073709551616 : Nat) : Int) := shl3 lo
    have hU : (hi * 18446744073709551616 + lo) * 8 = (hi * 8 + lo / 2305843009213693952) * 18446744073709551616 + lo * 8 % 18446744073709551616 := by omega
    have hu : hi * 8 + lo / 2305843009213693952 < 18446744073709551608 := by omega
    have hv : lo * 8 % 18446744073709551616 < 18446744073709551616 := Nat.mod_lt _ (by decide)
    simp only [e3, e61, ey, ey1, ey0, eh, el, eo, e10]
    clear e3 e61 ey ey1 ey0 eh el eo e10
    generalize hi * 8 + lo / 2305843009213693952 = u at *
    generalize lo * 8 % 18446744073709551616 = v at *
    have e1 : shrV .u64 (v : Int) 32 = ((v / 4294967296 : Nat) : Int) := shr_n v _ (by kernel_rfl)
    have e0 : bitsV .and .u64 (v : Int) 4294967295 = ((v % 4294967296 : Nat) : Int) := and32 v hv
    obtain ⟨v1, v0, hv1, hv0, hvv, hv1l, hv0l⟩ : ∃ v1 v0 : Nat, v / 4294967296 = v1 ∧ v % 4294967296 = v0 ∧ v = v1 * 4294967296 + v0 ∧ v1 < 4294967296 ∧ v0 < 4294967296 := ⟨_, _, rfl, rfl, by omega, by omega, by omega⟩
    simp only [e1, e0, hv1, hv0]
    clear e1 e0 hv1 hv0
    subst hvv
    obtain ⟨V, hV⟩ : ∃ V, hi * 18446744073709551616 + lo = V := ⟨_, rfl⟩
    rw [hV] at hU ⊢
    have hUh : Hid (V * 8 = u * 18446744073709551616 + (v1 * 4294967296 + v0)) := hU
    clear hU hV hv hhi hlo
    have hq1 : Eqq (IntKind.u64.wrap ((u : Int).tdiv 4294967295)) ((u / 4294967295 : Nat) : Int) := quo_n u 4294967295 (by omega) (by decide)
    repeat' (first | refine sy_quo (hb := by decide) (hc := hq1) (h := ?_) | refine sy_mul (hc := u64_in _ (by omega)) (h := ?_) | refine sy_sub (hc := u64_in _ (by omega)) (h := ?_) | apply sw_nil | apply cw_seq | apply cw_reg | refine sy_move (h := ?_) | refine sy_assign (h := ?_) | refine sy_ld (h := ?_) | refine sy_ldAll (h := ?_) | refine sy_pick_t (h := ?_) | refine sy_pick_f (h := ?_) | refine sy_eql (h := ?_) | refine sy_leq (h := ?_) | refine sy_gtr (h := ?_) | refine sy_geq (h := ?_) | refine sy_seql (h := ?_) | refine sy_add (h := ?_) | refine sy_sub (h := ?_) | refine sw_skipT (h := ?_) | refine sw_skipF (h := ?_) | refine sw_skipU (h := ?_) | refine cw_cond_t (ht := ?_) | refine cw_cond_f (hf := ?_) | apply cw_skip | apply cw_block | apply cw_ret | apply cw_exit | refine sy_and (h := ?_) | refine sy_or (h := ?_) | refine sy_shl (h := ?_) | refine sy_shr (h := ?_) | refine sy_mul (h := ?_) | refine sy_int (h := ?_) | refine sy_beql (h := ?_) | refine sy_arrA (h := ?_) | refine sy_strI (h := ?_) | ((fail_if_success (refine sw_chk (h := ?_))); refine sw_guard (ht := ?_) (hf := ?_); all_goals (intro hx_; first | have := of_decide_eq_true hx_ | have := of_decide_eq_false hx_ | skip)) | (refine cw_cond (ht := ?_) (hf := ?_); all_goals (intro hx_; first | have := of_decide_eq_true hx_ | have := of_decide_eq_false hx_ | skip)))
    refine cw_meetG (ι := DivEP u v1) (fun i => ⟨[(2, .int .u64 18446744073709551608), (8, .int .u64 3), (9, .int .u64 4294967295), (10, .int .u64 4294967288), (11, .int .u64 (u : Nat)), (13, .int .u64 (v1 : Int)), (14, .int .u64 (v0 : Int)), (15, .int .u64 (i.q : Nat))], [], fun _ => True⟩) ?_ fun i => ?_
    · refine cw_loop (ι := DivIP u v1) (fun i => ⟨[(2, .int .u64 18446744073709551608), (8, .int .u64 3), (9, .int .u64 4294967295), (10, .int .u64 4294967288), (11, .int .u64 (u : Nat)), (13, .int .u64 (v1 : Int)), (14, .int .u64 (v0 : Int)), (15, .int .u64 (i.q : Nat)), (16, .int .u64 (i.r : Nat))], [], fun _ => True⟩) (fun i => 4294967296 - i.r) ⟨u / 4294967295, u % 4294967295, by omega, by omega, by omega, by omega⟩
        (ok_sub ⟨rfl, rfl, rfl, rfl, rfl, rfl, rfl, rfl, by show some (Value.int .u64 ((u : Int) - ((u / 4294967295 : Nat) : Int) * 4294967295)) = some (Value.int .u64 ((u % 4294967295 : Nat) : Int)); congr 2; omega, trivial⟩ (List.nil_sublist _) fun _ h => h) fun i => ?_
      obtain ⟨q, r, isum, ibig, itop, ilim⟩ := i
      simp only
      repeat' (first | refine sy_mul (hc := u64_in _ (by omega)) (h := ?_) | refine sy_sub (hc := u64_in _ (by omega)) (h := ?_) | refine sy_add (hc := u64_in _ (by omega)) (h := ?_) | apply sw_nil | apply cw_seq | apply cw_reg | refine sy_move (h := ?_) | refine sy_assign (h := ?_) | refine sy_ld (h := ?_) | refine sy_ldAll (h := ?_) | refine sy_pick_t (h := ?_) | refine sy_pick_f (h := ?_) | refine sy_eql (h := ?_) | refine sy_leq (h := ?_) | refine sy_gtr (h := ?_) | refine sy_geq (h := ?_) | refine sy_seql (h := ?_) | refine sy_add (h := ?_) | refine sy_sub (h := ?_) | refine sw_skipT (h := ?_) | refine sw_skipF (h := ?_) | refine sw_skipU (h := ?_) | refine cw_cond_t (ht := ?_) | refine cw_cond_f (hf := ?_) | apply cw_skip | apply cw_block | apply cw_ret | apply cw_exit | refine sy_and (h := ?_) | refine sy_or (h := ?_) | refine sy_shl (h := ?_) | refine sy_shr (h := ?_) | refine sy_mul (h := ?_) | refine sy_int (h := ?_) | refine sy_beql (h := ?_) | refine sy_arrA (h := ?_) | refine sy_strI (h := ?_) | ((fail_if_success (refine sw_chk (h := ?_))); refine sw_guard (ht := ?_) (hf := ?_); all_goals (intro hx_; first | have := of_decide_eq_true hx_ | have := of_decide_eq_false hx_ | skip)) | (refine cw_cond (ht := ?_) (hf := ?_); all_goals (intro hx_; first | have := of_decide_eq_true hx_ | have := of_decide_eq_false hx_ | skip)))
      · cases q with
        | zero => exfalso; omega
        | succ p =>
          have f2 : u * 4294967296 + v1 < (p + 1) * 18446744073709551608 := div_bigP isum hu hv1l (Or.inl (by omega))
          have f3 : ((p + 1 : Nat) : Int) - 1 = (p : Int) := by omega
          have f1 : p * 18446744073709551608 ≤ u * 4294967296 + v1 := div_lowP isum (by omega) itop
          exact ⟨⟨p, f1, f2⟩, ok_sub ⟨rfl, rfl, rfl, rfl, rfl, rfl, rfl, by show some (Value.int .u64 (((p + 1 : Nat) : Int) - 1)) = some (Value.int .u64 (p : Int)); rw [f3], trivial⟩ (List.nil_sublist _) fun _ h => h⟩
      · cases q with
        | zero => exfalso; omega
        | succ p =>
          have f2 : u * 4294967296 + v1 < (p + 1) * 18446744073709551608 := div_bigP isum hu hv1l (Or.inl (by omega))
          have f3 : ((p + 1 : Nat) : Int) - 1 = (p : Int) := by omega
          have g1 : p * 4294967295 + (r + 4294967295) = u := by rw [← isum, Nat.succ_mul, Nat.add_assoc, Nat.add_comm 4294967295 r]
          have g3 : p ≤ 4294967297 := by omega
          have g4 : r + 4294967295 < 4294967296 := by omega
          have g5 : 4294967296 - (r + 4294967295) < 4294967296 - r := by omega
          exact ⟨⟨p, r + 4294967295, g1, f2, g3, g4⟩, g5, ok_sub ⟨rfl, rfl, rfl, rfl, rfl, rfl, rfl, by show some (Value.int .u64 (((p + 1 : Nat) : Int) - 1)) = some (Value.int .u64 (p : Int)); rw [f3], rfl, trivial⟩ (List.nil_sublist _) fun _ h => h⟩
      · cases q with
        | zero => exfalso; omega
        | succ p =>
          have f2 : u * 4294967296 + v1 < (p + 1) * 18446744073709551608 := div_bigP isum hu hv1l (Or.inr (by omega))
          have f3 : ((p + 1 : Nat) : Int) - 1 = (p : Int) := by omega
          have f1 : p * 18446744073709551608 ≤ u * 4294967296 + v1 := div_lowP isum (by omega) itop
          exact ⟨⟨p, f1, f2⟩, ok_sub ⟨rfl, rfl, rfl, rfl, rfl, rfl, rfl, by show some (Value.int .u64 (((p + 1 : Nat) : Int) - 1)) = some (Value.int .u64 (p : Int)); rw [f3], trivial⟩ (List.nil_sublist _) fun _ h => h⟩
      · cases q with
        | zero => exfalso; omega
        | succ p =>
          have f2 : u * 4294967296 + v1 < (p + 1) * 18446744073709551608 := div_bigP isum hu hv1l (Or.inr (by omega))
          have f3 : ((p + 1 : Nat) : Int) - 1 = (p : Int) := by omega
          have g1 : p * 4294967295 + (r + 4294967295) = u := by rw [← isum, Nat.succ_mul, Nat.add_assoc, Nat.add_comm 4294967295 r]
          have g3 : p ≤ 4294967297 := by omega
          have g4 : r + 4294967295 < 4294967296 := by omega
          have g5 : 4294967296 - (r + 4294967295) < 4294967296 - r := by omega
          exact ⟨⟨p, r + 4294967295, g1, f2, g3, g4⟩, g5, ok_sub ⟨rfl, rfl, rfl, rfl, rfl, rfl, rfl, by show some (Value.int .u64 (((p + 1 : Nat) : Int) - 1)) = some (Value.int .u64 (p : Int)); rw [f3], rfl, trivial⟩ (List.nil_sublist _) fun _ h => h⟩
      · exact ⟨⟨q, by omega, by omega⟩, ok_sub ⟨rfl, rfl, rfl, rfl, rfl, rfl, rfl, rfl, trivial⟩ (List.nil_sublist _) fun _ h => h⟩
    · obtain ⟨q1, q1lo, q1hi⟩ := i
      simp only
      obtain ⟨x, hx, hxY⟩ : ∃ x : Nat, u * 4294967296 + v1 = q1 * 18446744073709551608 + x ∧ x < 18446744073709551608 := ⟨u * 4294967296 + v1 - q1 * 18446744073709551608, by omega, by omega⟩
      have h17 : Eqq (IntKind.u64.wrap (IntKind.u64.wrap (IntKind.u64.wrap ((u : Int) * 4294967296) + (v1 : Int)) - IntKind.u64.wrap ((q1 : Int) * 18446744073709551608))) (x : Int) := by
        unfold Eqq
        rw [u64_wr3, show (u : Int) * 4294967296 + (v1 : Int) - (q1 : Int) * 18446744073709551608 = (x : Int) by omega]
        omega
      have hq0 : Eqq (IntKind.u64.wrap ((x : Int).tdiv 4294967295)) ((x / 4294967295 : Nat) : Int) := quo_n x 4294967295 (by omega) (by decide)
      have hq1l : q1 < 4294967296 := by omega
      repeat' (first | refine sy_sub (hc := h17) (h := ?_) | refine sy_mul (hc := rfl) (h := ?_) | refine sy_add (hc := rfl) (h := ?_) | apply sw_nil | apply cw_seq | apply cw_reg | refine sy_move (h := ?_) | refine sy_assign (h := ?_) | refine sy_ld (h := ?_) | refine sy_ldAll (h := ?_) | refine sy_pick_t (h := ?_) | refine sy_pick_f (h := ?_) | refine sy_eql (h := ?_) | refine sy_leq (h := ?_) | refine sy_gtr (h := ?_) | refine sy_geq (h := ?_) | refine sy_seql (h := ?_) | refine sy_add (h := ?_) | refine sy_sub (h := ?_) | refine sw_skipT (h := ?_) | refine sw_skipF (h := ?_) | refine sw_skipU (h := ?_) | refine cw_cond_t (ht := ?_) | refine cw_cond_f (hf := ?_) | apply cw_skip | apply cw_block | apply cw_ret | apply cw_exit | refine sy_and (h := ?_) | refine sy_or (h := ?_) | refine sy_shl (h := ?_) | refine sy_shr (h := ?_) | refine sy_mul (h := ?_) | refine sy_int (h := ?_) | refine sy_beql (h := ?_) | refine sy_arrA (h := ?_) | refine sy_strI (h := ?_) | (fail))
      clear h17
      repeat' (first | refine sy_quo (hb := by decide) (hc := hq0) (h := ?_) | refine sy_mul (hc := u64_in _ (by omega)) (h := ?_) | refine sy_sub (hc := u64_in _ (by omega)) (h := ?_) | apply sw_nil | apply cw_seq | apply cw_reg | refine sy_move (h := ?_) | refine sy_assign (h := ?_) | refine sy_ld (h := ?_) | refine sy_ldAll (h := ?_) | refine sy_pick_t (h := ?_) | refine sy_pick_f (h := ?_) | refine sy_eql (h := ?_) | refine sy_leq (h := ?_) | refine sy_gtr (h := ?_) | refine sy_geq (h := ?_) | refine sy_seql (h := ?_) | refine sy_add (h := ?_) | refine sy_sub (h := ?_) | refine sw_skipT (h := ?_) | refine sw_skipF (h := ?_) | refine sw_skipU (h := ?_) | refine cw_cond_t (ht := ?_) | refine cw_cond_f (hf := ?_) | apply cw_skip | apply cw_block | apply cw_ret | apply cw_exit | refine sy_and (h := ?_) | refine sy_or (h := ?_) | refine sy_shl (h := ?_) | refine sy_shr (h := ?_) | refine sy_mul (h := ?_) | refine sy_int (h := ?_) | refine sy_beql (h := ?_) | refine sy_arrA (h := ?_) | refine sy_strI (h := ?_) | ((fail_if_success (refine sw_chk (h := ?_))); refine sw_guard (ht := ?_) (hf := ?_); all_goals (intro hx_; first | have := of_decide_eq_true hx_ | have := of_decide_eq_false hx_ | skip)) | (refine cw_cond (ht := ?_) (hf := ?_); all_goals (intro hx_; first | have := of_decide_eq_true hx_ | have := of_decide_eq_false hx_ | skip)))
      have hxh : Hid (u * 4294967296 + v1 = q1 * 18446744073709551608 + x) := hx
      clear hx q1lo q1hi hu
      refine cw_meetG (ι := DivEP x v0) (fun i => ⟨[(2, .int .u64 18446744073709551608), (8, .int .u64 3), (14, .int .u64 (v0 : Int)), (15, .int .u64 (q1 : Nat)), (17, .int .u64 (x : Nat)), (18, .int .u64 (i.q : Nat))], [], fun _ => True⟩) ?_ fun i => ?_
      · refine cw_loop (ι := DivIP x v0) (fun i => ⟨[(2, .int .u64 18446744073709551608), (8, .int .u64 3), (9, .int .u64 4294967295), (10, .int .u64 4294967288), (14, .int .u64 (v0 : Int)), (15, .int .u64 (q1 : Nat)), (17, .int .u64 (x : Nat)), (18, .int .u64 (i.q : Nat)), (16, .int .u64 (i.r : Nat))], [], fun _ => True⟩) (fun i => 4294967296 - i.r) ⟨x / 4294967295, x % 4294967295, by omega, by omega, by omega, by omega⟩
          (ok_sub ⟨rfl, rfl, rfl, rfl, rfl, rfl, rfl, rfl, by show some (Value.int .u64 ((x : Int) - ((x / 4294967295 : Nat) : Int) * 4294967295)) = some (Value.int .u64 ((x % 4294967295 : Nat) : Int)); congr 2; omega, trivial⟩ (List.nil_sublist _) fun _ h => h) fun i => ?_
        obtain ⟨q, r, isum, ibig, itop, ilim⟩ := i
        simp only
        repeat' (first | refine sy_mul (hc := u64_in _ (by omega)) (h := ?_) | refine sy_sub (hc := u64_in _ (by omega)) (h := ?_) | refine sy_add (hc := u64_in _ (by omega)) (h := ?_) | apply sw_nil | apply cw_seq | apply cw_reg | refine sy_move (h := ?_) | refine sy_assign (h := ?_) | refine sy_ld (h := ?_) | refine sy_ldAll (h := ?_) | refine sy_pick_t (h := ?_) | refine sy_pick_f (h := ?_) | refine sy_eql (h := ?_) | refine sy_leq (h := ?_) | refine sy_gtr (h := ?_) | refine sy_geq (h := ?_) | refine sy_seql (h := ?_) | refine sy_add (h := ?_) | refine sy_sub (h := ?_) | refine sw_skipT (h := ?_) | refine sw_skipF (h := ?_) | refine sw_skipU (h := ?_) | refine cw_cond_t (ht := ?_) | refine cw_cond_f (hf := ?_) | apply cw_skip | apply cw_block | apply cw_ret | apply cw_exit | refine sy_and (h := ?_) | refine sy_or (h := ?_) | refine sy_shl (h := ?_) | refine sy_shr (h := ?_) | refine sy_mul (h := ?_) | refine sy_int (h := ?_) | refine sy_beql (h := ?_) | refine sy_arrA (h := ?_) | refine sy_strI (h := ?_) | ((fail_if_success (refine sw_chk (h := ?_))); refine sw_guard (ht := ?_) (hf := ?_); all_goals (intro hx_; first | have := of_decide_eq_true hx_ | have := of_decide_eq_false hx_ | skip)) | (refine cw_cond (ht := ?_) (hf := ?_); all_goals (intro hx_; first | have := of_decide_eq_true hx_ | have := of_decide_eq_false hx_ | skip)))
        · cases q with
          | zero => exfalso; omega
          | succ p =>
            have f2 : x * 4294967296 + v0 < (p + 1) * 18446744073709551608 := div_bigP isum hxY hv0l (Or.inl (by omega))
            have f3 : ((p + 1 : Nat) : Int) - 1 = (p : Int) := by omega
            have f1 : p * 18446744073709551608 ≤ x * 4294967296 + v0 := div_lowP isum (by omega) itop
            exact ⟨⟨p, f1, f2⟩, ok_sub ⟨rfl, rfl, rfl, rfl, rfl, by show some (Value.int .u64 (((p + 1 : Nat) : Int) - 1)) = some (Value.int .u64 (p : Int)); rw [f3], trivial⟩ (List.nil_sublist _) fun _ h => h⟩
        · cases q with
          | zero => exfalso; omega
          | succ p =>
            have f2 : x * 4294967296 + v0 < (p + 1) * 18446744073709551608 := div_bigP isum hxY hv0l (Or.inl (by omega))
            have f3 : ((p + 1 : Nat) : Int) - 1 = (p : Int) := by omega
            have g1 : p * 4294967295 + (r + 4294967295) = x := by rw [← isum, Nat.succ_mul, Nat.add_assoc, Nat.add_comm 4294967295 r]
            have g3 : p ≤ 4294967297 := by omega
            have g4 : r + 4294967295 < 4294967296 := by omega
            have g5 : 4294967296 - (r + 4294967295) < 4294967296 - r := by omega
            exact ⟨⟨p, r + 4294967295, g1, f2, g3, g4⟩, g5, ok_sub ⟨rfl, rfl, rfl, rfl, rfl, rfl, rfl, by show some (Value.int .u64 (((p + 1 : Nat) : Int) - 1)) = some (Value.int .u64 (p : Int)); rw [f3], rfl, trivial⟩ (List.nil_sublist _) fun _ h => h⟩
        · cases q with
          | zero => exfalso; omega
          | succ p =>
            have f2 : x * 4294967296 + v0 < (p + 1) * 18446744073709551608 := div_bigP isum hxY hv0l (Or.inr (by omega))
            have f3 : ((p + 1 : Nat) : Int) - 1 = (p : Int) := by omega
            have f1 : p * 18446744073709551608 ≤ x * 4294967296 + v0 := div_lowP isum (by omega) itop
            exact ⟨⟨p, f1, f2⟩, ok_sub ⟨rfl, rfl, rfl, rfl, rfl, by show some (Value.int .u64 (((p + 1 : Nat) : Int) - 1)) = some (Value.int .u64 (p : Int)); rw [f3], trivial⟩ (List.nil_sublist _) fun _ h => h⟩
        · cases q with
          | zero => exfalso; omega
          | succ p =>
            have f2 : x * 4294967296 + v0 < (p + 1) * 18446744073709551608 := div_bigP isum hxY hv0l (Or.inr (by omega))
            have f3 : ((p + 1 : Nat) : Int) - 1 = (p : Int) := by omega
            have g1 : p * 4294967295 + (r + 4294967295) = x := by rw [← isum, Nat.succ_mul, Nat.add_assoc, Nat.add_comm 4294967295 r]
            have g3 : p ≤ 4294967297 := by omega
            have g4 : r + 4294967295 < 4294967296 := by omega
            have g5 : 4294967296 - (r + 4294967295) < 4294967296 - r := by omega
            exact ⟨⟨p, r + 4294967295, g1, f2, g3, g4⟩, g5, ok_sub ⟨rfl, rfl, rfl, rfl, rfl, rfl, rfl, by show some (Value.int .u64 (((p + 1 : Nat) : Int) - 1)) = some (Value.int .u64 (p : Int)); rw [f3], rfl, trivial⟩ (List.nil_sublist _) fun _ h => h⟩
        · exact ⟨⟨q, by omega, by omega⟩, ok_sub ⟨rfl, rfl, rfl, rfl, rfl, rfl, trivial⟩ (List.nil_sublist _) fun _ h => h⟩
      · obtain ⟨q0, q0lo, q0hi⟩ := i
        simp only
        obtain ⟨y, hy, hyY⟩ : ∃ y : Nat, x * 4294967296 + v0 = q0 * 18446744073709551608 + y ∧ y < 18446744073709551608 := ⟨x * 4294967296 + v0 - q0 * 18446744073709551608, by omega, by omega⟩
        have h132 : Eqq (IntKind.u64.wrap (IntKind.u64.wrap (IntKind.u64.wrap ((x : Int) * 4294967296) + (v0 : Int)) - IntKind.u64.wrap ((q0 : Int) * 18446744073709551608))) (y : Int) := by
          unfold Eqq
          rw [u64_wr3, show (x : Int) * 4294967296 + (v0 : Int) - (q0 : Int) * 18446744073709551608 = (y : Int) by omega]
          omega
        have hq1 : Eqq (IntKind.u64.wrap (IntKind.u64.wrap ((q1 : Int) * 4294967296) + (q0 : Int))) ((q1 : Int) * 4294967296 + (q0 : Int)) := by unfold Eqq; rw [u64_in ((q1 : Int) * 4294967296) (by omega), u64_in _ (by omega)]
        repeat' (first | refine sy_sub (hc := h132) (h := ?_) | apply sw_nil | apply cw_seq | apply cw_reg | refine sy_move (h := ?_) | refine sy_assign (h := ?_) | refine sy_ld (h := ?_) | refine sy_ldAll (h := ?_) | refine sy_pick_t (h := ?_) | refine sy_pick_f (h := ?_) | refine sy_eql (h := ?_) | refine sy_leq (h := ?_) | refine sy_gtr (h := ?_) | refine sy_geq (h := ?_) | refine sy_seql (h := ?_) | refine sy_add (h := ?_) | refine sy_sub (h := ?_) | refine sw_skipT (h := ?_) | refine sw_skipF (h := ?_) | refine sw_skipU (h := ?_) | refine cw_cond_t (ht := ?_) | refine cw_cond_f (hf := ?_) | apply cw_skip | apply cw_block | apply cw_ret | apply cw_exit | refine sy_and (h := ?_) | refine sy_or (h := ?_) | refine sy_shl (h := ?_) | refine sy_shr (h := ?_) | refine sy_mul (h := ?_) | refine sy_int (h := ?_) | refine sy_beql (h := ?_) | refine sy_arrA (h := ?_) | refine sy_strI (h := ?_) | (fail))
        have h3 : Eqq (shrV .u64 (y : Int) 3) ((y / 8 : Nat) : Int) := shr_n y 8 (by kernel_rfl)
        have hx : u * 4294967296 + v1 = q1 * 18446744073709551608 + x := hxh
        have hU : V * 8 = u * 18446744073709551616 + (v1 * 4294967296 + v0) := hUh
        obtain ⟨hA, hB⟩ := div_mod_of (V := V) (M := 2305843009213693951) (Q := q1 * 4294967296 + q0) (z := y / 8) (by omega) (by omega)
        apply ends_ret; apply res_tmp2; rfl; rfl; rfl
        unfold Eqq at h3 hq1
        rw [hA, hB, h3, hq1, Int.natCast_add, Int.natCast_mul]
        rfl
theorem div_bigN {u v p r : Nat} (isum : (p + 1) * 4294967295 + r = u) (hu : u < 18446744073709551600) (hv : v < 4294967296) (h : 4294967296 ≤ p + 1 ∨ 4294967296 * r + v < (p + 1) * 4294967280) : u * 4294967296 + v < (p + 1) * 18446744073709551600 := by
  rcases h with h | h
  · exact Nat.lt_of_lt_of_le (show u * 4294967296 + v < 4294967296 * 18446744073709551600 by omega) (Nat.mul_le_mul_right 18446744073709551600 h)
  · have e : (p + 1) * 18446744073709551600 = (p + 1) * 4294967295 * 4294967296 + (p + 1) * 4294967280 := by rw [Nat.mul_assoc, ← Nat.mul_add]
    rw [e, ← isum, Nat.add_mul, Nat.add_assoc]
    exact Nat.add_lt_add_left (by rw [Nat.mul_comm r]; exact h) _
theorem div_lowN {u v p r : Nat} (isum : (p + 1) * 4294967295 + r = u) (hr : 4294967296 ≤ r + 4294967295) (itop : p + 1 ≤ 4294967297) : p * 18446744073709551600 ≤ u * 4294967296 + v := by
  have e : p * 18446744073709551600 = p * 4294967295 * 4294967296 + p * 4294967280 := by rw [Nat.mul_assoc, ← Nat.mul_add]
  have h1 : p * 4294967280 ≤ 4294967296 * 4294967296 := Nat.mul_le_mul (by omega) (by decide)
  have hu' : u = p * 4294967295 + (r + 4294967295) := by
    rw [← isum, Nat.succ_mul, Nat.add_assoc, Nat.add_comm 4294967295 r]
  rw [hu', Nat.add_mul, e, Nat.add_assoc]
  exact Nat.add_le_add_left (Nat.le_trans h1 (Nat.le_trans (Nat.mul_le_mul_right 4294967296 hr) (Nat.le_add_right _ _))) _
structure DivIN (u v : Nat) where
  q : Nat
  r : Nat
  sum : q * 4294967295 + r = u
  big : u * 4294967296 + v < (q + 1) * 18446744073709551600
  top : q ≤ 4294967297
  lim : r < 4294967296
structure DivEN (u v : Nat) where
  q : Nat
  lo : q * 18446744073709551600 ≤ u * 4294967296 + v
  hi : u * 4294967296 + v < (q + 1) * 18446744073709551600
set_option maxHeartbeats 4000000 in
set_option maxRecDepth 20000 in
theorem div64N (hi lo : Nat) (hhi : hi < 2305843009213693950) (hlo : lo < 18446744073709551616) :
    Pu Tryz.prog 156 #[.int .u64 (hi : Int), .int .u64 (lo : Int), .int .u64 2305843009213693950] (fun _ => True)
      (.tuple #[.int .u64 (((hi * 18446744073709551616 + lo) / 2305843009213693950 : Nat) : Int), .int .u64 (((hi * 18446744073709551616 + lo) % 2305843009213693950 : Nat) : Int)]) := by
  refine pu_of_cw (args := [_, _, _]) _ Tryz.func156 rfl Tryz.ntmps156 rfl fun av bor w0 => ?_
  have hz := lead_pu 16 (by decide)
  repeat' (first | apply sw_nil | apply cw_seq | apply cw_reg | refine sy_move (h := ?_) | refine sy_assign (h := ?_) | refine sy_ld (h := ?_) | refine sy_ldAll (h := ?_) | refine sy_pick_t (h := ?_) | refine sy_pick_f (h := ?_) | refine sy_eql (h := ?_) | refine sy_leq (h := ?_) | refine sy_gtr (h := ?_) | refine sy_geq (h := ?_) | refine sy_seql (h := ?_) | refine sy_add (h := ?_) | refine sy_sub (h := ?_) | refine sw_skipT (h := ?_) | refine sw_skipF (h := ?_) | refine sw_skipU (h := ?_) | refine cw_cond_t (ht := ?_) | refine cw_cond_f (hf := ?_) | apply cw_skip | apply cw_block | apply cw_ret | apply cw_exit | refine sy_and (h := ?_) | refine sy_or (h := ?_) | refine sy_shl (h := ?_) | refine sy_shr (h := ?_) | refine sy_mul (h := ?_) | refine sy_int (h := ?_) | refine sy_beql (h := ?_) | refine sy_arrA (h := ?_) | refine sy_strI (h := ?_) | (refine sw_pu (hc := hz) (hX := fun w h => h) (h := ?_)) | ((fail_if_success (refine sw_chk (h := ?_))); refine sw_guard (ht := ?_) (hf := ?_); all_goals (intro hx_; first | have := of_decide_eq_true hx_ | have := of_decide_eq_false hx_ | skip)) | (refine cw_cond (ht := ?_) (hf := ?_); all_goals (intro hx_; first | have := of_decide_eq_true hx_ | have := of_decide_eq_false hx_ | skip)))
  · exfalso; omega
  · exfalso; omega
  · have h0 : hi = 0 := by omega
    subst h0
    have e1 : IntKind.u64.wrap ((lo : Int).tdiv 2305843009213693950) = ((lo / 2305843009213693950 : Nat) : Int) := quo_n lo 2305843009213693950 hlo (by decide)
    have e2 : (lo : Int).tmod 2305843009213693950 = ((lo % 2305843009213693950 : Nat) : Int) := rem_n lo 2305843009213693950
    (refine cw_draw [] (fun _ => True) (by kernel_rfl) ?_)
    all_goals (refine aw_dtake 0 (h := ?_))
    all_goals (refine aw_dtake 1 (h := ?_))
    all_goals (first | refine aw_dtake 2 (h := ?_) | refine aw_dtake 2 (hy := by (first | (apply y_quo (c := ((lo / 2305843009213693950 : Nat) : Int)); rfl; rfl; decide; exact e1) | (apply y_rem (c := ((lo % 2305843009213693950 : Nat) : Int)); rfl; rfl; decide; exact e2))) (h := ?_))
    all_goals (refine aw_dtake 3 (h := ?_))
    all_goals (refine aw_dtake 4 (h := ?_))
    all_goals (first | refine aw_dtake 5 (h := ?_) | refine aw_dtake 5 (hy := by (first | (apply y_quo (c := ((lo / 2305843009213693950 : Nat) : Int)); rfl; rfl; decide; exact e1) | (apply y_rem (c := ((lo % 2305843009213693950 : Nat) : Int)); rfl; rfl; decide; exact e2))) (h := ?_))
    all_goals (refine aw_dtake 6 (h := ?_))
    all_goals (refine aw_dtake 7 (h := ?_))
    all_goals (refine aw_done (h := ?_))
    all_goals
      repeat' (first | apply sw_nil | apply cw_seq | apply cw_reg | refine sy_move (h := ?_) | refine sy_assign (h := ?_) | refine sy_ld (h := ?_) | refine sy_ldAll (h := ?_) | refine sy_pick_t (h := ?_) | refine sy_pick_f (h := ?_) | refine sy_eql (h := ?_) | refine sy_leq (h := ?_) | refine sy_gtr (h := ?_) | refine sy_geq (h := ?_) | refine sy_seql (h := ?_) | refine sy_add (h := ?_) | refine sy_sub (h := ?_) | refine sw_skipT (h := ?_) | refine sw_skipF (h := ?_) | refine sw_skipU (h := ?_) | refine cw_cond_t (ht := ?_) | refine cw_cond_f (hf := ?_) | apply cw_skip | apply cw_block | apply cw_ret | apply cw_exit | refine sy_and (h := ?_) | refine sy_or (h := ?_) | refine sy_shl (h := ?_) | refine sy_shr (h := ?_) | refine sy_mul (h := ?_) | refine sy_int (h := ?_) | refine sy_beql (h := ?_) | refine sy_arrA (h := ?_) | refine sy_strI (h := ?_))
      apply ends_ret; apply res_tmp2; rfl; rfl; rfl
      rw [Nat.zero_mul, Nat.zero_add]
  · have e3 : IntKind.u64.wrap 3 = 3 := by kernel_rfl
    have e61 : IntKind.u64.wrap (64 - 3) = 61 := by kernel_rfl
    have ey : shlV .u64 2305843009213693950 3 = 18446744073709551600 := by kernel_rfl
    have ey1 : shrV .u64 18446744073709551600 32 = 4294967295 := by kernel_rfl
    have ey0 : bitsV .and .u64 18446744073709551600 4294967295 = 4294967280 := by kernel_rfl
    have eh : shlV .u64 (hi : Int) 3 = ((hi * 8 : Nat) : Int) := by rw [shl3, Nat.mod_eq_of_lt (by omega)]
    have el : shrV .u64 (lo : Int) 61 = ((lo / 2305843009213693952 : Nat) : Int) := shr_n lo _ (by kernel_rfl)
    have eo : bitsV .or .u64 ((hi * 8 : Nat) : Int) ((lo / 2305843009213693952 : Nat) : Int) = ((hi * 8 + lo / 2305843009213693952 : Nat) : Int) := or3 hi _ (by omega) (by omega)
    have e10 : shlV .u64 (lo : Int) 3 = ((lo * 8 % 18446744073709551616 : Nat) : Int) := shl3 lo
    have hU : (hi * 18446744073709551616 + lo) * 8 = (hi * 8 + lo / 2305843009213693952) * 18446744073709551616 + lo * 8 % 18446744073709551616 := by omega
    have hu : hi * 8 + lo / 2305843009213693952 < 18446744073709551600 := by omega
    have hv : lo * 8 % 18446744073709551616 < 18446744073709551616 := Nat.mod_lt _ (by decide)
    simp only [e3, e61, ey, ey1, ey0, eh, el, eo, e10]
    clear e3 e61 ey ey1 ey0 eh el eo e10
    generalize hi * 8 + lo / 2305843009213693952 = u at *
    generalize lo * 8 % 18446744073709551616 = v at *
    have e1 : shrV .u64 (v : Int) 32 = ((v / 4294967296 : Nat) : Int) := shr_n v _ (by kernel_rfl)
    have e0 : bitsV .and .u64 (v : Int) 4294967295 = ((v % 4294967296 : Nat) : Int) := and32 v hv
    obtain ⟨v1, v0, hv1, hv0, hvv, hv1l, hv0l⟩ : ∃ v1 v0 : Nat, v / 4294967296 = v1 ∧ v % 4294967296 = v0 ∧ v = v1 * 4294967296 + v0 ∧ v1 < 4294967296 ∧ v0 < 4294967296 := ⟨_, _, rfl, rfl, by omega, by omega, by omega⟩
    simp only [e1, e0, hv1, hv0]
    clear e1 e0 hv1 hv0
    subst hvv
    obtain ⟨V, hV⟩ : ∃ V, hi * 18446744073709551616 + lo = V := ⟨_, rfl⟩
    rw [hV] at hU ⊢
    have hUh : Hid (V * 8 = u * 18446744073709551616 + (v1 * 4294967296 + v0)) := hU
    clear hU hV hv hhi hlo
    have hq1 : Eqq (IntKind.u64.wrap ((u : Int).tdiv 4294967295)) ((u / 4294967295 : Nat) : Int) := quo_n u 4294967295 (by omega) (by decide)
    repeat' (first | refine sy_quo (hb := by decide) (hc := hq1) (h := ?_) | refine sy_mul (hc := u64_in _ (by omega)) (h := ?_) | refine sy_sub (hc := u64_in _ (by omega)) (h := ?_) | apply sw_nil | apply cw_seq | apply cw_reg | refine sy_move (h := ?_) | refine sy_assign (h := ?_) | refine sy_ld (h := ?_) | refine sy_ldAll (h := ?_) | refine sy_pick_t (h := ?_) | refine sy_pick_f (h := ?_) | refine sy_eql (h := ?_) | refine sy_leq (h := ?_) | refine sy_gtr (h := ?_) | refine sy_geq (h := ?_) | refine sy_seql (h := ?_) | refine sy_add (h := ?_) | refine sy_sub (h := ?_) | refine sw_skipT (h := ?_) | refine sw_skipF (h := ?_) | refine sw_skipU (h := ?_) | refine cw_cond_t (ht := ?_) | refine cw_cond_f (hf := ?_) | apply cw_skip | apply cw_block | apply cw_ret | apply cw_exit | refine sy_and (h := ?_) | refine sy_or (h := ?_) | refine sy_shl (h := ?_) | refine sy_shr (h := ?_) | refine sy_mul (h := ?_) | refine sy_int (h := ?_) | refine sy_beql (h := ?_) | refine sy_arrA (h := ?_) | refine sy_strI (h := ?_) | ((fail_if_success (refine sw_chk (h := ?_))); refine sw_guard (ht := ?_) (hf := ?_); all_goals (intro hx_; first | have := of_decide_eq_true hx_ | have := of_decide_eq_false hx_ | skip)) | (refine cw_cond (ht := ?_) (hf := ?_); all_goals (intro hx_; first | have := of_decide_eq_true hx_ | have := of_decide_eq_false hx_ | skip)))
    refine cw_meetG (ι := DivEN u v1) (fun i => ⟨[(2, .int .u64 18446744073709551600), (8, .int .u64 3), (9, .int .u64 4294967295), (10, .int .u64 4294967280), (11, .int .u64 (u : Nat)), (13, .int .u64 (v1 : Int)), (14, .int .u64 (v0 : Int)), (15, .int .u64 (i.q : Nat))], [], fun _ => True⟩) ?_ fun i => ?_
    · refine cw_loop (ι := DivIN u v1) (fun i => ⟨[(2, .int .u64 18446744073709551600), (8, .int .u64 3), (9, .int .u64 4294967295), (10, .int .u64 4294967280), (11, .int .u64 (u : Nat)), (13, .int .u64 (v1 : Int)), (14, .int .u64 (v0 : Int)), (15, .int .u64 (i.q : Nat)), (16, .int .u64 (i.r : Nat))], [], fun _ => True⟩) (fun i => 4294967296 - i.r) ⟨u / 4294967295, u % 4294967295, by omega, by omega, by omega, by omega⟩
        (ok_sub ⟨rfl, rfl, rfl, rfl, rfl, rfl, rfl, rfl, by show some (Value.int .u64 ((u : Int) - ((u / 4294967295 : Nat) : Int) * 4294967295)) = some (Value.int .u64 ((u % 4294967295 : Nat) : Int)); congr 2; omega, trivial⟩ (List.nil_sublist _) fun _ h => h) fun i => ?_
      obtain ⟨q, r, isum, ibig, itop, ilim⟩ := i
      simp only
      repeat' (first | refine sy_mul (hc := u64_in _ (by omega)) (h := ?_) | refine sy_sub (hc := u64_in _ (by omega)) (h := ?_) | refine sy_add (hc := u64_in _ (by omega)) (h := ?_) | apply sw_nil | apply cw_seq | apply cw_reg | refine sy_move (h := ?_) | refine sy_assign (h := ?_) | refine sy_ld (h := ?_) | refine sy_ldAll (h := ?_) | refine sy_pick_t (h := ?_) | refine sy_pick_f (h := ?_) | refine sy_eql (h := ?_) | refine sy_leq (h := ?_) | refine sy_gtr (h := ?_) | refine sy_geq (h := ?_) | refine sy_seql (h := ?_) | refine sy_add (h := ?_) | refine sy_sub (h := ?_) | refine sw_skipT (h := ?_) | refine sw_skipF (h := ?_) | refine sw_skipU (h := ?_) | refine cw_cond_t (ht := ?_) | refine cw_cond_f (hf := ?_) | apply cw_skip | apply cw_block | apply cw_ret | apply cw_exit | refine sy_and (h := ?_) | refine sy_or (h := ?_) | refine sy_shl (h := ?_) | refine sy_shr (h := ?_) | refine sy_mul (h := ?_) | refine sy_int (h := ?_) | refine sy_beql (h := ?_) | refine sy_arrA (h := ?_) | refine sy_strI (h := ?_) | ((fail_if_success (refine sw_chk (h := ?_))); refine sw_guard (ht := ?_) (hf := ?_); all_goals (intro hx_; first | have := of_decide_eq_true hx_ | have := of_decide_eq_false hx_ | skip)) | (refine cw_cond (ht := ?_) (hf := ?_); all_goals (intro hx_; first | have := of_decide_eq_true hx_ | have := of_decide_eq_false hx_ | skip)))
      · cases q with
        | zero => exfalso; omega
        | succ p =>
          have f2 : u * 4294967296 + v1 < (p + 1) * 18446744073709551600 := div_bigN isum hu hv1l (Or.inl (by omega))
          have f3 : ((p + 1 : Nat) : Int) - 1 = (p : Int) := by omega
          have f1 : p * 18446744073709551600 ≤ u * 4294967296 + v1 := div_lowN isum (by omega) itop
          exact ⟨⟨p, f1, f2⟩, ok_sub ⟨rfl, rfl, rfl, rfl, rfl, rfl, rfl, by show some (Value.int .u64 (((p + 1 : Nat) : Int) - 1)) = some (Value.int .u64 (p : Int)); rw [f3], trivial⟩ (List.nil_sublist _) fun _ h => h⟩
      · cases q with
        | zero => exfalso; omega
        | succ p =>
          have f2 : u * 4294967296 + v1 < (p + 1) * 18446744073709551600 := div_bigN isum hu hv1l (Or.inl (by omega))
          have f3 : ((p + 1 : Nat) : Int) - 1 = (p : Int) := by omega
          have g1 : p * 4294967295 + (r + 4294967295) = u := by rw [← isum, Nat.succ_mul, Nat.add_assoc, Nat.add_comm 4294967295 r]
          have g3 : p ≤ 4294967297 := by omega
          have g4 : r + 4294967295 < 4294967296 := by omega
          have g5 : 4294967296 - (r + 4294967295) < 4294967296 - r := by omega
          exact ⟨⟨p, r + 4294967295, g1, f2, g3, g4⟩, g5, ok_sub ⟨rfl, rfl, rfl, rfl, rfl, rfl, rfl, by show some (Value.int .u64 (((p + 1 : Nat) : Int) - 1)) = some (Value.int .u64 (p : Int)); rw [f3], rfl, trivial⟩ (List.nil_sublist _) fun _ h => h⟩
      · cases q with
        | zero => exfalso; omega
        | succ p =>
          have f2 : u * 4294967296 + v1 < (p + 1) * 18446744073709551600 := div_bigN isum hu hv1l (Or.inr (by omega))
          have f3 : ((p + 1 : Nat) : Int) - 1 = (p : Int) := by omega
          have f1 : p * 18446744073709551600 ≤ u * 4294967296 + v1 := div_lowN isum (by omega) itop
          exact ⟨⟨p, f1, f2⟩, ok_sub ⟨rfl, rfl, rfl, rfl, rfl, rfl, rfl, by show some (Value.int .u64 (((p + 1 : Nat) : Int) - 1)) = some (Value.int .u64 (p : Int)); rw [f3], trivial⟩ (List.nil_sublist _) fun _ h => h⟩
      · cases q with
        | zero => exfalso; omega
        | succ p =>
          have f2 : u * 4294967296 + v1 < (p + 1) * 18446744073709551600 := div_bigN isum hu hv1l (Or.inr (by omega))
          have f3 : ((p + 1 : Nat) : Int) - 1 = (p : Int) := by omega
          have g1 : p * 4294967295 + (r + 4294967295) = u := by rw [← isum, Nat.succ_mul, Nat.add_assoc, Nat.add_comm 4294967295 r]
          have g3 : p ≤ 4294967297 := by omega
          have g4 : r + 4294967295 < 4294967296 := by omega
          have g5 : 4294967296 - (r + 4294967295) < 4294967296 - r := by omega
          exact ⟨⟨p, r + 4294967295, g1, f2, g3, g4⟩, g5, ok_sub ⟨rfl, rfl, rfl, rfl, rfl, rfl, rfl, by show some (Value.int .u64 (((p + 1 : Nat) : Int) - 1)) = some (Value.int .u64 (p : Int)); rw [f3], rfl, trivial⟩ (List.nil_sublist _) fun _ h => h⟩
      · exact ⟨⟨q, by omega, by omega⟩, ok_sub ⟨rfl, rfl, rfl, rfl, rfl, rfl, rfl, rfl, trivial⟩ (List.nil_sublist _) fun _ h => h⟩
    · obtain ⟨q1, q1lo, q1hi⟩ := i
      simp only
      obtain ⟨x, hx, hxY⟩ : ∃ x : Nat, u * 4294967296 + v1 = q1 * 18446744073709551600 + x ∧ x < 18446744073709551600 := ⟨u * 4294967296 + v1 - q1 * 18446744073709551600, by omega, by omega⟩
      have h17 : Eqq (IntKind.u64.wrap (IntKind.u64.wrap (IntKind.u64.wrap ((u : Int) * 4294967296) + (v1 : Int)) - IntKind.u64.wrap ((q1 : Int) * 18446744073709551600))) (x : Int) := by
        unfold Eqq
        rw [u64_wr3, show (u : Int) * 4294967296 + (v1 : Int) - (q1 : Int) * 18446744073709551600 = (x : Int) by omega]
        omega
      have hq0 : Eqq (IntKind.u64.wrap ((x : Int).tdiv 4294967295)) ((x / 4294967295 : Nat) : Int) := quo_n x 4294967295 (by omega) (by decide)
      have hq1l : q1 < 4294967296 := by omega
      repeat' (first | refine sy_sub (hc := h17) (h := ?_) | refine sy_mul (hc := rfl) (h := ?_) | refine sy_add (hc := rfl) (h := ?_) | apply sw_nil | apply cw_seq | apply cw_reg | refine sy_move (h := ?_) | refine sy_assign (h := ?_) | refine sy_ld (h := ?_) | refine sy_ldAll (h := ?_) | refine sy_pick_t (h := ?_) | refine sy_pick_f (h := ?_) | refine sy_eql (h := ?_) | refine sy_leq (h := ?_) | refine sy_gtr (h := ?_) | refine sy_geq (h := ?_) | refine sy_seql (h := ?_) | refine sy_add (h := ?_) | refine sy_sub (h := ?_) | refine sw_skipT (h := ?_) | refine sw_skipF (h := ?_) | refine sw_skipU (h := ?_) | refine cw_cond_t (ht := ?_) | refine cw_cond_f (hf := ?_) | apply cw_skip | apply cw_block | apply cw_ret | apply cw_exit | refine sy_and (h := ?_) | refine sy_or (h := ?_) | refine sy_shl (h := ?_) | refine sy_shr (h := ?_) | refine sy_mul (h := ?_) | refine sy_int (h := ?_) | refine sy_beql (h := ?_) | refine sy_arrA (h := ?_) | refine sy_strI (h := ?_) | (fail))
      clear h17
      repeat' (first | refine sy_quo (hb := by decide) (hc := hq0) (h := ?_) | refine sy_mul (hc := u64_in _ (by omega)) (h := ?_) | refine sy_sub (hc := u64_in _ (by omega)) (h := ?_) | apply sw_nil | apply cw_seq | apply cw_reg | refine sy_move (h := ?_) | refine sy_assign (h := ?_) | refine sy_ld (h := ?_) | refine sy_ldAll (h := ?_) | refine sy_pick_t (h := ?_) | refine sy_pick_f (h := ?_) | refine sy_eql (h := ?_) | refine sy_leq (h := ?_) | refine sy_gtr (h := ?_) | refine sy_geq (h := ?_) | refine sy_seql (h := ?_) | refine sy_add (h := ?_) | refine sy_sub (h := ?_) | refine sw_skipT (h := ?_) | refine sw_skipF (h := ?_) | refine sw_skipU (h := ?_) | refine cw_cond_t (ht := ?_) | refine cw_cond_f (hf := ?_) | apply cw_skip | apply cw_block | apply cw_ret | apply cw_exit | refine sy_and (h := ?_) | refine sy_or (h := ?_) | refine sy_shl (h := ?_) | refine sy_shr (h := ?_) | refine sy_mul (h := ?_) | refine sy_int (h := ?_) | refine sy_beql (h := ?_) | refine sy_arrA (h := ?_) | refine sy_strI (h := ?_) | ((fail_if_success (refine sw_chk (h := ?_))); refine sw_guard (ht := ?_) (hf := ?_); all_goals (intro hx_; first | have := of_decide_eq_true hx_ | have := of_decide_eq_false hx_ | skip)) | (refine cw_cond (ht := ?_) (hf := ?_); all_goals (intro hx_; first | have := of_decide_eq_true hx_ | have := of_decide_eq_false hx_ | skip)))
      have hxh : Hid (u * 4294967296 + v1 = q1 * 18446744073709551600 + x) := hx
      clear hx q1lo q1hi hu
      refine cw_meetG (ι := DivEN x v0) (fun i => ⟨[(2, .int .u64 18446744073709551600), (8, .int .u64 3), (14, .int .u64 (v0 : Int)), (15, .int .u64 (q1 : Nat)), (17, .int .u64 (x : Nat)), (18, .int .u64 (i.q : Nat))], [], fun _ => True⟩) ?_ fun i => ?_
      · refine cw_loop (ι := DivIN x v0) (fun i => ⟨[(2, .int .u64 18446744073709551600), (8, .int .u64 3), (9, .int .u64 4294967295), (10, .int .u64 4294967280), (14, .int .u64 (v0 : Int)), (15, .int .u64 (q1 : Nat)), (17, .int .u64 (x : Nat)), (18, .int .u64 (i.q : Nat)), (16, .int .u64 (i.r : Nat))], [], fun _ => True⟩) (fun i => 4294967296 - i.r) ⟨x / 4294967295, x % 4294967295, by omega, by omega, by omega, by omega⟩
          (ok_sub ⟨rfl, rfl, rfl, rfl, rfl, rfl, rfl, rfl, by show some (Value.int .u64 ((x : Int) - ((x / 4294967295 : Nat) : Int) * 4294967295)) = some (Value.int .u64 ((x % 4294967295 : Nat) : Int)); congr 2; omega, trivial⟩ (List.nil_sublist _) fun _ h => h) fun i => ?_
        obtain ⟨q, r, isum, ibig, itop, ilim⟩ := i
        simp only
        repeat' (first | refine sy_mul (hc := u64_in _ (by omega)) (h := ?_) | refine sy_sub (hc := u64_in _ (by omega)) (h := ?_) | refine sy_add (hc := u64_in _ (by omega)) (h := ?_) | apply sw_nil | apply cw_seq | apply cw_reg | refine sy_move (h := ?_) | refine sy_assign (h := ?_) | refine sy_ld (h := ?_) | refine sy_ldAll (h := ?_) | refine sy_pick_t (h := ?_) | refine sy_pick_f (h := ?_) | refine sy_eql (h := ?_) | refine sy_leq (h := ?_) | refine sy_gtr (h := ?_) | refine sy_geq (h := ?_) | refine sy_seql (h := ?_) | refine sy_add (h := ?_) | refine sy_sub (h := ?_) | refine sw_skipT (h := ?_) | refine sw_skipF (h := ?_) | refine sw_skipU (h := ?_) | refine cw_cond_t (ht := ?_) | refine cw_cond_f (hf := ?_) | apply cw_skip | apply cw_block | apply cw_ret | apply cw_exit | refine sy_and (h := ?_) | refine sy_or (h := ?_) | refine sy_shl (h := ?_) | refine sy_shr (h := ?_) | refine sy_mul (h := ?_) | refine sy_int (h := ?_) | refine sy_beql (h := ?_) | refine sy_arrA (h := ?_) | refine sy_strI (h := ?_) | ((fail_if_success (refine sw_chk (h := ?_))); refine sw_guard (ht := ?_) (hf := ?_); all_goals (intro hx_; first | have := of_decide_eq_true hx_ | have := of_decide_eq_false hx_ | skip)) | (refine cw_cond (ht := ?_) (hf := ?_); all_goals (intro hx_; first | have := of_decide_eq_true hx_ | have := of_decide_eq_false hx_ | skip)))
        · cases q with
          | zero => exfalso; omega
          | succ p =>
            have f2 : x * 4294967296 + v0 < (p + 1) * 18446744073709551600 := div_bigN isum hxY hv0l (Or.inl (by omega))
            have f3 : ((p + 1 : Nat) : Int) - 1 = (p : Int) := by omega
            have f1 : p * 18446744073709551600 ≤ x * 4294967296 + v0 := div_lowN isum (by omega) itop
            exact ⟨⟨p, f1, f2⟩, ok_sub ⟨rfl, rfl, rfl, rfl, rfl, by show some (Value.int .u64 (((p + 1 : Nat) : Int) - 1)) = some (Value.int .u64 (p : Int)); rw [f3], trivial⟩ (List.nil_sublist _) fun _ h => h⟩
        · cases q with
          | zero => exfalso; omega
          | succ p =>
            have f2 : x * 4294967296 + v0 < (p + 1) * 18446744073709551600 := div_bigN isum hxY hv0l (Or.inl (by omega))
            have f3 : ((p + 1 : Nat) : Int) - 1 = (p : Int) := by omega
            have g1 : p * 4294967295 + (r + 4294967295) = x := by rw [← isum, Nat.succ_mul, Nat.add_assoc, Nat.add_comm 4294967295 r]
            have g3 : p ≤ 4294967297 := by omega
            have g4 : r + 4294967295 < 4294967296 := by omega
            have g5 : 4294967296 - (r + 4294967295) < 4294967296 - r := by omega
            exact ⟨⟨p, r + 4294967295, g1, f2, g3, g4⟩, g5, ok_sub ⟨rfl, rfl, rfl, rfl, rfl, rfl, rfl, by show some (Value.int .u64 (((p + 1 : Nat) : Int) - 1)) = some (Value.int .u64 (p : Int)); rw [f3], rfl, trivial⟩ (List.nil_sublist _) fun _ h => h⟩
        · cases q with
          | zero => exfalso; omega
          | succ p =>
            have f2 : x * 4294967296 + v0 < (p + 1) * 18446744073709551600 := div_bigN isum hxY hv0l (Or.inr (by omega))
            have f3 : ((p + 1 : Nat) : Int) - 1 = (p : Int) := by omega
            have f1 : p * 18446744073709551600 ≤ x * 4294967296 + v0 := div_lowN isum (by omega) itop
            exact ⟨⟨p, f1, f2⟩, ok_sub ⟨rfl, rfl, rfl, rfl, rfl, by show some (Value.int .u64 (((p + 1 : Nat) : Int) - 1)) = some (Value.int .u64 (p : Int)); rw [f3], trivial⟩ (List.nil_sublist _) fun _ h => h⟩
        · cases q with
          | zero => exfalso; omega
          | succ p =>
            have f2 : x * 4294967296 + v0 < (p + 1) * 18446744073709551600 := div_bigN isum hxY hv0l (Or.inr (by omega))
            have f3 : ((p + 1 : Nat) : Int) - 1 = (p : Int) := by omega
            have g1 : p * 4294967295 + (r + 4294967295) = x := by rw [← isum, Nat.succ_mul, Nat.add_assoc, Nat.add_comm 4294967295 r]
            have g3 : p ≤ 4294967297 := by omega
            have g4 : r + 4294967295 < 4294967296 := by omega
            have g5 : 4294967296 - (r + 4294967295) < 4294967296 - r := by omega
            exact ⟨⟨p, r + 4294967295, g1, f2, g3, g4⟩, g5, ok_sub ⟨rfl, rfl, rfl, rfl, rfl, rfl, rfl, by show some (Value.int .u64 (((p + 1 : Nat) : Int) - 1)) = some (Value.int .u64 (p : Int)); rw [f3], rfl, trivial⟩ (List.nil_sublist _) fun _ h => h⟩
        · exact ⟨⟨q, by omega, by omega⟩, ok_sub ⟨rfl, rfl, rfl, rfl, rfl, rfl, trivial⟩ (List.nil_sublist _) fun _ h => h⟩
      · obtain ⟨q0, q0lo, q0hi⟩ := i
        simp only
        obtain ⟨y, hy, hyY⟩ : ∃ y : Nat, x * 4294967296 + v0 = q0 * 18446744073709551600 + y ∧ y < 18446744073709551600 := ⟨x * 4294967296 + v0 - q0 * 18446744073709551600, by omega, by omega⟩
        have h132 : Eqq (IntKind.u64.wrap (IntKind.u64.wrap (IntKind.u64.wrap ((x : Int) * 4294967296) + (v0 : Int)) - IntKind.u64.wrap ((q0 : Int) * 18446744073709551600))) (y : Int) := by
          unfold Eqq
          rw [u64_wr3, show (x : Int) * 4294967296 + (v0 : Int) - (q0 : Int) * 18446744073709551600 = (y : Int) by omega]
          omega
        have hq1 : Eqq (IntKind.u64.wrap (IntKind.u64.wrap ((q1 : Int) * 4294967296) + (q0 : Int))) ((q1 : Int) * 4294967296 + (q0 : Int)) := by unfold Eqq; rw [u64_in ((q1 : Int) * 4294967296) (by omega), u64_in _ (by omega)]
        repeat' (first | refine sy_sub (hc := h132) (h := ?_) | apply sw_nil | apply cw_seq | apply cw_reg | refine sy_move (h := ?_) | refine sy_assign (h := ?_) | refine sy_ld (h := ?_) | refine sy_ldAll (h := ?_) | refine sy_pick_t (h := ?_) | refine sy_pick_f (h := ?_) | refine sy_eql (h := ?_) | refine sy_leq (h := ?_) | refine sy_gtr (h := ?_) | refine sy_geq (h := ?_) | refine sy_seql (h := ?_) | refine sy_add (h := ?_) | refine sy_sub (h := ?_) | refine sw_skipT (h := ?_) | refine sw_skipF (h := ?_) | refine sw_skipU (h := ?_) | refine cw_cond_t (ht := ?_) | refine cw_cond_f (hf := ?_) | apply cw_skip | apply cw_block | apply cw_ret | apply cw_exit | refine sy_and (h := ?_) | refine sy_or (h := ?_) | refine sy_shl (h := ?_) | refine sy_shr (h := ?_) | refine sy_mul (h := ?_) | refine sy_int (h := ?_) | refine sy_beql (h := ?_) | refine sy_arrA (h := ?_) | refine sy_strI (h := ?_) | (fail))
        have h3 : Eqq (shrV .u64 (y : Int) 3) ((y / 8 : Nat) : Int) := shr_n y 8 (by kernel_rfl)
        have hx : u * 4294967296 + v1 = q1 * 18446744073709551600 + x := hxh
        have hU : V * 8 = u * 18446744073709551616 + (v1 * 4294967296 + v0) := hUh
        obtain ⟨hA, hB⟩ := div_mod_of (V := V) (M := 2305843009213693950) (Q := q1 * 4294967296 + q0) (z := y / 8) (by omega) (by omega)
        apply ends_ret; apply res_tmp2; rfl; rfl; rfl
        unfold Eqq at h3 hq1
        rw [hA, hB, h3, hq1, Int.natCast_add, Int.natCast_mul]
        rfl
end Go.Proofs.YtepckpofhegmiaaGreatDoor
