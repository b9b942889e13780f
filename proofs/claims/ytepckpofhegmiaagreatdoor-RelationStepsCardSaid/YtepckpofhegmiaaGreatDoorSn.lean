/- Contracts: sum.Num, strings.Join, sign.hash, reduce, challenge. -/
import Derived.Test.YtepckpofhegmiaaGreatDoorGe
import Derived.Test.YtepckpofhegmiaaGreatDoorHc
import Derived.Test.YtepckpofhegmiaaGreatDoorMf
import Derived.Shelf.Strings.OnBuilder
set_option linter.unusedVariables false
set_option linter.unusedSimpArgs false
namespace Go.Proofs.YtepckpofhegmiaaGreatDoor
open Go Go.Proofs Sy Go.Shelf Go.RowKit
/-- The number of the first k bytes. -/
def numF (l : List Nat) : Nat → Nat
  | 0 => 0
  | k + 1 => numF l k * 256 + l.getD k 0
def numN (l : List Nat) : Nat := numF l 8 / 8
theorem numF_lt (s : ByteArray) : ∀ k, numF (nl s) k < 256 ^ k
  | 0 => by simp [numF]
  | k + 1 => by
    have h1 := numF_lt s k
    have h2 := getD_lt (nl_lt s) k
    rw [numF, Nat.pow_succ]
    omega
theorem numF7 (s : ByteArray) {k : Nat} (hk : k < 8) : numF (nl s) k < 72057594037927936 := by
  have h1 := numF_lt s k
  have h2 : 256 ^ k ≤ 256 ^ 7 := Nat.pow_le_pow_right (by decide) (by omega)
  have h3 : (256 : Nat) ^ 7 = 72057594037927936 := by decide
  omega
theorem numF8 (s : ByteArray) {k : Nat} (hk : k < 8) : numF (nl s) k * 256 < 18446744073709551616 := by
  have h1 := numF_lt s k
  have h2 : 256 ^ k ≤ 256 ^ 7 := Nat.pow_le_pow_right (by decide) (by omega)
  have h3 : (256 : Nat) ^ 7 = 72057594037927936 := by decide
  omega
theorem shl8 (x : Nat) (h : x * 256 < 18446744073709551616) : shlV .u64 (x : Int) 8 = ((x * 256 : Nat) : Int) := by
  show IntKind.u64.wrap ((x : Int) * 2 ^ (min (8 : Int).toNat 64)) = _
  rw [show ((2 : Int) ^ (min (8 : Int).toNat 64)) = 256 from by kernel_rfl, u64_in _ (by omega)]
  omega
theorem or8 (x b : Nat) (hb : b < 256) (h : x < 72057594037927936) : bitsV .or .u64 ((x * 256 : Nat) : Int) (b : Int) = ((x * 256 + b : Nat) : Int) := by
  have hx : x * 256 + b < 18446744073709551616 := by omega
  have hy : x * 256 < 18446744073709551616 := Nat.lt_of_le_of_lt (Nat.le_add_right _ _) hx
  have hz : b < 18446744073709551616 := by omega
  have hw : IntKind.u64.wrap ((x * 256 + b : Nat) : Int) = ((x * 256 + b : Nat) : Int) := u64_in _ (by omega)
  have e : x * 256 ||| b = x * 256 + b := by
    have := Nat.shiftLeft_add_eq_or_of_lt (a := x) (b := b) (i := 8) hb
    rw [Nat.shiftLeft_eq] at this
    exact this.symm
  show IntKind.u64.wrap ((((BitVec.ofInt 64 ((x * 256 : Nat) : Int)) ||| (BitVec.ofInt 64 (b : Int))).toNat : Nat) : Int) = _
  rw [BitVec.ofInt_natCast, BitVec.ofInt_natCast, BitVec.toNat_or, BitVec.toNat_ofNat, BitVec.toNat_ofNat, Nat.mod_eq_of_lt (show x * 256 < 2 ^ 64 from hy), Nat.mod_eq_of_lt (show b < 2 ^ 64 from hz), e, hw]
theorem shr3 (x : Nat) : shrV .u64 (x : Int) 3 = ((x / 8 : Nat) : Int) := by
  show (x : Int).fdiv (2 ^ (min (3 : Int).toNat 64)) = _
  rw [show ((2 : Int) ^ (min (3 : Int).toNat 64)) = ((8 : Nat) : Int) from by kernel_rfl, ← Int.ofNat_fdiv]
theorem byte_nl (s : ByteArray) (k : Nat) (hk : k < s.size) : byteAt s k = (((nl s).getD k 0 : Nat) : Int) := by
  simp only [byteAt, nl, List.getD_eq_getElem?_getD, List.getElem?_map]
  have hl : k < s.data.toList.length := by simpa using hk
  rw [List.getElem?_eq_getElem hl]
  rfl
theorem sumNum_pu (s : ByteArray) : Pu Tryz.prog 109 #[.string s] (fun _ => True) (.int .i64 (numN (nl s) : Nat)) := by
  refine pu_of_cw (args := [_]) _ Tryz.func109 rfl Tryz.ntmps109 rfl fun av bor w0 => ?_
  repeat' (first | apply sw_nil | apply cw_seq | apply cw_reg | refine sy_move (h := ?_) | refine sy_assign (h := ?_) | refine sy_lss (h := ?_) | refine sy_slen (h := ?_) | refine sy_len (h := ?_) | refine sy_add (h := ?_) | refine cw_cond_t (ht := ?_) | refine cw_cond_f (hf := ?_) | apply cw_skip | apply cw_block | apply cw_ret | apply cw_exit | refine sy_or (h := ?_) | refine sy_shl (h := ?_) | refine sy_shr (h := ?_) | refine sy_int (h := ?_) | refine sy_arrA (h := ?_) | refine sy_strI (h := ?_) | (refine cw_cond (ht := ?_) (hf := ?_); all_goals (intro hx_; first | have := of_decide_eq_true hx_ | have := of_decide_eq_false hx_ | skip)))
  refine cw_loop (ι := Kth 8) (fun i => ⟨[(0, .string s), (3, .int .u64 (numF (nl s) i.k : Nat)), (5, .int .i64 i.k)], [], fun _ => True⟩) (fun i => 8 - i.k) ⟨0, Nat.zero_le _⟩ (ok_sub ⟨rfl, rfl, rfl, trivial⟩ (List.Sublist.refl _) fun _ h => h) fun i => ?_
  have hik := i.hk
  repeat' (first | apply sw_nil | apply cw_seq | apply cw_reg | refine sy_move (h := ?_) | refine sy_assign (h := ?_) | refine sy_lss (h := ?_) | refine sy_slen (h := ?_) | refine sy_len (h := ?_) | refine sy_add (h := ?_) | refine cw_cond_t (ht := ?_) | refine cw_cond_f (hf := ?_) | apply cw_skip | apply cw_block | apply cw_ret | apply cw_exit | refine sy_or (h := ?_) | refine sy_shl (h := ?_) | refine sy_shr (h := ?_) | refine sy_int (h := ?_) | refine sy_arrA (h := ?_) | refine sy_strI (h := ?_) | (refine cw_cond (ht := ?_) (hf := ?_); all_goals (intro hx_; first | have := of_decide_eq_true hx_ | have := of_decide_eq_false hx_ | skip)))
  · have hlt : i.k < 8 := by omega
    have hs : i.k < s.size := by omega
    have hb := getD_lt (nl_lt s) i.k
    have hE : bitsV .or .u64 (shlV .u64 ((numF (nl s) i.k : Nat) : Int) 8) (IntKind.u64.wrap (byteAt s (i.k : Int).toNat)) = ((numF (nl s) (i.k + 1) : Nat) : Int) := by
      rw [shl8 _ (numF8 s hlt), show ((i.k : Int)).toNat = i.k from rfl, byte_nl s _ hs, u64_in _ (by omega), or8 _ _ hb (numF7 s hlt)]
      rfl
    exact ⟨⟨i.k + 1, hlt⟩, (by show 8 - (i.k + 1) < 8 - i.k; omega), ok_sub ⟨rfl, congrArg (fun z => some (Value.int IntKind.u64 z)) hE, rfl, trivial⟩ (List.Sublist.refl _) fun _ h => h⟩
  · have hlt : i.k < 8 := by omega
    have hs : s.size ≤ i.k := by omega
    have hE : shlV .u64 ((numF (nl s) i.k : Nat) : Int) 8 = ((numF (nl s) (i.k + 1) : Nat) : Int) := by
      rw [shl8 _ (numF8 s hlt), numF, List.getD_eq_getElem?_getD, List.getElem?_eq_none (by rw [nl_len]; exact hs), Option.getD_none, Nat.add_zero]
    exact ⟨⟨i.k + 1, hlt⟩, (by show 8 - (i.k + 1) < 8 - i.k; omega), ok_sub ⟨rfl, congrArg (fun z => some (Value.int IntKind.u64 z)) hE, rfl, trivial⟩ (List.Sublist.refl _) fun _ h => h⟩
  · have h8 : i.k = 8 := by omega
    apply ends_ret; apply res_tmp; rfl; rfl
    have hl := numF_lt s 8
    have hp : (256 : Nat) ^ 8 = 18446744073709551616 := by decide
    rw [h8, shr3, IntWalk.i64_in _ (by omega)]
    rfl
theorem numN_lt (s : ByteArray) : numN (nl s) < 2305843009213693952 := by
  have hl := numF_lt s 8
  have hp : (256 : Nat) ^ 8 = 18446744073709551616 := by decide
  rw [numN]
  omega

/-! strings.Join, sign.hash -/
def catB (l : List ByteArray) : ByteArray := l.foldr (fun a b => a ++ b) ⟨#[]⟩
theorem nl_cat : ∀ l : List ByteArray, nl (catB l) = l.flatMap nl
  | [] => rfl
  | a :: l => by
    show nl (a ++ catB l) = _
    rw [nl_append, nl_cat l, List.flatMap_cons]
def PartsAt (b T : Nat) (xs : List ByteArray) (w : World) : Prop := w.heap[b]? = some (.cells (xs.map Value.string).toArray T (0, 0))
theorem pu_of_below {P : Program} {f : FuncId} {args : Array Value} {X : World → Prop} {v : Value} (h : ∀ w, X w → Calls P f args w fun e w' => e = .returned v ∧ Below w.heap.size w w') : Pu P f args X v := by
  unfold Pu
  exact Ct.mk fun w av G => (h w G.keep.now).mono fun e w' ⟨he, hw⟩ => ⟨v, [], X, he, ⟨rfl, rfl⟩, Gam.later G hw⟩
theorem joinX : Builder.Extra Tryz.prog Tryz.join_ren where
  sizeBuilder := by kernel_rfl
  liesBuilder := by kernel_rfl
  t5 := by kernel_rfl
  a5 := fun w => by simp [isAgg, run_underlying (show Tryz.prog.underlying (Tryz.join_ren.t 5) = some (.int .u8) from by kernel_rfl)]
  z5 := fun w => Sy.run_sizeOf (P := Tryz.prog) (t := Tryz.join_ren.t 5) (n := 1) (by kernel_rfl) w
  v5 := fun w => run_zero (show zeroOf Tryz.prog (Tryz.join_ren.t 5) = some (.int .u8 0) from by kernel_rfl) w
  infoByte := by kernel_rfl
  cellsByte := by kernel_rfl
  sizeByte := by kernel_rfl
  neB5 := by decide
theorem join_none (l : List (List UInt8)) : Lib.join l [] = l.flatten := by
  rw [Lib.join, List.intercalate]
  induction l with
  | nil => rfl
  | cons a l ih =>
    cases l with
    | nil => simp
    | cons b l => simpa using ih
theorem cat_eq (xs : List ByteArray) : (⟨(Lib.join (xs.map (·.data.toList)) (⟨#[]⟩ : ByteArray).data.toList).toArray⟩ : ByteArray) = catB xs := by
  have e : (⟨#[]⟩ : ByteArray).data.toList = [] := rfl
  rw [e, join_none]
  apply nl_inj
  rw [nl_cat]
  simp [nl, List.map_flatten, List.flatMap_def, Function.comp_def]
  rfl
theorem catB_size (xs : List ByteArray) : (catB xs).size = (xs.map ByteArray.size).sum := by
  induction xs with
  | nil => rfl
  | cons a l ih =>
    show (a ++ catB l).size = _
    rw [ByteArray.size_append, ih, List.map_cons, List.sum_cons]
theorem join_pu (b T c : Nat) (xs : List ByteArray) (hc : xs.length ≤ c) (hn : xs.length ≤ 1000) (hs : (catB xs).size ≤ 1099511627776) : Pu Tryz.prog 110 #[.slice (some ⟨b, 0, none⟩) xs.length c, .string ⟨#[]⟩] (PartsAt b T xs) (.string (catB xs)) :=
  pu_of_below fun w h => by
    have hcell : ∀ (j : Nat) x, xs[j]? = some x → w.cell? ⟨b, 0 + j, none⟩ = some (.string x) := fun j x hj => by
      simp [World.cell?, show w.heap[b]? = _ from h, hj]
    have hl : (Lib.join (xs.map (·.data.toList)) (⟨#[]⟩ : ByteArray).data.toList).length = (catB xs).size := by
      rw [← cat_eq xs]
      simp [ByteArray.size]
    have := Any.strings_Join Tryz.join joinX b 0 c xs ⟨#[]⟩ w hcell (Array.getElem?_eq_some_iff.1 h).1 (by omega) hc (by rw [hl]; omega)
    rw [cat_eq xs] at this
    exact this
theorem hash_pu (b T c : Nat) (xs : List ByteArray) (hc : xs.length ≤ c) (hn : xs.length ≤ 1000) (hs : (catB xs).size ≤ 1099511627776) :
    Pu Tryz.prog 70 #[.slice (some ⟨b, 0, none⟩) xs.length c] (fun w => PartsAt b T xs w ∧ Glob w) (.int .i64 (numN (nl (shaV (catB xs))) : Nat)) := by
  refine pu_of_cw (args := [_]) _ Tryz.func70 rfl Tryz.ntmps70 rfl fun av bor w0 => ?_
  repeat' (first | apply sw_nil | apply cw_seq | apply cw_reg | refine sy_move (h := ?_) | refine sy_assign (h := ?_) | refine cw_cond_t (ht := ?_) | refine cw_cond_f (hf := ?_) | apply cw_skip | apply cw_block | apply cw_ret | apply cw_exit | refine sy_arrA (h := ?_) | refine sy_strI (h := ?_) | (refine sw_pu (hc := join_pu b T c xs hc hn hs) (hX := fun w h => h.1) (h := ?_)) | (refine sw_pu (hc := sha_pu (catB xs) hs) (hX := fun w h => h.2) (h := ?_)) | refine sw_pu (hc := sumNum_pu (shaV (catB xs))) (h := ?_) | (refine cw_cond (ht := ?_) (hf := ?_); all_goals (intro hx_; first | have := of_decide_eq_true hx_ | have := of_decide_eq_false hx_ | skip)))
  apply ends_ret; apply res_tmp; rfl; rfl
  rfl
end Go.Proofs.YtepckpofhegmiaaGreatDoor
