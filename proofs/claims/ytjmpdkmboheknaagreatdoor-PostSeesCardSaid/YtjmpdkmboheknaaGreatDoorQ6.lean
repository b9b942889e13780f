/- Joined by program out of: Sn Sj Yv Ne Sk Sl Nl Io Jf Nv Na Pk Rg On Oo Sm Ia. -/
import Derived.Test.YtjmpdkmboheknaaGreatDoorQ5
import Derived.Shelf.Strings.OnBuilder
import Derived.RangeFuncSeq
import Derived.OrdersIn
import Derived.Deep.Slices
import Derived.Deep.Fields
import Derived.ChangeSame
import Derived.ChangeArms
import Derived.Carry
import Derived.OpenShut
set_option linter.unusedVariables false
set_option linter.unusedSimpArgs false
namespace Go.Proofs.YtjmpdkmboheknaaGreatDoor
open Go Go.Proofs Sy Go.Shelf Go.RowKit
def numF (l : List Nat) : Nat → Nat
  | 0 => 0
  | k + 1 => numF l k * 256 + l.getD k 0
def numN (l : List Nat) : Nat := numF l 8 / 8
theorem numF_lt (s : ByteArray) : ∀ k,numF (nl s) k < 256 ^ k
  | 0 => by simp [numF]
  | k + 1 => by
    have h1 := numF_lt s k
    have h2 := getD_lt (nl_lt s) k
    rw [numF,Nat.pow_succ]
    omega
theorem numF7 (s : ByteArray) {k : Nat} (hk : k < 8) : numF (nl s) k < 72057594037927936 := by
  have h1 := numF_lt s k
  have h2 : 256 ^ k ≤ 256 ^ 7 := Nat.pow_le_pow_right (by decide) (by omega)
  have h3 : (256 : Nat) ^ 7 = 72057594037927936 := by decide
  omega
theorem numF8 (s : ByteArray) {k : Nat} (hk : k < 8) : numF (nl s) k * 256 < 18446744073709551616 := by
  have h1 := numF_lt s k
  have h2 : 256 ^ k ≤ 256 ^ 7 := Nat.pow_le_pow_right (by decide) (by omega)
  have h3 : (256 : Nat) ^ 7 = 72057594037927936 := by decide
  omega
theorem shl8 (x : Nat) (h : x * 256 < 18446744073709551616) : shlV .u64 (x : Int) 8 = ((x * 256 : Nat) : Int) := by
  show IntKind.u64.wrap ((x : Int) * 2 ^ (min (8 : Int).toNat 64)) = _
  rw [show ((2 : Int) ^ (min (8 : Int).toNat 64)) = 256 from by kernel_rfl,u64_in _ (by omega)]
  omega
theorem or8 (x b : Nat) (hb : b < 256) (h : x < 72057594037927936) : bitsV .or .u64 ((x * 256 : Nat) : Int) (b : Int) = ((x * 256 + b : Nat) : Int) := by
  have hx : x * 256 + b < 18446744073709551616 := by omega
  have hy : x * 256 < 18446744073709551616 := Nat.lt_of_le_of_lt (Nat.le_add_right _ _) hx
  have hz : b < 18446744073709551616 := by omega
  have hw : IntKind.u64.wrap ((x * 256 + b : Nat) : Int) = ((x * 256 + b : Nat) : Int) := u64_in _ (by omega)
  have e : x * 256 ||| b = x * 256 + b := by
    have := Nat.shiftLeft_add_eq_or_of_lt (a:=x) (b:=b) (i:=8) hb
    rw [Nat.shiftLeft_eq] at this
    exact this.symm
  show IntKind.u64.wrap ((((BitVec.ofInt 64 ((x * 256 : Nat) : Int)) ||| (BitVec.ofInt 64 (b : Int))).toNat : Nat) : Int) = _
  rw [BitVec.ofInt_natCast,BitVec.ofInt_natCast,BitVec.toNat_or,BitVec.toNat_ofNat,BitVec.toNat_ofNat,Nat.mod_eq_of_lt (show x * 256 < 2 ^ 64 from hy),Nat.mod_eq_of_lt (show b < 2 ^ 64 from hz),e,hw]
theorem shr3 (x : Nat) : shrV .u64 (x : Int) 3 = ((x / 8 : Nat) : Int) := by
  show (x : Int).fdiv (2 ^ (min (3 : Int).toNat 64)) = _
  rw [show ((2 : Int) ^ (min (3 : Int).toNat 64)) = ((8 : Nat) : Int) from by kernel_rfl, ← Int.ofNat_fdiv]
theorem byte_nl (s : ByteArray) (k : Nat) (hk : k < s.size) : byteAt s k = (((nl s).getD k 0 : Nat) : Int) := by
  simp only [byteAt,nl,List.getD_eq_getElem?_getD,List.getElem?_map]
  have hl : k < s.data.toList.length := by simpa using hk
  rw [List.getElem?_eq_getElem hl]
  rfl
theorem sumNum_pu (s : ByteArray) : Pu Tryz.prog 82 #[.string s] (fun _ => True) (.int .i64 (numN (nl s) : Nat)) := by
  refine pu_of_cw (args:=[_]) _ Tryz.func82 rfl Tryz.ntmps82 rfl fun av bor w0 => ?_
  repeat' (first | apply sw_nil | apply cw_seq | apply cw_reg | refine sy_move (h:=?_) | refine sy_assign (h:=?_) | apply cw_block | fail)
  refine cw_loop (ι:=Kth 8) (fun i => ⟨[(0,.string s),(3,.int .u64 (numF (nl s) i.k : Nat)),(5,.int .i64 i.k)], [],fun _ => True⟩) (fun i => 8 - i.k) ⟨0,Nat.zero_le _⟩ (ok_sub ⟨rfl,rfl,rfl,trivial⟩ (List.Sublist.refl _) fun _ h => h) fun i => ?_
  have hik := i.hk
  repeat' (first | apply sw_nil | apply cw_seq | apply cw_reg | refine sy_move (h:=?_) | refine sy_assign (h:=?_) | refine sy_lss (h:=?_) | refine sy_slen (h:=?_) | refine sy_add (h:=?_) | apply cw_skip | apply cw_block | apply cw_ret | apply cw_exit | refine sy_or (h:=?_) | refine sy_shl (h:=?_) | refine sy_shr (h:=?_) | refine sy_int (h:=?_) | refine sy_strI (h:=?_) | (refine cw_cond (ht:=?_) (hf:=?_);all_goals (intro hx_;first | have := of_decide_eq_true hx_ | have := of_decide_eq_false hx_)))
  · have hlt : i.k < 8 := by omega
    have hs : i.k < s.size := by omega
    have hb := getD_lt (nl_lt s) i.k
    have hE : bitsV .or .u64 (shlV .u64 ((numF (nl s) i.k : Nat) : Int) 8) (IntKind.u64.wrap (byteAt s (i.k : Int).toNat)) = ((numF (nl s) (i.k + 1) : Nat) : Int) := by
      rw [shl8 _ (numF8 s hlt),show ((i.k : Int)).toNat = i.k from rfl,byte_nl s _ hs,u64_in _ (by omega),or8 _ _ hb (numF7 s hlt)]
      rfl
    exact ⟨⟨i.k + 1,hlt⟩,(by show 8 - (i.k + 1) < 8 - i.k;omega),ok_sub ⟨rfl,congrArg (fun z => some (Value.int IntKind.u64 z)) hE,rfl,trivial⟩ (List.Sublist.refl _) fun _ h => h⟩
  · have hlt : i.k < 8 := by omega
    have hs : s.size ≤ i.k := by omega
    have hE : shlV .u64 ((numF (nl s) i.k : Nat) : Int) 8 = ((numF (nl s) (i.k + 1) : Nat) : Int) := by
      rw [shl8 _ (numF8 s hlt),numF,List.getD_eq_getElem?_getD,List.getElem?_eq_none (by rw [nl_len];exact hs),Option.getD_none,Nat.add_zero]
    exact ⟨⟨i.k + 1,hlt⟩,(by show 8 - (i.k + 1) < 8 - i.k;omega),ok_sub ⟨rfl,congrArg (fun z => some (Value.int IntKind.u64 z)) hE,rfl,trivial⟩ (List.Sublist.refl _) fun _ h => h⟩
  · have h8 : i.k = 8 := by omega
    apply ends_ret;apply res_tmp;rfl;rfl
    have hl := numF_lt s 8
    have hp : (256 : Nat) ^ 8 = 18446744073709551616 := by decide
    rw [h8,shr3,IntWalk.i64_in _ (by omega)]
    rfl
theorem numN_lt (s : ByteArray) : numN (nl s) < 2305843009213693952 := by
  have hl := numF_lt s 8
  have hp : (256 : Nat) ^ 8 = 18446744073709551616 := by decide
  rw [numN]
  omega

def catB (l : List ByteArray) : ByteArray := l.foldr (fun a b => a ++ b) ⟨#[]⟩
theorem nl_cat : ∀ l : List ByteArray,nl (catB l) = l.flatMap nl
  | [] => rfl
  | a :: l => by
    show nl (a ++ catB l) = _
    rw [nl_append,nl_cat l,List.flatMap_cons]
def PartsAt (b T : Nat) (xs : List ByteArray) (w : World) : Prop := w.heap[b]? = some (.cells (xs.map Value.string).toArray T (0,0))
theorem pu_of_below {P : Program} {f : FuncId} {args : Array Value} {X : World → Prop} {v : Value} (h : ∀ w,X w → Calls P f args w fun e w' => e = .returned v ∧ Below w.heap.size w w') : Pu P f args X v := by
  unfold Pu
  exact Ct.mk fun w av G => (h w G.keep.now).mono fun e w' ⟨he,hw⟩ => ⟨v, [],X,he,⟨rfl,rfl⟩,Gam.later G hw⟩
theorem joinX : Builder.Extra Tryz.prog Tryz.join_ren where
  sizeBuilder := by kernel_rfl
  liesBuilder := by kernel_rfl
  t5 := by kernel_rfl
  a5 := fun w => by simp [isAgg,run_underlying (show Tryz.prog.underlying (Tryz.join_ren.t 5) = some (.int .u8) from by kernel_rfl)]
  z5 := fun w => Sy.run_sizeOf (P:=Tryz.prog) (t:=Tryz.join_ren.t 5) (n:=1) (by kernel_rfl) w
  v5 := fun w => run_zero (show zeroOf Tryz.prog (Tryz.join_ren.t 5) = some (.int .u8 0) from by kernel_rfl) w
  infoByte := by kernel_rfl
  cellsByte := by kernel_rfl
  sizeByte := by kernel_rfl
  neB5 := by decide
theorem join_none (l : List (List UInt8)) : Lib.join l [] = l.flatten := by
  rw [Lib.join,List.intercalate]
  induction l with
  | nil => rfl
  | cons a l ih =>
    cases l with
    | nil => simp
    | cons b l => simpa using ih
theorem cat_eq (xs : List ByteArray) : (⟨(Lib.join (xs.map (·.data.toList)) (⟨#[]⟩ : ByteArray).data.toList).toArray⟩ : ByteArray) = catB xs := by
  have e : (⟨#[]⟩ : ByteArray).data.toList = [] := rfl
  rw [e,join_none]
  apply nl_inj
  rw [nl_cat]
  simp [nl,List.map_flatten,List.flatMap_def,Function.comp_def]
  rfl
theorem catB_size (xs : List ByteArray) : (catB xs).size = (xs.map ByteArray.size).sum := by
  induction xs with
  | nil => rfl
  | cons a l ih =>
    show (a ++ catB l).size = _
    rw [ByteArray.size_append,ih,List.map_cons,List.sum_cons]
theorem join_pu (b T c : Nat) (xs : List ByteArray) (hc : xs.length ≤ c) (hn : xs.length ≤ 1000) (hs : (catB xs).size ≤ 1099511627776) : Pu Tryz.prog 83 #[.slice (some ⟨b,0,none⟩) xs.length c,.string ⟨#[]⟩] (PartsAt b T xs) (.string (catB xs)) :=
  pu_of_below fun w h => by
    have hcell : ∀ (j : Nat) x,xs[j]? = some x → w.cell? ⟨b,0 + j,none⟩ = some (.string x) := fun j x hj => by
      simp [World.cell?,show w.heap[b]? = _ from h,hj]
    have hl : (Lib.join (xs.map (·.data.toList)) (⟨#[]⟩ : ByteArray).data.toList).length = (catB xs).size := by
      rw [← cat_eq xs]
      simp [ByteArray.size]
    have := Any.strings_Join Tryz.join joinX b 0 c xs ⟨#[]⟩ w hcell (Array.getElem?_eq_some_iff.1 h).1 (by omega) hc (by rw [hl];omega)
    rw [cat_eq xs] at this
    exact this
theorem hash_pu (b T c : Nat) (xs : List ByteArray) (hc : xs.length ≤ c) (hn : xs.length ≤ 1000) (hs : (catB xs).size ≤ 1099511627776) :
    Pu Tryz.prog 45 #[.slice (some ⟨b,0,none⟩) xs.length c] (fun w => PartsAt b T xs w ∧ Glob w) (.int .i64 (numN (nl (shaV (catB xs))) : Nat)) := by
  refine pu_of_cw (args:=[_]) _ Tryz.func45 rfl Tryz.ntmps45 rfl fun av bor w0 => ?_
  repeat' (first | apply sw_nil | apply cw_seq | apply cw_reg | refine sy_move (h:=?_) | refine sy_assign (h:=?_) | apply cw_ret | (refine sw_pu (hc:=join_pu b T c xs hc hn hs) (hX:=fun w h => h.1) (h:=?_)) | (refine sw_pu (hc:=sha_pu (catB xs) hs) (hX:=fun w h => h.2) (h:=?_)) | refine sw_pu (hc:=sumNum_pu (shaV (catB xs))) (h:=?_) | fail)
  apply ends_ret;apply res_tmp;rfl;rfl
  rfl
end Go.Proofs.YtjmpdkmboheknaaGreatDoor

namespace Go.Proofs.YtjmpdkmboheknaaGreatDoor
open Go Go.Proofs Sy
def hashN (xs : List ByteArray) : Nat := numN (nl (shaV (catB xs)))
theorem hashN_lt (xs : List ByteArray) : hashN xs < 2305843009213693952 := numN_lt _
def reduceN (h : Nat) : Nat := 1 + h % 2305843009213693949
theorem reduceN_pos (h : Nat) : 1 ≤ reduceN h := Nat.le_add_right _ _
theorem reduceN_le (h : Nat) : reduceN h ≤ 2305843009213693949 := by
  have := Nat.mod_lt h (show 2305843009213693949 > 0 by decide)
  unfold reduceN
  omega
theorem reduce_pu (h : Nat) (hh : h < 2305843009213693952) : Pu Tryz.prog 44 #[.int .i64 (h : Int)] (fun _ => True) (.int .i64 (reduceN h : Nat)) := by
  refine pu_of_cw (args:=[_]) _ Tryz.func44 rfl Tryz.ntmps44 rfl fun av bor w0 => ?_
  repeat' (first | refine sy_rem (c:=((h % 2305843009213693949 : Nat) : Int)) (hc:=(Int.ofNat_tmod h 2305843009213693949).symm) (hb:=by decide) (h:=?_) | apply sw_nil | apply cw_seq | apply cw_reg | refine sy_move (h:=?_) | refine sy_assign (h:=?_) | refine sy_add (h:=?_) | apply cw_ret | fail)
  apply ends_ret;apply res_tmp;rfl;rfl
  rfl
def chalP (r p : Nat) (msg : ByteArray) : List ByteArray := [textV ⟨#[115,105,103,110]⟩,numV (r : Int),numV (p : Int),textV msg]
def chalN (r p : Nat) (msg : ByteArray) : Nat := hashN (chalP r p msg) % 2305843009213693950
theorem chal_pu (r p : Nat) (msg : ByteArray) (hr : r < 9223372036854775808) (hp : p < 9223372036854775808) (hm : msg.size ≤ 1000000000000) :
    Pu Tryz.prog 139 #[.int .i64 (r : Int),.int .i64 (p : Int),.string msg] Glob (.int .i64 (chalN r p msg : Nat)) := by
  refine pu_of_cw (args:=[_,_,_]) _ Tryz.func139 rfl Tryz.ntmps139 rfl fun av bor w0 => ?_
  have hsz : (catB (chalP r p msg)).size ≤ 1099511627776 := by
    have h1 := textV_size ⟨#[115,105,103,110]⟩
    have h2 := numV_size (r : Int)
    have h3 := numV_size (p : Int)
    have h4 := textV_size msg
    have h5 : (⟨#[115,105,103,110]⟩ : ByteArray).size = 4 := rfl
    rw [catB_size]
    simp only [chalP,List.map_cons,List.map_nil,List.sum_cons,List.sum_nil]
    omega
  repeat' (first | refine sy_rem (c:=((chalN r p msg : Nat) : Int)) (hc:=(Int.ofNat_tmod (hashN (chalP r p msg)) 2305843009213693950).symm) (hb:=by decide) (h:=?_) | apply sw_nil | apply cw_seq | apply cw_reg | refine sy_move (h:=?_) | refine sy_assign (h:=?_) | refine sw_bsl (h:=fun _ => ?_) | apply cw_ret | refine sw_pu (hc:=text_pu _ (by first | omega | decide)) (h:=?_) | refine sw_pu (hc:=num_pu _ (by omega)) (h:=?_) | (refine sw_puL (hc:=hash_pu _ 9 4 (chalP r p msg) (show 4 ≤ 4 by decide) (show 4 ≤ 1000 by decide) hsz) (hX:=fun w h hr => ⟨hr _ List.mem_cons_self,h⟩) (h:=?_)) | fail)
  apply ends_ret;apply res_tmp;rfl;rfl
  rfl

structure KyD where
  s : Int
  p : Int
def KyD.cells (k : KyD) : List Value := [.int .i64 k.s,.int .i64 k.p]
def KyD.v (k : KyD) : Value := .agg k.cells.toArray
def KyD.zero : KyD := ⟨0,0⟩
theorem expF_lt (a e : Nat) : ∀ i,(expF a e i).1 < 2305843009213693951
  | 0 => by show 1 < 2305843009213693951;decide
  | i + 1 => by
    have ih := expF_lt a e i
    show (bif decide (e / 2 ^ i % 2 = 1) then (expF a e i).1 * (expF a e i).2 % 2305843009213693951 else (expF a e i).1) < _
    cases decide (e / 2 ^ i % 2 = 1) with
    | true => exact Nat.mod_lt _ (by decide)
    | false => exact ih
theorem expV_lt (a e : Nat) : expV a e < 2305843009213693951 := expF_lt a e _
def ofK (s : Int) : KyD := bif decide (s < 1) || decide (2305843009213693949 < s) then KyD.zero else ⟨s,(expV 37 s.toNat : Nat)⟩
theorem ofK_in {s : Int} (h1 : 1 ≤ s) (h2 : s ≤ 2305843009213693949) : ofK s = ⟨s,(expV 37 s.toNat : Nat)⟩ := by
  rw [ofK,decide_eq_false (by omega),decide_eq_false (by omega)]
  rfl
theorem ofK_out {s : Int} (h : s < 1 ∨ 2305843009213693949 < s) : ofK s = KyD.zero := by
  rw [ofK]
  rcases h with h | h
  · rw [decide_eq_true h];rfl
  · rw [decide_eq_true h,Bool.or_true];rfl
theorem signOf_pu (s : Int) : Pu Tryz.prog 43 #[.int .i64 s] (fun _ => True) (ofK s).v := by
  refine pu_of_cw (args:=[_]) _ Tryz.func43 rfl Tryz.ntmps43 rfl fun av bor w0 => ?_
  by_cases h : s < 1 ∨ 2305843009213693949 < s
  · rw [ofK_out h]
    repeat' (first | apply sw_nil | apply cw_seq | apply cw_reg | refine sy_move (h:=?_) | refine sy_pick_t (h:=?_) | refine sy_pick_f (h:=?_) | refine sy_lss (h:=?_) | refine sy_gtr (h:=?_) | refine sw_skipF (h:=?_) | refine sw_alloc (h:=fun _ => ?_) | refine sw_stAll (h:=?_) | refine cw_cond_t (ht:=?_) | apply cw_skip | apply cw_ret | (refine sy_build (cs:=KyD.zero.cells) (hf:=by rfl) (h:=?_)) | ((fail_if_success (refine sw_chk (h:=?_)));refine sw_guard (ht:=?_) (hf:=?_);all_goals (intro hx_;first | have := of_decide_eq_true hx_ | have := of_decide_eq_false hx_)) | (refine cw_cond (ht:=?_) (hf:=?_);all_goals (intro hx_;first | have := of_decide_eq_true hx_ | have := of_decide_eq_false hx_)))
    all_goals first
      | (exfalso;omega)
      | exact ends_ret (res_cell rfl rfl (by (repeat (exact List.mem_cons_self))) (by rfl)) rfl
  · have h1 : 1 ≤ s := by omega
    have h2 : s ≤ 2305843009213693949 := by omega
    obtain ⟨n,rfl⟩ := Int.eq_ofNat_of_zero_le (show 0 ≤ s by omega)
    rw [ofK_in h1 h2]
    have he := exp_pu 37 n (by omega)
    repeat' (first | apply sw_nil | apply cw_seq | apply cw_reg | refine sy_move (h:=?_) | refine sy_pick_t (h:=?_) | refine sy_pick_f (h:=?_) | refine sy_lss (h:=?_) | refine sy_gtr (h:=?_) | refine sw_skipF (h:=?_) | refine sw_alloc (h:=fun _ => ?_) | refine sw_stAll (h:=?_) | refine cw_cond_t (ht:=?_) | apply cw_skip | apply cw_ret | (refine sw_pu (hc:=he) (hX:=fun w h => trivial) (h:=?_)) | (refine sy_build (cs:=KyD.cells ⟨(n : Int),(expV 37 n : Nat)⟩) (hf:=by rfl) (h:=?_)) | ((fail_if_success (refine sw_chk (h:=?_)));refine sw_guard (ht:=?_) (hf:=?_);all_goals (intro hx_;first | have := of_decide_eq_true hx_ | have := of_decide_eq_false hx_)) | (refine cw_cond (ht:=?_) (hf:=?_);all_goals (intro hx_;first | have := of_decide_eq_true hx_ | have := of_decide_eq_false hx_)))
    all_goals first
      | (exfalso;omega)
      | exact ends_ret (res_cell rfl rfl (by (repeat (exact List.mem_cons_self))) (by rfl)) rfl
def eqKy (a b : KyD) : Bool := decide (a.s = b.s) && decide (a.p = b.p)
theorem eqKy_iff {a b : KyD} : eqKy a b = true ↔ a = b := by
  cases a;cases b
  simp only [eqKy,Bool.and_eq_true,decide_eq_true_eq,KyD.mk.injEq]
theorem run_partI' (w : World) {cs : Array Value} {off : Nat} {v : Value} (h : cs[off]? = some v) : (part 3 cs off).run Tryz.prog w = .ok v w := by
  simp [part,isAgg,run_underlying Tryz.underlying3,h]
theorem eqI_run' (w : World) (d : Nat) (a b : Int) : (Op.equalIn (d + 1) 3 (.int .i64 a) (.int .i64 b)).run Tryz.prog w = .ok (decide (a = b)) w := by
  rw [run_equalIn_int w d _ .i64 .i64 a b Tryz.underlying3]
  rfl
theorem run_eqKy (w : World) (d : Nat) (a b : KyD) : (Op.equalIn (d + 2) 67 a.v b.v).run Tryz.prog w = .ok (eqKy a b) w := by
  have p0 : ∀ x : KyD,(part 3 x.cells.toArray 0).run Tryz.prog w = .ok (.int .i64 x.s) w := fun x => run_partI' w rfl
  have p1 : ∀ x : KyD,(part 3 x.cells.toArray 1).run Tryz.prog w = .ok (.int .i64 x.p) w := fun x => run_partI' w rfl
  unfold KyD.v
  rw [run_equalIn_agg _ _ _ _ _ (by kernel_rfl) (by kernel_rfl)]
  simp only [Program.fieldsOf,Tryz.underlying67]
  simp [Op.eqFields,p0,p1,eqI_run']
  unfold eqKy
  by_cases h1 : a.s = b.s <;> by_cases h2 : a.p = b.p <;> simp [h1,h2]
section
variable {N : Nat} {av bor : List Nat} {w0 : World} {x y : Operand} {t2 : TypeId} {ty : TypeId} {st : St}
theorem y_eqKy (a b : KyD) (hx : ev st.env x = some a.v) (hy : ev st.env y = some b.v) : Sy.Yields Tryz.prog N av bor w0 st (.binOp .eql 67 x y t2) ty (.bool (eqKy a b)) := Sy.Yields.mk fun A w ok d pos af g => by
  have h1 := run_eqGuard_agg (P:=Tryz.prog) w .eql 67 x y a.cells.toArray b.cells.toArray (by kernel_rfl)
  have h2 := run_eql_struct (P:=Tryz.prog) w 67 a.cells.toArray b.cells.toArray
  have h3 := run_eqKy w 9998 a b
  simp only [KyD.v] at hx hy h3
  simp [execOp,ok.eval hx,ok.eval hy,h1,h2,h3]
end
def rightK (k : KyD) : Bool := decide (1 ≤ k.s) && eqKy k (ofK k.s)
theorem signRight_pu (k : KyD) : Pu Tryz.prog 85 #[k.v] (fun _ => True) (.bool (rightK k)) := by
  refine pu_of_cw (args:=[_]) _ Tryz.func85 rfl Tryz.ntmps85 rfl fun av bor w0 => ?_
  repeat' (first | apply sw_nil | apply cw_seq | apply cw_reg | refine sy_assign (h:=?_) | refine sw_box (h:=fun _ => ?_) | fail)
  rename_i b
  (refine cw_draw [cel b 67 k.cells] (fun _ => True) (by kernel_rfl) ?_)
  all_goals (refine aw_take 0 (h:=?_))
  all_goals (refine aw_take 1 (h:=?_))
  all_goals (refine aw_take 2 (h:=?_))
  all_goals (refine aw_take 3 (h:=?_))
  all_goals (refine aw_guard 4 (ht:=?_) (hf:=?_);all_goals (intro hx_;first | have := of_decide_eq_true hx_ | have := of_decide_eq_false hx_);all_goals (first | (refine aw_take 4 (h:=?_)) | (refine aw_skipT 4 (h:=?_))))
  all_goals (first | (refine aw_take 5 (h:=?_)) | (refine aw_skipT 5 (h:=?_)))
  all_goals (first | (refine aw_take 6 (h:=?_)) | (refine aw_skipT 6 (h:=?_)))
  all_goals (refine aw_step 7 (h:=?_);(first | (refine sw_skipT (h:=?_)) | refine sw_pu (hc:=signOf_pu k.s) (h:=?_));apply sw_nil;refine aw_fin (h:=?_))
  all_goals (first | (refine aw_take 8 (hy:=by (apply y_eqKy k (ofK k.s);rfl;rfl)) (h:=?_)) | (refine aw_skipT 8 (h:=?_)))
  all_goals (refine aw_take 9 (h:=?_))
  all_goals (refine aw_take 10 (h:=?_))
  all_goals (refine aw_done (h:=?_))
  all_goals
    repeat' (first | apply cw_ret | fail)
    apply ends_ret;apply res_tmp;rfl;rfl
    rw [rightK,hx_]
    rfl
theorem rightK_iff {k : KyD} : rightK k = true ↔ 1 ≤ k.s ∧ k.s ≤ 2305843009213693949 ∧ k.p = (expV 37 k.s.toNat : Nat) := by
  rw [rightK,Bool.and_eq_true,decide_eq_true_eq,eqKy_iff]
  constructor
  · rintro ⟨h1,h2⟩
    have h3 : k.s ≤ 2305843009213693949 := by
      by_cases h : 2305843009213693949 < k.s
      · rw [ofK_out (.inr h)] at h2
        rw [h2] at h1
        exact absurd h1 (by decide)
      · omega
    refine ⟨h1,h3, ?_⟩
    rw [ofK_in h1 h3] at h2
    rw [h2]
  · rintro ⟨h1,h2,h3⟩
    exact ⟨h1,by rw [ofK_in h1 h2, ← h3]⟩
def nonceP (s : Int) (msg : ByteArray) : List ByteArray := [textV ⟨#[110,111,110,99,101]⟩,numV s,textV msg]
def nonceN (s : Int) (msg : ByteArray) : Nat := reduceN (hashN (nonceP s msg))
structure SgD where
  e : Int
  s : Int
def SgD.cells (k : SgD) : List Value := [.int .i64 k.e,.int .i64 k.s]
def SgD.v (k : SgD) : Value := .agg k.cells.toArray
def SgD.zero : SgD := ⟨0,0⟩
def sigE (k : KyD) (msg : ByteArray) : Nat := chalN (expV 37 (nonceN k.s msg)) k.p.toNat msg
def sigS (k : KyD) (msg : ByteArray) : Nat := (nonceN k.s msg + sigE k msg * k.s.toNat % 2305843009213693950) % 2305843009213693950
def signV (k : KyD) (msg : ByteArray) : SgD := bif rightK k then ⟨(sigE k msg : Nat),(sigS k msg : Nat)⟩ else SgD.zero
set_option maxHeartbeats 1000000 in
theorem sign_pu (k : KyD) (msg : ByteArray) (hm : msg.size ≤ 1000000000000) : Pu Tryz.prog 86 #[k.v,.string msg] Glob (signV k msg).v := by
  refine pu_of_cw (args:=[_,_]) _ Tryz.func86 rfl Tryz.ntmps86 rfl fun av bor w0 => ?_
  have hrk := signRight_pu k
  cases hk : rightK k with
  | false =>
    rw [hk] at hrk
    rw [show signV k msg = SgD.zero from by rw [signV,hk];rfl]
    repeat' (first | apply sw_nil | apply cw_seq | apply cw_reg | refine sy_ldAll (h:=?_) | refine sy_not (h:=?_) | refine sw_alloc (h:=fun _ => ?_) | refine sw_box (h:=fun _ => ?_) | refine sw_stAll (h:=?_) | refine cw_cond_t (ht:=?_) | apply cw_ret | (refine sw_pu (hc:=hrk) (hX:=fun _ _ => trivial) (h:=?_)) | (refine sy_build (cs:=SgD.zero.cells) (hf:=by rfl) (h:=?_)) | fail)
    exact ends_ret (res_cell rfl rfl (by (repeat (exact List.mem_cons_self))) (by rfl)) rfl
  | true =>
    rw [hk] at hrk
    rw [show signV k msg = ⟨(sigE k msg : Nat),(sigS k msg : Nat)⟩ from by rw [signV,hk];rfl]
    obtain ⟨h1,h2,h3⟩ := rightK_iff.1 hk
    obtain ⟨s,p⟩ := k
    obtain ⟨n,rfl⟩ := Int.eq_ofNat_of_zero_le (show 0 ≤ s by show 0 ≤ s;have : 1 ≤ s := h1;omega)
    have h3' : p = (expV 37 n : Nat) := h3
    subst h3'
    have h2' : (n : Int) ≤ 2305843009213693949 := h2
    have hp := expV_lt 37 n
    have hsz : (catB (nonceP (n : Int) msg)).size ≤ 1099511627776 := by
      have e1 := textV_size ⟨#[110,111,110,99,101]⟩
      have e2 := numV_size (n : Int)
      have e4 := textV_size msg
      have e5 : (⟨#[110,111,110,99,101]⟩ : ByteArray).size = 5 := rfl
      rw [catB_size]
      simp only [nonceP,List.map_cons,List.map_nil,List.sum_cons,List.sum_nil]
      omega
    have hno : nonceN (n : Int) msg < 9223372036854775808 := by have := reduceN_le (hashN (nonceP (n : Int) msg));unfold nonceN;omega
    have hha := hash_pu (T:=9) (c:=3) (xs:=nonceP (n : Int) msg)
    have hex := exp_pu 37 (nonceN (n : Int) msg) hno
    have hch := chal_pu (expV 37 (nonceN (n : Int) msg)) (expV 37 n) msg (by have := expV_lt 37 (nonceN (n : Int) msg);omega) (by omega) hm
    repeat' (first | apply sw_nil | apply cw_seq | apply cw_reg | refine sy_ldAll (h:=?_) | refine sy_not (h:=?_) | refine sw_alloc (h:=fun _ => ?_) | refine sw_box (h:=fun _ => ?_) | refine cw_cond_f (hf:=?_) | apply cw_skip | (refine sw_pu (hc:=hrk) (hX:=fun _ _ => trivial) (h:=?_)) | fail)
    rename_i b2 b4
    (refine cw_draw [cel b4 44 SgD.zero.cells,cel b2 67 (KyD.mk (n : Int) (expV 37 n : Nat)).cells] Glob (by kernel_rfl) ?_)
    all_goals (refine aw_take 1 (h:=?_))
    all_goals (refine aw_take 2 (h:=?_))
    all_goals (refine aw_take 4 (h:=?_))
    all_goals (refine aw_step 0 (h:=?_);(refine sw_pu (hc:=text_pu _ (by decide)) (h:=?_));apply sw_nil;refine aw_fin (h:=?_))
    all_goals (refine aw_step 3 (h:=?_);(refine sw_pu (hc:=num_pu _ (by omega)) (h:=?_));apply sw_nil;refine aw_fin (h:=?_))
    all_goals (refine aw_step 5 (h:=?_);(refine sw_pu (hc:=text_pu _ (by omega)) (h:=?_));apply sw_nil;refine aw_fin (h:=?_))
    all_goals (refine aw_step 6 (h:=?_);(refine sw_bsl (h:=fun _ => ?_));apply sw_nil;refine aw_fin (h:=?_))
    all_goals (refine aw_step 7 (h:=?_);(refine sw_puL (hc:=hash_pu _ 9 3 (nonceP (n : Int) msg) (show 3 ≤ 3 by decide) (show 3 ≤ 1000 by decide) hsz) (hX:=fun w h hr => ⟨hr _ List.mem_cons_self,h⟩) (h:=?_));apply sw_nil;refine aw_fin (h:=?_))
    all_goals (refine aw_step 8 (h:=?_);(refine sw_pu (hc:=reduce_pu (hashN (nonceP (n : Int) msg)) (hashN_lt _)) (h:=?_));apply sw_nil;refine aw_fin (h:=?_))
    all_goals (refine aw_take 9 (h:=?_))
    all_goals (refine aw_done (h:=?_))
    repeat' (first | apply cw_seq | fail)
    (refine cw_draw [cel b4 44 SgD.zero.cells,cel b2 67 (KyD.mk (n : Int) (expV 37 n : Nat)).cells] Glob (by kernel_rfl) ?_)
    all_goals (refine aw_take 0 (h:=?_))
    all_goals (refine aw_take 2 (h:=?_))
    all_goals (refine aw_take 3 (h:=?_))
    all_goals (refine aw_take 4 (h:=?_))
    all_goals (refine aw_step 1 (h:=?_);(refine sw_pu (hc:=hex) (hX:=fun _ _ => trivial) (h:=?_));apply sw_nil;refine aw_fin (h:=?_))
    all_goals (refine aw_step 5 (h:=?_);(refine sw_pu (hc:=hch) (hX:=fun _ h => h) (h:=?_));apply sw_nil;refine aw_fin (h:=?_))
    all_goals (refine aw_take 6 (h:=?_))
    all_goals (refine aw_done (h:=?_))
    have hm1 := MulN_pu (sigE ⟨(n : Int),(expV 37 n : Nat)⟩ msg) n
    have hm2 := AddN_pu (nonceN (n : Int) msg) (sigE ⟨(n : Int),(expV 37 n : Nat)⟩ msg * n % 2305843009213693950)
    repeat' (first | apply sw_nil | apply cw_seq | apply cw_reg | refine sy_move (h:=?_) | refine sy_fld (h:=?_) | refine sy_ld (h:=?_) | refine sw_stAll (h:=?_) | apply cw_ret | (refine sw_pu (hc:=hm1) (hX:=fun _ _ => trivial) (h:=?_)) | (refine sw_pu (hc:=hm2) (hX:=fun _ _ => trivial) (h:=?_)) | (refine sy_build (cs:=SgD.cells ⟨(sigE ⟨(n : Int),(expV 37 n : Nat)⟩ msg : Nat),(sigS ⟨(n : Int),(expV 37 n : Nat)⟩ msg : Nat)⟩) (hf:=by rfl) (h:=?_)) | fail)
    exact ends_ret (res_cell rfl rfl (by (repeat (first | exact List.mem_cons_self | apply List.mem_cons_of_mem))) (by rfl)) rfl
def keyP (seed : ByteArray) : List ByteArray := [textV ⟨#[107,101,121]⟩,textV seed]
def keyN (seed : ByteArray) : Nat := reduceN (hashN (keyP seed))
def keyOf (seed : ByteArray) : KyD := ⟨(keyN seed : Nat),(expV 37 (keyN seed) : Nat)⟩
theorem keyOf_right (seed : ByteArray) : rightK (keyOf seed) = true := by
  have h1 := reduceN_pos (hashN (keyP seed))
  have h2 := reduceN_le (hashN (keyP seed))
  refine rightK_iff.2 ⟨?_, ?_,rfl⟩
  · show (1 : Int) ≤ ((reduceN (hashN (keyP seed)) : Nat) : Int);omega
  · show ((reduceN (hashN (keyP seed)) : Nat) : Int) ≤ 2305843009213693949;omega
theorem signKey_pu (seed : ByteArray) (hm : seed.size ≤ 1000000000000) : Pu Tryz.prog 23 #[.string seed] Glob (keyOf seed).v := by
  refine pu_of_cw (args:=[_]) _ Tryz.func23 rfl Tryz.ntmps23 rfl fun av bor w0 => ?_
  have h1 := reduceN_pos (hashN (keyP seed))
  have h2 := reduceN_le (hashN (keyP seed))
  have hk : ofK ((keyN seed : Nat) : Int) = keyOf seed := ofK_in (by show (1 : Int) ≤ ((reduceN (hashN (keyP seed)) : Nat) : Int);omega) (by show ((reduceN (hashN (keyP seed)) : Nat) : Int) ≤ 2305843009213693949;omega)
  have hof := signOf_pu ((keyN seed : Nat) : Int)
  rw [hk] at hof
  have hsz : (catB (keyP seed)).size ≤ 1099511627776 := by
    have e1 := textV_size ⟨#[107,101,121]⟩
    have e4 := textV_size seed
    have e5 : (⟨#[107,101,121]⟩ : ByteArray).size = 3 := rfl
    rw [catB_size]
    simp only [keyP,List.map_cons,List.map_nil,List.sum_cons,List.sum_nil]
    omega
  repeat' (first | apply sw_nil | apply cw_seq | apply cw_reg | refine sy_move (h:=?_) | refine sw_alloc (h:=fun _ => ?_) | refine sw_bsl (h:=fun _ => ?_) | refine sw_stAll (h:=?_) | apply cw_ret | refine sw_pu (hc:=text_pu _ (by first | omega | decide)) (h:=?_) | (refine sw_puL (hc:=hash_pu _ 9 2 (keyP seed) (show 2 ≤ 2 by decide) (show 2 ≤ 1000 by decide) hsz) (hX:=fun w h hr => ⟨hr _ List.mem_cons_self,h⟩) (h:=?_)) | refine sw_pu (hc:=reduce_pu (hashN (keyP seed)) (hashN_lt _)) (h:=?_) | (refine sw_pu (hc:=hof) (hX:=fun _ _ => trivial) (h:=?_)) | fail)
  exact ends_ret (res_cell rfl rfl (by (repeat (first | exact List.mem_cons_self | apply List.mem_cons_of_mem))) (by rfl)) rfl
end Go.Proofs.YtjmpdkmboheknaaGreatDoor

namespace Go.Proofs.YtjmpdkmboheknaaGreatDoor
open Go Go.Proofs Sy
section
variable {P : Program} {N : Nat} {av bor : List Nat} {w0 : World} {x y : Operand} {t t2 : TypeId} {ty : TypeId} {st : St} {k : IntKind} {a b : Int}
theorem y_lssW [hI : TyInt P t k] (v : Bool) (hx : ev st.env x = some (.int k a)) (hy : ev st.env y = some (.int k b)) (hv : decide (a < b) = v) : Sy.Yields P N av bor w0 st (.binOp .lss t x y t2) ty (.bool v) := hv ▸ y_lss hx hy
theorem y_geqW [hI : TyInt P t k] (v : Bool) (hx : ev st.env x = some (.int k a)) (hy : ev st.env y = some (.int k b)) (hv : decide (b ≤ a) = v) : Sy.Yields P N av bor w0 st (.binOp .geq t x y t2) ty (.bool v) := hv ▸ y_geq hx hy
theorem y_eqlW [hI : TyInt P t k] (v : Bool) (hx : ev st.env x = some (.int k a)) (hy : ev st.env y = some (.int k b)) (hv : decide (a = b) = v) : Sy.Yields P N av bor w0 st (.binOp .eql t x y t2) ty (.bool v) := hv ▸ y_eql hx hy
theorem y_neqW [hI : TyInt P t k] (v : Bool) (hx : ev st.env x = some (.int k a)) (hy : ev st.env y = some (.int k b)) (hv : (!decide (a = b)) = v) : Sy.Yields P N av bor w0 st (.binOp .neq t x y t2) ty (.bool v) := hv ▸ y_neq hx hy
theorem y_seqlW [hI : TyStr P t] {a b : ByteArray} (v : Bool) (hx : ev st.env x = some (.string a)) (hy : ev st.env y = some (.string b)) (hv : seqB a b = v) : Sy.Yields P N av bor w0 st (.binOp .eql t x y t2) ty (.bool v) := hv ▸ y_seql hx hy
theorem y_sneqW {a b : ByteArray} (v : Bool) (hx : ev st.env x = some (.string a)) (hy : ev st.env y = some (.string b)) (hv : (!seqB a b) = v) : Sy.Yields P N av bor w0 st (.binOp .neq t x y t2) ty (.bool v) := hv ▸ y_sneq hx hy
end
end Go.Proofs.YtjmpdkmboheknaaGreatDoor

namespace Go.Proofs.YtjmpdkmboheknaaGreatDoor
open Go Go.Proofs Sy
def keyF (kl : List KeyD) (i : Int) : Nat → Option KeyD
  | 0 => none
  | j + 1 => bif decide ((kl.getD j KeyD.zero).from_ ≤ i) then some (kl.getD j KeyD.zero) else keyF kl i j
def keyV (n : Nat) (kl : List KeyD) (i : Int) : Option KeyD := bif decide (i < 0) || decide ((n : Int) < i) then none else keyF kl i kl.length
def keyOP (o : Option KeyD) : Value := .tuple #[(o.getD KeyD.zero).v,.bool o.isSome]
structure KeyI (kl : List KeyD) (i : Int) where
  k : Nat
  hk : k ≤ kl.length
  hs : keyF kl i kl.length = keyF kl i k
set_option maxHeartbeats 8000000 in
theorem chainKey_pu (c : ChainD) (kl : List KeyD) (i : Int) : Pu Tryz.prog 96 #[c.v,.int .i64 i] (fun w => c.at_ w ∧ Keyz w c.keys kl) (keyOP (keyV c.acts.n kl i)) := by
  refine pu_of_cw (args:=[_,_]) _ Tryz.func96 rfl Tryz.ntmps96 rfl fun av bor w0 => ?_
  refine cw_know (p:=c.keys.n = kl.length ∧ c.keys.n ≤ maxLen ∧ (0 < kl.length → c.keys.p.isSome = true)) (fun w h => Keyz.know w h.2) fun ⟨hkn,hkm,hkp⟩ => ?_
  simp only [maxLen] at hkm
  cases hb : (decide (i < 0) || decide ((c.acts.n : Int) < i)) with
  | true =>
    rw [show keyV c.acts.n kl i = none from by rw [keyV,hb];rfl]
    repeat' (first | apply sw_nil | apply cw_seq | apply cw_reg | refine sy_move (h:=?_) | refine sy_assign (h:=?_) | refine sy_fld (h:=?_) | refine sy_ld (h:=?_) | refine sy_pick_t (h:=?_) | refine sy_pick_f (h:=?_) | refine sy_lss (h:=?_) | refine sy_gtr (h:=?_) | refine sy_len (h:=?_) | refine sy_sub (h:=?_) | refine sw_skipF (h:=?_) | refine sw_alloc (h:=fun _ => ?_) | refine sw_box (h:=fun _ => ?_) | refine sw_stAll (h:=?_) | refine cw_cond_t (ht:=?_) | apply cw_skip | apply cw_block | apply cw_ret | (refine sy_build (cs:=KeyD.zero.cells) (hf:=by rfl) (h:=?_)) | ((fail_if_success (refine sw_chk (h:=?_)));refine sw_guard (ht:=?_) (hf:=?_);all_goals (intro hx_;first | have := of_decide_eq_true hx_ | have := of_decide_eq_false hx_)) | (refine cw_cond (ht:=?_) (hf:=?_);all_goals (intro hx_;first | have := of_decide_eq_true hx_ | have := of_decide_eq_false hx_)))
    all_goals first
      | exact ends_ret (res_cellTmp rfl rfl rfl (by (repeat (exact List.mem_cons_self))) (by rfl)) rfl
      | (exfalso;simp_all;done)
  | false =>
    have hb' := hb
    simp only [Bool.or_eq_false_iff,decide_eq_false_iff_not] at hb'
    obtain ⟨h0,h1⟩ := hb'
    rw [show keyV c.acts.n kl i = keyF kl i kl.length from by rw [keyV,hb];rfl]
    repeat' (first | refine sw_yield (y_lssW false rfl rfl (decide_eq_false h0)) rfl (by (with_reducible rfl)) rfl ?_ | refine sy_gtrF (hab:=h1) (h:=?_) | apply sw_nil | apply cw_seq | apply cw_reg | refine sy_move (h:=?_) | refine sy_assign (h:=?_) | refine sy_fld (h:=?_) | refine sy_ld (h:=?_) | refine sy_pick_f (h:=?_) | refine sy_len (h:=?_) | refine sy_sub (h:=?_) | refine sw_alloc (h:=fun _ => ?_) | refine sw_box (h:=fun _ => ?_) | refine cw_cond_f (hf:=?_) | apply cw_skip | apply cw_block | fail)
    rename_i b2 b4
    refine cw_loop (ι:=KeyI kl i) (fun j => ⟨[(1,.int .i64 i),(2,.pointer (some ⟨b2,0,none⟩)),(4,.pointer (some ⟨b4,0,none⟩)),(6,.int .i64 ((j.k : Nat) - 1))], [cel b4 152 KeyD.zero.cells,cel b2 39 c.cells],fun w => c.at_ w ∧ Keyz w c.keys kl⟩) (fun j => j.k) ⟨c.keys.n,by omega,by rw [hkn]⟩ (ok_sub ⟨rfl,rfl,rfl,rfl,trivial⟩ (List.Sublist.refl _) fun _ h => h) fun j => ?_
    obtain ⟨k,hk,hs⟩ := j
    simp only
    cases k with
    | zero =>
      rw [hs]
      clear hs
      repeat' (first | refine sw_yield (y_geqW false rfl rfl (decide_eq_false (by omega))) rfl (by (with_reducible rfl)) rfl ?_ | apply sw_nil | apply cw_seq | apply cw_reg | refine sy_move (h:=?_) | refine sy_assign (h:=?_) | refine sw_stAll (h:=?_) | refine cw_cond_f (hf:=?_) | apply cw_ret | apply cw_exit | (refine sy_build (cs:=KeyD.zero.cells) (hf:=by rfl) (h:=?_)) | fail)
      exact ends_ret (res_cellTmp rfl rfl rfl (by (repeat (exact List.mem_cons_self))) (by rfl)) rfl
    | succ k =>
      obtain ⟨y,hy⟩ : ∃ y,kl[k]? = some y := ⟨_,List.getElem?_eq_getElem (by omega)⟩
      have hyD : kl.getD k KeyD.zero = y := by rw [List.getD_eq_getElem?_getD,hy];rfl
      have hkp' := hkp (by omega)
      cases hle : decide (y.from_ ≤ i) with
      | true =>
        rw [hs,show keyF kl i (k + 1) = some y from by rw [keyF,hyD,hle];rfl]
        clear hs
        have hle' := of_decide_eq_true hle
        repeat' (first | refine sw_yield (y_geqW true rfl rfl (decide_eq_true (by omega))) rfl (by (with_reducible rfl)) rfl ?_ | refine sy_ldX (q:=k * 3) (u:=.int .i64 y.from_) (hF:=fun w h => (Keyz.get h.2 hy).2.2 0 _ rfl) (h:=?_) | apply sw_nil | apply cw_seq | apply cw_reg | refine sy_move (h:=?_) | refine sy_assign (h:=?_) | refine sy_fld (h:=?_) | refine sy_ld (h:=?_) | refine sy_leq (h:=?_) | refine sw_stAll (h:=?_) | refine cw_cond_t (ht:=?_) | apply cw_skip | apply cw_block | apply cw_ret | (refine sy_idxX (q:=k * 3) (h:=?_)) | (refine sy_fldX (h:=?_)) | (refine sy_ldXs (cs:=y.cells) (hF:=fun w h => Keyz.get h.2 hy) (h:=?_)) | fail)
        all_goals first
          | exact ends_ret (res_cellTmp rfl rfl rfl (by (repeat (exact List.mem_cons_self))) (by rfl)) rfl
          | (exfalso;omega)
      | false =>
        have hs2 : keyF kl i kl.length = keyF kl i k := by rw [hs,keyF,hyD,hle];rfl
        repeat' (first | refine sw_yield (y_geqW true rfl rfl (decide_eq_true (by omega))) rfl (by (with_reducible rfl)) rfl ?_ | refine sy_ldX (q:=k * 3) (u:=.int .i64 y.from_) (hF:=fun w h => (Keyz.get h.2 hy).2.2 0 _ rfl) (h:=?_) | apply sw_nil | apply cw_seq | apply cw_reg | refine sy_move (h:=?_) | refine sy_assign (h:=?_) | refine sy_fld (h:=?_) | refine sy_ld (h:=?_) | refine sy_leq (h:=?_) | refine sy_sub (h:=?_) | refine cw_cond_t (ht:=?_) | refine cw_cond_f (hf:=?_) | apply cw_skip | apply cw_block | (refine sy_idxX (q:=k * 3) (h:=?_)) | (refine sy_fldX (h:=?_)) | fail)
        all_goals first
          | exact ⟨(⟨k,by omega,hs2⟩ : KeyI kl i),Nat.lt_succ_self k,ok_sub ⟨rfl,rfl,rfl,(by show some (Value.int IntKind.i64 (((k + 1 : Nat) : Int) - 1 - 1)) = some (Value.int IntKind.i64 ((k : Int) - 1));rw [show ((k + 1 : Nat) : Int) - 1 - 1 = (k : Int) - 1 from by omega]),trivial⟩ (List.Sublist.refl _) fun _ h => h⟩
          | (exfalso;exact absurd (by assumption) (of_decide_eq_false hle))
end Go.Proofs.YtjmpdkmboheknaaGreatDoor

namespace Go.Proofs.YtjmpdkmboheknaaGreatDoor
open Go Go.Proofs Sy
def hexDg : ByteArray := ⟨#[48,49,50,51,52,53,54,55,56,57,97,98,99,100,101,102]⟩
def hexB (s : ByteArray) (i : Nat) : List Int := [byteAt hexDg (shrV .u8 (byteAt s i) 4).toNat,byteAt hexDg (bitsV .and .u8 (byteAt s i) 15).toNat]
def hexF (s : ByteArray) (n : Nat) : List Int := (List.range n).flatMap (hexB s)
def hexV (s : ByteArray) : ByteArray := ofInts (hexF s s.size)
theorem hexF_succ (s : ByteArray) (n : Nat) : hexF s (n + 1) = hexF s n ++ hexB s n := by
  rw [hexF,List.range_succ,List.flatMap_append]
  simp [hexF]
theorem nib_all : ∀ b : Nat,b < 256 → (0 ≤ shrV .u8 (b : Int) 4 ∧ shrV .u8 (b : Int) 4 < 16) ∧ (0 ≤ bitsV .and .u8 (b : Int) 15 ∧ bitsV .and .u8 (b : Int) 15 < 16) := by decide +kernel
theorem byteAt_lt (s : ByteArray) (i : Nat) : ∃ b : Nat,b < 256 ∧ byteAt s i = (b : Int) := ⟨(s.data.toList.getD i 0).toNat,UInt8.toNat_lt _,rfl⟩
def hexN (d : Nat) : Nat := if d < 10 then 48 + d else 87 + d
def hexL (l : List Nat) : List Nat := l.flatMap fun b => [hexN (b / 16),hexN (b % 16)]
theorem hex_all : ∀ b : Nat,b < 256 → byteAt hexDg (shrV .u8 (b : Int) 4).toNat = (hexN (b / 16) : Nat) ∧ byteAt hexDg (bitsV .and .u8 (b : Int) 15).toNat = (hexN (b % 16) : Nat) := by decide +kernel
structure HexI where
  k : Nat
  hk : k ≤ 32
  A : Option Addr
  c : Nat
set_option maxHeartbeats 1000000 in
theorem hex_pu (s : ByteArray) (hs : s.size = 32) : Pu Tryz.prog 84 #[.string s] (fun _ => True) (.string (hexV s)) := by
  refine pu_of_cw (args:=[_]) _ Tryz.func84 rfl Tryz.ntmps84 rfl fun av bor w0 => ?_
  repeat' (first | refine sy_mul (c:=64) (hc:=by rw [hs];rfl) (h:=?_) | apply sw_nil | apply cw_seq | apply cw_reg | refine sy_move (h:=?_) | refine sy_assign (h:=?_) | refine sy_slen (h:=?_) | apply cw_block | (refine sw_mkSl (c:=64) (hm:=rfl) (hm2:=rfl) (h:=fun q => ?_)) | fail)
  refine cw_loop (ι:=HexI) (fun i => ⟨[(0,.string s),(3,.slice i.A (2 * i.k) i.c),(10,.int .i64 s.size),(11,.int .i64 i.k)], [orow 5 1 (.slice i.A (2 * i.k) i.c) (2 * i.k) (u8s (hexF s i.k))],fun _ => True⟩) (fun i => 32 - i.k) ⟨0,Nat.zero_le _,_,_⟩
    (ok_sub ⟨rfl,rfl,rfl,rfl,trivial⟩ (List.Sublist.refl _) fun _ h => h) fun i => ?_
  have hik := i.hk
  repeat' (first | apply sw_nil | apply cw_seq | apply cw_reg | refine sy_move (h:=?_) | refine sy_assign (h:=?_) | refine sy_lss (h:=?_) | apply cw_skip | apply cw_block | apply cw_exit | (refine cw_cond (ht:=?_) (hf:=?_);all_goals (intro hx_;first | have := of_decide_eq_true hx_ | have := of_decide_eq_false hx_)))
  · have hlt : i.k < 32 := by omega
    obtain ⟨b,hb,hbe⟩ := byteAt_lt s i.k
    obtain ⟨⟨n1,n2⟩,n3,n4⟩ := nib_all b hb
    rw [← hbe] at n1 n2 n3 n4
    (refine cw_draw [] (fun _ => True) (by kernel_rfl) ?_)
    all_goals (refine aw_take 0 (h:=?_))
    all_goals (refine aw_take 1 (h:=?_))
    all_goals (refine aw_take 2 (h:=?_))
    all_goals (refine aw_take 3 (hy:=by (apply y_strI;rfl;rfl;(omega);(omega))) (h:=?_))
    all_goals (refine aw_take 4 (h:=?_))
    all_goals (refine aw_take 5 (hy:=by (apply y_strI;rfl;rfl;(assumption);(assumption))) (h:=?_))
    all_goals (refine aw_take 6 (h:=?_))
    all_goals (refine aw_take 7 (h:=?_))
    all_goals (refine aw_take 8 (hy:=by (apply y_strI;rfl;rfl;(omega);(omega))) (h:=?_))
    all_goals (refine aw_take 9 (h:=?_))
    all_goals (refine aw_take 10 (hy:=by (apply y_strI;rfl;rfl;(assumption);(assumption))) (h:=?_))
    all_goals (refine aw_step 11 (h:=?_);(refine sw_bsl (len:=2) (vs:=u8s (hexB s i.k)) (h:=fun _ => ?_));apply sw_nil;refine aw_fin (h:=?_))
    all_goals (refine aw_step 12 (h:=?_);(refine sw_append (size:=1) (z:=.int .u8 0) (news:=u8s (hexB s i.k)) (q:=2) rfl rfl rfl rfl (fun _ => At.there _ (At.here _)) (fun w G => src_cel G List.mem_cons_self rfl rfl 2) (by omega) (by simp only [maxLen];omega) rfl ?_ rfl ?_;(with_reducible rfl);intro A2 c2);apply sw_nil;refine aw_fin (h:=?_))
    all_goals (refine aw_take 13 (h:=?_))
    all_goals (refine aw_done (h:=?_))
    rw [← u8s_append, ← hexF_succ]
    repeat' (first | apply sw_nil | apply cw_reg | refine sy_move (h:=?_) | refine sy_add (h:=?_) | fail)
    exact ⟨⟨i.k + 1,hlt,A2,c2⟩,(by show 32 - (i.k + 1) < 32 - i.k;omega),ok_sub ⟨rfl,rfl,rfl,rfl,trivial⟩ (List.sublist_cons_self _ _) fun _ h => h⟩
  · have hk : i.k = s.size := by omega
    repeat' (first | apply sw_nil | refine sy_assign (h:=?_) | apply cw_ret | (refine sy_b2s (ns:=hexF s i.k) (hm:=by (repeat (exact List.mem_cons_self))) (h:=?_)) | fail)
    apply ends_ret;apply res_tmp;rfl;rfl
    rw [hk]
    rfl
theorem hexN_lt (d : Nat) (h : d < 16) : hexN d < 256 := by
  unfold hexN
  split <;> omega
theorem hexL_lt {l : List Nat} (h : ∀ x ∈ l,x < 256) : ∀ x ∈ hexL l,x < 256 := fun x hx => by
  rw [hexL,List.mem_flatMap] at hx
  obtain ⟨b,hb,hx⟩ := hx
  have hb' := h b hb
  rcases List.mem_cons.1 hx with rfl | hx
  · exact hexN_lt _ (by omega)
  · rw [List.mem_singleton] at hx
    subst hx
    exact hexN_lt _ (Nat.mod_lt _ (by decide))
theorem hexF_nl (s : ByteArray) : ∀ n,n ≤ s.size → hexF s n = (hexL ((nl s).take n)).map fun (n : Nat) => (n : Int)
  | 0,_ => rfl
  | n + 1,h => by
    have hn : n < (nl s).length := by rw [nl_len];omega
    have hb := getD_lt (nl_lt s) n
    have he : (nl s)[n] = (nl s).getD n 0 := by rw [List.getD_eq_getElem?_getD,List.getElem?_eq_getElem hn];rfl
    rw [hexF_succ,hexF_nl s n (by omega),List.take_succ_eq_append_getElem hn,hexL,hexL,List.flatMap_append,List.map_append]
    congr 1
    obtain ⟨h1,h2⟩ := hex_all _ hb
    rw [hexB,byte_nl s n (by omega),h1,h2,he]
    rfl
theorem hex_nl (s : ByteArray) : nl (hexV s) = hexL (nl s) := by
  rw [hexV,hexF_nl s s.size (Nat.le_refl _),List.take_of_length_le (by rw [nl_len];exact Nat.le_refl _)]
  exact nl_ofInts _ (hexL_lt (nl_lt s))
theorem hexV_size (s : ByteArray) : (hexV s).size = 2 * s.size := by
  rw [← nl_len,hexV,hexF_nl s s.size (Nat.le_refl _),List.take_of_length_le (by rw [nl_len];exact Nat.le_refl _),nl_ofInts _ (hexL_lt (nl_lt s)),hexL]
  rw [← nl_len]
  generalize nl s = l
  induction l with
  | nil => rfl
  | cons a l ih => rw [List.flatMap_cons,List.length_append,ih];simp only [List.length_cons,List.length_nil];omega
def idText (p : Int) : ByteArray := textV ⟨#[97,99,116,111,114]⟩ ++ numV p
def idV (p : Int) : ByteArray := (hexV (shaV (idText p))).extract 0 16
theorem identOf_pu (p : Int) (hp : p < 9223372036854775808) : Pu Tryz.prog 47 #[.int .i64 p] Glob (.string (idV p)) := by
  refine pu_of_cw (args:=[_]) _ Tryz.func47 rfl Tryz.ntmps47 rfl fun av bor w0 => ?_
  have h1 := textV_size ⟨#[97,99,116,111,114]⟩
  have h2 := numV_size p
  have h5 : (⟨#[97,99,116,111,114]⟩ : ByteArray).size = 5 := rfl
  have hsz : (idText p).size ≤ 1099511627776 := by rw [idText,ByteArray.size_append];omega
  have hhx := hexV_size (shaV (idText p))
  rw [shaV_size] at hhx
  repeat' (first | apply sw_nil | apply cw_seq | apply cw_reg | refine sy_move (h:=?_) | refine sy_assign (h:=?_) | apply cw_ret | refine sw_pu (hc:=text_pu _ (by omega)) (h:=?_) | refine sw_pu (hc:=num_pu _ hp) (h:=?_) | (refine sy_cat (h:=?_)) | (refine sw_pu (hc:=sha_pu (idText p) hsz) (hX:=fun _ h => h) (h:=?_)) | (refine sw_pu (hc:=hex_pu (shaV (idText p)) (shaV_size _)) (hX:=fun _ _ => trivial) (h:=?_)) | (refine sy_strH (h1:=by omega) (h:=?_)) | fail)
  apply ends_ret;apply res_tmp;rfl;rfl
  rfl
end Go.Proofs.YtjmpdkmboheknaaGreatDoor

namespace Go.Proofs.YtjmpdkmboheknaaGreatDoor
open Go Go.Proofs Sy
def ActD.sig (a : ActD) (g : SgD) : ActD := { a with e := g.e,s := g.s }
def actSignV (k : KyD) (a : ActD) : ActD := bif rightB (a.sig SgD.zero) && rightK k then a.sig (signV k (coreV (a.sig SgD.zero))) else ActD.zero
theorem rng_sig {a : ActD} (h : a.Rng) {g : SgD} (h1 : g.e < 9223372036854775808) (h2 : g.s < 9223372036854775808) : (a.sig g).Rng := by
  obtain ⟨⟨i1,i2,i3,i4,i5,i6,i7,i8,i9⟩,h2',h3,h4⟩ := h
  exact ⟨⟨i1,i2,i3,i4,i5,i6,i7,h1,h2⟩,h2',h3,h4⟩
def ActTo (b : ActD) (u : Value) (X : World → Prop) : Prop := ∃ s1 s2 : SlV,u = (b.re s1 s2).v ∧ s1.n = b.to.n ∧ s2.n = b.wraps.n ∧ ∀ w,X w → (b.re s1 s2).at_ w
set_option maxRecDepth 20000 in
set_option maxHeartbeats 2000000 in
theorem actSign_mk (k : KyD) (a : ActD) (hr : a.Rng) (hs : a.Sm) : Mk Tryz.prog 48 #[k.v,a.v] (fun w => a.at_ w ∧ Glob w) (ActTo (actSignV k a)) := by
  refine mk_of_cw2 (args:=[_,_]) _ Tryz.func48 rfl Tryz.ntmps48 rfl fun av bor w0 => ?_
  have hr0 : (a.sig SgD.zero).Rng := rng_sig hr (by decide) (by decide)
  have hri := actRight_pu (a.sig SgD.zero)
  have hrk := signRight_pu k
  cases hb : rightB (a.sig SgD.zero) with
  | false =>
    rw [hb] at hri
    rw [show actSignV k a = ActD.zero from by rw [actSignV,hb];rfl]
    repeat' (first | apply sw_nil | apply cw_seq | apply cw_reg | refine sy_move (h:=?_) | refine sy_fld (h:=?_) | refine sy_ldAll (h:=?_) | refine sy_pick_t (h:=?_) | refine sy_not (h:=?_) | refine sw_skipF (h:=?_) | refine sw_alloc (h:=fun _ => ?_) | refine sw_box (h:=fun _ => ?_) | refine sw_stAll (h:=?_) | refine cw_cond_t (ht:=?_) | apply cw_ret | (refine sy_build (cs:=SgD.zero.cells) (hf:=by rfl) (h:=?_)) | (refine sw_stSub (a.sig SgD.zero).cells (h:=?_)) | (refine sw_pu (hc:=hri) (hX:=fun _ h => h.1) (h:=?_)) | (refine sy_build (cs:=ActD.zero.cells) (hf:=by rfl) (h:=?_)) | fail)
    refine ends_ret (res_cell rfl rfl (by (repeat (exact List.mem_cons_self))) (by rfl)) ⟨⟨none,0,0⟩,⟨none,0,0⟩,rfl,rfl,rfl,fun w _ => ⟨rowsD_nil w 1,rowsD_nil w 5⟩⟩
  | true =>
    rw [hb] at hri
    cases hk : rightK k with
    | false =>
      rw [hk] at hrk
      rw [show actSignV k a = ActD.zero from by rw [actSignV,hb,hk];rfl]
      repeat' (first | apply sw_nil | apply cw_seq | apply cw_reg | refine sy_move (h:=?_) | refine sy_fld (h:=?_) | refine sy_ldAll (h:=?_) | refine sy_pick_f (h:=?_) | refine sy_not (h:=?_) | refine sw_alloc (h:=fun _ => ?_) | refine sw_box (h:=fun _ => ?_) | refine sw_stAll (h:=?_) | refine cw_cond_t (ht:=?_) | apply cw_ret | (refine sy_build (cs:=SgD.zero.cells) (hf:=by rfl) (h:=?_)) | (refine sw_stSub (a.sig SgD.zero).cells (h:=?_)) | (refine sw_pu (hc:=hri) (hX:=fun _ h => h.1) (h:=?_)) | (refine sw_pu (hc:=hrk) (hX:=fun _ _ => trivial) (h:=?_)) | (refine sy_build (cs:=ActD.zero.cells) (hf:=by rfl) (h:=?_)) | fail)
      refine ends_ret (res_cell rfl rfl (by (repeat (exact List.mem_cons_self))) (by rfl)) ⟨⟨none,0,0⟩,⟨none,0,0⟩,rfl,rfl,rfl,fun w _ => ⟨rowsD_nil w 1,rowsD_nil w 5⟩⟩
    | true =>
      rw [hk] at hrk
      rw [show actSignV k a = a.sig (signV k (coreV (a.sig SgD.zero))) from by rw [actSignV,hb,hk];rfl]
      have hco := core_pu (a.sig SgD.zero) (fun h => fit_of_right hr0 h)
      rw [hb] at hco
      have hcs := coreV_size (fit_of_right hr0 hb)
      have hsi := sign_pu k (coreV (a.sig SgD.zero)) (by omega)
      generalize hg : signV k (coreV (a.sig SgD.zero)) = g at *
      repeat' (first | apply sw_nil | apply cw_seq | apply cw_reg | refine sy_move (h:=?_) | refine sy_fld (h:=?_) | refine sy_ldAll (h:=?_) | refine sy_pick_f (h:=?_) | refine sy_not (h:=?_) | refine sw_alloc (h:=fun _ => ?_) | refine sw_box (h:=fun _ => ?_) | refine cw_cond_f (hf:=?_) | apply cw_skip | (refine sy_build (cs:=SgD.zero.cells) (hf:=by rfl) (h:=?_)) | (refine sw_stSub (a.sig SgD.zero).cells (h:=?_)) | (refine sw_pu (hc:=hri) (hX:=fun _ h => h.1) (h:=?_)) | (refine sw_pu (hc:=hrk) (hX:=fun _ _ => trivial) (h:=?_)) | fail)
      rename_i b2 b3 b4
      (refine cw_draw [cel b2 67 k.cells] (fun w => a.at_ w ∧ Glob w) (by kernel_rfl) ?_)
      all_goals (refine aw_take 0 (h:=?_))
      all_goals (refine aw_step 1 (h:=?_);(refine sy_ldAll (h:=?_));apply sw_nil;refine aw_fin (h:=?_))
      all_goals (refine aw_step 2 (h:=?_);(refine sw_pu (hc:=hco) (hX:=fun _ h => h.1) (h:=?_));apply sw_nil;refine aw_fin (h:=?_))
      all_goals (refine aw_step 3 (h:=?_);(refine sw_pu (hc:=hsi) (hX:=fun _ h => h.2) (h:=?_));apply sw_nil;refine aw_fin (h:=?_))
      all_goals (refine aw_take 4 (h:=?_))
      all_goals (refine aw_step 5 (h:=?_);(refine sw_stSub (a.sig g).cells (h:=?_));apply sw_nil;refine aw_fin (h:=?_))
      all_goals (refine aw_done (h:=?_))
      repeat' (first | apply cw_seq | apply cw_reg | refine sy_fld (h:=?_) | refine sy_ld (h:=?_) | fail)
      refine sw_mk (hc:=cloneS_mk a.to (strs a.toL) hs.to (fun cs hcs => by simp only [strs,List.mem_map] at hcs;obtain ⟨x,_,rfl⟩ := hcs;rfl)) (hX:=fun w h => h.1.1) (h:=fun v1 X1 h1 => ?_)
      obtain ⟨s1,rfl,hn1,hw1⟩ := h1
      repeat' (first | apply sw_nil | apply cw_seq | apply cw_reg | refine sy_fld (h:=?_) | refine sy_ld (h:=?_) | refine sw_st1 (h:=?_) | fail)
      refine sw_mk (hc:=cloneW_mk a.wraps (a.wrapsL.map WrapD.cells) hs.wraps (fun cs hcs => by simp only [List.mem_map] at hcs;obtain ⟨x,_,rfl⟩ := hcs;rfl)) (hX:=fun w h => h.1.1.2) (h:=fun v2 X2 h2 => ?_)
      obtain ⟨s2,rfl,hn2,hw2⟩ := h2
      repeat' (first | apply sw_nil | apply cw_seq | apply cw_reg | refine sy_fld (h:=?_) | refine sy_ldAll (h:=?_) | refine sw_st1 (h:=?_) | refine sw_stAll (h:=?_) | apply cw_ret | fail)
      refine ends_ret (res_cell rfl rfl (by (repeat (exact List.mem_cons_self))) (by rfl)) ⟨s1,s2,rfl, ?_, ?_,fun w h => ⟨hw1 w h.1.1.2,hw2 w h.1.2⟩⟩
      · show s1.n = a.to.n
        rw [hn1,hr.to_len]
        simp [strs]
      · show s2.n = a.wraps.n
        rw [hn2,hr.wraps_len]
        simp
end Go.Proofs.YtjmpdkmboheknaaGreatDoor

namespace Go.Proofs.YtjmpdkmboheknaaGreatDoor
open Go Go.Proofs Sy
def numL : Nat → Nat → List Nat
  | 0,_ => []
  | f + 1,n => bif decide (128 ≤ n) then (128 + n % 128) :: numL f (n / 128) else [n]
theorem numD_nl : ∀ (f n : Nat),numD f (n : Int) = (numL f n).map fun (n : Nat) => (n : Int)
  | 0,n => rfl
  | f + 1,n => by
    rw [numD,numL]
    by_cases h : 128 ≤ n
    · have e1 : lowD (n : Int) = ((128 + n % 128 : Nat) : Int) := by
        rw [lowD,show (n : Int).tmod 128 = ((n % 128 : Nat) : Int) from rfl,show (128 : Int) + ((n % 128 : Nat) : Int) = ((128 + n % 128 : Nat) : Int) from by omega,wrap8,Nat.mod_eq_of_lt (by omega)]
      rw [decide_eq_true (show (128 : Int) ≤ (n : Int) by omega),decide_eq_true h,cond_true,cond_true,List.map_cons,e1,show (n : Int).tdiv 128 = ((n / 128 : Nat) : Int) from rfl,numD_nl f]
    · rw [decide_eq_false (show ¬ (128 : Int) ≤ (n : Int) by omega),decide_eq_false h,cond_false,cond_false,wrap8,Nat.mod_eq_of_lt (by omega)]
      rfl
theorem numL_lt : ∀ (f n : Nat), ∀ x ∈ numL f n,x < 256
  | 0,n,x,h => (List.not_mem_nil h).elim
  | f + 1,n,x,h => by
    rw [numL] at h
    by_cases h1 : 128 ≤ n
    · rw [decide_eq_true h1,cond_true] at h
      rcases List.mem_cons.1 h with rfl | h
      · omega
      · exact numL_lt f _ x h
    · rw [decide_eq_false h1,cond_false,List.mem_singleton] at h
      omega
theorem num_nl (n : Nat) : nl (numV (n : Int)) = numL 10 n := by
  rw [numV,decide_eq_false (by omega),cond_false,numD_nl,nl_ofInts _ (numL_lt 10 n)]
theorem numI_nl {n : Int} (h : 0 ≤ n) : nl (numV n) = numL 10 n.toNat := by rw [← num_nl,Int.toNat_of_nonneg h]
def textL (l : List Nat) : List Nat := numL 10 l.length ++ l
theorem text_nl (s : ByteArray) : nl (textV s) = textL (nl s) := by
  rw [textV,nl_append,num_nl,textL,nl_len]
def boxL (b : BoxD) : List Nat := textL (nl b.nonce) ++ textL (nl b.data) ++ textL (nl b.tag)
def coreL (a : ActD) : List Nat :=
  textL [97,99,116] ++ (textL (nl a.author) ++ (numL 10 a.seq.toNat ++ (textL (nl a.prev) ++ (numL 10 a.kind.toNat ++ (numL 10 a.time.toNat ++ (textL (nl a.object) ++ (textL (nl a.target) ++ (numL 10 a.scope.toNat ++ (textL (nl a.group) ++ (numL 10 0 ++ (textL (nl a.text) ++ (boxL a.body ++ (numL 10 a.epoch.toNat ++ (numL 10 0 ++ (numL 10 a.n.toNat ++ numL 10 a.m.toNat)))))))))))))))
structure ActD.Pos (a : ActD) : Prop where
  seq : 0 ≤ a.seq
  kind : 0 ≤ a.kind
  time : 0 ≤ a.time
  scope : 0 ≤ a.scope
  epoch : 0 ≤ a.epoch
  n : 0 ≤ a.n
  m : 0 ≤ a.m
  toL : a.toL = []
  wrapsL : a.wrapsL = []
theorem core_nl (a : ActD) (h : a.Pos) : nl (coreV a) = coreL a := by
  have e1 : nl (⟨#[97,99,116]⟩ : ByteArray) = [97,99,116] := rfl
  have e2 : nl ByteArray.empty = [] := rfl
  simp only [coreV,core5,core4,core3,core2,core1,boxV,listV,h.toL,h.wrapsL,List.map_nil,List.take_nil,cats,List.length_nil,nl_append,text_nl,e1,e2,num_nl,numI_nl h.seq,numI_nl h.kind,numI_nl h.time,numI_nl h.scope,numI_nl h.epoch,numI_nl h.n,numI_nl h.m,List.append_assoc,List.append_nil,coreL,boxL]
def hashL (m : List Nat) : Nat := numN (shaL m)
theorem hash_nl (xs : List ByteArray) (hs : (catB xs).size < 2305843009213693952) : hashN xs = hashL (xs.flatMap nl) := by
  rw [hashN,sha_nl _ hs,nl_cat,hashL]
def powF : Nat → Nat → Nat → Nat → Nat
  | 0,_,x,_ => x
  | f + 1,e,x,s => fc (bif decide (e % 2 = 1) then x * s % 2305843009213693951 else x) fun x' => fc (s * s % 2305843009213693951) fun s' => fc (e / 2) fun e' => powF f e' x' s'
theorem powF_eq (a e : Nat) : ∀ (f i : Nat),powF f (e / 2 ^ i) (expF a e i).1 (expF a e i).2 = (expF a e (i + f)).1
  | 0,i => rfl
  | f + 1,i => by
    have ih := powF_eq a e f (i + 1)
    rw [powF,fc_eq,fc_eq,fc_eq,Nat.div_div_eq_div_mul, ← Nat.pow_succ,show i + (f + 1) = i + 1 + f by omega, ← ih]
    rfl
def powL (a e : Nat) : Nat := powF (Lib.bitLen e) e 1 (a % 2305843009213693951)
theorem exp_nl (a e : Nat) : expV a e = powL a e := by
  have h := powF_eq a e (Lib.bitLen e) 0
  rw [Nat.pow_zero,Nat.div_one,Nat.zero_add] at h
  exact h.symm
theorem lt_big {n : Nat} (h : n ≤ 1000000) : n < 2305843009213693952 := by omega
def nonceL (S : Nat) (m : List Nat) : Nat := reduceN (hashL (textL [110,111,110,99,101] ++ (numL 10 S ++ textL m)))
theorem nonce_nl (S : Nat) (msg : ByteArray) (hl : (nl msg).length ≤ 100000) : nonceN (S : Int) msg = nonceL S (nl msg) := by
  have h1 := textV_size ⟨#[110,111,110,99,101]⟩
  have h2 := numV_size (S : Int)
  have h3 := textV_size msg
  have h5 : (⟨#[110,111,110,99,101]⟩ : ByteArray).size = 5 := rfl
  rw [nl_len] at hl
  rw [nonceN,nonceL,nonceP,hash_nl _ (lt_big (by
    rw [catB_size]
    simp only [List.map_cons,List.map_nil,List.sum_cons,List.sum_nil]
    omega))]
  have e : nl (⟨#[110,111,110,99,101]⟩ : ByteArray) = [110,111,110,99,101] := rfl
  simp only [List.flatMap_cons,List.flatMap_nil,text_nl,num_nl,List.append_nil,e]
def chalL (r p : Nat) (m : List Nat) : Nat := hashL (textL [115,105,103,110] ++ (numL 10 r ++ (numL 10 p ++ textL m))) % 2305843009213693950
theorem chal_nl (r p : Nat) (msg : ByteArray) (hl : (nl msg).length ≤ 100000) : chalN r p msg = chalL r p (nl msg) := by
  have h1 := textV_size ⟨#[115,105,103,110]⟩
  have h2 := numV_size (r : Int)
  have h4 := numV_size (p : Int)
  have h3 := textV_size msg
  have h5 : (⟨#[115,105,103,110]⟩ : ByteArray).size = 4 := rfl
  rw [nl_len] at hl
  rw [chalN,chalL,chalP,hash_nl _ (lt_big (by
    rw [catB_size]
    simp only [List.map_cons,List.map_nil,List.sum_cons,List.sum_nil]
    omega))]
  have e : nl (⟨#[115,105,103,110]⟩ : ByteArray) = [115,105,103,110] := rfl
  simp only [List.flatMap_cons,List.flatMap_nil,text_nl,num_nl,List.append_nil,e]
theorem core_sig (a : ActD) (g g' : SgD) : coreV (a.sig g) = coreV (a.sig g') := rfl
theorem dig_lit {a : ActD} (hr : rightB a = true) {m : List Nat} (hm : nl (coreV a) = m) (hm0 : m.length ≠ 0) (hl : m.length ≤ 100000) {E G : Nat} (he : a.e = (E : Nat)) (hs : a.s = (G : Nat)) {D : ByteArray} (h : shaL (0 :: (m ++ (numL 10 E ++ numL 10 G))) = nl D) : digV a = D := by
  subst hm
  have hsz : (coreV a).size = (nl (coreV a)).length := (nl_len _).symm
  have e1 : actCore a = coreV a := by rw [actCore,hr,cond_true]
  have e2 : actBytes a = coreV a ++ numV a.e ++ numV a.s := by rw [actBytes,e1,seqB_empty,decide_eq_false (by omega),cond_false]
  have e3 : bytesV a = numV 0 ++ (coreV a ++ numV a.e ++ numV a.s) := by rw [bytesV,hr,cond_true,e2]
  have e4 : nl (bytesV a) = 0 :: (nl (coreV a) ++ (numL 10 E ++ numL 10 G)) := by
    rw [e3,nl_append,nl_append,nl_append,he,hs,num_nl,num_nl,List.append_assoc]
    rfl
  have e5 : (bytesV a).size = (nl (coreV a)).length + (numL 10 E ++ numL 10 G).length + 1 := by rw [← nl_len,e4,List.length_cons,List.length_append]
  have e6 : ∀ f n,(numL f n).length ≤ f := fun f => by
    induction f with
    | zero => intro n;exact Nat.le_refl 0
    | succ f ih =>
      intro n
      rw [numL]
      cases decide (128 ≤ n) with
      | true => have := ih (n / 128);rw [cond_true,List.length_cons];omega
      | false => rw [cond_false,List.length_singleton];omega
  have e7 : (bytesV a).size ≤ 1000000 := by
    have h1 := e6 10 E
    have h2 := e6 10 G
    rw [e5,List.length_append]
    omega
  rw [digV,seqB_empty,decide_eq_false (by omega),cond_false]
  apply nl_inj
  rw [sha_nl _ (lt_big e7),e4,h]
theorem keyG_lit {seed : ByteArray} {S P : Nat} (hsz : seed.size ≤ 1000) (h1 : reduceN (hashL (textL [107,101,121] ++ textL (nl seed))) = S) (h2 : powL 37 S = P) : keyOf seed = ⟨(S : Nat),(P : Nat)⟩ := by
  have h3 := textV_size ⟨#[107,101,121]⟩
  have h4 := textV_size seed
  have h5 : (⟨#[107,101,121]⟩ : ByteArray).size = 3 := rfl
  have e : nl (⟨#[107,101,121]⟩ : ByteArray) = [107,101,121] := rfl
  have hk : keyN seed = S := by
    rw [← h1,keyN,keyP,hash_nl _ (lt_big (by
      rw [catB_size]
      simp only [List.map_cons,List.map_nil,List.sum_cons,List.sum_nil]
      omega))]
    simp only [List.flatMap_cons,List.flatMap_nil,text_nl,List.append_nil,e]
  rw [keyOf,hk,exp_nl,h2]
theorem idG_lit {P : Nat} {D : ByteArray} (h : (hexL (shaL (textL [97,99,116,111,114] ++ numL 10 P))).take 16 = nl D) : idV (P : Int) = D := by
  apply nl_inj
  have h3 := textV_size ⟨#[97,99,116,111,114]⟩
  have h4 := numV_size (P : Int)
  have h5 : (⟨#[97,99,116,111,114]⟩ : ByteArray).size = 5 := rfl
  have e : nl (⟨#[97,99,116,111,114]⟩ : ByteArray) = [97,99,116,111,114] := rfl
  rw [idV,nl_extract,hex_nl,sha_nl _ (lt_big (by rw [idText,ByteArray.size_append];omega)),idText,nl_append,text_nl,num_nl,e, ← h]
  rfl
theorem signG_lit {k : KyD} {S P : Nat} (hrk : rightK k = true) (hk : k = ⟨(S : Nat),(P : Nat)⟩) {a : ActD} (hr : rightB (a.sig SgD.zero) = true) {m : List Nat} (hm : nl (coreV (a.sig SgD.zero)) = m) (hl : m.length ≤ 100000) {K R E G : Nat} (h1 : nonceL S m = K) (h2 : powL 37 K = R) (h3 : chalL R P m = E)
    (h4 : (K + E * S % 2305843009213693950) % 2305843009213693950 = G) : actSignV k a = a.sig ⟨(E : Nat),(G : Nat)⟩ := by
  subst hm
  have e1 : sigE k (coreV (a.sig SgD.zero)) = E := by
    rw [sigE,hk]
    show chalN (expV 37 (nonceN (S : Int) _)) ((P : Int)).toNat _ = E
    rw [nonce_nl S _ hl,h1,exp_nl,h2,Int.toNat_natCast,chal_nl _ _ _ hl,h3]
  have e2 : sigS k (coreV (a.sig SgD.zero)) = G := by
    rw [sigS,e1,hk]
    show (nonceN (S : Int) _ + E * ((S : Int)).toNat % 2305843009213693950) % 2305843009213693950 = G
    rw [nonce_nl S _ hl,h1,Int.toNat_natCast,h4]
  rw [actSignV,hr,hrk,Bool.and_true,cond_true,signV,hrk,cond_true,e1,e2]
end Go.Proofs.YtjmpdkmboheknaaGreatDoor

namespace Go.Proofs.YtjmpdkmboheknaaGreatDoor
open Go Go.Proofs Sy
def ordV (n : Int) : Bool := decide (0 ≤ n) && decide (n < 2305843009213693950)
theorem inOrder_pu (n : Int) : Pu Tryz.prog 206 #[.int .i64 n] (fun _ => True) (.bool (ordV n)) := by
  refine pu_of_cw (args:=[_]) _ Tryz.func206 rfl Tryz.ntmps206 rfl fun av bor w0 => ?_
  repeat' (first | apply sw_nil | apply cw_seq | apply cw_reg | refine sy_move (h:=?_) | refine sy_assign (h:=?_) | refine sy_pick_t (h:=?_) | refine sy_pick_f (h:=?_) | refine sy_lss (h:=?_) | refine sy_geq (h:=?_) | refine sw_skipT (h:=?_) | apply cw_ret | ((fail_if_success (refine sw_chk (h:=?_)));refine sw_guard (ht:=?_) (hf:=?_);all_goals (intro hx_;first | have := of_decide_eq_true hx_ | have := of_decide_eq_false hx_)) | fail)
  (all_goals (apply ends_ret;apply res_tmp;rfl;rfl));all_goals (simp only [ordV, *,decide_true,decide_false,cond_true,cond_false,Bool.and_true,Bool.true_and,Bool.and_false,Bool.false_and,Bool.not_true,Bool.not_false,Bool.or_true,Bool.true_or,Bool.or_false,Bool.false_or];done)
end Go.Proofs.YtjmpdkmboheknaaGreatDoor

namespace Go.Proofs.YtjmpdkmboheknaaGreatDoor
open Go Go.Proofs Sy
def verN (p : Int) (msg : ByteArray) (e s : Int) : Bool :=
  bif decide (p < 1) || decide (2305843009213693951 ≤ p) || !ordV e || !ordV s then false
  else decide (e = (chalN (expV 37 s.toNat * expV p.toNat (2305843009213693950 - e.toNat) % 2305843009213693951) p.toNat msg : Nat))
set_option maxHeartbeats 4000000 in
theorem verify_pu (p : Int) (msg : ByteArray) (e s : Int) (hm : msg.size ≤ 1000000000000) : Pu Tryz.prog 147 #[.int .i64 p,.string msg,(SgD.v ⟨e,s⟩)] Glob (.bool (verN p msg e s)) := by
  refine pu_of_cw (args:=[_,_,_]) _ Tryz.func147 rfl Tryz.ntmps147 rfl fun av bor w0 => ?_
  have hoe := inOrder_pu e
  have hos := inOrder_pu s
  cases hbad : (decide (p < 1) || decide (2305843009213693951 ≤ p) || !ordV e || !ordV s) with
  | true =>
    rw [show verN p msg e s = false from by rw [verN,hbad];rfl]
    repeat' (first | apply sw_nil | apply cw_seq | apply cw_reg | refine sy_move (h:=?_) | refine sy_assign (h:=?_) | refine sy_fld (h:=?_) | refine sy_ld (h:=?_) | refine sy_pick_t (h:=?_) | refine sy_pick_f (h:=?_) | refine sy_not (h:=?_) | refine sy_lss (h:=?_) | refine sy_geq (h:=?_) | refine sw_skipF (h:=?_) | refine sw_box (h:=fun _ => ?_) | refine cw_cond_t (ht:=?_) | apply cw_skip | apply cw_ret | (refine sw_pu (hc:=hoe) (hX:=fun _ _ => trivial) (h:=?_)) | (refine sw_pu (hc:=hos) (hX:=fun _ _ => trivial) (h:=?_)) | ((fail_if_success (refine sw_chk (h:=?_)));refine sw_guard (ht:=?_) (hf:=?_);all_goals (intro hx_;first | have := of_decide_eq_true hx_ | have := of_decide_eq_false hx_ | skip)) | (refine cw_cond (ht:=?_) (hf:=?_);all_goals (intro hx_;skip)))
    all_goals first
      | (apply ends_ret;apply res_tmp;rfl;rfl;rfl)
      | (exfalso;simp_all;done)
  | false =>
    have hb := hbad
    simp only [Bool.or_eq_false_iff,decide_eq_false_iff_not,Bool.not_eq_false'] at hb
    obtain ⟨⟨⟨h1,h2⟩,h3⟩,h4⟩ := hb
    have h3' := h3
    have h4' := h4
    simp only [ordV,Bool.and_eq_true,decide_eq_true_eq] at h3' h4'
    rw [h3] at hoe
    rw [h4] at hos
    obtain ⟨pn,rfl⟩ : ∃ n : Nat,p = (n : Int) := ⟨p.toNat,by omega⟩
    obtain ⟨en,rfl⟩ : ∃ n : Nat,e = (n : Int) := ⟨e.toNat,by omega⟩
    obtain ⟨sn,rfl⟩ : ∃ n : Nat,s = (n : Int) := ⟨s.toNat,by omega⟩
    obtain ⟨d,hd⟩ : ∃ d,2305843009213693950 - en = d := ⟨_,rfl⟩
    have hsub : IntKind.i64.wrap ((2305843009213693950 : Int) - (en : Int)) = (d : Int) := by
      rw [show (2305843009213693950 : Int) - (en : Int) = (d : Int) from by omega]
      exact IntWalk.i64_in _ (by omega)
    have he1 := exp_pu 37 sn (by omega)
    have he2 := exp_pu pn d (by omega)
    obtain ⟨x1,hx1⟩ : ∃ x,expV 37 sn = x := ⟨_,rfl⟩
    obtain ⟨x2,hx2⟩ : ∃ x,expV pn d = x := ⟨_,rfl⟩
    rw [hx1] at he1
    rw [hx2] at he2
    have hmu := Mul_pu x1 x2
    obtain ⟨r,hr⟩ : ∃ r,x1 * x2 % 2305843009213693951 = r := ⟨_,rfl⟩
    have hrl : r < 2305843009213693951 := by rw [← hr];exact Nat.mod_lt _ (by decide)
    rw [hr] at hmu
    have hch := chal_pu r pn msg (by omega) (by omega) hm
    have hV : verN (pn : Int) msg (en : Int) (sn : Int) = decide (((en : Nat) : Int) = (chalN r pn msg : Nat)) := by
      rw [verN,hbad,cond_false,Int.toNat_natCast,Int.toNat_natCast,Int.toNat_natCast,hd,hx1,hx2,hr]
    rw [hV]
    have hbg : ¬ (2305843009213693951 : Int) ≤ (pn : Int) := h2
    have hbl : ¬ (pn : Int) < 1 := h1
    clear hbad hV hr hx1 hx2 hd
    generalize hcn : chalN r pn msg = cn at hch
    repeat' (first | refine sw_yield (y_lssW false rfl rfl (decide_eq_false hbl)) rfl (by (first | with_reducible rfl | with_reducible exact Bool.not_true)) rfl ?_ | refine sw_yield (y_geqW false rfl rfl (decide_eq_false hbg)) rfl (by (first | with_reducible rfl | with_reducible exact Bool.not_true)) rfl ?_ | apply sw_nil | apply cw_seq | apply cw_reg | refine sy_move (h:=?_) | refine sy_assign (h:=?_) | refine sy_fld (h:=?_) | refine sy_ld (h:=?_) | refine sy_pick_f (h:=?_) | refine sy_not (h:=?_) | refine sw_box (h:=fun _ => ?_) | refine cw_cond_f (hf:=?_) | apply cw_skip | (refine sw_pu (hc:=hoe) (hX:=fun _ _ => trivial) (h:=?_)) | (refine sw_pu (hc:=hos) (hX:=fun _ _ => trivial) (h:=?_)) | fail)
    rename_i bs
    (refine cw_draw [cel bs 44 (SgD.cells ⟨(en : Int),(sn : Int)⟩)] Glob (by kernel_rfl) ?_)
    all_goals (refine aw_take 0 (hsub:=by (exact fun _ h => h.drop (by ((repeat (exact List.Sublist.refl _));done)))) (h:=?_))
    all_goals (refine aw_take 1 (hsub:=by (exact fun _ h => h.drop (by ((repeat (exact List.Sublist.refl _));done)))) (h:=?_))
    all_goals (refine aw_take 3 (hsub:=by (exact fun _ h => h.drop (by ((repeat (exact List.Sublist.refl _));done)))) (h:=?_))
    all_goals (refine aw_take 4 (hsub:=by (exact fun _ h => h.drop (by ((repeat (exact List.Sublist.refl _));done)))) (h:=?_))
    all_goals (refine aw_take 5 (hsub:=by (exact fun _ h => h.drop (by ((repeat (exact List.Sublist.refl _));done)))) (h:=?_))
    all_goals (refine aw_take 6 (hsub:=by (exact fun _ h => h.drop (by ((repeat (exact List.Sublist.refl _));done)))) (hy:=by (apply y_sub (c:=(d : Int));rfl;rfl;exact hsub)) (h:=?_))
    all_goals (refine aw_step 2 (h:=?_);(refine sw_pu (hc:=he1) (hX:=fun _ h => by trivial) (h:=?_));apply sw_nil;refine aw_fin (hsub:=by (exact fun _ h => h.drop (by ((repeat (exact List.Sublist.refl _));done)))) (h:=?_))
    all_goals (refine aw_step 7 (h:=?_);(refine sw_pu (hc:=he2) (hX:=fun _ h => by trivial) (h:=?_));apply sw_nil;refine aw_fin (hsub:=by (exact fun _ h => h.drop (by ((repeat (exact List.Sublist.refl _));done)))) (h:=?_))
    all_goals (refine aw_step 8 (h:=?_);(refine sw_pu (hc:=hmu) (hX:=fun _ h => by trivial) (h:=?_));apply sw_nil;refine aw_fin (hsub:=by (exact fun _ h => h.drop (by ((repeat (exact List.Sublist.refl _));done)))) (h:=?_))
    all_goals (refine aw_take 9 (hsub:=by (exact fun _ h => h.drop (by ((repeat (exact List.Sublist.refl _));done)))) (h:=?_))
    all_goals (refine aw_done (h:=?_))
    all_goals
      repeat' (first | apply cw_seq | fail)
      (refine cw_draw [cel bs 44 (SgD.cells ⟨(en : Int),(sn : Int)⟩)] Glob (by kernel_rfl) ?_)
      all_goals (refine aw_take 0 (hsub:=by (exact fun _ h => h.drop (by ((repeat (exact List.Sublist.refl _));done)))) (h:=?_))
      all_goals (refine aw_take 1 (hsub:=by (exact fun _ h => h.drop (by ((repeat (exact List.Sublist.refl _));done)))) (h:=?_))
      all_goals (refine aw_take 2 (hsub:=by (exact fun _ h => h.drop (by ((repeat (exact List.Sublist.refl _));done)))) (h:=?_))
      all_goals (refine aw_take 3 (hsub:=by (exact fun _ h => h.drop (by ((repeat (exact List.Sublist.refl _));done)))) (h:=?_))
      all_goals (refine aw_take 4 (hsub:=by (exact fun _ h => h.drop (by ((repeat (exact List.Sublist.refl _));done)))) (h:=?_))
      all_goals (refine aw_step 5 (h:=?_);(refine sw_pu (hc:=hch) (hX:=fun _ h => h) (h:=?_));apply sw_nil;refine aw_fin (hsub:=by (exact fun _ h => h.drop (by ((repeat (exact List.Sublist.refl _));done)))) (h:=?_))
      all_goals (refine aw_take 6 (hsub:=by (exact fun _ h => h.drop (by ((repeat (exact List.Sublist.refl _));done)))) (h:=?_))
      all_goals (refine aw_take 7 (hsub:=by (exact fun _ h => h.drop (by ((repeat (exact List.Sublist.refl _));done)))) (h:=?_))
      all_goals (refine aw_done (h:=?_))
      all_goals
        repeat' (first | apply cw_ret | fail)
        exact ends_ret (res_tmp rfl rfl) rfl
def verV (p : Int) (a : ActD) : Bool := rightB a && verN p (actCore a) a.e a.s
theorem actVerify_pu (p : Int) (a : ActD) (hr : a.Rng) : Pu Tryz.prog 91 #[.int .i64 p,a.v] (fun w => a.at_ w ∧ Glob w) (.bool (verV p a)) := by
  refine pu_of_cw (args:=[_,_]) _ Tryz.func91 rfl Tryz.ntmps91 rfl fun av bor w0 => ?_
  have hri := actRight_pu a
  cases hR : rightB a with
  | false =>
    rw [hR] at hri
    rw [show verV p a = false from by rw [verV,hR];rfl]
    repeat' (first | apply sw_nil | apply cw_seq | apply cw_reg | refine sy_assign (h:=?_) | refine sw_box (h:=fun _ => ?_) | fail)
    rename_i b3
    (refine cw_draw [cel b3 46 a.cells] (fun w => a.at_ w ∧ Glob w) (by kernel_rfl) ?_)
    all_goals (refine aw_take 0 (hsub:=by (exact fun _ h => h.drop (by ((repeat (exact List.Sublist.refl _));done)))) (h:=?_))
    all_goals (refine aw_step 1 (h:=?_);(refine sw_pu (hc:=hri) (hX:=fun _ h => h.1) (h:=?_));apply sw_nil;refine aw_fin (hsub:=by (exact fun _ h => h.drop (by ((repeat (exact List.Sublist.refl _));done)))) (h:=?_))
    all_goals (refine aw_take 2 (hsub:=by (exact fun _ h => h.drop (by ((repeat (exact List.Sublist.refl _));done)))) (h:=?_))
    all_goals (refine aw_skipT 3 (hsub:=by (exact fun _ h => h.drop (by ((repeat (exact List.Sublist.refl _));done)))) (h:=?_))
    all_goals (refine aw_skipT 4 (hsub:=by (exact fun _ h => h.drop (by ((repeat (exact List.Sublist.refl _));done)))) (h:=?_))
    all_goals (refine aw_skipT 6 (hsub:=by (exact fun _ h => h.drop (by ((repeat (exact List.Sublist.refl _));done)))) (h:=?_))
    all_goals (refine aw_skipT 7 (hsub:=by (exact fun _ h => h.drop (by ((repeat (exact List.Sublist.refl _));done)))) (h:=?_))
    all_goals (refine aw_step 5 (h:=?_);(refine sw_skipT (h:=?_));apply sw_nil;refine aw_fin (hsub:=by (exact fun _ h => h.drop (by ((repeat (exact List.Sublist.refl _));done)))) (h:=?_))
    all_goals (refine aw_step 8 (h:=?_);(refine sw_skipT (h:=?_));apply sw_nil;refine aw_fin (hsub:=by (exact fun _ h => h.drop (by ((repeat (exact List.Sublist.refl _));done)))) (h:=?_))
    all_goals (refine aw_take 9 (hsub:=by (exact fun _ h => h.drop (by ((repeat (exact List.Sublist.refl _));done)))) (h:=?_))
    all_goals (refine aw_take 10 (hsub:=by (exact fun _ h => h.drop (by ((repeat (exact List.Sublist.refl _));done)))) (h:=?_))
    all_goals (refine aw_done (h:=?_))
    all_goals
      repeat' (first | apply cw_ret | fail)
      exact ends_ret (res_tmp rfl rfl) rfl
  | true =>
    rw [hR] at hri
    have hco := core_pu a (fit_of_right hr)
    have hsz := coreV_size (fit_of_right hr hR)
    rw [hR,cond_true] at hco
    have hve := verify_pu p (coreV a) a.e a.s (by omega)
    have hV : verV p a = verN p (coreV a) a.e a.s := by rw [verV,actCore,hR];rfl
    rw [hV]
    generalize verN p (coreV a) a.e a.s = V at *
    repeat' (first | apply sw_nil | apply cw_seq | apply cw_reg | refine sy_assign (h:=?_) | refine sw_box (h:=fun _ => ?_) | fail)
    rename_i b3
    (refine cw_draw [cel b3 46 a.cells] (fun w => a.at_ w ∧ Glob w) (by kernel_rfl) ?_)
    all_goals (refine aw_take 0 (hsub:=by (exact fun _ h => h.drop (by ((repeat (exact List.Sublist.refl _));done)))) (h:=?_))
    all_goals (refine aw_step 1 (h:=?_);(refine sw_pu (hc:=hri) (hX:=fun _ h => h.1) (h:=?_));apply sw_nil;refine aw_fin (hsub:=by (exact fun _ h => h.drop (by ((repeat (exact List.Sublist.refl _));done)))) (h:=?_))
    all_goals (refine aw_take 2 (hsub:=by (exact fun _ h => h.drop (by ((repeat (exact List.Sublist.refl _));done)))) (h:=?_))
    all_goals (refine aw_take 3 (hsub:=by (exact fun _ h => h.drop (by ((repeat (exact List.Sublist.refl _));done)))) (h:=?_))
    all_goals (refine aw_take 4 (hsub:=by (exact fun _ h => h.drop (by ((repeat (exact List.Sublist.refl _));done)))) (h:=?_))
    all_goals (refine aw_take 6 (hsub:=by (exact fun _ h => h.drop (by ((repeat (exact List.Sublist.refl _));done)))) (h:=?_))
    all_goals (refine aw_take 7 (hsub:=by (exact fun _ h => h.drop (by ((repeat (exact List.Sublist.refl _));done)))) (hy:=by (apply y_ldSub (vs:=SgD.cells ⟨a.e,a.s⟩);rfl;exact .head _;rfl;rfl)) (h:=?_))
    all_goals (refine aw_step 5 (h:=?_);(refine sw_pu (hc:=hco) (hX:=fun _ h => h.1) (h:=?_));apply sw_nil;refine aw_fin (hsub:=by (exact fun _ h => h.drop (by ((repeat (exact List.Sublist.refl _));done)))) (h:=?_))
    all_goals (refine aw_step 8 (h:=?_);(refine sw_pu (hc:=hve) (hX:=fun _ h => h.2) (h:=?_));apply sw_nil;refine aw_fin (hsub:=by (exact fun _ h => h.drop (by ((repeat (exact List.Sublist.refl _));done)))) (h:=?_))
    all_goals (refine aw_take 9 (hsub:=by (exact fun _ h => h.drop (by ((repeat (exact List.Sublist.refl _));done)))) (h:=?_))
    all_goals (refine aw_take 10 (hsub:=by (exact fun _ h => h.drop (by ((repeat (exact List.Sublist.refl _));done)))) (h:=?_))
    all_goals (refine aw_done (h:=?_))
    all_goals
      repeat' (first | apply cw_ret | fail)
      exact ends_ret (res_tmp rfl rfl) rfl
end Go.Proofs.YtjmpdkmboheknaaGreatDoor

namespace Go.Proofs.YtjmpdkmboheknaaGreatDoor
open Go Go.Proofs Sy
theorem verN_of {p : Int} {msg : ByteArray} {e s : Int} (h1 : decide (p < 1) = false) (h2 : decide ((2305843009213693951 : Int) ≤ p) = false) (h3 : ordV e = true) (h4 : ordV s = true)
    (h : (chalN (expV 37 s.toNat * expV p.toNat (2305843009213693950 - e.toNat) % 2305843009213693951) p.toNat msg : Int) = e) : verN p msg e s = true := by
  rw [verN,h1,h2,h3,h4]
  exact decide_eq_true h.symm
theorem ver_lit {P E G d : Nat} {msg : ByteArray} {m : List Nat} (hm : nl msg = m) (hl : m.length ≤ 100000) {x1 x2 R : Nat} (hP1 : 1 ≤ P) (hP2 : P < 2305843009213693951) (hd : E + d = 2305843009213693950) (hd0 : 0 < d) (hG : G < 2305843009213693950) (h1 : powL 37 G = x1) (h2 : powL P d = x2) (h3 : x1 * x2 % 2305843009213693951 = R) (h4 : chalL R P m = E) :
    verN (P : Int) msg (E : Int) (G : Int) = true := by
  subst hm
  have e1 : (2305843009213693950 : Nat) - E = d := by omega
  refine verN_of (decide_eq_false (by omega)) (decide_eq_false (by omega)) (by rw [ordV,decide_eq_true (by omega),decide_eq_true (by omega)];rfl) (by rw [ordV,decide_eq_true (by omega),decide_eq_true (by omega)];rfl) ?_
  rw [Int.toNat_natCast,Int.toNat_natCast,Int.toNat_natCast,e1,exp_nl,exp_nl,h1,h2,h3,chal_nl _ _ _ hl,h4]
end Go.Proofs.YtjmpdkmboheknaaGreatDoor

namespace Go.Proofs.YtjmpdkmboheknaaGreatDoor
open Go Go.Proofs Sy
def nkK : KyD := ⟨((361080046605472372 : Nat) : Int),((2287805972299522828 : Nat) : Int)⟩
theorem nk_key : keyOf ⟨#[97]⟩ = nkK := keyG_lit (by decide) (by decide +kernel) (by decide +kernel)
theorem nk_right : rightK nkK = true := by rw [← nk_key];exact keyOf_right _
def nkI : ByteArray := ⟨#[97,57,100,101,51,99,52,56,49,98,48,50,97,99,54,53]⟩
theorem nk_id : idV ((2287805972299522828 : Nat) : Int) = nkI := idG_lit (by decide +kernel)
def nkU0 : ActD := { ActD.zero with author := nkI,text := ⟨#[97,110,110]⟩,n := ((2287805972299522828 : Nat) : Int) }
def nkA0 : ActD := nkU0.sig ⟨((969070982370715422 : Nat) : Int),((1494031495678606698 : Nat) : Int)⟩
def nkM0 : List Nat := [3,97,99,116,16,97,57,100,101,51,99,52,56,49,98,48,50,97,99,54,53,0,0,0,0,0,0,0,0,0,3,97,110,110,0,0,0,0,0,140,198,184,175,145,237,250,223,31,0]
theorem nkp_0 : nkU0.Pos := ⟨by decide,by decide,by decide,by decide,by decide,by decide,by decide,rfl,rfl⟩
theorem nkm_0 : nl (coreV (nkU0.sig SgD.zero)) = nkM0 := (core_nl nkU0 nkp_0).trans (by decide +kernel)
theorem nkl_0 : nkM0.length = 49 := by decide +kernel
theorem nks_0 : actSignV nkK nkU0 = nkA0 := signG_lit nk_right rfl (by decide +kernel) nkm_0 (by rw [nkl_0];decide) (K:=575135974072219164) (R:=24374903102715755) (by decide +kernel) (by decide +kernel) (by decide +kernel) (by decide +kernel)
def nkD0 : ByteArray := ⟨#[44,38,166,122,39,168,187,143,132,255,67,202,155,188,227,96,137,65,191,161,227,94,182,139,167,67,206,246,212,205,56,92]⟩
theorem nkr_0 : rightB nkA0 = true := by decide +kernel
theorem nkd_0 : digV nkA0 = nkD0 := dig_lit nkr_0 ((congrArg nl (core_sig nkU0 _ _)).trans nkm_0) (by rw [nkl_0];decide) (by rw [nkl_0];decide) (E:=969070982370715422) (G:=1494031495678606698) rfl rfl (by decide +kernel)
theorem nkv_0 : verN ((2287805972299522828 : Nat) : Int) (coreV nkA0) ((969070982370715422 : Nat) : Int) ((1494031495678606698 : Nat) : Int) = true := ver_lit (d:=1336772026842978528) (x1:=474056943505715079) (x2:=856046807767542642) (R:=24374903102715755) ((congrArg nl (core_sig nkU0 _ _)).trans nkm_0) (by rw [nkl_0];decide) (by decide) (by decide) (by decide) (by decide) (by decide) (by decide +kernel) (by decide +kernel) (by decide +kernel) (by decide +kernel)
def nkU1 : ActD := { ActD.zero with author := nkI,seq := 1,kind := 1,prev := nkD0,text := ⟨#[111,110,101]⟩ }
def nkA1 : ActD := nkU1.sig ⟨((1745971467665368206 : Nat) : Int),((249620231030421063 : Nat) : Int)⟩
def nkM1 : List Nat := [3,97,99,116,16,97,57,100,101,51,99,52,56,49,98,48,50,97,99,54,53,1,32,44,38,166,122,39,168,187,143,132,255,67,202,155,188,227,96,137,65,191,161,227,94,182,139,167,67,206,246,212,205,56,92,1,0,0,0,0,0,0,3,111,110,101,0,0,0,0,0,0,0]
theorem nkp_1 : nkU1.Pos := ⟨by decide,by decide,by decide,by decide,by decide,by decide,by decide,rfl,rfl⟩
theorem nkm_1 : nl (coreV (nkU1.sig SgD.zero)) = nkM1 := (core_nl nkU1 nkp_1).trans (by decide +kernel)
theorem nkl_1 : nkM1.length = 73 := by decide +kernel
theorem nks_1 : actSignV nkK nkU1 = nkA1 := signG_lit nk_right rfl (by decide +kernel) nkm_1 (by rw [nkl_1];decide) (K:=695578195445469381) (R:=1941076540844116606) (by decide +kernel) (by decide +kernel) (by decide +kernel) (by decide +kernel)
def nkD1 : ByteArray := ⟨#[17,103,247,97,40,131,175,42,157,198,69,74,214,207,5,4,192,111,239,234,83,97,172,201,67,58,106,179,44,25,212,1]⟩
theorem nkr_1 : rightB nkA1 = true := by decide +kernel
theorem nkd_1 : digV nkA1 = nkD1 := dig_lit nkr_1 ((congrArg nl (core_sig nkU1 _ _)).trans nkm_1) (by rw [nkl_1];decide) (by rw [nkl_1];decide) (E:=1745971467665368206) (G:=249620231030421063) rfl rfl (by decide +kernel)
def nkU2 : ActD := { ActD.zero with author := nkI,seq := 2,kind := 14,prev := nkD1,object := nkD1,text := ⟨#[116,119,111]⟩ }
def nkA2 : ActD := nkU2.sig ⟨((1131212179145954523 : Nat) : Int),((1686672710512934773 : Nat) : Int)⟩
def nkM2 : List Nat := [3,97,99,116,16,97,57,100,101,51,99,52,56,49,98,48,50,97,99,54,53,2,32,17,103,247,97,40,131,175,42,157,198,69,74,214,207,5,4,192,111,239,234,83,97,172,201,67,58,106,179,44,25,212,1,14,0,32,17,103,247,97,40,131,175,42,157,198,69,74,214,207,5,4,192,111,239,234,83,97,172,201,67,58,106,179,44,25,212,1,0,0,0,0,3,116,119,111,0,0,0,0,0,0,0]
theorem nkp_2 : nkU2.Pos := ⟨by decide,by decide,by decide,by decide,by decide,by decide,by decide,rfl,rfl⟩
theorem nkm_2 : nl (coreV (nkU2.sig SgD.zero)) = nkM2 := (core_nl nkU2 nkp_2).trans (by decide +kernel)
theorem nkl_2 : nkM2.length = 105 := by decide +kernel
theorem nks_2 : actSignV nkK nkU2 = nkA2 := signG_lit nk_right rfl (by decide +kernel) nkm_2 (by rw [nkl_2];decide) (K:=1068052025637179317) (R:=1150115755801198409) (by decide +kernel) (by decide +kernel) (by decide +kernel) (by decide +kernel)
theorem nk_ver : verV ((2287805972299522828 : Nat) : Int) nkA0 = true := by
  rw [verV,actCore,nkr_0,cond_true,Bool.true_and]
  exact nkv_0
theorem nk_ne : seqB nkD0 nkD1 = false := by decide +kernel
end Go.Proofs.YtjmpdkmboheknaaGreatDoor

namespace Go.Proofs.YtjmpdkmboheknaaGreatDoor
open Go Go.Proofs Sy
def postK (k : Int) : Bool := decide (k = 1) || decide (k = 2) || decide (k = 3)
theorem posting_pu (k : Int) : Pu Tryz.prog 19 #[.int .i64 k] (fun _ => True) (.bool (postK k)) := by
  refine pu_of_cw (args:=[_]) _ Tryz.func19 rfl Tryz.ntmps19 rfl fun av bor w0 => ?_
  repeat' (first | apply sw_nil | apply cw_seq | apply cw_reg | refine sy_move (h:=?_) | refine sy_assign (h:=?_) | refine sy_pick_t (h:=?_) | refine sy_pick_f (h:=?_) | refine sy_eql (h:=?_) | refine sw_skipF (h:=?_) | apply cw_ret | ((fail_if_success (refine sw_chk (h:=?_)));refine sw_guard (ht:=?_) (hf:=?_);all_goals (intro hx_;first | have := of_decide_eq_true hx_ | have := of_decide_eq_false hx_)) | fail)
  all_goals
    apply ends_ret;apply res_tmp;rfl;rfl
    simp only [postK, *,decide_true,decide_false,cond_true,cond_false,Bool.and_true,Bool.true_and,Bool.and_false,Bool.false_and,Bool.not_true,Bool.not_false,Bool.or_true,Bool.true_or,Bool.or_false,Bool.false_or]
def ChBox (c : ChainD) (b : Nat) (w : World) : Prop := w.heap[b]? = some (.cells c.cells.toArray 39 (0,0))
theorem ChBox.cell {c : ChainD} {b : Nat} {w : World} (h : ChBox c b w) : ∀ j v,c.cells[j]? = some v → w.cell? ⟨b,j,none⟩ = some v := fun j v hj => by
  simp [World.cell?,show w.heap[b]? = _ from h,hj]
end Go.Proofs.YtjmpdkmboheknaaGreatDoor

namespace Go.Proofs.YtjmpdkmboheknaaGreatDoor.Sy
open Go Go.RowKit

def fen (ρ : Option Nat) : Fence := { Fence.wide with round := ρ }
section
variable {P : Program} {N : Nat} {av bor : List Nat} {w0 : World} {ops : Array Oper} {st : St}
end

def Cr (P : Program) (N : Nat) (av bor : List Nat) (w0 : World) (l : Nat) (c : Code) (st : St) (K : Exit → St → Prop) : Prop :=
  ∀ n a w,Ok N av bor w0 st a w → c.wpIn (fen (some l)) n P (post N av bor w0 K) a w
theorem Cr.mk {P : Program} {N : Nat} {av bor : List Nat} {w0 : World} {l : Nat} {c : Code} {st : St} {K : Exit → St → Prop} (h : ∀ n a w,Ok N av bor w0 st a w → c.wpIn (fen (some l)) n P (post N av bor w0 K) a w) : Cr P N av bor w0 l c st K := h
theorem Cr.run {P : Program} {N : Nat} {av bor : List Nat} {w0 : World} {l : Nat} {c : Code} {st : St} {K : Exit → St → Prop} (h : Cr P N av bor w0 l c st K) : ∀ n a w,Ok N av bor w0 st a w → c.wpIn (fen (some l)) n P (post N av bor w0 K) a w := h
namespace Rd
section
variable {P : Program} {N : Nat} {av bor : List Nat} {w0 : World} {l : Nat} {st : St} {K : Exit → St → Prop} {E : Env} {loc : List Res} {X : World → Prop}
theorem cw_cond {c : Operand} {x y : Code} {b : Bool} (hc : ev st.env c = some (.bool b) := by rfl) (ht : b = true → Cr P N av bor w0 l x st K) (hf : b = false → Cr P N av bor w0 l y st K) :
    Cr P N av bor w0 l (.cond c x y) st K := fun n a w ok => wpIn_cond_split (ok.eval hc) (fun h => ht h n a w ok) (fun h => hf h n a w ok)
end
end Rd

def YCt (P : Program) (l : Nat) (args : List Value) (pre : List Res) (X : World → Prop) (Post : Value → List Res → (World → Prop) → Prop) : Prop :=
  ∀ (n : Nat) (w : World) (av : List Nat),Gam av (fps pre) w pre X w → YieldAt Fence.wide n P l args.toArray w fun e w' => ∃ v R X',e = .returned v ∧ Post v R X' ∧ Gam av (fps pre) w R X' w'
section
variable {P : Program} {N : Nat} {av bor : List Nat} {w0 : World} {ops : Array Oper} {rest : List Oper} {k : St → Prop} {E : Env} {loc : List Res} {X : World → Prop} {K : Exit → St → Prop}
variable {d : Option Tmp} {ty : TypeId} {pos : String} {af : Array Edge} {g : Option (Nat × Bool)} {bb want : Bool}
end

def It {α : Type} (P : Program) (g : FuncId) (lb : List Value) (X1 : World → Prop) (enc : α → List Value) (xs : List α) : Prop :=
  ∀ (l : Nat) (X : World → Prop) (Rs : List α → List Res → Prop),(∀ w,X w → X1 w) →
    (∀ pre x suf R,xs = pre ++ x :: suf → Rs pre R → YCt P l (enc x) R X fun v R' _ => v = .bool true ∧ Rs (pre ++ [x]) R') →
    ∀ R0,Rs [] R0 → Ct P g (.func (.yield l) #[] #[] :: lb).toArray R0 X fun _ R' _ => Rs xs R'

section
variable {P : Program} {N : Nat} {av bor : List Nat} {w0 : World} {E : Env} {loc : List Res} {X : World → Prop} {K : Exit → St → Prop}
end
end Go.Proofs.YtjmpdkmboheknaaGreatDoor.Sy

namespace Go.Proofs.YtjmpdkmboheknaaGreatDoor
open Go Go.Proofs Sy Go.RowKit Go.Deep Go.ChangeShapes
section
variable {H : Type} {enc : TypeId × Value → H} {P : Program} {w : World} {base : Nat} {spare : Nat → Bool} {held : Bool}
theorem fld_of {t : TypeId} {fs : Array Field} {fuel : Nat} {cs : List Value} {x : DataW H × List MemPlace} (ht : P.underlying t = some (.struct fs)) (h : DataW.trod enc P w base spare held fuel t cs = some x) {i : Nat} {f : Field} (hf : fs[i]? = some f) {off k : Nat} {t' : TypeId} (ho : f.offset = off) (htt : f.type = t') (hk : P.cellsOf t' = k) :
    ∃ n y,DataW.trod enc P w base spare held n t' ((cs.drop off).take k) = some y := by
  obtain ⟨xs,n,_,_,_,hlen,hg⟩ := DataW.trod_struct ht h
  have h1 := hg i f hf
  have hi : i < fs.size := (Array.getElem?_eq_some_iff.1 hf).1
  subst ho;subst htt;subst hk
  rw [List.getElem?_eq_getElem (by omega)] at h1
  exact ⟨n,_,h1⟩
theorem open_rows {α : Type} [Inhabited α] {t e : TypeId} {size fuel : Nat} {cs : List Value} {x : DataW H × List MemPlace} (ht : P.underlying t = some (.slice e)) (hc : P.cellsOf e = size) (cells : α → List Value) (Q : α → Prop)
    (each : ∀ n cs y,DataW.trod enc P w base spare held n e cs = some y → ∃ a,cs = cells a ∧ Q a) (h : DataW.trod enc P w base spare held fuel t cs = some x) :
    ∃ (s : SlV) (l : List α),cs = [s.v] ∧ RowsD w size s (l.map cells) ∧ ∀ a ∈ l,Q a := by
  rcases open_slice ht h with ⟨rfl,_⟩ | ⟨a,len,cap,m,n,D,Pl,rfl,hb,hl,hm,hmm,hx,hi⟩
  · exact ⟨⟨none,0,0⟩, [],rfl,rowsD_nil w size,by simp⟩
  · have hlm : len ≤ m := by rw [hmm];split <;> omega
    have h1 : ∀ i,i < len → ∃ z : α,w.cells? base (a.add (i * size)) size = some (cells z) ∧ Q z := fun i hil => by
      obtain ⟨cs',h2,h3⟩ := hi i (by omega)
      obtain ⟨z,rfl,hz⟩ := each _ _ _ h3
      rw [hc] at h2
      exact ⟨z,h2,hz⟩
    obtain ⟨F,hF⟩ := choose_lt h1
    refine ⟨⟨some a,len,cap⟩,(List.range len).map F,rfl,⟨by simp,hl,hm,fun i cs' hcs => ?_⟩,fun z hz => ?_⟩
    · simp only [List.map_map,List.getElem?_map] at hcs
      have hil : i < len := by
        cases hr : (List.range len)[i]? with
        | none => rw [hr] at hcs;cases hcs
        | some k => have := (List.getElem?_eq_some_iff.1 hr).1;simpa using this
      rw [List.getElem?_range hil] at hcs
      simp only [Option.map_some,Function.comp_apply,Option.some.injEq] at hcs
      subst hcs
      obtain ⟨_,hlen,hat⟩ := World.cells?_some (hF i hil).1
      refine ⟨hlen,rfl,fun j u hj => ⟨rfl,fun a' ha' => ?_⟩⟩
      obtain rfl : a = a' := Option.some.inj ha'
      rw [← Go.Deep.add_add,hat j (by rw [← hlen];exact (List.getElem?_eq_some_iff.1 hj).1),hj]
    · simp only [List.mem_map,List.mem_range] at hz
      obtain ⟨i,hil,rfl⟩ := hz
      exact (hF i hil).2
theorem CellAt.keep {w' : World} {p : Option Addr} {q : Nat} {u : Value} (h : CellAt w p q u) (hs : ∀ k,k < w.heap.size → w'.heap[k]? = w.heap[k]?) : CellAt w' p q u := ⟨h.1,fun a ha => by
  have h1 := h.2 a ha
  have h2 : (a.add q).block < w.heap.size := by
    cases hh : w.heap[(a.add q).block]? with
    | none => simp [World.cell?,hh] at h1
    | some o => exact (Array.getElem?_eq_some_iff.1 hh).1
  rw [World.cell?_of_block (w:=w) (hs _ h2),h1]⟩
theorem RowsD.keep {w' : World} {size : Nat} {s : SlV} {xs : List (List Value)} (h : RowsD w size s xs) (hs : ∀ k,k < w.heap.size → w'.heap[k]? = w.heap[k]?) : RowsD w' size s xs :=
  ⟨h.len,h.cap,h.max,fun i cs hi => ⟨(h.row i cs hi).1,(h.row i cs hi).2.1,fun j u hj => CellAt.keep ((h.row i cs hi).2.2 j u hj) hs⟩⟩
theorem CellsAt.keep {w' : World} {g : Nat} {l : List Value} (h : CellsAt g l w) (hs : ∀ k,k < w.heap.size → w'.heap[k]? = w.heap[k]?) : CellsAt g l w' := fun j v hj => by
  have h1 := h j v hj
  have h2 : g < w.heap.size := by
    cases hh : w.heap[g]? with
    | none => simp [World.cell?,hh] at h1
    | some o => exact (Array.getElem?_eq_some_iff.1 hh).1
  rw [World.cell?_of_block (w:=w) (a:=⟨g,j,none⟩) (hs _ h2),h1]
theorem XC.keep {w' : World} {c : ChainD} (h : XC c w) (hs : ∀ k,k < w.heap.size → w'.heap[k]? = w.heap[k]?) : XC c w' :=
  ⟨⟨RowsD.keep h.1.1 hs,fun a ha => ⟨RowsD.keep (h.1.2 a ha).1 hs,RowsD.keep (h.1.2 a ha).2 hs⟩⟩,⟨h.2.ini.keep hs,h.2.k.keep hs⟩⟩
theorem wf_lt {n : Int} (h : (Lit.int .i64 n).wf = true) : n < 9223372036854775808 := by have := (Go.bounds_i64 h).2;omega
theorem open_int1 {fuel : Nat} {cs : List Value} {x : DataW H × List MemPlace} (h : DataW.trod enc Tryz.prog w base spare held fuel 3 cs = some x) : ∃ n : Int,cs = [.int .i64 n] ∧ n < 9223372036854775808 := by
  obtain ⟨n,h1,_,h3⟩ := DataW.trod_int Tryz.underlying3 h
  exact ⟨n,h1,wf_lt h3⟩
theorem open_str1 {fuel : Nat} {cs : List Value} {x : DataW H × List MemPlace} (h : DataW.trod enc Tryz.prog w base spare held fuel 9 cs = some x) : ∃ s : ByteArray,cs = [.string s] ∧ s.size ≤ maxLen := by
  obtain ⟨s,h1,_,h3⟩ := DataW.trod_string Tryz.underlying9 h
  exact ⟨s,h1,h3⟩
theorem open_bool1 {fuel : Nat} {cs : List Value} {x : DataW H × List MemPlace} (h : DataW.trod enc Tryz.prog w base spare held fuel 4 cs = some x) : ∃ b : Bool,cs = [.bool b] := by
  obtain ⟨b,h1,_⟩ := DataW.trod_bool Tryz.underlying4 h
  exact ⟨b,h1⟩
theorem open_strings {fuel : Nat} {cs : List Value} {x : DataW H × List MemPlace} (h : DataW.trod enc Tryz.prog w base spare held fuel 23 cs = some x) : ∃ (s : SlV) (l : List ByteArray),cs = [s.v] ∧ Strs w s l := by
  obtain ⟨s,l,h1,h2,_⟩ := open_rows (α:=ByteArray) Tryz.underlying23 (size:=1) (by kernel_rfl) (fun s => [.string s]) (fun _ => True) (fun n cs y hy => by obtain ⟨s,h1,_⟩ := open_str1 hy;exact ⟨s,h1,trivial⟩) h
  exact ⟨s,l,h1,h2⟩
theorem len_of {t : TypeId} {fs : Array Field} {P : Program} {fuel k : Nat} {cs : List Value} {x : DataW H × List MemPlace} (ht : P.underlying t = some (.struct fs)) (hk : P.cellsOf t = k) (h : DataW.trod enc P w base spare held fuel t cs = some x) : cs.length = k := by
  obtain ⟨xs,n,_,_,h1,_,_⟩ := DataW.trod_struct ht h
  rw [h1,hk]
theorem open_box {fuel : Nat} {cs : List Value} {x : DataW H × List MemPlace} (h : DataW.trod enc Tryz.prog w base spare held fuel 41 cs = some x) : ∃ b : BoxD,cs = b.cells := by
  have hl := len_of Tryz.underlying41 (k:=3) (by kernel_rfl) h
  obtain ⟨n0,y0,h0⟩ := fld_of (i:=0) (off:=0) (k:=1) (t':=9) Tryz.underlying41 h rfl rfl rfl (by kernel_rfl)
  obtain ⟨n1,y1,h1⟩ := fld_of (i:=1) (off:=1) (k:=1) (t':=9) Tryz.underlying41 h rfl rfl rfl (by kernel_rfl)
  obtain ⟨n2,y2,h2⟩ := fld_of (i:=2) (off:=2) (k:=1) (t':=9) Tryz.underlying41 h rfl rfl rfl (by kernel_rfl)
  match cs,hl with
  | [c0,c1,c2],_ =>
    obtain ⟨s0,e0,_⟩ := open_str1 h0
    obtain ⟨s1,e1,_⟩ := open_str1 h1
    obtain ⟨s2,e2,_⟩ := open_str1 h2
    simp at e0 e1 e2
    exact ⟨⟨s0,s1,s2⟩,by rw [e0,e1,e2];rfl⟩
theorem open_wrap {fuel : Nat} {cs : List Value} {x : DataW H × List MemPlace} (h : DataW.trod enc Tryz.prog w base spare held fuel 93 cs = some x) : ∃ b : WrapD,cs = b.cells ∧ b.to < 9223372036854775808 ∧ b.eph < 9223372036854775808 := by
  have hl := len_of Tryz.underlying93 (k:=5) (by kernel_rfl) h
  obtain ⟨n0,y0,h0⟩ := fld_of (i:=0) (off:=0) (k:=1) (t':=3) Tryz.underlying93 h rfl rfl rfl (by kernel_rfl)
  obtain ⟨n1,y1,h1⟩ := fld_of (i:=1) (off:=1) (k:=1) (t':=3) Tryz.underlying93 h rfl rfl rfl (by kernel_rfl)
  obtain ⟨n2,y2,h2⟩ := fld_of (i:=2) (off:=2) (k:=3) (t':=41) Tryz.underlying93 h rfl rfl rfl (by kernel_rfl)
  match cs,hl with
  | [c0,c1,c2,c3,c4],_ =>
    obtain ⟨s0,e0,b0⟩ := open_int1 h0
    obtain ⟨s1,e1,b1⟩ := open_int1 h1
    obtain ⟨s2,e2⟩ := open_box h2
    simp [BoxD.cells] at e0 e1 e2
    exact ⟨⟨s0,s1,s2⟩,by simp [WrapD.cells,e0,e1,e2],b0,b1⟩
theorem open_wraps {fuel : Nat} {cs : List Value} {x : DataW H × List MemPlace} (h : DataW.trod enc Tryz.prog w base spare held fuel 42 cs = some x) : ∃ (s : SlV) (l : List WrapD),cs = [s.v] ∧ Wraps w s l ∧ ∀ b ∈ l,b.to < 9223372036854775808 ∧ b.eph < 9223372036854775808 := by
  haveI : Inhabited WrapD := ⟨⟨0,0,BoxD.zero⟩⟩
  exact open_rows (α:=WrapD) Tryz.underlying42 (size:=5) (by kernel_rfl) WrapD.cells _ (fun n cs y hy => open_wrap hy) h
theorem open_sig {fuel : Nat} {cs : List Value} {x : DataW H × List MemPlace} (h : DataW.trod enc Tryz.prog w base spare held fuel 44 cs = some x) : ∃ e s : Int,cs = [.int .i64 e,.int .i64 s] ∧ e < 9223372036854775808 ∧ s < 9223372036854775808 := by
  have hl := len_of Tryz.underlying44 (k:=2) (by kernel_rfl) h
  obtain ⟨n0,y0,h0⟩ := fld_of (i:=0) (off:=0) (k:=1) (t':=3) Tryz.underlying44 h rfl rfl rfl (by kernel_rfl)
  obtain ⟨n1,y1,h1⟩ := fld_of (i:=1) (off:=1) (k:=1) (t':=3) Tryz.underlying44 h rfl rfl rfl (by kernel_rfl)
  match cs,hl with
  | [c0,c1],_ =>
    obtain ⟨s0,e0,b0⟩ := open_int1 h0
    obtain ⟨s1,e1,b1⟩ := open_int1 h1
    simp at e0 e1
    exact ⟨s0,s1,by rw [e0,e1],b0,b1⟩
theorem open_act {fuel : Nat} {cs : List Value} {x : DataW H × List MemPlace} (h : DataW.trod enc Tryz.prog w base spare held fuel 46 cs = some x) : ∃ a : ActD,cs = a.cells ∧ a.at_ w ∧ a.Rng ∧ a.target.size ≤ maxLen := by
  have hl := len_of Tryz.underlying46 (k:=20) (by kernel_rfl) h
  obtain ⟨n0,y0,h0⟩ := fld_of (i:=0) (off:=0) (k:=1) (t':=9) Tryz.underlying46 h rfl rfl rfl (by kernel_rfl)
  obtain ⟨n1,y1,h1⟩ := fld_of (i:=1) (off:=1) (k:=1) (t':=3) Tryz.underlying46 h rfl rfl rfl (by kernel_rfl)
  obtain ⟨n2,y2,h2⟩ := fld_of (i:=2) (off:=2) (k:=1) (t':=9) Tryz.underlying46 h rfl rfl rfl (by kernel_rfl)
  obtain ⟨n3,y3,h3⟩ := fld_of (i:=3) (off:=3) (k:=1) (t':=3) Tryz.underlying46 h rfl rfl rfl (by kernel_rfl)
  obtain ⟨n4,y4,h4⟩ := fld_of (i:=4) (off:=4) (k:=1) (t':=3) Tryz.underlying46 h rfl rfl rfl (by kernel_rfl)
  obtain ⟨n5,y5,h5⟩ := fld_of (i:=5) (off:=5) (k:=1) (t':=9) Tryz.underlying46 h rfl rfl rfl (by kernel_rfl)
  obtain ⟨n6,y6,h6⟩ := fld_of (i:=6) (off:=6) (k:=1) (t':=9) Tryz.underlying46 h rfl rfl rfl (by kernel_rfl)
  obtain ⟨n7,y7,h7⟩ := fld_of (i:=7) (off:=7) (k:=1) (t':=3) Tryz.underlying46 h rfl rfl rfl (by kernel_rfl)
  obtain ⟨n8,y8,h8⟩ := fld_of (i:=8) (off:=8) (k:=1) (t':=9) Tryz.underlying46 h rfl rfl rfl (by kernel_rfl)
  obtain ⟨n9,y9,h9⟩ := fld_of (i:=9) (off:=9) (k:=1) (t':=23) Tryz.underlying46 h rfl rfl rfl (by kernel_rfl)
  obtain ⟨n10,y10,h10⟩ := fld_of (i:=10) (off:=10) (k:=1) (t':=9) Tryz.underlying46 h rfl rfl rfl (by kernel_rfl)
  obtain ⟨n11,y11,h11⟩ := fld_of (i:=11) (off:=11) (k:=3) (t':=41) Tryz.underlying46 h rfl rfl rfl (by kernel_rfl)
  obtain ⟨n12,y12,h12⟩ := fld_of (i:=12) (off:=14) (k:=1) (t':=3) Tryz.underlying46 h rfl rfl rfl (by kernel_rfl)
  obtain ⟨n13,y13,h13⟩ := fld_of (i:=13) (off:=15) (k:=1) (t':=42) Tryz.underlying46 h rfl rfl rfl (by kernel_rfl)
  obtain ⟨n14,y14,h14⟩ := fld_of (i:=14) (off:=16) (k:=1) (t':=3) Tryz.underlying46 h rfl rfl rfl (by kernel_rfl)
  obtain ⟨n15,y15,h15⟩ := fld_of (i:=15) (off:=17) (k:=1) (t':=3) Tryz.underlying46 h rfl rfl rfl (by kernel_rfl)
  obtain ⟨n16,y16,h16⟩ := fld_of (i:=16) (off:=18) (k:=2) (t':=44) Tryz.underlying46 h rfl rfl rfl (by kernel_rfl)
  match cs,hl with
  | [c0,c1,c2,c3,c4,c5,c6,c7,c8,c9,c10,c11,c12,c13,c14,c15,c16,c17,c18,c19],_ =>
    obtain ⟨s0,e0,b0⟩ := open_str1 h0
    obtain ⟨s1,e1,b1⟩ := open_int1 h1
    obtain ⟨s2,e2,b2⟩ := open_str1 h2
    obtain ⟨s3,e3,b3⟩ := open_int1 h3
    obtain ⟨s4,e4,b4⟩ := open_int1 h4
    obtain ⟨s5,e5,b5⟩ := open_str1 h5
    obtain ⟨s6,e6,b6⟩ := open_str1 h6
    obtain ⟨s7,e7,b7⟩ := open_int1 h7
    obtain ⟨s8,e8,b8⟩ := open_str1 h8
    obtain ⟨s9,l9,e9,b9⟩ := open_strings h9
    obtain ⟨s10,e10,b10⟩ := open_str1 h10
    obtain ⟨s11,e11⟩ := open_box h11
    obtain ⟨s12,e12,b12⟩ := open_int1 h12
    obtain ⟨s13,l13,e13,b13,r13⟩ := open_wraps h13
    obtain ⟨s14,e14,b14⟩ := open_int1 h14
    obtain ⟨s15,e15,b15⟩ := open_int1 h15
    obtain ⟨s16,s17,e16,b16,b17⟩ := open_sig h16
    simp [BoxD.cells] at e0 e1 e2 e3 e4 e5 e6 e7 e8 e9 e10 e11 e12 e13 e14 e15 e16
    refine ⟨⟨s0,s1,s2,s3,s4,s5,s6,s7,s8,s9,s10,s11,s12,s13,s14,s15,s16,s17,l9,l13⟩, ?_,⟨b9,b13⟩,⟨⟨b1,b3,b4,b7,b12,b14,b15,b16,b17⟩,r13,by have := RowsD.len b9;simpa [strs] using this,by have := RowsD.len b13;simpa using this⟩,b6⟩
    simp [ActD.cells,e0,e1,e2,e3,e4,e5,e6,e7,e8,e9,e10,e11,e12,e13,e14,e15,e16]
theorem open_sl {t e : TypeId} {fuel : Nat} {cs : List Value} {P : Program} {x : DataW H × List MemPlace} (ht : P.underlying t = some (.slice e)) (h : DataW.trod enc P w base spare held fuel t cs = some x) : ∃ s : SlV,cs = [s.v] := by
  rcases open_slice ht h with ⟨rfl,_⟩ | ⟨a,len,cap,m,n,D,Pl,rfl,_⟩
  · exact ⟨⟨none,0,0⟩,rfl⟩
  · exact ⟨⟨some a,len,cap⟩,rfl⟩
end
end Go.Proofs.YtjmpdkmboheknaaGreatDoor

namespace Go.Proofs.YtjmpdkmboheknaaGreatDoor
open Go Go.Proofs Sy Go.RowKit Go.Deep Go.ChangeShapes
section
variable {H : Type} {enc : TypeId × Value → H} {P : Program} {w : World} {base : Nat} {spare : Nat → Bool} {held : Bool}
theorem ChainD.keep {w' : World} {c : ChainD} (h : c.at_ w) (hs : ∀ k,k < w.heap.size → w'.heap[k]? = w.heap[k]?) : c.at_ w' :=
  ⟨RowsD.keep h.1 hs,fun a ha => ⟨RowsD.keep (h.2 a ha).1 hs,RowsD.keep (h.2 a ha).2 hs⟩⟩
theorem Chains.keep {w' : World} {s : SlV} {l : List ChainD} (h : Chains w s l) (hs : ∀ k,k < w.heap.size → w'.heap[k]? = w.heap[k]?) : Chains w' s l :=
  ⟨RowsD.keep h.1 hs,fun c hc => ChainD.keep (h.2 c hc) hs⟩
end
end Go.Proofs.YtjmpdkmboheknaaGreatDoor

namespace Go.Proofs.YtjmpdkmboheknaaGreatDoor
open Go Go.Proofs Sy
def draftV (c : ChainD) (k t : Int) : ActD := { ActD.zero with author := c.id,seq := (c.acts.n : Int),prev := c.prev,kind := k,time := t }
theorem draft_pu (c : ChainD) (k t : Int) : Pu Tryz.prog 54 #[c.v,.int .i64 k,.int .i64 t] (fun _ => True) (draftV c k t).v := by
  refine pu_of_cw (args:=[_,_,_]) _ Tryz.func54 rfl Tryz.ntmps54 rfl fun av bor w0 => ?_
  repeat' (first | apply sw_nil | apply cw_seq | apply cw_reg | refine sy_move (h:=?_) | refine sy_fld (h:=?_) | refine sy_ld (h:=?_) | refine sy_len (h:=?_) | refine sw_alloc (h:=fun _ => ?_) | refine sw_box (h:=fun _ => ?_) | refine sw_stAll (h:=?_) | apply cw_ret | (refine sy_build (cs:=(draftV c k t).cells) (hf:=by rfl) (h:=?_)) | fail)
  exact ends_ret (res_cell rfl rfl (by (repeat (exact List.mem_cons_self))) (by rfl)) rfl
def undoK (k : Int) : Bool := decide (k = 4) || decide (k = 5) || decide (k = 7) || decide (k = 8) || decide (k = 10) || decide (k = 11) || decide (k = 17) || decide (k = 23)
theorem undoable_pu (k : Int) : Pu Tryz.prog 173 #[.int .i64 k] (fun _ => True) (.bool (undoK k)) := by
  refine pu_of_cw (args:=[_]) _ Tryz.func173 rfl Tryz.ntmps173 rfl fun av bor w0 => ?_
  repeat' (first | apply sw_nil | apply cw_seq | apply cw_reg | refine sy_move (h:=?_) | refine sy_assign (h:=?_) | refine sy_eql (h:=?_) | refine cw_cond_t (ht:=?_) | apply cw_skip | apply cw_block | apply cw_ret | (refine cw_cond (ht:=?_) (hf:=?_);all_goals (intro hx_;first | have := of_decide_eq_true hx_ | have := of_decide_eq_false hx_)))
  (all_goals (apply ends_ret;apply res_tmp;rfl;rfl));all_goals (simp only [undoK, *,decide_true,decide_false,cond_true,cond_false,Bool.and_true,Bool.true_and,Bool.and_false,Bool.false_and,Bool.not_true,Bool.not_false,Bool.or_true,Bool.true_or,Bool.or_false,Bool.false_or];done)
def atK (c : ChainD) (o : Option Nat) (p : Int → Bool) : Bool := match o with
  | some j => p (c.actsL.getD j ActD.zero).kind
  | none => false
def fitsV (c : ChainD) (a : ActD) (pl : Option Nat) : Bool :=
  bif !rightB a || !seqB a.author c.id || !decide (a.seq = (c.acts.n : Int)) || !seqB a.prev c.prev then false
  else bif decide (a.kind = 0) != decide ((c.acts.n : Int) = 0) then false
  else bif decide (a.kind = 6) then atK c pl undoK
  else bif decide (a.kind = 13) || decide (a.kind = 14) then atK c pl postK else true
set_option maxRecDepth 20000 in
set_option maxHeartbeats 4000000 in
theorem fits_pu (c : ChainD) (a : ActD) (gf : Nat) [FnBody Tryz.prog gf] (lb : List Value) (pl : Option Nat) (Y : World → Prop) (hpl : Pu Tryz.prog gf (.string a.object :: lb).toArray Y (idxP pl)) (hlt : ∀ j,pl = some j → j < c.actsL.length) :
    Pu Tryz.prog 107 #[c.v,a.v,.func (.func gf) #[] lb.toArray] (fun w => c.at_ w ∧ a.at_ w ∧ Y w) (.bool (fitsV c a pl)) := by
  refine pu_of_cw (args:=[_,_,_]) _ Tryz.func107 rfl Tryz.ntmps107 rfl fun av bor w0 => ?_
  refine cw_know (p:=c.acts.n = c.actsL.length ∧ c.acts.n ≤ maxLen ∧ (0 < c.actsL.length → c.acts.p.isSome = true)) (fun w h => ⟨h.1.len_,h.1.max_,h.1.some_⟩) fun ⟨hl,hm,hp⟩ => ?_
  simp only [maxLen] at hm
  have hri := actRight_pu a
  cases hB : (!rightB a || !seqB a.author c.id || !decide (a.seq = (c.acts.n : Int)) || !seqB a.prev c.prev) with
  | true =>
    rw [show fitsV c a pl = false from by rw [fitsV,hB];rfl]
    repeat' (first | apply sw_nil | apply cw_seq | apply cw_reg | refine sy_move (h:=?_) | refine sy_assign (h:=?_) | refine sy_fld (h:=?_) | refine sy_ld (h:=?_) | refine sy_ldAll (h:=?_) | refine sy_pick_t (h:=?_) | refine sy_pick_f (h:=?_) | refine sy_not (h:=?_) | refine sy_eql (h:=?_) | refine sy_neq (h:=?_) | refine sy_sneq (h:=?_) | refine sy_len (h:=?_) | refine sw_skipF (h:=?_) | refine sw_box (h:=fun _ => ?_) | refine cw_cond_t (ht:=?_) | apply cw_skip | apply cw_block | apply cw_ret | refine sy_bneq (h:=?_) | (refine sw_pu (hc:=hri) (hX:=fun _ h => h.2.1) (h:=?_)) | ((fail_if_success (refine sw_chk (h:=?_)));refine sw_guard (ht:=?_) (hf:=?_);all_goals (intro hx_;skip)) | (refine cw_cond (ht:=?_) (hf:=?_);all_goals (intro hx_;first | have := of_decide_eq_true hx_ | have := of_decide_eq_false hx_ | skip)))
    all_goals first
      | (apply ends_ret;apply res_tmp;rfl;rfl;rfl)
      | (exfalso;simp_all;done)
  | false =>
    have hB' := hB
    simp only [Bool.or_eq_false_iff,Bool.not_eq_false',decide_eq_true_eq] at hB'
    obtain ⟨⟨⟨e1,e2⟩,e3⟩,e4⟩ := hB'
    rw [e1] at hri
    cases hK : (decide (a.kind = 0) != decide ((c.acts.n : Int) = 0)) with
    | true =>
      rw [show fitsV c a pl = false from by rw [fitsV,hB,hK];rfl]
      repeat' (first | refine sy_neqF (hab:=e3) (h:=?_) | apply sw_nil | apply cw_seq | apply cw_reg | refine sy_move (h:=?_) | refine sy_assign (h:=?_) | refine sy_fld (h:=?_) | refine sy_ld (h:=?_) | refine sy_ldAll (h:=?_) | refine sy_pick_t (h:=?_) | refine sy_pick_f (h:=?_) | refine sy_not (h:=?_) | refine sy_eql (h:=?_) | refine sy_sneq (h:=?_) | refine sy_len (h:=?_) | refine sw_skipF (h:=?_) | refine sw_box (h:=fun _ => ?_) | refine cw_cond_t (ht:=?_) | apply cw_skip | apply cw_ret | refine sy_bneq (h:=?_) | (refine sw_pu (hc:=hri) (hX:=fun _ h => h.2.1) (h:=?_)) | ((fail_if_success (refine sw_chk (h:=?_)));refine sw_guard (ht:=?_) (hf:=?_);all_goals (intro hx_;skip)) | (refine cw_cond (ht:=?_) (hf:=?_);all_goals (intro hx_;skip)))
      all_goals first
        | (apply ends_ret;apply res_tmp;rfl;rfl;rfl)
        | (exfalso;simp_all;done)
    | false =>
      have hF : fitsV c a pl = (bif decide (a.kind = 6) then atK c pl undoK else bif decide (a.kind = 13) || decide (a.kind = 14) then atK c pl postK else true) := by rw [fitsV,hB,hK];rfl
      rw [hF]
      cases pl with
      | none =>
        have hpl' : Pu Tryz.prog gf (.string a.object :: lb).toArray Y (.tuple #[.int .i64 0,.bool false]) := hpl
        repeat' (first | refine sy_neqF (hab:=e3) (h:=?_) | apply sw_nil | apply cw_seq | apply cw_reg | refine sy_move (h:=?_) | refine sy_assign (h:=?_) | refine sy_fld (h:=?_) | refine sy_ld (h:=?_) | refine sy_ldAll (h:=?_) | refine sy_pick_t (h:=?_) | refine sy_pick_f (h:=?_) | refine sy_not (h:=?_) | refine sy_eql (h:=?_) | refine sy_sneq (h:=?_) | refine sy_len (h:=?_) | refine sy_extract (h:=?_) | refine sw_skipT (h:=?_) | refine sw_skipF (h:=?_) | refine sw_box (h:=fun _ => ?_) | refine cw_cond_t (ht:=?_) | refine cw_cond_f (hf:=?_) | apply cw_skip | apply cw_block | apply cw_ret | refine sy_bneq (h:=?_) | (refine sw_pu (hc:=hri) (hX:=fun _ h => h.2.1) (h:=?_)) | (refine sw_puV (hc:=hpl') (hX:=fun _ h => h.2.2) (h:=?_)) | ((fail_if_success (refine sw_chk (h:=?_)));refine sw_guard (ht:=?_) (hf:=?_);all_goals (intro hx_;skip)) | (refine cw_cond (ht:=?_) (hf:=?_);all_goals (intro hx_;first | have := of_decide_eq_true hx_ | have := of_decide_eq_false hx_ | skip)))
        all_goals first
          | (exfalso;simp_all;done)
          | (apply ends_ret;apply res_tmp;rfl;rfl;simp_all [atK];done)
      | some j =>
        have hjl := hlt j rfl
        have hp' := hp (by omega)
        obtain ⟨x,hx⟩ : ∃ x,c.actsL[j]? = some x := ⟨_,List.getElem?_eq_getElem hjl⟩
        have hA : ∀ p,atK c (some j) p = p x.kind := fun p => by simp only [atK,List.getD_eq_getElem?_getD,hx,Option.getD_some]
        rw [hA,hA] at hF ⊢
        have hpl' : Pu Tryz.prog gf (.string a.object :: lb).toArray Y (.tuple #[.int .i64 (j : Nat),.bool true]) := hpl
        clear hpl
        repeat' (first | refine sy_neqF (hab:=e3) (h:=?_) | apply sw_nil | apply cw_seq | apply cw_reg | refine sy_move (h:=?_) | refine sy_assign (h:=?_) | refine sy_fld (h:=?_) | refine sy_ld (h:=?_) | refine sy_ldAll (h:=?_) | refine sy_pick_t (h:=?_) | refine sy_pick_f (h:=?_) | refine sy_not (h:=?_) | refine sy_eql (h:=?_) | refine sy_sneq (h:=?_) | refine sy_len (h:=?_) | refine sy_extract (h:=?_) | refine sw_skipF (h:=?_) | refine sw_box (h:=fun _ => ?_) | refine cw_cond_t (ht:=?_) | refine cw_cond_f (hf:=?_) | apply cw_skip | apply cw_block | apply cw_ret | refine sy_bneq (h:=?_) | (refine sw_pu (hc:=hri) (hX:=fun _ h => h.2.1) (h:=?_)) | (refine sw_puV (hc:=hpl') (hX:=fun _ h => h.2.2) (h:=?_)) | (refine sy_idxX (q:=j * 20) (h:=?_)) | (refine sy_fldX (h:=?_)) | (refine sy_ldX (q:=j * 20 + 3) (u:=.int .i64 x.kind) (hF:=fun w h => (Acts.get h.1 hx).2.2 3 _ rfl) (h:=?_)) | refine sw_pu (hc:=undoable_pu x.kind) (h:=?_) | refine sw_pu (hc:=posting_pu x.kind) (h:=?_) | ((fail_if_success (refine sw_chk (h:=?_)));refine sw_guard (ht:=?_) (hf:=?_);all_goals (intro hx_;skip)) | (refine cw_cond (ht:=?_) (hf:=?_);all_goals (intro hx_;first | have := of_decide_eq_true hx_ | have := of_decide_eq_false hx_ | skip)))
        all_goals first
          | (exfalso;simp_all;done)
          | (apply ends_ret;apply res_tmp;rfl;rfl;simp_all;done)
theorem fits1_pu (c : ChainD) (hc : ActsOk c.actsL) (b : Nat) (d : ByteArray) : Pu Tryz.prog 108 #[.string d,.pointer (some ⟨b,0,none⟩)] (fun w => (c.at_ w ∧ Glob w) ∧ ChBox c b w) (idxP (idxV c.actsL d)) := by
  refine pu_of_cw (args:=[_,_]) _ Tryz.func108 rfl Tryz.ntmps108 rfl fun av bor w0 => ?_
  repeat' (first | apply sw_nil | apply cw_seq | apply cw_reg | refine sy_move (h:=?_) | refine sy_assign (h:=?_) | refine sy_extract (h:=?_) | apply cw_ret | (refine sy_ldCs (cs:=c.cells) (hF:=fun w h => h.2.cell) (hl:=rfl) (h:=?_)) | (refine sw_pu (hc:=index_pu c hc d) (hX:=fun _ h => h.1) (h:=?_)) | fail)
  exact ends_ret (res_tmp2 rfl rfl rfl) rfl
theorem chFits_pu (c : ChainD) (hc : ActsOk c.actsL) (a : ActD) : Pu Tryz.prog 60 #[c.v,a.v] (fun w => (c.at_ w ∧ Glob w) ∧ a.at_ w) (.bool (fitsV c a (idxV c.actsL a.object))) := by
  refine pu_of_cw (args:=[_,_]) _ Tryz.func60 rfl Tryz.ntmps60 rfl fun av bor w0 => ?_
  have hf := fun b => fits_pu c a 108 [.pointer (some ⟨b,0,none⟩)] (idxV c.actsL a.object) _ (fits1_pu c hc b a.object) (fun j h => idxV_lt h)
  repeat' (first | apply sw_nil | apply cw_seq | apply cw_reg | refine sy_assign (h:=?_) | refine sy_ldAll (h:=?_) | refine sw_box (h:=fun _ => ?_) | apply cw_ret | (refine sy_makeFunc (h:=?_)) | (refine sw_puL (hc:=hf _) (hX:=fun w h hr => ⟨h.1.1,h.2,h.1,hr _ (List.mem_cons_of_mem _ List.mem_cons_self)⟩) (h:=?_)) | fail)
  exact ends_ret (res_tmp rfl rfl) rfl
end Go.Proofs.YtjmpdkmboheknaaGreatDoor

namespace Go.Proofs.YtjmpdkmboheknaaGreatDoor
open Go Go.Proofs Sy
structure ClaimD where
  actor : ByteArray
  base : Int
  prev : ByteArray
  gen : Int
  home : Int
  pub : Int
  time : Int
  e : Int
  s : Int
structure BallotD where
  server : Int
  actor : ByteArray
  gen : Int
  claim : ByteArray
  time : Int
  e : Int
  s : Int
structure DecD where
  server : Int
  number : Int
  kind : Int
  actor : ByteArray
  object : ByteArray
  text : ByteArray
  to : SlV
  n : Int
  from_ : Int
  until_ : Int
  e : Int
  s : Int
  toL : List ByteArray
structure ItemD where
  kind : Int
  act : ActD
  claim : ClaimD
  ballot : BallotD
  dec : DecD
def ClaimD.cells (c : ClaimD) : List Value := [.string c.actor,.int .i64 c.base,.string c.prev,.int .i64 c.gen,.int .i64 c.home,.int .i64 c.pub,.int .i64 c.time,.int .i64 c.e,.int .i64 c.s]
def ClaimD.v (c : ClaimD) : Value := .agg c.cells.toArray
def ClaimD.zero : ClaimD := ⟨⟨#[]⟩,0,⟨#[]⟩,0,0,0,0,0,0⟩
def BallotD.cells (b : BallotD) : List Value := [.int .i64 b.server,.string b.actor,.int .i64 b.gen,.string b.claim,.int .i64 b.time,.int .i64 b.e,.int .i64 b.s]
def BallotD.v (b : BallotD) : Value := .agg b.cells.toArray
def BallotD.zero : BallotD := ⟨0,⟨#[]⟩,0,⟨#[]⟩,0,0,0⟩
def DecD.cells (d : DecD) : List Value := [.int .i64 d.server,.int .i64 d.number,.int .i64 d.kind,.string d.actor,.string d.object,.string d.text,d.to.v,.int .i64 d.n,.int .i64 d.from_,.int .i64 d.until_,.int .i64 d.e,.int .i64 d.s]
def DecD.v (d : DecD) : Value := .agg d.cells.toArray
def DecD.zero : DecD := ⟨0,0,0,⟨#[]⟩,⟨#[]⟩,⟨#[]⟩,⟨none,0,0⟩,0,0,0,0,0, []⟩
def DecD.at_ (w : World) (d : DecD) : Prop := Strs w d.to d.toL
def ItemD.cells (i : ItemD) : List Value := .int .i64 i.kind :: (i.act.cells ++ i.claim.cells ++ i.ballot.cells ++ i.dec.cells)
def ItemD.v (i : ItemD) : Value := .agg i.cells.toArray
def ItemD.at_ (w : World) (i : ItemD) : Prop := ActD.at_ w i.act ∧ DecD.at_ w i.dec
def ofActI (a : ActD) : ItemD := ⟨0,a,ClaimD.zero,BallotD.zero,DecD.zero⟩
def ItemD.zero : ItemD := ofActI ActD.zero
def Items (w : World) (s : SlV) (l : List ItemD) : Prop := RowsD w 49 s (l.map ItemD.cells) ∧ ∀ i ∈ l,ItemD.at_ w i
theorem Items.len_ {w : World} {s : SlV} {l : List ItemD} (h : Items w s l) : s.n = l.length := by simpa using RowsD.len h.1
theorem Items.max_ {w : World} {s : SlV} {l : List ItemD} (h : Items w s l) : s.n ≤ maxLen := Nat.le_trans (RowsD.cap h.1) (RowsD.max h.1)
theorem Items.get {w : World} {s : SlV} {l : List ItemD} (h : Items w s l) {k : Nat} {x : ItemD} (hx : l[k]? = some x) : x.cells.length = 49 ∧ s.p.isSome = true ∧ ∀ j u,x.cells[j]? = some u → CellAt w s.p (k * 49 + j) u := RowsD.row h.1 k x.cells (by simp [hx])
theorem Items.some_ {w : World} {s : SlV} {l : List ItemD} (h : Items w s l) (h0 : 0 < l.length) : s.p.isSome = true := (h.get (k:=0) (x:=l[0]) (List.getElem?_eq_getElem h0)).2.1
end Go.Proofs.YtjmpdkmboheknaaGreatDoor
