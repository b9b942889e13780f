/- Joined by program out of: Dd Sg Gr Gs Ge Hn Hb Hc Ln. -/
import Derived.Shelf.SlIter.Nil
import Derived.Shelf.SlIterI.Nil
import Derived.Shelf.SortM.Plain
import Derived.Shelf.SortM.SortNone
import Derived.Shelf.Slices.CompactS
import Derived.Test.YtjmpdkmboheknaaGreatDoorProg
import Derived.Test.YtjmpdkmboheknaaGreatDoorQ4
import Derived.Shelf.Bits.Mul64
import Derived.Shelf.Strconv.Itoa0
set_option linter.unusedVariables false
set_option linter.unusedSimpArgs false
namespace Go.Proofs.YtjmpdkmboheknaaGreatDoor.Sy
open Go Go.RowKit
section
variable {P : Program} {N : Nat} {av bor : List Nat} {w0 : World}
variable {loc0 : List Res} {X0 : World → Prop} {ops : Array Oper} {fuel : Nat} {listed : Array Bool} {E : Env} {loc : List Res} {X : World → Prop} {k : St → Prop} {K : Exit → St → Prop}
variable {n : Nat} {o : Op} {ty : TypeId} {pos : String} {af : Array Edge} {g : Option (Nat × Bool)} {v : Value} {bb want : Bool}
theorem aw_dtake (i : Nat) (hi : ops[i]? = some ⟨some n,o,ty,pos,af,g⟩ := by rfl) (hs : Region.noSelect ops = true := by kernel_rfl) (hf : Region.free .any ops listed i = true := by kernel_rfl) (hr : (Region.ready .any ops listed).contains i = true := by kernel_rfl)
    (hsub : ∀ w,Gam av bor w0 loc X w → Gam av bor w0 loc0 X0 w := by (first | exact fun _ h => h | exact fun _ h => h.drop (by ((repeat (first | exact List.Sublist.refl _ | exact List.Sublist.cons_cons _ (List.nil_sublist _) | apply List.Sublist.cons));done)) | exact fun _ h => (h.drop (by ((repeat (first | exact List.Sublist.refl _ | exact List.Sublist.cons_cons _ (List.nil_sublist _) | apply List.Sublist.cons));done))).imp (fun _ h => h.1) | exact fun _ h => (h.drop (by ((repeat (first | exact List.Sublist.refl _ | exact List.Sublist.cons_cons _ (List.nil_sublist _) | apply List.Sublist.cons));done))).imp (fun _ h => h.1.1) | exact fun _ h => (h.drop (by ((repeat (first | exact List.Sublist.refl _ | exact List.Sublist.cons_cons _ (List.nil_sublist _) | apply List.Sublist.cons));done))).imp (fun _ h => h.1.1.1) | exact fun _ h => (h.drop (by ((repeat (first | exact List.Sublist.refl _ | exact List.Sublist.cons_cons _ (List.nil_sublist _) | apply List.Sublist.cons));done))).imp (fun _ h => h.1.1.1.1))) (hy : Sy.Yields P N av bor w0 ⟨E,loc0,X0⟩ o ty v := by (first | (apply y_move;rfl) | (apply y_assign;rfl) | (apply y_nilCheck;rfl) | (apply y_fld;rfl;(first | exact Nat.zero_add _ | (simp only [Nat.reduceAdd];rfl))) | (apply y_ld;rfl;(repeat (first | exact List.mem_cons_self | apply List.mem_cons_of_mem));rfl) | (apply y_ldAll;rfl;(repeat (first | exact List.mem_cons_self | apply List.mem_cons_of_mem));rfl) | (apply y_pick_t;rfl;(first | with_reducible rfl | with_reducible assumption | with_reducible exact Bool.not_false | with_reducible exact Bool.not_true);rfl) | (apply y_pick_f;rfl;(first | with_reducible rfl | with_reducible assumption | with_reducible exact Bool.not_false | with_reducible exact Bool.not_true);rfl) | (apply y_not;rfl) | (apply y_eql;rfl;rfl) | (apply y_neq;rfl;rfl) | (apply y_lss;rfl;rfl) | (apply y_leq;rfl;rfl) | (apply y_gtr;rfl;rfl) | (apply y_geq;rfl;rfl) | (apply y_seql;rfl;rfl) | (apply y_sneq;rfl;rfl) | (apply y_slen;rfl) | (apply y_len;rfl) | (apply y_extract;rfl;rfl) | (apply y_add;rfl;rfl;(first | exact IntWalk.i64_in _ (by omega) | rfl)) | (apply y_sub;rfl;rfl;(first | exact IntWalk.i64_in _ (by omega) | rfl)) | (apply y_and;rfl;rfl) | (apply y_or;rfl;rfl) | (apply y_xor;rfl;rfl) | (apply y_andNot;rfl;rfl) | (apply y_xorU;rfl) | (apply y_shl;rfl;rfl;(first | decide | exact bitsV_nonneg _ _ rfl _ _ | exact k_nonneg _ rfl _ | omega)) | (apply y_shr;rfl;rfl;(first | decide | exact bitsV_nonneg _ _ rfl _ _ | exact k_nonneg _ rfl _ | omega)) | (apply y_int;rfl;rfl) | (apply y_arrA;rfl;rfl;decide;decide;rfl))) (hg : gdB ops E g = some (bb,want) := by rfl) (hb : bb = want := by (first | with_reducible rfl | with_reducible assumption | with_reducible exact Bool.not_false | with_reducible exact Bool.not_true)) (hd : Nat.blt n N = true := by rfl)
    (h : Aw P N av bor w0 loc0 X0 ops fuel (listed.setIfInBounds i true) ⟨(n,v) :: E,loc,X⟩ k) : Aw P N av bor w0 loc0 X0 ops (fuel + 1) listed ⟨E,loc,X⟩ k := aw_take i hi hs hf hr hsub hy hg hb hd h
theorem aw_dskipT (i : Nat) (hi : ops[i]? = some ⟨some n,o,ty,pos,af,g⟩ := by rfl) (hs : Region.noSelect ops = true := by kernel_rfl) (hf : Region.free .any ops listed i = true := by kernel_rfl) (hr : (Region.ready .any ops listed).contains i = true := by kernel_rfl)
    (hsub : ∀ w,Gam av bor w0 loc X w → Gam av bor w0 loc0 X0 w := by (first | exact fun _ h => h | exact fun _ h => h.drop (by ((repeat (first | exact List.Sublist.refl _ | exact List.Sublist.cons_cons _ (List.nil_sublist _) | apply List.Sublist.cons));done)) | exact fun _ h => (h.drop (by ((repeat (first | exact List.Sublist.refl _ | exact List.Sublist.cons_cons _ (List.nil_sublist _) | apply List.Sublist.cons));done))).imp (fun _ h => h.1) | exact fun _ h => (h.drop (by ((repeat (first | exact List.Sublist.refl _ | exact List.Sublist.cons_cons _ (List.nil_sublist _) | apply List.Sublist.cons));done))).imp (fun _ h => h.1.1) | exact fun _ h => (h.drop (by ((repeat (first | exact List.Sublist.refl _ | exact List.Sublist.cons_cons _ (List.nil_sublist _) | apply List.Sublist.cons));done))).imp (fun _ h => h.1.1.1) | exact fun _ h => (h.drop (by ((repeat (first | exact List.Sublist.refl _ | exact List.Sublist.cons_cons _ (List.nil_sublist _) | apply List.Sublist.cons));done))).imp (fun _ h => h.1.1.1.1))) (hg : gdB ops E g = some (bb,true) := by rfl) (hb : bb = false := by (first | with_reducible rfl | with_reducible assumption | with_reducible exact Bool.not_false | with_reducible exact Bool.not_true)) (hd : Nat.blt n N = true := by rfl)
    (h : Aw P N av bor w0 loc0 X0 ops fuel (listed.setIfInBounds i true) ⟨(n,undef) :: E,loc,X⟩ k) : Aw P N av bor w0 loc0 X0 ops (fuel + 1) listed ⟨E,loc,X⟩ k := aw_skipT i hi hs hf hr hsub hg hb hd h
theorem aw_dskipF (i : Nat) (hi : ops[i]? = some ⟨some n,o,ty,pos,af,g⟩ := by rfl) (hs : Region.noSelect ops = true := by kernel_rfl) (hf : Region.free .any ops listed i = true := by kernel_rfl) (hr : (Region.ready .any ops listed).contains i = true := by kernel_rfl)
    (hsub : ∀ w,Gam av bor w0 loc X w → Gam av bor w0 loc0 X0 w := by (first | exact fun _ h => h | exact fun _ h => h.drop (by ((repeat (first | exact List.Sublist.refl _ | exact List.Sublist.cons_cons _ (List.nil_sublist _) | apply List.Sublist.cons));done)) | exact fun _ h => (h.drop (by ((repeat (first | exact List.Sublist.refl _ | exact List.Sublist.cons_cons _ (List.nil_sublist _) | apply List.Sublist.cons));done))).imp (fun _ h => h.1) | exact fun _ h => (h.drop (by ((repeat (first | exact List.Sublist.refl _ | exact List.Sublist.cons_cons _ (List.nil_sublist _) | apply List.Sublist.cons));done))).imp (fun _ h => h.1.1) | exact fun _ h => (h.drop (by ((repeat (first | exact List.Sublist.refl _ | exact List.Sublist.cons_cons _ (List.nil_sublist _) | apply List.Sublist.cons));done))).imp (fun _ h => h.1.1.1) | exact fun _ h => (h.drop (by ((repeat (first | exact List.Sublist.refl _ | exact List.Sublist.cons_cons _ (List.nil_sublist _) | apply List.Sublist.cons));done))).imp (fun _ h => h.1.1.1.1))) (hg : gdB ops E g = some (bb,false) := by rfl) (hb : bb = true := by (first | with_reducible rfl | with_reducible assumption | with_reducible exact Bool.not_false | with_reducible exact Bool.not_true)) (hd : Nat.blt n N = true := by rfl)
    (h : Aw P N av bor w0 loc0 X0 ops fuel (listed.setIfInBounds i true) ⟨(n,undef) :: E,loc,X⟩ k) : Aw P N av bor w0 loc0 X0 ops (fuel + 1) listed ⟨E,loc,X⟩ k := aw_skipF i hi hs hf hr hsub hg hb hd h
theorem aw_dfin {A : Prop} (h : A) (hsub : ∀ w,Gam av bor w0 loc X w → Gam av bor w0 loc0 X0 w := by (first | exact fun _ h => h | exact fun _ h => h.drop (by ((repeat (first | exact List.Sublist.refl _ | exact List.Sublist.cons_cons _ (List.nil_sublist _) | apply List.Sublist.cons));done)) | exact fun _ h => (h.drop (by ((repeat (first | exact List.Sublist.refl _ | exact List.Sublist.cons_cons _ (List.nil_sublist _) | apply List.Sublist.cons));done))).imp (fun _ h => h.1) | exact fun _ h => (h.drop (by ((repeat (first | exact List.Sublist.refl _ | exact List.Sublist.cons_cons _ (List.nil_sublist _) | apply List.Sublist.cons));done))).imp (fun _ h => h.1.1) | exact fun _ h => (h.drop (by ((repeat (first | exact List.Sublist.refl _ | exact List.Sublist.cons_cons _ (List.nil_sublist _) | apply List.Sublist.cons));done))).imp (fun _ h => h.1.1.1) | exact fun _ h => (h.drop (by ((repeat (first | exact List.Sublist.refl _ | exact List.Sublist.cons_cons _ (List.nil_sublist _) | apply List.Sublist.cons));done))).imp (fun _ h => h.1.1.1.1))) : (∀ w,Gam av bor w0 loc X w → Gam av bor w0 loc0 X0 w) ∧ A := aw_fin h hsub
end
end Go.Proofs.YtjmpdkmboheknaaGreatDoor.Sy

namespace Go.Proofs
open Go.Shelf
def Tryz.len64_ren : Go.Shelf.Ren := ⟨fun | 129 => 134 | n => n,fun | 53 => 187 | 3 => 3 | 4 => 4 | 46 => 134 | 5 => 5 | 9 => 9 | n => n,fun | n => n⟩
theorem Tryz.len64 : Go.Proofs.Lays.n129 Tryz.prog Tryz.len64_ren := {
  mixed := by kernel_rfl
  f129 := Tryz.func134.trans (congrArg some (by kernel_rfl))
  t3 := Tryz.underlying3
  a3 := Tryz.isAgg3
  z3 := Tryz.sizeOf3
  v3 := Tryz.zeroValue3
  t4 := Tryz.underlying4
  a4 := Tryz.isAgg4
  z4 := Tryz.sizeOf4
  v4 := Tryz.zeroValue4
  t5 := Tryz.underlying5
  a5 := Tryz.isAgg5
  z5 := Tryz.sizeOf5
  v5 := Tryz.zeroValue5
  t9 := Tryz.underlying9
  a9 := Tryz.isAgg9
  z9 := Tryz.sizeOf9
  v9 := Tryz.zeroValue9
  t46 := Tryz.underlying134
  a46 := Tryz.isAgg134
  z46 := Tryz.sizeOf134
  v46 := Tryz.zeroValue134
  t53 := Tryz.underlying187
  a53 := Tryz.isAgg187
  z53 := Tryz.sizeOf187
  v53 := Tryz.zeroValue187 }
def Tryz.mul64_ren : Go.Shelf.Ren := ⟨fun | 264 => 237 | n => n,fun | 53 => 187 | 46 => 134 | n => n,fun | n => n⟩
theorem Tryz.mul64 : Go.Proofs.Lays.n264 Tryz.prog Tryz.mul64_ren := {
  mixed := by kernel_rfl
  f264 := Tryz.func237.trans (congrArg some (by kernel_rfl))
  t46 := Tryz.underlying134
  a46 := Tryz.isAgg134
  z46 := Tryz.sizeOf134
  v46 := Tryz.zeroValue134
  t53 := Tryz.underlying187
  a53 := Tryz.isAgg187
  z53 := Tryz.sizeOf187
  v53 := Tryz.zeroValue187 }
def Tryz.join_ren : Go.Shelf.Ren := ⟨fun | 156 => 83 | 165 => 136 | 166 => 137 | 169 => 138 | 240 => 197 | 241 => 198 | 276 => 239 | 277 => 240 | n => n,fun | 31 => 23 | 9 => 9 | 3 => 3 | 4 => 4 | 0 => 0 | 20 => 20 | 72 => 195 | 76 => 199 | 70 => 193 | 37 => 120 | 75 => 198 | 127 => 237 | 164 => 270 | 5 => 5 | 80 => 201 | n => n,fun | n => n⟩
theorem Tryz.join : Go.Proofs.Lays.n156 Tryz.prog Tryz.join_ren := {
  mixed := by kernel_rfl
  f156 := Tryz.func83.trans (congrArg some (by kernel_rfl))
  f165 := Tryz.func136.trans (congrArg some (by kernel_rfl))
  f166 := Tryz.func137.trans (congrArg some (by kernel_rfl))
  f169 := Tryz.func138.trans (congrArg some (by kernel_rfl))
  f240 := Tryz.func197.trans (congrArg some (by kernel_rfl))
  f241 := Tryz.func198.trans (congrArg some (by kernel_rfl))
  f276 := Tryz.func239.trans (congrArg some (by kernel_rfl))
  f277 := Tryz.func240.trans (congrArg some (by kernel_rfl))
  t0 := Tryz.underlying0
  a0 := Tryz.isAgg0
  z0 := Tryz.sizeOf0
  v0 := Tryz.zeroValue0
  t3 := Tryz.underlying3
  a3 := Tryz.isAgg3
  z3 := Tryz.sizeOf3
  v3 := Tryz.zeroValue3
  t4 := Tryz.underlying4
  a4 := Tryz.isAgg4
  z4 := Tryz.sizeOf4
  v4 := Tryz.zeroValue4
  t9 := Tryz.underlying9
  a9 := Tryz.isAgg9
  z9 := Tryz.sizeOf9
  v9 := Tryz.zeroValue9
  t20 := Tryz.underlying20
  a20 := Tryz.isAgg20
  z20 := Tryz.sizeOf20
  v20 := Tryz.zeroValue20
  t31 := Tryz.underlying23
  a31 := Tryz.isAgg23
  z31 := Tryz.sizeOf23
  v31 := Tryz.zeroValue23
  t37 := Tryz.underlying120
  a37 := Tryz.isAgg120
  z37 := Tryz.sizeOf120
  v37 := Tryz.zeroValue120
  t70 := Tryz.underlying193
  a70 := Tryz.isAgg193
  z70 := Tryz.sizeOf193
  v70 := Tryz.zeroValue193
  t72 := Tryz.underlying195
  a72 := Tryz.isAgg195
  z72 := Tryz.sizeOf195
  v72 := Tryz.zeroValue195
  t75 := Tryz.underlying198
  a75 := Tryz.isAgg198
  z75 := Tryz.sizeOf198
  v75 := Tryz.zeroValue198
  t76 := Tryz.underlying199
  a76 := Tryz.isAgg199
  z76 := Tryz.sizeOf199
  v76 := Tryz.zeroValue199
  t127 := Tryz.underlying237
  a127 := Tryz.isAgg237
  z127 := Tryz.sizeOf237
  v127 := Tryz.zeroValue237
  t164 := Tryz.underlying270
  a164 := Tryz.isAgg270
  z164 := Tryz.sizeOf270
  v164 := Tryz.zeroValue270 }
end Go.Proofs

namespace Go.Proofs.YtjmpdkmboheknaaGreatDoor
open Go Go.Proofs Sy Go.Shelf
theorem pu_of_same {P : Program} {f : FuncId} {args : Array Value} {X : World → Prop} {v : Value} (h : ∀ w,Calls P f args w fun e w' => e = .returned v ∧ w' = w) : Pu P f args X v := by
  unfold Pu
  exact Ct.mk fun w av G => (h w).mono fun e w' ⟨he,hw⟩ => ⟨v, [],X,he,⟨rfl,rfl⟩,by subst hw;exact G⟩
theorem len64_pu (x : Nat) (hx : x < 18446744073709551616) : Pu Tryz.prog 134 #[.int .u64 (x : Int)] (fun _ => True) (.int .i64 (Lib.bitLen x)) :=
  pu_of_same fun w => by
    have h := Any.bits_Len64 Tryz.len64 (x : Int) w (by omega) (by omega)
    rw [Int.toNat_natCast] at h
    exact h
theorem mul64_pu (x y : Nat) (hx : x < 18446744073709551616) (hy : y < 18446744073709551616) : Pu Tryz.prog 237 #[.int .u64 (x : Int),.int .u64 (y : Int)] (fun _ => True) (.tuple #[.int .u64 ((x * y / 18446744073709551616 : Nat) : Int),.int .u64 ((x * y % 18446744073709551616 : Nat) : Int)]) :=
  pu_of_same fun w => Any.bits_Mul64 Tryz.mul64 x y hx hy w
theorem lead_pu (d : Nat) (hd : d = 8 ∨ d = 16) : Pu Tryz.prog 287 #[.int .u64 ((2305843009213693952 - d / 8 : Nat) : Int)] (fun _ => True) (.int .i64 3) := by
  refine pu_of_cw (args:=[_]) _ Tryz.func287 rfl Tryz.ntmps287 rfl fun av bor w0 => ?_
  have h := len64_pu (2305843009213693952 - d / 8) (by omega)
  have e : Lib.bitLen (2305843009213693952 - d / 8) = 61 := by rcases hd with rfl | rfl <;> kernel_rfl
  rw [e] at h
  repeat' (first | apply sw_nil | apply cw_seq | apply cw_reg | refine sy_move (h:=?_) | refine sy_assign (h:=?_) | refine sy_sub (h:=?_) | apply cw_ret | (refine sw_pu (hc:=h) (hX:=fun w h => h) (h:=?_)) | fail)
  apply ends_ret;apply res_tmp;rfl;rfl
  rfl
namespace Sy
section
variable {P : Program} {N : Nat} {av bor : List Nat} {w0 : World} {st : St} {K : Exit → St → Prop}
theorem cw_meetG {ι : Type} {id : Nat} (M : ι → St) {x y : Code} (h1 : Cw P N av bor w0 x st (blk id (thn (fun s => ∃ i, ∀ a w,Ok N av bor w0 s a w → Ok N av bor w0 (M i) a w) K))) (h2 : ∀ i,Cw P N av bor w0 y (M i) K) :
    Cw P N av bor w0 x st (blk id (thn (fun s => Cw P N av bor w0 y s K) K)) := cw_mono (fun e s h => by
  cases e with
  | normal =>
    obtain ⟨i,hi⟩ := h
    exact cw_to hi (h2 i)
  | exit id' =>
    by_cases e : id' = id
    · simp only [blk,if_pos e] at h ⊢
      obtain ⟨i,hi⟩ := h
      exact cw_to hi (h2 i)
    · simp only [blk,if_neg e] at h ⊢
      exact h
  | _ => exact h) h1
end
end Sy
theorem u64_in (x : Int) (h : 0 ≤ x ∧ x < 18446744073709551616) : IntKind.u64.wrap x = x := by
  rw [IntKind.wrap_u64]
  omega
theorem u64_wr (x : Int) : IntKind.u64.wrap x = x % 18446744073709551616 := IntKind.wrap_u64 x
def Eqq (a b : Int) : Prop := a = b
def Hid (p : Prop) : Prop := p
theorem u64_wr3 (a b c : Int) : IntKind.u64.wrap (IntKind.u64.wrap (IntKind.u64.wrap a + b) - IntKind.u64.wrap c) = (a + b - c) % 18446744073709551616 := by
  simp only [u64_wr]
  omega
theorem div_mod_of {V M Q z : Nat} (h : V = M * Q + z) (hz : z < M) : V / M = Q ∧ V % M = z := by
  subst h
  exact ⟨by rw [Nat.mul_add_div (by omega),Nat.div_eq_of_lt hz,Nat.add_zero],by rw [Nat.mul_add_mod,Nat.mod_eq_of_lt hz]⟩
theorem and32 (a : Nat) (ha : a < 18446744073709551616) : bitsV .and .u64 (a : Int) 4294967295 = ((a % 4294967296 : Nat) : Int) := by
  show IntKind.u64.wrap ((((BitVec.ofInt 64 (a : Int)) &&& (BitVec.ofInt 64 4294967295)).toNat : Nat) : Int) = _
  have e : (BitVec.ofInt 64 4294967295).toNat = 4294967295 := by decide
  rw [BitVec.toNat_and,e,BitVec.ofInt_natCast,BitVec.toNat_ofNat,Nat.mod_eq_of_lt (show a < 2 ^ 64 from ha),show (4294967295 : Nat) = 2 ^ 32 - 1 by decide,Nat.and_two_pow_sub_one_eq_mod,u64_in _ (by omega)]
theorem shl3 (a : Nat) : shlV .u64 (a : Int) 3 = ((a * 8 % 18446744073709551616 : Nat) : Int) := by
  show IntKind.u64.wrap ((a : Int) * 2 ^ (min (3 : Int).toNat 64)) = _
  rw [show (2 : Int) ^ (min (3 : Int).toNat 64) = 8 by kernel_rfl,u64_wr]
  omega
theorem shr_n (a : Nat) {c : Int} (p : Nat) (hp : (2 : Int) ^ (min c.toNat 64) = (p : Int)) : shrV .u64 (a : Int) c = ((a / p : Nat) : Int) := by
  show (a : Int).fdiv (2 ^ (min c.toNat 64)) = _
  rw [hp, ← Int.ofNat_fdiv]
theorem or3 (a b : Nat) (ha : a < 2305843009213693952) (hb : b < 8) : bitsV .or .u64 ((a * 8 : Nat) : Int) (b : Int) = ((a * 8 + b : Nat) : Int) := by
  show IntKind.u64.wrap ((((BitVec.ofInt 64 ((a * 8 : Nat) : Int)) ||| (BitVec.ofInt 64 (b : Int))).toNat : Nat) : Int) = _
  rw [BitVec.ofInt_natCast,BitVec.ofInt_natCast,BitVec.toNat_or,BitVec.toNat_ofNat,BitVec.toNat_ofNat,Nat.mod_eq_of_lt (show a * 8 < 2 ^ 64 by omega),Nat.mod_eq_of_lt (show b < 2 ^ 64 by omega)]
  have e : a * 8 ||| b = a * 8 + b := by
    have h := Nat.shiftLeft_add_eq_or_of_lt (i:=3) (b:=b) hb a
    rw [Nat.shiftLeft_eq] at h
    exact h.symm
  rw [e,u64_in _ (by omega)]
theorem quo_n (a b : Nat) (ha : a < 18446744073709551616) (hb : 0 < b) : IntKind.u64.wrap ((a : Int).tdiv (b : Int)) = ((a / b : Nat) : Int) := by
  have h : (a : Int).tdiv (b : Int) = ((a / b : Nat) : Int) := by rw [Int.natCast_ediv,Int.tdiv_eq_ediv_of_nonneg (by omega)]
  have := Nat.div_le_self a b
  rw [h]
  generalize a / b = c at *
  rw [u64_in _ (by omega)]
theorem rem_n (a b : Nat) : (a : Int).tmod (b : Int) = ((a % b : Nat) : Int) := by rw [Int.natCast_emod,Int.tmod_eq_emod_of_nonneg (by omega)]
theorem div_bigP {u v p r : Nat} (isum : (p + 1) * 4294967295 + r = u) (hu : u < 18446744073709551608) (hv : v < 4294967296) (h : 4294967296 ≤ p + 1 ∨ 4294967296 * r + v < (p + 1) * 4294967288) : u * 4294967296 + v < (p + 1) * 18446744073709551608 := by
  rcases h with h | h
  · exact Nat.lt_of_lt_of_le (show u * 4294967296 + v < 4294967296 * 18446744073709551608 by omega) (Nat.mul_le_mul_right 18446744073709551608 h)
  · have e : (p + 1) * 18446744073709551608 = (p + 1) * 4294967295 * 4294967296 + (p + 1) * 4294967288 := by rw [Nat.mul_assoc, ← Nat.mul_add]
    rw [e, ← isum,Nat.add_mul,Nat.add_assoc]
    exact Nat.add_lt_add_left (by rw [Nat.mul_comm r];exact h) _
theorem div_lowP {u v p r : Nat} (isum : (p + 1) * 4294967295 + r = u) (hr : 4294967296 ≤ r + 4294967295) (itop : p + 1 ≤ 4294967297) : p * 18446744073709551608 ≤ u * 4294967296 + v := by
  have e : p * 18446744073709551608 = p * 4294967295 * 4294967296 + p * 4294967288 := by rw [Nat.mul_assoc, ← Nat.mul_add]
  have h1 : p * 4294967288 ≤ 4294967296 * 4294967296 := Nat.mul_le_mul (by omega) (by decide)
  have hu' : u = p * 4294967295 + (r + 4294967295) := by
    rw [← isum,Nat.succ_mul,Nat.add_assoc,Nat.add_comm 4294967295 r]
  rw [hu',Nat.add_mul,e,Nat.add_assoc]
  exact Nat.add_le_add_left (Nat.le_trans h1 (Nat.le_trans (Nat.mul_le_mul_right 4294967296 hr) (Nat.le_add_right _ _))) _
structure DivIP (u v : Nat) where
  q : Nat
  r : Nat
  sum : q * 4294967295 + r = u
  big : u * 4294967296 + v < (q + 1) * 18446744073709551608
  top : q ≤ 4294967297
  lim : r < 4294967296
structure DivEP (u v : Nat) where
  q : Nat
  lo : q * 18446744073709551608 ≤ u * 4294967296 + v
  hi : u * 4294967296 + v < (q + 1) * 18446744073709551608
set_option maxHeartbeats 4000000 in
set_option maxRecDepth 20000 in
theorem div64P (hi lo : Nat) (hhi : hi < 2305843009213693951) (hlo : lo < 18446744073709551616) :
    Pu Tryz.prog 265 #[.int .u64 (hi : Int),.int .u64 (lo : Int),.int .u64 2305843009213693951] (fun _ => True)
      (.tuple #[.int .u64 (((hi * 18446744073709551616 + lo) / 2305843009213693951 : Nat) : Int),.int .u64 (((hi * 18446744073709551616 + lo) % 2305843009213693951 : Nat) : Int)]) := by
  refine pu_of_cw (args:=[_,_,_]) _ Tryz.func265 rfl Tryz.ntmps265 rfl fun av bor w0 => ?_
  have hz := lead_pu 8 (by decide)
  repeat' (first | apply sw_nil | apply cw_seq | apply cw_reg | refine sy_move (h:=?_) | refine sy_assign (h:=?_) | refine sy_eql (h:=?_) | refine sy_leq (h:=?_) | refine sy_sub (h:=?_) | apply cw_skip | refine sy_and (h:=?_) | refine sy_or (h:=?_) | refine sy_shl (h:=?_) | refine sy_shr (h:=?_) | refine sy_int (h:=?_) | (refine sw_pu (hc:=hz) (hX:=fun w h => h) (h:=?_)) | (refine cw_cond (ht:=?_) (hf:=?_);all_goals (intro hx_;first | have := of_decide_eq_true hx_ | have := of_decide_eq_false hx_)))
  · exfalso;omega
  · exfalso;omega
  · have h0 : hi = 0 := by omega
    subst h0
    have e1 : IntKind.u64.wrap ((lo : Int).tdiv 2305843009213693951) = ((lo / 2305843009213693951 : Nat) : Int) := quo_n lo 2305843009213693951 hlo (by decide)
    have e2 : (lo : Int).tmod 2305843009213693951 = ((lo % 2305843009213693951 : Nat) : Int) := rem_n lo 2305843009213693951
    (refine cw_draw [] (fun _ => True) (by kernel_rfl) ?_)
    all_goals (refine aw_dtake 0 (h:=?_))
    all_goals (refine aw_dtake 1 (h:=?_))
    all_goals (refine aw_dtake 2 (hy:=by (apply y_quo (c:=((lo / 2305843009213693951 : Nat) : Int));rfl;rfl;decide;exact e1)) (h:=?_))
    all_goals (refine aw_dtake 3 (h:=?_))
    all_goals (refine aw_dtake 4 (h:=?_))
    all_goals (refine aw_dtake 5 (hy:=by (apply y_rem (c:=((lo % 2305843009213693951 : Nat) : Int));rfl;rfl;decide;exact e2)) (h:=?_))
    all_goals (refine aw_dtake 6 (h:=?_))
    all_goals (refine aw_dtake 7 (h:=?_))
    all_goals (refine aw_done (h:=?_))
    all_goals
      repeat' (first | apply cw_ret | fail)
      apply ends_ret;apply res_tmp2;rfl;rfl;rfl
      rw [Nat.zero_mul,Nat.zero_add]
  · have e3 : IntKind.u64.wrap 3 = 3 := by kernel_rfl
    have e61 : IntKind.u64.wrap (64 - 3) = 61 := by kernel_rfl
    have ey : shlV .u64 2305843009213693951 3 = 18446744073709551608 := by kernel_rfl
    have ey1 : shrV .u64 18446744073709551608 32 = 4294967295 := by kernel_rfl
    have ey0 : bitsV .and .u64 18446744073709551608 4294967295 = 4294967288 := by kernel_rfl
    have eh : shlV .u64 (hi : Int) 3 = ((hi * 8 : Nat) : Int) := by rw [shl3,Nat.mod_eq_of_lt (by omega)]
    have el : shrV .u64 (lo : Int) 61 = ((lo / 2305843009213693952 : Nat) : Int) := shr_n lo _ (by kernel_rfl)
    have eo : bitsV .or .u64 ((hi * 8 : Nat) : Int) ((lo / 2305843009213693952 : Nat) : Int) = ((hi * 8 + lo / 2305843009213693952 : Nat) : Int) := or3 hi _ (by omega) (by omega)
    have e10 : shlV .u64 (lo : Int) 3 = ((lo * 8 % 18446744073709551616 : Nat) : Int) := shl3 lo
    have hU : (hi * 18446744073709551616 + lo) * 8 = (hi * 8 + lo / 2305843009213693952) * 18446744073709551616 + lo * 8 % 18446744073709551616 := by omega
    have hu : hi * 8 + lo / 2305843009213693952 < 18446744073709551608 := by omega
    have hv : lo * 8 % 18446744073709551616 < 18446744073709551616 := Nat.mod_lt _ (by decide)
    simp only [e3,e61,ey,ey1,ey0,eh,el,eo,e10]
    clear e3 e61 ey ey1 ey0 eh el eo e10
    generalize hi * 8 + lo / 2305843009213693952 = u at *
    generalize lo * 8 % 18446744073709551616 = v at *
    have e1 : shrV .u64 (v : Int) 32 = ((v / 4294967296 : Nat) : Int) := shr_n v _ (by kernel_rfl)
    have e0 : bitsV .and .u64 (v : Int) 4294967295 = ((v % 4294967296 : Nat) : Int) := and32 v hv
    obtain ⟨v1,v0,hv1,hv0,hvv,hv1l,hv0l⟩ : ∃ v1 v0 : Nat,v / 4294967296 = v1 ∧ v % 4294967296 = v0 ∧ v = v1 * 4294967296 + v0 ∧ v1 < 4294967296 ∧ v0 < 4294967296 := ⟨_,_,rfl,rfl,by omega,by omega,by omega⟩
    simp only [e1,e0,hv1,hv0]
    clear e1 e0 hv1 hv0
    subst hvv
    obtain ⟨V,hV⟩ : ∃ V,hi * 18446744073709551616 + lo = V := ⟨_,rfl⟩
    rw [hV] at hU ⊢
    have hUh : Hid (V * 8 = u * 18446744073709551616 + (v1 * 4294967296 + v0)) := hU
    clear hU hV hv hhi hlo
    have hq1 : Eqq (IntKind.u64.wrap ((u : Int).tdiv 4294967295)) ((u / 4294967295 : Nat) : Int) := quo_n u 4294967295 (by omega) (by decide)
    repeat' (first | refine sy_quo (hb:=by decide) (hc:=hq1) (h:=?_) | refine sy_mul (hc:=u64_in _ (by omega)) (h:=?_) | refine sy_sub (hc:=u64_in _ (by omega)) (h:=?_) | apply sw_nil | apply cw_seq | apply cw_reg | refine sy_move (h:=?_) | refine sy_assign (h:=?_) | apply cw_block | fail)
    refine cw_meetG (ι:=DivEP u v1) (fun i => ⟨[(2,.int .u64 18446744073709551608),(8,.int .u64 3),(9,.int .u64 4294967295),(10,.int .u64 4294967288),(11,.int .u64 (u : Nat)),(13,.int .u64 (v1 : Int)),(14,.int .u64 (v0 : Int)),(15,.int .u64 (i.q : Nat))], [],fun _ => True⟩) ?_ fun i => ?_
    · refine cw_loop (ι:=DivIP u v1) (fun i => ⟨[(2,.int .u64 18446744073709551608),(8,.int .u64 3),(9,.int .u64 4294967295),(10,.int .u64 4294967288),(11,.int .u64 (u : Nat)),(13,.int .u64 (v1 : Int)),(14,.int .u64 (v0 : Int)),(15,.int .u64 (i.q : Nat)),(16,.int .u64 (i.r : Nat))], [],fun _ => True⟩) (fun i => 4294967296 - i.r) ⟨u / 4294967295,u % 4294967295,by omega,by omega,by omega,by omega⟩
        (ok_sub ⟨rfl,rfl,rfl,rfl,rfl,rfl,rfl,rfl,by show some (Value.int .u64 ((u : Int) - ((u / 4294967295 : Nat) : Int) * 4294967295)) = some (Value.int .u64 ((u % 4294967295 : Nat) : Int));congr 2;omega,trivial⟩ (List.nil_sublist _) fun _ h => h) fun i => ?_
      obtain ⟨q,r,isum,ibig,itop,ilim⟩ := i
      simp only
      repeat' (first | refine sy_mul (hc:=u64_in _ (by omega)) (h:=?_) | refine sy_sub (hc:=u64_in _ (by omega)) (h:=?_) | refine sy_add (hc:=u64_in _ (by omega)) (h:=?_) | apply sw_nil | apply cw_seq | apply cw_reg | refine sy_move (h:=?_) | refine sy_assign (h:=?_) | refine sy_pick_t (h:=?_) | refine sy_pick_f (h:=?_) | refine sy_gtr (h:=?_) | refine sy_geq (h:=?_) | refine sw_skipF (h:=?_) | refine cw_cond_t (ht:=?_) | apply cw_skip | apply cw_block | apply cw_exit | ((fail_if_success (refine sw_chk (h:=?_)));refine sw_guard (ht:=?_) (hf:=?_);all_goals (intro hx_;first | have := of_decide_eq_true hx_ | have := of_decide_eq_false hx_)) | (refine cw_cond (ht:=?_) (hf:=?_);all_goals (intro hx_;first | have := of_decide_eq_true hx_ | have := of_decide_eq_false hx_)))
      · cases q with
        | zero => exfalso;omega
        | succ p =>
          have f2 : u * 4294967296 + v1 < (p + 1) * 18446744073709551608 := div_bigP isum hu hv1l (Or.inl (by omega))
          have f3 : ((p + 1 : Nat) : Int) - 1 = (p : Int) := by omega
          have f1 : p * 18446744073709551608 ≤ u * 4294967296 + v1 := div_lowP isum (by omega) itop
          exact ⟨⟨p,f1,f2⟩,ok_sub ⟨rfl,rfl,rfl,rfl,rfl,rfl,rfl,by show some (Value.int .u64 (((p + 1 : Nat) : Int) - 1)) = some (Value.int .u64 (p : Int));rw [f3],trivial⟩ (List.nil_sublist _) fun _ h => h⟩
      · cases q with
        | zero => exfalso;omega
        | succ p =>
          have f2 : u * 4294967296 + v1 < (p + 1) * 18446744073709551608 := div_bigP isum hu hv1l (Or.inl (by omega))
          have f3 : ((p + 1 : Nat) : Int) - 1 = (p : Int) := by omega
          have g1 : p * 4294967295 + (r + 4294967295) = u := by rw [← isum,Nat.succ_mul,Nat.add_assoc,Nat.add_comm 4294967295 r]
          have g3 : p ≤ 4294967297 := by omega
          have g4 : r + 4294967295 < 4294967296 := by omega
          have g5 : 4294967296 - (r + 4294967295) < 4294967296 - r := by omega
          exact ⟨⟨p,r + 4294967295,g1,f2,g3,g4⟩,g5,ok_sub ⟨rfl,rfl,rfl,rfl,rfl,rfl,rfl,by show some (Value.int .u64 (((p + 1 : Nat) : Int) - 1)) = some (Value.int .u64 (p : Int));rw [f3],rfl,trivial⟩ (List.nil_sublist _) fun _ h => h⟩
      · cases q with
        | zero => exfalso;omega
        | succ p =>
          have f2 : u * 4294967296 + v1 < (p + 1) * 18446744073709551608 := div_bigP isum hu hv1l (Or.inr (by omega))
          have f3 : ((p + 1 : Nat) : Int) - 1 = (p : Int) := by omega
          have f1 : p * 18446744073709551608 ≤ u * 4294967296 + v1 := div_lowP isum (by omega) itop
          exact ⟨⟨p,f1,f2⟩,ok_sub ⟨rfl,rfl,rfl,rfl,rfl,rfl,rfl,by show some (Value.int .u64 (((p + 1 : Nat) : Int) - 1)) = some (Value.int .u64 (p : Int));rw [f3],trivial⟩ (List.nil_sublist _) fun _ h => h⟩
      · cases q with
        | zero => exfalso;omega
        | succ p =>
          have f2 : u * 4294967296 + v1 < (p + 1) * 18446744073709551608 := div_bigP isum hu hv1l (Or.inr (by omega))
          have f3 : ((p + 1 : Nat) : Int) - 1 = (p : Int) := by omega
          have g1 : p * 4294967295 + (r + 4294967295) = u := by rw [← isum,Nat.succ_mul,Nat.add_assoc,Nat.add_comm 4294967295 r]
          have g3 : p ≤ 4294967297 := by omega
          have g4 : r + 4294967295 < 4294967296 := by omega
          have g5 : 4294967296 - (r + 4294967295) < 4294967296 - r := by omega
          exact ⟨⟨p,r + 4294967295,g1,f2,g3,g4⟩,g5,ok_sub ⟨rfl,rfl,rfl,rfl,rfl,rfl,rfl,by show some (Value.int .u64 (((p + 1 : Nat) : Int) - 1)) = some (Value.int .u64 (p : Int));rw [f3],rfl,trivial⟩ (List.nil_sublist _) fun _ h => h⟩
      · exact ⟨⟨q,by omega,by omega⟩,ok_sub ⟨rfl,rfl,rfl,rfl,rfl,rfl,rfl,rfl,trivial⟩ (List.nil_sublist _) fun _ h => h⟩
    · obtain ⟨q1,q1lo,q1hi⟩ := i
      simp only
      obtain ⟨x,hx,hxY⟩ : ∃ x : Nat,u * 4294967296 + v1 = q1 * 18446744073709551608 + x ∧ x < 18446744073709551608 := ⟨u * 4294967296 + v1 - q1 * 18446744073709551608,by omega,by omega⟩
      have h17 : Eqq (IntKind.u64.wrap (IntKind.u64.wrap (IntKind.u64.wrap ((u : Int) * 4294967296) + (v1 : Int)) - IntKind.u64.wrap ((q1 : Int) * 18446744073709551608))) (x : Int) := by
        unfold Eqq
        rw [u64_wr3,show (u : Int) * 4294967296 + (v1 : Int) - (q1 : Int) * 18446744073709551608 = (x : Int) by omega]
        omega
      have hq0 : Eqq (IntKind.u64.wrap ((x : Int).tdiv 4294967295)) ((x / 4294967295 : Nat) : Int) := quo_n x 4294967295 (by omega) (by decide)
      have hq1l : q1 < 4294967296 := by omega
      repeat' (first | refine sy_sub (hc:=h17) (h:=?_) | refine sy_mul (hc:=rfl) (h:=?_) | refine sy_add (hc:=rfl) (h:=?_) | apply sw_nil | apply cw_seq | apply cw_reg | refine sy_move (h:=?_) | refine sy_assign (h:=?_) | fail)
      clear h17
      repeat' (first | refine sy_quo (hb:=by decide) (hc:=hq0) (h:=?_) | refine sy_mul (hc:=u64_in _ (by omega)) (h:=?_) | refine sy_sub (hc:=u64_in _ (by omega)) (h:=?_) | apply sw_nil | apply cw_seq | apply cw_reg | refine sy_move (h:=?_) | refine sy_assign (h:=?_) | apply cw_block | fail)
      have hxh : Hid (u * 4294967296 + v1 = q1 * 18446744073709551608 + x) := hx
      clear hx q1lo q1hi hu
      refine cw_meetG (ι:=DivEP x v0) (fun i => ⟨[(2,.int .u64 18446744073709551608),(8,.int .u64 3),(14,.int .u64 (v0 : Int)),(15,.int .u64 (q1 : Nat)),(17,.int .u64 (x : Nat)),(18,.int .u64 (i.q : Nat))], [],fun _ => True⟩) ?_ fun i => ?_
      · refine cw_loop (ι:=DivIP x v0) (fun i => ⟨[(2,.int .u64 18446744073709551608),(8,.int .u64 3),(9,.int .u64 4294967295),(10,.int .u64 4294967288),(14,.int .u64 (v0 : Int)),(15,.int .u64 (q1 : Nat)),(17,.int .u64 (x : Nat)),(18,.int .u64 (i.q : Nat)),(16,.int .u64 (i.r : Nat))], [],fun _ => True⟩) (fun i => 4294967296 - i.r) ⟨x / 4294967295,x % 4294967295,by omega,by omega,by omega,by omega⟩
          (ok_sub ⟨rfl,rfl,rfl,rfl,rfl,rfl,rfl,rfl,by show some (Value.int .u64 ((x : Int) - ((x / 4294967295 : Nat) : Int) * 4294967295)) = some (Value.int .u64 ((x % 4294967295 : Nat) : Int));congr 2;omega,trivial⟩ (List.nil_sublist _) fun _ h => h) fun i => ?_
        obtain ⟨q,r,isum,ibig,itop,ilim⟩ := i
        simp only
        repeat' (first | refine sy_mul (hc:=u64_in _ (by omega)) (h:=?_) | refine sy_sub (hc:=u64_in _ (by omega)) (h:=?_) | refine sy_add (hc:=u64_in _ (by omega)) (h:=?_) | apply sw_nil | apply cw_seq | apply cw_reg | refine sy_move (h:=?_) | refine sy_assign (h:=?_) | refine sy_pick_t (h:=?_) | refine sy_pick_f (h:=?_) | refine sy_gtr (h:=?_) | refine sy_geq (h:=?_) | refine sw_skipF (h:=?_) | refine cw_cond_t (ht:=?_) | apply cw_skip | apply cw_block | apply cw_exit | ((fail_if_success (refine sw_chk (h:=?_)));refine sw_guard (ht:=?_) (hf:=?_);all_goals (intro hx_;first | have := of_decide_eq_true hx_ | have := of_decide_eq_false hx_)) | (refine cw_cond (ht:=?_) (hf:=?_);all_goals (intro hx_;first | have := of_decide_eq_true hx_ | have := of_decide_eq_false hx_)))
        · cases q with
          | zero => exfalso;omega
          | succ p =>
            have f2 : x * 4294967296 + v0 < (p + 1) * 18446744073709551608 := div_bigP isum hxY hv0l (Or.inl (by omega))
            have f3 : ((p + 1 : Nat) : Int) - 1 = (p : Int) := by omega
            have f1 : p * 18446744073709551608 ≤ x * 4294967296 + v0 := div_lowP isum (by omega) itop
            exact ⟨⟨p,f1,f2⟩,ok_sub ⟨rfl,rfl,rfl,rfl,rfl,by show some (Value.int .u64 (((p + 1 : Nat) : Int) - 1)) = some (Value.int .u64 (p : Int));rw [f3],trivial⟩ (List.nil_sublist _) fun _ h => h⟩
        · cases q with
          | zero => exfalso;omega
          | succ p =>
            have f2 : x * 4294967296 + v0 < (p + 1) * 18446744073709551608 := div_bigP isum hxY hv0l (Or.inl (by omega))
            have f3 : ((p + 1 : Nat) : Int) - 1 = (p : Int) := by omega
            have g1 : p * 4294967295 + (r + 4294967295) = x := by rw [← isum,Nat.succ_mul,Nat.add_assoc,Nat.add_comm 4294967295 r]
            have g3 : p ≤ 4294967297 := by omega
            have g4 : r + 4294967295 < 4294967296 := by omega
            have g5 : 4294967296 - (r + 4294967295) < 4294967296 - r := by omega
            exact ⟨⟨p,r + 4294967295,g1,f2,g3,g4⟩,g5,ok_sub ⟨rfl,rfl,rfl,rfl,rfl,rfl,rfl,by show some (Value.int .u64 (((p + 1 : Nat) : Int) - 1)) = some (Value.int .u64 (p : Int));rw [f3],rfl,trivial⟩ (List.nil_sublist _) fun _ h => h⟩
        · cases q with
          | zero => exfalso;omega
          | succ p =>
            have f2 : x * 4294967296 + v0 < (p + 1) * 18446744073709551608 := div_bigP isum hxY hv0l (Or.inr (by omega))
            have f3 : ((p + 1 : Nat) : Int) - 1 = (p : Int) := by omega
            have f1 : p * 18446744073709551608 ≤ x * 4294967296 + v0 := div_lowP isum (by omega) itop
            exact ⟨⟨p,f1,f2⟩,ok_sub ⟨rfl,rfl,rfl,rfl,rfl,by show some (Value.int .u64 (((p + 1 : Nat) : Int) - 1)) = some (Value.int .u64 (p : Int));rw [f3],trivial⟩ (List.nil_sublist _) fun _ h => h⟩
        · cases q with
          | zero => exfalso;omega
          | succ p =>
            have f2 : x * 4294967296 + v0 < (p + 1) * 18446744073709551608 := div_bigP isum hxY hv0l (Or.inr (by omega))
            have f3 : ((p + 1 : Nat) : Int) - 1 = (p : Int) := by omega
            have g1 : p * 4294967295 + (r + 4294967295) = x := by rw [← isum,Nat.succ_mul,Nat.add_assoc,Nat.add_comm 4294967295 r]
            have g3 : p ≤ 4294967297 := by omega
            have g4 : r + 4294967295 < 4294967296 := by omega
            have g5 : 4294967296 - (r + 4294967295) < 4294967296 - r := by omega
            exact ⟨⟨p,r + 4294967295,g1,f2,g3,g4⟩,g5,ok_sub ⟨rfl,rfl,rfl,rfl,rfl,rfl,rfl,by show some (Value.int .u64 (((p + 1 : Nat) : Int) - 1)) = some (Value.int .u64 (p : Int));rw [f3],rfl,trivial⟩ (List.nil_sublist _) fun _ h => h⟩
        · exact ⟨⟨q,by omega,by omega⟩,ok_sub ⟨rfl,rfl,rfl,rfl,rfl,rfl,trivial⟩ (List.nil_sublist _) fun _ h => h⟩
      · obtain ⟨q0,q0lo,q0hi⟩ := i
        simp only
        obtain ⟨y,hy,hyY⟩ : ∃ y : Nat,x * 4294967296 + v0 = q0 * 18446744073709551608 + y ∧ y < 18446744073709551608 := ⟨x * 4294967296 + v0 - q0 * 18446744073709551608,by omega,by omega⟩
        have h132 : Eqq (IntKind.u64.wrap (IntKind.u64.wrap (IntKind.u64.wrap ((x : Int) * 4294967296) + (v0 : Int)) - IntKind.u64.wrap ((q0 : Int) * 18446744073709551608))) (y : Int) := by
          unfold Eqq
          rw [u64_wr3,show (x : Int) * 4294967296 + (v0 : Int) - (q0 : Int) * 18446744073709551608 = (y : Int) by omega]
          omega
        have hq1 : Eqq (IntKind.u64.wrap (IntKind.u64.wrap ((q1 : Int) * 4294967296) + (q0 : Int))) ((q1 : Int) * 4294967296 + (q0 : Int)) := by unfold Eqq;rw [u64_in ((q1 : Int) * 4294967296) (by omega),u64_in _ (by omega)]
        repeat' (first | refine sy_sub (hc:=h132) (h:=?_) | apply sw_nil | apply cw_seq | apply cw_reg | refine sy_move (h:=?_) | refine sy_assign (h:=?_) | refine sy_add (h:=?_) | apply cw_ret | refine sy_shr (h:=?_) | refine sy_mul (h:=?_) | fail)
        have h3 : Eqq (shrV .u64 (y : Int) 3) ((y / 8 : Nat) : Int) := shr_n y 8 (by kernel_rfl)
        have hx : u * 4294967296 + v1 = q1 * 18446744073709551608 + x := hxh
        have hU : V * 8 = u * 18446744073709551616 + (v1 * 4294967296 + v0) := hUh
        obtain ⟨hA,hB⟩ := div_mod_of (V:=V) (M:=2305843009213693951) (Q:=q1 * 4294967296 + q0) (z:=y / 8) (by omega) (by omega)
        apply ends_ret;apply res_tmp2;rfl;rfl;rfl
        unfold Eqq at h3 hq1
        rw [hA,hB,h3,hq1,Int.natCast_add,Int.natCast_mul]
        rfl
theorem div_bigN {u v p r : Nat} (isum : (p + 1) * 4294967295 + r = u) (hu : u < 18446744073709551600) (hv : v < 4294967296) (h : 4294967296 ≤ p + 1 ∨ 4294967296 * r + v < (p + 1) * 4294967280) : u * 4294967296 + v < (p + 1) * 18446744073709551600 := by
  rcases h with h | h
  · exact Nat.lt_of_lt_of_le (show u * 4294967296 + v < 4294967296 * 18446744073709551600 by omega) (Nat.mul_le_mul_right 18446744073709551600 h)
  · have e : (p + 1) * 18446744073709551600 = (p + 1) * 4294967295 * 4294967296 + (p + 1) * 4294967280 := by rw [Nat.mul_assoc, ← Nat.mul_add]
    rw [e, ← isum,Nat.add_mul,Nat.add_assoc]
    exact Nat.add_lt_add_left (by rw [Nat.mul_comm r];exact h) _
theorem div_lowN {u v p r : Nat} (isum : (p + 1) * 4294967295 + r = u) (hr : 4294967296 ≤ r + 4294967295) (itop : p + 1 ≤ 4294967297) : p * 18446744073709551600 ≤ u * 4294967296 + v := by
  have e : p * 18446744073709551600 = p * 4294967295 * 4294967296 + p * 4294967280 := by rw [Nat.mul_assoc, ← Nat.mul_add]
  have h1 : p * 4294967280 ≤ 4294967296 * 4294967296 := Nat.mul_le_mul (by omega) (by decide)
  have hu' : u = p * 4294967295 + (r + 4294967295) := by
    rw [← isum,Nat.succ_mul,Nat.add_assoc,Nat.add_comm 4294967295 r]
  rw [hu',Nat.add_mul,e,Nat.add_assoc]
  exact Nat.add_le_add_left (Nat.le_trans h1 (Nat.le_trans (Nat.mul_le_mul_right 4294967296 hr) (Nat.le_add_right _ _))) _
structure DivIN (u v : Nat) where
  q : Nat
  r : Nat
  sum : q * 4294967295 + r = u
  big : u * 4294967296 + v < (q + 1) * 18446744073709551600
  top : q ≤ 4294967297
  lim : r < 4294967296
structure DivEN (u v : Nat) where
  q : Nat
  lo : q * 18446744073709551600 ≤ u * 4294967296 + v
  hi : u * 4294967296 + v < (q + 1) * 18446744073709551600
set_option maxHeartbeats 4000000 in
set_option maxRecDepth 20000 in
theorem div64N (hi lo : Nat) (hhi : hi < 2305843009213693950) (hlo : lo < 18446744073709551616) :
    Pu Tryz.prog 265 #[.int .u64 (hi : Int),.int .u64 (lo : Int),.int .u64 2305843009213693950] (fun _ => True)
      (.tuple #[.int .u64 (((hi * 18446744073709551616 + lo) / 2305843009213693950 : Nat) : Int),.int .u64 (((hi * 18446744073709551616 + lo) % 2305843009213693950 : Nat) : Int)]) := by
  refine pu_of_cw (args:=[_,_,_]) _ Tryz.func265 rfl Tryz.ntmps265 rfl fun av bor w0 => ?_
  have hz := lead_pu 16 (by decide)
  repeat' (first | apply sw_nil | apply cw_seq | apply cw_reg | refine sy_move (h:=?_) | refine sy_assign (h:=?_) | refine sy_eql (h:=?_) | refine sy_leq (h:=?_) | refine sy_sub (h:=?_) | apply cw_skip | refine sy_and (h:=?_) | refine sy_or (h:=?_) | refine sy_shl (h:=?_) | refine sy_shr (h:=?_) | refine sy_int (h:=?_) | (refine sw_pu (hc:=hz) (hX:=fun w h => h) (h:=?_)) | (refine cw_cond (ht:=?_) (hf:=?_);all_goals (intro hx_;first | have := of_decide_eq_true hx_ | have := of_decide_eq_false hx_)))
  · exfalso;omega
  · exfalso;omega
  · have h0 : hi = 0 := by omega
    subst h0
    have e1 : IntKind.u64.wrap ((lo : Int).tdiv 2305843009213693950) = ((lo / 2305843009213693950 : Nat) : Int) := quo_n lo 2305843009213693950 hlo (by decide)
    have e2 : (lo : Int).tmod 2305843009213693950 = ((lo % 2305843009213693950 : Nat) : Int) := rem_n lo 2305843009213693950
    (refine cw_draw [] (fun _ => True) (by kernel_rfl) ?_)
    all_goals (refine aw_dtake 0 (h:=?_))
    all_goals (refine aw_dtake 1 (h:=?_))
    all_goals (refine aw_dtake 2 (hy:=by (apply y_quo (c:=((lo / 2305843009213693950 : Nat) : Int));rfl;rfl;decide;exact e1)) (h:=?_))
    all_goals (refine aw_dtake 3 (h:=?_))
    all_goals (refine aw_dtake 4 (h:=?_))
    all_goals (refine aw_dtake 5 (hy:=by (apply y_rem (c:=((lo % 2305843009213693950 : Nat) : Int));rfl;rfl;decide;exact e2)) (h:=?_))
    all_goals (refine aw_dtake 6 (h:=?_))
    all_goals (refine aw_dtake 7 (h:=?_))
    all_goals (refine aw_done (h:=?_))
    all_goals
      repeat' (first | apply cw_ret | fail)
      apply ends_ret;apply res_tmp2;rfl;rfl;rfl
      rw [Nat.zero_mul,Nat.zero_add]
  · have e3 : IntKind.u64.wrap 3 = 3 := by kernel_rfl
    have e61 : IntKind.u64.wrap (64 - 3) = 61 := by kernel_rfl
    have ey : shlV .u64 2305843009213693950 3 = 18446744073709551600 := by kernel_rfl
    have ey1 : shrV .u64 18446744073709551600 32 = 4294967295 := by kernel_rfl
    have ey0 : bitsV .and .u64 18446744073709551600 4294967295 = 4294967280 := by kernel_rfl
    have eh : shlV .u64 (hi : Int) 3 = ((hi * 8 : Nat) : Int) := by rw [shl3,Nat.mod_eq_of_lt (by omega)]
    have el : shrV .u64 (lo : Int) 61 = ((lo / 2305843009213693952 : Nat) : Int) := shr_n lo _ (by kernel_rfl)
    have eo : bitsV .or .u64 ((hi * 8 : Nat) : Int) ((lo / 2305843009213693952 : Nat) : Int) = ((hi * 8 + lo / 2305843009213693952 : Nat) : Int) := or3 hi _ (by omega) (by omega)
    have e10 : shlV .u64 (lo : Int) 3 = ((lo * 8 % 18446744073709551616 : Nat) : Int) := shl3 lo
    have hU : (hi * 18446744073709551616 + lo) * 8 = (hi * 8 + lo / 2305843009213693952) * 18446744073709551616 + lo * 8 % 18446744073709551616 := by omega
    have hu : hi * 8 + lo / 2305843009213693952 < 18446744073709551600 := by omega
    have hv : lo * 8 % 18446744073709551616 < 18446744073709551616 := Nat.mod_lt _ (by decide)
    simp only [e3,e61,ey,ey1,ey0,eh,el,eo,e10]
    clear e3 e61 ey ey1 ey0 eh el eo e10
    generalize hi * 8 + lo / 2305843009213693952 = u at *
    generalize lo * 8 % 18446744073709551616 = v at *
    have e1 : shrV .u64 (v : Int) 32 = ((v / 4294967296 : Nat) : Int) := shr_n v _ (by kernel_rfl)
    have e0 : bitsV .and .u64 (v : Int) 4294967295 = ((v % 4294967296 : Nat) : Int) := and32 v hv
    obtain ⟨v1,v0,hv1,hv0,hvv,hv1l,hv0l⟩ : ∃ v1 v0 : Nat,v / 4294967296 = v1 ∧ v % 4294967296 = v0 ∧ v = v1 * 4294967296 + v0 ∧ v1 < 4294967296 ∧ v0 < 4294967296 := ⟨_,_,rfl,rfl,by omega,by omega,by omega⟩
    simp only [e1,e0,hv1,hv0]
    clear e1 e0 hv1 hv0
    subst hvv
    obtain ⟨V,hV⟩ : ∃ V,hi * 18446744073709551616 + lo = V := ⟨_,rfl⟩
    rw [hV] at hU ⊢
    have hUh : Hid (V * 8 = u * 18446744073709551616 + (v1 * 4294967296 + v0)) := hU
    clear hU hV hv hhi hlo
    have hq1 : Eqq (IntKind.u64.wrap ((u : Int).tdiv 4294967295)) ((u / 4294967295 : Nat) : Int) := quo_n u 4294967295 (by omega) (by decide)
    repeat' (first | refine sy_quo (hb:=by decide) (hc:=hq1) (h:=?_) | refine sy_mul (hc:=u64_in _ (by omega)) (h:=?_) | refine sy_sub (hc:=u64_in _ (by omega)) (h:=?_) | apply sw_nil | apply cw_seq | apply cw_reg | refine sy_move (h:=?_) | refine sy_assign (h:=?_) | apply cw_block | fail)
    refine cw_meetG (ι:=DivEN u v1) (fun i => ⟨[(2,.int .u64 18446744073709551600),(8,.int .u64 3),(9,.int .u64 4294967295),(10,.int .u64 4294967280),(11,.int .u64 (u : Nat)),(13,.int .u64 (v1 : Int)),(14,.int .u64 (v0 : Int)),(15,.int .u64 (i.q : Nat))], [],fun _ => True⟩) ?_ fun i => ?_
    · refine cw_loop (ι:=DivIN u v1) (fun i => ⟨[(2,.int .u64 18446744073709551600),(8,.int .u64 3),(9,.int .u64 4294967295),(10,.int .u64 4294967280),(11,.int .u64 (u : Nat)),(13,.int .u64 (v1 : Int)),(14,.int .u64 (v0 : Int)),(15,.int .u64 (i.q : Nat)),(16,.int .u64 (i.r : Nat))], [],fun _ => True⟩) (fun i => 4294967296 - i.r) ⟨u / 4294967295,u % 4294967295,by omega,by omega,by omega,by omega⟩
        (ok_sub ⟨rfl,rfl,rfl,rfl,rfl,rfl,rfl,rfl,by show some (Value.int .u64 ((u : Int) - ((u / 4294967295 : Nat) : Int) * 4294967295)) = some (Value.int .u64 ((u % 4294967295 : Nat) : Int));congr 2;omega,trivial⟩ (List.nil_sublist _) fun _ h => h) fun i => ?_
      obtain ⟨q,r,isum,ibig,itop,ilim⟩ := i
      simp only
      repeat' (first | refine sy_mul (hc:=u64_in _ (by omega)) (h:=?_) | refine sy_sub (hc:=u64_in _ (by omega)) (h:=?_) | refine sy_add (hc:=u64_in _ (by omega)) (h:=?_) | apply sw_nil | apply cw_seq | apply cw_reg | refine sy_move (h:=?_) | refine sy_assign (h:=?_) | refine sy_pick_t (h:=?_) | refine sy_pick_f (h:=?_) | refine sy_gtr (h:=?_) | refine sy_geq (h:=?_) | refine sw_skipF (h:=?_) | refine cw_cond_t (ht:=?_) | apply cw_skip | apply cw_block | apply cw_exit | ((fail_if_success (refine sw_chk (h:=?_)));refine sw_guard (ht:=?_) (hf:=?_);all_goals (intro hx_;first | have := of_decide_eq_true hx_ | have := of_decide_eq_false hx_)) | (refine cw_cond (ht:=?_) (hf:=?_);all_goals (intro hx_;first | have := of_decide_eq_true hx_ | have := of_decide_eq_false hx_)))
      · cases q with
        | zero => exfalso;omega
        | succ p =>
          have f2 : u * 4294967296 + v1 < (p + 1) * 18446744073709551600 := div_bigN isum hu hv1l (Or.inl (by omega))
          have f3 : ((p + 1 : Nat) : Int) - 1 = (p : Int) := by omega
          have f1 : p * 18446744073709551600 ≤ u * 4294967296 + v1 := div_lowN isum (by omega) itop
          exact ⟨⟨p,f1,f2⟩,ok_sub ⟨rfl,rfl,rfl,rfl,rfl,rfl,rfl,by show some (Value.int .u64 (((p + 1 : Nat) : Int) - 1)) = some (Value.int .u64 (p : Int));rw [f3],trivial⟩ (List.nil_sublist _) fun _ h => h⟩
      · cases q with
        | zero => exfalso;omega
        | succ p =>
          have f2 : u * 4294967296 + v1 < (p + 1) * 18446744073709551600 := div_bigN isum hu hv1l (Or.inl (by omega))
          have f3 : ((p + 1 : Nat) : Int) - 1 = (p : Int) := by omega
          have g1 : p * 4294967295 + (r + 4294967295) = u := by rw [← isum,Nat.succ_mul,Nat.add_assoc,Nat.add_comm 4294967295 r]
          have g3 : p ≤ 4294967297 := by omega
          have g4 : r + 4294967295 < 4294967296 := by omega
          have g5 : 4294967296 - (r + 4294967295) < 4294967296 - r := by omega
          exact ⟨⟨p,r + 4294967295,g1,f2,g3,g4⟩,g5,ok_sub ⟨rfl,rfl,rfl,rfl,rfl,rfl,rfl,by show some (Value.int .u64 (((p + 1 : Nat) : Int) - 1)) = some (Value.int .u64 (p : Int));rw [f3],rfl,trivial⟩ (List.nil_sublist _) fun _ h => h⟩
      · cases q with
        | zero => exfalso;omega
        | succ p =>
          have f2 : u * 4294967296 + v1 < (p + 1) * 18446744073709551600 := div_bigN isum hu hv1l (Or.inr (by omega))
          have f3 : ((p + 1 : Nat) : Int) - 1 = (p : Int) := by omega
          have f1 : p * 18446744073709551600 ≤ u * 4294967296 + v1 := div_lowN isum (by omega) itop
          exact ⟨⟨p,f1,f2⟩,ok_sub ⟨rfl,rfl,rfl,rfl,rfl,rfl,rfl,by show some (Value.int .u64 (((p + 1 : Nat) : Int) - 1)) = some (Value.int .u64 (p : Int));rw [f3],trivial⟩ (List.nil_sublist _) fun _ h => h⟩
      · cases q with
        | zero => exfalso;omega
        | succ p =>
          have f2 : u * 4294967296 + v1 < (p + 1) * 18446744073709551600 := div_bigN isum hu hv1l (Or.inr (by omega))
          have f3 : ((p + 1 : Nat) : Int) - 1 = (p : Int) := by omega
          have g1 : p * 4294967295 + (r + 4294967295) = u := by rw [← isum,Nat.succ_mul,Nat.add_assoc,Nat.add_comm 4294967295 r]
          have g3 : p ≤ 4294967297 := by omega
          have g4 : r + 4294967295 < 4294967296 := by omega
          have g5 : 4294967296 - (r + 4294967295) < 4294967296 - r := by omega
          exact ⟨⟨p,r + 4294967295,g1,f2,g3,g4⟩,g5,ok_sub ⟨rfl,rfl,rfl,rfl,rfl,rfl,rfl,by show some (Value.int .u64 (((p + 1 : Nat) : Int) - 1)) = some (Value.int .u64 (p : Int));rw [f3],rfl,trivial⟩ (List.nil_sublist _) fun _ h => h⟩
      · exact ⟨⟨q,by omega,by omega⟩,ok_sub ⟨rfl,rfl,rfl,rfl,rfl,rfl,rfl,rfl,trivial⟩ (List.nil_sublist _) fun _ h => h⟩
    · obtain ⟨q1,q1lo,q1hi⟩ := i
      simp only
      obtain ⟨x,hx,hxY⟩ : ∃ x : Nat,u * 4294967296 + v1 = q1 * 18446744073709551600 + x ∧ x < 18446744073709551600 := ⟨u * 4294967296 + v1 - q1 * 18446744073709551600,by omega,by omega⟩
      have h17 : Eqq (IntKind.u64.wrap (IntKind.u64.wrap (IntKind.u64.wrap ((u : Int) * 4294967296) + (v1 : Int)) - IntKind.u64.wrap ((q1 : Int) * 18446744073709551600))) (x : Int) := by
        unfold Eqq
        rw [u64_wr3,show (u : Int) * 4294967296 + (v1 : Int) - (q1 : Int) * 18446744073709551600 = (x : Int) by omega]
        omega
      have hq0 : Eqq (IntKind.u64.wrap ((x : Int).tdiv 4294967295)) ((x / 4294967295 : Nat) : Int) := quo_n x 4294967295 (by omega) (by decide)
      have hq1l : q1 < 4294967296 := by omega
      repeat' (first | refine sy_sub (hc:=h17) (h:=?_) | refine sy_mul (hc:=rfl) (h:=?_) | refine sy_add (hc:=rfl) (h:=?_) | apply sw_nil | apply cw_seq | apply cw_reg | refine sy_move (h:=?_) | refine sy_assign (h:=?_) | fail)
      clear h17
      repeat' (first | refine sy_quo (hb:=by decide) (hc:=hq0) (h:=?_) | refine sy_mul (hc:=u64_in _ (by omega)) (h:=?_) | refine sy_sub (hc:=u64_in _ (by omega)) (h:=?_) | apply sw_nil | apply cw_seq | apply cw_reg | refine sy_move (h:=?_) | refine sy_assign (h:=?_) | apply cw_block | fail)
      have hxh : Hid (u * 4294967296 + v1 = q1 * 18446744073709551600 + x) := hx
      clear hx q1lo q1hi hu
      refine cw_meetG (ι:=DivEN x v0) (fun i => ⟨[(2,.int .u64 18446744073709551600),(8,.int .u64 3),(14,.int .u64 (v0 : Int)),(15,.int .u64 (q1 : Nat)),(17,.int .u64 (x : Nat)),(18,.int .u64 (i.q : Nat))], [],fun _ => True⟩) ?_ fun i => ?_
      · refine cw_loop (ι:=DivIN x v0) (fun i => ⟨[(2,.int .u64 18446744073709551600),(8,.int .u64 3),(9,.int .u64 4294967295),(10,.int .u64 4294967280),(14,.int .u64 (v0 : Int)),(15,.int .u64 (q1 : Nat)),(17,.int .u64 (x : Nat)),(18,.int .u64 (i.q : Nat)),(16,.int .u64 (i.r : Nat))], [],fun _ => True⟩) (fun i => 4294967296 - i.r) ⟨x / 4294967295,x % 4294967295,by omega,by omega,by omega,by omega⟩
          (ok_sub ⟨rfl,rfl,rfl,rfl,rfl,rfl,rfl,rfl,by show some (Value.int .u64 ((x : Int) - ((x / 4294967295 : Nat) : Int) * 4294967295)) = some (Value.int .u64 ((x % 4294967295 : Nat) : Int));congr 2;omega,trivial⟩ (List.nil_sublist _) fun _ h => h) fun i => ?_
        obtain ⟨q,r,isum,ibig,itop,ilim⟩ := i
        simp only
        repeat' (first | refine sy_mul (hc:=u64_in _ (by omega)) (h:=?_) | refine sy_sub (hc:=u64_in _ (by omega)) (h:=?_) | refine sy_add (hc:=u64_in _ (by omega)) (h:=?_) | apply sw_nil | apply cw_seq | apply cw_reg | refine sy_move (h:=?_) | refine sy_assign (h:=?_) | refine sy_pick_t (h:=?_) | refine sy_pick_f (h:=?_) | refine sy_gtr (h:=?_) | refine sy_geq (h:=?_) | refine sw_skipF (h:=?_) | refine cw_cond_t (ht:=?_) | apply cw_skip | apply cw_block | apply cw_exit | ((fail_if_success (refine sw_chk (h:=?_)));refine sw_guard (ht:=?_) (hf:=?_);all_goals (intro hx_;first | have := of_decide_eq_true hx_ | have := of_decide_eq_false hx_)) | (refine cw_cond (ht:=?_) (hf:=?_);all_goals (intro hx_;first | have := of_decide_eq_true hx_ | have := of_decide_eq_false hx_)))
        · cases q with
          | zero => exfalso;omega
          | succ p =>
            have f2 : x * 4294967296 + v0 < (p + 1) * 18446744073709551600 := div_bigN isum hxY hv0l (Or.inl (by omega))
            have f3 : ((p + 1 : Nat) : Int) - 1 = (p : Int) := by omega
            have f1 : p * 18446744073709551600 ≤ x * 4294967296 + v0 := div_lowN isum (by omega) itop
            exact ⟨⟨p,f1,f2⟩,ok_sub ⟨rfl,rfl,rfl,rfl,rfl,by show some (Value.int .u64 (((p + 1 : Nat) : Int) - 1)) = some (Value.int .u64 (p : Int));rw [f3],trivial⟩ (List.nil_sublist _) fun _ h => h⟩
        · cases q with
          | zero => exfalso;omega
          | succ p =>
            have f2 : x * 4294967296 + v0 < (p + 1) * 18446744073709551600 := div_bigN isum hxY hv0l (Or.inl (by omega))
            have f3 : ((p + 1 : Nat) : Int) - 1 = (p : Int) := by omega
            have g1 : p * 4294967295 + (r + 4294967295) = x := by rw [← isum,Nat.succ_mul,Nat.add_assoc,Nat.add_comm 4294967295 r]
            have g3 : p ≤ 4294967297 := by omega
            have g4 : r + 4294967295 < 4294967296 := by omega
            have g5 : 4294967296 - (r + 4294967295) < 4294967296 - r := by omega
            exact ⟨⟨p,r + 4294967295,g1,f2,g3,g4⟩,g5,ok_sub ⟨rfl,rfl,rfl,rfl,rfl,rfl,rfl,by show some (Value.int .u64 (((p + 1 : Nat) : Int) - 1)) = some (Value.int .u64 (p : Int));rw [f3],rfl,trivial⟩ (List.nil_sublist _) fun _ h => h⟩
        · cases q with
          | zero => exfalso;omega
          | succ p =>
            have f2 : x * 4294967296 + v0 < (p + 1) * 18446744073709551600 := div_bigN isum hxY hv0l (Or.inr (by omega))
            have f3 : ((p + 1 : Nat) : Int) - 1 = (p : Int) := by omega
            have f1 : p * 18446744073709551600 ≤ x * 4294967296 + v0 := div_lowN isum (by omega) itop
            exact ⟨⟨p,f1,f2⟩,ok_sub ⟨rfl,rfl,rfl,rfl,rfl,by show some (Value.int .u64 (((p + 1 : Nat) : Int) - 1)) = some (Value.int .u64 (p : Int));rw [f3],trivial⟩ (List.nil_sublist _) fun _ h => h⟩
        · cases q with
          | zero => exfalso;omega
          | succ p =>
            have f2 : x * 4294967296 + v0 < (p + 1) * 18446744073709551600 := div_bigN isum hxY hv0l (Or.inr (by omega))
            have f3 : ((p + 1 : Nat) : Int) - 1 = (p : Int) := by omega
            have g1 : p * 4294967295 + (r + 4294967295) = x := by rw [← isum,Nat.succ_mul,Nat.add_assoc,Nat.add_comm 4294967295 r]
            have g3 : p ≤ 4294967297 := by omega
            have g4 : r + 4294967295 < 4294967296 := by omega
            have g5 : 4294967296 - (r + 4294967295) < 4294967296 - r := by omega
            exact ⟨⟨p,r + 4294967295,g1,f2,g3,g4⟩,g5,ok_sub ⟨rfl,rfl,rfl,rfl,rfl,rfl,rfl,by show some (Value.int .u64 (((p + 1 : Nat) : Int) - 1)) = some (Value.int .u64 (p : Int));rw [f3],rfl,trivial⟩ (List.nil_sublist _) fun _ h => h⟩
        · exact ⟨⟨q,by omega,by omega⟩,ok_sub ⟨rfl,rfl,rfl,rfl,rfl,rfl,trivial⟩ (List.nil_sublist _) fun _ h => h⟩
      · obtain ⟨q0,q0lo,q0hi⟩ := i
        simp only
        obtain ⟨y,hy,hyY⟩ : ∃ y : Nat,x * 4294967296 + v0 = q0 * 18446744073709551600 + y ∧ y < 18446744073709551600 := ⟨x * 4294967296 + v0 - q0 * 18446744073709551600,by omega,by omega⟩
        have h132 : Eqq (IntKind.u64.wrap (IntKind.u64.wrap (IntKind.u64.wrap ((x : Int) * 4294967296) + (v0 : Int)) - IntKind.u64.wrap ((q0 : Int) * 18446744073709551600))) (y : Int) := by
          unfold Eqq
          rw [u64_wr3,show (x : Int) * 4294967296 + (v0 : Int) - (q0 : Int) * 18446744073709551600 = (y : Int) by omega]
          omega
        have hq1 : Eqq (IntKind.u64.wrap (IntKind.u64.wrap ((q1 : Int) * 4294967296) + (q0 : Int))) ((q1 : Int) * 4294967296 + (q0 : Int)) := by unfold Eqq;rw [u64_in ((q1 : Int) * 4294967296) (by omega),u64_in _ (by omega)]
        repeat' (first | refine sy_sub (hc:=h132) (h:=?_) | apply sw_nil | apply cw_seq | apply cw_reg | refine sy_move (h:=?_) | refine sy_assign (h:=?_) | refine sy_add (h:=?_) | apply cw_ret | refine sy_shr (h:=?_) | refine sy_mul (h:=?_) | fail)
        have h3 : Eqq (shrV .u64 (y : Int) 3) ((y / 8 : Nat) : Int) := shr_n y 8 (by kernel_rfl)
        have hx : u * 4294967296 + v1 = q1 * 18446744073709551600 + x := hxh
        have hU : V * 8 = u * 18446744073709551616 + (v1 * 4294967296 + v0) := hUh
        obtain ⟨hA,hB⟩ := div_mod_of (V:=V) (M:=2305843009213693950) (Q:=q1 * 4294967296 + q0) (z:=y / 8) (by omega) (by omega)
        apply ends_ret;apply res_tmp2;rfl;rfl;rfl
        unfold Eqq at h3 hq1
        rw [hA,hB,h3,hq1,Int.natCast_add,Int.natCast_mul]
        rfl
end Go.Proofs.YtjmpdkmboheknaaGreatDoor

namespace Go.Proofs.YtjmpdkmboheknaaGreatDoor
open Go Go.Proofs Sy Go.Shelf
theorem mod_hi (hi lo M : Nat) : (hi % M * 18446744073709551616 + lo) % M = (hi * 18446744073709551616 + lo) % M := by
  rw [Nat.add_mod,Nat.mul_mod,Nat.mod_mod, ← Nat.mul_mod, ← Nat.add_mod]
theorem rem64P (hi lo : Nat) (hlo : lo < 18446744073709551616) :
    Pu Tryz.prog 238 #[.int .u64 (hi : Int),.int .u64 (lo : Int),.int .u64 2305843009213693951] (fun _ => True) (.int .u64 (((hi * 18446744073709551616 + lo) % 2305843009213693951 : Nat) : Int)) := by
  refine pu_of_cw (args:=[_,_,_]) _ Tryz.func238 rfl Tryz.ntmps238 rfl fun av bor w0 => ?_
  have hr : Eqq ((hi : Int).tmod 2305843009213693951) ((hi % 2305843009213693951 : Nat) : Int) := rem_n hi 2305843009213693951
  have hd := div64P (hi % 2305843009213693951) lo (Nat.mod_lt _ (by decide)) hlo
  rw [mod_hi] at hd
  repeat' (first | refine sy_rem (hb:=by decide) (hc:=hr) (h:=?_) | apply sw_nil | apply cw_seq | apply cw_reg | refine sy_move (h:=?_) | refine sy_assign (h:=?_) | refine sy_extract (h:=?_) | apply cw_ret | (refine sw_pu (hc:=hd) (hX:=fun w h => h) (h:=?_)) | fail)
  apply ends_ret;apply res_tmp;rfl;rfl
  rfl
theorem rem64N (hi lo : Nat) (hlo : lo < 18446744073709551616) :
    Pu Tryz.prog 238 #[.int .u64 (hi : Int),.int .u64 (lo : Int),.int .u64 2305843009213693950] (fun _ => True) (.int .u64 (((hi * 18446744073709551616 + lo) % 2305843009213693950 : Nat) : Int)) := by
  refine pu_of_cw (args:=[_,_,_]) _ Tryz.func238 rfl Tryz.ntmps238 rfl fun av bor w0 => ?_
  have hr : Eqq ((hi : Int).tmod 2305843009213693950) ((hi % 2305843009213693950 : Nat) : Int) := rem_n hi 2305843009213693950
  have hd := div64N (hi % 2305843009213693950) lo (Nat.mod_lt _ (by decide)) hlo
  rw [mod_hi] at hd
  repeat' (first | refine sy_rem (hb:=by decide) (hc:=hr) (h:=?_) | apply sw_nil | apply cw_seq | apply cw_reg | refine sy_move (h:=?_) | refine sy_assign (h:=?_) | refine sy_extract (h:=?_) | apply cw_ret | (refine sw_pu (hc:=hd) (hX:=fun w h => h) (h:=?_)) | fail)
  apply ends_ret;apply res_tmp;rfl;rfl
  rfl
theorem residue_pu (a m : Nat) (hm : 0 < m) (hm2 : m < 4611686018427387904) : Pu Tryz.prog 133 #[.int .i64 (a : Int),.int .i64 (m : Int)] (fun _ => True) (.int .i64 ((a % m : Nat) : Int)) := by
  refine pu_of_cw (args:=[_,_]) _ Tryz.func133 rfl Tryz.ntmps133 rfl fun av bor w0 => ?_
  have hr : Eqq ((a : Int).tmod (m : Int)) ((a % m : Nat) : Int) := rem_n a m
  repeat' (first | refine sy_rem (hb:=by omega) (hc:=hr) (h:=?_) | apply sw_nil | apply cw_seq | apply cw_reg | refine sy_move (h:=?_) | refine sy_assign (h:=?_) | refine sy_lss (h:=?_) | refine sy_add (h:=?_) | apply cw_skip | apply cw_ret | (refine cw_cond (ht:=?_) (hf:=?_);all_goals (intro hx_;first | have := of_decide_eq_true hx_ | have := of_decide_eq_false hx_)))
  · exfalso;omega
  · apply ends_ret;apply res_tmp;rfl;rfl
    rfl
theorem mulP_pu (a b : Nat) : Pu Tryz.prog 196 #[.int .i64 (a : Int),.int .i64 (b : Int),.int .i64 2305843009213693951] (fun _ => True) (.int .i64 ((a * b % 2305843009213693951 : Nat) : Int)) := by
  refine pu_of_cw (args:=[_,_,_]) _ Tryz.func196 rfl Tryz.ntmps196 rfl fun av bor w0 => ?_
  have h1 := residue_pu a 2305843009213693951 (by decide) (by decide)
  have h2 := residue_pu b 2305843009213693951 (by decide) (by decide)
  have hx := Nat.mod_lt a (show 0 < 2305843009213693951 by decide)
  have hy := Nat.mod_lt b (show 0 < 2305843009213693951 by decide)
  have hab : a * b % 2305843009213693951 = (a % 2305843009213693951) * (b % 2305843009213693951) % 2305843009213693951 := Nat.mul_mod a b _
  rw [hab]
  generalize a % 2305843009213693951 = x at *
  generalize b % 2305843009213693951 = y at *
  have h3 := mul64_pu x y (by omega) (by omega)
  have h4 := rem64P (x * y / 18446744073709551616) (x * y % 18446744073709551616) (Nat.mod_lt _ (by decide))
  have e : x * y / 18446744073709551616 * 18446744073709551616 + x * y % 18446744073709551616 = x * y := Nat.div_add_mod' _ _
  rw [e] at h4
  have cx : Eqq (IntKind.u64.wrap (x : Int)) (x : Int) := u64_in _ (by omega)
  have cy : Eqq (IntKind.u64.wrap (y : Int)) (y : Int) := u64_in _ (by omega)
  have hz := Nat.mod_lt (x * y) (show 0 < 2305843009213693951 by decide)
  have cm : Eqq (IntKind.u64.wrap 2305843009213693951) 2305843009213693951 := by unfold Eqq;kernel_rfl
  generalize x * y % 2305843009213693951 = z at *
  have cz : Eqq (IntKind.i64.wrap (z : Int)) (z : Int) := IntWalk.i64_in _ (by omega)
  unfold Eqq at cx cy cm cz
  rw [← cx, ← cy] at h3
  rw [← cm] at h4
  repeat' (first | apply sw_nil | apply cw_seq | apply cw_reg | refine sy_move (h:=?_) | refine sy_assign (h:=?_) | refine sy_extract (h:=?_) | apply cw_ret | refine sy_int (h:=?_) | (refine sw_pu (hc:=h1) (hX:=fun w h => h) (h:=?_)) | (refine sw_pu (hc:=h2) (hX:=fun w h => h) (h:=?_)) | (refine sw_pu (hc:=h3) (hX:=fun w h => h) (h:=?_)) | (refine sw_pu (hc:=h4) (hX:=fun w h => h) (h:=?_)) | fail)
  apply ends_ret;apply res_tmp;rfl;rfl
  rfl
theorem addN_pu (a b : Nat) : Pu Tryz.prog 199 #[.int .i64 (a : Int),.int .i64 (b : Int),.int .i64 2305843009213693950] (fun _ => True) (.int .i64 (((a + b) % 2305843009213693950 : Nat) : Int)) := by
  refine pu_of_cw (args:=[_,_,_]) _ Tryz.func199 rfl Tryz.ntmps199 rfl fun av bor w0 => ?_
  have h1 := residue_pu a 2305843009213693950 (by decide) (by decide)
  have h2 := residue_pu b 2305843009213693950 (by decide) (by decide)
  have h3 := residue_pu (a % 2305843009213693950 + b % 2305843009213693950) 2305843009213693950 (by decide) (by decide)
  rw [← Nat.add_mod] at h3
  have hs : Eqq (IntKind.i64.wrap (((a % 2305843009213693950 : Nat) : Int) + ((b % 2305843009213693950 : Nat) : Int))) ((a % 2305843009213693950 + b % 2305843009213693950 : Nat) : Int) := by
    have := Nat.mod_lt a (show 0 < 2305843009213693950 by decide)
    have := Nat.mod_lt b (show 0 < 2305843009213693950 by decide)
    generalize a % 2305843009213693950 = x at *
    generalize b % 2305843009213693950 = y at *
    unfold Eqq
    rw [Int.natCast_add]
    exact IntWalk.i64_in _ (by omega)
  repeat' (first | refine sy_add (hc:=hs) (h:=?_) | apply sw_nil | apply cw_seq | apply cw_reg | refine sy_move (h:=?_) | refine sy_assign (h:=?_) | apply cw_ret | (refine sw_pu (hc:=h1) (hX:=fun w h => h) (h:=?_)) | (refine sw_pu (hc:=h2) (hX:=fun w h => h) (h:=?_)) | (refine sw_pu (hc:=h3) (hX:=fun w h => h) (h:=?_)) | fail)
  apply ends_ret;apply res_tmp;rfl;rfl
  rfl
theorem mulN_pu (a b : Nat) : Pu Tryz.prog 196 #[.int .i64 (a : Int),.int .i64 (b : Int),.int .i64 2305843009213693950] (fun _ => True) (.int .i64 ((a * b % 2305843009213693950 : Nat) : Int)) := by
  refine pu_of_cw (args:=[_,_,_]) _ Tryz.func196 rfl Tryz.ntmps196 rfl fun av bor w0 => ?_
  have h1 := residue_pu a 2305843009213693950 (by decide) (by decide)
  have h2 := residue_pu b 2305843009213693950 (by decide) (by decide)
  have hx := Nat.mod_lt a (show 0 < 2305843009213693950 by decide)
  have hy := Nat.mod_lt b (show 0 < 2305843009213693950 by decide)
  have hab : a * b % 2305843009213693950 = (a % 2305843009213693950) * (b % 2305843009213693950) % 2305843009213693950 := Nat.mul_mod a b _
  rw [hab]
  generalize a % 2305843009213693950 = x at *
  generalize b % 2305843009213693950 = y at *
  have h3 := mul64_pu x y (by omega) (by omega)
  have h4 := rem64N (x * y / 18446744073709551616) (x * y % 18446744073709551616) (Nat.mod_lt _ (by decide))
  have e : x * y / 18446744073709551616 * 18446744073709551616 + x * y % 18446744073709551616 = x * y := Nat.div_add_mod' _ _
  rw [e] at h4
  have cx : Eqq (IntKind.u64.wrap (x : Int)) (x : Int) := u64_in _ (by omega)
  have cy : Eqq (IntKind.u64.wrap (y : Int)) (y : Int) := u64_in _ (by omega)
  have hz := Nat.mod_lt (x * y) (show 0 < 2305843009213693950 by decide)
  have cm : Eqq (IntKind.u64.wrap 2305843009213693950) 2305843009213693950 := by unfold Eqq;kernel_rfl
  generalize x * y % 2305843009213693950 = z at *
  have cz : Eqq (IntKind.i64.wrap (z : Int)) (z : Int) := IntWalk.i64_in _ (by omega)
  unfold Eqq at cx cy cm cz
  rw [← cx, ← cy] at h3
  rw [← cm] at h4
  repeat' (first | apply sw_nil | apply cw_seq | apply cw_reg | refine sy_move (h:=?_) | refine sy_assign (h:=?_) | refine sy_extract (h:=?_) | apply cw_ret | refine sy_int (h:=?_) | (refine sw_pu (hc:=h1) (hX:=fun w h => h) (h:=?_)) | (refine sw_pu (hc:=h2) (hX:=fun w h => h) (h:=?_)) | (refine sw_pu (hc:=h3) (hX:=fun w h => h) (h:=?_)) | (refine sw_pu (hc:=h4) (hX:=fun w h => h) (h:=?_)) | fail)
  apply ends_ret;apply res_tmp;rfl;rfl
  rfl
theorem Mul_pu (a b : Nat) : Pu Tryz.prog 135 #[.int .i64 (a : Int),.int .i64 (b : Int)] (fun _ => True) (.int .i64 ((a * b % 2305843009213693951 : Nat) : Int)) := by
  refine pu_of_cw (args:=[_,_]) _ Tryz.func135 rfl Tryz.ntmps135 rfl fun av bor w0 => ?_
  repeat' (first | apply sw_nil | apply cw_seq | apply cw_reg | refine sy_move (h:=?_) | refine sy_assign (h:=?_) | apply cw_ret | (refine sw_pu (hc:=mulP_pu a b) (hX:=fun w h => h) (h:=?_)) | fail)
  apply ends_ret;apply res_tmp;rfl;rfl
  rfl
theorem MulN_pu (a b : Nat) : Pu Tryz.prog 141 #[.int .i64 (a : Int),.int .i64 (b : Int)] (fun _ => True) (.int .i64 ((a * b % 2305843009213693950 : Nat) : Int)) := by
  refine pu_of_cw (args:=[_,_]) _ Tryz.func141 rfl Tryz.ntmps141 rfl fun av bor w0 => ?_
  repeat' (first | apply sw_nil | apply cw_seq | apply cw_reg | refine sy_move (h:=?_) | refine sy_assign (h:=?_) | apply cw_ret | (refine sw_pu (hc:=mulN_pu a b) (hX:=fun w h => h) (h:=?_)) | fail)
  apply ends_ret;apply res_tmp;rfl;rfl
  rfl
theorem AddN_pu (a b : Nat) : Pu Tryz.prog 140 #[.int .i64 (a : Int),.int .i64 (b : Int)] (fun _ => True) (.int .i64 (((a + b) % 2305843009213693950 : Nat) : Int)) := by
  refine pu_of_cw (args:=[_,_]) _ Tryz.func140 rfl Tryz.ntmps140 rfl fun av bor w0 => ?_
  repeat' (first | apply sw_nil | apply cw_seq | apply cw_reg | refine sy_move (h:=?_) | refine sy_assign (h:=?_) | apply cw_ret | (refine sw_pu (hc:=addN_pu a b) (hX:=fun w h => h) (h:=?_)) | fail)
  apply ends_ret;apply res_tmp;rfl;rfl
  rfl
end Go.Proofs.YtjmpdkmboheknaaGreatDoor

namespace Go.Proofs.YtjmpdkmboheknaaGreatDoor
open Go Go.Proofs Sy Go.Shelf
def expF (a e : Nat) : Nat → Nat × Nat
  | 0 => (1,a % 2305843009213693951)
  | i + 1 => (bif decide (e / 2 ^ i % 2 = 1) then (expF a e i).1 * (expF a e i).2 % 2305843009213693951 else (expF a e i).1,(expF a e i).2 * (expF a e i).2 % 2305843009213693951)
def expV (a e : Nat) : Nat := (expF a e (Lib.bitLen e)).1
theorem shr_i (e i : Nat) (hi : i ≤ 64) : shrV .i64 (e : Int) (i : Int) = ((e / 2 ^ i : Nat) : Int) := by
  show (e : Int).fdiv (2 ^ (min (i : Int).toNat 64)) = _
  rw [Int.toNat_natCast,Nat.min_eq_left hi,show (2 : Int) ^ i = ((2 ^ i : Nat) : Int) by rw [Int.natCast_pow];rfl, ← Int.ofNat_fdiv]
theorem and_1 (x : Nat) (hx : x < 9223372036854775808) : bitsV .and .i64 (x : Int) 1 = ((x % 2 : Nat) : Int) := by
  show IntKind.i64.wrap ((((BitVec.ofInt 64 (x : Int)) &&& (BitVec.ofInt 64 1)).toNat : Nat) : Int) = _
  have e : (BitVec.ofInt 64 1).toNat = 1 := by decide
  rw [BitVec.toNat_and,e,BitVec.ofInt_natCast,BitVec.toNat_ofNat,Nat.mod_eq_of_lt (show x < 2 ^ 64 by omega),Nat.and_one_is_mod]
  exact IntWalk.i64_in _ (by omega)
theorem bitLenAux_le : ∀ f x : Nat,Lib.bitLenAux f x ≤ f
  | 0,_ => Nat.le_refl _
  | f + 1,x => by
    rw [Lib.bitLenAux]
    split
    · omega
    · have := bitLenAux_le f (x / 2)
      omega
theorem exp_pu (a e : Nat) (he : e < 9223372036854775808) : Pu Tryz.prog 81 #[.int .i64 (a : Int),.int .i64 (e : Int)] (fun _ => True) (.int .i64 (expV a e : Nat)) := by
  refine pu_of_cw (args:=[_,_]) _ Tryz.func81 rfl Tryz.ntmps81 rfl fun av bor w0 => ?_
  have h1 := residue_pu a 2305843009213693951 (by decide) (by decide)
  have h2 := len64_pu e (by omega)
  have ce : Eqq (IntKind.u64.wrap (e : Int)) (e : Int) := u64_in _ (by omega)
  unfold Eqq at ce
  rw [← ce] at h2
  repeat' (first | apply sw_nil | apply cw_seq | apply cw_reg | refine sy_move (h:=?_) | refine sy_assign (h:=?_) | refine sy_lss (h:=?_) | apply cw_skip | apply cw_block | refine sy_int (h:=?_) | (refine sw_pu (hc:=h1) (hX:=fun w h => h) (h:=?_)) | (refine sw_pu (hc:=h2) (hX:=fun w h => h) (h:=?_)) | (refine cw_cond (ht:=?_) (hf:=?_);all_goals (intro hx_;first | have := of_decide_eq_true hx_ | have := of_decide_eq_false hx_)))
  · exfalso;omega
  · have hbl : Lib.bitLen e ≤ 64 := bitLenAux_le 64 e
    refine cw_loop (ι:=Kth (Lib.bitLen e)) (fun i => ⟨[(1,.int .i64 (e : Int)),(5,.int .i64 ((expF a e i.k).1 : Nat)),(6,.int .i64 ((expF a e i.k).2 : Nat)),(16,.int .i64 (Lib.bitLen e : Nat)),(17,.int .i64 i.k)], [],fun _ => True⟩) (fun i => Lib.bitLen e - i.k) ⟨0,Nat.zero_le _⟩ (ok_sub ⟨rfl,rfl,rfl,rfl,rfl,trivial⟩ (List.nil_sublist _) fun _ h => h) fun i => ?_
    have hik := i.hk
    have hm1 := Mul_pu (expF a e i.k).1 (expF a e i.k).2
    have hm2 := Mul_pu (expF a e i.k).2 (expF a e i.k).2
    have hb : bitsV .and .i64 (shrV .i64 (e : Int) ((i.k : Nat) : Int)) 1 = ((e / 2 ^ i.k % 2 : Nat) : Int) := by
      rw [shr_i e i.k (by omega),and_1 _ (Nat.lt_of_le_of_lt (Nat.div_le_self _ _) he)]
    have hs : expF a e (i.k + 1) = (bif decide (e / 2 ^ i.k % 2 = 1) then (expF a e i.k).1 * (expF a e i.k).2 % 2305843009213693951 else (expF a e i.k).1,(expF a e i.k).2 * (expF a e i.k).2 % 2305843009213693951) := rfl
    generalize hp : expF a e i.k = p at *
    repeat' (first | apply sw_nil | apply cw_seq | apply cw_reg | refine sy_move (h:=?_) | refine sy_assign (h:=?_) | refine sy_eql (h:=?_) | refine sy_lss (h:=?_) | refine sy_add (h:=?_) | apply cw_skip | apply cw_block | apply cw_ret | apply cw_exit | refine sy_and (h:=?_) | refine sy_shr (h:=?_) | (refine sw_pu (hc:=hm1) (hX:=fun w h => h) (h:=?_)) | (refine sw_pu (hc:=hm2) (hX:=fun w h => h) (h:=?_)) | (refine cw_cond (ht:=?_) (hf:=?_);all_goals (intro hx_;first | have := of_decide_eq_true hx_ | have := of_decide_eq_false hx_)))
    · have hc : e / 2 ^ i.k % 2 = 1 := by
        rw [hb] at hx_
        have := of_decide_eq_true hx_
        omega
      rw [decide_eq_true hc,cond_true] at hs
      exact ⟨(⟨i.k + 1,by omega⟩ : Kth (Lib.bitLen e)),(by show Lib.bitLen e - (i.k + 1) < Lib.bitLen e - i.k;omega),ok_sub ⟨rfl,by rw [hs];rfl,by rw [hs];rfl,rfl,rfl,trivial⟩ (List.nil_sublist _) fun _ h => h⟩
    · have hc : ¬ e / 2 ^ i.k % 2 = 1 := by
        rw [hb] at hx_
        have := of_decide_eq_false hx_
        omega
      rw [decide_eq_false hc,cond_false] at hs
      exact ⟨(⟨i.k + 1,by omega⟩ : Kth (Lib.bitLen e)),(by show Lib.bitLen e - (i.k + 1) < Lib.bitLen e - i.k;omega),ok_sub ⟨rfl,by rw [hs];rfl,by rw [hs];rfl,rfl,rfl,trivial⟩ (List.nil_sublist _) fun _ h => h⟩
    · have hk : i.k = Lib.bitLen e := by omega
      apply ends_ret;apply res_tmp;rfl;rfl
      rw [expV, ← hk,hp]
end Go.Proofs.YtjmpdkmboheknaaGreatDoor

namespace Go.Proofs.YtjmpdkmboheknaaGreatDoor
open Go Go.Proofs Sy
def IsN (x : Int) (n : Nat) : Prop := x = (n : Int) ∧ n < 4294967296
theorem wrap32 (n : Nat) : IntKind.u32.wrap (n : Int) = ((n % 4294967296 : Nat) : Int) := by
  simp [IntKind.wrap,IntKind.signed,IntKind.bits]
theorem IsN.xor {x y : Int} {m n : Nat} (h : IsN x m) (k : IsN y n) : IsN (bitsV .xor .u32 x y) (m ^^^ n) := by
  obtain ⟨rfl,hm⟩ := h
  obtain ⟨rfl,hn⟩ := k
  have hx : m ^^^ n < 2 ^ 32 := Nat.xor_lt_two_pow hm hn
  refine ⟨?_,hx⟩
  show IntKind.u32.wrap ((((BitVec.ofInt 32 (m : Int)) ^^^ (BitVec.ofInt 32 (n : Int))).toNat : Nat) : Int) = _
  rw [BitVec.ofInt_natCast,BitVec.ofInt_natCast,BitVec.toNat_xor,BitVec.toNat_ofNat,BitVec.toNat_ofNat,Nat.mod_eq_of_lt (show m < 2 ^ 32 from hm),Nat.mod_eq_of_lt (show n < 2 ^ 32 from hn),wrap32,Nat.mod_eq_of_lt hx]
theorem IsN.and {x y : Int} {m n : Nat} (h : IsN x m) (k : IsN y n) : IsN (bitsV .and .u32 x y) (m &&& n) := by
  obtain ⟨rfl,hm⟩ := h
  obtain ⟨rfl,hn⟩ := k
  have hx : m &&& n < 2 ^ 32 := Nat.and_lt_two_pow m hn
  refine ⟨?_,hx⟩
  show IntKind.u32.wrap ((((BitVec.ofInt 32 (m : Int)) &&& (BitVec.ofInt 32 (n : Int))).toNat : Nat) : Int) = _
  rw [BitVec.ofInt_natCast,BitVec.ofInt_natCast,BitVec.toNat_and,BitVec.toNat_ofNat,BitVec.toNat_ofNat,Nat.mod_eq_of_lt (show m < 2 ^ 32 from hm),Nat.mod_eq_of_lt (show n < 2 ^ 32 from hn),wrap32,Nat.mod_eq_of_lt hx]
theorem IsN.or {x y : Int} {m n : Nat} (h : IsN x m) (k : IsN y n) : IsN (bitsV .or .u32 x y) (m ||| n) := by
  obtain ⟨rfl,hm⟩ := h
  obtain ⟨rfl,hn⟩ := k
  have hx : m ||| n < 2 ^ 32 := Nat.or_lt_two_pow hm hn
  refine ⟨?_,hx⟩
  show IntKind.u32.wrap ((((BitVec.ofInt 32 (m : Int)) ||| (BitVec.ofInt 32 (n : Int))).toNat : Nat) : Int) = _
  rw [BitVec.ofInt_natCast,BitVec.ofInt_natCast,BitVec.toNat_or,BitVec.toNat_ofNat,BitVec.toNat_ofNat,Nat.mod_eq_of_lt (show m < 2 ^ 32 from hm),Nat.mod_eq_of_lt (show n < 2 ^ 32 from hn),wrap32,Nat.mod_eq_of_lt hx]
theorem IsN.add {x y : Int} {m n : Nat} (h : IsN x m) (k : IsN y n) : IsN (a32 x y) ((m + n) % 4294967296) := by
  obtain ⟨rfl,hm⟩ := h
  obtain ⟨rfl,hn⟩ := k
  refine ⟨?_,Nat.mod_lt _ (by decide)⟩
  show IntKind.u32.wrap ((m : Int) + (n : Int)) = _
  rw [← Int.natCast_add,wrap32]
theorem IsN.shl {x : Int} {m : Nat} (h : IsN x m) {c : Int} (p : Nat) (hp : (2 : Int) ^ (min c.toNat 32) = (p : Int)) : IsN (shlV .u32 x c) (m * p % 4294967296) := by
  obtain ⟨rfl,hm⟩ := h
  refine ⟨?_,Nat.mod_lt _ (by decide)⟩
  show IntKind.u32.wrap ((m : Int) * 2 ^ (min c.toNat 32)) = _
  rw [hp, ← Int.natCast_mul,wrap32]
theorem IsN.shr {x : Int} {m : Nat} (h : IsN x m) {c : Int} (p : Nat) (hp : (2 : Int) ^ (min c.toNat 32) = (p : Int)) : IsN (shrV .u32 x c) (m / p) := by
  obtain ⟨rfl,hm⟩ := h
  refine ⟨?_,Nat.lt_of_le_of_lt (Nat.div_le_self _ _) hm⟩
  show (m : Int).fdiv (2 ^ (min c.toNat 32)) = _
  rw [hp, ← Int.ofNat_fdiv]
def rot (p q m : Nat) : Nat := (m * p % 4294967296) ||| (m / q)
theorem IsN.turn {x : Int} {m : Nat} (h : IsN x m) {r c : Int} (p q : Nat) (hc : bitsV .and .u64 (IntKind.u64.wrap (IntKind.i64.wrap (0 - r))) 31 = c) (hd : IntKind.u64.wrap (32 - c) = r) (hp : (2 : Int) ^ (min c.toNat 32) = (p : Int)) (hq : (2 : Int) ^ (min r.toNat 32) = (q : Int)) :
    IsN (turnV x r) (rot p q m) := by
  unfold turnV rotlV
  rw [hc,hd]
  exact (h.shl p hp).or (h.shr q hq)
def s0N (m : Nat) : Nat := rot 33554432 128 m ^^^ rot 16384 262144 m ^^^ (m / 8)
def s1N (m : Nat) : Nat := rot 32768 131072 m ^^^ rot 8192 524288 m ^^^ (m / 1024)
def b1N (m : Nat) : Nat := rot 67108864 64 m ^^^ rot 2097152 2048 m ^^^ rot 128 33554432 m
def b0N (m : Nat) : Nat := rot 1073741824 4 m ^^^ rot 524288 8192 m ^^^ rot 1024 4194304 m
theorem IsN.s0 {x : Int} {m : Nat} (h : IsN x m) : IsN (bitsV .xor .u32 (bitsV .xor .u32 (turnV x 7) (turnV x 18)) (shrV .u32 x 3)) (s0N m) :=
  ((h.turn (c:=25) _ _ (by kernel_rfl) (by kernel_rfl) (by kernel_rfl) (by kernel_rfl)).xor (h.turn (c:=14) _ _ (by kernel_rfl) (by kernel_rfl) (by kernel_rfl) (by kernel_rfl))).xor (h.shr 8 (by kernel_rfl))
theorem IsN.s1 {x : Int} {m : Nat} (h : IsN x m) : IsN (bitsV .xor .u32 (bitsV .xor .u32 (turnV x 17) (turnV x 19)) (shrV .u32 x 10)) (s1N m) :=
  ((h.turn (c:=15) _ _ (by kernel_rfl) (by kernel_rfl) (by kernel_rfl) (by kernel_rfl)).xor (h.turn (c:=13) _ _ (by kernel_rfl) (by kernel_rfl) (by kernel_rfl) (by kernel_rfl))).xor (h.shr 1024 (by kernel_rfl))
theorem IsN.b1 {x : Int} {m : Nat} (h : IsN x m) : IsN (x32 (x32 (turnV x 6) (turnV x 11)) (turnV x 25)) (b1N m) :=
  ((h.turn (c:=26) _ _ (by kernel_rfl) (by kernel_rfl) (by kernel_rfl) (by kernel_rfl)).xor (h.turn (c:=21) _ _ (by kernel_rfl) (by kernel_rfl) (by kernel_rfl) (by kernel_rfl))).xor (h.turn (c:=7) _ _ (by kernel_rfl) (by kernel_rfl) (by kernel_rfl) (by kernel_rfl))
theorem IsN.b0 {x : Int} {m : Nat} (h : IsN x m) : IsN (x32 (x32 (turnV x 2) (turnV x 13)) (turnV x 22)) (b0N m) :=
  ((h.turn (c:=30) _ _ (by kernel_rfl) (by kernel_rfl) (by kernel_rfl) (by kernel_rfl)).xor (h.turn (c:=19) _ _ (by kernel_rfl) (by kernel_rfl) (by kernel_rfl) (by kernel_rfl))).xor (h.turn (c:=10) _ _ (by kernel_rfl) (by kernel_rfl) (by kernel_rfl) (by kernel_rfl))
def fc {α : Type} (n : Nat) (k : Nat → α) : α := match n with
  | 0 => k 0
  | m + 1 => k (Nat.succ m)
theorem fc_eq {α : Type} (n : Nat) (k : Nat → α) : fc n k = k n := by cases n <;> rfl
structure S8 where
  a : Nat
  b : Nat
  c : Nat
  d : Nat
  e : Nat
  f : Nat
  g : Nat
  h : Nat
structure RS (x : St8) (n : S8) : Prop where
  a : IsN x.a n.a
  b : IsN x.b n.b
  c : IsN x.c n.c
  d : IsN x.d n.d
  e : IsN x.e n.e
  f : IsN x.f n.f
  g : IsN x.g n.g
  h : IsN x.h n.h
def t1N (h e f g k w : Nat) : Nat := ((((h + b1N e) % 4294967296 + ((e &&& f) ^^^ ((4294967295 ^^^ e) &&& g))) % 4294967296 + k) % 4294967296 + w) % 4294967296
def t2N (a b c : Nat) : Nat := (b0N a + (((a &&& b) ^^^ (a &&& c)) ^^^ (b &&& c))) % 4294967296
def roundN (s : S8) (k w : Nat) : S8 := match s with
  | ⟨a,b,c,d,e,f,g,h⟩ => fc (t1N h e f g k w) fun t1 => fc ((t1 + t2N a b c) % 4294967296) fun x => fc ((d + t1) % 4294967296) fun y => ⟨x,a,b,c,y,e,f,g⟩
theorem RS.round {x : St8} {n : S8} (h : RS x n) {k w : Int} {k' w' : Nat} (hk : IsN k k') (hw : IsN w w') : RS (roundV x k w) (roundN n k' w') := by
  obtain ⟨a,b,c,d,e,f,g,hh⟩ := n
  obtain ⟨ha,hb,hc,hd,he,hf,hg,hh⟩ := h
  simp only [roundN,fc_eq]
  have hm : IsN (if IntKind.u32.signed then -1 else IntKind.u32.max) 4294967295 := ⟨by kernel_rfl,by decide⟩
  have h1 : IsN (t1V x k w) (t1N _ e f g k' w') := (((hh.add he.b1).add ((he.and hf).xor ((hm.xor he).and hg))).add hk).add hw
  have h2 : IsN (t2V x) (t2N a b c) := ha.b0.add (((ha.and hb).xor (ha.and hc)).xor (hb.and hc))
  exact ⟨h1.add h2,ha,hb,hc,hd.add h1,he,hf,hg⟩
structure W16 where
  w0 : Nat
  w1 : Nat
  w2 : Nat
  w3 : Nat
  w4 : Nat
  w5 : Nat
  w6 : Nat
  w7 : Nat
  w8 : Nat
  w9 : Nat
  w10 : Nat
  w11 : Nat
  w12 : Nat
  w13 : Nat
  w14 : Nat
  w15 : Nat
def nextW (a b c d : Nat) : Nat := (((a + s0N b) % 4294967296 + c) % 4294967296 + s1N d) % 4294967296
def W16.next (w : W16) : W16 := match w with
  | ⟨a0,a1,a2,a3,a4,a5,a6,a7,a8,a9,a10,a11,a12,a13,a14,a15⟩ => fc (nextW a0 a1 a9 a14) fun x => ⟨a1,a2,a3,a4,a5,a6,a7,a8,a9,a10,a11,a12,a13,a14,a15,x⟩
def sN (f : Nat → Nat) : Nat → Nat → Nat
  | 0,t => f t
  | k + 1,t => if t = 16 + k then nextW (sN f k k) (sN f k (k + 1)) (sN f k (k + 9)) (sN f k (k + 14)) else sN f k t
def winN (f : Nat → Nat) (t : Nat) : W16 := ⟨sN f t t,sN f t (t + 1),sN f t (t + 2),sN f t (t + 3),sN f t (t + 4),sN f t (t + 5),sN f t (t + 6),sN f t (t + 7),sN f t (t + 8),sN f t (t + 9),sN f t (t + 10),sN f t (t + 11),sN f t (t + 12),sN f t (t + 13),sN f t (t + 14),sN f t (t + 15)⟩
theorem sN_old (f : Nat → Nat) {k t : Nat} (h : t ≠ 16 + k) : sN f (k + 1) t = sN f k t := by rw [sN,if_neg h]
theorem sN_new (f : Nat → Nat) (k : Nat) : sN f (k + 1) (16 + k) = nextW (sN f k k) (sN f k (k + 1)) (sN f k (k + 9)) (sN f k (k + 14)) := by rw [sN,if_pos rfl]
theorem sN_stay (f : Nat → Nat) {k t : Nat} : ∀ j,t < 16 + k → sN f (k + j) t = sN f k t
  | 0,_ => rfl
  | j + 1,h => by
    rw [show k + (j + 1) = (k + j) + 1 from rfl,sN_old f (by omega)]
    exact sN_stay f j h
theorem W16.next_eq (a0 a1 a2 a3 a4 a5 a6 a7 a8 a9 a10 a11 a12 a13 a14 a15 : Nat) : W16.next ⟨a0,a1,a2,a3,a4,a5,a6,a7,a8,a9,a10,a11,a12,a13,a14,a15⟩ = ⟨a1,a2,a3,a4,a5,a6,a7,a8,a9,a10,a11,a12,a13,a14,a15,nextW a0 a1 a9 a14⟩ := by rw [W16.next,fc_eq]
theorem winN_next (f : Nat → Nat) (t : Nat) : (winN f t).next = winN f (t + 1) := by
  rw [winN,W16.next_eq, ← sN_new,winN]
  have e : ∀ j,j < 15 → sN f t (t + (j + 1)) = sN f (t + 1) (t + 1 + j) := fun j hj => by
    rw [sN_old f (by omega)];congr 1;omega
  have e15 : sN f (t + 1) (16 + t) = sN f (t + 1) (t + 1 + 15) := by congr 1;omega
  rw [W16.mk.injEq]
  exact ⟨e 0 (by omega),e 1 (by omega),e 2 (by omega),e 3 (by omega),e 4 (by omega),e 5 (by omega),e 6 (by omega),e 7 (by omega),e 8 (by omega),e 9 (by omega),e 10 (by omega),e 11 (by omega),e 12 (by omega),e 13 (by omega),e 14 (by omega),e15⟩
theorem sched_isN {s : ByteArray} {f : Nat → Nat} (h : ∀ t,t < 16 → IsN (wordV s t) (f t)) : ∀ k,k ≤ 48 → ∀ t,t < 16 + k → IsN ((w2 s k).getD t 0) (sN f k t)
  | 0,_,t,ht => by
    have key : ∀ i,i ≤ 16 → ∀ t,t < i → (w1 s i).getD t 0 = wordV s t := fun i => by
      induction i with
      | zero => intro _ t ht;omega
      | succ i ih =>
        intro hi t ht
        rw [w1,List.getD_eq_getElem?_getD,List.getElem?_set]
        by_cases e : i = t
        · subst e
          rw [if_pos rfl,if_pos (by rw [w1_len];omega)];rfl
        · rw [if_neg e, ← List.getD_eq_getElem?_getD]
          exact ih (by omega) t (by omega)
    rw [w2,key 16 (by omega) t (by omega)]
    exact h t (by omega)
  | k + 1,hk,t,ht => by
    have ih := sched_isN h k (by omega)
    rw [w2,List.getD_eq_getElem?_getD,List.getElem?_set]
    by_cases e : 16 + k = t
    · subst e
      rw [if_pos rfl,if_pos (by rw [w2_len];omega),sN_new]
      have h0 := ih k (by omega)
      have h1 := ih (16 + k - 15) (by omega)
      have h9 := ih (16 + k - 7) (by omega)
      have h14 := ih (16 + k - 2) (by omega)
      rw [show 16 + k - 15 = k + 1 by omega] at h1
      rw [show 16 + k - 7 = k + 9 by omega] at h9
      rw [show 16 + k - 2 = k + 14 by omega] at h14
      have he : early (w2 s k) (16 + k) = _ := rfl
      unfold early late
      rw [show 16 + k - 15 = k + 1 by omega,show 16 + k - 7 = k + 9 by omega,show 16 + k - 2 = k + 14 by omega]
      exact ((h0.add h1.s0).add h9).add h14.s1
    · rw [if_neg e, ← List.getD_eq_getElem?_getD,sN_old f (by omega)]
      exact ih t (by omega)
def kN : List Nat := kC.map Int.toNat
def stepN (p : S8 × W16) (k : Nat) : S8 × W16 := match p with
  | (s,w) => (roundN s k w.w0,w.next)
theorem stepN_eq (s : S8) (w : W16) (k : Nat) : stepN (s,w) k = (roundN s k w.w0,w.next) := by unfold stepN;rfl
def roundsN (ks : List Nat) (s : S8) (w : W16) : S8 := (ks.foldl stepN (s,w)).1
theorem rounds_eq {x : St8} {ws : List Int} {f : Nat → Nat} (hw : ∀ t,t < 64 → IsN (ws.getD t 0) (sN f t t)) : ∀ (n t : Nat) (s : S8),t + n = 64 → RS (roundsV x ws t) s → RS (roundsV x ws 64) ((kN.drop t).foldl stepN (s,winN f t)).1 := by
  intro n
  have hl : kN.length = 64 := by kernel_rfl
  have hk : ∀ t,t < 64 → kC.getD t 0 = ((kN.getD t 0 : Nat) : Int) ∧ kN.getD t 0 < 4294967296 := by decide +kernel
  induction n with
  | zero =>
    intro t s ht h
    have e : t = 64 := by omega
    subst e
    rw [List.drop_of_length_le (by omega),List.foldl_nil]
    exact h
  | succ n ih =>
    intro t s ht h
    have hd : kN.drop t = kN[t]'(by omega) :: kN.drop (t + 1) := List.drop_eq_getElem_cons (by omega)
    have e2 : kN.getD t 0 = kN[t]'(by omega) := by rw [List.getD_eq_getElem?_getD,List.getElem?_eq_getElem (by omega)];rfl
    have h1 := hk t (by omega)
    rw [e2] at h1
    have hw0 : (winN f t).w0 = sN f t t := by unfold winN;rfl
    have hr : roundsV x ws (t + 1) = roundV (roundsV x ws t) (kC.getD t 0) (ws.getD t 0) := by rw [roundsV]
    rw [hd,List.foldl_cons,stepN_eq,winN_next,hw0]
    refine ih (t + 1) _ (by omega) ?_
    rw [hr]
    exact h.round h1 (hw t (by omega))
theorem roundsN_eq {x : St8} {ws : List Int} {f : Nat → Nat} (hw : ∀ t,t < 64 → IsN (ws.getD t 0) (sN f t t)) {s : S8} (h : RS x s) : RS (roundsV x ws 64) (roundsN kN s (winN f 0)) := by
  have h1 := rounds_eq (x:=x) hw 64 0 s (Nat.zero_add _) (by rw [roundsV];exact h)
  rw [List.drop_zero] at h1
  unfold roundsN
  exact h1
def addN (x y : S8) : S8 := match x,y with
  | ⟨a,b,c,d,e,f,g,h⟩,⟨a',b',c',d',e',f',g',h'⟩ => fc ((a + a') % 4294967296) fun a => fc ((b + b') % 4294967296) fun b => fc ((c + c') % 4294967296) fun c => fc ((d + d') % 4294967296) fun d => fc ((e + e') % 4294967296) fun e => fc ((f + f') % 4294967296) fun f => fc ((g + g') % 4294967296) fun g => fc ((h + h') % 4294967296) fun h => ⟨a,b,c,d,e,f,g,h⟩
def mixN (s : S8) (w : W16) : S8 := addN s (roundsN kN s w)
theorem RS.add {x y : St8} {m n : S8} (h : RS x m) (h1 : RS y n) : RS ⟨a32 x.a y.a,a32 x.b y.b,a32 x.c y.c,a32 x.d y.d,a32 x.e y.e,a32 x.f y.f,a32 x.g y.g,a32 x.h y.h⟩ (addN m n) := by
  obtain ⟨a,b,c,d,e,f,g,hh⟩ := m
  obtain ⟨a',b',c',d',e',f',g',h'⟩ := n
  simp only [addN,fc_eq]
  exact ⟨h.a.add h1.a,h.b.add h1.b,h.c.add h1.c,h.d.add h1.d,h.e.add h1.e,h.f.add h1.f,h.g.add h1.g,h.h.add h1.h⟩
theorem RS.mix {x : St8} {n : S8} (h : RS x n) {s : ByteArray} {f : Nat → Nat} (hs : ∀ t,t < 16 → IsN (wordV s t) (f t)) : RS (mixV x s) (mixN n (winN f 0)) := by
  have h1 := roundsN_eq (x:=x) (ws:=schedV s) (f:=f) (fun t ht => by
    have h2 := sched_isN hs 48 (by omega) t (by omega)
    by_cases e : t ≤ 48
    · have h3 := sN_stay f (k:=t) (t:=t) (48 - t) (by omega)
      rw [show t + (48 - t) = 48 by omega] at h3
      rw [schedV]
      rwa [h3] at h2
    · have h3 := sN_stay f (k:=48) (t:=t) (t - 48) (by omega)
      rw [show 48 + (t - 48) = t by omega] at h3
      rw [schedV,h3]
      exact h2) h
  unfold mixV mixN
  generalize roundsV x (schedV s) 64 = y at h1 ⊢
  generalize roundsN kN n (winN f 0) = y' at h1 ⊢
  exact h.add h1
end Go.Proofs.YtjmpdkmboheknaaGreatDoor

namespace Go.Proofs.YtjmpdkmboheknaaGreatDoor
open Go Go.Proofs Sy
def nl (s : ByteArray) : List Nat := s.data.toList.map UInt8.toNat
theorem nl_len (s : ByteArray) : (nl s).length = s.size := by simp [nl]
theorem nl_append (a b : ByteArray) : nl (a ++ b) = nl a ++ nl b := by simp [nl,ByteArray.data_append]
theorem nl_lt (s : ByteArray) : ∀ x ∈ nl s,x < 256 := fun x hx => by
  obtain ⟨b,_,rfl⟩ := List.mem_map.1 hx
  exact b.toNat_lt
theorem nl_extract (s : ByteArray) (a b : Nat) : nl (s.extract a b) = ((nl s).drop a).take (b - a) := by
  simp [nl,ByteArray.data_extract,Array.toList_extract,List.map_take,List.map_drop]
theorem nl_inj {a b : ByteArray} (h : nl a = nl b) : a = b := by
  apply ByteArray.ext
  apply Array.ext'
  have key : ∀ l m : List UInt8,l.map UInt8.toNat = m.map UInt8.toNat → l = m := fun l => by
    induction l with
    | nil => intro m h;cases m with | nil => rfl | cons _ _ => cases h
    | cons a l ih =>
      intro m h
      cases m with
      | nil => cases h
      | cons b m =>
        simp only [List.map_cons,List.cons.injEq] at h
        rw [UInt8.toNat_inj.1 h.1,ih m h.2]
  exact key _ _ h
theorem bytesI_nl (s : ByteArray) : bytesI s = (nl s).map fun (n : Nat) => (n : Int) := by simp [bytesI,nl,Function.comp_def]
def wdN (a b c d : Nat) : Nat := ((a * 16777216 % 4294967296 ||| (b * 65536 % 4294967296)) ||| (c * 256 % 4294967296)) ||| d
def fW (l : List Nat) (t : Nat) : Nat := wdN (l.getD (4 * t) 0) (l.getD (4 * t + 1) 0) (l.getD (4 * t + 2) 0) (l.getD (4 * t + 3) 0)
theorem byteAt_nl (s : ByteArray) (i j : Nat) (hj : j < 4) : byteAt (s.extract (4 * (i : Int)).toNat (4 * (i : Int) + 4).toNat) j = (((nl s).getD (4 * i + j) 0 : Nat) : Int) := by
  have h1 : (4 * (i : Int)).toNat = 4 * i := by omega
  have h2 : (4 * (i : Int) + 4).toNat = 4 * i + 4 := by omega
  have h0 : ∀ (e : ByteArray) (k : Nat),byteAt e k = (((nl e).getD k 0 : Nat) : Int) := fun e k => by
    simp only [byteAt,nl,List.getD_eq_getElem?_getD,List.getElem?_map]
    cases e.data.toList[k]? <;> rfl
  rw [h1,h2,h0,nl_extract,show 4 * i + 4 - 4 * i = 4 by omega,List.getD_eq_getElem?_getD,List.getD_eq_getElem?_getD,List.getElem?_take,if_pos hj,List.getElem?_drop]
theorem getD_lt {l : List Nat} (h : ∀ x ∈ l,x < 256) (i : Nat) : l.getD i 0 < 256 := by
  rw [List.getD_eq_getElem?_getD]
  cases hx : l[i]? with
  | none => decide
  | some x => exact h x (List.mem_of_getElem? hx)
theorem word_nl (s : ByteArray) (i : Nat) : IsN (wordV s i) (fW (nl s) i) := by
  have hb : ∀ j,j < 4 → IsN (IntKind.u32.wrap (byteAt (s.extract (4 * (i : Int)).toNat (4 * (i : Int) + 4).toNat) j)) ((nl s).getD (4 * i + j) 0) := fun j hj => by
    have h := getD_lt (nl_lt s) (4 * i + j)
    rw [byteAt_nl s i j hj,wrap32,Nat.mod_eq_of_lt (by omega)]
    exact ⟨rfl,by omega⟩
  unfold wordV fW wdN
  exact ((((hb 0 (by omega)).shl 16777216 (by kernel_rfl)).or ((hb 1 (by omega)).shl 65536 (by kernel_rfl))).or ((hb 2 (by omega)).shl 256 (by kernel_rfl))).or (hb 3 (by omega))
def rd1 {α : Type} (z : α) (l : List Nat) (k : Nat → List Nat → α) : α := match l with
  | a :: b :: c :: d :: r => fc (wdN a b c d) fun w => k w r
  | _ => z
theorem rd1_eq {α : Type} {z : α} {l : List Nat} {k : Nat → List Nat → α} (h : 4 ≤ l.length) : rd1 z l k = k (fW l 0) (l.drop 4) := by
  match l,h with
  | a :: b :: c :: d :: r,_ => rw [rd1,fc_eq];rfl
def blkN {α : Type} (z : α) (l : List Nat) (k : W16 → List Nat → α) : α :=
  rd1 z l fun w0 l => rd1 z l fun w1 l => rd1 z l fun w2 l => rd1 z l fun w3 l => rd1 z l fun w4 l => rd1 z l fun w5 l => rd1 z l fun w6 l => rd1 z l fun w7 l =>
  rd1 z l fun w8 l => rd1 z l fun w9 l => rd1 z l fun w10 l => rd1 z l fun w11 l => rd1 z l fun w12 l => rd1 z l fun w13 l => rd1 z l fun w14 l => rd1 z l fun w15 l =>
  k ⟨w0,w1,w2,w3,w4,w5,w6,w7,w8,w9,w10,w11,w12,w13,w14,w15⟩ l
theorem fW_drop (l : List Nat) (m t : Nat) : fW (l.drop (4 * m)) t = fW l (m + t) := by
  have e : ∀ j,(l.drop (4 * m)).getD (4 * t + j) 0 = l.getD (4 * (m + t) + j) 0 := fun j => by
    rw [List.getD_eq_getElem?_getD,List.getD_eq_getElem?_getD,List.getElem?_drop,show 4 * m + (4 * t + j) = 4 * (m + t) + j by omega]
  have e0 := e 0
  simp only [Nat.add_zero] at e0
  rw [fW,fW,e0,e 1,e 2,e 3]
theorem blkN_eq {α : Type} {z : α} {l : List Nat} {k : W16 → List Nat → α} (h : 64 ≤ l.length) : blkN z l k = k (winN (fW l) 0) (l.drop 64) := by
  have st : ∀ (m : Nat) (k' : Nat → List Nat → α),m < 16 → rd1 z (l.drop (4 * m)) k' = k' (fW l m) (l.drop (4 * (m + 1))) := fun m k' hm => by
    rw [rd1_eq (by rw [List.length_drop];omega),fW_drop,List.drop_drop]
    rfl
  have h0 : l = l.drop (4 * 0) := rfl
  unfold blkN
  rw [h0,st 0 _ (by omega),st 1 _ (by omega),st 2 _ (by omega),st 3 _ (by omega),st 4 _ (by omega),st 5 _ (by omega),st 6 _ (by omega),st 7 _ (by omega),st 8 _ (by omega),st 9 _ (by omega),st 10 _ (by omega),st 11 _ (by omega),st 12 _ (by omega),st 13 _ (by omega),st 14 _ (by omega),st 15 _ (by omega)]
  rfl
def runN : Nat → S8 → List Nat → S8
  | 0,x,_ => x
  | f + 1,x,l => blkN x l fun w r => runN f (mixN x w) r
theorem runN_succ {f : Nat} {x : S8} {l : List Nat} (h : 64 ≤ l.length) : runN (f + 1) x l = runN f (mixN x (winN (fW l) 0)) (l.drop 64) := blkN_eq h
theorem fW_take {l : List Nat} (t : Nat) (h : t < 16) : fW (l.take 64) t = fW l t := by
  have e : ∀ j,j < 64 → (l.take 64).getD j 0 = l.getD j 0 := fun j hj => by
    rw [List.getD_eq_getElem?_getD,List.getD_eq_getElem?_getD,List.getElem?_take,if_pos hj]
  rw [fW,fW,e _ (by omega),e _ (by omega),e _ (by omega),e _ (by omega)]
theorem RS.blk {x : St8} {n : S8} (h : RS x n) (r : ByteArray) (hr : 64 ≤ r.size) : RS (mixV x (r.extract 0 64)) (mixN n (winN (fW (nl r)) 0)) :=
  h.mix fun t ht => by
    have h1 := word_nl (r.extract 0 64) t
    rw [nl_extract,List.drop_zero] at h1
    rwa [fW_take t ht] at h1
theorem nl_rest (r : ByteArray) : nl (r.extract 64 r.size) = (nl r).drop 64 := by
  rw [nl_extract,List.take_of_length_le (by rw [List.length_drop,nl_len];omega)]
theorem size_rest (r : ByteArray) (h : 64 ≤ r.size) : (r.extract 64 r.size).size = r.size - 64 := by
  rw [← nl_len,nl_rest,List.length_drop,nl_len]
theorem loopV_run : ∀ (f : Nat) (x : St8) (n : S8) (r : ByteArray),RS x n → r.size / 64 ≤ f → RS (loopV f x r).1 (runN (r.size / 64) n (nl r)) ∧ nl (loopV f x r).2 = (nl r).drop (64 * (r.size / 64))
  | 0,x,n,r,h,hf => by
    have e : r.size / 64 = 0 := by omega
    rw [e]
    exact ⟨h,rfl⟩
  | f + 1,x,n,r,h,hf => by
    by_cases hr : 64 ≤ r.size
    · have e : r.size / 64 = (r.size - 64) / 64 + 1 := by omega
      have hs := size_rest r hr
      have ih := loopV_run f (mixV x (r.extract 0 64)) _ (r.extract 64 r.size) (h.blk r hr) (by rw [hs];omega)
      rw [hs,nl_rest] at ih
      have e2 : loopV (f + 1) x r = loopV f (mixV x (r.extract 0 64)) (r.extract 64 r.size) := by rw [loopV,decide_eq_true (by omega),cond_true]
      rw [e2,e,runN_succ (by rw [nl_len];omega)]
      refine ⟨ih.1, ?_⟩
      rw [ih.2,List.drop_drop]
      congr 1
      omega
    · have e : r.size / 64 = 0 := by omega
      have e2 : loopV (f + 1) x r = (x,r) := by rw [loopV,decide_eq_false (by omega),cond_false]
      rw [e,e2]
      exact ⟨h,rfl⟩
theorem loopE_run : ∀ (f : Nat) (x : St8) (n : S8) (r : ByteArray),RS x n → r.size % 64 = 0 → r.size / 64 ≤ f → RS (loopE f x r) (runN (r.size / 64) n (nl r))
  | 0,x,n,r,h,_,hf => by
    have e : r.size / 64 = 0 := by omega
    rw [e]
    exact h
  | f + 1,x,n,r,h,hm,hf => by
    by_cases hr : r.size = 0
    · have e : r.size / 64 = 0 := by omega
      have e2 : loopE (f + 1) x r = x := by rw [loopE,seqB_empty,decide_eq_true hr,cond_true]
      rw [e,e2]
      exact h
    · have hs := size_rest r (by omega)
      have e : r.size / 64 = (r.size - 64) / 64 + 1 := by omega
      have ih := loopE_run f (mixV x (r.extract 0 64)) _ (r.extract 64 r.size) (h.blk r (by omega)) (by rw [hs];omega) (by rw [hs];omega)
      rw [hs,nl_rest] at ih
      have e2 : loopE (f + 1) x r = loopE f (mixV x (r.extract 0 64)) (r.extract 64 r.size) := by rw [loopE,seqB_empty,decide_eq_false hr,cond_false]
      rw [e2,e,runN_succ (by rw [nl_len];omega)]
      exact ih
end Go.Proofs.YtjmpdkmboheknaaGreatDoor

namespace Go.Proofs.YtjmpdkmboheknaaGreatDoor
open Go Go.Proofs Sy
theorem winN_congr {f g : Nat → Nat} (h : ∀ t,t < 16 → f t = g t) : winN f 0 = winN g 0 := by
  have e : ∀ t,t < 16 → sN f 0 t = sN g 0 t := fun t ht => by rw [sN,sN];exact h t ht
  rw [winN,winN,W16.mk.injEq]
  exact ⟨e 0 (by omega),e 1 (by omega),e 2 (by omega),e 3 (by omega),e 4 (by omega),e 5 (by omega),e 6 (by omega),e 7 (by omega),e 8 (by omega),e 9 (by omega),e 10 (by omega),e 11 (by omega),e 12 (by omega),e 13 (by omega),e 14 (by omega),e 15 (by omega)⟩
theorem fW_append {l e : List Nat} (h : 64 ≤ l.length) (t : Nat) (ht : t < 16) : fW (l ++ e) t = fW l t := by
  have k : ∀ j,j < 64 → (l ++ e).getD j 0 = l.getD j 0 := fun j hj => by
    rw [List.getD_eq_getElem?_getD,List.getD_eq_getElem?_getD,List.getElem?_append_left (by omega)]
  rw [fW,fW,k _ (by omega),k _ (by omega),k _ (by omega),k _ (by omega)]
theorem runN_append (h : Nat) (e : List Nat) : ∀ (g : Nat) (x : S8) (l : List Nat),64 * g ≤ l.length → runN (g + h) x (l ++ e) = runN h (runN g x l) (l.drop (64 * g) ++ e)
  | 0,x,l,_ => by
    rw [Nat.zero_add,Nat.mul_zero,List.drop_zero,runN]
  | g + 1,x,l,hl => by
    have ih := runN_append h e g (mixN x (winN (fW l) 0)) (l.drop 64) (by rw [List.length_drop];omega)
    rw [show g + 1 + h = (g + h) + 1 by omega,runN_succ (by rw [List.length_append];omega),winN_congr (fun t ht => fW_append (by omega) t ht),List.drop_append_of_le_length (by omega),ih,runN_succ (by omega),List.drop_drop]
    congr 3
    omega
def sizeN (n : Nat) : List Nat := [n * 8 / 72057594037927936 % 256,n * 8 / 281474976710656 % 256,n * 8 / 1099511627776 % 256,n * 8 / 4294967296 % 256,n * 8 / 16777216 % 256,n * 8 / 65536 % 256,n * 8 / 256 % 256,n * 8 % 256]
def padL (l : List Nat) : List Nat := l ++ (128 :: (List.replicate (padN (l.length + 1)) 0 ++ sizeN l.length))
def iniN : S8 := ⟨1779033703,3144134277,1013904242,2773480762,1359893119,2600822924,528734635,1541459225⟩
def d4N (w : Nat) : List Nat := [w / 16777216 % 256,w / 65536 % 256,w / 256 % 256,w % 256]
def digN (s : S8) : List Nat := match s with
  | ⟨a,b,c,d,e,f,g,h⟩ => d4N a ++ (d4N b ++ (d4N c ++ (d4N d ++ (d4N e ++ (d4N f ++ (d4N g ++ d4N h))))))
def shaL (l : List Nat) : List Nat := digN (runN ((padL l).length / 64) iniN (padL l))
theorem wrap8 (n : Nat) : IntKind.u8.wrap (n : Int) = ((n % 256 : Nat) : Int) := by
  simp [IntKind.wrap,IntKind.signed,IntKind.bits]
theorem nl_ofInts (ns : List Nat) (h : ∀ x ∈ ns,x < 256) : nl (ofInts (ns.map fun (n : Nat) => (n : Int))) = ns := by
  have key : ∀ (ns : List Nat) (r : ByteArray),(∀ x ∈ ns,x < 256) → nl ((ns.map fun (n : Nat) => (n : Int)).foldl (fun r n => r.push (UInt8.ofNat n.toNat)) r) = nl r ++ ns := fun ns => by
    induction ns with
    | nil => intro r _;simp
    | cons a ns ih =>
      intro r h
      rw [List.map_cons,List.foldl_cons,ih _ fun x hx => h x (List.mem_cons_of_mem _ hx)]
      have ha := h a List.mem_cons_self
      have : nl (r.push (UInt8.ofNat ((a : Int)).toNat)) = nl r ++ [a] := by
        simp [nl,ByteArray.data_push,Nat.mod_eq_of_lt ha]
      rw [this,List.append_assoc]
      rfl
  have := key ns ByteArray.empty h
  simpa [ofInts,nl] using this
theorem digB_nl {x : Int} {n : Nat} (h : IsN x n) : digB x = (d4N n).map fun (n : Nat) => (n : Int) := by
  have h24 := (h.shr (c:=24) 16777216 (by kernel_rfl)).1
  have h16 := (h.shr (c:=16) 65536 (by kernel_rfl)).1
  have h8 := (h.shr (c:=8) 256 (by kernel_rfl)).1
  unfold digB d4N
  rw [h24,h16,h8,h.1,wrap8,wrap8,wrap8,wrap8]
  rfl
theorem d4_lt (n : Nat) : ∀ x ∈ d4N n,x < 256 := fun x hx => by
  simp only [d4N,List.mem_cons,List.not_mem_nil,or_false] at hx
  rcases hx with rfl | rfl | rfl | rfl <;> exact Nat.mod_lt _ (by decide)
theorem dig_nl {x : St8} {n : S8} (h : RS x n) : nl (ofInts (x.l.flatMap digB)) = digN n := by
  obtain ⟨a,b,c,d,e,f,g,hh⟩ := n
  have e1 : x.l.flatMap digB = (digN ⟨a,b,c,d,e,f,g,hh⟩).map fun (n : Nat) => (n : Int) := by
    simp only [St8.l,digN,List.flatMap_cons,List.flatMap_nil,List.append_nil,List.map_append,digB_nl h.a,digB_nl h.b,digB_nl h.c,digB_nl h.d,digB_nl h.e,digB_nl h.f,digB_nl h.g,digB_nl h.h]
  rw [e1]
  refine nl_ofInts _ fun x hx => ?_
  simp only [digN,List.mem_append] at hx
  rcases hx with h | h | h | h | h | h | h | h <;> exact d4_lt _ _ h
theorem sizeB_nl (n : Nat) (hn : n < 2305843009213693952) : sizeB (n : Int) 8 = (sizeN n).map fun (n : Nat) => (n : Int) := by
  have hw : ∀ m : Nat,m < 18446744073709551616 → IntKind.u64.wrap (m : Int) = (m : Int) := fun m hm => by
    simp [IntKind.wrap,IntKind.signed,IntKind.bits]
    omega
  have h1 : IntKind.u64.wrap (IntKind.u64.wrap (n : Int) * 8) = ((n * 8 : Nat) : Int) := by
    rw [hw n (by omega),show (n : Int) * 8 = ((n * 8 : Nat) : Int) by omega,hw _ (by omega)]
  have hs : ∀ (c : Int) (p : Nat),(2 : Int) ^ (min c.toNat 64) = (p : Int) → shrV .u64 ((n * 8 : Nat) : Int) c = ((n * 8 / p : Nat) : Int) := fun c p hp => by
    show ((n * 8 : Nat) : Int).fdiv (2 ^ (min c.toNat 64)) = _
    rw [hp, ← Int.ofNat_fdiv]
  unfold sizeB sizeN
  rw [h1,show List.range 8 = [0,1,2,3,4,5,6,7] by rfl]
  simp only [List.map_cons,List.map_nil]
  rw [hs _ 72057594037927936 (by kernel_rfl),hs _ 281474976710656 (by kernel_rfl),hs _ 1099511627776 (by kernel_rfl),hs _ 4294967296 (by kernel_rfl),hs _ 16777216 (by kernel_rfl),hs _ 65536 (by kernel_rfl),hs _ 256 (by kernel_rfl),hs _ 1 (by kernel_rfl),Nat.div_one]
  simp only [wrap8]
theorem end_nl (s : ByteArray) (n : Nat) (hn : n < 2305843009213693952) : nl (endV s (n : Int)) = nl s ++ (128 :: (List.replicate (padN (s.size + 1)) 0 ++ sizeN n)) := by
  have e : endL s ++ List.replicate (padN (s.size + 1)) 0 ++ sizeB (n : Int) 8 = (nl s ++ (128 :: (List.replicate (padN (s.size + 1)) 0 ++ sizeN n))).map fun (n : Nat) => (n : Int) := by
    rw [endL,bytesI_nl,sizeB_nl n hn]
    simp
  rw [endV,e]
  refine nl_ofInts _ fun x hx => ?_
  simp only [List.mem_append,List.mem_cons,List.mem_replicate] at hx
  rcases hx with h | h | h | h
  · exact nl_lt s x h
  · omega
  · omega
  · simp only [sizeN,List.mem_cons,List.not_mem_nil,or_false] at h
    rcases h with rfl | rfl | rfl | rfl | rfl | rfl | rfl | rfl <;> exact Nat.mod_lt _ (by decide)
theorem sha_nl (s : ByteArray) (hs : s.size < 2305843009213693952) : nl (shaV s) = shaL (nl s) := by
  have hi : RS iniS iniN := ⟨⟨rfl,by decide⟩,⟨rfl,by decide⟩,⟨rfl,by decide⟩,⟨rfl,by decide⟩,⟨rfl,by decide⟩,⟨rfl,by decide⟩,⟨rfl,by decide⟩,⟨rfl,by decide⟩⟩
  obtain ⟨h1,h2⟩ := loopV_run s.size iniS iniN s hi (Nat.div_le_self _ _)
  have h3 : shaV s = ofInts ((loopE (endV (loopV s.size iniS s).2 s.size).size (loopV s.size iniS s).1 (endV (loopV s.size iniS s).2 s.size)).l.flatMap digB) := rfl
  rw [h3]
  generalize loopV s.size iniS s = p at h1 h2
  have he := end_nl p.2 s.size hs
  have hps : p.2.size = s.size % 64 := by
    rw [← nl_len,h2,List.length_drop,nl_len]
    omega
  have hlen : (endV p.2 s.size).size % 64 = 0 := endV_size _ _
  have h4 := loopE_run (endV p.2 s.size).size p.1 _ (endV p.2 s.size) h1 hlen (Nat.div_le_self _ _)
  rw [dig_nl h4,shaL]
  congr 1
  have hpad : padN (p.2.size + 1) = padN ((nl s).length + 1) := by
    rw [hps,nl_len,padN,padN]
    omega
  have hpl : padL (nl s) = nl s ++ (128 :: (List.replicate (padN ((nl s).length + 1)) 0 ++ sizeN s.size)) := by rw [padL,nl_len]
  have hll : (padL (nl s)).length / 64 = s.size / 64 + (endV p.2 s.size).size / 64 := by
    have e1 : (endV p.2 s.size).size = (s.size % 64) + 1 + padN ((nl s).length + 1) + 8 := by
      rw [← nl_len,he,h2,hpad]
      simp only [List.length_append,List.length_cons,List.length_replicate,List.length_drop,nl_len,sizeN,List.length_nil]
      omega
    have e2 : (padL (nl s)).length = s.size + 1 + padN ((nl s).length + 1) + 8 := by
      rw [hpl]
      simp only [List.length_append,List.length_cons,List.length_replicate,nl_len,sizeN,List.length_nil]
      omega
    rw [e1,e2]
    rw [e1] at hlen
    omega
  rw [hll,hpl,runN_append _ _ _ _ _ (by rw [nl_len];omega),he,h2,hpad]
end Go.Proofs.YtjmpdkmboheknaaGreatDoor

namespace Go.Proofs.YtjmpdkmboheknaaGreatDoor.Sy
open Go Go.RowKit
theorem Gam.later {av bor : List Nat} {w0 w w' : World} {loc : List Res} {X : World → Prop} (G : Gam av bor w0 loc X w) (hB : Below w.heap.size w w') : Gam av bor w0 loc X w' :=
  (Gam.more (r:=⟨[],fun _ => True⟩) G hB (fun _ _ => trivial) List.nodup_nil (fun i hi => by cases hi)).drop (List.sublist_cons_self _ _)
section
variable {P : Program} {N : Nat} {av bor : List Nat} {w0 : World} {ops : Array Oper} {rest : List Oper} {k : St → Prop} {E : Env} {loc : List Res} {X : World → Prop}
variable {ty : TypeId} {pos : String} {af : Array Edge} {g : Option (Nat × Bool)} {bb want : Bool}
theorem sw_puL {n : Nat} {x : Operand} {xs : List Operand} {ats : Array TypeId} {f : FuncId} {args : List Value} {X1 : World → Prop} {v : Value}
    (hx : ev E x = some (.func (.func f) #[] #[]) := by rfl) (ha : evs E xs = some args := by rfl) (hg : gdB ops E g = some (bb,want) := by rfl) (hb : bb = want := by (first | with_reducible rfl | with_reducible assumption | with_reducible exact Bool.not_false | with_reducible exact Bool.not_true)) (hd : Nat.blt n N = true := by rfl) (hf : FnBody P f := by infer_instance)
    (hc : Pu P f args.toArray X1 v) (hX : ∀ w,X w → (∀ r ∈ loc,r.F w) → X1 w)
    (h : Sw P N av bor w0 ops rest ⟨(n,v) :: E,loc,X⟩ k) :
    Sw P N av bor w0 ops (⟨some n,.call ⟨.value x,xs.toArray,ats⟩,ty,pos,af,g⟩ :: rest) ⟨E,loc,X⟩ k := Sw.mk fun a w ok => by
  have hd' : inB N (some n) = true := by have h1 : n < N := Nat.le_of_ble_eq_true hd;simpa [inB] using h1
  simp only [wpList]
  rw [wanted_of ok (o:=⟨some n,.call ⟨.value x,xs.toArray,ats⟩,ty,pos,af,g⟩) hg]
  subst hb
  simp only [beq_self_eq_true,if_true]
  left
  unfold Oper.wp
  have hr : (execOp a.eval ⟨some n,.call ⟨.value x,xs.toArray,ats⟩,ty,pos,af,g⟩).run P w = .ok (.enter f args.toArray) w := by
    have e := evs_eval ok xs args ha
    have e1 : xs.toArray.map a.eval = args.toArray := by rw [List.map_toArray,e]
    simp only [execOp,resolve,ok.eval (st:=⟨E,loc,X⟩) hx,Deferred.ofValue,invoke,e1]
    simp only [Sem.run_bind,Sem.run_pure,Result.andThen_ok]
    have e2 : (#[] : Array Value) ++ args.toArray ++ #[] = args.toArray := by simp
    rw [e2]
    exact run_enter _ w
  rw [hr]
  have G1 := ok.gam.giveAll
  have G0 := (Gam.start (pre:=[]) (fr:=[]) G1).imp (fun w h => hX w h.1 h.2)
  unfold Pu at hc
  refine (Ct.run hc w _ G0).mono fun e w' ⟨u,R,X',he,⟨hu,hR⟩,G'⟩ => ?_
  subst he
  subst hu
  have ok' : Ok N av bor w0 ⟨E,loc,X⟩ a w' := ok.via fun M G => Gam.later G G'.fr.below
  exact h.run _ _ (put_eq (some n) _ ▸ ok'.put hd' _)
end
end Go.Proofs.YtjmpdkmboheknaaGreatDoor.Sy
