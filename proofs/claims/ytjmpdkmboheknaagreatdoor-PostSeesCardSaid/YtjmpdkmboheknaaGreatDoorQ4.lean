/- Joined by program out of: Fi Or Cl Dg Ch Kp Os Re Rf Cj Mo Ps Ax Kd. -/
import Derived.Test.YtjmpdkmboheknaaGreatDoorQ3
import Derived.Laws.Cover3
import Derived.Lib.LazyBuf
import Derived.Shelf.Slices.CompactS
import Derived.Lib.RowBridge
import Derived.Sort.Walk0
set_option linter.unusedVariables false
set_option linter.unusedSimpArgs false
namespace Go.Proofs.YtjmpdkmboheknaaGreatDoor
open Go Go.Proofs Sy
structure ActD.Rng (a : ActD) : Prop where
  ints : a.seq < 9223372036854775808 ∧ a.kind < 9223372036854775808 ∧ a.time < 9223372036854775808 ∧ a.scope < 9223372036854775808 ∧ a.epoch < 9223372036854775808 ∧ a.n < 9223372036854775808 ∧ a.m < 9223372036854775808 ∧ a.e < 9223372036854775808 ∧ a.s < 9223372036854775808
  wints : ∀ w ∈ a.wrapsL,w.to < 9223372036854775808 ∧ w.eph < 9223372036854775808
  to_len : a.to.n = a.toL.length
  wraps_len : a.wraps.n = a.wrapsL.length
def useU (z0 z1 z2 z3 z4 z5 z6 z7 z8 z9 z10 : Bool) : Int :=
  noteV (noteV (noteV (noteV (noteV (noteV (noteV (noteV (noteV (noteV (noteV 0 1 z0) 2 z1) 4 z2) 8 z3) 16 z4) 32 z5) 64 z6) 128 z7) 256 z8) 512 z9) 1024 z10
def useOk (fs : Nat) (z0 z1 z2 z3 z4 z5 z6 z7 z8 z9 z10 : Bool) : Bool :=
  !decide (bitsV .andNot .i64 (useU z0 z1 z2 z3 z4 z5 z6 z7 z8 z9 z10) fs = 0) || ((fs.testBit 0 || z0) && (fs.testBit 1 || z1) && (fs.testBit 3 || z3) && (fs.testBit 4 || z4) && (fs.testBit 5 || z5) && (fs.testBit 6 || z6) && (fs.testBit 8 || z8))
def bools (p : Bool → Bool) : Bool := p true && p false
theorem bools_all {p : Bool → Bool} (h : bools p = true) (b : Bool) : p b = true := by
  simp only [bools,Bool.and_eq_true] at h
  cases b
  · exact h.2
  · exact h.1
def useAll (fs : Nat) : Bool := bools fun z0 => bools fun z1 => bools fun z2 => bools fun z3 => bools fun z4 => bools fun z5 => bools fun z6 => bools fun z7 => bools fun z8 => bools fun z9 => bools fun z10 => useOk fs z0 z1 z2 z3 z4 z5 z6 z7 z8 z9 z10
theorem useAll_all : ([1568,252,253,1,2,33,24,412,35,1536,1808,513,546].all useAll) = true := by decide +kernel
theorem use_zero {fs : Nat} (hfs : useAll fs = true) {z0 z1 z2 z3 z4 z5 z6 z7 z8 z9 z10 : Bool} (h : bitsV .andNot .i64 (useU z0 z1 z2 z3 z4 z5 z6 z7 z8 z9 z10) fs = 0) :
    (fs.testBit 0 || z0) = true ∧ (fs.testBit 1 || z1) = true ∧ (fs.testBit 3 || z3) = true ∧ (fs.testBit 4 || z4) = true ∧ (fs.testBit 5 || z5) = true ∧ (fs.testBit 6 || z6) = true ∧ (fs.testBit 8 || z8) = true := by
  have h1 := bools_all (bools_all (bools_all (bools_all (bools_all (bools_all (bools_all (bools_all (bools_all (bools_all (bools_all hfs z0) z1) z2) z3) z4) z5) z6) z7) z8) z9) z10
  simp only [useOk,h,decide_true,Bool.not_true,Bool.false_or,Bool.and_eq_true] at h1
  obtain ⟨⟨⟨⟨⟨⟨h2,h3⟩,h4⟩,h5⟩,h6⟩,h7⟩,h8⟩ := h1
  exact ⟨h2,h3,h4,h5,h6,h7,h8⟩

theorem isId_size {s : ByteArray} (h : isId s = true) : s.size = 16 := by
  simp only [isId,Bool.and_eq_true,decide_eq_true_eq] at h
  omega
theorem isName_size {s : ByteArray} (h : isName s = true) : s.size ≤ 24 := by
  simp only [isName,Bool.and_eq_true,Bool.not_eq_true',decide_eq_false_iff_not] at h
  omega
theorem isDigest_size {s : ByteArray} (h : isDigestB s = true) : s.size = 32 := by
  simp only [isDigestB,decide_eq_true_eq] at h
  omega
theorem isShort_size {s : ByteArray} (h : isShortB s = true) : s.size ≤ 500 := by
  simp only [isShortB,decide_eq_true_eq] at h
  omega
theorem empty_size {s : ByteArray} (h : seqB s ⟨#[]⟩ = true) : s.size = 0 := by
  rw [seqB_empty] at h
  exact of_decide_eq_true h
structure Short (b : BoxD) : Prop where
  nonce : b.nonce.size ≤ 500
  data : b.data.size ≤ 500
  tag : b.tag.size ≤ 500
theorem Short.fit {b : BoxD} (h : Short b) : b.Fit := ⟨by have := h.nonce;omega,by have := h.data;omega,by have := h.tag;omega⟩
theorem Short.size {b : BoxD} (h : Short b) : (boxV b).size ≤ 1530 := by
  have h1 := textV_size b.nonce
  have h2 := textV_size b.data
  have h3 := textV_size b.tag
  have := h.nonce
  have := h.data
  have := h.tag
  simp only [boxV,ByteArray.size_append]
  omega
theorem isSealed_short {b : BoxD} (h : isSealedB b = true) : Short b := by
  simp only [isSealedB,Bool.and_eq_true,decide_eq_true_eq] at h
  have := isShort_size h.2
  exact ⟨by omega,this,by omega⟩
theorem boxZero_short {b : BoxD} (h : boxEq b BoxD.zero = true) : Short b := by
  simp only [boxEq,Bool.and_eq_true,BoxD.zero] at h
  obtain ⟨⟨h1,h2⟩,h3⟩ := h
  have := empty_size h1
  have := empty_size h2
  have := empty_size h3
  exact ⟨by omega,by omega,by omega⟩
structure ToOk (l : List ByteArray) : Prop where
  len : l.length ≤ 64
  each : ∀ x ∈ l,x.size ≤ 16
theorem allB_at {n : Nat} {bad : Nat → Bool} (h : allB n bad = true) {k : Nat} (hk : k < n) : bad k = false := by
  simp only [allB,List.all_eq_true,List.mem_range] at h
  simpa using h k hk
theorem isIds_ok {l : List ByteArray} (h : isIds l = true) : ToOk l := by
  simp only [isIds,Bool.and_eq_true,Bool.not_eq_true',decide_eq_false_iff_not] at h
  refine ⟨by omega,fun x hx => ?_⟩
  obtain ⟨k,hk,rfl⟩ := List.getElem_of_mem hx
  have h1 := allB_at h.2 hk
  simp only [badIds,Bool.or_eq_false_iff,Bool.not_eq_false'] at h1
  have h2 : l.getD k .empty = l[k] := by simp [hk]
  rw [h2] at h1
  have := isId_size h1.1
  omega
theorem cats_le {B : Nat} : ∀ (l : List ByteArray),(∀ x ∈ l,x.size ≤ B) → (cats l).size ≤ l.length * B
  | [],_ => by simp [cats]
  | x :: l,h => by
    have h1 := cats_le l fun y hy => h y (List.mem_cons_of_mem _ hy)
    have h2 := h x List.mem_cons_self
    simp only [cats,ByteArray.size_append,List.length_cons,Nat.add_mul,Nat.one_mul]
    omega
theorem ToOk.size {l : List ByteArray} (h : ToOk l) : (listV l).size ≤ 1073741824 := by
  have h1 := numV_size l.length
  have h2 := cats_le (B:=26) (l.map textV) (fun x hx => by
    obtain ⟨y,hy,rfl⟩ := List.mem_map.1 hx
    have := h.each y hy
    have := textV_size y
    omega)
  have h3 := h.len
  simp only [List.length_map] at h2
  simp only [listV,ByteArray.size_append]
  omega
theorem ToOk.nil {l : List ByteArray} (h : l.length = 0) : ToOk l := by
  have : l = [] := List.eq_nil_of_length_eq_zero h
  subst this
  exact ⟨by simp,by simp⟩
structure WrapsOk (l : List WrapD) : Prop where
  len : l.length ≤ 64
  each : ∀ x ∈ l,Short x.box
theorem WrapsOk.size {l : List WrapD} (h : WrapsOk l) : (cats (l.map wrapV)).size ≤ 1073741824 := by
  have h2 := cats_le (B:=1550) (l.map wrapV) (fun x hx => by
    obtain ⟨y,hy,rfl⟩ := List.mem_map.1 hx
    have := (h.each y hy).size
    have := numV_size y.to
    have := numV_size y.eph
    simp only [wrapV,ByteArray.size_append]
    omega)
  have h3 := h.len
  simp only [List.length_map] at h2
  omega
theorem WrapsOk.nil {l : List WrapD} (h : l.length = 0) : WrapsOk l := by
  have : l = [] := List.eq_nil_of_length_eq_zero h
  subst this
  exact ⟨by simp,by simp⟩
theorem wrapped_ok {a : ActD} (hr : a.Rng) (ht : ToOk a.toL) (h : wrappedB a = true) : WrapsOk a.wrapsL := by
  simp only [wrappedB,Bool.and_eq_true,decide_eq_true_eq] at h
  have h1 := hr.to_len
  have h2 := hr.wraps_len
  have h3 := ht.len
  refine ⟨by omega,fun x hx => ?_⟩
  obtain ⟨k,hk,rfl⟩ := List.getElem_of_mem hx
  have h4 := allB_at h.1 hk
  rw [badW_at (List.getElem?_eq_getElem hk)] at h4
  simp only [Bool.or_eq_false_iff,Bool.not_eq_false'] at h4
  exact isSealed_short h4.2.2
structure Bnd (a : ActD) : Prop where
  object : a.object.size ≤ 500
  target : a.target.size ≤ 500
  group : a.group.size ≤ 500
  text : a.text.size ≤ 500
  body : Short a.body
  to : ToOk a.toL
  wraps : WrapsOk a.wrapsL
theorem mget_mem {κ β : Type} [KeyT κ] {k : κ} {x : β} : ∀ {l : List (κ × β)},mget l k = some x → ∃ k',(k',x) ∈ l
  | [],h => by cases h
  | (k',v) :: r,h => by
    simp only [mget] at h
    cases hb : KeyT.eqb k k' with
    | true => rw [hb] at h;simp at h;subst h;exact ⟨k',List.mem_cons_self⟩
    | false => rw [hb] at h;obtain ⟨k2,h2⟩ := mget_mem (l:=r) (by simpa using h);exact ⟨k2,List.mem_cons_of_mem _ h2⟩
theorem scope_size {sc : Int} {g : ByteArray} (h : sealedScopeB sc g = true) : g.size ≤ 500 := by
  unfold sealedScopeB at h
  cases h1 : decide (sc = 2) <;> cases h2 : decide (sc = 1) <;> cases h3 : decide (sc = 3) <;> simp only [h1,h2,h3,cond_true,cond_false] at h
  all_goals first
    | (have:=isName_size h;omega)
    | (have:=empty_size h;omega)
    | cases h
theorem audience_ok {a : ActD} (h : audienceB a = true) : a.group.size ≤ 500 ∧ a.text.size ≤ 500 ∧ Short a.body ∧ ToOk a.toL := by
  unfold audienceB at h
  cases h0 : isIds a.toL with
  | false => simp [h0] at h
  | true =>
    have ht := isIds_ok h0
    cases h1 : decide (a.scope = 0) with
    | true =>
      simp only [h0,h1,Bool.not_true,cond_true,cond_false,Bool.and_eq_true] at h
      obtain ⟨⟨⟨h2,h3⟩,h4⟩,h5⟩ := h
      have := empty_size h2
      have := isShort_size h4
      exact ⟨by omega,by omega,boxZero_short h5,ht⟩
    | false =>
      cases h6 : (decide (0 < (a.to.n : Int)) && !decide (a.scope = 3)) with
      | true => simp only [h0,h1,h6,Bool.not_true,cond_true,cond_false] at h;cases h
      | false =>
        simp only [h0,h1,h6,Bool.not_true,cond_true,cond_false,Bool.and_eq_true] at h
        obtain ⟨⟨⟨h2,h3⟩,h4⟩,h5⟩ := h
        have := empty_size h4
        exact ⟨scope_size h2,by omega,isSealed_short h5,ht⟩
theorem z_empty {s : ByteArray} (h : seqB s ⟨#[]⟩ = true) : s.size ≤ 500 := by have := empty_size h;omega
theorem z_to {a : ActD} (hr : a.Rng) (h : decide ((a.to.n : Int) = 0) = true) : ToOk a.toL := ToOk.nil (by have := of_decide_eq_true h;have := hr.to_len;omega)
theorem z_wraps {a : ActD} (hr : a.Rng) (h : decide ((a.wraps.n : Int) = 0) = true) : WrapsOk a.wrapsL := WrapsOk.nil (by have := of_decide_eq_true h;have := hr.wraps_len;omega)
theorem d_500 {s : ByteArray} (h : isDigestB s = true) : s.size ≤ 500 := by have := isDigest_size h;omega
theorem i_500 {s : ByteArray} (h : isId s = true) : s.size ≤ 500 := by have := isId_size h;omega
theorem n_500 {s : ByteArray} (h : isName s = true) : s.size ≤ 500 := by have := isName_size h;omega
theorem usedV_eq (a : ActD) : usedV a = useU (seqB a.object ⟨#[]⟩) (seqB a.target ⟨#[]⟩) (decide (a.scope = 0)) (seqB a.group ⟨#[]⟩) (decide ((a.to.n : Int) = 0)) (seqB a.text ⟨#[]⟩) (boxEq a.body BoxD.zero) (decide (a.epoch = 0)) (decide ((a.wraps.n : Int) = 0)) (decide (a.n = 0)) (decide (a.m = 0)) := rfl
theorem bnd_of_rule {a : ActD} (hr : a.Rng) (h : ruleB a = true) : Bnd a := by
  unfold ruleB at h
  cases hk : mget (ruleL a) a.kind with
  | none => rw [hk] at h;cases h
  | some x =>
    obtain ⟨fs,b⟩ := x
    rw [hk] at h
    simp only [Bool.and_eq_true,decide_eq_true_eq] at h
    obtain ⟨hu,hb⟩ := h
    rw [usedV_eq] at hu
    obtain ⟨k',hm⟩ := mget_mem hk
    obtain ⟨n,hn,hmem⟩ : ∃ n : Nat,fs = n ∧ n ∈ [1568,252,253,1,2,33,24,412,35,1536,1808,513,546] := by
      simp only [ruleL,List.mem_cons,Prod.mk.injEq,List.not_mem_nil,or_false] at hm
      clear hu hb hk
      rcases hm with ⟨-,h9, -⟩ | ⟨-,h9, -⟩ | ⟨-,h9, -⟩ | ⟨-,h9, -⟩ | ⟨-,h9, -⟩ | ⟨-,h9, -⟩ | ⟨-,h9, -⟩ | ⟨-,h9, -⟩ | ⟨-,h9, -⟩ | ⟨-,h9, -⟩ | ⟨-,h9, -⟩ | ⟨-,h9, -⟩ | ⟨-,h9, -⟩ | ⟨-,h9, -⟩ | ⟨-,h9, -⟩ | ⟨-,h9, -⟩ | ⟨-,h9, -⟩ | ⟨-,h9, -⟩ | ⟨-,h9, -⟩ | ⟨-,h9, -⟩ | ⟨-,h9, -⟩ | ⟨-,h9, -⟩ | ⟨-,h9, -⟩ | ⟨-,h9, -⟩ <;> exact ⟨fs.toNat,by omega,by rw [h9];decide⟩
    rw [hn] at hu
    obtain ⟨u0,u1,u3,u4,u5,u6,u8⟩ := use_zero (List.all_eq_true.1 useAll_all n hmem) hu
    clear hu hmem hk
    simp only [ruleL,List.mem_cons,Prod.mk.injEq,List.not_mem_nil,or_false] at hm
    rcases hm with ⟨-,rfl,rfl⟩ | ⟨-,rfl,rfl⟩ | ⟨-,rfl,rfl⟩ | ⟨-,rfl,rfl⟩ | ⟨-,rfl,rfl⟩ | ⟨-,rfl,rfl⟩ | ⟨-,rfl,rfl⟩ | ⟨-,rfl,rfl⟩ | ⟨-,rfl,rfl⟩ | ⟨-,rfl,rfl⟩ | ⟨-,rfl,rfl⟩ | ⟨-,rfl,rfl⟩ | ⟨-,rfl,rfl⟩ | ⟨-,rfl,rfl⟩ | ⟨-,rfl,rfl⟩ | ⟨-,rfl,rfl⟩ | ⟨-,rfl,rfl⟩ | ⟨-,rfl,rfl⟩ | ⟨-,rfl,rfl⟩ | ⟨-,rfl,rfl⟩ | ⟨-,rfl,rfl⟩ | ⟨-,rfl,rfl⟩ | ⟨-,rfl,rfl⟩ | ⟨-,rfl,rfl⟩
    all_goals
      have hn' := congrArg Int.toNat hn
      rw [Int.toNat_natCast] at hn'
      subst hn'
      try simp only [rule1B,rule2B,rule3B,rule4B,rule5B,rule6B,objectB,targetB,grantB,setupB,Bool.and_eq_true] at hb
    all_goals first
      | (have hA := audience_ok hb;exact ⟨z_empty u0,z_empty u1,hA.1,hA.2.1,hA.2.2.1,hA.2.2.2,z_wraps hr u8⟩)
      | (have hA := audience_ok hb.2;exact ⟨d_500 hb.1,z_empty u1,hA.1,hA.2.1,hA.2.2.1,hA.2.2.2,z_wraps hr u8⟩)
      | (have hT := isIds_ok hb.1.2;exact ⟨z_empty u0,z_empty u1,scope_size hb.1.1.1,z_empty u5,boxZero_short u6,hT,wrapped_ok hr hT hb.2⟩)
      | (have hT := isIds_ok hb.1.1.1.2;exact ⟨z_empty u0,z_empty u1,z_empty u3,z_empty u5,boxZero_short u6,hT,wrapped_ok hr hT hb.1.1.2⟩)
      | exact ⟨by first | exact z_empty u0 | exact d_500 hb.1 | exact d_500 hb,by first | exact z_empty u1 | exact i_500 hb | exact i_500 hb.1.1,by first | exact z_empty u3 | exact n_500 hb.1,by first | exact z_empty u5 | exact isShort_size hb.2 | exact n_500 hb.1 | exact isShort_size hb.1.2,boxZero_short u6,by first | exact z_to hr u4 | exact isIds_ok hb.2,z_wraps hr u8⟩
      | skip
    -- a label: of an object or of a target
    unfold labelB at hb
    cases hN : isName a.text with
    | false => simp [hN] at hb
    | true =>
      simp only [hN,Bool.not_true,cond_false,Bool.or_eq_true,Bool.and_eq_true,objectB,targetB] at hb
      refine ⟨?_, ?_,z_empty u3,n_500 hN,boxZero_short u6,z_to hr u4,z_wraps hr u8⟩
      · rcases hb with hb | hb
        · exact d_500 hb.1
        · exact z_empty hb.2
      · rcases hb with hb | hb
        · exact z_empty hb.2
        · exact i_500 hb.1
theorem fit_of_right {a : ActD} (hr : a.Rng) (h : rightB a = true) : a.Fit := by
  simp only [rightB,Bool.and_eq_true] at h
  obtain ⟨⟨⟨⟨⟨h1,h2⟩,h3⟩,h4⟩,h5⟩,h6⟩ := h
  have hB := bnd_of_rule hr h6
  have hp : a.prev.size ≤ 500 := by
    unfold placedB at h2
    cases hs : decide (a.seq = 0) with
    | true => simp only [hs,cond_true,Bool.and_eq_true] at h2;exact z_empty h2.2
    | false => simp only [hs,cond_false,Bool.and_eq_true] at h2;exact d_500 h2.2
  have := isId_size h1
  have := hB.object
  have := hB.target
  have := hB.group
  have := hB.text
  exact ⟨by omega,by omega,by omega,by omega,by omega,by omega,hB.body.fit,hB.to.size,fun w hw => (hB.wraps.each w hw).fit,hB.wraps.size,hr.ints,hr.wints⟩
end Go.Proofs.YtjmpdkmboheknaaGreatDoor

namespace Go.Proofs.YtjmpdkmboheknaaGreatDoor.Sy
open Go Go.RowKit

section
variable {P : Program} {N : Nat} {av bor : List Nat} {w0 : World} {ops : Array Oper} {rest : List Oper} {k : St → Prop} {E : Env} {loc loc' : List Res} {X : World → Prop}
variable {d : Option Tmp} {ty : TypeId} {pos : String} {af : Array Edge} {g : Option (Nat × Bool)} {bb want : Bool} {K : Exit → St → Prop}
theorem y_slNil {st : St} {x y : Operand} {t t2 e n b' : Nat} {p : Option Addr} {m c : Nat} [hI : TySl P t e n b'] (hx : ev st.env x = some (.slice p m c)) (hy : ev st.env y = some (.slice none 0 0)) : Sy.Yields P N av bor w0 st (.binOp .eql t x y t2) ty (.bool p.isNone) := Sy.Yields.mk fun A w ok d pos af g => by
  have := Lib.run_eql_slice_nil (P:=P) w t e p m c 0 0 (slOf_spec hI.out).1
  simp [execOp,ok.eval hx,ok.eval hy,eqGuard,this]
theorem sy_slNil {nn : Nat} {x y : Operand} {t t2 e n b' : Nat} {p : Option Addr} {m c : Nat} [hI : TySl P t e n b'] (hx : ev E x = some (.slice p m c) := by rfl) (hy : ev E y = some (.slice none 0 0) := by rfl) (hg : gdB ops E g = some (bb,want) := by rfl) (hbb : bb = want := by (first | with_reducible rfl | with_reducible assumption | with_reducible exact Bool.not_false | with_reducible exact Bool.not_true)) (hd : Nat.blt nn N = true := by rfl)
    (h : Sw P N av bor w0 ops rest ⟨(nn,.bool p.isNone) :: E,loc,X⟩ k) : Sw P N av bor w0 ops (⟨some nn,.binOp .eql t x y t2,ty,pos,af,g⟩ :: rest) ⟨E,loc,X⟩ k := sw_yield (y_slNil hx hy) hg hbb hd h
theorem sy_eqlT {n : Nat} {x y : Operand} {t t2 : TypeId} {kk : IntKind} {a b : Int} (hx : ev E x = some (.int kk a) := by rfl) (hy : ev E y = some (.int kk b) := by rfl) (hab : a = b := by decide) (hg : gdB ops E g = some (bb,want) := by rfl) (hbb : bb = want := by (first | with_reducible rfl | with_reducible assumption | with_reducible exact Bool.not_false | with_reducible exact Bool.not_true)) (hd : Nat.blt n N = true := by rfl) (h : Sw P N av bor w0 ops rest ⟨(n,.bool true) :: E,loc,X⟩ k) :
    Sw P N av bor w0 ops (⟨some n,.binOp .eql t x y t2,ty,pos,af,g⟩ :: rest) ⟨E,loc,X⟩ k := sw_yield (by have := y_eql (P:=P) (N:=N) (av:=av) (bor:=bor) (w0:=w0) (st:=⟨E,loc,X⟩) (ty:=ty) (t:=t) (t2:=t2) hx hy;rwa [decide_eq_true hab] at this) hg hbb hd h
theorem sy_eqlF {n : Nat} {x y : Operand} {t t2 : TypeId} {kk : IntKind} {a b : Int} (hx : ev E x = some (.int kk a) := by rfl) (hy : ev E y = some (.int kk b) := by rfl) (hab : ¬ a = b := by decide) (hg : gdB ops E g = some (bb,want) := by rfl) (hbb : bb = want := by (first | with_reducible rfl | with_reducible assumption | with_reducible exact Bool.not_false | with_reducible exact Bool.not_true)) (hd : Nat.blt n N = true := by rfl) (h : Sw P N av bor w0 ops rest ⟨(n,.bool false) :: E,loc,X⟩ k) :
    Sw P N av bor w0 ops (⟨some n,.binOp .eql t x y t2,ty,pos,af,g⟩ :: rest) ⟨E,loc,X⟩ k := sw_yield (by have := y_eql (P:=P) (N:=N) (av:=av) (bor:=bor) (w0:=w0) (st:=⟨E,loc,X⟩) (ty:=ty) (t:=t) (t2:=t2) hx hy;rwa [decide_eq_false hab] at this) hg hbb hd h
theorem sw_stSub {m : Nat} {t : TypeId} {x y : Operand} {b off T : Nat} {cs vs : List Value} (cs' : List Value) {arr : Array Value} [ht : TyAgg P t m] (hx : ev E x = some (.pointer (some ⟨b,off,none⟩)) := by rfl) (hy : ev E y = some (.agg arr) := by rfl) (hv : arr.toList = vs := by (first | exact List.toList_toArray | rfl))
    (hA : At (cel b T cs) (cel b T cs') loc loc' := by (repeat (first | exact At.here _ | apply At.there))) (hm : vs.length = m := by rfl) (hl : Nat.ble (off + m) cs.length = true := by rfl) (h1 : vs.all (·.oneCell') = true := by rfl) (hc2 : cs.take off ++ vs ++ cs.drop (off + m) = cs' := by rfl) (hg : gdB ops E g = some (bb,want) := by rfl) (hb : bb = want := by (first | with_reducible rfl | with_reducible assumption | with_reducible exact Bool.not_false | with_reducible exact Bool.not_true)) (hd : inB N d = true := by rfl)
    (h : Sw P N av bor w0 ops rest ⟨putE E d undef,loc',X⟩ k) : Sw P N av bor w0 ops (⟨d,.store t x y,ty,pos,af,g⟩ :: rest) ⟨E,loc,X⟩ k := by
  obtain ⟨_,_,_,h3⟩ := aggSize_spec (TyAgg.out (P:=P) (t:=t))
  exact sw_store (vs:=vs) (cs:=cs) (cs':=cs') (by rw [h3,hm]) hx hy (by simpa [Value.cells] using hv) h1 (by have := Nat.le_of_ble_eq_true hl;omega) (by rw [hm];exact hc2) hA hg hb hd h
theorem sw_bsl0 {n : Nat} {t e size b' : Nat} [hs : TySl P t e size b'] (hg : gdB ops E g = some (bb,want) := by rfl) (hb : bb = want := by (first | with_reducible rfl | with_reducible assumption | with_reducible exact Bool.not_false | with_reducible exact Bool.not_true)) (hd : Nat.blt n N = true := by rfl)
    (h : ∀ b,Sw P N av bor w0 ops rest ⟨(n,.slice (some ⟨b,0,none⟩) 0 0) :: E,orow e size (.slice (some ⟨b,0,none⟩) 0 0) 0 [] :: loc,X⟩ k) : Sw P N av bor w0 ops (⟨some n,.buildSlice t 0 #[],ty,pos,af,g⟩ :: rest) ⟨E,loc,X⟩ k := Sw.mk fun a w ok => by
  have hd' : inB N (some n) = true := by have h1 : n < N := Nat.le_of_ble_eq_true hd;simpa [inB] using h1
  obtain ⟨ht,inf,hi,hi1,hi2⟩ := slOf_spec hs.out
  have hsz : (sizeOf e).run P w = .ok size w := by simp [sizeOf,typeInfo,hi,hi1]
  simp only [wpList]
  rw [wanted_of ok (o:=⟨some n,.buildSlice t 0 #[],ty,pos,af,g⟩) hg]
  subst hb
  simp only [beq_self_eq_true,if_true]
  left
  unfold Oper.wp
  have hr : (execOp a.eval ⟨some n,.buildSlice t 0 #[],ty,pos,af,g⟩).run P w = .ok (.value (.slice (some ⟨w.heap.size,0,none⟩) 0 0)) (w.alloc (.cells #[] e)) := by
    have hr0 : ∀ f : Nat → Value,Array.map f (Array.range 0) = #[] := fun f => Array.eq_empty_of_size_eq_zero (by simp)
    simp [execOp,Instr.buildSlice,run_underlying ht,hsz,Instr.fill,hr0,run_newRow']
  rw [hr]
  have ok' : Ok N av bor w0 ⟨E,orow e size (.slice (some ⟨w.heap.size,0,none⟩) 0 0) 0 [] :: loc,X⟩ a (w.alloc (.cells #[] e)) := (ok.via fun M G => G.new (.cells #[] e) (fun w2 => ORow w2 e size (.slice (some ⟨w.heap.size,0,none⟩) 0 0) 0 []) (fun w2 h => ⟨by simp,.inr ⟨w.heap.size,0,_,(0,0),rfl,h,Nat.le_refl _,Nat.zero_le _,by simp,by simp,.inl rfl⟩⟩))
  exact (h _).run _ _ (put_eq (some n) _ ▸ ok'.put hd' _)
end

theorem flatten_get {size : Nat} : ∀ (xs : List (List Value)) (i : Nat) (cs : List Value),(∀ r ∈ xs,r.length = size) → xs[i]? = some cs → ∀ j u,cs[j]? = some u → xs.flatten[i * size + j]? = some u
  | [],i,cs,_,h,j,u,_ => by simp at h
  | r :: xs,0,cs,hl,h,j,u,hj => by
    simp at h
    subst h
    have h1 := (List.getElem?_eq_some_iff.1 hj).1
    rw [List.flatten_cons,Nat.zero_mul,Nat.zero_add,List.getElem?_append_left h1,hj]
  | r :: xs,i + 1,cs,hl,h,j,u,hj => by
    have h1 : r.length = size := hl r List.mem_cons_self
    rw [List.flatten_cons,List.getElem?_append_right (by rw [h1,Nat.add_mul];omega),h1,show (i + 1) * size + j - size = i * size + j from by rw [Nat.add_mul];omega]
    exact flatten_get xs i cs (fun q hq => hl q (List.mem_cons_of_mem _ hq)) (by simpa using h) j u hj
theorem flatten_len {size : Nat} (xs : List (List Value)) (h : ∀ r ∈ xs,r.length = size) : xs.flatten.length = xs.length * size := by
  rw [List.length_flatten]
  have : ∀ x ∈ xs.map List.length,x = size := by
    intro x hx
    obtain ⟨cs,hcs,rfl⟩ := List.mem_map.1 hx
    exact h cs hcs
  rw [List.eq_replicate_of_mem this]
  simp
theorem rows_of_orow {w : World} {e size n c : Nat} {A : Option Addr} {xs : List (List Value)} (h : ORow w e size (.slice A n c) n xs.flatten) (hn : n = xs.length) (hs : ∀ r ∈ xs,r.length = size) : RowsD w size ⟨A,n,c⟩ xs := by
  rcases h.2 with ⟨h1,h2⟩ | ⟨g,cap,cur,fz,h1,hg,hnc,hcm,hcs,htake,hfz⟩
  · have hx : xs = [] := List.eq_nil_of_length_eq_zero (by omega)
    subst hx
    simp only [Value.slice.injEq] at h1
    obtain ⟨rfl,rfl,rfl⟩ := h1
    exact ⟨rfl,Nat.le_refl _,Nat.zero_le _,fun i cs hi => by simp at hi⟩
  · simp only [Value.slice.injEq] at h1
    obtain ⟨rfl,_,rfl⟩ := h1
    refine ⟨hn,hnc,hcm,fun i cs hi => ⟨hs cs (List.mem_of_getElem? hi),rfl,fun j u hj => ⟨rfl,fun a ha => ?_⟩⟩⟩
    cases ha
    have hf := flatten_get xs i cs hs hi j u hj
    have hadd : (⟨g,0,none⟩ : Addr).add (i * size + j) = ⟨g,i * size + j,none⟩ := by unfold Addr.add;split <;> simp_all
    rw [hadd,cell_of_row w g _ cur e fz hg]
    rw [← htake,List.getElem?_take] at hf
    split at hf
    · simpa using hf
    · cases hf
theorem orow_of_cel {w : World} {b e size n : Nat} {cs : List Value} (h : w.heap[b]? = some (.cells cs.toArray e (0,0))) (hl : cs.length = n * size) (hm : n ≤ maxLen) : ORow w e size (.slice (some ⟨b,0,none⟩) n n) n cs :=
  ⟨hl,.inr ⟨b,n,_,(0,0),rfl,h,Nat.le_refl _,hm,by simpa using hl,by simp [← hl],.inl rfl⟩⟩
theorem rows_of_cel {w : World} {b e size n : Nat} {xs : List (List Value)} (h : w.heap[b]? = some (.cells xs.flatten.toArray e (0,0))) (hn : n = xs.length) (hm : n ≤ maxLen) (hs : ∀ r ∈ xs,r.length = size) : RowsD w size ⟨some ⟨b,0,none⟩,n,n⟩ xs :=
  rows_of_orow (orow_of_cel h (by rw [flatten_len xs hs,hn]) hm) hn hs
theorem RowsD.none_nil {w : World} {size : Nat} {s : SlV} {xs : List (List Value)} (h : RowsD w size s xs) (hp : s.p.isNone = true) : xs = [] := by
  cases xs with
  | nil => rfl
  | cons cs r =>
    have := (h.row 0 cs rfl).2.1
    cases hq : s.p <;> simp_all
theorem rowsD_nil (w : World) (size : Nat) : RowsD w size ⟨none,0,0⟩ [] := ⟨rfl,Nat.le_refl _,Nat.zero_le _,fun i cs hi => by simp at hi⟩
def CloneAt (size : Nat) (xs : List (List Value)) (u : Value) (X : World → Prop) : Prop := ∃ s : SlV,u = s.v ∧ s.n = xs.length ∧ ∀ w,X w → RowsD w size s xs
end Go.Proofs.YtjmpdkmboheknaaGreatDoor.Sy

namespace Go.Proofs.YtjmpdkmboheknaaGreatDoor
open Go Go.Proofs Sy
theorem cloneS_mk (s : SlV) (xs : List (List Value)) (hb : s.n * 16 ≤ 140737488351232) (h1 : ∀ cs ∈ xs,cs.all (·.oneCell') = true) : Mk Tryz.prog 38 #[s.v] (fun w => RowsD w 1 s xs) (CloneAt 1 xs) := by
  refine mk_of_cw2 (args:=[_]) _ Tryz.func38 rfl Tryz.ntmps38 rfl fun av bor w0 => ?_
  refine cw_know (p:=s.n = xs.length ∧ (∀ r ∈ xs,r.length = 1) ∧ (s.p.isNone = true → xs = [])) (fun w h => ⟨h.len,fun r hr => ?_,h.none_nil⟩) fun ⟨hl,hr1,hnil⟩ => ?_
  · obtain ⟨i,hi⟩ := List.mem_iff_getElem?.1 hr
    exact (h.row i r hi).1
  repeat' (first | refine sy_slNil (h:=?_) | refine sw_bsl0 (h:=fun _ => ?_) | apply sw_nil | apply cw_seq | apply cw_reg | refine sy_move (h:=?_) | refine sy_assign (h:=?_) | apply cw_skip | apply cw_ret | (refine cw_cond (ht:=?_) (hf:=?_);all_goals (intro hx_;skip)))
  · refine ends_ret (res_tmp rfl rfl) ⟨⟨none,0,0⟩,rfl, ?_,fun w _ => ?_⟩
    · rw [hnil hx_];rfl
    · rw [hnil hx_];exact rowsD_nil w 1
  refine sw_append (size:=1) (z:=.string ⟨#[]⟩) (news:=xs.flatten) (q:=s.n) rfl rfl rfl rfl (fun _ => At.here _) (fun w G => src_rows G.keep.now h1) ?_ ?_ rfl ?_ rfl ?_
  · omega
  · simp only [maxLen];omega
  · rfl
  intro A c
  repeat' (first | apply sw_nil | refine sy_assign (h:=?_) | apply cw_ret | fail)
  refine ends_ret (res_tmp rfl rfl) ⟨⟨A,0 + s.n,c⟩,rfl, ?_,fun w h => ?_⟩
  · show 0 + s.n = xs.length
    omega
  · exact rows_of_orow (h.2 _ List.mem_cons_self) (by omega) hr1
theorem cloneW_mk (s : SlV) (xs : List (List Value)) (hb : s.n * 64 ≤ 140737488351232) (h1 : ∀ cs ∈ xs,cs.all (·.oneCell') = true) : Mk Tryz.prog 39 #[s.v] (fun w => RowsD w 5 s xs) (CloneAt 5 xs) := by
  refine mk_of_cw2 (args:=[_]) _ Tryz.func39 rfl Tryz.ntmps39 rfl fun av bor w0 => ?_
  refine cw_know (p:=s.n = xs.length ∧ (∀ r ∈ xs,r.length = 5) ∧ (s.p.isNone = true → xs = [])) (fun w h => ⟨h.len,fun r hr => ?_,h.none_nil⟩) fun ⟨hl,hr1,hnil⟩ => ?_
  · obtain ⟨i,hi⟩ := List.mem_iff_getElem?.1 hr
    exact (h.row i r hi).1
  repeat' (first | refine sy_slNil (h:=?_) | refine sw_bsl0 (h:=fun _ => ?_) | apply sw_nil | apply cw_seq | apply cw_reg | refine sy_move (h:=?_) | refine sy_assign (h:=?_) | apply cw_skip | apply cw_ret | (refine cw_cond (ht:=?_) (hf:=?_);all_goals (intro hx_;skip)))
  · refine ends_ret (res_tmp rfl rfl) ⟨⟨none,0,0⟩,rfl, ?_,fun w _ => ?_⟩
    · rw [hnil hx_];rfl
    · rw [hnil hx_];exact rowsD_nil w 5
  refine sw_append (size:=5) (news:=xs.flatten) (q:=s.n) rfl rfl rfl rfl (fun _ => At.here _) (fun w G => src_rows G.keep.now h1) ?_ ?_ rfl ?_ rfl ?_
  · omega
  · simp only [maxLen];omega
  · rfl
  intro A c
  repeat' (first | apply sw_nil | refine sy_assign (h:=?_) | apply cw_ret | fail)
  refine ends_ret (res_tmp rfl rfl) ⟨⟨A,0 + s.n,c⟩,rfl, ?_,fun w h => ?_⟩
  · show 0 + s.n = xs.length
    omega
  · exact rows_of_orow (h.2 _ List.mem_cons_self) (by omega) hr1
end Go.Proofs.YtjmpdkmboheknaaGreatDoor

namespace Go.Proofs.YtjmpdkmboheknaaGreatDoor
open Go Go.Proofs Sy
set_option maxRecDepth 20000 in
theorem itemRight_pu (a : ActD) : Pu Tryz.prog 72 #[itemV 0 a] (ActD.at_ · a) (.bool (rightB a)) := by
  refine pu_of_cw (args:=[_]) _ Tryz.func72 rfl Tryz.ntmps72 rfl fun av bor w0 => ?_
  repeat' (first | refine sy_eqlT (h:=?_) | apply sw_nil | apply cw_seq | apply cw_reg | refine sy_move (h:=?_) | refine sy_assign (h:=?_) | refine sy_fld (h:=?_) | refine sy_ld (h:=?_) | refine sy_ldAll (h:=?_) | refine sy_pick_t (h:=?_) | refine sy_pick_f (h:=?_) | refine sw_skipT (h:=?_) | refine sw_alloc (h:=fun _ => ?_) | refine sw_box (h:=fun _ => ?_) | refine sw_st1 (h:=?_) | refine sw_stAll (h:=?_) | refine cw_cond_t (ht:=?_) | apply cw_block | apply cw_ret | refine sw_pu (hc:=actRight_pu a) (h:=?_) | refine sw_pu (hc:=itemSame_pu) (h:=?_) | (refine sy_build (h:=?_)) | (refine sw_stSub (itemCells 0 ActD.zero) (h:=?_)) | (refine sy_ldSub (vs:=a.cells) (hv:=rfl) (h:=?_)) | ((fail_if_success (refine sw_chk (h:=?_)));refine sw_guard (ht:=?_) (hf:=?_);all_goals (intro hx_;skip)) | fail)
  all_goals (apply ends_ret;apply res_tmp;rfl;rfl;rw [hx_])

def bytesV (a : ActD) : ByteArray := bif rightB a then numV 0 ++ actBytes a else ⟨#[]⟩
theorem actBytes_size {a : ActD} (hr : a.Rng) : (actBytes a).size ≤ 300000000020 := by
  have n7 := numV_size a.e
  have n8 := numV_size a.s
  unfold actBytes
  cases seqB (actCore a) ⟨#[]⟩ with
  | true => simp [ByteArray.size]
  | false =>
    have hc : (actCore a).size ≤ 300000000000 := by
      unfold actCore
      cases hrB : rightB a with
      | true => exact coreV_size (fit_of_right hr hrB)
      | false => simp [ByteArray.size]
    simp only [cond_false,ByteArray.size_append]
    omega
theorem bytesV_size {a : ActD} (hr : a.Rng) : (bytesV a).size ≤ 300000000030 := by
  have h1 := numV_size 0
  have h2 := actBytes_size hr
  unfold bytesV
  cases rightB a with
  | true => simp only [cond_true,ByteArray.size_append];omega
  | false => simp [ByteArray.size]
set_option maxRecDepth 20000 in
theorem itemBytes_pu (a : ActD) (hr : a.Rng) : Pu Tryz.prog 36 #[itemV 0 a] (ActD.at_ · a) (.string (bytesV a)) := by
  cases hrB : rightB a with
  | false =>
    have hrN : (!rightB a) = true := by rw [hrB];rfl
    refine pu_of_cw (args:=[_]) _ Tryz.func36 rfl Tryz.ntmps36 rfl fun av bor w0 => ?_
    repeat' (first | apply sw_nil | apply cw_seq | apply cw_reg | refine sy_assign (h:=?_) | refine sy_ldAll (h:=?_) | refine sy_not (h:=?_) | refine sw_box (h:=fun _ => ?_) | refine cw_cond_t (ht:=?_) | apply cw_ret | refine sw_pu (hc:=itemRight_pu a) (h:=?_) | fail)
    apply ends_ret;apply res_tmp;rfl;rfl
    simp only [bytesV,hrB,cond_false]
  | true =>
  have hrN : (!rightB a) = false := by rw [hrB];rfl
  refine pu_of_cw (args:=[_]) _ Tryz.func36 rfl Tryz.ntmps36 rfl fun av bor w0 => ?_
  have hab := actBytes_pu a (fit_of_right hr) ⟨hr.ints.2.2.2.2.2.2.2.1,hr.ints.2.2.2.2.2.2.2.2⟩
  have hsz := actBytes_size hr
  repeat' (first | apply sw_nil | apply cw_seq | apply cw_reg | refine sy_assign (h:=?_) | refine sy_fld (h:=?_) | refine sy_ld (h:=?_) | refine sy_ldAll (h:=?_) | refine sy_not (h:=?_) | refine sw_alloc (h:=fun _ => ?_) | refine sw_box (h:=fun _ => ?_) | refine sw_bsl (h:=fun _ => ?_) | refine cw_cond_f (hf:=?_) | apply cw_skip | refine sw_pu (hc:=itemRight_pu a) (h:=?_) | fail)
  rename_i bi bb bs
  have hS : (⟨#[]⟩ : ByteArray) ++ numsV [0] = numV 0 := by
    show ByteArray.empty ++ (numV 0 ++ ByteArray.empty) = numV 0
    rw [ByteArray.append_empty,ByteArray.empty_append]
  have hns : (⟨#[]⟩ : ByteArray).size + (numsV [0]).size ≤ 1099511627776 := by
    rw [← ByteArray.size_append,hS]
    have := numV_size 0
    omega
  refine sw_give ?_
  refine sw_nilRow 5 1 ?_
  refine sw_perm (l:=bld bb none 0 ⟨#[]⟩ ++ [cel bi 61 (itemCells 0 a)]) (List.Perm.swap _ _ _) ?_
  refine sw_fn (pre:=bld bb none 0 ⟨#[]⟩) (fr:=[cel bi 61 (itemCells 0 a)]) (hc:=nums_ct bb none 0 ⟨#[]⟩ ⟨some ⟨bs,0,none⟩,1,1⟩ [0] (by simp) hns) (hX:=fun w h => rows_of_cel (xs:=[[.int .i64 0]]) h.2 rfl (by decide) (by simp)) (h:=?_)
  rintro v R X' ⟨A',c',rfl,rfl⟩
  refine sw_imp (X':=(ActD.at_ · a)) (fun w h => h.1.1) ?_
  have hn0 := numV_size 0
  rw [hS]
  generalize hs1 : numV 0 = s1 at *
  unfold bld
  repeat' (first | refine sy_eqlT (h:=?_) | apply sw_nil | apply cw_seq | apply cw_reg | refine sy_fld (h:=?_) | refine sy_ld (h:=?_) | refine cw_cond_t (ht:=?_) | fail)
  (refine cw_draw [] (fun _ => True) (by kernel_rfl) ?_)
  all_goals (refine aw_take 0 (h:=?_))
  all_goals (refine aw_take 2 (h:=?_))
  all_goals (refine aw_two 1 3 (h:=?_) (h':=?_);(focus (((refine sy_ld (h:=?_));apply sw_nil;refine aw_fin (h:=?_));all_goals ((refine aw_step 3 (h:=?_);(refine sy_ldSub (vs:=a.cells) (hv:=rfl) (h:=?_));apply sw_nil;refine aw_fin (h:=?_));all_goals (refine aw_step 4 (h:=?_);(refine sw_pu (hc:=hab) (h:=?_));apply sw_nil;refine aw_fin (h:=?_));all_goals (refine aw_step 5 (h:=?_);(refine sw_append (size:=1) (z:=.int .u8 0) rfl rfl rfl rfl (fun _ => At.there _ (At.here _)) (fun w G => src_str (by omega)) (by omega) (by simp only [maxLen];omega) rfl ?_ rfl ?_;(with_reducible rfl);intro A1 c1);apply sw_nil;refine aw_fin (h:=?_));all_goals (refine aw_take 6 (h:=?_));all_goals (refine aw_step 7 (h:=?_);(refine sw_st1 (h:=?_));apply sw_nil;refine aw_fin (h:=?_));all_goals (refine aw_done (h:=?_)))));rotate_right;(focus (((refine sy_ldSub (vs:=a.cells) (hv:=rfl) (h:=?_));apply sw_nil;refine aw_fin (h:=?_));all_goals ((refine aw_two 1 4 (h:=?_) (h':=?_);(focus (((refine sy_ld (h:=?_));apply sw_nil;refine aw_fin (h:=?_));all_goals ((refine aw_step 4 (h:=?_);(refine sw_pu (hc:=hab) (h:=?_));apply sw_nil;refine aw_fin (h:=?_));all_goals (refine aw_step 5 (h:=?_);(refine sw_append (size:=1) (z:=.int .u8 0) rfl rfl rfl rfl (fun _ => At.there _ (At.here _)) (fun w G => src_str (by omega)) (by omega) (by simp only [maxLen];omega) rfl ?_ rfl ?_;(with_reducible rfl);intro A1 c1);apply sw_nil;refine aw_fin (h:=?_));all_goals (refine aw_take 6 (h:=?_));all_goals (refine aw_step 7 (h:=?_);(refine sw_st1 (h:=?_));apply sw_nil;refine aw_fin (h:=?_));all_goals (refine aw_done (h:=?_)))));rotate_right;(focus (((refine sw_pu (hc:=hab) (h:=?_));apply sw_nil;refine aw_fin (h:=?_));all_goals ((refine aw_step 1 (h:=?_);(refine sy_ld (h:=?_));apply sw_nil;refine aw_fin (h:=?_));all_goals (refine aw_step 5 (h:=?_);(refine sw_append (size:=1) (z:=.int .u8 0) rfl rfl rfl rfl (fun _ => At.there _ (At.here _)) (fun w G => src_str (by omega)) (by omega) (by simp only [maxLen];omega) rfl ?_ rfl ?_;(with_reducible rfl);intro A1 c1);apply sw_nil;refine aw_fin (h:=?_));all_goals (refine aw_take 6 (h:=?_));all_goals (refine aw_step 7 (h:=?_);(refine sw_st1 (h:=?_));apply sw_nil;refine aw_fin (h:=?_));all_goals (refine aw_done (h:=?_))))))))))
  all_goals (repeat' (first | apply cw_seq | apply cw_reg | refine sy_fld (h:=?_) | refine sy_ld (h:=?_) | fail))
  all_goals (
    rw [← u8s_append, ← bytesI_append]
    refine sy_b2s (hm:=List.mem_cons_of_mem _ List.mem_cons_self) (h:=?_)
    repeat' (first | apply sw_nil | refine sy_assign (h:=?_) | apply cw_ret | fail)
    apply ends_ret;apply res_tmp;rfl;rfl
    simp only [bytesV,hrB,cond_true,ofInts_bytesI,hs1])
def digV (a : ActD) : ByteArray := bif seqB (bytesV a) ⟨#[]⟩ then ⟨#[]⟩ else shaV (bytesV a)
theorem digest_pu (a : ActD) (hr : a.Rng) : Pu Tryz.prog 20 #[itemV 0 a] (fun w => ActD.at_ w a ∧ Glob w) (.string (digV a)) := by
  refine pu_of_cw (args:=[_]) _ Tryz.func20 rfl Tryz.ntmps20 rfl fun av bor w0 => ?_
  have hsz := bytesV_size hr
  repeat' (first | apply sw_nil | apply cw_seq | apply cw_reg | refine sy_move (h:=?_) | refine sy_assign (h:=?_) | refine sy_ldAll (h:=?_) | refine sy_seql (h:=?_) | refine sw_box (h:=fun _ => ?_) | apply cw_skip | apply cw_ret | refine sw_pu (hc:=itemBytes_pu a hr) (h:=?_) | refine sw_pu (hc:=sha_pu _ (by omega)) (h:=?_) | (refine cw_cond (ht:=?_) (hf:=?_);all_goals (intro hx_;skip)))
  all_goals (apply ends_ret;apply res_tmp;rfl;rfl)
  · simp only [digV,hx_,cond_true]
  · simp only [digV,hx_,cond_false]
end Go.Proofs.YtjmpdkmboheknaaGreatDoor

namespace Go.Proofs.YtjmpdkmboheknaaGreatDoor
open Go Go.Proofs Sy
structure ActD.Sm (a : ActD) : Prop where
  to : a.to.n * 16 ≤ 140737488351232
  wraps : a.wraps.n * 64 ≤ 140737488351232
  target : a.target.size ≤ maxLen
def ActD.re (a : ActD) (s1 s2 : SlV) : ActD := { a with to := s1,wraps := s2 }
theorem right_re {a : ActD} {s1 s2 : SlV} (h1 : s1.n = a.to.n) (h2 : s2.n = a.wraps.n) : rightB (a.re s1 s2) = rightB a := by
  obtain ⟨au,sq,pv,kd,tm,ob,tg,sc,gr,⟨p,n,c⟩,tx,bd,ep,⟨p',n',c'⟩,nn,mm,ee,ss,tl,wl⟩ := a
  obtain ⟨q,m,d⟩ := s1
  obtain ⟨q',m',d'⟩ := s2
  simp only at h1 h2
  subst h1
  subst h2
  simp only [rightB,ruleB,ruleL,usedV,audienceB,rule1B,rule2B,rule3B,rule4B,rule5B,rule6B,objectB,targetB,grantB,labelB,homeB,setupB,wrappedB,placedB,ActD.re]
  rfl
theorem dig_re {a : ActD} {s1 s2 : SlV} (h1 : s1.n = a.to.n) (h2 : s2.n = a.wraps.n) : digV (a.re s1 s2) = digV a := by
  have hr := right_re h1 h2
  have hc : coreV (a.re s1 s2) = coreV a := rfl
  have he : (a.re s1 s2).e = a.e := rfl
  have hs : (a.re s1 s2).s = a.s := rfl
  simp only [digV,bytesV,actBytes,actCore,hr,hc,he,hs]
def OfActAt (a : ActD) (u : Value) (X : World → Prop) : Prop := ∃ a' : ActD,u = itemV 0 a' ∧ digV a' = digV a ∧ a'.Rng ∧ ∀ w,X w → a'.at_ w
set_option maxRecDepth 20000 in
theorem ofAct_mk (a : ActD) (hr : a.Rng) (hs : a.Sm) : Mk Tryz.prog 21 #[a.v] (ActD.at_ · a) (OfActAt a) := by
  refine mk_of_cw2 (args:=[_]) _ Tryz.func21 rfl Tryz.ntmps21 rfl fun av bor w0 => ?_
  repeat' (first | apply sw_nil | apply cw_seq | apply cw_reg | refine sy_fld (h:=?_) | refine sy_ld (h:=?_) | refine sw_alloc (h:=fun _ => ?_) | refine sw_box (h:=fun _ => ?_) | fail)
  refine sw_mk (hc:=cloneS_mk a.to (strs a.toL) hs.to (fun cs hcs => by simp only [strs,List.mem_map] at hcs;obtain ⟨x,_,rfl⟩ := hcs;rfl)) (hX:=fun w h => h.1) (h:=fun v1 X1 h1 => ?_)
  obtain ⟨s1,rfl,hn1,hw1⟩ := h1
  repeat' (first | apply sw_nil | apply cw_seq | apply cw_reg | refine sy_fld (h:=?_) | refine sy_ld (h:=?_) | refine sw_st1 (h:=?_) | fail)
  refine sw_mk (hc:=cloneW_mk a.wraps (a.wrapsL.map WrapD.cells) hs.wraps (fun cs hcs => by simp only [List.mem_map] at hcs;obtain ⟨x,_,rfl⟩ := hcs;rfl)) (hX:=fun w h => h.1.2) (h:=fun v2 X2 h2 => ?_)
  obtain ⟨s2,rfl,hn2,hw2⟩ := h2
  repeat' (first | apply sw_nil | apply cw_seq | apply cw_reg | refine sy_fld (h:=?_) | refine sy_ldAll (h:=?_) | refine sw_st1 (h:=?_) | refine sw_stAll (h:=?_) | apply cw_ret | (refine sy_build (h:=?_)))
  have e1 : s1.n = a.to.n := by rw [hn1,hr.to_len];simp [strs]
  have e2 : s2.n = a.wraps.n := by rw [hn2,hr.wraps_len];simp
  apply ends_ret;refine res_cell rfl rfl (by (repeat (exact List.mem_cons_self))) ?_
  · rfl
  refine ⟨a.re s1 s2,rfl,dig_re e1 e2,⟨hr.ints,hr.wints, ?_, ?_⟩,fun w h => ⟨?_, ?_⟩⟩
  · rw [show (a.re s1 s2).to = s1 from rfl,e1,hr.to_len];rfl
  · rw [show (a.re s1 s2).wraps = s2 from rfl,e2,hr.wraps_len];rfl
  · exact hw1 w h.1.1.2
  · exact hw2 w h.1.2
structure ChainD where
  id : ByteArray
  acts : SlV
  keys : SlV
  prev : ByteArray
  gen : Int
  fork : Bool
  actsL : List ActD
def ChainD.cells (c : ChainD) : List Value := [.string c.id,c.acts.v,c.keys.v,.string c.prev,.int .i64 c.gen,.bool c.fork]
def ChainD.v (c : ChainD) : Value := .agg c.cells.toArray
theorem ChainD.v_cells (c : ChainD) : c.v.cells.toList = c.cells := rfl
def ChainD.zero : ChainD := ⟨⟨#[]⟩,⟨none,0,0⟩,⟨none,0,0⟩,⟨#[]⟩,0,false, []⟩
def Acts (w : World) (s : SlV) (l : List ActD) : Prop := RowsD w 20 s (l.map ActD.cells) ∧ ∀ a ∈ l,a.at_ w
def ChainD.at_ (w : World) (c : ChainD) : Prop := Acts w c.acts c.actsL
structure ActsOk (l : List ActD) : Prop where
  rng : ∀ a ∈ l,a.Rng
  sm : ∀ a ∈ l,a.Sm
theorem Acts.len_ {w : World} {s : SlV} {l : List ActD} (h : Acts w s l) : s.n = l.length := by have := RowsD.len h.1;simpa using this
theorem Acts.max_ {w : World} {s : SlV} {l : List ActD} (h : Acts w s l) : s.n ≤ maxLen := Nat.le_trans (RowsD.cap h.1) (RowsD.max h.1)
theorem Acts.some_ {w : World} {s : SlV} {l : List ActD} (h : Acts w s l) (hl : 0 < l.length) : s.p.isSome = true := by
  have hx : l[0]? = some l[0] := List.getElem?_eq_getElem hl
  exact (RowsD.row h.1 0 l[0].cells (by simp [hx])).2.1
theorem Acts.get {w : World} {s : SlV} {l : List ActD} (h : Acts w s l) {i : Nat} {x : ActD} (hx : l[i]? = some x) : x.cells.length = 20 ∧ s.p.isSome = true ∧ ∀ j u,x.cells[j]? = some u → CellAt w s.p (i * 20 + j) u :=
  RowsD.row h.1 i x.cells (by simp [hx])
def idxV (l : List ActD) (d : ByteArray) : Option Nat := l.findIdx? fun a => seqB (digV a) d
def idxP (o : Option Nat) : Value := .tuple #[.int .i64 ((o.getD 0 : Nat) : Int),.bool o.isSome]
def badI (l : List ActD) (d : ByteArray) (k : Nat) : Bool :=
  match l[k]? with
  | some x => seqB (digV x) d
  | none => false
theorem badI_at {l : List ActD} {d : ByteArray} {k : Nat} {x : ActD} (h : l[k]? = some x) : badI l d k = seqB (digV x) d := by simp only [badI,h]
theorem idxV_found {l : List ActD} {d : ByteArray} (i : Upto l.length (badI l d)) (hlt : i.k < l.length) (hb : badI l d i.k = true) : idxV l d = some i.k := by
  rw [idxV,List.findIdx?_eq_some_iff_getElem]
  refine ⟨hlt, ?_,fun j hj => ?_⟩
  · rw [badI_at (List.getElem?_eq_getElem hlt)] at hb;exact hb
  · have := i.ok j hj
    rw [badI_at (List.getElem?_eq_getElem (by omega))] at this
    simp [this]
theorem idxV_none {l : List ActD} {d : ByteArray} (i : Upto l.length (badI l d)) (h : ¬ i.k < l.length) : idxV l d = none := by
  rw [idxV,List.findIdx?_eq_none_iff]
  intro x hx
  obtain ⟨k,hk,rfl⟩ := List.getElem_of_mem hx
  have := i.ok k (by omega)
  rwa [badI_at (List.getElem?_eq_getElem hk)] at this
theorem index_pu (c : ChainD) (hc : ActsOk c.actsL) (d : ByteArray) : Pu Tryz.prog 16 #[c.v,.string d] (fun w => c.at_ w ∧ Glob w) (idxP (idxV c.actsL d)) := by
  refine pu_of_cw (args:=[_,_]) _ Tryz.func16 rfl Tryz.ntmps16 rfl fun av bor w0 => ?_
  refine cw_know (p:=c.acts.n = c.actsL.length ∧ c.acts.n ≤ maxLen ∧ (0 < c.actsL.length → c.acts.p.isSome = true)) (fun w h => ⟨h.1.len_,h.1.max_,h.1.some_⟩) fun ⟨hl,hm,hp⟩ => ?_
  simp only [maxLen] at hm
  repeat' (first | apply sw_nil | apply cw_seq | apply cw_reg | refine sy_move (h:=?_) | refine sy_assign (h:=?_) | refine sy_fld (h:=?_) | refine sy_ld (h:=?_) | refine sy_len (h:=?_) | refine sw_box (h:=fun _ => ?_) | apply cw_block | fail)
  rename_i b
  refine cw_loop (ι:=Upto c.actsL.length (badI c.actsL d)) (fun i => ⟨[(1,.string d),(9,c.acts.v),(10,.int .i64 c.acts.n),(11,.int .i64 i.k)], [],fun w => c.at_ w ∧ Glob w⟩) (fun i => c.actsL.length - i.k) (Upto.zero _ _) (ok_sub ⟨rfl,rfl,rfl,rfl,trivial⟩ (List.Sublist.cons _ (List.Sublist.refl _)) fun _ h => h) fun i => ?_
  have hik := i.hk
  repeat' (first | apply sw_nil | apply cw_seq | apply cw_reg | refine sy_move (h:=?_) | refine sy_assign (h:=?_) | refine sy_lss (h:=?_) | apply cw_skip | apply cw_block | apply cw_ret | apply cw_exit | (refine cw_cond (ht:=?_) (hf:=?_);all_goals (intro hx_;first | have := of_decide_eq_true hx_ | have := of_decide_eq_false hx_)))
  · have hlt : i.k < c.actsL.length := by omega
    have hp' := hp (by omega)
    obtain ⟨x,hx⟩ : ∃ x,c.actsL[i.k]? = some x := ⟨_,List.getElem?_eq_getElem hlt⟩
    have hxm : x ∈ c.actsL := List.mem_of_getElem? hx
    repeat' (first | apply sw_nil | apply cw_seq | apply cw_reg | refine sy_assign (h:=?_) | refine sy_ldAll (h:=?_) | refine sw_alloc (h:=fun _ => ?_) | refine sw_stAll (h:=?_) | (refine sy_idxX (q:=i.k * 20) (h:=?_)) | (refine sy_ldXs (cs:=x.cells) (hF:=fun w h => Acts.get h.1 hx) (h:=?_)))
    refine sw_mk (hc:=ofAct_mk x (hc.rng x hxm) (hc.sm x hxm)) (hX:=fun w h => h.1.2 x hxm) (h:=fun v1 X1 h1 => ?_)
    obtain ⟨x',rfl,hdig,hr',hat⟩ := h1
    refine sw_pu (hc:=digest_pu x' hr') (hX:=fun w h => ⟨hat w h.2,h.1.2⟩) (h:=?_)
    rw [hdig]
    repeat' (first | apply sw_nil | apply cw_seq | apply cw_reg | refine sy_move (h:=?_) | refine sy_assign (h:=?_) | refine sy_seql (h:=?_) | refine sy_add (h:=?_) | apply cw_skip | apply cw_ret | (refine cw_cond (ht:=?_) (hf:=?_);all_goals (intro hx_;skip)))
    · apply ends_ret;apply res_tmp2;rfl;rfl;rfl
      rw [idxV_found i hlt (by rw [badI_at hx];assumption)]
      rfl
    · exact ⟨i.next hlt (by rw [badI_at hx];assumption),(by show c.actsL.length - (i.k + 1) < c.actsL.length - i.k;omega),ok_sub ⟨rfl,rfl,rfl,rfl,trivial⟩ (List.nil_sublist _) fun _ h => h.1⟩
  · apply ends_ret;apply res_tmp2;rfl;rfl;rfl
    rw [idxV_none i (by omega)]
    rfl
def Chains (w : World) (s : SlV) (l : List ChainD) : Prop := RowsD w 6 s (l.map ChainD.cells) ∧ ∀ c ∈ l,c.at_ w
theorem Chains.len_ {w : World} {s : SlV} {l : List ChainD} (h : Chains w s l) : s.n = l.length := by have := RowsD.len h.1;simpa using this
theorem Chains.max_ {w : World} {s : SlV} {l : List ChainD} (h : Chains w s l) : s.n ≤ maxLen := Nat.le_trans (RowsD.cap h.1) (RowsD.max h.1)
theorem Chains.some_ {w : World} {s : SlV} {l : List ChainD} (h : Chains w s l) (hl : 0 < l.length) : s.p.isSome = true := by
  have hx : l[0]? = some l[0] := List.getElem?_eq_getElem hl
  exact (RowsD.row h.1 0 l[0].cells (by simp [hx])).2.1
theorem Chains.get {w : World} {s : SlV} {l : List ChainD} (h : Chains w s l) {i : Nat} {x : ChainD} (hx : l[i]? = some x) : x.cells.length = 6 ∧ s.p.isSome = true ∧ ∀ j u,x.cells[j]? = some u → CellAt w s.p (i * 6 + j) u :=
  RowsD.row h.1 i x.cells (by simp [hx])
def findC (l : List ChainD) (id : ByteArray) : Option ChainD := l.find? fun c => seqB c.id id
def findP (o : Option ChainD) : Value := .tuple #[(o.getD ChainD.zero).v,.bool o.isSome]
def badF (l : List ChainD) (d : ByteArray) (k : Nat) : Bool :=
  match l[k]? with
  | some x => seqB x.id d
  | none => false
theorem badF_at {l : List ChainD} {d : ByteArray} {k : Nat} {x : ChainD} (h : l[k]? = some x) : badF l d k = seqB x.id d := by simp only [badF,h]
theorem find_at {α : Type} {p : α → Bool} : ∀ (l : List α) (k : Nat) (x : α),l[k]? = some x → p x = true → (∀ j y,j < k → l[j]? = some y → p y = false) → l.find? p = some x
  | [],k,x,h,_,_ => by simp at h
  | a :: l,0,x,h,hp,_ => by simp at h;subst h;simp [hp]
  | a :: l,k + 1,x,h,hp,hb => by
    have h0 := hb 0 a (by omega) rfl
    simp only [List.find?_cons,h0]
    exact find_at l k x (by simpa using h) hp fun j y hj hy => hb (j + 1) y (by omega) (by simpa using hy)
theorem findC_found {l : List ChainD} {d : ByteArray} (i : Upto l.length (badF l d)) {x : ChainD} (hx : l[i.k]? = some x) (hb : seqB x.id d = true) : findC l d = some x :=
  find_at l i.k x hx hb fun j y hj hy => by have := i.ok j hj;rwa [badF_at hy] at this
theorem findC_none {l : List ChainD} {d : ByteArray} (i : Upto l.length (badF l d)) (h : ¬ i.k < l.length) : findC l d = none := by
  rw [findC,List.find?_eq_none]
  intro x hx
  obtain ⟨k,hk,rfl⟩ := List.getElem_of_mem hx
  have := i.ok k (by omega)
  rw [badF_at (List.getElem?_eq_getElem hk)] at this
  simp [this]
theorem res_cellTmp {P : Program} {fn : Func} {N t u ty n : Nat} {s : St} {b T : Nat} {cs : List Value} {x : Value} [hI : TyAgg P ty n] (hr : fn.results = #[.cell t ty,.tmp u]) (h : Sy.look s.env t = some (.pointer (some ⟨b,0,none⟩))) (h' : Sy.look s.env u = some x) (hm : cel b T cs ∈ s.loc) (hn : cs.length = n) :
    Res1 P fn N s (.tuple #[.agg cs.toArray,x]) := fun av bor w0 a w ok => by
  obtain ⟨D,h1,h2,h3⟩ := aggSize_spec hI.out
  have ht := ok.env t _ h
  have hu := ok.env u _ h'
  have : (loadVar ty ⟨b,0,none⟩).run P w = .ok (.agg cs.toArray) w := by
    cases D <;> simp at h2
    · exact run_loadVar_row w b T ty cs.toArray (0,0) _ (cel_in ok hm) h1 rfl (by rw [h3];simp [hn])
    · exact run_loadVar_row w b T ty cs.toArray (0,0) _ (cel_in ok hm) h1 rfl (by rw [h3];simp [hn])
  simp [results,hr,ht,hu,asAddr,this]
theorem find_pu (s : SlV) (l : List ChainD) (id : ByteArray) : Pu Tryz.prog 29 #[s.v,.string id] (fun w => Chains w s l) (findP (findC l id)) := by
  refine pu_of_cw (args:=[_,_]) _ Tryz.func29 rfl Tryz.ntmps29 rfl fun av bor w0 => ?_
  refine cw_know (p:=s.n = l.length ∧ s.n ≤ maxLen ∧ (0 < l.length → s.p.isSome = true)) (fun w h => ⟨h.len_,h.max_,h.some_⟩) fun ⟨hl,hm,hp⟩ => ?_
  simp only [maxLen] at hm
  repeat' (first | apply sw_nil | apply cw_seq | apply cw_reg | refine sy_move (h:=?_) | refine sy_assign (h:=?_) | refine sy_len (h:=?_) | refine sw_alloc (h:=fun _ => ?_) | apply cw_block | fail)
  rename_i b
  refine cw_loop (ι:=Upto l.length (badF l id)) (fun i => ⟨[(1,.string id),(4,.pointer (some ⟨b,0,none⟩)),(8,s.v),(9,.int .i64 s.n),(10,.int .i64 i.k)], [cel b 39 ChainD.zero.cells],fun w => Chains w s l⟩) (fun i => l.length - i.k) (Upto.zero _ _) (ok_sub ⟨rfl,rfl,rfl,rfl,rfl,trivial⟩ (List.Sublist.refl _) fun _ h => h) fun i => ?_
  have hik := i.hk
  repeat' (first | apply sw_nil | apply cw_seq | apply cw_reg | refine sy_lss (h:=?_) | apply cw_skip | apply cw_block | apply cw_exit | (refine cw_cond (ht:=?_) (hf:=?_);all_goals (intro hx_;first | have := of_decide_eq_true hx_ | have := of_decide_eq_false hx_)))
  · have hlt : i.k < l.length := by omega
    have hp' := hp (by omega)
    obtain ⟨x,hx⟩ : ∃ x,l[i.k]? = some x := ⟨_,List.getElem?_eq_getElem hlt⟩
    repeat' (first | apply sw_nil | apply cw_seq | apply cw_reg | refine sy_move (h:=?_) | refine sy_assign (h:=?_) | refine sy_fld (h:=?_) | refine sy_ld (h:=?_) | refine sy_ldAll (h:=?_) | refine sy_seql (h:=?_) | refine sy_add (h:=?_) | refine sw_alloc (h:=fun _ => ?_) | refine sw_stAll (h:=?_) | apply cw_skip | apply cw_ret | (refine sy_idxX (q:=i.k * 6) (h:=?_)) | (refine sy_ldXs (cs:=x.cells) (hF:=fun w h => Chains.get h hx) (h:=?_)) | (refine cw_cond (ht:=?_) (hf:=?_);all_goals (intro hx_;skip)))
    · apply ends_ret;refine res_cellTmp rfl rfl rfl (by (repeat (first | exact List.mem_cons_self | apply List.mem_cons_of_mem))) ?_
      · rfl
      rw [findC_found i hx (by assumption)]
      rfl
    · exact ⟨i.next hlt (by rw [badF_at hx];assumption),(by show l.length - (i.k + 1) < l.length - i.k;omega),ok_sub ⟨rfl,rfl,rfl,rfl,rfl,trivial⟩ (List.Sublist.cons _ (List.Sublist.refl _)) fun _ h => h⟩
  · repeat' (first | apply sw_nil | refine sy_assign (h:=?_) | refine sw_stAll (h:=?_) | apply cw_ret | (refine sy_build (h:=?_)))
    apply ends_ret;refine res_cellTmp rfl rfl rfl (by (repeat (exact List.mem_cons_self))) ?_
    · rfl
    rw [findC_none i (by omega)]
    rfl
end Go.Proofs.YtjmpdkmboheknaaGreatDoor

namespace Go.Proofs.YtjmpdkmboheknaaGreatDoor
open Go Go.Proofs Sy Go.Shelf Go.Maps Go.Sort
theorem sortS_c : SortC Tryz.prog 131 encStr (fun ss => ss.mergeSort leB) where
  some_ := fun blk off cap ss w h1 h2 h3 => AnyM.slices_Sort_string Tryz.sortS blk off cap ss w h1 h2 h3
  none_ := fun p cap w => AnyM.slices_Sort_string_none Tryz.sortS p cap w
  len := fun ss => List.length_mergeSort ss
theorem sortsS (m : Nat) : AnyZ.SortsIn Tryz.prog Tryz.sortedS_ren Fence.wide m :=
  ⟨fun blk off cap ss W hH hblk hsz => callsIn_wide.2 (AnyM.slices_Sort_string Tryz.sortS blk off cap ss W hH hblk hsz),
   fun p cap W => callsIn_wide.2 (AnyM.slices_Sort_string_none Tryz.sortS p cap W)⟩
end Go.Proofs.YtjmpdkmboheknaaGreatDoor

namespace Go.Proofs.YtjmpdkmboheknaaGreatDoor.Sy
open Go Go.RowKit Go.MapKept

def mdel {κ β : Type} [KeyT κ] : List (κ × β) → κ → List (κ × β)
  | [],_ => []
  | (k',v') :: r,k => bif KeyT.eqb k k' then r else (k',v') :: mdel r k
theorem mdel_of_none {κ β : Type} [KeyT κ] : ∀ (l : List (κ × β)) (k : κ),mget l k = none → mdel l k = l
  | [],_,_ => rfl
  | (k',v') :: r,k,h => by
    simp only [mget] at h
    simp only [mdel]
    cases hb : KeyT.eqb k k' with
    | true => rw [hb] at h;simp at h
    | false => rw [hb] at h;rw [cond_false,mdel_of_none r k (by simpa using h)]
theorem mdel_of_at {κ β : Type} [KeyT κ] : ∀ (l : List (κ × β)) (k : κ) (j : Nat) (v : β),l[j]? = some (k,v) → (l.map (·.1)).Nodup → mdel l k = l.eraseIdx j
  | [],_,j,v,h,_ => by simp at h
  | (k',v') :: r,k,0,v,h,hn => by
    simp at h
    obtain ⟨rfl,rfl⟩ := h
    have : KeyT.eqb k' k' = true := (KeyT.eqb_iff k' k').2 rfl
    simp [mdel,this]
  | (k',v') :: r,k,j + 1,v,h,hn => by
    have hne : KeyT.eqb k k' = false := by
      cases hb : KeyT.eqb k k' with
      | false => rfl
      | true =>
        have e := (KeyT.eqb_iff k k').1 hb
        subst e
        simp only [List.map_cons,List.nodup_cons] at hn
        exact absurd (List.mem_map.2 ⟨(k,v),List.mem_of_getElem? (by simpa using h),rfl⟩) hn.1
    simp only [mdel,hne,cond_false,List.eraseIdx_cons_succ]
    rw [mdel_of_at r k j v (by simpa using h) (by simp only [List.map_cons,List.nodup_cons] at hn;exact hn.2)]
theorem enc_inj {κ : Type} [KeyT κ] {a b : κ} (h : KeyT.enc a = KeyT.enc b) : a = b := by
  have h1 := KeyT.same a a
  have h2 := KeyT.same a b
  rw [← h] at h2
  rw [h1] at h2
  have h3 : KeyT.eqb a a = true := (KeyT.eqb_iff a a).2 rfl
  rw [h3] at h2
  exact (KeyT.eqb_iff a b).1 (Option.some.inj h2).symm
theorem map_erase {α β : Type} (f : α → β) : ∀ (l : List α) (j : Nat),(l.eraseIdx j).map f = (l.map f).eraseIdx j
  | [],j => by simp
  | a :: l,0 => rfl
  | a :: l,j + 1 => by simp [map_erase f l j]
theorem run_delete_at {κ : Type} [KeyT κ] {P : Program} {w : World} {t et kt ty : TypeId} (ht : mapOf P t = some (et,keyD κ)) {g : Nat} {l : List (κ × Value)} (h : MapAt w g l) (k : κ) :
    ∃ o,(Builtin.delete_ #[t,kt] ty #[.map (some g),KeyT.enc k]).run P w = .ok (.tuple #[]) { w with heap := w.heap.setIfInBounds g o } ∧ ∀ w' : World,w'.heap[g]? = some o → MapAt w' g (mdel l k) := by
  obtain ⟨kt',h1,h2⟩ := mapOf_spec ht
  obtain ⟨es,clock,hb,hs,hl⟩ := h
  have hk := KeyT.ok k
  have hnd : (l.map (·.1)).Nodup := by
    have h3 := hs.2.2
    have h4 : es.toList.map (·.key) = l.map fun p => KeyT.enc p.1 := by
      have := congrArg (List.map Prod.fst) hl
      simpa [List.map_map,Function.comp_def] using this
    rw [h4] at h3
    unfold List.Nodup at h3 ⊢
    rw [List.pairwise_map] at h3 ⊢
    exact h3.imp fun hab e => hab (by rw [e])
  rcases find_enc k es.toList l 0 hl with ⟨g1,g2,g3,g4⟩ | ⟨j,e,v0,g1,g2,g3,g4,g5⟩
  · refine ⟨.map es clock, ?_,fun w' hw => ⟨es,clock,hw,hs, ?_⟩⟩
    · simp [Builtin.delete_,run_underlying h1,MapKept.run_getObj_map hb,MapKept.run_checkKey h2 hk,MapKept.run_findKey h2 g1,MapKept.run_setObj_map _ hb,Result.andThen]
    · rw [mdel_of_none l k g2]
      exact hl
  · have hj : es[j]? = some e := by simpa using g2
    have hlj : l[j]? = some (k,v0) := by
      have h3 := congrArg (fun q => q[j]?) hl
      simp only [List.getElem?_map,Array.getElem?_toList,hj,Option.map_some] at h3
      cases hq : l[j]? with
      | none => rw [hq] at h3;simp at h3
      | some p =>
        rw [hq] at h3
        simp only [Option.map_some,Option.some.injEq,Prod.mk.injEq] at h3
        have e1 : p.1 = k := enc_inj (h3.1.symm.trans g3)
        have e2 : mget l k = some p.2 := by
          have key : ∀ (l : List (κ × Value)) (j : Nat) (p : κ × Value),l[j]? = some p → (l.map (·.1)).Nodup → mget l p.1 = some p.2 := by
            intro l
            induction l with
            | nil => intro j p h;simp at h
            | cons a r ih =>
              intro j p h hn
              cases j with
              | zero =>
                simp at h
                subst h
                have : KeyT.eqb a.1 a.1 = true := (KeyT.eqb_iff _ _).2 rfl
                simp [mget,this]
              | succ j =>
                simp only [List.map_cons,List.nodup_cons] at hn
                have hne : KeyT.eqb p.1 a.1 = false := by
                  cases hb : KeyT.eqb p.1 a.1 with
                  | false => rfl
                  | true =>
                    have e := (KeyT.eqb_iff _ _).1 hb
                    exact absurd (List.mem_map.2 ⟨p,List.mem_of_getElem? (by simpa using h),e⟩) hn.1
                simp only [mget,hne,cond_false]
                exact ih j p (by simpa using h) hn.2
          have := key l j p hq hnd
          rwa [e1] at this
        rw [g4] at e2
        obtain ⟨p1,p2⟩ := p
        simp only at e1 e2
        rw [e1,Option.some.inj e2]
    refine ⟨.map (es.eraseIdxIfInBounds j) clock, ?_,fun w' hw => ⟨_,_,hw,stamped_erase hs j, ?_⟩⟩
    · simp [Builtin.delete_,run_underlying h1,MapKept.run_getObj_map hb,MapKept.run_checkKey h2 hk,MapKept.run_findKey h2 g1,MapKept.run_setObj_map _ hb,Result.andThen]
    · rw [mdel_of_at l k j v0 hlj hnd]
      have hlt : j < es.size := (Array.getElem?_eq_some_iff.1 hj).1
      have e1 : (es.eraseIdxIfInBounds j).toList = es.toList.eraseIdx j := by simp [Array.eraseIdxIfInBounds,hlt]
      rw [e1,map_erase,hl, ← map_erase]

section
variable {P : Program} {N : Nat} {av bor : List Nat} {w0 : World} {ops : Array Oper} {rest : List Oper} {k : St → Prop} {E : Env} {loc loc' : List Res} {X : World → Prop}
variable {d : Option Tmp} {ty : TypeId} {pos : String} {af : Array Edge} {g : Option (Nat × Bool)} {bb want : Bool} {K : Exit → St → Prop}
theorem sw_delete {κ : Type} [KeyT κ] {t et kt : Nat} [ht : TyMap P t et (keyD κ)] {m x : Operand} {q : Nat} {l : List (κ × Value)} {kk : κ} (hm : ev E m = some (.map (some q)) := by rfl) (hx : ev E x = some (KeyT.enc kk) := by rfl)
    (hA : At (mapr q l) (mapr q (mdel l kk)) loc loc' := by (repeat (first | exact At.here _ | apply At.there))) (hg : gdB ops E g = some (bb,want) := by rfl) (hb : bb = want := by (first | with_reducible rfl | with_reducible assumption | with_reducible exact Bool.not_false | with_reducible exact Bool.not_true)) (hd : inB N d = true := by rfl)
    (h : Sw P N av bor w0 ops rest ⟨putE E d (.tuple #[]),loc',X⟩ k) : Sw P N av bor w0 ops (⟨d,.call ⟨.builtin .delete,#[m,x],#[t,kt]⟩,ty,pos,af,g⟩ :: rest) ⟨E,loc,X⟩ k := Sw.mk fun a w ok => by
  simp only [wpList]
  rw [wanted_of ok (o:=⟨d,.call ⟨.builtin .delete,#[m,x],#[t,kt]⟩,ty,pos,af,g⟩) hg]
  subst hb
  simp only [beq_self_eq_true,if_true]
  left
  unfold Oper.wp
  have hmm : MapAt w q l := (ok.gam.here _ hA.mem).now
  obtain ⟨o,hr,ho⟩ := run_delete_at (P:=P) (kt:=kt) (ty:=ty) ht.out hmm kk
  obtain ⟨es,c,hb',_⟩ := hmm
  have hs := heap_set (o':=o) hb'
  have ok' : Ok N av bor w0 ⟨E,loc',X⟩ a { w with heap := w.heap.setIfInBounds q o } := (ok.via fun M G => G.turn (hA.app M) rfl rfl rfl (by simp) (fun i hi => hs.2 i hi) fun w2 h2 => ho w2 (h2.trans hs.1))
  have hr' : (execOp a.eval ⟨d,.call ⟨.builtin .delete,#[m,x],#[t,kt]⟩,ty,pos,af,g⟩).run P w = .ok (.value (.tuple #[])) { w with heap := w.heap.setIfInBounds q o } := by
    simp only [execOp,resolve,invoke,builtin,Sem.run_bind,Sem.run_pure,Result.andThen_ok,List.map_toArray,List.map_cons,List.map_nil,ok.eval (st:=⟨E,loc,X⟩) hm,ok.eval (st:=⟨E,loc,X⟩) hx,hr]
  rw [hr']
  exact h.run _ _ (put_eq d _ ▸ ok'.put hd _)
theorem y_slcH {st : St} {x y : Operand} {t e size b' : Nat} [hI : TySl P t e size b'] {p : Option Addr} {m c : Nat} {kk : IntKind} {i : Int} (hx : ev st.env x = some (.slice p m c)) (hy : ev st.env y = some (.int kk i)) (h0 : 0 ≤ i) (h1 : i ≤ (c : Int)) :
    Sy.Yields P N av bor w0 st (.slice t x none (some y) none) ty (.slice p i.toNat c) := Sy.Yields.mk fun A w ok d pos af g => by
  obtain ⟨hu,inf,hi,hs,hb⟩ := slOf_spec hI.out
  have hz := run_sizeOf (P:=P) (w:=w) (t:=e) (n:=size) (by simp [hi,hs])
  have hadd : ∀ a : Addr,a.add 0 = a := fun a => by simp [Addr.add]
  have hmap : p.map (fun a => a.add 0) = p := by cases p <;> simp [hadd]
  simp [execOp,ok.eval hx,ok.eval hy,Instr.sliceAt,run_underlying hu,Instr.slice,Instr.sliceBounds,run_sliceBound,h0,h1,hz,hmap]
theorem sy_slcH {n : Nat} {x y : Operand} {t e size b' : Nat} [hI : TySl P t e size b'] {p : Option Addr} {m c : Nat} {kk : IntKind} {i : Int} (hx : ev E x = some (.slice p m c) := by rfl) (hy : ev E y = some (.int kk i) := by rfl) (h0 : 0 ≤ i := by omega) (h1 : i ≤ (c : Int)) (hg : gdB ops E g = some (bb,want) := by rfl) (hbb : bb = want := by (first | with_reducible rfl | with_reducible assumption | with_reducible exact Bool.not_false | with_reducible exact Bool.not_true)) (hd : Nat.blt n N = true := by rfl)
    (h : Sw P N av bor w0 ops rest ⟨(n,.slice p i.toNat c) :: E,loc,X⟩ k) : Sw P N av bor w0 ops (⟨some n,.slice t x none (some y) none,ty,pos,af,g⟩ :: rest) ⟨E,loc,X⟩ k := sw_yield (y_slcH hx hy h0 h1) hg hbb hd h
def nullR : Res := ⟨[],fun _ => True⟩
theorem Gam.null {w : World} (G : Gam av bor w0 loc X w) : Gam av bor w0 (nullR :: loc) X w := by
  have e1 : fps (nullR :: loc) = fps loc := by simp [fps,nullR]
  refine ⟨G.fr,G.avb,by rw [e1];exact G.nodup,by rw [e1];exact G.own,fun x hx => ?_,by rw [e1];exact G.keep⟩
  rcases List.mem_cons.1 hx with rfl | hx
  · exact fun _ _ => trivial
  · exact G.here x hx
theorem sw_fnAt {x : Operand} {xs : List Operand} {ats : Array TypeId} {f : FuncId} {first caps : Array Value} {args all : List Value} {X1 : World → Prop} {Post : Value → List Res → (World → Prop) → Prop} {r : Res}
    (hx : ev E x = some (.func (.func f) first caps) := by rfl) (ha : evs E xs = some args := by rfl) (hall : first.toList ++ args ++ caps.toList = all := by rfl) (hg : gdB ops E g = some (bb,want) := by rfl) (hb : bb = want := by (first | with_reducible rfl | with_reducible assumption | with_reducible exact Bool.not_false | with_reducible exact Bool.not_true)) (hd : inB N d = true := by rfl) (hf : FnBody P f := by infer_instance)
    (hc : Ct P f all.toArray [r] X1 Post) (hA : At r nullR loc loc' := by (repeat (first | exact At.here _ | apply At.there))) (hX : ∀ w,X w → X1 w := by (first | exact fun _ _ => trivial | exact fun _ h => h | exact fun _ h => h.1 | exact fun _ h => h.2))
    (h : ∀ v R X',Post v R X' → Sw P N av bor w0 ops rest ⟨putE E d v,R ++ loc',fun w => X w ∧ X' w⟩ k) :
    Sw P N av bor w0 ops (⟨d,.call ⟨.value x,xs.toArray,ats⟩,ty,pos,af,g⟩ :: rest) ⟨E,loc,X⟩ k := by
  obtain ⟨f',h1,h2⟩ := hA.perm
  refine sw_perm h1 ?_
  refine sw_fn (pre:=[r]) (fr:=f') (Post:=Post) hx ha hall hg hb hd hf hc hX fun u R X' hp => ?_
  refine sw_to (fun a w ok => ?_) (h u R X' hp)
  refine ok.via fun M G => ?_
  have G1 := (G.null).perm ((List.perm_middle (l₁:=R) (a:=nullR) (l₂:=f')).symm.append_right M)
  exact G1.perm (((List.Perm.refl R).append h2.symm).append_right M)
theorem ok_perm {E' : Env} {l' : List Res} {X' : World → Prop} (he : sub E E') (hl : loc.Perm l') (hx : ∀ w,X w → X' w) : ∀ a w,Ok N av bor w0 ⟨E,loc,X⟩ a w → Ok N av bor w0 ⟨E',l',X'⟩ a w := fun a w ok =>
  ok_sub he (List.Sublist.refl _) hx a w (ok.via fun M G => G.perm (hl.append_right M))
theorem cw_drop {c : Code} {l : List Res} (hs : l.Sublist loc) (h : Cw P N av bor w0 c ⟨E,l,X⟩ K) : Cw P N av bor w0 c ⟨E,loc,X⟩ K := Cw.mk fun a w ok => h.run a w (ok.via fun M G => G.drop (hs.append_right M))
end
theorem ct_of_cwS {P : Program} {f : FuncId} {fn : Func} {c : Code} {args : List Value} {pre : List Res} {X : World → Prop} {Post : Value → List Res → Prop} (N : Nat)
    (hf : P.funcs[f]? = some fn) (hb : fn.body = some c) (hN : fn.ntmps = N) (hn : Nat.ble args.length N = true)
    (h : ∀ av bor w0,Cw P N av bor w0 c ⟨params 0 args,pre,X⟩ (ends P fn N fun u R _ => ∃ R',R'.Sublist R ∧ Post u R')) : Ct P f args.toArray pre X fun u R _ => Post u R := Ct.mk fun w av G => by
  have h1 := (ct_of_cw (P:=P) (Post:=fun u R _ => ∃ R',R'.Sublist R ∧ Post u R') N hf hb hN hn h).run w av G
  refine h1.mono fun e w' ⟨u,R,X',he,⟨R',hs,hp⟩,G'⟩ => ⟨u,R',X',he,hp,G'.drop hs⟩
end Go.Proofs.YtjmpdkmboheknaaGreatDoor.Sy

namespace Go.Proofs.YtjmpdkmboheknaaGreatDoor
open Go Go.Proofs Sy
instance : TyMap Tryz.prog 229 4 (keyD ByteArray) := ⟨by kernel_rfl⟩
def setM (ks : List ByteArray) : List (ByteArray × Value) := ks.map fun k => (k,.bool true)
def sput : List ByteArray → ByteArray → List ByteArray
  | [],k => [k]
  | k' :: r,k => bif KeyT.eqb k k' then k :: r else k' :: sput r k
def sdel : List ByteArray → ByteArray → List ByteArray
  | [],_ => []
  | k' :: r,k => bif KeyT.eqb k k' then r else k' :: sdel r k
theorem mput_set : ∀ (ks : List ByteArray) (k : ByteArray),mput (setM ks) k (.bool true) = setM (sput ks k)
  | [],k => rfl
  | k' :: r,k => by
    have ih := mput_set r k
    simp only [setM] at ih
    simp only [setM,List.map_cons,mput,sput]
    cases KeyT.eqb k k' with
    | true => rfl
    | false => simp only [cond_false,ih,List.map_cons]
theorem mdel_set : ∀ (ks : List ByteArray) (k : ByteArray),mdel (setM ks) k = setM (sdel ks k)
  | [],k => rfl
  | k' :: r,k => by
    have ih := mdel_set r k
    simp only [setM] at ih
    simp only [setM,List.map_cons,mdel,sdel]
    cases KeyT.eqb k k' with
    | true => rfl
    | false => simp only [cond_false,ih,List.map_cons]
theorem setAdd_ct (q : Nat) (ks : List ByteArray) (k : ByteArray) : Ct Tryz.prog 222 #[.map (some q),.string k] [mapr q (setM ks)] (fun _ => True) fun u R _ => u = .tuple #[] ∧ R = [mapr q (setM (sput ks k))] := by
  refine ct_of_cw (args:=[_,_]) _ Tryz.func222 rfl Tryz.ntmps222 rfl fun av bor w0 => ?_
  repeat' (first | apply sw_nil | apply cw_reg | refine sy_move (h:=?_) | (refine sw_update (κ:=ByteArray) (kk:=k) (l:=setM ks) (hA:=At.here _) (h:=?_)))
  rw [mput_set]
  repeat' (first | apply sw_nil | fail)
  exact ends_end (res_none rfl) ⟨rfl,rfl⟩
theorem setDel_ct (q : Nat) (ks : List ByteArray) (k : ByteArray) : Ct Tryz.prog 223 #[.map (some q),.string k] [mapr q (setM ks)] (fun _ => True) fun u R _ => u = .tuple #[] ∧ R = [mapr q (setM (sdel ks k))] := by
  refine ct_of_cw (args:=[_,_]) _ Tryz.func223 rfl Tryz.ntmps223 rfl fun av bor w0 => ?_
  repeat' (first | apply sw_nil | apply cw_reg | refine sy_move (h:=?_) | (refine sw_delete (κ:=ByteArray) (kk:=k) (l:=setM ks) (hA:=At.here _) (h:=?_)))
  rw [mdel_set]
  repeat' (first | apply sw_nil | fail)
  exact ends_end (res_none rfl) ⟨rfl,rfl⟩
theorem strs_flat (l : List ByteArray) : l.map encB = (strs l).flatten := by
  induction l with
  | nil => rfl
  | cons a l ih =>
    simp only [strs,List.map_cons,List.flatten_cons] at ih ⊢
    rw [ih]
    rfl
theorem strs_one (l : List ByteArray) : ∀ r ∈ strs l,r.length = 1 := by
  intro r hr
  simp only [strs,List.mem_map] at hr
  obtain ⟨x,_,rfl⟩ := hr
  rfl
theorem strs_of_orow {w : World} {e n c : Nat} {A : Option Addr} {l : List ByteArray} (h : ORow w e 1 (.slice A n c) n (l.map encB)) (hn : n = l.length) : Strs w ⟨A,n,c⟩ l := by
  rw [strs_flat] at h
  exact rows_of_orow h (by simpa [strs] using hn) (strs_one l)
structure TieS where
  f : List ByteArray
  a : List ByteArray
  b : List ByteArray
  m : List ByteArray
def setsV (q1 q2 q3 q4 : Nat) : Value := .agg #[.map (some q1),.map (some q2),.map (some q3),.map (some q4)]
def setsR (q1 q2 q3 q4 : Nat) (t : TieS) : List Res := [mapr q4 (setM t.m),mapr q3 (setM t.b),mapr q2 (setM t.a),mapr q1 (setM t.f)]
def undoT (t : TieS) (x : ActD) : TieS :=
  bif decide (x.kind = 7) then { t with f := sdel t.f x.target } else bif decide (x.kind = 8) then { t with a := sdel t.a x.target } else bif decide (x.kind = 10) then { t with b := sdel t.b x.target } else bif decide (x.kind = 11) then { t with m := sdel t.m x.target } else t
theorem undo_ct (q1 q2 q3 q4 : Nat) (t : TieS) (x : ActD) : Ct Tryz.prog 224 #[setsV q1 q2 q3 q4,x.v] (setsR q1 q2 q3 q4 t) (fun _ => True) fun u R _ => u = .tuple #[] ∧ R = setsR q1 q2 q3 q4 (undoT t x) := by
  refine ct_of_cwS (args:=[_,_]) (Post:=fun u R => u = .tuple #[] ∧ R = setsR q1 q2 q3 q4 (undoT t x)) _ Tryz.func224 rfl Tryz.ntmps224 rfl fun av bor w0 => ?_
  unfold setsR
  repeat' (first | apply sw_nil | apply cw_seq | apply cw_reg | refine sy_assign (h:=?_) | refine sy_fld (h:=?_) | refine sy_ld (h:=?_) | refine sy_eql (h:=?_) | refine sw_box (h:=fun _ => ?_) | apply cw_skip | apply cw_block | (refine sw_turn (hc:=setDel_ct _ _ _) (hX:=fun _ _ => trivial) (h:=?_)) | (refine cw_cond (ht:=?_) (hf:=?_);all_goals (intro hx_;first | have := of_decide_eq_true hx_ | have := of_decide_eq_false hx_)))
  all_goals (
    refine ends_end (res_none rfl) ⟨_,List.Sublist.cons _ (List.Sublist.cons _ (List.Sublist.refl _)),rfl, ?_⟩
    simp only [undoT, *,Int.reduceEq,decide_true,decide_false,cond_true,cond_false,Bool.and_true,Bool.true_and,Bool.and_false,Bool.false_and,Bool.not_true,Bool.not_false,Bool.or_true,Bool.true_or,Bool.or_false,Bool.false_or])
def limN (n : Int) (len : Nat) : Nat := (if (len : Int) < (if n < 0 then 0 else n) then (len : Int) else (if n < 0 then 0 else n)).toNat
theorem limN_eq (n : Int) (len : Nat) : limN n len = min n.toNat len := by
  unfold limN
  split <;> split <;> omega
def stepT (l : List ActD) (i : Nat) (t : TieS) (x : ActD) : TieS :=
  bif decide (x.kind = 7) then { t with f := sput t.f x.target } else bif decide (x.kind = 8) then { t with a := sput t.a x.target } else bif decide (x.kind = 9) then { t with a := sdel t.a x.target }
  else bif decide (x.kind = 10) then { t with b := sput t.b x.target,f := sdel t.f x.target,a := sdel t.a x.target } else bif decide (x.kind = 11) then { t with m := sput t.m x.target }
  else bif decide (x.kind = 6) then (match idxV l x.object with | some j => bif decide ((j : Int) < (i : Int)) then undoT t (l.getD j ActD.zero) else t | none => t) else t
def tieF (l : List ActD) : Nat → TieS
  | 0 => ⟨[], [], [], []⟩
  | i + 1 => stepT l i (tieF l i) (l.getD i ActD.zero)
def tieV (l : List ActD) (n : Int) : TieS := tieF l (limN n l.length)
theorem idxV_lt {l : List ActD} {d : ByteArray} {j : Nat} (h : idxV l d = some j) : j < l.length := by
  rw [idxV,List.findIdx?_eq_some_iff_getElem] at h
  exact h.1
theorem Acts.cap_ {w : World} {s : SlV} {l : List ActD} (h : Acts w s l) : s.n ≤ s.c := RowsD.cap h.1
theorem tie_ct (c : ChainD) (hc : ActsOk c.actsL) (n : Int) : Ct Tryz.prog 192 #[c.v,.int .i64 n] [] (fun w => c.at_ w ∧ Glob w) fun u R _ => ∃ q1 q2 q3 q4,u = setsV q1 q2 q3 q4 ∧ R = setsR q1 q2 q3 q4 (tieV c.actsL n) := by
  refine ct_of_cwS (args:=[_,_]) (Post:=fun u R => ∃ q1 q2 q3 q4,u = setsV q1 q2 q3 q4 ∧ R = setsR q1 q2 q3 q4 (tieV c.actsL n)) _ Tryz.func192 rfl Tryz.ntmps192 rfl fun av bor w0 => ?_
  refine cw_know (p:=c.acts.n = c.actsL.length ∧ c.acts.n ≤ maxLen ∧ (0 < c.actsL.length → c.acts.p.isSome = true) ∧ c.acts.n ≤ c.acts.c) (fun w h => ⟨h.1.len_,h.1.max_,h.1.some_,h.1.cap_⟩) fun ⟨hl,hm,hp,hcap⟩ => ?_
  simp only [maxLen] at hm
  have hlim := limN_eq n c.acts.n
  have hlN : limN n c.acts.n ≤ c.acts.n := by omega
  repeat' (first | apply sw_nil | apply cw_seq | apply cw_reg | refine sy_move (h:=?_) | refine sy_assign (h:=?_) | refine sy_fld (h:=?_) | refine sy_ld (h:=?_) | refine sy_len (h:=?_) | refine sw_alloc (h:=fun _ => ?_) | refine sw_box (h:=fun _ => ?_) | refine sw_stAll (h:=?_) | refine sy_min (h:=?_) | refine sy_max (h:=?_) | (refine sw_makeMap ByteArray (h:=fun _ => ?_)) | (refine sy_build (h:=?_)))
  refine sy_slcH (h0:=by split <;> split <;> omega) (h1:=by split <;> split <;> omega) (h:=?_)
  repeat' (first | apply sw_nil | refine sy_move (h:=?_) | refine sy_len (h:=?_) | apply cw_block | fail)
  rename_i b2 b4 q1 q2 q3 q4 b5
  refine cw_loop (ι:=Kth (limN n c.acts.n)) (fun i => ⟨[(2,.pointer (some ⟨b2,0,none⟩)),(4,.pointer (some ⟨b4,0,none⟩)),(5,.pointer (some ⟨b5,0,none⟩)),(24,.slice c.acts.p (limN n c.acts.n) c.acts.c),(25,.int .i64 (limN n c.acts.n)),(26,.int .i64 i.k)],
    setsR q1 q2 q3 q4 (tieF c.actsL i.k) ++ [cel b5 231 (setsV q1 q2 q3 q4).cells.toList,cel b4 231 [.map none,.map none,.map none,.map none],cel b2 39 c.cells],fun w => c.at_ w ∧ Glob w⟩) (fun i => limN n c.acts.n - i.k) ⟨0,Nat.zero_le _⟩
    (ok_perm ⟨rfl,rfl,rfl,rfl,rfl,rfl,trivial⟩ (List.perm_middle (l₁:=setsR q1 q2 q3 q4 ⟨[], [], [], []⟩) (a:=cel b5 231 (setsV q1 q2 q3 q4).cells.toList) (l₂:=[cel b4 231 [.map none,.map none,.map none,.map none],cel b2 39 c.cells])).symm fun _ h => h) fun i => ?_
  have hik := i.hk
  repeat' (first | apply sw_nil | apply cw_seq | apply cw_reg | refine sy_move (h:=?_) | refine sy_ldAll (h:=?_) | refine sy_lss (h:=?_) | refine sw_stAll (h:=?_) | apply cw_skip | apply cw_block | apply cw_ret | apply cw_exit | (refine cw_cond (ht:=?_) (hf:=?_);all_goals (intro hx_;first | have := of_decide_eq_true hx_ | have := of_decide_eq_false hx_)))
  · have hlt : i.k < limN n c.acts.n := by omega
    have hltL : i.k < c.actsL.length := by omega
    have hp' := hp (by omega)
    obtain ⟨x,hx⟩ : ∃ x,c.actsL[i.k]? = some x := ⟨_,List.getElem?_eq_getElem hltL⟩
    have hstep : tieF c.actsL (i.k + 1) = stepT c.actsL i.k (tieF c.actsL i.k) x := by simp only [tieF,List.getD_eq_getElem?_getD,hx,Option.getD_some]
    generalize ht : tieF c.actsL i.k = t at *
    unfold setsR
    repeat' (first | apply sw_nil | apply cw_seq | apply cw_reg | refine sy_move (h:=?_) | refine sy_assign (h:=?_) | refine sy_fld (h:=?_) | refine sy_ld (h:=?_) | refine sy_ldAll (h:=?_) | refine sy_eql (h:=?_) | refine sy_add (h:=?_) | refine sw_alloc (h:=fun _ => ?_) | refine sw_stAll (h:=?_) | apply cw_skip | apply cw_block | (refine sy_idxX (q:=i.k * 20) (h:=?_)) | (refine sy_ldXs (cs:=x.cells) (hF:=fun w h => Acts.get h.1 hx) (h:=?_)) | (refine sw_turn (hc:=setAdd_ct _ _ _) (hX:=fun _ _ => trivial) (h:=?_)) | (refine sw_turn (hc:=setDel_ct _ _ _) (hX:=fun _ _ => trivial) (h:=?_)) | (refine cw_cond (ht:=?_) (hf:=?_);all_goals (intro hx_;first | have := of_decide_eq_true hx_ | have := of_decide_eq_false hx_)))
    all_goals first
      | exact ⟨(⟨i.k + 1,hlt⟩ : Kth (limN n c.acts.n)),(by show limN n c.acts.n - (i.k + 1) < limN n c.acts.n - i.k;omega),ok_sub ⟨rfl,rfl,rfl,rfl,rfl,rfl,trivial⟩ (List.Sublist.cons _ (by
          rw [hstep]
          simp only [stepT,setsR, *,decide_true,decide_false,cond_true,cond_false,Bool.and_true,Bool.true_and,Bool.and_false,Bool.false_and,Bool.not_true,Bool.not_false,Bool.or_true,Bool.true_or,Bool.or_false,Bool.false_or]
          exact List.Sublist.refl _)) fun _ h => h⟩
      | skip
    rcases ho : idxV c.actsL x.object with _ | j
    · have hip : Pu Tryz.prog 16 #[c.v,.string x.object] (fun w => c.at_ w ∧ Glob w) (.tuple #[.int .i64 0,.bool false]) := by have := index_pu c hc x.object;rwa [ho] at this
      repeat' (first | apply sw_nil | apply cw_seq | apply cw_reg | refine sy_move (h:=?_) | refine sy_assign (h:=?_) | refine sy_pick_f (h:=?_) | refine sy_extract (h:=?_) | refine sy_add (h:=?_) | refine sw_skipT (h:=?_) | refine cw_cond_f (hf:=?_) | apply cw_skip | refine sw_pu (hc:=hip) (h:=?_) | fail)
      exact ⟨(⟨i.k + 1,hlt⟩ : Kth (limN n c.acts.n)),(by show limN n c.acts.n - (i.k + 1) < limN n c.acts.n - i.k;omega),ok_sub ⟨rfl,rfl,rfl,rfl,rfl,rfl,trivial⟩ (List.Sublist.cons _ (by
          rw [hstep]
          simp only [stepT,setsR, *,decide_true,decide_false,cond_true,cond_false,Bool.and_true,Bool.true_and,Bool.and_false,Bool.false_and,Bool.not_true,Bool.not_false,Bool.or_true,Bool.true_or,Bool.or_false,Bool.false_or]
          exact List.Sublist.refl _)) fun _ h => h⟩
    · have hip : Pu Tryz.prog 16 #[c.v,.string x.object] (fun w => c.at_ w ∧ Glob w) (.tuple #[.int .i64 (j : Int),.bool true]) := by have := index_pu c hc x.object;rwa [ho] at this
      have hjl := idxV_lt ho
      obtain ⟨y,hy⟩ : ∃ y,c.actsL[j]? = some y := ⟨_,List.getElem?_eq_getElem hjl⟩
      have hgy : c.actsL.getD j ActD.zero = y := by simp [hy]
      repeat' (first | apply sw_nil | apply cw_seq | apply cw_reg | refine sy_move (h:=?_) | refine sy_assign (h:=?_) | refine sy_pick_t (h:=?_) | refine sy_lss (h:=?_) | refine sy_extract (h:=?_) | refine sy_add (h:=?_) | apply cw_skip | refine sw_pu (hc:=hip) (h:=?_) | (refine cw_cond (ht:=?_) (hf:=?_);all_goals (intro hx_;first | have := of_decide_eq_true hx_ | have := of_decide_eq_false hx_)))
      · refine cw_drop (List.Sublist.cons _ (List.Sublist.refl _)) ?_
        (refine cw_draw [] (fun _ => True) (by kernel_rfl) ?_)
        all_goals (refine aw_take 1 (h:=?_))
        all_goals (refine aw_take 3 (h:=?_))
        all_goals (refine aw_two 0 2 (h:=?_) (h':=?_);(focus (((refine sy_ldAll (h:=?_));apply sw_nil;refine aw_fin (h:=?_));all_goals ((refine aw_step 2 (h:=?_);(refine sy_ld (h:=?_));apply sw_nil;refine aw_fin (h:=?_));all_goals (refine aw_take 4 (hy:=by (apply y_idxX (q:=j * 20);rfl;rfl;omega;omega;assumption;omega)) (h:=?_));all_goals (refine aw_step 5 (h:=?_);(refine sy_ldXs (cs:=y.cells) (hF:=fun w h => Acts.get h.1 hy) (h:=?_));apply sw_nil;refine aw_fin (h:=?_));all_goals (refine aw_step 6 (h:=?_);(refine sw_fn (pre:=setsR q1 q2 q3 q4 t) (fr:=[cel b5 231 (setsV q1 q2 q3 q4).cells.toList,cel b4 231 [.map none,.map none,.map none,.map none],cel b2 39 c.cells]) (hc:=undo_ct q1 q2 q3 q4 t y) (hX:=fun _ _ => trivial) (h:=?_);rintro _ _ X' ⟨rfl,rfl⟩);apply sw_nil;refine aw_fin (h:=?_));all_goals (refine aw_done (h:=?_)))));rotate_right;(focus (((refine sy_ld (h:=?_));apply sw_nil;refine aw_fin (h:=?_));all_goals ((refine aw_take 4 (hy:=by (apply y_idxX (q:=j * 20);rfl;rfl;omega;omega;assumption;omega)) (h:=?_));all_goals (refine aw_two 0 5 (h:=?_) (h':=?_);(focus (((refine sy_ldAll (h:=?_));apply sw_nil;refine aw_fin (h:=?_));all_goals ((refine aw_step 5 (h:=?_);(refine sy_ldXs (cs:=y.cells) (hF:=fun w h => Acts.get h.1 hy) (h:=?_));apply sw_nil;refine aw_fin (h:=?_));all_goals (refine aw_step 6 (h:=?_);(refine sw_fn (pre:=setsR q1 q2 q3 q4 t) (fr:=[cel b5 231 (setsV q1 q2 q3 q4).cells.toList,cel b4 231 [.map none,.map none,.map none,.map none],cel b2 39 c.cells]) (hc:=undo_ct q1 q2 q3 q4 t y) (hX:=fun _ _ => trivial) (h:=?_);rintro _ _ X' ⟨rfl,rfl⟩);apply sw_nil;refine aw_fin (h:=?_));all_goals (refine aw_done (h:=?_)))));rotate_right;(focus (((refine sy_ldXs (cs:=y.cells) (hF:=fun w h => Acts.get h.1 hy) (h:=?_));apply sw_nil;refine aw_fin (h:=?_));all_goals ((refine aw_step 0 (h:=?_);(refine sy_ldAll (h:=?_));apply sw_nil;refine aw_fin (h:=?_));all_goals (refine aw_step 6 (h:=?_);(refine sw_fn (pre:=setsR q1 q2 q3 q4 t) (fr:=[cel b5 231 (setsV q1 q2 q3 q4).cells.toList,cel b4 231 [.map none,.map none,.map none,.map none],cel b2 39 c.cells]) (hc:=undo_ct q1 q2 q3 q4 t y) (hX:=fun _ _ => trivial) (h:=?_);rintro _ _ X' ⟨rfl,rfl⟩);apply sw_nil;refine aw_fin (h:=?_));all_goals (refine aw_done (h:=?_))))))))))
        all_goals (repeat' (first | apply sw_nil | apply cw_reg | refine sy_move (h:=?_) | refine sy_add (h:=?_) | fail))
        all_goals exact ⟨(⟨i.k + 1,hlt⟩ : Kth (limN n c.acts.n)),(by show limN n c.acts.n - (i.k + 1) < limN n c.acts.n - i.k;omega),ok_sub ⟨rfl,rfl,rfl,rfl,rfl,rfl,trivial⟩ (by
          rw [hstep]
          simp only [stepT, *,decide_true,decide_false,cond_true,cond_false,Bool.and_true,Bool.true_and,Bool.and_false,Bool.false_and,Bool.not_true,Bool.not_false,Bool.or_true,Bool.true_or,Bool.or_false,Bool.false_or]
          exact List.Sublist.refl _) fun _ h => h.1⟩
      · exact ⟨(⟨i.k + 1,hlt⟩ : Kth (limN n c.acts.n)),(by show limN n c.acts.n - (i.k + 1) < limN n c.acts.n - i.k;omega),ok_sub ⟨rfl,rfl,rfl,rfl,rfl,rfl,trivial⟩ (List.Sublist.cons _ (by
          rw [hstep]
          simp only [stepT,setsR, *,decide_true,decide_false,cond_true,cond_false,Bool.and_true,Bool.true_and,Bool.and_false,Bool.false_and,Bool.not_true,Bool.not_false,Bool.or_true,Bool.true_or,Bool.or_false,Bool.false_or]
          exact List.Sublist.refl _)) fun _ h => h⟩
  have hk : i.k = limN n c.acts.n := by omega
  refine ends_ret (res_cell rfl rfl (by (repeat (first | exact List.mem_cons_self | apply List.mem_cons_of_mem))) (by rfl)) ⟨setsR q1 q2 q3 q4 (tieF c.actsL i.k),List.Sublist.cons_cons _ (List.Sublist.cons_cons _ (List.Sublist.cons_cons _ (List.Sublist.cons_cons _ (List.nil_sublist _)))),q1,q2,q3,q4,rfl, ?_⟩
  rw [tieV, ← hl,hk]
end Go.Proofs.YtjmpdkmboheknaaGreatDoor

namespace Go.Proofs.YtjmpdkmboheknaaGreatDoor
open Go Go.Proofs Sy
structure LBnd (k : Nat) (l : List ByteArray) : Prop where
  len : l.length ≤ k
  size : ∀ x ∈ l,x.size ≤ maxLen
theorem LBnd.mono {k k' : Nat} {l : List ByteArray} (h : LBnd k l) (hk : k ≤ k') : LBnd k' l := ⟨Nat.le_trans h.len hk,h.size⟩
theorem sput_bnd {k : Nat} {x : ByteArray} (hx : x.size ≤ maxLen) : ∀ {l : List ByteArray},LBnd k l → LBnd (k + 1) (sput l x)
  | [],_ => ⟨by simp [sput],by simp [sput,hx]⟩
  | a :: r,h => by
    simp only [sput]
    cases KeyT.eqb x a with
    | true => exact ⟨by have := h.len;simp at this ⊢;omega,fun y hy => by rcases List.mem_cons.1 hy with rfl | hy;exact hx;exact h.size y (List.mem_cons_of_mem _ hy)⟩
    | false =>
      cases k with
      | zero => have := h.len;simp at this
      | succ k =>
        have ih := sput_bnd (k:=k) hx (l:=r) ⟨by have := h.len;simp at this;omega,fun y hy => h.size y (List.mem_cons_of_mem _ hy)⟩
        exact ⟨by have := ih.len;simp;omega,fun y hy => by rcases List.mem_cons.1 hy with rfl | hy;exact h.size _ List.mem_cons_self;exact ih.size y hy⟩
theorem sdel_bnd {k : Nat} {x : ByteArray} : ∀ {l : List ByteArray},LBnd k l → LBnd k (sdel l x)
  | [],h => h
  | a :: r,h => by
    simp only [sdel]
    cases KeyT.eqb x a with
    | true => exact (show LBnd k r from ⟨by have := h.len;simp at this;omega,fun y hy => h.size y (List.mem_cons_of_mem _ hy)⟩)
    | false =>
      cases k with
      | zero => have := h.len;simp at this
      | succ k =>
        have ih := sdel_bnd (k:=k) (x:=x) (l:=r) ⟨by have := h.len;simp at this;omega,fun y hy => h.size y (List.mem_cons_of_mem _ hy)⟩
        exact ⟨by have := ih.len;simp;omega,fun y hy => by rcases List.mem_cons.1 hy with rfl | hy;exact h.size _ List.mem_cons_self;exact ih.size y hy⟩
structure TBnd (k : Nat) (t : TieS) : Prop where
  f : LBnd k t.f
  a : LBnd k t.a
  b : LBnd k t.b
  m : LBnd k t.m
theorem TBnd.mono {k k' : Nat} {t : TieS} (h : TBnd k t) (hk : k ≤ k') : TBnd k' t := ⟨h.f.mono hk,h.a.mono hk,h.b.mono hk,h.m.mono hk⟩
theorem undoT_bnd {k : Nat} {t : TieS} (h : TBnd k t) (x : ActD) : TBnd k (undoT t x) := by
  unfold undoT
  cases decide (x.kind = 7) <;> cases decide (x.kind = 8) <;> cases decide (x.kind = 10) <;> cases decide (x.kind = 11)
  all_goals first
    | exact ⟨sdel_bnd h.f,h.a,h.b,h.m⟩
    | exact ⟨h.f,sdel_bnd h.a,h.b,h.m⟩
    | exact ⟨h.f,h.a,sdel_bnd h.b,h.m⟩
    | exact ⟨h.f,h.a,h.b,sdel_bnd h.m⟩
    | exact h
theorem stepT_bnd {k i : Nat} {l : List ActD} {t : TieS} (h : TBnd k t) {x : ActD} (hx : x.target.size ≤ maxLen) : TBnd (k + 1) (stepT l i t x) := by
  have h' := h.mono (Nat.le_succ k)
  unfold stepT
  cases decide (x.kind = 7) <;> cases decide (x.kind = 8) <;> cases decide (x.kind = 9) <;> cases decide (x.kind = 10) <;> cases decide (x.kind = 11) <;> cases decide (x.kind = 6)
  all_goals first
    | exact ⟨sput_bnd hx h.f,h'.a,h'.b,h'.m⟩
    | exact ⟨h'.f,sput_bnd hx h.a,h'.b,h'.m⟩
    | exact ⟨h'.f,sdel_bnd h'.a,h'.b,h'.m⟩
    | exact ⟨sdel_bnd h'.f,sdel_bnd h'.a,sput_bnd hx h.b,h'.m⟩
    | exact ⟨h'.f,h'.a,h'.b,sput_bnd hx h.m⟩
    | exact h'
    | (simp only [cond_true,cond_false]
       split
       · rename_i j hj
         cases decide ((j : Int) < (i : Int)) with
         | true => exact undoT_bnd h' _
         | false => exact h'
       · exact h')
theorem zero_target : ActD.zero.target.size ≤ maxLen := by decide
theorem tieF_bnd {l : List ActD} (hs : ∀ a ∈ l,a.Sm) : ∀ k,TBnd k (tieF l k)
  | 0 => ⟨⟨by simp [tieF],by simp [tieF]⟩,⟨by simp [tieF],by simp [tieF]⟩,⟨by simp [tieF],by simp [tieF]⟩,⟨by simp [tieF],by simp [tieF]⟩⟩
  | k + 1 => by
    refine stepT_bnd (tieF_bnd hs k) ?_
    rcases Nat.lt_or_ge k l.length with h | h
    · rw [List.getD_eq_getElem?_getD,List.getElem?_eq_getElem h]
      exact (hs _ (List.getElem_mem h)).target
    · rw [List.getD_eq_getElem?_getD,List.getElem?_eq_none h]
      exact zero_target
theorem tieV_bnd {l : List ActD} (hs : ActsOk l) (n : Int) : TBnd l.length (tieV l n) := (tieF_bnd hs.sm _).mono (by rw [limN_eq];omega)
def TiesAt (t : TieS) (u : Value) (X : World → Prop) : Prop := ∃ s1 s2 s3 s4 : SlV,u = .agg #[s1.v,s2.v,s3.v,s4.v] ∧ ∀ w,X w → Strs w s1 (sortB t.f) ∧ Strs w s2 (sortB t.a) ∧ Strs w s3 (sortB t.b) ∧ Strs w s4 (sortB t.m)
theorem strs_given {w : World} {e n c : Nat} {A : Option Addr} {l : List ByteArray} (h : (orow e 1 (.slice A n c) n ((sortB l).map encB)).F w) (hn : n = l.length) : Strs w ⟨A,n,c⟩ (sortB l) := strs_of_orow h (by rw [sortB_len,hn])
def hasS (l : List ByteArray) (x : ByteArray) : Bool := l.any fun y => seqB x y
def idxS (l : List ByteArray) (x : ByteArray) : Int := match l.findIdx? (fun y => seqB x y) with | some k => (k : Int) | none => -1
theorem idxS_found {l : List ByteArray} {x : ByteArray} (i : Upto l.length (fun k => seqB x (l.getD k .empty))) (hlt : i.k < l.length) (hb : seqB x (l.getD i.k .empty) = true) : idxS l x = i.k := by
  have : l.findIdx? (fun y => seqB x y) = some i.k := by
    rw [List.findIdx?_eq_some_iff_getElem]
    refine ⟨hlt,by simpa [hlt] using hb,fun j hj => ?_⟩
    have h1 := i.ok j hj
    have hj' : j < l.length := by omega
    simp [hj'] at h1
    simp [h1]
  simp only [idxS,this]
theorem idxS_none {l : List ByteArray} {x : ByteArray} (i : Upto l.length (fun k => seqB x (l.getD k .empty))) (h : ¬ i.k < l.length) : idxS l x = -1 := by
  have : l.findIdx? (fun y => seqB x y) = none := by
    rw [List.findIdx?_eq_none_iff]
    intro y hy
    obtain ⟨k,hk,rfl⟩ := List.getElem_of_mem hy
    have h1 := i.ok k (by omega)
    simpa [hk] using h1
  simp only [idxS,this]
theorem idxS_has (l : List ByteArray) (x : ByteArray) : decide (0 ≤ idxS l x) = hasS l x := by
  unfold idxS hasS
  cases h : l.findIdx? (fun y => seqB x y) with
  | some k =>
    rw [List.findIdx?_eq_some_iff_getElem] at h
    obtain ⟨h1,h2,_⟩ := h
    have : l.any (fun y => seqB x y) = true := List.any_eq_true.2 ⟨l[k],List.getElem_mem h1,h2⟩
    rw [this]
    exact decide_eq_true (show (0 : Int) ≤ (k : Int) by omega)
  | none =>
    rw [List.findIdx?_eq_none_iff] at h
    have : l.any (fun y => seqB x y) = false := List.any_eq_false.2 fun y hy => by simp [h y hy]
    rw [this]
    rfl
def eqBad (l m : List ByteArray) (k : Nat) : Bool := !seqB (l.getD k .empty) (m.getD k .empty)
def eqL (l m : List ByteArray) : Bool := decide (l.length = m.length) && allB l.length (eqBad l m)
theorem equalL_pu (s r : SlV) (l m : List ByteArray) : Pu Tryz.prog 71 #[s.v,r.v] (fun w => Strs w s l ∧ Strs w r m) (.bool (eqL l m)) := by
  refine pu_of_cw (args:=[_,_]) _ Tryz.func71 rfl Tryz.ntmps71 rfl fun av bor w0 => ?_
  refine cw_know (p:=(s.n = l.length ∧ s.n ≤ maxLen ∧ (0 < l.length → s.p.isSome = true)) ∧ (r.n = m.length ∧ r.n ≤ maxLen ∧ (0 < m.length → r.p.isSome = true))) (fun w h => ⟨⟨h.1.len_,Nat.le_trans (RowsD.cap h.1) (RowsD.max h.1),h.1.some_⟩,⟨h.2.len_,Nat.le_trans (RowsD.cap h.2) (RowsD.max h.2),h.2.some_⟩⟩) fun ⟨⟨hl,hm,hp⟩,⟨hl',hm',hp'⟩⟩ => ?_
  simp only [maxLen] at hm hm'
  repeat' (first | apply sw_nil | apply cw_seq | apply cw_reg | refine sy_move (h:=?_) | refine sy_assign (h:=?_) | refine sy_neq (h:=?_) | refine sy_len (h:=?_) | apply cw_skip | apply cw_block | apply cw_ret | (refine cw_cond (ht:=?_) (hf:=?_);all_goals (intro hx_;skip)))
  · apply ends_ret;apply res_tmp;rfl;rfl
    have : ¬ l.length = m.length := by
      have h1 : ¬ (s.n : Int) = (r.n : Int) := by simpa using hx_
      omega
    simp only [eqL,decide_eq_false this,Bool.false_and]
  have hlm : l.length = m.length := by
    have h1 : (s.n : Int) = (r.n : Int) := by simpa using hx_
    omega
  refine cw_loop (ι:=Upto l.length (eqBad l m)) (fun i => ⟨[(0,s.v),(1,r.v),(12,.int .i64 s.n),(13,.int .i64 i.k)], [],fun w => Strs w s l ∧ Strs w r m⟩) (fun i => l.length - i.k) (Upto.zero _ _) (ok_sub (by repeat (first | exact trivial | refine ⟨rfl, ?_⟩)) (List.Sublist.refl _) fun _ h => h) fun i => ?_
  have hik := i.hk
  repeat' (first | apply sw_nil | apply cw_seq | apply cw_reg | refine sy_move (h:=?_) | refine sy_assign (h:=?_) | refine sy_lss (h:=?_) | apply cw_skip | apply cw_block | apply cw_ret | apply cw_exit | (refine cw_cond (ht:=?_) (hf:=?_);all_goals (intro hx_;first | have := of_decide_eq_true hx_ | have := of_decide_eq_false hx_)))
  · have hlt : i.k < l.length := by omega
    have hlt' : i.k < m.length := by omega
    have hp1 := hp (by omega)
    have hp2 := hp' (by omega)
    (apply cw_draw0;kernel_rfl)
    all_goals (refine aw_take 0 (h:=?_))
    all_goals (refine aw_take 1 (h:=?_))
    all_goals (refine aw_take 2 (hy:=by (apply y_idxX (q:=i.k);rfl;rfl;omega;omega;assumption;omega)) (h:=?_))
    all_goals (refine aw_take 3 (hy:=by (apply y_ldX;rfl;exact fun w h => Strs.get h.1 hlt)) (h:=?_))
    all_goals (refine aw_take 4 (h:=?_))
    all_goals (refine aw_take 5 (h:=?_))
    all_goals (refine aw_take 6 (hy:=by (apply y_idxX (q:=i.k);rfl;rfl;omega;omega;assumption;omega)) (h:=?_))
    all_goals (refine aw_take 7 (hy:=by (apply y_ldX;rfl;exact fun w h => Strs.get h.2 hlt')) (h:=?_))
    all_goals (refine aw_take 8 (h:=?_))
    all_goals (refine aw_done (h:=?_))
    repeat' (first | apply sw_nil | apply cw_seq | apply cw_reg | refine sy_move (h:=?_) | refine sy_assign (h:=?_) | refine sy_add (h:=?_) | apply cw_skip | apply cw_ret | (refine cw_cond (ht:=?_) (hf:=?_);all_goals (intro hx_;skip)))
    · apply ends_ret;apply res_tmp;rfl;rfl
      rw [eqL,allB_false hlt (by assumption),Bool.and_false]
    · exact ⟨i.next hlt (by assumption),(by show l.length - (i.k + 1) < l.length - i.k;omega),ok_sub (by repeat (first | exact trivial | refine ⟨rfl, ?_⟩)) (List.Sublist.refl _) fun _ h => h⟩
  · apply ends_ret;apply res_tmp;rfl;rfl
    rw [eqL,i.all (by omega),decide_eq_true hlm]
    rfl
end Go.Proofs.YtjmpdkmboheknaaGreatDoor

namespace Go.Proofs.YtjmpdkmboheknaaGreatDoor
open Go Go.Proofs Sy
def XC (c : ChainD) (w : World) : Prop := c.at_ w ∧ Glob w
theorem XC.know {c : ChainD} : ∀ w,XC c w → c.acts.n = c.actsL.length ∧ c.acts.n ≤ maxLen ∧ (0 < c.actsL.length → c.acts.p.isSome = true) ∧ c.acts.n ≤ c.acts.c := fun w h => ⟨h.1.len_,h.1.max_,h.1.some_,h.1.cap_⟩
theorem res_tmp3 {P : Program} {fn : Func} {N t u r : Nat} {s : St} {v x y : Value} (hr : fn.results = #[.tmp t,.tmp u,.tmp r]) (h : Sy.look s.env t = some v) (h' : Sy.look s.env u = some x) (h2 : Sy.look s.env r = some y) : Res1 P fn N s (.tuple #[v,x,y]) := fun av bor w0 a w ok => by
  have h3 := ok.env t v h
  have h4 := ok.env u x h'
  have h5 := ok.env r y h2
  simp [results,hr,h3,h4,h5]
theorem strs_ones (l : List ByteArray) : ∀ cs ∈ strs l,cs.all (·.oneCell') = true := fun cs hcs => by simp only [strs,List.mem_map] at hcs;obtain ⟨x,_,rfl⟩ := hcs;rfl
theorem sortB_ct {e n : Nat} {v : Value} {ss : List ByteArray} (hn : n ≤ 1000000000) : Ct Tryz.prog 131 #[v] [orow e 1 v n (ss.map encB)] (fun _ => True) fun u R _ => u = .tuple #[] ∧ R = [orow e 1 v n ((sortB ss).map encB)] := by
  have h := sortS_c.ct (e:=e) (n:=n) (v:=v) (ss:=ss.map bl) hn
  rw [map_encB ss]
  refine h.mono fun u R X' ⟨h1,h2⟩ => ⟨h1, ?_⟩
  rw [h2,map_encStr,sortB]
def StrsAt (l : List ByteArray) (u : Value) (X : World → Prop) : Prop := ∃ s : SlV,u = s.v ∧ ∀ w,X w → Strs w s l
theorem filter_succ {p : ByteArray → Bool} (L : List ByteArray) {k : Nat} (h : k < L.length) : (L.take (k + 1)).filter p = (L.take k).filter p ++ (bif p (L.getD k .empty) then [L.getD k .empty] else []) := by
  rw [List.take_add_one,List.filter_append,List.getElem?_eq_getElem h,List.getD_eq_getElem?_getD,List.getElem?_eq_getElem h]
  simp only [Option.toList_some,Option.getD_some,List.filter_cons,List.filter_nil]
  cases p L[k] <;> rfl
end Go.Proofs.YtjmpdkmboheknaaGreatDoor

namespace Go.Proofs.YtjmpdkmboheknaaGreatDoor.Sy
open Go Go.RowKit

theorem CellAt.shift {w : World} {p : Option Addr} {k q : Nat} {u : Value} : CellAt w (p.map (·.add k)) q u ↔ CellAt w p (k + q) u := by
  cases p with
  | none => simp [CellAt]
  | some a => simp [CellAt,Addr_add_add]
theorem RowsD.take {w : World} {size : Nat} {s : SlV} {xs : List (List Value)} (h : RowsD w size s xs) {n : Nat} (hn : n ≤ xs.length) : RowsD w size ⟨s.p,n,s.c⟩ (xs.take n) := by
  refine ⟨by rw [List.length_take];show n = _;omega,by have := h.cap;have := h.len;show n ≤ s.c;omega,h.max,fun i cs hi => h.row i cs ?_⟩
  rw [List.getElem?_take] at hi
  split at hi
  · exact hi
  · cases hi
def SlV.from (s : SlV) (size n : Nat) : SlV := ⟨if s.c = n then s.p else s.p.map (·.add (n * size)),s.n - n,s.c - n⟩
theorem RowsD.drop {w : World} {size : Nat} {s : SlV} {xs : List (List Value)} (h : RowsD w size s xs) {n : Nat} (hn : n ≤ xs.length) : RowsD w size (s.from size n) (xs.drop n) := by
  have h1 := h.len
  have h2 := h.cap
  have h3 := h.max
  refine ⟨by rw [List.length_drop];show s.n - n = _;omega,by show s.n - n ≤ s.c - n;omega,by show s.c - n ≤ maxLen;omega,fun i cs hi => ?_⟩
  rw [List.getElem?_drop] at hi
  have hlt := (List.getElem?_eq_some_iff.1 hi).1
  have hr := h.row (n + i) cs hi
  have e : (s.from size n).p = s.p.map (·.add (n * size)) := by unfold SlV.from;rw [if_neg (by omega)]
  refine ⟨hr.1,by rw [e];simpa using hr.2.1,fun j u hj => ?_⟩
  rw [e,CellAt.shift, ← Nat.add_assoc, ← Nat.add_mul]
  exact hr.2.2 j u hj

section
variable {P : Program} {N : Nat} {av bor : List Nat} {w0 : World} {ops : Array Oper} {rest : List Oper} {k : St → Prop} {E : Env} {loc loc' : List Res} {X : World → Prop}
variable {d : Option Tmp} {ty : TypeId} {pos : String} {af : Array Edge} {g : Option (Nat × Bool)} {bb want : Bool} {K : Exit → St → Prop}
theorem y_slcL {st : St} {x y : Operand} {t e size b' : Nat} [hI : TySl P t e size b'] {s : SlV} {kk : IntKind} {i : Int} (hx : ev st.env x = some s.v) (hy : ev st.env y = some (.int kk i)) (h0 : 0 ≤ i) (h1 : i ≤ (s.n : Int)) :
    Sy.Yields P N av bor w0 st (.slice t x (some y) none none) ty (s.from size i.toNat).v := Sy.Yields.mk fun A w ok d pos af g => by
  obtain ⟨p,m,c⟩ := s
  obtain ⟨hu,inf,hi,hs,hb⟩ := slOf_spec hI.out
  have hz := run_sizeOf (P:=P) (w:=w) (t:=e) (n:=size) (by simp [hi,hs])
  have hx' : ev st.env x = some (.slice p m c) := hx
  have h1' : i ≤ (m : Int) := h1
  simp [execOp,ok.eval hx',ok.eval hy,Instr.sliceAt,run_underlying hu,Instr.slice,Instr.sliceBounds,run_sliceBound,h0,h1',hz,SlV.v,SlV.from]

theorem fill_rows (size : Nat) : ∀ (vs : List Value) (k : Nat) (pre z : List Value),(∀ v ∈ vs,v.cells.size = size) → pre.length = k * size → z.length = vs.length * size →
    Instr.fill (fun i => some (i * size,size)) (pre ++ z).toArray ((vs.zipIdx k).map fun p => (p.2,p.1)) = some (pre ++ vs.flatMap fun v => v.cells.toList).toArray
  | [],k,pre,z,_,_,hz => by
    have : z = [] := List.eq_nil_of_length_eq_zero (by simpa using hz)
    subst this
    simp [Instr.fill]
  | v :: vs,k,pre,z,h1,hp,hz => by
    have hv := h1 v List.mem_cons_self
    have hvl : v.cells.toList.length = size := by simpa using hv
    simp only [List.length_cons,Nat.add_mul,Nat.one_mul] at hz
    have ih := fill_rows size vs (k + 1) (pre ++ v.cells.toList) (z.drop size) (fun u hu => h1 u (List.mem_cons_of_mem _ hu)) (by rw [List.length_append,hp,hvl,Nat.add_mul,Nat.one_mul]) (by rw [List.length_drop];omega)
    have h3 := fold_set pre.length v.cells.toList 0 (pre ++ z).toArray (by simp;omega)
    have h4 : (v.cells.zipIdx.foldl (fun cs (p : Value × Nat) => cs.setIfInBounds (k * size + p.2) p.1) (pre ++ z).toArray) = (pre ++ v.cells.toList ++ z.drop size).toArray := by
      rw [← Array.foldl_toList,Array.toList_zipIdx, ← hp,h3]
      simp [hv]
    simp only [List.zipIdx_cons,List.map_cons,Instr.fill]
    have hc : ¬ ((decide (v.cells.size ≠ size) || decide (k * size + v.cells.size > (pre ++ z).toArray.size)) = true) := by
      simp [hv];omega
    rw [if_neg hc,h4,ih]
    simp [List.flatMap_cons]
theorem sw_bslS {n len : Nat} {t e size b' : Nat} [hs : TySl P t e size b'] {z : Value} [hz : TyZero P e z] {parts : List (Nat × Operand)} {vs css : List Value} (hzs : z.cells.size = size := by rfl) (hp : partsOf E 0 parts = some vs := by rfl) (hl : vs.length = len := by rfl) (hsz : (vs.all fun v => v.cells.size == size) = true) (hcs : (vs.flatMap fun v => v.cells.toList) = css)
    (hpos : Nat.ble (len * size) 1000000 = true := by rfl) (h0 : Nat.blt 0 (len * size) = true := by rfl) (hg : gdB ops E g = some (bb,want) := by rfl) (hb : bb = want := by (first | with_reducible rfl | with_reducible assumption | with_reducible exact Bool.not_false | with_reducible exact Bool.not_true)) (hd : Nat.blt n N = true := by rfl)
    (h : ∀ b,Sw P N av bor w0 ops rest ⟨(n,.slice (some ⟨b,0,none⟩) len len) :: E,cel b e css :: loc,X⟩ k) : Sw P N av bor w0 ops (⟨some n,.buildSlice t len parts.toArray,ty,pos,af,g⟩ :: rest) ⟨E,loc,X⟩ k := Sw.mk fun a w ok => by
  have hd' : inB N (some n) = true := by have h1 : n < N := Nat.le_of_ble_eq_true hd;simpa [inB] using h1
  have hle : len * size ≤ 1000000 := Nat.le_of_ble_eq_true hpos
  have hlt : 0 < len * size := Nat.le_of_ble_eq_true h0
  obtain ⟨ht,inf,hi,hi1,hi2⟩ := slOf_spec hs.out
  have hsz1 : (sizeOf e).run P w = .ok size w := by simp [sizeOf,typeInfo,hi,hi1]
  have hzr : (zeroValue e).run P w = .ok z w := run_zero hz.out w
  simp only [wpList]
  rw [wanted_of ok (o:=⟨some n,.buildSlice t len parts.toArray,ty,pos,af,g⟩) hg]
  subst hb
  simp only [beq_self_eq_true,if_true]
  left
  unfold Oper.wp
  have hfill : ∀ Z : Array Value,Z.size = len * size → Instr.fill (fun i => some (i * size,size)) Z (parts.map fun p => (p.1,a.eval p.2)) = some css.toArray := fun Z hZ => by
    rw [partsOf_spec ok parts 0 vs hp, ← hcs]
    have := fill_rows size vs 0 [] Z.toList (fun v hv => by simpa using List.all_eq_true.1 hsz v hv) (by simp) (by simp [hZ,hl])
    simpa using this
  have hr : (execOp a.eval ⟨some n,.buildSlice t len parts.toArray,ty,pos,af,g⟩).run P w = .ok (.value (.slice (some ⟨w.heap.size,0,none⟩) len len)) (w.alloc (.cells css.toArray e)) := by
    have hn : ¬ (16777216 < len * size) := by omega
    have hne : ¬ (len * size = 0) := by omega
    have hne2 : ¬ (len = 0 ∨ size = 0) := fun h => hne (by rcases h with h | h <;> simp [h])
    have hf := hfill ((Array.range (len * size)).map (fun x => z.cells[x % z.cells.size]!)) (by simp)
    simp [execOp,Instr.buildSlice,run_underlying ht,hsz1,hzr,hne,hne2,hn,hf,run_newRow']
  rw [hr]
  have ok' : Ok N av bor w0 ⟨E,cel w.heap.size e css :: loc,X⟩ a (w.alloc (.cells css.toArray e)) := (ok.via fun M G => G.new _ _ fun _ h => h)
  exact (h _).run _ _ (put_eq (some n) _ ▸ ok'.put hd' _)
theorem cw_meet {ι : Type} (M : ι → St) {x y : Code} {st : St} (h1 : Cw P N av bor w0 x st (thn (fun s => ∃ i, ∀ a w,Ok N av bor w0 s a w → Ok N av bor w0 (M i) a w) K)) (h2 : ∀ i,Cw P N av bor w0 y (M i) K) :
    Cw P N av bor w0 x st (thn (fun s => Cw P N av bor w0 y s K) K) := cw_mono (fun e s h => by
  cases e with
  | normal =>
    obtain ⟨i,hi⟩ := h
    exact cw_to hi (h2 i)
  | _ => exact h) h1
end
end Go.Proofs.YtjmpdkmboheknaaGreatDoor.Sy

namespace Go.Proofs.YtjmpdkmboheknaaGreatDoor.Sy
open Go Go.Proofs

theorem toList_bl (a : ByteArray) : a.toList = bl a := by simp [bl,ByteArray.toList_eq]
theorem bl_inj {a b : ByteArray} (h : bl a = bl b) : a = b := by rw [← lb_bl a, ← lb_bl b,h]
theorem seqB_iff {a b : ByteArray} : seqB a b = true ↔ a = b := by
  unfold seqB
  rw [toList_bl,toList_bl,beq_iff_eq]
  exact ⟨bl_inj,fun h => by rw [h]⟩
theorem seqB_self (a : ByteArray) : seqB a a = true := seqB_iff.2 rfl
theorem seqB_ne {a b : ByteArray} : seqB a b = false ↔ a ≠ b := by
  rw [← Bool.not_eq_true,seqB_iff]
theorem seqB_comm (a b : ByteArray) : seqB a b = seqB b a := by
  cases h : seqB b a with
  | true => rw [seqB_iff.1 h];exact seqB_self _
  | false => exact seqB_ne.2 fun e => seqB_ne.1 h e.symm
def ltB (a b : ByteArray) : Bool := Op.bytesLess a.toList b.toList
theorem ltB_iff {a b : ByteArray} : ltB a b = true ↔ bl a < bl b := by
  unfold ltB
  rw [toList_bl,toList_bl,Go.Proofs.bytesLess_eq,decide_eq_true_eq]
theorem ltB_irrefl (a : ByteArray) : ltB a a = false := by
  rw [← Bool.not_eq_true,ltB_iff]
  exact List.lt_irrefl _
theorem ltB_trans {a b c : ByteArray} (h : ltB a b = true) (k : ltB b c = true) : ltB a c = true := by
  rw [ltB_iff] at *
  exact List.lt_trans h k
theorem ltB_asymm {a b : ByteArray} (h : ltB a b = true) : ltB b a = false := by
  rw [← Bool.not_eq_true]
  intro k
  have := ltB_trans h k
  rw [ltB_irrefl] at this
  cases this
theorem ltB_ne {a b : ByteArray} (h : ltB a b = true) : a ≠ b := by
  rintro rfl
  rw [ltB_irrefl] at h
  cases h

def Asc (l : List ByteArray) : Prop := l.Pairwise fun a b => ltB a b = true
theorem Asc.nodup {l : List ByteArray} (h : Asc l) : l.Nodup := List.Pairwise.imp (fun h => ltB_ne h) h
theorem Asc.getD {l : List ByteArray} (h : Asc l) {i j : Nat} (hij : i < j) (hj : j < l.length) : ltB (l.getD i .empty) (l.getD j .empty) = true := by
  rw [List.getD_eq_getElem?_getD,List.getD_eq_getElem?_getD,List.getElem?_eq_getElem hj,List.getElem?_eq_getElem (by omega)]
  exact List.pairwise_iff_getElem.1 h i j (by omega) hj hij
theorem Asc.ext {l m : List ByteArray} (hl : Asc l) (hm : Asc m) (h : ∀ x,x ∈ l ↔ x ∈ m) : l = m := by
  have hp : l.Perm m := (List.perm_ext_iff_of_nodup hl.nodup hm.nodup).2 h
  refine hp.eq_of_pairwise (fun a b _ _ h1 h2 => ?_) hl hm
  rw [ltB_asymm h1] at h2
  cases h2


end Go.Proofs.YtjmpdkmboheknaaGreatDoor.Sy

namespace Go.Proofs.YtjmpdkmboheknaaGreatDoor
open Go Go.Proofs Sy
section
variable {P : Program} {N : Nat} {av bor : List Nat} {w0 : World} {ops : Array Oper} {rest : List Oper} {k : St → Prop} {E : Env} {loc : List Res} {X : World → Prop}
theorem sw_give {r : Res} (h : Sw P N av bor w0 ops rest ⟨E,loc,fun w => X w ∧ r.F w⟩ k) : Sw P N av bor w0 ops rest ⟨E,r :: loc,X⟩ k := Sw.mk fun a w ok => h.run a w (ok.via fun M G => G.give)
end
theorem eqL_refl (l : List ByteArray) : eqL l l = true := by
  rw [eqL,decide_eq_true rfl,Bool.true_and]
  refine allB_true fun j hj => ?_
  simp [eqBad,seqB]
section
variable {P : Program} {N : Nat} {av bor : List Nat} {w0 : World} {ops : Array Oper} {rest : List Oper} {kk : St → Prop} {E : Env} {loc : List Res} {X : World → Prop} {x y : Operand} {t t2 : TypeId}
variable {n : Nat} {ty : TypeId} {pos : String} {af : Array Edge} {g : Option (Nat × Bool)} {bb want : Bool}
theorem sy_neqF {k : IntKind} {a b : Int} (hx : ev E x = some (.int k a) := by rfl) (hy : ev E y = some (.int k b) := by rfl) (hab : a = b := by decide) (hg : gdB ops E g = some (bb,want) := by rfl) (hbb : bb = want := by (first | with_reducible rfl | with_reducible assumption | with_reducible exact Bool.not_false | with_reducible exact Bool.not_true)) (hd : Nat.blt n N = true := by rfl) (h : Sw P N av bor w0 ops rest ⟨(n,.bool false) :: E,loc,X⟩ kk) :
    Sw P N av bor w0 ops (⟨some n,.binOp .neq t x y t2,ty,pos,af,g⟩ :: rest) ⟨E,loc,X⟩ kk := sy_neq (hx:=hx) (hy:=hy) (hg:=hg) (hbb:=hbb) (hd:=hd) (h:=by
      have e : ∀ u,u = Value.bool false → Sw P N av bor w0 ops rest ⟨(n,u) :: E,loc,X⟩ kk := fun u hu => hu ▸ h
      exact e _ (by simp [hab]))
theorem sy_geqF {k : IntKind} {a b : Int} (hx : ev E x = some (.int k a) := by rfl) (hy : ev E y = some (.int k b) := by rfl) (hab : ¬ b ≤ a) (hg : gdB ops E g = some (bb,want) := by rfl) (hbb : bb = want := by (first | with_reducible rfl | with_reducible assumption | with_reducible exact Bool.not_false | with_reducible exact Bool.not_true)) (hd : Nat.blt n N = true := by rfl) (h : Sw P N av bor w0 ops rest ⟨(n,.bool false) :: E,loc,X⟩ kk) :
    Sw P N av bor w0 ops (⟨some n,.binOp .geq t x y t2,ty,pos,af,g⟩ :: rest) ⟨E,loc,X⟩ kk := sy_geq (hx:=hx) (hy:=hy) (hg:=hg) (hbb:=hbb) (hd:=hd) (h:=by
      have e : ∀ u,u = Value.bool false → Sw P N av bor w0 ops rest ⟨(n,u) :: E,loc,X⟩ kk := fun u hu => hu ▸ h
      exact e _ (by simp only [decide_eq_false hab]))
theorem sy_gtrT {k : IntKind} {a b : Int} (hx : ev E x = some (.int k a) := by rfl) (hy : ev E y = some (.int k b) := by rfl) (hab : b < a := by (first | decide | omega)) (hg : gdB ops E g = some (bb,want) := by rfl) (hbb : bb = want := by (first | with_reducible rfl | with_reducible assumption | with_reducible exact Bool.not_false | with_reducible exact Bool.not_true)) (hd : Nat.blt n N = true := by rfl) (h : Sw P N av bor w0 ops rest ⟨(n,.bool true) :: E,loc,X⟩ kk) :
    Sw P N av bor w0 ops (⟨some n,.binOp .gtr t x y t2,ty,pos,af,g⟩ :: rest) ⟨E,loc,X⟩ kk := sy_gtr (hx:=hx) (hy:=hy) (hg:=hg) (hbb:=hbb) (hd:=hd) (h:=by
      have e : ∀ u,u = Value.bool true → Sw P N av bor w0 ops rest ⟨(n,u) :: E,loc,X⟩ kk := fun u hu => hu ▸ h
      exact e _ (by simp [hab]))
theorem sy_gtrF {k : IntKind} {a b : Int} (hx : ev E x = some (.int k a) := by rfl) (hy : ev E y = some (.int k b) := by rfl) (hab : ¬ b < a) (hg : gdB ops E g = some (bb,want) := by rfl) (hbb : bb = want := by (first | with_reducible rfl | with_reducible assumption | with_reducible exact Bool.not_false | with_reducible exact Bool.not_true)) (hd : Nat.blt n N = true := by rfl) (h : Sw P N av bor w0 ops rest ⟨(n,.bool false) :: E,loc,X⟩ kk) :
    Sw P N av bor w0 ops (⟨some n,.binOp .gtr t x y t2,ty,pos,af,g⟩ :: rest) ⟨E,loc,X⟩ kk := sy_gtr (hx:=hx) (hy:=hy) (hg:=hg) (hbb:=hbb) (hd:=hd) (h:=by
      have e : ∀ u,u = Value.bool false → Sw P N av bor w0 ops rest ⟨(n,u) :: E,loc,X⟩ kk := fun u hu => hu ▸ h
      exact e _ (by simp [hab]))
end
structure RowI where
  A : Option Addr
  c : Nat
def ChainD.with (c : ChainD) (s : SlV) (l : List ActD) : ChainD := { c with acts := s,actsL := l }
theorem cells_len (l : List ActD) : ∀ r ∈ l.map ActD.cells,r.length = 20 := by
  intro r hr
  obtain ⟨a,_,rfl⟩ := List.mem_map.1 hr
  rfl
theorem acts_of_orow {w : World} {e n c : Nat} {A : Option Addr} {l : List ActD} (h : ORow w e 20 (.slice A n c) n (l.map ActD.cells).flatten) (hn : n = l.length) (ha : ∀ a ∈ l,a.at_ w) : Acts w ⟨A,n,c⟩ l :=
  ⟨rows_of_orow h (by simpa using hn) (cells_len l),ha⟩
theorem cells_ones (l : List ActD) : ∀ cs ∈ l.map ActD.cells,cs.all (·.oneCell') = true := by
  intro r hr
  obtain ⟨a,_,rfl⟩ := List.mem_map.1 hr
  rfl
section
variable {P : Program} {N : Nat} {av bor : List Nat} {w0 : World} {ops : Array Oper} {rest : List Oper} {kk : St → Prop} {E : Env} {loc : List Res} {X : World → Prop} {x y : Operand} {t t2 : TypeId}
variable {n : Nat} {ty : TypeId} {pos : String} {af : Array Edge} {g : Option (Nat × Bool)} {bb want : Bool}
end
section
variable {P : Program} {N : Nat} {av bor : List Nat} {w0 : World} {ops : Array Oper} {rest : List Oper} {k : St → Prop} {E : Env} {loc : List Res} {X : World → Prop}
variable {d : Option Tmp} {ty : TypeId} {pos : String} {af : Array Edge} {g : Option (Nat × Bool)} {bb want : Bool}
theorem sw_fn0 {x : Operand} {xs : List Operand} {ats : Array TypeId} {f : FuncId} {first caps : Array Value} {args all : List Value} {X1 : World → Prop} {Post : Value → List Res → (World → Prop) → Prop}
    (hx : ev E x = some (.func (.func f) first caps) := by rfl) (ha : evs E xs = some args := by rfl) (hall : first.toList ++ args ++ caps.toList = all := by rfl) (hg : gdB ops E g = some (bb,want) := by rfl) (hb : bb = want := by (first | with_reducible rfl | with_reducible assumption | with_reducible exact Bool.not_false | with_reducible exact Bool.not_true)) (hd : inB N d = true := by rfl) (hf : FnBody P f := by infer_instance)
    (hc : Ct P f all.toArray [] X1 Post) (hX : ∀ w,X w → X1 w := by (first | exact fun _ _ => trivial | exact fun _ h => h | exact fun _ h => h.1 | exact fun _ h => h.2))
    (h : ∀ v R X',Post v R X' → Sw P N av bor w0 ops rest ⟨putE E d v,R ++ loc,fun w => X w ∧ X' w⟩ k) :
    Sw P N av bor w0 ops (⟨d,.call ⟨.value x,xs.toArray,ats⟩,ty,pos,af,g⟩ :: rest) ⟨E,loc,X⟩ k := sw_fn (pre:=[]) (fr:=loc) hx ha hall hg hb hd hf hc hX h
end
section
variable {P : Program} {N : Nat} {av bor : List Nat} {w0 : World} {st : St} {x y : Operand} {t t2 : TypeId} {ty : TypeId}
end
theorem pu_weak {P : Program} {f : FuncId} {args : Array Value} {X X' : World → Prop} {v : Value} (h : Pu P f args X v) (hx : ∀ w,X' w → X w) : Pu P f args X' v := by
  unfold Pu at *
  exact Ct.mk fun w av G => (Ct.run h w av (G.imp hx)).mono fun e w' ⟨u,R,X1,he,hp,G'⟩ => ⟨u,R,X1,he,hp,G'⟩
end Go.Proofs.YtjmpdkmboheknaaGreatDoor

namespace Go.Proofs.YtjmpdkmboheknaaGreatDoor
open Go Go.Proofs Sy
structure KeyD where
  from_ : Int
  public_ : Int
  home : Int
def KeyD.cells (k : KeyD) : List Value := [.int .i64 k.from_,.int .i64 k.public_,.int .i64 k.home]
def KeyD.v (k : KeyD) : Value := .agg k.cells.toArray
def KeyD.zero : KeyD := ⟨0,0,0⟩
def Keyz (w : World) (s : SlV) (l : List KeyD) : Prop := RowsD w 3 s (l.map KeyD.cells)
theorem Keyz.know {s : SlV} {l : List KeyD} : ∀ w,Keyz w s l → s.n = l.length ∧ s.n ≤ maxLen ∧ (0 < l.length → s.p.isSome = true) := fun w h =>
  ⟨by simpa using RowsD.len h,Nat.le_trans (RowsD.cap h) (RowsD.max h),fun hl => (RowsD.row h 0 l[0].cells (by simp [List.getElem?_eq_getElem hl])).2.1⟩
theorem Keyz.get {w : World} {s : SlV} {l : List KeyD} (h : Keyz w s l) {i : Nat} {x : KeyD} (hx : l[i]? = some x) : x.cells.length = 3 ∧ s.p.isSome = true ∧ ∀ j u,x.cells[j]? = some u → CellAt w s.p (i * 3 + j) u := RowsD.row h i _ (by simp [hx])
namespace Sy
section
variable {P : Program} {N : Nat} {av bor : List Nat} {w0 : World} {ops : Array Oper} {rest : List Oper} {E : Env} {loc : List Res} {X : World → Prop} {k : St → Prop} {ty : TypeId} {pos : String} {af : Array Edge} {g : Option (Nat × Bool)} {bb want : Bool}
end
end Sy
end Go.Proofs.YtjmpdkmboheknaaGreatDoor
