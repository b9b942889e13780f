/- Laws and data that the walks of the laws share: bounds, rows of activities, decided comparisons. -/
import Derived.Test.YtfpojkoddcdojaaGreatDoorWe
import Derived.Test.YtfpojkoddcdojaaGreatDoorMo
import Derived.Test.YtfpojkoddcdojaaGreatDoorPs
import Derived.Test.YtfpojkoddcdojaaGreatDoorRp
set_option linter.unusedVariables false
set_option linter.unusedSimpArgs false
namespace Go.Proofs.YtfpojkoddcdojaaGreatDoor
open Go Go.Proofs Sy
section
variable {P : Program} {N : Nat} {av bor : List Nat} {w0 : World} {ops : Array Oper} {rest : List Oper} {k : St → Prop} {E : Env} {loc : List Res} {X : World → Prop}
theorem sw_give {r : Res} (h : Sw P N av bor w0 ops rest ⟨E, loc, fun w => X w ∧ r.F w⟩ k) : Sw P N av bor w0 ops rest ⟨E, r :: loc, X⟩ k := Sw.mk fun a w ok => h.run a w ⟨ok.defers, ok.size, ok.env, ok.gam.give⟩
end
def shortBad (l : List ActD) (k : Nat) : Bool := decide (8 < (l.getD k ActD.zero).to.n) || decide (8 < (l.getD k ActD.zero).wraps.n) || decide (600 < (l.getD k ActD.zero).text.size) || decide (600 < (l.getD k ActD.zero).body.data.size)
def shortV (c : ChainD) : Bool := decide (c.actsL.length ≤ 24) && allB c.actsL.length (shortBad c.actsL)
def idA : ByteArray := ⟨#[48, 48, 48, 48, 48, 48, 48, 48, 48, 48, 48, 48, 48, 48, 97, 49]⟩
def idB : ByteArray := ⟨#[48, 48, 48, 48, 48, 48, 48, 48, 48, 48, 48, 48, 48, 48, 98, 50]⟩
theorem strs_of_cel {w : World} {b e : Nat} {l : List ByteArray} (h : (cel b e (l.map encB)).F w) (hm : l.length ≤ maxLen) : Strs w ⟨some ⟨b, 0, none⟩, l.length, l.length⟩ l := by
  have h1 : (l.map encB) = (strs l).flatten := strs_flat l
  rw [h1] at h
  exact rows_of_cel h (by simp [strs]) hm (strs_one l)
theorem actsOk_of {c : ChainD} (hr : ∀ a ∈ c.actsL, a.Rng) (ht : ∀ a ∈ c.actsL, a.target.size ≤ maxLen) (h : shortV c = true) : ActsOk c.actsL ∧ c.actsL.length ≤ 24 := by
  simp only [shortV, Bool.and_eq_true, decide_eq_true_eq] at h
  refine ⟨⟨hr, fun a ha => ?_⟩, h.1⟩
  obtain ⟨i, hi, rfl⟩ := List.getElem_of_mem ha
  have h1 := List.all_eq_true.1 h.2 i (List.mem_range.2 hi)
  simp only [shortBad, List.getD_eq_getElem?_getD, List.getElem?_eq_getElem hi, Option.getD_some, Bool.not_eq_true', Bool.or_eq_false_iff, decide_eq_false_iff_not] at h1
  exact ⟨by omega, by omega, ht _ ha⟩
theorem eqL_refl (l : List ByteArray) : eqL l l = true := by
  rw [eqL, decide_eq_true rfl, Bool.true_and]
  refine allB_true fun j hj => ?_
  simp [eqBad, seqB]
section
variable {P : Program} {N : Nat} {av bor : List Nat} {w0 : World} {ops : Array Oper} {rest : List Oper} {kk : St → Prop} {E : Env} {loc : List Res} {X : World → Prop} {x y : Operand} {t t2 : TypeId}
variable {n : Nat} {ty : TypeId} {pos : String} {af : Array Edge} {g : Option (Nat × Bool)} {bb want : Bool}
theorem sy_bneV {p q : Bool} (r : Bool) [hI : TyBool P t] (hx : ev E x = some (.bool p) := by rfl) (hy : ev E y = some (.bool q) := by rfl) (hr : (p != q) = r) (hg : gdB ops E g = some (bb, want) := by rfl) (hbb : bb = want := by (first | with_reducible rfl | with_reducible assumption | with_reducible exact Bool.not_false | with_reducible exact Bool.not_true)) (hd : Nat.blt n N = true := by rfl) (h : Sw P N av bor w0 ops rest ⟨(n, .bool r) :: E, loc, X⟩ kk) :
    Sw P N av bor w0 ops (⟨some n, .binOp .neq t x y t2, ty, pos, af, g⟩ :: rest) ⟨E, loc, X⟩ kk := sy_bneq (hx := hx) (hy := hy) (hg := hg) (hbb := hbb) (hd := hd) (h := hr ▸ h)
theorem sy_neqF {k : IntKind} {a b : Int} (hx : ev E x = some (.int k a) := by rfl) (hy : ev E y = some (.int k b) := by rfl) (hab : a = b := by decide) (hg : gdB ops E g = some (bb, want) := by rfl) (hbb : bb = want := by (first | with_reducible rfl | with_reducible assumption | with_reducible exact Bool.not_false | with_reducible exact Bool.not_true)) (hd : Nat.blt n N = true := by rfl) (h : Sw P N av bor w0 ops rest ⟨(n, .bool false) :: E, loc, X⟩ kk) :
    Sw P N av bor w0 ops (⟨some n, .binOp .neq t x y t2, ty, pos, af, g⟩ :: rest) ⟨E, loc, X⟩ kk := sy_neq (hx := hx) (hy := hy) (hg := hg) (hbb := hbb) (hd := hd) (h := by
      have e : ∀ u, u = Value.bool false → Sw P N av bor w0 ops rest ⟨(n, u) :: E, loc, X⟩ kk := fun u hu => hu ▸ h
      exact e _ (by simp [hab]))
theorem sy_geqF {k : IntKind} {a b : Int} (hx : ev E x = some (.int k a) := by rfl) (hy : ev E y = some (.int k b) := by rfl) (hab : ¬ b ≤ a) (hg : gdB ops E g = some (bb, want) := by rfl) (hbb : bb = want := by (first | with_reducible rfl | with_reducible assumption | with_reducible exact Bool.not_false | with_reducible exact Bool.not_true)) (hd : Nat.blt n N = true := by rfl) (h : Sw P N av bor w0 ops rest ⟨(n, .bool false) :: E, loc, X⟩ kk) :
    Sw P N av bor w0 ops (⟨some n, .binOp .geq t x y t2, ty, pos, af, g⟩ :: rest) ⟨E, loc, X⟩ kk := sy_geq (hx := hx) (hy := hy) (hg := hg) (hbb := hbb) (hd := hd) (h := by
      have e : ∀ u, u = Value.bool false → Sw P N av bor w0 ops rest ⟨(n, u) :: E, loc, X⟩ kk := fun u hu => hu ▸ h
      exact e _ (by simp only [decide_eq_false hab]))
theorem sy_gtrT {k : IntKind} {a b : Int} (hx : ev E x = some (.int k a) := by rfl) (hy : ev E y = some (.int k b) := by rfl) (hab : b < a := by (first | decide | omega)) (hg : gdB ops E g = some (bb, want) := by rfl) (hbb : bb = want := by (first | with_reducible rfl | with_reducible assumption | with_reducible exact Bool.not_false | with_reducible exact Bool.not_true)) (hd : Nat.blt n N = true := by rfl) (h : Sw P N av bor w0 ops rest ⟨(n, .bool true) :: E, loc, X⟩ kk) :
    Sw P N av bor w0 ops (⟨some n, .binOp .gtr t x y t2, ty, pos, af, g⟩ :: rest) ⟨E, loc, X⟩ kk := sy_gtr (hx := hx) (hy := hy) (hg := hg) (hbb := hbb) (hd := hd) (h := by
      have e : ∀ u, u = Value.bool true → Sw P N av bor w0 ops rest ⟨(n, u) :: E, loc, X⟩ kk := fun u hu => hu ▸ h
      exact e _ (by simp [hab]))
theorem sy_gtrF {k : IntKind} {a b : Int} (hx : ev E x = some (.int k a) := by rfl) (hy : ev E y = some (.int k b) := by rfl) (hab : ¬ b < a) (hg : gdB ops E g = some (bb, want) := by rfl) (hbb : bb = want := by (first | with_reducible rfl | with_reducible assumption | with_reducible exact Bool.not_false | with_reducible exact Bool.not_true)) (hd : Nat.blt n N = true := by rfl) (h : Sw P N av bor w0 ops rest ⟨(n, .bool false) :: E, loc, X⟩ kk) :
    Sw P N av bor w0 ops (⟨some n, .binOp .gtr t x y t2, ty, pos, af, g⟩ :: rest) ⟨E, loc, X⟩ kk := sy_gtr (hx := hx) (hy := hy) (hg := hg) (hbb := hbb) (hd := hd) (h := by
      have e : ∀ u, u = Value.bool false → Sw P N av bor w0 ops rest ⟨(n, u) :: E, loc, X⟩ kk := fun u hu => hu ▸ h
      exact e _ (by simp [hab]))
end
structure RowI where
  A : Option Addr
  c : Nat
/-- The chain with another row of activities. -/
def ChainD.with (c : ChainD) (s : SlV) (l : List ActD) : ChainD := { c with acts := s, actsL := l }
theorem cells_len (l : List ActD) : ∀ r ∈ l.map ActD.cells, r.length = 20 := by
  intro r hr
  obtain ⟨a, _, rfl⟩ := List.mem_map.1 hr
  rfl
theorem acts_of_orow {w : World} {e n c : Nat} {A : Option Addr} {l : List ActD} (h : ORow w e 20 (.slice A n c) n (l.map ActD.cells).flatten) (hn : n = l.length) (ha : ∀ a ∈ l, a.at_ w) : Acts w ⟨A, n, c⟩ l :=
  ⟨rows_of_orow h (by simpa using hn) (cells_len l), ha⟩
theorem cells_ones (l : List ActD) : ∀ cs ∈ l.map ActD.cells, cs.all (·.oneCell') = true := by
  intro r hr
  obtain ⟨a, _, rfl⟩ := List.mem_map.1 hr
  rfl
section
variable {P : Program} {N : Nat} {av bor : List Nat} {w0 : World} {ops : Array Oper} {rest : List Oper} {kk : St → Prop} {E : Env} {loc : List Res} {X : World → Prop} {x y : Operand} {t t2 : TypeId}
variable {n : Nat} {ty : TypeId} {pos : String} {af : Array Edge} {g : Option (Nat × Bool)} {bb want : Bool}
theorem sy_beqV {p q : Bool} (r : Bool) [hI : TyBool P t] (hx : ev E x = some (.bool p) := by rfl) (hy : ev E y = some (.bool q) := by rfl) (hr : (p == q) = r) (hg : gdB ops E g = some (bb, want) := by rfl) (hbb : bb = want := by (first | with_reducible rfl | with_reducible assumption | with_reducible exact Bool.not_false | with_reducible exact Bool.not_true)) (hd : Nat.blt n N = true := by rfl) (h : Sw P N av bor w0 ops rest ⟨(n, .bool r) :: E, loc, X⟩ kk) :
    Sw P N av bor w0 ops (⟨some n, .binOp .eql t x y t2, ty, pos, af, g⟩ :: rest) ⟨E, loc, X⟩ kk := sy_beql (hx := hx) (hy := hy) (hg := hg) (hbb := hbb) (hd := hd) (h := hr ▸ h)
end
section
variable {P : Program} {N : Nat} {av bor : List Nat} {w0 : World} {ops : Array Oper} {rest : List Oper} {k : St → Prop} {E : Env} {loc : List Res} {X : World → Prop}
variable {d : Option Tmp} {ty : TypeId} {pos : String} {af : Array Edge} {g : Option (Nat × Bool)} {bb want : Bool}
/-- A call that is handed no resource and may hand some back. -/
theorem sw_fn0 {x : Operand} {xs : List Operand} {ats : Array TypeId} {f : FuncId} {first caps : Array Value} {args all : List Value} {X1 : World → Prop} {Post : Value → List Res → (World → Prop) → Prop}
    (hx : ev E x = some (.func (.func f) first caps) := by rfl) (ha : evs E xs = some args := by rfl) (hall : first.toList ++ args ++ caps.toList = all := by rfl) (hg : gdB ops E g = some (bb, want) := by rfl) (hb : bb = want := by (first | with_reducible rfl | with_reducible assumption | with_reducible exact Bool.not_false | with_reducible exact Bool.not_true)) (hd : inB N d = true := by rfl) (hf : FnBody P f := by infer_instance)
    (hc : Ct P f all.toArray [] X1 Post) (hX : ∀ w, X w → X1 w := by (first | exact fun _ _ => trivial | exact fun _ h => h | exact fun _ h => h.1 | exact fun _ h => h.2))
    (h : ∀ v R X', Post v R X' → Sw P N av bor w0 ops rest ⟨putE E d v, R ++ loc, fun w => X w ∧ X' w⟩ k) :
    Sw P N av bor w0 ops (⟨d, .call ⟨.value x, xs.toArray, ats⟩, ty, pos, af, g⟩ :: rest) ⟨E, loc, X⟩ k := sw_fn (pre := []) (fr := loc) hx ha hall hg hb hd hf hc hX h
end
theorem has21_has (l : List ByteArray) (x : ByteArray) : has21V l x = hasS l x := by
  unfold has21V hasS
  congr 1
  funext y
  exact seqB_comm y x
section
variable {P : Program} {N : Nat} {av bor : List Nat} {w0 : World} {st : St} {x y : Operand} {t t2 : TypeId} {ty : TypeId}
theorem y_sgeqF {a b : ByteArray} (hx : ev st.env x = some (.string a)) (hy : ev st.env y = some (.string b)) (hab : ltB a b = true) : Sy.Yields P N av bor w0 st (.binOp .geq t x y t2) ty (.bool false) := by
  have h := y_sgeq (P := P) (N := N) (av := av) (bor := bor) (w0 := w0) (t := t) (t2 := t2) (ty := ty) hx hy
  have e : (!Op.bytesLess a.toList b.toList) = false := by rw [show Op.bytesLess a.toList b.toList = true from hab]; rfl
  rwa [e] at h
end
theorem bneS (h : Bool) : ((!true || h) != h) = false := by cases h <;> rfl
theorem pu_weak {P : Program} {f : FuncId} {args : Array Value} {X X' : World → Prop} {v : Value} (h : Pu P f args X v) (hx : ∀ w, X' w → X w) : Pu P f args X' v := by
  unfold Pu at *
  exact Ct.mk fun w av G => (Ct.run h w av (G.imp hx)).mono fun e w' ⟨u, R, X1, he, hp, G'⟩ => ⟨u, R, X1, he, hp, G'⟩
end Go.Proofs.YtfpojkoddcdojaaGreatDoor
