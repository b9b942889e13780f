/- Laws of single operations more: cuts and bytes of strings, arrays, least and greatest, nil slices, maps' lengths and deletions, made slices, values read out of memory that is data. No program in sight. -/
import Derived.Test.YtfpojkoddcdojaaGreatDoorMp
import Derived.Test.YtfpojkoddcdojaaGreatDoorAq
set_option linter.unusedVariables false
set_option linter.unusedSimpArgs false
namespace Go.Proofs.YtfpojkoddcdojaaGreatDoor.Sy
open Go Go.RowKit Go.MapKept

def arrOf (P : Program) (t : TypeId) : Option (Nat × Nat) :=
  match P.underlying t with
  | some (.array n e) => bif oneCell P e then some (n, e) else none
  | _ => none
class TyArr (P : Program) (t : TypeId) (n e : outParam Nat) : Prop where out : arrOf P t = some (n, e)
theorem arrOf_spec {P : Program} {t n e : Nat} (h : arrOf P t = some (n, e)) : P.underlying t = some (.array n e) ∧ oneCell P e = true := by
  unfold arrOf at h
  split at h
  · rename_i n' e' he
    cases ho : oneCell P e' with
    | false => simp [ho] at h
    | true => simp [ho] at h; obtain ⟨rfl, rfl⟩ := h; exact ⟨he, ho⟩
  · cases h
class TyBool (P : Program) (t : TypeId) : Prop where out : P.underlying t = some .bool
def byteAt (s : ByteArray) (i : Nat) : Int := ((s.data.toList.getD i 0).toNat : Int)

section
variable {P : Program} {N : Nat} {av bor : List Nat} {w0 : World} {st : St} {ty : TypeId} {x y z : Operand} {t t2 : TypeId} {k : IntKind} {a b c : Int}
theorem y_strH {s : ByteArray} [hI : TyStr P t] (hx : ev st.env x = some (.string s)) (hy : ev st.env y = some (.int k a)) (h0 : 0 ≤ a) (h1 : a ≤ s.size) : Yields P N av bor w0 st (.slice t x none (some y) none) ty (.string (s.extract 0 a.toNat)) := Sy.Yields.mk fun A w ok d pos af g => by
  simp [execOp, ok.eval hx, ok.eval hy, Instr.sliceAt, run_underlying hI.out, run_slice_string_h w t s hI.out k a h0 h1]
theorem y_strL {s : ByteArray} [hI : TyStr P t] (hx : ev st.env x = some (.string s)) (hy : ev st.env y = some (.int k a)) (h0 : 0 ≤ a) (h1 : a ≤ s.size) : Yields P N av bor w0 st (.slice t x (some y) none none) ty (.string (s.extract a.toNat s.size)) := Sy.Yields.mk fun A w ok d pos af g => by
  simp [execOp, ok.eval hx, ok.eval hy, Instr.sliceAt, run_underlying hI.out, run_slice_string_l w t s hI.out k a h0 h1]
theorem y_strLH {s : ByteArray} {k' : IntKind} [hI : TyStr P t] (hx : ev st.env x = some (.string s)) (hy : ev st.env y = some (.int k a)) (hz : ev st.env z = some (.int k' b)) (h0 : 0 ≤ a) (h1 : a ≤ b) (h2 : b ≤ s.size) : Yields P N av bor w0 st (.slice t x (some y) (some z) none) ty (.string (s.extract a.toNat b.toNat)) := Sy.Yields.mk fun A w ok d pos af g => by
  simp [execOp, ok.eval hx, ok.eval hy, ok.eval hz, Instr.sliceAt, run_underlying hI.out, run_slice_string w t s k k' a b hI.out h0 h1 h2]
theorem y_strI {s : ByteArray} [hI : TyStr P t] (hx : ev st.env x = some (.string s)) (hy : ev st.env y = some (.int k a)) (h0 : 0 ≤ a) (h1 : a < s.size) : Yields P N av bor w0 st (.index t x y) ty (.int .u8 (byteAt s a.toNat)) := Sy.Yields.mk fun A w ok d pos af g => by
  have hn : a.toNat < s.data.size := by have : s.size = s.data.size := rfl; omega
  have hn' : a.toNat < s.size := hn
  have e : s[a.toNat] = s.data[a.toNat] := rfl
  have e2 : byteAt s a.toNat = ((s[a.toNat]'hn').toNat : Int) := by rw [byteAt, List.getD_eq_getElem?_getD, Array.getElem?_toList, Array.getElem?_eq_getElem hn]; rfl
  rw [e2]
  simp [execOp, ok.eval hx, ok.eval hy, run_index_string w t s k a hI.out, h0, h1]
theorem y_arrI {n e : Nat} {cs : Array Value} {v : Value} [hI : TyArr P t n e] (hx : ev st.env x = some (.agg cs)) (hy : ev st.env y = some (.int k a)) (h0 : 0 ≤ a) (h1 : a < n) (hv : cs[a.toNat]? = some v) : Yields P N av bor w0 st (.index t x y) ty v := Sy.Yields.mk fun A w ok d pos af g => by
  obtain ⟨hu, ho⟩ := arrOf_spec hI.out
  obtain ⟨h2, h3⟩ := oneCell_spec ho w
  simp [execOp, ok.eval hx, ok.eval hy, Instr.index, asIntOf, run_underlying hu, h0, h1, run_sizeOf h3, part, h2, hv]
theorem y_arrA {n e : Nat} {bl off q : Nat} [hI : TyArr P t n e] (hx : ev st.env x = some (.pointer (some ⟨bl, off, none⟩))) (hy : ev st.env y = some (.int k a)) (h0 : 0 ≤ a) (h1 : a < n) (hq : off + a.toNat = q) : Yields P N av bor w0 st (.indexAddr t x y) ty (.pointer (some ⟨bl, q, none⟩)) := Sy.Yields.mk fun A w ok d pos af g => by
  obtain ⟨hu, ho⟩ := arrOf_spec hI.out
  obtain ⟨h2, h3⟩ := oneCell_spec ho w
  have e1 : (⟨bl, off, none⟩ : Addr).add a.toNat = ⟨bl, q, none⟩ := by
    unfold Addr.add
    split
    · rename_i hz; rw [hz] at hq; simp at hq; subst hq; rfl
    · subst hq; rfl
  simp [execOp, ok.eval hx, ok.eval hy, Instr.indexAt, asIntOf, Instr.sureAddr, run_underlying hu, h0, h1, run_sizeOf h3, e1]
theorem y_min (hx : ev st.env x = some (.int k a)) (hy : ev st.env y = some (.int k b)) : Yields P N av bor w0 st (.call ⟨.builtin .min, #[x, y], #[t, t2]⟩) ty (.int k (if b < a then b else a)) := Sy.Yields.mk fun A w ok d pos af g => by
  simp [execOp, resolve, invoke, builtin, Builtin.min_, Builtin.min2, ok.eval hx, ok.eval hy]
theorem y_max (hx : ev st.env x = some (.int k a)) (hy : ev st.env y = some (.int k b)) : Yields P N av bor w0 st (.call ⟨.builtin .max, #[x, y], #[t, t2]⟩) ty (.int k (if a < b then b else a)) := Sy.Yields.mk fun A w ok d pos af g => by
  simp [execOp, resolve, invoke, builtin, Builtin.max_, Builtin.max2, ok.eval hx, ok.eval hy]
theorem y_beql {p q : Bool} [hI : TyBool P t] (hx : ev st.env x = some (.bool p)) (hy : ev st.env y = some (.bool q)) : Yields P N av bor w0 st (.binOp .eql t x y t2) ty (.bool (p == q)) := Sy.Yields.mk fun A w ok d pos af g => by
  simp [execOp, ok.eval hx, ok.eval hy, eqGuard, binOp, run_equal_bool w t p q hI.out]
theorem y_bneq {p q : Bool} [hI : TyBool P t] (hx : ev st.env x = some (.bool p)) (hy : ev st.env y = some (.bool q)) : Yields P N av bor w0 st (.binOp .neq t x y t2) ty (.bool (p != q)) := Sy.Yields.mk fun A w ok d pos af g => by
  simp [execOp, ok.eval hx, ok.eval hy, eqGuard, binOp, run_equal_bool w t p q hI.out]
  cases p <;> cases q <;> rfl
/-- A load of a cell that the memory holds. -/
theorem y_ldC {bl off : Nat} {v : Value} [hI : TyOne P t] (hx : ev st.env x = some (.pointer (some ⟨bl, off, none⟩))) (hF : ∀ w, st.ext w → w.cell? ⟨bl, off, none⟩ = some v) : Yields P N av bor w0 st (.load t x) ty v := Sy.Yields.mk fun A w ok d pos af g => by
  simp [execOp, ok.eval hx, Instr.loadAt, Instr.sureAddr, loadVar, (oneCell_spec hI.out w).1, hF w ok.gam.keep.now]
theorem y_ldCs {m : Nat} {bl : Nat} {cs : List Value} [hI : TyAgg P t m] (hx : ev st.env x = some (.pointer (some ⟨bl, 0, none⟩))) (hF : ∀ w, st.ext w → ∀ j v, cs[j]? = some v → w.cell? ⟨bl, j, none⟩ = some v) (hl : cs.length = m) : Yields P N av bor w0 st (.load t x) ty (.agg cs.toArray) := Sy.Yields.mk fun A w ok d pos af g => by
  have := run_loadVar_cells (P := P) (t := t) hI.out (w := w) (A := ⟨bl, 0, none⟩) hl (fun j v hj => by
    have e : (⟨bl, 0, none⟩ : Addr).add j = ⟨bl, j, none⟩ := by unfold Addr.add; split <;> simp_all
    rw [e]
    exact hF w ok.gam.keep.now j v hj)
  simp [execOp, ok.eval hx, Instr.loadAt, Instr.sureAddr, this]
/-- An array's literal, all of it. -/
theorem y_buildA {n e : Nat} {zv : Value} [hI : TyArr P t n e] [hz : TyZero P t zv] {parts : List (Nat × Operand)} {vs : List Value} (hx : partsOf st.env 0 parts = some vs) (h1 : vs.all (·.oneCell') = true) (hl : zv.cells.size = vs.length) :
    Yields P N av bor w0 st (.build t parts.toArray) ty (.agg vs.toArray) := Sy.Yields.mk fun A w ok d pos af g => by
  obtain ⟨hu, ho⟩ := arrOf_spec hI.out
  obtain ⟨h2, h3⟩ := oneCell_spec ho w
  have hz' := run_zero hz.out w
  have hp := partsOf_spec (E := st.env) (loc := st.loc) (X := st.ext) ok parts 0 vs hx
  have hf := fill_ones vs [] zv.cells.toList (by simpa using h1) (by simpa using hl)
  simp only [List.nil_append, List.length_nil, Array.toArray_toList] at hf
  rw [← hp] at hf
  simp only [Nat.mul_one] at hf
  simp [execOp, Instr.build, hz', run_underlying hu, run_sizeOf h3, hf]
end
theorem k_nonneg (k : IntKind) (hk : k.signed = false) (n : Int) : 0 ≤ k.wrap n := by
  cases k <;> first | (simp [IntKind.signed] at hk; done) | (simp only [IntKind.wrap, IntKind.bits, IntKind.signed]; simp; try exact Int.emod_nonneg _ (by decide))
theorem bitsV_nonneg (op : BinOp) (k : IntKind) (hk : k.signed = false) (a b : Int) : 0 ≤ bitsV op k a b := k_nonneg k hk _
section
variable {P : Program} {N : Nat} {av bor : List Nat} {w0 : World} {ops : Array Oper} {rest : List Oper} {k : St → Prop} {E : Env} {loc loc' : List Res} {X : World → Prop}
variable {d : Option Tmp} {ty : TypeId} {pos : String} {af : Array Edge} {g : Option (Nat × Bool)} {bb want : Bool} {K : Exit → St → Prop}
/-- 'make([]T, 0, c)'. -/
theorem sw_mkSl {n c : Nat} {t e size bytes : Nat} [hs : TySl P t e size bytes] {z : Value} [hz : TyZero P e z] {x y : Operand} (hx : ev E x = some (.int .i64 0) := by rfl) (hy : ev E y = some (.int .i64 (c : Int)) := by rfl) (hm : Nat.ble (bytes * c) 1000000 = true := by rfl) (hm2 : Nat.ble c 1000000 = true := by rfl)
    (hg : gdB ops E g = some (bb, want) := by rfl) (hb : bb = want := by (first | with_reducible rfl | with_reducible assumption | with_reducible exact Bool.not_false | with_reducible exact Bool.not_true)) (hd : Nat.blt n N = true := by rfl) (h : ∀ q, Sw P N av bor w0 ops rest ⟨(n, .slice (some ⟨q, 0, none⟩) 0 c) :: E, orow e size (.slice (some ⟨q, 0, none⟩) 0 c) 0 [] :: loc, X⟩ k) :
    Sw P N av bor w0 ops (⟨some n, .makeSlice t x y, ty, pos, af, g⟩ :: rest) ⟨E, loc, X⟩ k := Sw.mk fun a w ok => by
  have hd' : inB N (some n) = true := by have h1 : n < N := Nat.le_of_ble_eq_true hd; simpa [inB] using h1
  obtain ⟨ht, inf, hi, hi1, hi2⟩ := slOf_spec hs.out
  have hz1 : inf.zero = some z := by have := hz.out; simpa [zeroOf, hi] using this
  have h1 := Nat.le_of_ble_eq_true hm
  have h2 := Nat.le_of_ble_eq_true hm2
  have hby : (inf.bytes : Int) * (c : Int) ≤ 281474976710656 := by
    have h : ((inf.bytes * c : Nat) : Int) ≤ 281474976710656 := by rw [hi2]; omega
    rwa [Int.natCast_mul] at h
  have hr := run_make (P := P) w t e inf z ht hi hz1 .i64 .i64 0 (c : Int) (Int.le_refl _) (by omega) hby (by omega)
  simp only [Int.toNat_zero, Int.toNat_natCast] at hr
  simp only [wpList]
  rw [wanted_of ok (o := ⟨some n, .makeSlice t x y, ty, pos, af, g⟩) hg]
  subst hb
  simp only [beq_self_eq_true, if_true]
  left
  unfold Oper.wp
  have hr' : (execOp a.eval ⟨some n, .makeSlice t x y, ty, pos, af, g⟩).run P w = .ok (.value (.slice (some ⟨w.heap.size, 0, none⟩) 0 c)) (w.alloc (.cells (madeCells z.cells (c * inf.size)) e)) := by
    simp [execOp, ok.eval (st := ⟨E, loc, X⟩) hx, ok.eval (st := ⟨E, loc, X⟩) hy, hr]
  rw [hr']
  have G1 := ok.gam.new (.cells (madeCells z.cells (c * inf.size)) e) (fun w2 => ORow w2 e size (.slice (some ⟨w.heap.size, 0, none⟩) 0 c) 0 []) (fun w2 h => ⟨by simp, .inr ⟨w.heap.size, c, _, (0, 0), rfl, h, Nat.zero_le _, by simp only [maxLen]; omega, by rw [size_madeCells, hi1], by simp, .inl rfl⟩⟩)
  have ok' : Ok N av bor w0 ⟨E, orow e size (.slice (some ⟨w.heap.size, 0, none⟩) 0 c) 0 [] :: loc, X⟩ a (w.alloc (.cells (madeCells z.cells (c * inf.size)) e)) := ⟨ok.defers, ok.size, ok.env, G1⟩
  exact (h _).run _ _ (put_eq (some n) _ ▸ ok'.put hd' _)
end
section
variable {P : Program}
/-- A result that lies in a cell block. -/
theorem res_cell {fn : Func} {N t ty n : Nat} {s : St} {b T : Nat} {cs : List Value} [hI : TyAgg P ty n] (hr : fn.results = #[.cell t ty]) (h : look s.env t = some (.pointer (some ⟨b, 0, none⟩))) (hm : cel b T cs ∈ s.loc) (hn : cs.length = n) : Res1 P fn N s (.agg cs.toArray) := fun av bor w0 a w ok => by
  obtain ⟨D, h1, h2, h3⟩ := aggSize_spec hI.out
  have ht := ok.env t _ h
  have : (loadVar ty ⟨b, 0, none⟩).run P w = .ok (.agg cs.toArray) w := by
    cases D <;> simp at h2
    · exact run_loadVar_row w b T ty cs.toArray (0, 0) _ (cel_in ok hm) h1 rfl (by rw [h3]; simp [hn])
    · exact run_loadVar_row w b T ty cs.toArray (0, 0) _ (cel_in ok hm) h1 rfl (by rw [h3]; simp [hn])
  simp [results, hr, ht, asAddr, this]
end
/-! ### The same as steps of a walk -/
section
variable {P : Program} {N : Nat} {av bor : List Nat} {w0 : World} {ty : TypeId} {x y z : Operand} {t t2 : TypeId} {k : IntKind} {a b c : Int}
variable {E : Env} {loc : List Res} {X : World → Prop} {ops : Array Oper} {kk : St → Prop} {n : Nat} {pos : String} {af : Array Edge} {g : Option (Nat × Bool)} {rest : List Oper} {bb want : Bool}
theorem sy_strH {s : ByteArray} [hI : TyStr P t] (hx : ev E x = some (.string s) := by rfl) (hy : ev E y = some (.int k a) := by rfl) (h0 : 0 ≤ a := by (first | decide | omega)) (h1 : a ≤ s.size := by (first | decide | omega)) (hg : gdB ops E g = some (bb, want) := by rfl) (hbb : bb = want := by (first | with_reducible rfl | with_reducible assumption | with_reducible exact Bool.not_false | with_reducible exact Bool.not_true)) (hd : Nat.blt n N = true := by rfl) (h : Sw P N av bor w0 ops rest ⟨(n, .string (s.extract 0 a.toNat)) :: E, loc, X⟩ kk) :
    Sw P N av bor w0 ops (⟨some n, .slice t x none (some y) none, ty, pos, af, g⟩ :: rest) ⟨E, loc, X⟩ kk := sw_yield (y_strH hx hy h0 h1) hg hbb hd h
theorem sy_strL {s : ByteArray} [hI : TyStr P t] (hx : ev E x = some (.string s) := by rfl) (hy : ev E y = some (.int k a) := by rfl) (h0 : 0 ≤ a := by (first | decide | omega)) (h1 : a ≤ s.size := by (first | decide | omega)) (hg : gdB ops E g = some (bb, want) := by rfl) (hbb : bb = want := by (first | with_reducible rfl | with_reducible assumption | with_reducible exact Bool.not_false | with_reducible exact Bool.not_true)) (hd : Nat.blt n N = true := by rfl) (h : Sw P N av bor w0 ops rest ⟨(n, .string (s.extract a.toNat s.size)) :: E, loc, X⟩ kk) :
    Sw P N av bor w0 ops (⟨some n, .slice t x (some y) none none, ty, pos, af, g⟩ :: rest) ⟨E, loc, X⟩ kk := sw_yield (y_strL hx hy h0 h1) hg hbb hd h
theorem sy_strLH {s : ByteArray} {k' : IntKind} [hI : TyStr P t] (hx : ev E x = some (.string s) := by rfl) (hy : ev E y = some (.int k a) := by rfl) (hz : ev E z = some (.int k' b) := by rfl) (h0 : 0 ≤ a := by (first | decide | omega)) (h1 : a ≤ b := by (first | decide | omega)) (h2 : b ≤ s.size := by (first | decide | omega)) (hg : gdB ops E g = some (bb, want) := by rfl) (hbb : bb = want := by (first | with_reducible rfl | with_reducible assumption | with_reducible exact Bool.not_false | with_reducible exact Bool.not_true)) (hd : Nat.blt n N = true := by rfl) (h : Sw P N av bor w0 ops rest ⟨(n, .string (s.extract a.toNat b.toNat)) :: E, loc, X⟩ kk) :
    Sw P N av bor w0 ops (⟨some n, .slice t x (some y) (some z) none, ty, pos, af, g⟩ :: rest) ⟨E, loc, X⟩ kk := sw_yield (y_strLH hx hy hz h0 h1 h2) hg hbb hd h
theorem sy_strI {s : ByteArray} [hI : TyStr P t] (hx : ev E x = some (.string s) := by rfl) (hy : ev E y = some (.int k a) := by rfl) (h0 : 0 ≤ a := by (first | decide | omega)) (h1 : a < s.size := by (first | decide | omega)) (hg : gdB ops E g = some (bb, want) := by rfl) (hbb : bb = want := by (first | with_reducible rfl | with_reducible assumption | with_reducible exact Bool.not_false | with_reducible exact Bool.not_true)) (hd : Nat.blt n N = true := by rfl) (h : Sw P N av bor w0 ops rest ⟨(n, .int .u8 (byteAt s a.toNat)) :: E, loc, X⟩ kk) :
    Sw P N av bor w0 ops (⟨some n, .index t x y, ty, pos, af, g⟩ :: rest) ⟨E, loc, X⟩ kk := sw_yield (y_strI hx hy h0 h1) hg hbb hd h
theorem sy_arrI {n0 e : Nat} {cs : Array Value} {v : Value} [hI : TyArr P t n0 e] (hx : ev E x = some (.agg cs) := by rfl) (hy : ev E y = some (.int k a) := by rfl) (h0 : 0 ≤ a := by (first | decide | omega)) (h1 : a < n0 := by (first | decide | omega)) (hv : cs[a.toNat]? = some v := by rfl) (hg : gdB ops E g = some (bb, want) := by rfl) (hbb : bb = want := by (first | with_reducible rfl | with_reducible assumption | with_reducible exact Bool.not_false | with_reducible exact Bool.not_true)) (hd : Nat.blt n N = true := by rfl) (h : Sw P N av bor w0 ops rest ⟨(n, v) :: E, loc, X⟩ kk) :
    Sw P N av bor w0 ops (⟨some n, .index t x y, ty, pos, af, g⟩ :: rest) ⟨E, loc, X⟩ kk := sw_yield (y_arrI hx hy h0 h1 hv) hg hbb hd h
theorem sy_arrA {n0 e : Nat} {bl off q : Nat} [hI : TyArr P t n0 e] (hx : ev E x = some (.pointer (some ⟨bl, off, none⟩)) := by rfl) (hy : ev E y = some (.int k a) := by rfl) (h0 : 0 ≤ a := by (first | decide | omega)) (h1 : a < n0 := by (first | decide | omega)) (hq : off + a.toNat = q := by (first | rfl | omega)) (hg : gdB ops E g = some (bb, want) := by rfl) (hbb : bb = want := by (first | with_reducible rfl | with_reducible assumption | with_reducible exact Bool.not_false | with_reducible exact Bool.not_true)) (hd : Nat.blt n N = true := by rfl) (h : Sw P N av bor w0 ops rest ⟨(n, .pointer (some ⟨bl, q, none⟩)) :: E, loc, X⟩ kk) :
    Sw P N av bor w0 ops (⟨some n, .indexAddr t x y, ty, pos, af, g⟩ :: rest) ⟨E, loc, X⟩ kk := sw_yield (y_arrA hx hy h0 h1 hq) hg hbb hd h
theorem sy_min (hx : ev E x = some (.int k a) := by rfl) (hy : ev E y = some (.int k b) := by rfl) (hg : gdB ops E g = some (bb, want) := by rfl) (hbb : bb = want := by (first | with_reducible rfl | with_reducible assumption | with_reducible exact Bool.not_false | with_reducible exact Bool.not_true)) (hd : Nat.blt n N = true := by rfl) (h : Sw P N av bor w0 ops rest ⟨(n, .int k (if b < a then b else a)) :: E, loc, X⟩ kk) :
    Sw P N av bor w0 ops (⟨some n, .call ⟨.builtin .min, #[x, y], #[t, t2]⟩, ty, pos, af, g⟩ :: rest) ⟨E, loc, X⟩ kk := sw_yield (y_min hx hy) hg hbb hd h
theorem sy_max (hx : ev E x = some (.int k a) := by rfl) (hy : ev E y = some (.int k b) := by rfl) (hg : gdB ops E g = some (bb, want) := by rfl) (hbb : bb = want := by (first | with_reducible rfl | with_reducible assumption | with_reducible exact Bool.not_false | with_reducible exact Bool.not_true)) (hd : Nat.blt n N = true := by rfl) (h : Sw P N av bor w0 ops rest ⟨(n, .int k (if a < b then b else a)) :: E, loc, X⟩ kk) :
    Sw P N av bor w0 ops (⟨some n, .call ⟨.builtin .max, #[x, y], #[t, t2]⟩, ty, pos, af, g⟩ :: rest) ⟨E, loc, X⟩ kk := sw_yield (y_max hx hy) hg hbb hd h
theorem sy_beql {p q : Bool} [hI : TyBool P t] (hx : ev E x = some (.bool p) := by rfl) (hy : ev E y = some (.bool q) := by rfl) (hg : gdB ops E g = some (bb, want) := by rfl) (hbb : bb = want := by (first | with_reducible rfl | with_reducible assumption | with_reducible exact Bool.not_false | with_reducible exact Bool.not_true)) (hd : Nat.blt n N = true := by rfl) (h : Sw P N av bor w0 ops rest ⟨(n, .bool (p == q)) :: E, loc, X⟩ kk) :
    Sw P N av bor w0 ops (⟨some n, .binOp .eql t x y t2, ty, pos, af, g⟩ :: rest) ⟨E, loc, X⟩ kk := sw_yield (y_beql hx hy) hg hbb hd h
theorem sy_bneq {p q : Bool} [hI : TyBool P t] (hx : ev E x = some (.bool p) := by rfl) (hy : ev E y = some (.bool q) := by rfl) (hg : gdB ops E g = some (bb, want) := by rfl) (hbb : bb = want := by (first | with_reducible rfl | with_reducible assumption | with_reducible exact Bool.not_false | with_reducible exact Bool.not_true)) (hd : Nat.blt n N = true := by rfl) (h : Sw P N av bor w0 ops rest ⟨(n, .bool (p != q)) :: E, loc, X⟩ kk) :
    Sw P N av bor w0 ops (⟨some n, .binOp .neq t x y t2, ty, pos, af, g⟩ :: rest) ⟨E, loc, X⟩ kk := sw_yield (y_bneq hx hy) hg hbb hd h
theorem sy_ldC {bl off : Nat} {v : Value} [hI : TyOne P t] (hx : ev E x = some (.pointer (some ⟨bl, off, none⟩)) := by rfl) (hF : ∀ w, X w → w.cell? ⟨bl, off, none⟩ = some v) (hg : gdB ops E g = some (bb, want) := by rfl) (hbb : bb = want := by (first | with_reducible rfl | with_reducible assumption | with_reducible exact Bool.not_false | with_reducible exact Bool.not_true)) (hd : Nat.blt n N = true := by rfl) (h : Sw P N av bor w0 ops rest ⟨(n, v) :: E, loc, X⟩ kk) :
    Sw P N av bor w0 ops (⟨some n, .load t x, ty, pos, af, g⟩ :: rest) ⟨E, loc, X⟩ kk := sw_yield (y_ldC hx hF) hg hbb hd h
theorem sy_ldCs {m : Nat} {bl : Nat} {cs : List Value} [hI : TyAgg P t m] (hx : ev E x = some (.pointer (some ⟨bl, 0, none⟩)) := by rfl) (hF : ∀ w, X w → ∀ j v, cs[j]? = some v → w.cell? ⟨bl, j, none⟩ = some v) (hl : cs.length = m := by rfl) (hg : gdB ops E g = some (bb, want) := by rfl) (hbb : bb = want := by (first | with_reducible rfl | with_reducible assumption | with_reducible exact Bool.not_false | with_reducible exact Bool.not_true)) (hd : Nat.blt n N = true := by rfl) (h : Sw P N av bor w0 ops rest ⟨(n, .agg cs.toArray) :: E, loc, X⟩ kk) :
    Sw P N av bor w0 ops (⟨some n, .load t x, ty, pos, af, g⟩ :: rest) ⟨E, loc, X⟩ kk := sw_yield (y_ldCs hx hF hl) hg hbb hd h
theorem sy_buildA {n0 e : Nat} {zv : Value} [hI : TyArr P t n0 e] [hz : TyZero P t zv] {parts : List (Nat × Operand)} {vs : List Value} (hx : partsOf E 0 parts = some vs := by rfl) (h1 : vs.all (·.oneCell') = true := by rfl) (hl : zv.cells.size = vs.length := by rfl) (hg : gdB ops E g = some (bb, want) := by rfl) (hbb : bb = want := by (first | with_reducible rfl | with_reducible assumption | with_reducible exact Bool.not_false | with_reducible exact Bool.not_true)) (hd : Nat.blt n N = true := by rfl) (h : Sw P N av bor w0 ops rest ⟨(n, .agg vs.toArray) :: E, loc, X⟩ kk) :
    Sw P N av bor w0 ops (⟨some n, .build t parts.toArray, ty, pos, af, g⟩ :: rest) ⟨E, loc, X⟩ kk := sw_yield (y_buildA hx h1 hl) hg hbb hd h
end
end Go.Proofs.YtfpojkoddcdojaaGreatDoor.Sy
