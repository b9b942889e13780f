/- Laws more: a slice from an element on; slice literals of structs; parts of data rows. No program in sight. -/
import Derived.Test.YtfpojkoddcdojaaGreatDoorBu
import Derived.Test.YtfpojkoddcdojaaGreatDoorOs
set_option linter.unusedVariables false
set_option linter.unusedSimpArgs false
namespace Go.Proofs.YtfpojkoddcdojaaGreatDoor.Sy
open Go Go.RowKit

theorem CellAt.shift {w : World} {p : Option Addr} {k q : Nat} {u : Value} : CellAt w (p.map (·.add k)) q u ↔ CellAt w p (k + q) u := by
  cases p with
  | none => simp [CellAt]
  | some a => simp [CellAt, Addr_add_add]
theorem RowsD.take {w : World} {size : Nat} {s : SlV} {xs : List (List Value)} (h : RowsD w size s xs) {n : Nat} (hn : n ≤ xs.length) : RowsD w size ⟨s.p, n, s.c⟩ (xs.take n) := by
  refine ⟨by rw [List.length_take]; show n = _; omega, by have := h.cap; have := h.len; show n ≤ s.c; omega, h.max, fun i cs hi => h.row i cs ?_⟩
  rw [List.getElem?_take] at hi
  split at hi
  · exact hi
  · cases hi
def SlV.from (s : SlV) (size n : Nat) : SlV := ⟨if s.c = n then s.p else s.p.map (·.add (n * size)), s.n - n, s.c - n⟩
theorem RowsD.drop {w : World} {size : Nat} {s : SlV} {xs : List (List Value)} (h : RowsD w size s xs) {n : Nat} (hn : n ≤ xs.length) : RowsD w size (s.from size n) (xs.drop n) := by
  have h1 := h.len
  have h2 := h.cap
  have h3 := h.max
  refine ⟨by rw [List.length_drop]; show s.n - n = _; omega, by show s.n - n ≤ s.c - n; omega, by show s.c - n ≤ maxLen; omega, fun i cs hi => ?_⟩
  rw [List.getElem?_drop] at hi
  have hlt := (List.getElem?_eq_some_iff.1 hi).1
  have hr := h.row (n + i) cs hi
  have e : (s.from size n).p = s.p.map (·.add (n * size)) := by unfold SlV.from; rw [if_neg (by omega)]
  refine ⟨hr.1, by rw [e]; simpa using hr.2.1, fun j u hj => ?_⟩
  rw [e, CellAt.shift, ← Nat.add_assoc, ← Nat.add_mul]
  exact hr.2.2 j u hj

section
variable {P : Program} {N : Nat} {av bor : List Nat} {w0 : World} {ops : Array Oper} {rest : List Oper} {k : St → Prop} {E : Env} {loc loc' : List Res} {X : World → Prop}
variable {d : Option Tmp} {ty : TypeId} {pos : String} {af : Array Edge} {g : Option (Nat × Bool)} {bb want : Bool} {K : Exit → St → Prop}
/-- 's[l:]' of a slice. -/
theorem y_slcL {st : St} {x y : Operand} {t e size b' : Nat} [hI : TySl P t e size b'] {s : SlV} {kk : IntKind} {i : Int} (hx : ev st.env x = some s.v) (hy : ev st.env y = some (.int kk i)) (h0 : 0 ≤ i) (h1 : i ≤ (s.n : Int)) :
    Sy.Yields P N av bor w0 st (.slice t x (some y) none none) ty (s.from size i.toNat).v := Sy.Yields.mk fun A w ok d pos af g => by
  obtain ⟨p, m, c⟩ := s
  obtain ⟨hu, inf, hi, hs, hb⟩ := slOf_spec hI.out
  have hz := run_sizeOf (P := P) (w := w) (t := e) (n := size) (by simp [hi, hs])
  have hx' : ev st.env x = some (.slice p m c) := hx
  have h1' : i ≤ (m : Int) := h1
  simp [execOp, ok.eval hx', ok.eval hy, Instr.sliceAt, run_underlying hu, Instr.slice, Instr.sliceBounds, run_sliceBound, h0, h1', hz, SlV.v, SlV.from]
theorem sy_slcL {n : Nat} {x y : Operand} {t e size b' : Nat} [hI : TySl P t e size b'] {s : SlV} {kk : IntKind} {i : Int} (hx : ev E x = some s.v := by rfl) (hy : ev E y = some (.int kk i) := by rfl) (h0 : 0 ≤ i := by omega) (h1 : i ≤ (s.n : Int)) (hg : gdB ops E g = some (bb, want) := by rfl) (hbb : bb = want := by (first | with_reducible rfl | with_reducible assumption | with_reducible exact Bool.not_false | with_reducible exact Bool.not_true)) (hd : Nat.blt n N = true := by rfl)
    (h : Sw P N av bor w0 ops rest ⟨(n, (s.from size i.toNat).v) :: E, loc, X⟩ k) : Sw P N av bor w0 ops (⟨some n, .slice t x (some y) none none, ty, pos, af, g⟩ :: rest) ⟨E, loc, X⟩ k := sw_yield (y_slcL hx hy h0 h1) hg hbb hd h

theorem fill_rows (size : Nat) : ∀ (vs : List Value) (k : Nat) (pre z : List Value), (∀ v ∈ vs, v.cells.size = size) → pre.length = k * size → z.length = vs.length * size →
    Instr.fill (fun i => some (i * size, size)) (pre ++ z).toArray ((vs.zipIdx k).map fun p => (p.2, p.1)) = some (pre ++ vs.flatMap fun v => v.cells.toList).toArray
  | [], k, pre, z, _, _, hz => by
    have : z = [] := List.eq_nil_of_length_eq_zero (by simpa using hz)
    subst this
    simp [Instr.fill]
  | v :: vs, k, pre, z, h1, hp, hz => by
    have hv := h1 v List.mem_cons_self
    have hvl : v.cells.toList.length = size := by simpa using hv
    simp only [List.length_cons, Nat.add_mul, Nat.one_mul] at hz
    have ih := fill_rows size vs (k + 1) (pre ++ v.cells.toList) (z.drop size) (fun u hu => h1 u (List.mem_cons_of_mem _ hu)) (by rw [List.length_append, hp, hvl, Nat.add_mul, Nat.one_mul]) (by rw [List.length_drop]; omega)
    have h3 := fold_set pre.length v.cells.toList 0 (pre ++ z).toArray (by simp; omega)
    have h4 : (v.cells.zipIdx.foldl (fun cs (p : Value × Nat) => cs.setIfInBounds (k * size + p.2) p.1) (pre ++ z).toArray) = (pre ++ v.cells.toList ++ z.drop size).toArray := by
      rw [← Array.foldl_toList, Array.toList_zipIdx, ← hp, h3]
      simp [hv]
    simp only [List.zipIdx_cons, List.map_cons, Instr.fill]
    have hc : ¬ ((decide (v.cells.size ≠ size) || decide (k * size + v.cells.size > (pre ++ z).toArray.size)) = true) := by
      simp [hv]; omega
    rw [if_neg hc, h4, ih]
    simp [List.flatMap_cons]
/-- '[]T{x, y, ..}', T of whatever size. -/
theorem sw_bslS {n len : Nat} {t e size b' : Nat} [hs : TySl P t e size b'] {z : Value} [hz : TyZero P e z] {parts : List (Nat × Operand)} {vs css : List Value} (hzs : z.cells.size = size := by rfl) (hp : partsOf E 0 parts = some vs := by rfl) (hl : vs.length = len := by rfl) (hsz : (vs.all fun v => v.cells.size == size) = true) (hcs : (vs.flatMap fun v => v.cells.toList) = css)
    (hpos : Nat.ble (len * size) 1000000 = true := by rfl) (h0 : Nat.blt 0 (len * size) = true := by rfl) (hg : gdB ops E g = some (bb, want) := by rfl) (hb : bb = want := by (first | with_reducible rfl | with_reducible assumption | with_reducible exact Bool.not_false | with_reducible exact Bool.not_true)) (hd : Nat.blt n N = true := by rfl)
    (h : ∀ b, Sw P N av bor w0 ops rest ⟨(n, .slice (some ⟨b, 0, none⟩) len len) :: E, cel b e css :: loc, X⟩ k) : Sw P N av bor w0 ops (⟨some n, .buildSlice t len parts.toArray, ty, pos, af, g⟩ :: rest) ⟨E, loc, X⟩ k := Sw.mk fun a w ok => by
  have hd' : inB N (some n) = true := by have h1 : n < N := Nat.le_of_ble_eq_true hd; simpa [inB] using h1
  have hle : len * size ≤ 1000000 := Nat.le_of_ble_eq_true hpos
  have hlt : 0 < len * size := Nat.le_of_ble_eq_true h0
  obtain ⟨ht, inf, hi, hi1, hi2⟩ := slOf_spec hs.out
  have hsz1 : (sizeOf e).run P w = .ok size w := by simp [sizeOf, typeInfo, hi, hi1]
  have hzr : (zeroValue e).run P w = .ok z w := run_zero hz.out w
  simp only [wpList]
  rw [wanted_of ok (o := ⟨some n, .buildSlice t len parts.toArray, ty, pos, af, g⟩) hg]
  subst hb
  simp only [beq_self_eq_true, if_true]
  left
  unfold Oper.wp
  have hfill : ∀ Z : Array Value, Z.size = len * size → Instr.fill (fun i => some (i * size, size)) Z (parts.map fun p => (p.1, a.eval p.2)) = some css.toArray := fun Z hZ => by
    rw [partsOf_spec ok parts 0 vs hp, ← hcs]
    have := fill_rows size vs 0 [] Z.toList (fun v hv => by simpa using List.all_eq_true.1 hsz v hv) (by simp) (by simp [hZ, hl])
    simpa using this
  have hr : (execOp a.eval ⟨some n, .buildSlice t len parts.toArray, ty, pos, af, g⟩).run P w = .ok (.value (.slice (some ⟨w.heap.size, 0, none⟩) len len)) (w.alloc (.cells css.toArray e)) := by
    have hn : ¬ (16777216 < len * size) := by omega
    have hne : ¬ (len * size = 0) := by omega
    have hne2 : ¬ (len = 0 ∨ size = 0) := fun h => hne (by rcases h with h | h <;> simp [h])
    have hf := hfill ((Array.range (len * size)).map (fun x => z.cells[x % z.cells.size]!)) (by simp)
    simp [execOp, Instr.buildSlice, run_underlying ht, hsz1, hzr, hne, hne2, hn, hf, run_newRow']
  rw [hr]
  have ok' : Ok N av bor w0 ⟨E, cel w.heap.size e css :: loc, X⟩ a (w.alloc (.cells css.toArray e)) := ⟨ok.defers, ok.size, ok.env, ok.gam.new _ _ fun _ h => h⟩
  exact (h _).run _ _ (put_eq (some n) _ ▸ ok'.put hd' _)
/-! ways meet again -/
theorem sw_mono {todo : List Oper} {st : St} {k' : St → Prop} (hk : ∀ s, k s → k' s) (h : Sw P N av bor w0 ops todo st k) : Sw P N av bor w0 ops todo st k' := Sw.mk fun a w ok => by
  have mono : ∀ (todo : List Oper) a w, wpList P ops (post N av bor w0 (only k)) todo a w → wpList P ops (post N av bor w0 (only k')) todo a w := by
    intro todo
    induction todo with
    | nil =>
      rintro a w ⟨s, h1, h2⟩
      exact ⟨s, hk s h1, h2⟩
    | cons o rest ih =>
      intro a w h
      simp only [wpList] at h ⊢
      split
      · rename_i hw
        simp only [hw, if_true] at h
        rcases h with h | ⟨_, _, _, h⟩
        · exact .inl (oper_wp_mono ih h)
        · exact h.elim
      · rename_i hw
        simp only [hw] at h
        exact ih _ _ h
  exact mono _ _ _ (h.run a w ok)
/-- Behind the operations one of the states 'M i'. -/
theorem sw_meet {ι : Type} (M : ι → St) {todo : List Oper} {y : Code} {st : St} (h1 : Sw P N av bor w0 ops todo st (fun s => ∃ i, ∀ a w, Ok N av bor w0 s a w → Ok N av bor w0 (M i) a w)) (h2 : ∀ i, Cw P N av bor w0 y (M i) K) :
    Sw P N av bor w0 ops todo st (thn (fun s => Cw P N av bor w0 y s K) K .normal) := sw_mono (fun s ⟨i, hi⟩ => cw_to hi (h2 i)) h1
theorem cw_meet {ι : Type} (M : ι → St) {x y : Code} {st : St} (h1 : Cw P N av bor w0 x st (thn (fun s => ∃ i, ∀ a w, Ok N av bor w0 s a w → Ok N av bor w0 (M i) a w) K)) (h2 : ∀ i, Cw P N av bor w0 y (M i) K) :
    Cw P N av bor w0 x st (thn (fun s => Cw P N av bor w0 y s K) K) := cw_mono (fun e s h => by
  cases e with
  | normal =>
    obtain ⟨i, hi⟩ := h
    exact cw_to hi (h2 i)
  | _ => exact h) h1
end
end Go.Proofs.YtfpojkoddcdojaaGreatDoor.Sy
