/- Laws more: nil slices, parts of a struct stored, empty slices, rows of the call's own that become data, clones. No program in sight. -/
import Derived.Test.YtfpojkoddcdojaaGreatDoorOq
import Derived.Laws.Cover3
import Derived.Lib.LazyBuf
set_option linter.unusedVariables false
set_option linter.unusedSimpArgs false
namespace Go.Proofs.YtfpojkoddcdojaaGreatDoor.Sy
open Go Go.RowKit

section
variable {P : Program} {N : Nat} {av bor : List Nat} {w0 : World} {ops : Array Oper} {rest : List Oper} {k : St → Prop} {E : Env} {loc loc' : List Res} {X : World → Prop}
variable {d : Option Tmp} {ty : TypeId} {pos : String} {af : Array Edge} {g : Option (Nat × Bool)} {bb want : Bool} {K : Exit → St → Prop}
theorem y_slNil {st : St} {x y : Operand} {t t2 e n b' : Nat} {p : Option Addr} {m c : Nat} [hI : TySl P t e n b'] (hx : ev st.env x = some (.slice p m c)) (hy : ev st.env y = some (.slice none 0 0)) : Sy.Yields P N av bor w0 st (.binOp .eql t x y t2) ty (.bool p.isNone) := Sy.Yields.mk fun A w ok d pos af g => by
  have := Lib.run_eql_slice_nil (P := P) w t e p m c 0 0 (slOf_spec hI.out).1
  simp [execOp, ok.eval hx, ok.eval hy, eqGuard, this]
theorem sy_slNil {nn : Nat} {x y : Operand} {t t2 e n b' : Nat} {p : Option Addr} {m c : Nat} [hI : TySl P t e n b'] (hx : ev E x = some (.slice p m c) := by rfl) (hy : ev E y = some (.slice none 0 0) := by rfl) (hg : gdB ops E g = some (bb, want) := by rfl) (hbb : bb = want := by (first | with_reducible rfl | with_reducible assumption | with_reducible exact Bool.not_false | with_reducible exact Bool.not_true)) (hd : Nat.blt nn N = true := by rfl)
    (h : Sw P N av bor w0 ops rest ⟨(nn, .bool p.isNone) :: E, loc, X⟩ k) : Sw P N av bor w0 ops (⟨some nn, .binOp .eql t x y t2, ty, pos, af, g⟩ :: rest) ⟨E, loc, X⟩ k := sw_yield (y_slNil hx hy) hg hbb hd h
theorem sy_eqlT {n : Nat} {x y : Operand} {t t2 : TypeId} {kk : IntKind} {a b : Int} (hx : ev E x = some (.int kk a) := by rfl) (hy : ev E y = some (.int kk b) := by rfl) (hab : a = b := by decide) (hg : gdB ops E g = some (bb, want) := by rfl) (hbb : bb = want := by (first | with_reducible rfl | with_reducible assumption | with_reducible exact Bool.not_false | with_reducible exact Bool.not_true)) (hd : Nat.blt n N = true := by rfl) (h : Sw P N av bor w0 ops rest ⟨(n, .bool true) :: E, loc, X⟩ k) :
    Sw P N av bor w0 ops (⟨some n, .binOp .eql t x y t2, ty, pos, af, g⟩ :: rest) ⟨E, loc, X⟩ k := sw_yield (by have := y_eql (P := P) (N := N) (av := av) (bor := bor) (w0 := w0) (st := ⟨E, loc, X⟩) (ty := ty) (t := t) (t2 := t2) hx hy; rwa [decide_eq_true hab] at this) hg hbb hd h
theorem sy_eqlF {n : Nat} {x y : Operand} {t t2 : TypeId} {kk : IntKind} {a b : Int} (hx : ev E x = some (.int kk a) := by rfl) (hy : ev E y = some (.int kk b) := by rfl) (hab : ¬ a = b := by decide) (hg : gdB ops E g = some (bb, want) := by rfl) (hbb : bb = want := by (first | with_reducible rfl | with_reducible assumption | with_reducible exact Bool.not_false | with_reducible exact Bool.not_true)) (hd : Nat.blt n N = true := by rfl) (h : Sw P N av bor w0 ops rest ⟨(n, .bool false) :: E, loc, X⟩ k) :
    Sw P N av bor w0 ops (⟨some n, .binOp .eql t x y t2, ty, pos, af, g⟩ :: rest) ⟨E, loc, X⟩ k := sw_yield (by have := y_eql (P := P) (N := N) (av := av) (bor := bor) (w0 := w0) (st := ⟨E, loc, X⟩) (ty := ty) (t := t) (t2 := t2) hx hy; rwa [decide_eq_false hab] at this) hg hbb hd h
/-- A part of a struct is stored. -/
theorem sw_stSub {m : Nat} {t : TypeId} {x y : Operand} {b off T : Nat} {cs vs : List Value} (cs' : List Value) {arr : Array Value} [ht : TyAgg P t m] (hx : ev E x = some (.pointer (some ⟨b, off, none⟩)) := by rfl) (hy : ev E y = some (.agg arr) := by rfl) (hv : arr.toList = vs := by (first | exact List.toList_toArray | rfl))
    (hA : At (cel b T cs) (cel b T cs') loc loc' := by (repeat (first | exact At.here _ | apply At.there))) (hm : vs.length = m := by rfl) (hl : Nat.ble (off + m) cs.length = true := by rfl) (h1 : vs.all (·.oneCell') = true := by rfl) (hc2 : cs.take off ++ vs ++ cs.drop (off + m) = cs' := by rfl) (hg : gdB ops E g = some (bb, want) := by rfl) (hb : bb = want := by (first | with_reducible rfl | with_reducible assumption | with_reducible exact Bool.not_false | with_reducible exact Bool.not_true)) (hd : inB N d = true := by rfl)
    (h : Sw P N av bor w0 ops rest ⟨putE E d undef, loc', X⟩ k) : Sw P N av bor w0 ops (⟨d, .store t x y, ty, pos, af, g⟩ :: rest) ⟨E, loc, X⟩ k := by
  obtain ⟨_, _, _, h3⟩ := aggSize_spec (TyAgg.out (P := P) (t := t))
  exact sw_store (vs := vs) (cs := cs) (cs' := cs') (by rw [h3, hm]) hx hy (by simpa [Value.cells] using hv) h1 (by have := Nat.le_of_ble_eq_true hl; omega) (by rw [hm]; exact hc2) hA hg hb hd h
/-- '[]T{}', T of whatever size. -/
theorem sw_bsl0 {n : Nat} {t e size b' : Nat} [hs : TySl P t e size b'] (hg : gdB ops E g = some (bb, want) := by rfl) (hb : bb = want := by (first | with_reducible rfl | with_reducible assumption | with_reducible exact Bool.not_false | with_reducible exact Bool.not_true)) (hd : Nat.blt n N = true := by rfl)
    (h : ∀ b, Sw P N av bor w0 ops rest ⟨(n, .slice (some ⟨b, 0, none⟩) 0 0) :: E, orow e size (.slice (some ⟨b, 0, none⟩) 0 0) 0 [] :: loc, X⟩ k) : Sw P N av bor w0 ops (⟨some n, .buildSlice t 0 #[], ty, pos, af, g⟩ :: rest) ⟨E, loc, X⟩ k := Sw.mk fun a w ok => by
  have hd' : inB N (some n) = true := by have h1 : n < N := Nat.le_of_ble_eq_true hd; simpa [inB] using h1
  obtain ⟨ht, inf, hi, hi1, hi2⟩ := slOf_spec hs.out
  have hsz : (sizeOf e).run P w = .ok size w := by simp [sizeOf, typeInfo, hi, hi1]
  simp only [wpList]
  rw [wanted_of ok (o := ⟨some n, .buildSlice t 0 #[], ty, pos, af, g⟩) hg]
  subst hb
  simp only [beq_self_eq_true, if_true]
  left
  unfold Oper.wp
  have hr : (execOp a.eval ⟨some n, .buildSlice t 0 #[], ty, pos, af, g⟩).run P w = .ok (.value (.slice (some ⟨w.heap.size, 0, none⟩) 0 0)) (w.alloc (.cells #[] e)) := by
    have hr0 : ∀ f : Nat → Value, Array.map f (Array.range 0) = #[] := fun f => Array.eq_empty_of_size_eq_zero (by simp)
    simp [execOp, Instr.buildSlice, run_underlying ht, hsz, Instr.fill, hr0, run_newRow']
  rw [hr]
  have G1 := ok.gam.new (.cells #[] e) (fun w2 => ORow w2 e size (.slice (some ⟨w.heap.size, 0, none⟩) 0 0) 0 []) (fun w2 h => ⟨by simp, .inr ⟨w.heap.size, 0, _, (0, 0), rfl, h, Nat.le_refl _, Nat.zero_le _, by simp, by simp, .inl rfl⟩⟩)
  have ok' : Ok N av bor w0 ⟨E, orow e size (.slice (some ⟨w.heap.size, 0, none⟩) 0 0) 0 [] :: loc, X⟩ a (w.alloc (.cells #[] e)) := ⟨ok.defers, ok.size, ok.env, G1⟩
  exact (h _).run _ _ (put_eq (some n) _ ▸ ok'.put hd' _)
end

/-! ### Rows of the call's own become data -/
theorem flatten_get {size : Nat} : ∀ (xs : List (List Value)) (i : Nat) (cs : List Value), (∀ r ∈ xs, r.length = size) → xs[i]? = some cs → ∀ j u, cs[j]? = some u → xs.flatten[i * size + j]? = some u
  | [], i, cs, _, h, j, u, _ => by simp at h
  | r :: xs, 0, cs, hl, h, j, u, hj => by
    simp at h
    subst h
    have h1 := (List.getElem?_eq_some_iff.1 hj).1
    rw [List.flatten_cons, Nat.zero_mul, Nat.zero_add, List.getElem?_append_left h1, hj]
  | r :: xs, i + 1, cs, hl, h, j, u, hj => by
    have h1 : r.length = size := hl r List.mem_cons_self
    rw [List.flatten_cons, List.getElem?_append_right (by rw [h1, Nat.add_mul]; omega), h1, show (i + 1) * size + j - size = i * size + j from by rw [Nat.add_mul]; omega]
    exact flatten_get xs i cs (fun q hq => hl q (List.mem_cons_of_mem _ hq)) (by simpa using h) j u hj
theorem flatten_len {size : Nat} (xs : List (List Value)) (h : ∀ r ∈ xs, r.length = size) : xs.flatten.length = xs.length * size := by
  rw [List.length_flatten]
  have : ∀ x ∈ xs.map List.length, x = size := by
    intro x hx
    obtain ⟨cs, hcs, rfl⟩ := List.mem_map.1 hx
    exact h cs hcs
  rw [List.eq_replicate_of_mem this]
  simp
theorem rows_of_orow {w : World} {e size n c : Nat} {A : Option Addr} {xs : List (List Value)} (h : ORow w e size (.slice A n c) n xs.flatten) (hn : n = xs.length) (hs : ∀ r ∈ xs, r.length = size) : RowsD w size ⟨A, n, c⟩ xs := by
  rcases h.2 with ⟨h1, h2⟩ | ⟨g, cap, cur, fz, h1, hg, hnc, hcm, hcs, htake, hfz⟩
  · have hx : xs = [] := List.eq_nil_of_length_eq_zero (by omega)
    subst hx
    simp only [Value.slice.injEq] at h1
    obtain ⟨rfl, rfl, rfl⟩ := h1
    exact ⟨rfl, Nat.le_refl _, Nat.zero_le _, fun i cs hi => by simp at hi⟩
  · simp only [Value.slice.injEq] at h1
    obtain ⟨rfl, _, rfl⟩ := h1
    refine ⟨hn, hnc, hcm, fun i cs hi => ⟨hs cs (List.mem_of_getElem? hi), rfl, fun j u hj => ⟨rfl, fun a ha => ?_⟩⟩⟩
    cases ha
    have hf := flatten_get xs i cs hs hi j u hj
    have hadd : (⟨g, 0, none⟩ : Addr).add (i * size + j) = ⟨g, i * size + j, none⟩ := by unfold Addr.add; split <;> simp_all
    rw [hadd, cell_of_row w g _ cur e fz hg]
    rw [← htake, List.getElem?_take] at hf
    split at hf
    · simpa using hf
    · cases hf
theorem orow_of_cel {w : World} {b e size n : Nat} {cs : List Value} (h : w.heap[b]? = some (.cells cs.toArray e (0, 0))) (hl : cs.length = n * size) (hm : n ≤ maxLen) : ORow w e size (.slice (some ⟨b, 0, none⟩) n n) n cs :=
  ⟨hl, .inr ⟨b, n, _, (0, 0), rfl, h, Nat.le_refl _, hm, by simpa using hl, by simp [← hl], .inl rfl⟩⟩
theorem rows_of_cel {w : World} {b e size n : Nat} {xs : List (List Value)} (h : w.heap[b]? = some (.cells xs.flatten.toArray e (0, 0))) (hn : n = xs.length) (hm : n ≤ maxLen) (hs : ∀ r ∈ xs, r.length = size) : RowsD w size ⟨some ⟨b, 0, none⟩, n, n⟩ xs :=
  rows_of_orow (orow_of_cel h (by rw [flatten_len xs hs, hn]) hm) hn hs
theorem RowsD.none_nil {w : World} {size : Nat} {s : SlV} {xs : List (List Value)} (h : RowsD w size s xs) (hp : s.p.isNone = true) : xs = [] := by
  cases xs with
  | nil => rfl
  | cons cs r =>
    have := (h.row 0 cs rfl).2.1
    cases hq : s.p <;> simp_all
theorem rowsD_nil (w : World) (size : Nat) : RowsD w size ⟨none, 0, 0⟩ [] := ⟨rfl, Nat.le_refl _, Nat.zero_le _, fun i cs hi => by simp at hi⟩
/-- What a clone hands back. -/
def CloneAt (size : Nat) (xs : List (List Value)) (u : Value) (X : World → Prop) : Prop := ∃ s : SlV, u = s.v ∧ s.n = xs.length ∧ ∀ w, X w → RowsD w size s xs
end Go.Proofs.YtfpojkoddcdojaaGreatDoor.Sy
