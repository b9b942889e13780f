/- Slice literals, made slices. No program in sight. -/
import Derived.Test.YtfpojkoddcdojaaGreatDoorAp
set_option linter.unusedVariables false
set_option linter.unusedSimpArgs false
namespace Go.Proofs.YtfpojkoddcdojaaGreatDoor.Sy
open Go Go.RowKit

section
variable {P : Program} {N : Nat} {av bor : List Nat} {w0 : World} {ops : Array Oper} {rest : List Oper} {k : St → Prop} {E : Env} {loc loc' : List Res} {X : World → Prop}
variable {d : Option Tmp} {ty : TypeId} {pos : String} {af : Array Edge} {g : Option (Nat × Bool)} {bb want : Bool} {K : Exit → St → Prop}

theorem fill_ones : ∀ (vs pre z : List Value), (∀ v ∈ vs, v.oneCell' = true) → z.length = vs.length →
    Instr.fill (fun i => some (i * 1, 1)) (pre ++ z).toArray ((vs.zipIdx pre.length).map fun p => (p.2, p.1)) = some (pre ++ vs).toArray
  | [], pre, z, _, hz => by
    have : z = [] := List.eq_nil_of_length_eq_zero (by simpa using hz)
    subst this
    simp [Instr.fill]
  | v :: vs, pre, z, h1, hz => by
    cases z with
    | nil => simp at hz
    | cons y z =>
      have hv : v.cells = #[v] := by
        have := h1 v List.mem_cons_self
        cases v <;> first | rfl | (simp [Value.oneCell'] at this)
      have ih := fill_ones vs (pre ++ [v]) z (fun u hu => h1 u (List.mem_cons_of_mem _ hu)) (by simpa using hz)
      simp only [List.zipIdx_cons, List.map_cons, Instr.fill, hv]
      have e : ((pre ++ y :: z).toArray.setIfInBounds pre.length v) = (pre ++ [v] ++ z).toArray := by
        apply Array.ext'
        simp
      simp only [List.length_append, List.length_cons, List.length_nil, Nat.zero_add] at ih
      simp [e]
      simpa using ih
def partsOf (E : Env) : Nat → List (Nat × Operand) → Option (List Value)
  | _, [] => some []
  | i, (j, x) :: r =>
    bif Nat.beq i j then
      match ev E x, partsOf E (i + 1) r with
      | some v, some l => some (v :: l)
      | _, _ => none
    else none
theorem partsOf_spec {a : Act} {w : World} (ok : Ok N av bor w0 ⟨E, loc, X⟩ a w) : ∀ (l : List (Nat × Operand)) (i : Nat) (vs : List Value), partsOf E i l = some vs → (l.map fun p => (p.1, a.eval p.2)) = (vs.zipIdx i).map fun p => (p.2, p.1)
  | [], i, vs, h => by simp [partsOf] at h; subst h; rfl
  | (j, x) :: r, i, vs, h => by
    unfold partsOf at h
    cases hb : Nat.beq i j with
    | false => simp [hb] at h
    | true =>
      have e : i = j := Nat.eq_of_beq_eq_true hb
      subst e
      simp only [hb, cond_true] at h
      split at h
      · rename_i v l' hv hl
        simp at h
        subst h
        simp [ok.eval (st := ⟨E, loc, X⟩) hv, partsOf_spec ok r (i + 1) l' hl]
      · cases h
/-- '[]T{x, y, ..}', T of one cell. -/
theorem sw_bsl {n len : Nat} {t e b' : Nat} [hs : TySl P t e 1 b'] {z : Value} [hz : TyZero P e z] {parts : List (Nat × Operand)} {vs : List Value} (hp : partsOf E 0 parts = some vs := by rfl) (hl : vs.length = len := by rfl) (h1 : vs.all (·.oneCell') = true := by rfl)
    (hpos : Nat.ble len 1000000 = true := by rfl) (hg : gdB ops E g = some (bb, want) := by rfl) (hb : bb = want := by (first | with_reducible rfl | with_reducible assumption | with_reducible exact Bool.not_false | with_reducible exact Bool.not_true)) (hd : Nat.blt n N = true := by rfl)
    (h : ∀ b, Sw P N av bor w0 ops rest ⟨(n, .slice (some ⟨b, 0, none⟩) len len) :: E, cel b e vs :: loc, X⟩ k) : Sw P N av bor w0 ops (⟨some n, .buildSlice t len parts.toArray, ty, pos, af, g⟩ :: rest) ⟨E, loc, X⟩ k := Sw.mk fun a w ok => by
  have hd' : inB N (some n) = true := by have h1 : n < N := Nat.le_of_ble_eq_true hd; simpa [inB] using h1
  have hle : len ≤ 1000000 := Nat.le_of_ble_eq_true hpos
  obtain ⟨ht, inf, hi, hi1, hi2⟩ := slOf_spec hs.out
  have hsz : (sizeOf e).run P w = .ok 1 w := by simp [sizeOf, typeInfo, hi, hi1]
  have hzr : (zeroValue e).run P w = .ok z w := run_zero hz.out w
  simp only [wpList]
  rw [wanted_of ok (o := ⟨some n, .buildSlice t len parts.toArray, ty, pos, af, g⟩) hg]
  subst hb
  simp only [beq_self_eq_true, if_true]
  left
  unfold Oper.wp
  have hfill : ∀ Z : Array Value, Z.size = len → Instr.fill (fun i => some (i * 1, 1)) Z (parts.map fun p => (p.1, a.eval p.2)) = some vs.toArray := fun Z hZ => by
    rw [partsOf_spec ok parts 0 vs hp]
    have := fill_ones vs [] Z.toList (by simpa using h1) (by simp [hZ, hl])
    simpa using this
  have hr : (execOp a.eval ⟨some n, .buildSlice t len parts.toArray, ty, pos, af, g⟩).run P w = .ok (.value (.slice (some ⟨w.heap.size, 0, none⟩) len len)) (w.alloc (.cells vs.toArray e)) := by
    have hn : ¬ (16777216 < len) := by omega
    by_cases h0 : len = 0
    · subst h0
      have hf := hfill #[] rfl
      have hr0 : ∀ f : Nat → Value, Array.map f (Array.range 0) = #[] := fun f => Array.eq_empty_of_size_eq_zero (by simp)
      simp at hf
      simp [execOp, Instr.buildSlice, run_underlying ht, hsz, hf, hr0, run_newRow']
    · have hf := hfill ((Array.range len).map (fun x => z.cells[x % z.cells.size]!)) (by simp)
      simp at hf
      simp [execOp, Instr.buildSlice, run_underlying ht, hsz, hzr, h0, hn, hf, run_newRow']
  rw [hr]
  have ok' : Ok N av bor w0 ⟨E, cel w.heap.size e vs :: loc, X⟩ a (w.alloc (.cells vs.toArray e)) := ⟨ok.defers, ok.size, ok.env, ok.gam.new _ _ fun _ h => h⟩
  exact (h _).run _ _ (put_eq (some n) _ ▸ ok'.put hd' _)
end
end Go.Proofs.YtfpojkoddcdojaaGreatDoor.Sy
