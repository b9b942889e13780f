/- Struct literals. No program in sight. -/
import Derived.Test.YtfpojkoddcdojaaGreatDoorMp
set_option linter.unusedVariables false
set_option linter.unusedSimpArgs false
namespace Go.Proofs.YtfpojkoddcdojaaGreatDoor.Sy
open Go Go.RowKit

theorem fold_set (off : Nat) : ∀ (vs : List Value) (i : Nat) (cur : Array Value), off + i + vs.length ≤ cur.size →
    (vs.zipIdx i).foldl (fun cs (p : Value × Nat) => cs.setIfInBounds (off + p.2) p.1) cur = (cur.toList.take (off + i) ++ vs ++ cur.toList.drop (off + i + vs.length)).toArray
  | [], i, cur, _ => by simp
  | v :: vs, i, cur, h => by
    simp only [List.length_cons] at h
    rw [List.zipIdx_cons, List.foldl_cons, fold_set off vs (i + 1) _ (by simp; omega)]
    have e := list_seg_step cur.toList (off + i) v vs (by simp; omega)
    congr 1
    simpa [Array.toList_setIfInBounds, Nat.add_assoc] using e
def fillL (pl : List (Nat × Nat)) : List Value → List (Nat × Value) → Option (List Value)
  | cs, [] => some cs
  | cs, (i, v) :: r =>
    match pl[i]? with
    | none => none
    | some (off, size) => bif Nat.beq v.cells.size size && Nat.ble (off + size) cs.length then fillL pl (cs.take off ++ v.cells.toList ++ cs.drop (off + size)) r else none
theorem fillL_spec (pl : List (Nat × Nat)) : ∀ (vs : List (Nat × Value)) (cs cs' : List Value), fillL pl cs vs = some cs' → Instr.fill (pl.toArray[·]?) cs.toArray vs = some cs'.toArray
  | [], cs, cs', h => by simp [fillL] at h; subst h; rfl
  | (i, v) :: r, cs, cs', h => by
    unfold fillL at h
    cases hp : pl[i]? with
    | none => simp [hp] at h
    | some q =>
      obtain ⟨off, size⟩ := q
      simp only [hp] at h
      cases hb : Nat.beq v.cells.size size && Nat.ble (off + size) cs.length with
      | false => simp [hb] at h
      | true =>
        simp only [hb, cond_true] at h
        have hb' := (Bool.and_eq_true _ _).mp hb
        have h1 : v.cells.size = size := Nat.eq_of_beq_eq_true hb'.1
        have h2 : off + size ≤ cs.length := Nat.le_of_ble_eq_true hb'.2
        have h3 := fold_set off v.cells.toList 0 cs.toArray (by simp; omega)
        have h4 : (v.cells.zipIdx.foldl (fun cs (p : Value × Nat) => cs.setIfInBounds (off + p.2) p.1) cs.toArray) = (cs.take off ++ v.cells.toList ++ cs.drop (off + size)).toArray := by
          rw [← Array.foldl_toList, Array.toList_zipIdx, h3]
          simp [h1]
        have ih := fillL_spec pl r _ _ h
        have hp' : pl.toArray[i]? = some (off, size) := by simpa using hp
        unfold Instr.fill
        simp only [hp']
        rw [if_neg (by simp [h1]; omega), ← ih, ← h4]
section
variable {P : Program} {N : Nat} {av bor : List Nat} {w0 : World} {ops : Array Oper} {rest : List Oper} {k : St → Prop} {E : Env} {loc loc' : List Res} {X : World → Prop}
variable {d : Option Tmp} {ty : TypeId} {pos : String} {af : Array Edge} {g : Option (Nat × Bool)} {bb want : Bool} {K : Exit → St → Prop}
theorem run_places {w : World} : ∀ (fs : List Field) (pl : List (Nat × Nat)), fs.mapM (fun f => (P.info? f.type).map fun i => (f.offset, i.size)) = some pl →
    (fs.mapM fun f => (Prod.mk f.offset <$> sizeOf f.type : Sem (Nat × Nat))).run P w = .ok pl w
  | [], pl, h => by simp at h; subst h; simp
  | f :: fs, pl, h => by
    simp only [List.mapM_cons, Option.bind_eq_bind, Option.bind_eq_some_iff, Option.map_eq_some_iff, Option.pure_def, Option.some.injEq] at h
    obtain ⟨q, ⟨i, hi, rfl⟩, l, hl, rfl⟩ := h
    have hs := run_sizeOf (P := P) (w := w) (t := f.type) (n := i.size) (by simp [hi])
    simp [List.mapM_cons, hs, run_places fs l hl]
def partsE (E : Env) : List (Nat × Operand) → Option (List (Nat × Value))
  | [] => some []
  | (j, x) :: r =>
    match ev E x, partsE E r with
    | some v, some l => some ((j, v) :: l)
    | _, _ => none
theorem partsE_spec {st : St} {a : Act} {w : World} (ok : Ok N av bor w0 st a w) : ∀ (l : List (Nat × Operand)) (vs : List (Nat × Value)), partsE st.env l = some vs → (l.map fun p => (p.1, a.eval p.2)) = vs
  | [], vs, h => by simp [partsE] at h; subst h; rfl
  | (j, x) :: r, vs, h => by
    unfold partsE at h
    split at h
    · rename_i v l' hv hl
      simp at h
      subst h
      simp [ok.eval hv, partsE_spec ok r l' hl]
    · cases h
/-- 'T{x: y, ..}'. -/
theorem y_build {st : St} {t : TypeId} {z : Value} [hz : TyZero P t z] {pl : List (Nat × Nat)} [hp : TyPl P t pl] {parts : List (Nat × Operand)} {vs : List (Nat × Value)} {cs : List Value}
    (hx : partsE st.env parts = some vs) (hf : fillL pl z.cells.toList vs = some cs) : Sy.Yields P N av bor w0 st (.build t parts.toArray) ty (.agg cs.toArray) := Sy.Yields.mk fun A w ok d pos af g => by
  have hz' := run_zero hz.out w
  have h1 := hp.out
  unfold plOf at h1
  split at h1
  · rename_i fs hu
    have h2 := run_places (w := w) fs.toList pl h1
    have h3 : (fs.mapM fun f => (Prod.mk f.offset <$> sizeOf f.type : Sem (Nat × Nat))).run P w = .ok pl.toArray w := by
      have e : fs = fs.toList.toArray := by simp
      rw [e, List.mapM_toArray]
      simp [Sem.run_bind, h2] 
    have h4 := partsE_spec ok parts vs hx
    have h5 := fillL_spec pl vs _ _ hf
    simp only [Array.toArray_toList, List.getElem?_toArray] at h5
    simp [execOp, Instr.build, hz', run_underlying hu, h3, h4, h5]
  · cases h1
theorem sy_build {n : Nat} {t : TypeId} {z : Value} [hz : TyZero P t z] {pl : List (Nat × Nat)} [hp : TyPl P t pl] {parts : List (Nat × Operand)} {vs : List (Nat × Value)} {cs : List Value}
    (hx : partsE E parts = some vs := by rfl) (hf : fillL pl z.cells.toList vs = some cs := by rfl) (hg : gdB ops E g = some (bb, want) := by rfl) (hbb : bb = want := by (first | with_reducible rfl | with_reducible assumption | with_reducible exact Bool.not_false | with_reducible exact Bool.not_true)) (hd : Nat.blt n N = true := by rfl) (h : Sw P N av bor w0 ops rest ⟨(n, .agg cs.toArray) :: E, loc, X⟩ k) :
    Sw P N av bor w0 ops (⟨some n, .build t parts.toArray, ty, pos, af, g⟩ :: rest) ⟨E, loc, X⟩ k := sw_yield (y_build hx hf) hg hbb hd h
end
end Go.Proofs.YtfpojkoddcdojaaGreatDoor.Sy
