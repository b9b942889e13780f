/- Laws more for the calculus of XSy: ranges over strings; reading slices that are data; pure facts. No program in sight. -/
import Derived.Test.YtfpojkoddcdojaaGreatDoorDo
set_option linter.unusedVariables false
namespace Go.Proofs.YtfpojkoddcdojaaGreatDoor.Sy
open Go Go.RowKit

section
variable {P : Program} {N : Nat} {av bor : List Nat} {w0 : World} {ops : Array Oper} {rest : List Oper} {k : St → Prop} {E : Env} {loc loc' : List Res} {X : World → Prop}
variable {d : Option Tmp} {ty : TypeId} {pos : String} {af : Array Edge} {g : Option (Nat × Bool)} {bb want : Bool} {K : Exit → St → Prop}

/-- What the predicate implies without a world. -/
theorem cw_know {c : Code} {p : Prop} (hp : ∀ w, X w → p) (h : p → Cw P N av bor w0 c ⟨E, loc, X⟩ K) : Cw P N av bor w0 c ⟨E, loc, X⟩ K := Cw.mk fun a w ok => (h (hp w ok.gam.keep.now)).run a w ok
theorem sw_know {p : Prop} (hp : ∀ w, X w → p) (h : p → Sw P N av bor w0 ops rest ⟨E, loc, X⟩ k) : Sw P N av bor w0 ops rest ⟨E, loc, X⟩ k := Sw.mk fun a w ok => (h (hp w ok.gam.keep.now)).run a w ok
theorem cw_imp {c : Code} {X' : World → Prop} (hp : ∀ w, X w → X' w) (h : Cw P N av bor w0 c ⟨E, loc, X'⟩ K) : Cw P N av bor w0 c ⟨E, loc, X⟩ K := Cw.mk fun a w ok => h.run a w ⟨ok.defers, ok.size, ok.env, ok.gam.imp hp⟩
theorem sw_imp {X' : World → Prop} (hp : ∀ w, X w → X' w) (h : Sw P N av bor w0 ops rest ⟨E, loc, X'⟩ k) : Sw P N av bor w0 ops rest ⟨E, loc, X⟩ k := Sw.mk fun a w ok => h.run a w ⟨ok.defers, ok.size, ok.env, ok.gam.imp hp⟩
theorem sw_skipT {n : Nat} {o : Op} (hg : gdB ops E g = some (bb, true) := by rfl) (hb : bb = false := by (first | with_reducible rfl | with_reducible assumption | with_reducible exact Bool.not_false | with_reducible exact Bool.not_true)) (hd : Nat.blt n N = true := by rfl) (h : Sw P N av bor w0 ops rest ⟨(n, undef) :: E, loc, X⟩ k) :
    Sw P N av bor w0 ops (⟨some n, o, ty, pos, af, g⟩ :: rest) ⟨E, loc, X⟩ k := sw_skip hg (by simp [hb]) hd h
theorem sw_skipF {n : Nat} {o : Op} (hg : gdB ops E g = some (bb, false) := by rfl) (hb : bb = true := by (first | with_reducible rfl | with_reducible assumption | with_reducible exact Bool.not_false | with_reducible exact Bool.not_true)) (hd : Nat.blt n N = true := by rfl) (h : Sw P N av bor w0 ops rest ⟨(n, undef) :: E, loc, X⟩ k) :
    Sw P N av bor w0 ops (⟨some n, o, ty, pos, af, g⟩ :: rest) ⟨E, loc, X⟩ k := sw_skip hg (by simp [hb]) hd h
/-- A guard that was itself passed over. -/
def gdU (ops : Array Oper) (E : Env) : Option (Nat × Bool) → Bool
  | none => false
  | some (j, _) =>
    match (ops[j]?).bind (·.dst) with
    | some t => match look E t with
      | some (.tuple _) => true
      | _ => false
    | none => false
theorem sw_skipU {n : Nat} {o : Op} (hg : gdU ops E g = true := by rfl) (hd : Nat.blt n N = true := by rfl) (h : Sw P N av bor w0 ops rest ⟨(n, undef) :: E, loc, X⟩ k) :
    Sw P N av bor w0 ops (⟨some n, o, ty, pos, af, g⟩ :: rest) ⟨E, loc, X⟩ k := Sw.mk fun a w ok => by
  have hw : Region.wanted ⟨some n, o, ty, pos, af, g⟩ (yielded ops a.tmps) = false := by
    unfold gdU at hg
    unfold Region.wanted
    split at hg
    · cases hg
    · rename_i j want'
      split at hg
      · rename_i t ht
        split at hg
        · rename_i vs hv
          have := ok.env t _ hv
          simp only [yielded, ht, Option.bind_some, this]
          rfl
        · cases hg
      · cases hg
  simp only [wpList]
  rw [hw]
  exact h.run _ _ (ok.put (d := some n) (by have h1 : n < N := Nat.le_of_ble_eq_true hd; simpa [inB] using h1) undef)
/-- Whether a guard is decided (for the blocks of steps alone). -/
theorem sw_chk {o : Oper} (hg : gdB ops E o.guard = some (bb, want) := by rfl) (hb : bb = true ∨ bb = false := by (first | with_reducible exact Or.inl rfl | with_reducible exact Or.inr rfl | with_reducible exact Or.inl Bool.not_false | with_reducible exact Or.inr Bool.not_true | (apply Or.inl; with_reducible assumption) | (apply Or.inr; with_reducible assumption))) (h : Sw P N av bor w0 ops (o :: rest) ⟨E, loc, X⟩ k) : Sw P N av bor w0 ops (o :: rest) ⟨E, loc, X⟩ k := h
/-- A resource is forgotten. -/
theorem sw_drop {l : List Res} (hs : l.Sublist loc) (h : Sw P N av bor w0 ops rest ⟨E, l, X⟩ k) : Sw P N av bor w0 ops rest ⟨E, loc, X⟩ k := Sw.mk fun a w ok => h.run a w ⟨ok.defers, ok.size, ok.env, ok.gam.drop hs⟩
theorem sw_perm {l : List Res} (hs : loc.Perm l) (h : Sw P N av bor w0 ops rest ⟨E, l, X⟩ k) : Sw P N av bor w0 ops rest ⟨E, loc, X⟩ k := Sw.mk fun a w ok => h.run a w ⟨ok.defers, ok.size, ok.env, ok.gam.perm hs⟩

/-- What a state says beside another: slot by slot. -/
def sub (E : Env) : Env → Prop
  | [] => True
  | p :: r => look E p.1 = some p.2 ∧ sub E r
theorem sub_all {E : Env} : ∀ {E' : Env}, sub E E' → ∀ p ∈ E', look E p.1 = some p.2
  | [], _, p, hp => by cases hp
  | q :: r, h, p, hp => by
    rcases List.mem_cons.1 hp with rfl | hp
    · exact h.1
    · exact sub_all h.2 p hp
theorem ok_sub {E' : Env} {l' : List Res} {X' : World → Prop} (he : sub E E') (hl : l'.Sublist loc) (hx : ∀ w, X w → X' w) : ∀ a w, Ok N av bor w0 ⟨E, loc, X⟩ a w → Ok N av bor w0 ⟨E', l', X'⟩ a w :=
  ok_weaken (sub_all he) hl hx
theorem next_round {ι : Type} {I : ι → St} {μ : ι → Nat} {i : ι} {s : St} (j : ι) (h : μ j < μ i) (hs : ∀ a w, Ok N av bor w0 s a w → Ok N av bor w0 (I j) a w) :
    thn (fun s => ∃ j, μ j < μ i ∧ ∀ a w, Ok N av bor w0 s a w → Ok N av bor w0 (I j) a w) K .normal s := ⟨j, h, hs⟩

/-! ### One block is turned -/
theorem Gam.turn {w w' : World} {b : Nat} {F F' : World → Prop} (G : Gam av bor w0 loc X w) (hA : At ⟨[b], F⟩ ⟨[b], F'⟩ loc loc') (ho : w'.os = w.os) (ht : w'.tape = w.tape) (hp : w'.output = w.output)
    (hz : w'.heap.size = w.heap.size) (hb : ∀ i, i ≠ b → w'.heap[i]? = w.heap[i]?) (hF : ∀ w2 : World, w2.heap[b]? = w'.heap[b]? → F' w2) : Gam av bor w0 loc' X w' := by
  obtain ⟨f, h1, h2⟩ := hA.perm
  have G1 := G.perm h1
  have hn := G1.nodup
  rw [fps_cons] at hn
  have hbf : b ∉ fps f := (List.nodup_cons.1 hn).1
  have hbo := G1.own b (by rw [fps_cons]; simp)
  refine Gam.perm ?_ h2.symm
  refine ⟨⟨ho.trans G.fr.os, ht.trans G.fr.tape, hp.trans G.fr.output, by rw [hz]; exact G.fr.size, fun i hi hbi => ?_⟩, G.avb, hn, ?_, ?_, ?_⟩
  · rw [hb]
    · exact G.fr.block i hi hbi
    · rintro rfl
      rcases hbo.2 with h | h
      · omega
      · exact hbi h
  · intro i hi
    rw [hz]
    exact G1.own i hi
  · intro r hr
    rcases List.mem_cons.1 hr with rfl | hr
    · intro w2 e
      exact hF w2 (e b (by simp))
    · have hrf : r ∈ f := hr
      refine (G1.here r (List.mem_cons_of_mem _ hrf)).same fun i hi => hb _ fun e => ?_
      exact hbf (List.mem_flatMap.2 ⟨r, hrf, e ▸ hi⟩)
  · obtain ⟨u, k1, k2⟩ := G1.keep
    refine ⟨u, fun i hi => by rw [hz]; exact k1 i hi, fun w2 e => k2 w2 fun i hi => ?_⟩
    rw [e i hi, hb]
    rintro rfl
    exact (k1 i hi).2 (List.mem_append_right _ (by rw [fps_cons]; simp))

/-! ### Stores, in two handier forms -/
theorem sw_st1 {t : TypeId} {x y : Operand} {b off T : Nat} {cs : List Value} {v : Value} [ht : TyOne P t] (hx : ev E x = some (.pointer (some ⟨b, off, none⟩)) := by rfl) (hy : ev E y = some v := by rfl) (h1 : v.oneCell' = true := by rfl)
    (hA : At (cel b T cs) (cel b T (cs.set off v)) loc loc' := by (repeat (first | exact At.here _ | apply At.there))) (hl : Nat.blt off cs.length = true := by rfl) (hg : gdB ops E g = some (bb, want) := by rfl) (hb : bb = want := by (first | with_reducible rfl | with_reducible assumption | with_reducible exact Bool.not_false | with_reducible exact Bool.not_true)) (hd : inB N d = true := by rfl)
    (h : Sw P N av bor w0 ops rest ⟨putE E d undef, loc', X⟩ k) : Sw P N av bor w0 ops (⟨d, .store t x y, ty, pos, af, g⟩ :: rest) ⟨E, loc, X⟩ k := by
  have hlt : off < cs.length := Nat.le_of_ble_eq_true hl
  have hc : v.cells.toList = [v] := by cases v <;> first | rfl | (simp [Value.oneCell'] at h1)
  refine sw_store (vs := [v]) (cs := cs) (cs' := cs.set off v) (by have := (oneCell_spec (TyOne.out (P := P) (t := t)) w0).2; simpa using this) hx hy hc (by simp [h1]) (by simp; omega) ?_ hA hg hb hd h
  rw [List.set_eq_take_append_cons_drop, if_pos hlt]
  simp
theorem sw_stAll {m : Nat} {t : TypeId} {x y : Operand} {b T : Nat} {cs vs : List Value} {arr : Array Value} [ht : TyAgg P t m] (hx : ev E x = some (.pointer (some ⟨b, 0, none⟩)) := by rfl) (hy : ev E y = some (.agg arr) := by rfl) (hv : arr.toList = vs := by (first | exact List.toList_toArray | rfl))
    (hA : At (cel b T cs) (cel b T vs) loc loc' := by (repeat (first | exact At.here _ | apply At.there))) (hm : vs.length = m := by rfl) (hn : cs.length = m := by rfl) (h1 : vs.all (·.oneCell') = true := by rfl) (hg : gdB ops E g = some (bb, want) := by rfl) (hb : bb = want := by (first | with_reducible rfl | with_reducible assumption | with_reducible exact Bool.not_false | with_reducible exact Bool.not_true)) (hd : inB N d = true := by rfl)
    (h : Sw P N av bor w0 ops rest ⟨putE E d undef, loc', X⟩ k) : Sw P N av bor w0 ops (⟨d, .store t x y, ty, pos, af, g⟩ :: rest) ⟨E, loc, X⟩ k := by
  obtain ⟨_, _, _, h3⟩ := aggSize_spec (TyAgg.out (P := P) (t := t))
  refine sw_store (vs := vs) (cs := cs) (cs' := vs) (by rw [h3, hm]) hx hy (by simpa [Value.cells] using hv) h1 (by omega) ?_ hA hg hb hd h
  simp [hm, ← hn]

/-! ### 'for i, c := range s' over a string -/
def sit (b : Nat) (s : ByteArray) (pos : Nat) : Res := ⟨[b], fun w => w.heap[b]? = some (.stringIter s pos)⟩
theorem sw_rangeS {n : Nat} {t : TypeId} {x : Operand} {s : ByteArray} [hI : TyStr P t] (hx : ev E x = some (.string s) := by rfl) (hg : gdB ops E g = some (bb, want) := by rfl) (hb : bb = want := by (first | with_reducible rfl | with_reducible assumption | with_reducible exact Bool.not_false | with_reducible exact Bool.not_true)) (hd : Nat.blt n N = true := by rfl)
    (h : ∀ b, Sw P N av bor w0 ops rest ⟨(n, .pointer (some ⟨b, 0, none⟩)) :: E, sit b s 0 :: loc, X⟩ k) : Sw P N av bor w0 ops (⟨some n, .range t x, ty, pos, af, g⟩ :: rest) ⟨E, loc, X⟩ k := Sw.mk fun a w ok => by
  have hd' : inB N (some n) = true := by have h1 : n < N := Nat.le_of_ble_eq_true hd; simpa [inB] using h1
  simp only [wpList]
  rw [wanted_of ok (o := ⟨some n, .range t x, ty, pos, af, g⟩) hg]
  subst hb
  simp only [beq_self_eq_true, if_true]
  left
  unfold Oper.wp
  have hr : (execOp a.eval ⟨some n, .range t x, ty, pos, af, g⟩).run P w = .ok (.value (.pointer (some ⟨w.heap.size, 0, none⟩))) (w.alloc (.stringIter s 0)) := by
    simp [execOp, ok.eval (st := ⟨E, loc, X⟩) hx, Instr.range, run_underlying TyStr.out, newObj]
    rfl
  rw [hr]
  have ok' : Ok N av bor w0 ⟨E, sit w.heap.size s 0 :: loc, X⟩ a (w.alloc (.stringIter s 0)) := ⟨ok.defers, ok.size, ok.env, ok.gam.new _ _ fun _ h => h⟩
  exact (h _).run _ _ (put_eq (some n) _ ▸ ok'.put hd' _)
theorem sw_nextS {n b q : Nat} {x : Operand} {s : ByteArray} (hx : ev E x = some (.pointer (some ⟨b, 0, none⟩)) := by rfl) {L : Nat → List Res} (hA : ∀ q', At (sit b s q) (sit b s q') loc (L q') := by (intro _; exact At.here _)) (hg : gdB ops E g = some (bb, want) := by rfl) (hb : bb = want := by (first | with_reducible rfl | with_reducible assumption | with_reducible exact Bool.not_false | with_reducible exact Bool.not_true)) (hd : Nat.blt n N = true := by rfl)
    (h1 : q < s.size → Sw P N av bor w0 ops rest ⟨(n, .tuple #[.bool true, .int .i64 q, .int .i32 (Utf8.decode s q).1]) :: E, L (q + (Utf8.decode s q).2), X⟩ k)
    (h2 : s.size ≤ q → Sw P N av bor w0 ops rest ⟨(n, .tuple #[.bool false]) :: E, L q, X⟩ k) : Sw P N av bor w0 ops (⟨some n, .next x true, ty, pos, af, g⟩ :: rest) ⟨E, loc, X⟩ k := Sw.mk fun a w ok => by
  have hd' : inB N (some n) = true := by have h1 : n < N := Nat.le_of_ble_eq_true hd; simpa [inB] using h1
  have hw : w.heap[b]? = some (.stringIter s q) := (ok.gam.here (sit b s q) (hA q).mem).now
  simp only [wpList]
  rw [wanted_of ok (o := ⟨some n, .next x true, ty, pos, af, g⟩) hg]
  subst hb
  simp only [beq_self_eq_true, if_true]
  left
  unfold Oper.wp
  by_cases hq : q < s.size
  · have hr : (execOp a.eval ⟨some n, .next x true, ty, pos, af, g⟩).run P w = .ok (.value (.tuple #[.bool true, .int .i64 q, .int .i32 (Utf8.decode s q).1])) { w with heap := w.heap.setIfInBounds b (.stringIter s (q + (Utf8.decode s q).2)) } := by
      simp [execOp, ok.eval (st := ⟨E, loc, X⟩) hx, Instr.next, getObj, setObj, Sem.run, hw, hq, goInt]
    rw [hr]
    have hlt : b < w.heap.size := (Array.getElem?_eq_some_iff.1 hw).1
    have ok' : Ok N av bor w0 ⟨E, L (q + (Utf8.decode s q).2), X⟩ a { w with heap := w.heap.setIfInBounds b (.stringIter s (q + (Utf8.decode s q).2)) } :=
      ⟨ok.defers, ok.size, ok.env, ok.gam.turn (hA _) rfl rfl rfl (by simp) (fun i hi => by simp [Array.getElem?_setIfInBounds_ne (Ne.symm hi)]) (fun w2 e => by
        show w2.heap[b]? = _
        rw [e]
        simp [hlt])⟩
    exact (h1 hq).run _ _ (put_eq (some n) _ ▸ ok'.put hd' _)
  · have hr : (execOp a.eval ⟨some n, .next x true, ty, pos, af, g⟩).run P w = .ok (.value (.tuple #[.bool false])) w := by
      simp [execOp, ok.eval (st := ⟨E, loc, X⟩) hx, Instr.next, getObj, Sem.run, hw, hq]
    rw [hr]
    have ok' : Ok N av bor w0 ⟨E, L q, X⟩ a w := ⟨ok.defers, ok.size, ok.env, ok.gam.turn (hA q) rfl rfl rfl rfl (fun _ _ => rfl) (fun w2 e => by show w2.heap[b]? = _; rw [e, hw])⟩
    exact (h2 (by omega)).run _ _ (put_eq (some n) _ ▸ ok'.put hd' _)
end

/-! ### Slices that are data: nobody of ours writes them -/
structure SlV where
  p : Option Addr
  n : Nat
  c : Nat
def SlV.v (s : SlV) : Value := .slice s.p s.n s.c
theorem Addr_add_add (a : Addr) (i j : Nat) : (a.add i).add j = a.add (i + j) := by
  unfold Addr.add
  by_cases hi : i = 0 <;> by_cases hj : j = 0 <;> simp [hi, hj, Nat.add_assoc]
/-- The address of the cell number q behind a slice's head. -/
def elP (p : Option Addr) (q : Nat) : Value := .pointer (p.map (·.add q))
def CellAt (w : World) (p : Option Addr) (q : Nat) (u : Value) : Prop := p.isSome = true ∧ ∀ a, p = some a → w.cell? (a.add q) = some u
/-- The slice reads as rows of 'size' cells. -/
structure RowsD (w : World) (size : Nat) (s : SlV) (xs : List (List Value)) : Prop where
  len : s.n = xs.length
  cap : s.n ≤ s.c
  max : s.c ≤ maxLen
  row : ∀ i cs, xs[i]? = some cs → cs.length = size ∧ s.p.isSome = true ∧ ∀ j u, cs[j]? = some u → CellAt w s.p (i * size + j) u

section
variable {P : Program} {N : Nat} {av bor : List Nat} {w0 : World} {st : St} {ty : TypeId} {x y : Operand} {t : TypeId}
theorem y_idxX {e n' b' : Nat} [h : TySl P t e n' b'] {p : Option Addr} {m c q : Nat} {i : Int} (hx : ev st.env x = some (.slice p m c)) (hy : ev st.env y = some (.int .i64 i)) (h0 : 0 ≤ i) (h1 : i < m) (hp : p.isSome = true) (hq : i.toNat * n' = q) :
    Yields P N av bor w0 st (.indexAddr t x y) ty (elP p q) := Sy.Yields.mk fun A w ok d pos af g => by
  obtain ⟨hu, inf, hi, hs, hb⟩ := slOf_spec h.out
  obtain ⟨a, rfl⟩ := Option.isSome_iff_exists.1 hp
  have hz := run_sizeOf (P := P) (t := e) (n := n') (by simp [hi, hs])
  simp [execOp, ok.eval hx, ok.eval hy, Instr.indexAt, asIntOf, run_underlying hu, h0, h1, hz, elP, hq]
theorem y_fldX {s f o q r : Nat} [h : TyFld P s f o] {p : Option Addr} (hx : ev st.env x = some (elP p q)) (hp : p.isSome = true) (hq : q + o = r) : Yields P N av bor w0 st (.fieldAddr s x f) ty (elP p r) := Sy.Yields.mk fun A w ok d pos af g => by
  obtain ⟨a, rfl⟩ := Option.isSome_iff_exists.1 hp
  simp [execOp, ok.eval hx, elP, run_fieldAt h.out, Addr_add_add, hq]
theorem y_ldX [h : TyOne P t] {p : Option Addr} {q : Nat} {u : Value} (hx : ev st.env x = some (elP p q)) (hF : ∀ w, st.ext w → CellAt w p q u) : Yields P N av bor w0 st (.load t x) ty u := Sy.Yields.mk fun A w ok d pos af g => by
  obtain ⟨hp, hc⟩ := hF w ok.gam.keep.now
  obtain ⟨a, rfl⟩ := Option.isSome_iff_exists.1 hp
  simp [execOp, ok.eval hx, elP, Instr.loadAt, Instr.sureAddr, loadVar, (oneCell_spec h.out w).1, hc a rfl]
theorem y_ldXs {m : Nat} [h : TyAgg P t m] {p : Option Addr} {q : Nat} {cs : List Value} (hx : ev st.env x = some (elP p q)) (hF : ∀ w, st.ext w → cs.length = m ∧ p.isSome = true ∧ ∀ j u, cs[j]? = some u → CellAt w p (q + j) u) :
    Yields P N av bor w0 st (.load t x) ty (.agg cs.toArray) := Sy.Yields.mk fun A w ok d pos af g => by
  obtain ⟨hm, hp, hc⟩ := hF w ok.gam.keep.now
  obtain ⟨a, rfl⟩ := Option.isSome_iff_exists.1 hp
  have := run_loadVar_cells (P := P) (t := t) h.out (w := w) (A := a.add q) hm (fun j v hj => by rw [Addr_add_add]; exact (hc j v hj).2 a rfl)
  simp [execOp, ok.eval hx, elP, Instr.loadAt, Instr.sureAddr, this]
end
/-! ### The same as steps of a walk -/
section
variable {P : Program} {N : Nat} {av bor : List Nat} {w0 : World} {ty : TypeId} {x y : Operand} {t t2 : TypeId} {k : IntKind} {a b c : Int}
variable {E : Env} {loc : List Res} {X : World → Prop} {ops : Array Oper} {kk : St → Prop} {n : Nat} {pos : String} {af : Array Edge} {g : Option (Nat × Bool)} {rest : List Oper} {bb want : Bool}
theorem sy_idxX {e n0' b' : Nat} [hI : TySl P t e n0' b'] {p : Option Addr} {m c q : Nat} {i : Int} (hx : ev E x = some (.slice p m c) := by rfl) (hy : ev E y = some (.int .i64 i) := by rfl) (h0 : 0 ≤ i := by omega) (h1 : i < m := by omega) (hp : p.isSome = true := by assumption) (hq : i.toNat * n0' = q := by (first | rfl | omega)) (hg : gdB ops E g = some (bb, want) := by rfl) (hbb : bb = want := by (first | with_reducible rfl | with_reducible assumption | with_reducible exact Bool.not_false | with_reducible exact Bool.not_true)) (hd : Nat.blt n N = true := by rfl) (h : Sw P N av bor w0 ops rest ⟨(n, elP p q) :: E, loc, X⟩ kk) :
    Sw P N av bor w0 ops (⟨some n, .indexAddr t x y, ty, pos, af, g⟩ :: rest) ⟨E, loc, X⟩ kk := sw_yield (y_idxX hx hy h0 h1 hp hq) hg hbb hd h
theorem sy_fldX {s f o q r : Nat} [hI : TyFld P s f o] {p : Option Addr} (hx : ev E x = some (elP p q) := by rfl) (hp : p.isSome = true := by assumption) (hq : q + o = r := by (first | exact Nat.zero_add _ | rfl | (simp only [Nat.reduceAdd]; rfl))) (hg : gdB ops E g = some (bb, want) := by rfl) (hbb : bb = want := by (first | with_reducible rfl | with_reducible assumption | with_reducible exact Bool.not_false | with_reducible exact Bool.not_true)) (hd : Nat.blt n N = true := by rfl) (h : Sw P N av bor w0 ops rest ⟨(n, elP p r) :: E, loc, X⟩ kk) :
    Sw P N av bor w0 ops (⟨some n, .fieldAddr s x f, ty, pos, af, g⟩ :: rest) ⟨E, loc, X⟩ kk := sw_yield (y_fldX hx hp hq) hg hbb hd h
theorem sy_ldX [hI : TyOne P t] {p : Option Addr} {q : Nat} {u : Value} (hx : ev E x = some (elP p q) := by rfl) (hF : ∀ w, X w → CellAt w p q u) (hg : gdB ops E g = some (bb, want) := by rfl) (hbb : bb = want := by (first | with_reducible rfl | with_reducible assumption | with_reducible exact Bool.not_false | with_reducible exact Bool.not_true)) (hd : Nat.blt n N = true := by rfl) (h : Sw P N av bor w0 ops rest ⟨(n, u) :: E, loc, X⟩ kk) :
    Sw P N av bor w0 ops (⟨some n, .load t x, ty, pos, af, g⟩ :: rest) ⟨E, loc, X⟩ kk := sw_yield (y_ldX hx hF) hg hbb hd h
theorem sy_ldXs {m : Nat} [hI : TyAgg P t m] {p : Option Addr} {q : Nat} {cs : List Value} (hx : ev E x = some (elP p q) := by rfl) (hF : ∀ w, X w → cs.length = m ∧ p.isSome = true ∧ ∀ j u, cs[j]? = some u → CellAt w p (q + j) u) (hg : gdB ops E g = some (bb, want) := by rfl) (hbb : bb = want := by (first | with_reducible rfl | with_reducible assumption | with_reducible exact Bool.not_false | with_reducible exact Bool.not_true)) (hd : Nat.blt n N = true := by rfl) (h : Sw P N av bor w0 ops rest ⟨(n, .agg cs.toArray) :: E, loc, X⟩ kk) :
    Sw P N av bor w0 ops (⟨some n, .load t x, ty, pos, af, g⟩ :: rest) ⟨E, loc, X⟩ kk := sw_yield (y_ldXs hx hF) hg hbb hd h
end
end Go.Proofs.YtfpojkoddcdojaaGreatDoor.Sy
