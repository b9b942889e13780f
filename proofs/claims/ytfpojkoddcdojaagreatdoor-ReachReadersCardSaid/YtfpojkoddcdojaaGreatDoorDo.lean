/- Laws of operations that turn memory, for the calculus of XSy: a new block, a store, a call; the beginning and the end of a function. No program in sight. -/
import Derived.Test.YtfpojkoddcdojaaGreatDoorOps
set_option linter.unusedVariables false
namespace Go.Proofs.YtfpojkoddcdojaaGreatDoor.Sy
open Go Go.RowKit

section
variable {P : Program} {N : Nat} {av bor : List Nat} {w0 : World} {ops : Array Oper} {rest : List Oper} {k : St → Prop} {E : Env} {loc : List Res} {X : World → Prop}
variable {d : Option Tmp} {ty : TypeId} {pos : String} {af : Array Edge} {g : Option (Nat × Bool)} {bb want : Bool}

/-! ### A new block -/
theorem heap_new (w : World) (o : Obj) (i : Nat) (h : i < w.heap.size) : (w.alloc o).heap[i]? = w.heap[i]? := Below.heap_alloc w o i h
theorem Gam.new {w : World} (G : Gam av bor w0 loc X w) (o : Obj) (F : World → Prop) (hF : ∀ w' : World, w'.heap[w.heap.size]? = some o → F w') :
    Gam av bor w0 (⟨[w.heap.size], F⟩ :: loc) X (w.alloc o) := by
  have hs : (w.alloc o).heap.size = w.heap.size + 1 := by simp
  have hs0 := G.fr.size
  have hnot : w.heap.size ∉ fps loc := fun h => by have := (G.own _ h).1; omega
  have hnav : w.heap.size ∉ av := fun h => by have := (G.avb _ h).1; omega
  refine ⟨⟨G.fr.os, G.fr.tape, G.fr.output, by omega, fun i hi hb => ?_⟩, G.avb, ?_, ?_, ?_, ?_⟩
  · rw [heap_new _ _ _ (by omega)]; exact G.fr.block i hi hb
  · rw [fps_cons]; exact List.nodup_cons.2 ⟨hnot, G.nodup⟩
  · intro i hi
    rw [fps_cons] at hi
    rcases List.mem_append.1 hi with h | h
    · simp only [List.mem_singleton] at h
      subst h
      exact ⟨by omega, .inl (by omega)⟩
    · have := G.own i h
      exact ⟨by omega, this.2⟩
  · intro r hr
    rcases List.mem_cons.1 hr with rfl | hr
    · intro w' e
      exact hF w' ((e _ (by simp)).trans (heap_alloc_new w o))
    · refine (G.here r hr).same fun i hi => heap_new _ _ _ ?_
      exact (G.own i (List.mem_flatMap.2 ⟨r, hr, hi⟩)).1
  · obtain ⟨u, h1, h2⟩ := G.keep
    refine ⟨u, fun i hi => ?_, fun w' e => h2 w' fun i hi => ?_⟩
    · have h3 := h1 i hi
      refine ⟨by omega, fun h4 => ?_⟩
      rw [fps_cons] at h4
      simp only [List.mem_append, List.mem_singleton] at h4 h3
      rcases h4 with h4 | h4 | h4
      · exact h3.2 (.inl h4)
      · omega
      · exact h3.2 (.inr h4)
    · rw [e i hi]; exact heap_new _ _ _ (h1 i hi).1

/-- The operation lays a block of cells and hands its address on. -/
theorem sw_new {o : Op} {T : Nat} {cs : List Value} (hg : gdB ops E g = some (bb, want) := by rfl) (hb : bb = want := by (first | with_reducible rfl | with_reducible assumption | with_reducible exact Bool.not_false | with_reducible exact Bool.not_true)) (hd : inB N d = true := by rfl)
    (hr : ∀ a w, Ok N av bor w0 ⟨E, loc, X⟩ a w → ∀ d pos af g, (execOp a.eval ⟨d, o, ty, pos, af, g⟩).run P w = .ok (.value (.pointer (some ⟨w.heap.size, 0, none⟩))) (w.alloc (.cells cs.toArray T)))
    (h : ∀ b, Sw P N av bor w0 ops rest ⟨putE E d (.pointer (some ⟨b, 0, none⟩)), cel b T cs :: loc, X⟩ k) : Sw P N av bor w0 ops (⟨d, o, ty, pos, af, g⟩ :: rest) ⟨E, loc, X⟩ k := Sw.mk fun a w ok => by
  simp only [wpList]
  rw [wanted_of ok (o := ⟨d, o, ty, pos, af, g⟩) hg]
  subst hb
  simp only [beq_self_eq_true, if_true]
  left
  unfold Oper.wp
  rw [hr a w ok]
  have ok' : Ok N av bor w0 ⟨E, cel w.heap.size T cs :: loc, X⟩ a (w.alloc (.cells cs.toArray T)) := ⟨ok.defers, ok.size, ok.env, ok.gam.new _ _ fun _ h => h⟩
  exact (h _).run _ _ (put_eq d _ ▸ ok'.put hd _)

theorem sw_alloc {n T : Nat} {z : Value} [hz : TyZero P T z] {cs : List Value} (hc : z.cells.toList = cs := by rfl) (hg : gdB ops E g = some (bb, want) := by rfl) (hb : bb = want := by (first | with_reducible rfl | with_reducible assumption | with_reducible exact Bool.not_false | with_reducible exact Bool.not_true)) (hd : Nat.blt n N = true := by rfl)
    (h : ∀ b, Sw P N av bor w0 ops rest ⟨(n, .pointer (some ⟨b, 0, none⟩)) :: E, cel b T cs :: loc, X⟩ k) : Sw P N av bor w0 ops (⟨some n, .alloc T, ty, pos, af, g⟩ :: rest) ⟨E, loc, X⟩ k :=
  sw_new (d := some n) (cs := cs) (T := T) hg hb (by have h1 : n < N := Nat.le_of_ble_eq_true hd; simpa [inB] using h1) (fun a w ok d pos af g => by
    subst hc
    simp [execOp, Instr.alloc, run_zero hz.out, newVar, newRow, newObj]
    rfl) h
theorem sw_box {n T : Nat} {x : Operand} {v : Value} {cs : List Value} (hx : ev E x = some v := by rfl) (hc : v.cells.toList = cs := by (first | exact ActD.v_cells _ | exact BoxD.v_cells _ | rfl)) (hg : gdB ops E g = some (bb, want) := by rfl) (hb : bb = want := by (first | with_reducible rfl | with_reducible assumption | with_reducible exact Bool.not_false | with_reducible exact Bool.not_true)) (hd : Nat.blt n N = true := by rfl)
    (h : ∀ b, Sw P N av bor w0 ops rest ⟨(n, .pointer (some ⟨b, 0, none⟩)) :: E, cel b T cs :: loc, X⟩ k) : Sw P N av bor w0 ops (⟨some n, .box T x, ty, pos, af, g⟩ :: rest) ⟨E, loc, X⟩ k :=
  sw_new (d := some n) (cs := cs) (T := T) hg hb (by have h1 : n < N := Nat.le_of_ble_eq_true hd; simpa [inB] using h1) (fun a w ok d pos af g => by
    subst hc
    simp [execOp, Instr.box, ok.eval (st := ⟨E, loc, X⟩) hx, newVar, newRow, newObj]
    rfl) h

/-! ### A store -/
/-- One resource of the list is another one. -/
inductive At (r r' : Res) : List Res → List Res → Prop
  | here (l : List Res) : At r r' (r :: l) (r' :: l)
  | there (x : Res) {l l' : List Res} (h : At r r' l l') : At r r' (x :: l) (x :: l')
theorem At.perm {r r' : Res} {l l' : List Res} (h : At r r' l l') : ∃ f, l.Perm (r :: f) ∧ l'.Perm (r' :: f) := by
  induction h with
  | here l => exact ⟨l, .refl _, .refl _⟩
  | there x _ ih =>
    obtain ⟨f, h1, h2⟩ := ih
    exact ⟨x :: f, (h1.cons x).trans (.swap _ _ _), (h2.cons x).trans (.swap _ _ _)⟩
theorem At.mem {r r' : Res} {l l' : List Res} (h : At r r' l l') : r ∈ l := by
  induction h with
  | here l => exact List.mem_cons_self
  | there x _ ih => exact List.mem_cons_of_mem _ ih

theorem setRow_heap (w : World) (b : Nat) (cs : Array Value) (i : Nat) (h : i ≠ b) : (w.setRow b cs).heap[i]? = w.heap[i]? := by
  simp only [World.setRow, Array.getElem?_modify]
  rw [if_neg (Ne.symm h)]
theorem setRow_at (w : World) (b T : Nat) (cs old : Array Value) (h : w.heap[b]? = some (.cells old T (0, 0))) : (w.setRow b cs).heap[b]? = some (.cells cs T (0, 0)) := by
  simp only [World.setRow, Array.getElem?_modify, h]
  simp
theorem setRow_size (w : World) (b : Nat) (cs : Array Value) : (w.setRow b cs).heap.size = w.heap.size := by simp [World.setRow]
theorem Gam.setRow {w : World} {b T : Nat} {cs cs' : List Value} {loc' : List Res} (G : Gam av bor w0 loc X w) (hA : At (cel b T cs) (cel b T cs') loc loc') : Gam av bor w0 loc' X (w.setRow b cs'.toArray) := by
  obtain ⟨f, h1, h2⟩ := hA.perm
  have G1 := G.perm h1
  have hn := G1.nodup
  rw [fps_cons] at hn
  have hbf : b ∉ fps f := (List.nodup_cons.1 hn).1
  have hb := G1.own b (by rw [fps_cons]; simp [cel])
  have hw : w.heap[b]? = some (.cells cs.toArray T (0, 0)) := (G1.here (cel b T cs) List.mem_cons_self).now
  refine Gam.perm ?_ h2.symm
  refine ⟨⟨G.fr.os, G.fr.tape, G.fr.output, by rw [setRow_size]; exact G.fr.size, fun i hi hbi => ?_⟩, G.avb, hn, ?_, ?_, ?_⟩
  · rw [setRow_heap]
    · exact G.fr.block i hi hbi
    · rintro rfl
      rcases hb.2 with h | h
      · omega
      · exact hbi h
  · intro i hi
    rw [setRow_size]
    exact G1.own i hi
  · intro r hr
    rcases List.mem_cons.1 hr with rfl | hr
    · intro w' e
      exact (e b (by simp [cel])).trans (setRow_at w b T _ _ hw)
    · have hrf : r ∈ f := hr
      refine (G1.here r (List.mem_cons_of_mem _ hrf)).same fun i hi => setRow_heap _ _ _ _ fun e => ?_
      exact hbf (List.mem_flatMap.2 ⟨r, hrf, e ▸ hi⟩)
  · obtain ⟨u, k1, k2⟩ := G1.keep
    refine ⟨u, fun i hi => by rw [setRow_size]; exact k1 i hi, fun w' e => k2 w' fun i hi => ?_⟩
    rw [e i hi, setRow_heap]
    rintro rfl
    exact (k1 i hi).2 (List.mem_append_right _ (by rw [fps_cons]; simp [cel]))

/-- A store through a pointer to a block of the call's own: whatever size, wherever in the block. -/
theorem sw_store {t : TypeId} {x y : Operand} {b off T : Nat} {cs vs cs' : List Value} {v : Value} {loc' : List Res} (hsz : (P.info? t).map (·.size) = some vs.length)
    (hx : ev E x = some (.pointer (some ⟨b, off, none⟩)) := by rfl) (hy : ev E y = some v := by rfl) (hv : v.cells.toList = vs) (h1 : (vs.all (·.oneCell')) = true := by rfl) (hl : off + vs.length ≤ cs.length)
    (hc : cs.take off ++ vs ++ cs.drop (off + vs.length) = cs' := by rfl) (hA : At (cel b T cs) (cel b T cs') loc loc' := by (repeat (first | exact At.here _ | apply At.there))) (hg : gdB ops E g = some (bb, want) := by rfl) (hb : bb = want := by (first | with_reducible rfl | with_reducible assumption | with_reducible exact Bool.not_false | with_reducible exact Bool.not_true)) (hd : inB N d = true := by rfl)
    (h : Sw P N av bor w0 ops rest ⟨putE E d undef, loc', X⟩ k) : Sw P N av bor w0 ops (⟨d, .store t x y, ty, pos, af, g⟩ :: rest) ⟨E, loc, X⟩ k := Sw.mk fun a w ok => by
  have hw : w.heap[b]? = some (.cells cs.toArray T (0, 0)) := (ok.gam.here (cel b T cs) hA.mem).now
  have hst := run_storeCells_at P b off T vs 0 cs.toArray w hw (by simpa using hl) (by simpa using h1)
  simp only [wpList]
  rw [wanted_of ok (o := ⟨d, .store t x y, ty, pos, af, g⟩) hg]
  subst hb
  simp only [beq_self_eq_true, if_true]
  left
  unfold Oper.wp
  have hs : v.cells.size = vs.length := by rw [← hv]; simp
  have hr : (execOp a.eval ⟨d, .store t x y, ty, pos, af, g⟩).run P w = .ok .skip (w.setRow b cs'.toArray) := by
    subst hc
    simp only [Nat.add_zero] at hst
    simp [execOp, ok.eval (st := ⟨E, loc, X⟩) hx, ok.eval (st := ⟨E, loc, X⟩) hy, Instr.storeAt, Instr.sureAddr, storeVar, run_sizeOf hsz, hs, hv, hst]
  rw [hr]
  have ok' : Ok N av bor w0 ⟨E, loc', X⟩ a (w.setRow b cs'.toArray) := ⟨ok.defers, ok.size, ok.env, ok.gam.setRow hA⟩
  exact h.run _ _ (put_eq d _ ▸ ok'.put hd _)

/-! ### Calls of Go functions -/
def evs (E : Env) : List Operand → Option (List Value)
  | [] => some []
  | x :: r =>
    match ev E x, evs E r with
    | some v, some l => some (v :: l)
    | _, _ => none
theorem evs_eval {a : Act} {w : World} (ok : Ok N av bor w0 ⟨E, loc, X⟩ a w) : ∀ (l : List Operand) (vs : List Value), evs E l = some vs → l.map a.eval = vs
  | [], vs, h => by simp [evs] at h; subst h; rfl
  | x :: r, vs, h => by
    unfold evs at h
    split at h
    · rename_i v l hv hl
      simp at h
      subst h
      simp [ok.eval (st := ⟨E, loc, X⟩) hv, evs_eval ok r l hl]
    · cases h
/-- The call of a function by its name, or of a function value. -/
theorem sw_fn {x : Operand} {xs : List Operand} {ats : Array TypeId} {f : FuncId} {first caps : Array Value} {args all : List Value} {pre fr : List Res} {X1 : World → Prop} {Post : Value → List Res → (World → Prop) → Prop}
    (hx : ev E x = some (.func (.func f) first caps) := by rfl) (ha : evs E xs = some args := by rfl) (hall : first.toList ++ args ++ caps.toList = all := by rfl) (hg : gdB ops E g = some (bb, want) := by rfl) (hb : bb = want := by (first | with_reducible rfl | with_reducible assumption | with_reducible exact Bool.not_false | with_reducible exact Bool.not_true)) (hd : inB N d = true := by rfl) (hf : FnBody P f := by infer_instance)
    (hc : Ct P f all.toArray pre X1 Post) (hX : ∀ w, X w → X1 w := by (first | exact fun _ _ => trivial | exact fun _ h => h | exact fun _ h => h.1 | exact fun _ h => h.2))
    (h : ∀ v R X', Post v R X' → Sw P N av bor w0 ops rest ⟨putE E d v, R ++ fr, fun w => X w ∧ X' w⟩ k) :
    Sw P N av bor w0 ops (⟨d, .call ⟨.value x, xs.toArray, ats⟩, ty, pos, af, g⟩ :: rest) ⟨E, pre ++ fr, X⟩ k :=
  sw_call (fun a w ok => by
    subst hall
    have e := evs_eval ok xs args ha
    have e1 : xs.toArray.map a.eval = args.toArray := by rw [List.map_toArray, e]
    have e2 : first ++ args.toArray ++ caps = (first.toList ++ args ++ caps.toList).toArray := by apply Array.ext'; simp
    simp only [execOp, resolve, ok.eval (st := ⟨E, pre ++ fr, X⟩) hx, Deferred.ofValue, invoke, e1]
    simp only [Sem.run_bind, Sem.run_pure, Result.andThen_ok]
    rw [e2]
    exact run_enter _ w) hg hb hd hc hX h

/-- Of a function that only computes: no resources, its value. -/
def Pu (P : Program) (f : FuncId) (args : Array Value) (X : World → Prop) (v : Value) : Prop := Ct P f args [] X fun u R _ => u = v ∧ R = []
/-- Of one that hands back new memory that nobody writes any more: of the value and the memory Φ holds. -/
def Mk (P : Program) (f : FuncId) (args : Array Value) (X : World → Prop) (Φ : Value → (World → Prop) → Prop) : Prop := Ct P f args [] X fun u R X' => Φ u X' ∧ R = []
theorem sw_puV {x : Operand} {xs : List Operand} {ats : Array TypeId} {f : FuncId} {first caps : Array Value} {args all : List Value} {X1 : World → Prop} {v : Value}
    (hx : ev E x = some (.func (.func f) first caps) := by rfl) (ha : evs E xs = some args := by rfl) (hall : first.toList ++ args ++ caps.toList = all := by rfl) (hg : gdB ops E g = some (bb, want) := by rfl) (hb : bb = want := by (first | with_reducible rfl | with_reducible assumption | with_reducible exact Bool.not_false | with_reducible exact Bool.not_true)) (hd : inB N d = true := by rfl) (hf : FnBody P f := by infer_instance)
    (hc : Pu P f all.toArray X1 v) (hX : ∀ w, X w → X1 w := by (first | exact fun _ _ => trivial | exact fun _ h => h | exact fun _ h => h.1 | exact fun _ h => h.2))
    (h : Sw P N av bor w0 ops rest ⟨putE E d v, loc, X⟩ k) :
    Sw P N av bor w0 ops (⟨d, .call ⟨.value x, xs.toArray, ats⟩, ty, pos, af, g⟩ :: rest) ⟨E, loc, X⟩ k :=
  sw_fn (pre := []) (fr := loc) hx ha hall hg hb hd hf hc hX fun u R X' ⟨h1, h2⟩ => by
    subst h1; subst h2
    refine sw_to (fun a w ok => ?_) h
    exact ⟨ok.defers, ok.size, ok.env, ok.gam.imp fun _ h => h.1⟩
theorem sw_pu {n : Nat} {x : Operand} {xs : List Operand} {ats : Array TypeId} {f : FuncId} {args : List Value} {X1 : World → Prop} {v : Value}
    (hx : ev E x = some (.func (.func f) #[] #[]) := by rfl) (ha : evs E xs = some args := by rfl) (hg : gdB ops E g = some (bb, want) := by rfl) (hb : bb = want := by (first | with_reducible rfl | with_reducible assumption | with_reducible exact Bool.not_false | with_reducible exact Bool.not_true)) (hd : Nat.blt n N = true := by rfl) (hf : FnBody P f := by infer_instance)
    (hc : Pu P f args.toArray X1 v) (hX : ∀ w, X w → X1 w := by (first | exact fun _ _ => trivial | exact fun _ h => h | exact fun _ h => h.1 | exact fun _ h => h.2))
    (h : Sw P N av bor w0 ops rest ⟨(n, v) :: E, loc, X⟩ k) :
    Sw P N av bor w0 ops (⟨some n, .call ⟨.value x, xs.toArray, ats⟩, ty, pos, af, g⟩ :: rest) ⟨E, loc, X⟩ k :=
  sw_puV hx ha rfl hg hb (by have h1 : n < N := Nat.le_of_ble_eq_true hd; simpa [inB] using h1) hf (by simpa using hc) hX h
theorem sw_mk {n : Nat} {x : Operand} {xs : List Operand} {ats : Array TypeId} {f : FuncId} {args : List Value} {X1 : World → Prop} {Φ : Value → (World → Prop) → Prop}
    (hx : ev E x = some (.func (.func f) #[] #[]) := by rfl) (ha : evs E xs = some args := by rfl) (hg : gdB ops E g = some (bb, want) := by rfl) (hb : bb = want := by (first | with_reducible rfl | with_reducible assumption | with_reducible exact Bool.not_false | with_reducible exact Bool.not_true)) (hd : Nat.blt n N = true := by rfl) (hf : FnBody P f := by infer_instance)
    (hc : Mk P f args.toArray X1 Φ) (hX : ∀ w, X w → X1 w := by (first | exact fun _ _ => trivial | exact fun _ h => h | exact fun _ h => h.1 | exact fun _ h => h.2))
    (h : ∀ v X', Φ v X' → Sw P N av bor w0 ops rest ⟨(n, v) :: E, loc, fun w => X w ∧ X' w⟩ k) :
    Sw P N av bor w0 ops (⟨some n, .call ⟨.value x, xs.toArray, ats⟩, ty, pos, af, g⟩ :: rest) ⟨E, loc, X⟩ k :=
  sw_fn (pre := []) (fr := loc) (first := #[]) (caps := #[]) (Post := fun u R X' => Φ u X' ∧ R = []) hx ha rfl hg hb (by have h1 : n < N := Nat.le_of_ble_eq_true hd; simpa [inB] using h1) hf
    (by have h0 : Ct P f args.toArray [] X1 (fun u R X' => Φ u X' ∧ R = []) := hc
        simpa using h0) hX (by
    rintro u R X' ⟨h1, h2⟩
    subst h2
    exact h u X' h1)
end

/-! ### The beginning and the end of a function -/
section
variable {P : Program}
def params (i : Nat) : List Value → Env
  | [] => []
  | v :: r => (i, v) :: params (i + 1) r
theorem look_params : ∀ (l : List Value) (i n : Nat) (v : Value), look (params i l) n = some v → i ≤ n ∧ l[n - i]? = some v
  | [], _, _, _, h => by cases h
  | u :: r, i, n, v, h => by
    simp only [params, look] at h
    by_cases e : n = i
    · subst e
      have hb : Nat.beq n n = true := by simp
      rw [hb] at h
      simp at h
      subst h
      simp
    · rw [beq_no e] at h
      simp only [cond_false] at h
      obtain ⟨h1, h2⟩ := look_params r (i + 1) n v h
      refine ⟨by omega, ?_⟩
      rw [show n - i = (n - (i + 1)) + 1 from by omega]
      simpa using h2
/-- What the function hands back, in a state of its end. -/
def Res1 (P : Program) (fn : Func) (N : Nat) (s : St) (v : Value) : Prop := ∀ (av bor : List Nat) (w0 : World) (a : Act) (w : World), Ok N av bor w0 s a w → (results fn a.tmps).run P w = .ok v w
def ends (P : Program) (fn : Func) (N : Nat) (Post : Value → List Res → (World → Prop) → Prop) : Exit → St → Prop
  | .ret, s | .normal, s => ∃ v, Res1 P fn N s v ∧ Post v s.loc s.ext
  | _, _ => False

theorem ct_of_cw {f : FuncId} {fn : Func} {c : Code} {args : List Value} {pre : List Res} {X : World → Prop} {Post : Value → List Res → (World → Prop) → Prop} (N : Nat)
    (hf : P.funcs[f]? = some fn) (hb : fn.body = some c) (hN : fn.ntmps = N) (hn : Nat.ble args.length N = true)
    (h : ∀ av bor w0, Cw P N av bor w0 c ⟨params 0 args, pre, X⟩ (ends P fn N Post)) : Ct P f args.toArray pre X Post := Ct.mk fun w av G => by
  refine calls_of_wp hf hb ?_
  have ok : Ok N av (fps pre) w ⟨params 0 args, pre, X⟩ { tmps := args.toArray ++ Array.replicate (fn.ntmps - args.toArray.size) undef, defers := [] } w := by
    refine ⟨rfl, ?_, fun n v hn => ?_, G⟩
    · have := Nat.le_of_ble_eq_true hn
      simp [hN]; omega
    · obtain ⟨_, h2⟩ := look_params args 0 n v hn
      have hl : n < args.length := by
        rcases Nat.lt_or_ge n args.length with h | h
        · exact h
        · simp [List.getElem?_eq_none h] at h2
      rw [Array.getElem?_append_left (by simpa using hl)]
      simpa using h2
  refine Code.wp_mono (fun e a w' q => ?_) ((h av (fps pre) w).run _ _ ok)
  cases e with
  | panic _ => exact q.elim
  | outgrown => exact q.elim
  | exit _ => obtain ⟨s, h1, _⟩ := q; exact h1.elim
  | goto _ => obtain ⟨s, h1, _⟩ := q; exact h1.elim
  | normal =>
    obtain ⟨s, ⟨v, h1, h2⟩, h3⟩ := q
    exact ⟨h3.defers, v, h1 _ _ _ _ _ h3, v, s.loc, s.ext, rfl, h2, h3.gam⟩
  | ret =>
    obtain ⟨s, ⟨v, h1, h2⟩, h3⟩ := q
    exact ⟨h3.defers, v, h1 _ _ _ _ _ h3, v, s.loc, s.ext, rfl, h2, h3.gam⟩

/-- The same for a function that hands back new memory. -/
theorem mk_of_cw {f : FuncId} {fn : Func} {c : Code} {args : List Value} {X : World → Prop} {Φ : Value → (World → Prop) → Prop} (N : Nat)
    (hf : P.funcs[f]? = some fn) (hb : fn.body = some c) (hN : fn.ntmps = N) (hn : Nat.ble args.length N = true)
    (h : ∀ av bor w0, Cw P N av bor w0 c ⟨params 0 args, [], X⟩ (ends P fn N fun u _ X' => Φ u X')) : Mk P f args.toArray X Φ := Ct.mk fun w av G => by
  have h1 := (ct_of_cw (P := P) (Post := fun u _ X' => Φ u X') N hf hb hN hn h).run w av G
  refine h1.mono fun e w' ⟨u, R, X', he, hu, G'⟩ => ⟨u, [], X', he, ⟨hu, rfl⟩, ?_⟩
  exact G'.drop (List.nil_sublist _)

/-- The same for a function that only computes: what it owns at its end is forgotten. -/
theorem pu_of_cw {f : FuncId} {fn : Func} {c : Code} {args : List Value} {X : World → Prop} {v : Value} (N : Nat)
    (hf : P.funcs[f]? = some fn) (hb : fn.body = some c) (hN : fn.ntmps = N) (hn : Nat.ble args.length N = true)
    (h : ∀ av bor w0, Cw P N av bor w0 c ⟨params 0 args, [], X⟩ (ends P fn N fun u _ _ => u = v)) : Pu P f args.toArray X v := Ct.mk fun w av G => by
  have h1 := (ct_of_cw (P := P) (Post := fun u _ _ => u = v) N hf hb hN hn h).run w av G
  refine h1.mono fun e w' ⟨u, R, X', he, hu, G'⟩ => ⟨u, [], X', he, ⟨hu, rfl⟩, ?_⟩
  exact G'.drop (List.nil_sublist _)

theorem ends_ret {fn : Func} {N : Nat} {Post : Value → List Res → (World → Prop) → Prop} {s : St} {v : Value} (h : Res1 P fn N s v) (hp : Post v s.loc s.ext) : ends P fn N Post .ret s := ⟨v, h, hp⟩
theorem ends_end {fn : Func} {N : Nat} {Post : Value → List Res → (World → Prop) → Prop} {s : St} {v : Value} (h : Res1 P fn N s v) (hp : Post v s.loc s.ext) : ends P fn N Post .normal s := ⟨v, h, hp⟩
theorem res_tmp {fn : Func} {N t : Nat} {s : St} {v : Value} (hr : fn.results = #[.tmp t]) (h : look s.env t = some v) : Res1 P fn N s v := fun av bor w0 a w ok => by
  have := ok.env t v h
  simp [results, hr, this]
theorem res_tmp2 {fn : Func} {N t u : Nat} {s : St} {v x : Value} (hr : fn.results = #[.tmp t, .tmp u]) (h : look s.env t = some v) (h' : look s.env u = some x) : Res1 P fn N s (.tuple #[v, x]) := fun av bor w0 a w ok => by
  have h1 := ok.env t v h
  have h2 := ok.env u x h'
  simp [results, hr, h1, h2]
theorem res_none {fn : Func} {N : Nat} {s : St} (hr : fn.results = #[]) : Res1 P fn N s (.tuple #[]) := fun av bor w0 a w ok => by simp [results, hr]
end
attribute [irreducible] Pu Mk ends
end Go.Proofs.YtfpojkoddcdojaaGreatDoor.Sy
