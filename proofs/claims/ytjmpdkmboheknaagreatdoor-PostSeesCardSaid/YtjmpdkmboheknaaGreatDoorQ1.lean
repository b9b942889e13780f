/- Joined by program out of: Dp Dr Ap Mp So Ke. -/
import Derived.Test.YtjmpdkmboheknaaGreatDoorQ0
import Derived.MapKept
import Derived.Sort.OwnSorted
import Derived.Lib.SlKeysI
import Derived.Lib.SlicesCompact
import Derived.Shelf.SlIter.Nil
import Derived.Shelf.SlIterI.Nil
import Derived.Shelf.SortM.Plain
import Derived.Shelf.SortM.SortNone
set_option linter.unusedVariables false
set_option linter.unusedSimpArgs false
namespace Go.Proofs.YtjmpdkmboheknaaGreatDoor.Sy
open Go Go.RowKit

section
variable {P : Program} {N : Nat} {av bor : List Nat} {w0 : World} {ops : Array Oper} {rest : List Oper} {k : St → Prop} {E : Env} {loc loc' : List Res} {X : World → Prop}
variable {d : Option Tmp} {ty : TypeId} {pos : String} {af : Array Edge} {g : Option (Nat × Bool)} {bb want : Bool} {K : Exit → St → Prop}

theorem cw_know {c : Code} {p : Prop} (hp : ∀ w,X w → p) (h : p → Cw P N av bor w0 c ⟨E,loc,X⟩ K) : Cw P N av bor w0 c ⟨E,loc,X⟩ K := Cw.mk fun a w ok => (h (hp w ok.gam.keep.now)).run a w ok
theorem sw_know {p : Prop} (hp : ∀ w,X w → p) (h : p → Sw P N av bor w0 ops rest ⟨E,loc,X⟩ k) : Sw P N av bor w0 ops rest ⟨E,loc,X⟩ k := Sw.mk fun a w ok => (h (hp w ok.gam.keep.now)).run a w ok
theorem sw_imp {X' : World → Prop} (hp : ∀ w,X w → X' w) (h : Sw P N av bor w0 ops rest ⟨E,loc,X'⟩ k) : Sw P N av bor w0 ops rest ⟨E,loc,X⟩ k := Sw.mk fun a w ok => h.run a w (ok.via fun M G => G.imp hp)
theorem sw_skipT {n : Nat} {o : Op} (hg : gdB ops E g = some (bb,true) := by rfl) (hb : bb = false := by (first | with_reducible rfl | with_reducible assumption | with_reducible exact Bool.not_false | with_reducible exact Bool.not_true)) (hd : Nat.blt n N = true := by rfl) (h : Sw P N av bor w0 ops rest ⟨(n,undef) :: E,loc,X⟩ k) :
    Sw P N av bor w0 ops (⟨some n,o,ty,pos,af,g⟩ :: rest) ⟨E,loc,X⟩ k := sw_skip hg (by simp [hb]) hd h
theorem sw_skipF {n : Nat} {o : Op} (hg : gdB ops E g = some (bb,false) := by rfl) (hb : bb = true := by (first | with_reducible rfl | with_reducible assumption | with_reducible exact Bool.not_false | with_reducible exact Bool.not_true)) (hd : Nat.blt n N = true := by rfl) (h : Sw P N av bor w0 ops rest ⟨(n,undef) :: E,loc,X⟩ k) :
    Sw P N av bor w0 ops (⟨some n,o,ty,pos,af,g⟩ :: rest) ⟨E,loc,X⟩ k := sw_skip hg (by simp [hb]) hd h
def gdU (ops : Array Oper) (E : Env) : Option (Nat × Bool) → Bool
  | none => false
  | some (j,_) =>
    match (ops[j]?).bind (·.dst) with
    | some t => match look E t with
      | some (.tuple _) => true
      | _ => false
    | none => false
theorem sw_skipU {n : Nat} {o : Op} (hg : gdU ops E g = true := by rfl) (hd : Nat.blt n N = true := by rfl) (h : Sw P N av bor w0 ops rest ⟨(n,undef) :: E,loc,X⟩ k) :
    Sw P N av bor w0 ops (⟨some n,o,ty,pos,af,g⟩ :: rest) ⟨E,loc,X⟩ k := Sw.mk fun a w ok => by
  have hw : Region.wanted ⟨some n,o,ty,pos,af,g⟩ (yielded ops a.tmps) = false := by
    unfold gdU at hg
    unfold Region.wanted
    split at hg
    · cases hg
    · rename_i j want'
      split at hg
      · rename_i t ht
        split at hg
        · rename_i vs hv
          have := ok.env t _ hv
          simp only [yielded,ht,Option.bind_some,this]
          rfl
        · cases hg
      · cases hg
  simp only [wpList]
  rw [hw]
  exact h.run _ _ (ok.put (d:=some n) (by have h1 : n < N := Nat.le_of_ble_eq_true hd;simpa [inB] using h1) undef)
theorem sw_chk {o : Oper} (hg : gdB ops E o.guard = some (bb,want) := by rfl) (hb : bb = true ∨ bb = false := by (first | with_reducible exact Or.inl rfl | with_reducible exact Or.inr rfl | with_reducible exact Or.inl Bool.not_false | with_reducible exact Or.inr Bool.not_true | (apply Or.inl;with_reducible assumption) | (apply Or.inr;with_reducible assumption))) (h : Sw P N av bor w0 ops (o :: rest) ⟨E,loc,X⟩ k) : Sw P N av bor w0 ops (o :: rest) ⟨E,loc,X⟩ k := h
theorem sw_perm {l : List Res} (hs : loc.Perm l) (h : Sw P N av bor w0 ops rest ⟨E,l,X⟩ k) : Sw P N av bor w0 ops rest ⟨E,loc,X⟩ k := Sw.mk fun a w ok => h.run a w (ok.via fun M G => G.perm (hs.append_right M))

def sub (E : Env) : Env → Prop
  | [] => True
  | p :: r => look E p.1 = some p.2 ∧ sub E r
theorem sub_all {E : Env} : ∀ {E' : Env},sub E E' → ∀ p ∈ E',look E p.1 = some p.2
  | [],_,p,hp => by cases hp
  | q :: r,h,p,hp => by
    rcases List.mem_cons.1 hp with rfl | hp
    · exact h.1
    · exact sub_all h.2 p hp
theorem ok_sub {E' : Env} {l' : List Res} {X' : World → Prop} (he : sub E E') (hl : l'.Sublist loc) (hx : ∀ w,X w → X' w) : ∀ a w,Ok N av bor w0 ⟨E,loc,X⟩ a w → Ok N av bor w0 ⟨E',l',X'⟩ a w :=
  ok_weaken (sub_all he) hl hx

theorem sw_st1 {t : TypeId} {x y : Operand} {b off T : Nat} {cs : List Value} {v : Value} [ht : TyOne P t] (hx : ev E x = some (.pointer (some ⟨b,off,none⟩)) := by rfl) (hy : ev E y = some v := by rfl) (h1 : v.oneCell' = true := by rfl)
    (hA : At (cel b T cs) (cel b T (cs.set off v)) loc loc' := by (repeat (first | exact At.here _ | apply At.there))) (hl : Nat.blt off cs.length = true := by rfl) (hg : gdB ops E g = some (bb,want) := by rfl) (hb : bb = want := by (first | with_reducible rfl | with_reducible assumption | with_reducible exact Bool.not_false | with_reducible exact Bool.not_true)) (hd : inB N d = true := by rfl)
    (h : Sw P N av bor w0 ops rest ⟨putE E d undef,loc',X⟩ k) : Sw P N av bor w0 ops (⟨d,.store t x y,ty,pos,af,g⟩ :: rest) ⟨E,loc,X⟩ k := by
  have hlt : off < cs.length := Nat.le_of_ble_eq_true hl
  have hc : v.cells.toList = [v] := by cases v <;> first | rfl | (simp [Value.oneCell'] at h1)
  refine sw_store (vs:=[v]) (cs:=cs) (cs':=cs.set off v) (by have := (oneCell_spec (TyOne.out (P:=P) (t:=t)) w0).2;simpa using this) hx hy hc (by simp [h1]) (by simp;omega) ?_ hA hg hb hd h
  rw [List.set_eq_take_append_cons_drop,if_pos hlt]
  simp
theorem sw_stAll {m : Nat} {t : TypeId} {x y : Operand} {b T : Nat} {cs vs : List Value} {arr : Array Value} [ht : TyAgg P t m] (hx : ev E x = some (.pointer (some ⟨b,0,none⟩)) := by rfl) (hy : ev E y = some (.agg arr) := by rfl) (hv : arr.toList = vs := by (first | exact List.toList_toArray | rfl))
    (hA : At (cel b T cs) (cel b T vs) loc loc' := by (repeat (first | exact At.here _ | apply At.there))) (hm : vs.length = m := by rfl) (hn : cs.length = m := by rfl) (h1 : vs.all (·.oneCell') = true := by rfl) (hg : gdB ops E g = some (bb,want) := by rfl) (hb : bb = want := by (first | with_reducible rfl | with_reducible assumption | with_reducible exact Bool.not_false | with_reducible exact Bool.not_true)) (hd : inB N d = true := by rfl)
    (h : Sw P N av bor w0 ops rest ⟨putE E d undef,loc',X⟩ k) : Sw P N av bor w0 ops (⟨d,.store t x y,ty,pos,af,g⟩ :: rest) ⟨E,loc,X⟩ k := by
  obtain ⟨_,_,_,h3⟩ := aggSize_spec (TyAgg.out (P:=P) (t:=t))
  refine sw_store (vs:=vs) (cs:=cs) (cs':=vs) (by rw [h3,hm]) hx hy (by simpa [Value.cells] using hv) h1 (by omega) ?_ hA hg hb hd h
  simp [hm, ← hn]

def sit (b : Nat) (s : ByteArray) (pos : Nat) : Res := ⟨[b],fun w => w.heap[b]? = some (.stringIter s pos)⟩
theorem sw_rangeS {n : Nat} {t : TypeId} {x : Operand} {s : ByteArray} [hI : TyStr P t] (hx : ev E x = some (.string s) := by rfl) (hg : gdB ops E g = some (bb,want) := by rfl) (hb : bb = want := by (first | with_reducible rfl | with_reducible assumption | with_reducible exact Bool.not_false | with_reducible exact Bool.not_true)) (hd : Nat.blt n N = true := by rfl)
    (h : ∀ b,Sw P N av bor w0 ops rest ⟨(n,.pointer (some ⟨b,0,none⟩)) :: E,sit b s 0 :: loc,X⟩ k) : Sw P N av bor w0 ops (⟨some n,.range t x,ty,pos,af,g⟩ :: rest) ⟨E,loc,X⟩ k := Sw.mk fun a w ok => by
  have hd' : inB N (some n) = true := by have h1 : n < N := Nat.le_of_ble_eq_true hd;simpa [inB] using h1
  simp only [wpList]
  rw [wanted_of ok (o:=⟨some n,.range t x,ty,pos,af,g⟩) hg]
  subst hb
  simp only [beq_self_eq_true,if_true]
  left
  unfold Oper.wp
  have hr : (execOp a.eval ⟨some n,.range t x,ty,pos,af,g⟩).run P w = .ok (.value (.pointer (some ⟨w.heap.size,0,none⟩))) (w.alloc (.stringIter s 0)) := by
    simp [execOp,ok.eval (st:=⟨E,loc,X⟩) hx,Instr.range,run_underlying TyStr.out,newObj]
    rfl
  rw [hr]
  have ok' : Ok N av bor w0 ⟨E,sit w.heap.size s 0 :: loc,X⟩ a (w.alloc (.stringIter s 0)) := (ok.via fun M G => G.new _ _ fun _ h => h)
  exact (h _).run _ _ (put_eq (some n) _ ▸ ok'.put hd' _)
theorem sw_nextS {n b q : Nat} {x : Operand} {s : ByteArray} (hx : ev E x = some (.pointer (some ⟨b,0,none⟩)) := by rfl) {L : Nat → List Res} (hA : ∀ q',At (sit b s q) (sit b s q') loc (L q') := by (intro _;exact At.here _)) (hg : gdB ops E g = some (bb,want) := by rfl) (hb : bb = want := by (first | with_reducible rfl | with_reducible assumption | with_reducible exact Bool.not_false | with_reducible exact Bool.not_true)) (hd : Nat.blt n N = true := by rfl)
    (h1 : q < s.size → Sw P N av bor w0 ops rest ⟨(n,.tuple #[.bool true,.int .i64 q,.int .i32 (Utf8.decode s q).1]) :: E,L (q + (Utf8.decode s q).2),X⟩ k)
    (h2 : s.size ≤ q → Sw P N av bor w0 ops rest ⟨(n,.tuple #[.bool false]) :: E,L q,X⟩ k) : Sw P N av bor w0 ops (⟨some n,.next x true,ty,pos,af,g⟩ :: rest) ⟨E,loc,X⟩ k := Sw.mk fun a w ok => by
  have hd' : inB N (some n) = true := by have h1 : n < N := Nat.le_of_ble_eq_true hd;simpa [inB] using h1
  have hw : w.heap[b]? = some (.stringIter s q) := (ok.gam.here (sit b s q) (hA q).mem).now
  simp only [wpList]
  rw [wanted_of ok (o:=⟨some n,.next x true,ty,pos,af,g⟩) hg]
  subst hb
  simp only [beq_self_eq_true,if_true]
  left
  unfold Oper.wp
  by_cases hq : q < s.size
  · have hr : (execOp a.eval ⟨some n,.next x true,ty,pos,af,g⟩).run P w = .ok (.value (.tuple #[.bool true,.int .i64 q,.int .i32 (Utf8.decode s q).1])) { w with heap := w.heap.setIfInBounds b (.stringIter s (q + (Utf8.decode s q).2)) } := by
      simp [execOp,ok.eval (st:=⟨E,loc,X⟩) hx,Instr.next,getObj,setObj,Sem.run,hw,hq,goInt]
    rw [hr]
    have hlt : b < w.heap.size := (Array.getElem?_eq_some_iff.1 hw).1
    have ok' : Ok N av bor w0 ⟨E,L (q + (Utf8.decode s q).2),X⟩ a { w with heap := w.heap.setIfInBounds b (.stringIter s (q + (Utf8.decode s q).2)) } :=
      (ok.via fun M G => G.turn ((hA _).app M) rfl rfl rfl (by simp) (fun i hi => by simp [Array.getElem?_setIfInBounds_ne (Ne.symm hi)]) (fun w2 e => by
        show w2.heap[b]? = _
        rw [e]
        simp [hlt]))
    exact (h1 hq).run _ _ (put_eq (some n) _ ▸ ok'.put hd' _)
  · have hr : (execOp a.eval ⟨some n,.next x true,ty,pos,af,g⟩).run P w = .ok (.value (.tuple #[.bool false])) w := by
      simp [execOp,ok.eval (st:=⟨E,loc,X⟩) hx,Instr.next,getObj,Sem.run,hw,hq]
    rw [hr]
    have ok' : Ok N av bor w0 ⟨E,L q,X⟩ a w := (ok.via fun M G => G.turn ((hA q).app M) rfl rfl rfl rfl (fun _ _ => rfl) (fun w2 e => by show w2.heap[b]? = _;rw [e,hw]))
    exact (h2 (by omega)).run _ _ (put_eq (some n) _ ▸ ok'.put hd' _)
end

structure SlV where
  p : Option Addr
  n : Nat
  c : Nat
def SlV.v (s : SlV) : Value := .slice s.p s.n s.c
theorem Addr_add_add (a : Addr) (i j : Nat) : (a.add i).add j = a.add (i + j) := by
  unfold Addr.add
  by_cases hi : i = 0 <;> by_cases hj : j = 0 <;> simp [hi,hj,Nat.add_assoc]
def elP (p : Option Addr) (q : Nat) : Value := .pointer (p.map (·.add q))
def CellAt (w : World) (p : Option Addr) (q : Nat) (u : Value) : Prop := p.isSome = true ∧ ∀ a,p = some a → w.cell? (a.add q) = some u
structure RowsD (w : World) (size : Nat) (s : SlV) (xs : List (List Value)) : Prop where
  len : s.n = xs.length
  cap : s.n ≤ s.c
  max : s.c ≤ maxLen
  row : ∀ i cs,xs[i]? = some cs → cs.length = size ∧ s.p.isSome = true ∧ ∀ j u,cs[j]? = some u → CellAt w s.p (i * size + j) u

section
variable {P : Program} {N : Nat} {av bor : List Nat} {w0 : World} {st : St} {ty : TypeId} {x y : Operand} {t : TypeId}
theorem y_idxX {e n' b' : Nat} [h : TySl P t e n' b'] {p : Option Addr} {m c q : Nat} {i : Int} (hx : ev st.env x = some (.slice p m c)) (hy : ev st.env y = some (.int .i64 i)) (h0 : 0 ≤ i) (h1 : i < m) (hp : p.isSome = true) (hq : i.toNat * n' = q) :
    Yields P N av bor w0 st (.indexAddr t x y) ty (elP p q) := Sy.Yields.mk fun A w ok d pos af g => by
  obtain ⟨hu,inf,hi,hs,hb⟩ := slOf_spec h.out
  obtain ⟨a,rfl⟩ := Option.isSome_iff_exists.1 hp
  have hz := run_sizeOf (P:=P) (t:=e) (n:=n') (by simp [hi,hs])
  simp [execOp,ok.eval hx,ok.eval hy,Instr.indexAt,asIntOf,run_underlying hu,h0,h1,hz,elP,hq]
theorem y_fldX {s f o q r : Nat} [h : TyFld P s f o] {p : Option Addr} (hx : ev st.env x = some (elP p q)) (hp : p.isSome = true) (hq : q + o = r) : Yields P N av bor w0 st (.fieldAddr s x f) ty (elP p r) := Sy.Yields.mk fun A w ok d pos af g => by
  obtain ⟨a,rfl⟩ := Option.isSome_iff_exists.1 hp
  simp [execOp,ok.eval hx,elP,run_fieldAt h.out,Addr_add_add,hq]
theorem y_ldX [h : TyOne P t] {p : Option Addr} {q : Nat} {u : Value} (hx : ev st.env x = some (elP p q)) (hF : ∀ w,st.ext w → CellAt w p q u) : Yields P N av bor w0 st (.load t x) ty u := Sy.Yields.mk fun A w ok d pos af g => by
  obtain ⟨hp,hc⟩ := hF w ok.gam.keep.now
  obtain ⟨a,rfl⟩ := Option.isSome_iff_exists.1 hp
  simp [execOp,ok.eval hx,elP,Instr.loadAt,Instr.sureAddr,loadVar,(oneCell_spec h.out w).1,hc a rfl]
theorem y_ldXs {m : Nat} [h : TyAgg P t m] {p : Option Addr} {q : Nat} {cs : List Value} (hx : ev st.env x = some (elP p q)) (hF : ∀ w,st.ext w → cs.length = m ∧ p.isSome = true ∧ ∀ j u,cs[j]? = some u → CellAt w p (q + j) u) :
    Yields P N av bor w0 st (.load t x) ty (.agg cs.toArray) := Sy.Yields.mk fun A w ok d pos af g => by
  obtain ⟨hm,hp,hc⟩ := hF w ok.gam.keep.now
  obtain ⟨a,rfl⟩ := Option.isSome_iff_exists.1 hp
  have := run_loadVar_cells (P:=P) (t:=t) h.out (w:=w) (A:=a.add q) hm (fun j v hj => by rw [Addr_add_add];exact (hc j v hj).2 a rfl)
  simp [execOp,ok.eval hx,elP,Instr.loadAt,Instr.sureAddr,this]
end
section
variable {P : Program} {N : Nat} {av bor : List Nat} {w0 : World} {ty : TypeId} {x y : Operand} {t t2 : TypeId} {k : IntKind} {a b c : Int}
variable {E : Env} {loc : List Res} {X : World → Prop} {ops : Array Oper} {kk : St → Prop} {n : Nat} {pos : String} {af : Array Edge} {g : Option (Nat × Bool)} {rest : List Oper} {bb want : Bool}
theorem sy_idxX {e n0' b' : Nat} [hI : TySl P t e n0' b'] {p : Option Addr} {m c q : Nat} {i : Int} (hx : ev E x = some (.slice p m c) := by rfl) (hy : ev E y = some (.int .i64 i) := by rfl) (h0 : 0 ≤ i := by omega) (h1 : i < m := by omega) (hp : p.isSome = true := by assumption) (hq : i.toNat * n0' = q := by (first | rfl | omega)) (hg : gdB ops E g = some (bb,want) := by rfl) (hbb : bb = want := by (first | with_reducible rfl | with_reducible assumption | with_reducible exact Bool.not_false | with_reducible exact Bool.not_true)) (hd : Nat.blt n N = true := by rfl) (h : Sw P N av bor w0 ops rest ⟨(n,elP p q) :: E,loc,X⟩ kk) :
    Sw P N av bor w0 ops (⟨some n,.indexAddr t x y,ty,pos,af,g⟩ :: rest) ⟨E,loc,X⟩ kk := sw_yield (y_idxX hx hy h0 h1 hp hq) hg hbb hd h
theorem sy_fldX {s f o q r : Nat} [hI : TyFld P s f o] {p : Option Addr} (hx : ev E x = some (elP p q) := by rfl) (hp : p.isSome = true := by assumption) (hq : q + o = r := by (first | exact Nat.zero_add _ | rfl | (simp only [Nat.reduceAdd];rfl))) (hg : gdB ops E g = some (bb,want) := by rfl) (hbb : bb = want := by (first | with_reducible rfl | with_reducible assumption | with_reducible exact Bool.not_false | with_reducible exact Bool.not_true)) (hd : Nat.blt n N = true := by rfl) (h : Sw P N av bor w0 ops rest ⟨(n,elP p r) :: E,loc,X⟩ kk) :
    Sw P N av bor w0 ops (⟨some n,.fieldAddr s x f,ty,pos,af,g⟩ :: rest) ⟨E,loc,X⟩ kk := sw_yield (y_fldX hx hp hq) hg hbb hd h
theorem sy_ldX [hI : TyOne P t] {p : Option Addr} {q : Nat} {u : Value} (hx : ev E x = some (elP p q) := by rfl) (hF : ∀ w,X w → CellAt w p q u) (hg : gdB ops E g = some (bb,want) := by rfl) (hbb : bb = want := by (first | with_reducible rfl | with_reducible assumption | with_reducible exact Bool.not_false | with_reducible exact Bool.not_true)) (hd : Nat.blt n N = true := by rfl) (h : Sw P N av bor w0 ops rest ⟨(n,u) :: E,loc,X⟩ kk) :
    Sw P N av bor w0 ops (⟨some n,.load t x,ty,pos,af,g⟩ :: rest) ⟨E,loc,X⟩ kk := sw_yield (y_ldX hx hF) hg hbb hd h
theorem sy_ldXs {m : Nat} [hI : TyAgg P t m] {p : Option Addr} {q : Nat} {cs : List Value} (hx : ev E x = some (elP p q) := by rfl) (hF : ∀ w,X w → cs.length = m ∧ p.isSome = true ∧ ∀ j u,cs[j]? = some u → CellAt w p (q + j) u) (hg : gdB ops E g = some (bb,want) := by rfl) (hbb : bb = want := by (first | with_reducible rfl | with_reducible assumption | with_reducible exact Bool.not_false | with_reducible exact Bool.not_true)) (hd : Nat.blt n N = true := by rfl) (h : Sw P N av bor w0 ops rest ⟨(n,.agg cs.toArray) :: E,loc,X⟩ kk) :
    Sw P N av bor w0 ops (⟨some n,.load t x,ty,pos,af,g⟩ :: rest) ⟨E,loc,X⟩ kk := sw_yield (y_ldXs hx hF) hg hbb hd h
end
end Go.Proofs.YtjmpdkmboheknaaGreatDoor.Sy

namespace Go.Proofs.YtjmpdkmboheknaaGreatDoor.Sy
open Go Go.RowKit

section
variable {P : Program} {N : Nat} {av bor : List Nat} {w0 : World}
theorem oper_wp_mono {o : Oper} {a : Act} {w : World} {k k' : St → Prop} {K K' : Act → World → Prop} (hK : ∀ a w,K a w → K' a w) (h : o.wp P a w K (post N av bor w0 (only k))) : o.wp P a w K' (post N av bor w0 (only k')) := by
  unfold Oper.wp at *
  generalize (execOp a.eval o).run P w = r at *
  cases r with
  | ok n w' =>
    cases n <;> simp only [Oper.upon] at h ⊢
    case value u => exact hK _ _ h
    case skip => exact hK _ _ h
    case defer d => exact hK _ _ h
    case enter f args => exact Calls.mono h fun e w'' he => by cases e with
      | returned v => exact hK _ _ he
      | panicked c => exact he.elim
      | outgrown => obtain ⟨_,_,h⟩ := he;exact h.elim
    case row row args => exact Rows.mono h fun u w'' he => hK _ _ he
  | halt x w' => cases x <;> simp only [Oper.upon] at h ⊢ <;> exact h.elim

structure Aw (P : Program) (N : Nat) (av bor : List Nat) (w0 : World) (loc0 : List Res) (X0 : World → Prop) (ops : Array Oper) (fuel : Nat) (listed : Array Bool) (st : St) (k : St → Prop) : Prop where
  run : ∀ a w,Ok N av bor w0 st a w → wpAnyH P .any ops (post N av bor w0 (only k)) (Gam av bor w0 loc0 X0) fuel listed a w

variable {loc0 : List Res} {X0 : World → Prop} {ops : Array Oper} {fuel : Nat} {listed : Array Bool} {E : Env} {loc : List Res} {X : World → Prop} {k : St → Prop} {K : Exit → St → Prop}
variable {n : Nat} {o : Op} {ty : TypeId} {pos : String} {af : Array Edge} {g : Option (Nat × Bool)} {v : Value} {bb want : Bool}

theorem cw_draw {id : Nat} {l : List Oper} (loc0 : List Res) (X0 : World → Prop) (hm : P.follows .mixedOrders = true) (h : Aw P N av bor w0 loc0 X0 l.toArray l.length (Array.replicate l.length false) ⟨E,loc,X⟩ (K .normal)) :
    Cw P N av bor w0 (.region id l.toArray true) ⟨E,loc,X⟩ K := Cw.mk fun a w ok => by
  have h1 := h.run a w.drew (ok.via fun M G => G.drew)
  have h2 : (Code.region id l.toArray true).wp P (post N av bor w0 (only (K .normal))) a w := wp_region_held hm (by simpa using h1)
  refine Code.wp_mono (fun e a w q => ?_) h2
  cases e with
  | normal => exact q
  | panic _ => exact q
  | outgrown => exact q
  | exit _ => obtain ⟨_,h,_⟩ := q;exact h.elim
  | goto _ => obtain ⟨_,h,_⟩ := q;exact h.elim
  | ret => obtain ⟨_,h,_⟩ := q;exact h.elim

theorem aw_take (i : Nat) (hi : ops[i]? = some ⟨some n,o,ty,pos,af,g⟩ := by rfl) (hs : Region.noSelect ops = true := by kernel_rfl) (hf : Region.free .any ops listed i = true := by kernel_rfl) (hr : (Region.ready .any ops listed).contains i = true := by kernel_rfl)
    (hsub : ∀ w,Gam av bor w0 loc X w → Gam av bor w0 loc0 X0 w := by (first | exact fun _ h => h | exact fun _ h => (h.drop (List.nil_sublist _)).imp (fun _ _ => trivial) | exact fun _ h => h.drop (by (first | exact List.Sublist.refl _ | exact List.Sublist.cons _ (List.Sublist.refl _) | exact List.Sublist.cons _ (List.Sublist.cons _ (List.Sublist.refl _)) | exact List.Sublist.cons _ (List.Sublist.cons _ (List.Sublist.cons _ (List.Sublist.refl _))))) | exact fun _ h => h.imp (fun _ h => h.1) | exact fun _ h => (h.drop (by (first | exact List.Sublist.refl _ | exact List.Sublist.cons _ (List.Sublist.refl _) | exact List.Sublist.cons _ (List.Sublist.cons _ (List.Sublist.refl _)) | exact List.Sublist.cons _ (List.Sublist.cons _ (List.Sublist.cons _ (List.Sublist.refl _)))))).imp (fun _ h => h.1) | exact fun _ h => (h.drop (by (first | exact List.Sublist.refl _ | exact List.Sublist.cons _ (List.Sublist.refl _) | exact List.Sublist.cons _ (List.Sublist.cons _ (List.Sublist.refl _)) | exact List.Sublist.cons _ (List.Sublist.cons _ (List.Sublist.cons _ (List.Sublist.refl _)))))).imp (fun _ h => h.1.1))) (hy : Sy.Yields P N av bor w0 ⟨E,loc0,X0⟩ o ty v := by (first | (apply y_move;rfl) | (apply y_assign;rfl) | (apply y_nilCheck;rfl) | (apply y_fld;rfl;(first | exact Nat.zero_add _ | (simp only [Nat.reduceAdd];rfl))) | (apply y_ld;rfl;(repeat (first | exact List.mem_cons_self | apply List.mem_cons_of_mem));rfl) | (apply y_ldAll;rfl;(repeat (first | exact List.mem_cons_self | apply List.mem_cons_of_mem));rfl) | (apply y_pick_t;rfl;(first | with_reducible rfl | with_reducible assumption | with_reducible exact Bool.not_false | with_reducible exact Bool.not_true);rfl) | (apply y_pick_f;rfl;(first | with_reducible rfl | with_reducible assumption | with_reducible exact Bool.not_false | with_reducible exact Bool.not_true);rfl) | (apply y_not;rfl) | (apply y_eql;rfl;rfl) | (apply y_neq;rfl;rfl) | (apply y_lss;rfl;rfl) | (apply y_leq;rfl;rfl) | (apply y_gtr;rfl;rfl) | (apply y_geq;rfl;rfl) | (apply y_seql;rfl;rfl) | (apply y_sneq;rfl;rfl) | (apply y_slen;rfl) | (apply y_len;rfl) | (apply y_extract;rfl;rfl) | (apply y_add;rfl;rfl;(first | exact IntWalk.i64_in _ (by omega) | rfl)) | (apply y_sub;rfl;rfl;(first | exact IntWalk.i64_in _ (by omega) | rfl)) | (apply y_and;rfl;rfl) | (apply y_or;rfl;rfl) | (apply y_xor;rfl;rfl) | (apply y_andNot;rfl;rfl) | (apply y_xorU;rfl) | (apply y_shl;rfl;rfl;(first | decide | exact bitsV_nonneg _ _ rfl _ _ | exact k_nonneg _ rfl _ | omega)) | (apply y_shr;rfl;rfl;(first | decide | exact bitsV_nonneg _ _ rfl _ _ | exact k_nonneg _ rfl _ | omega)) | (apply y_int;rfl;rfl) | (apply y_arrA;rfl;rfl;decide;decide;rfl))) (hg : gdB ops E g = some (bb,want) := by rfl) (hb : bb = want := by (first | with_reducible rfl | with_reducible assumption | with_reducible exact Bool.not_false | with_reducible exact Bool.not_true)) (hd : Nat.blt n N = true := by rfl)
    (h : Aw P N av bor w0 loc0 X0 ops fuel (listed.setIfInBounds i true) ⟨(n,v) :: E,loc,X⟩ k) : Aw P N av bor w0 loc0 X0 ops (fuel + 1) listed ⟨E,loc,X⟩ k := ⟨fun a w ok => by
  have ok' := ok.put (d:=some n) (by have h1 : n < N := Nat.le_of_ble_eq_true hd;simpa [inB] using h1) v
  refine wpAnyH_take hi hs hf hr (fun _ _ _ h => h) (Or.inl ⟨?_,fun w' hw' => ?_⟩) (hsub w ok.gam) (h.run _ _ ok')
  · rw [wanted_of ok (o:=⟨some n,o,ty,pos,af,g⟩) hg,hb];simp
  · exact hy.run { a with defers := [] } w' ⟨ok.size,ok.env,by simpa [mres] using hw'⟩ _ _ _ _⟩
theorem aw_skip (i : Nat) (hi : ops[i]? = some ⟨some n,o,ty,pos,af,g⟩ := by rfl) (hs : Region.noSelect ops = true := by kernel_rfl) (hf : Region.free .any ops listed i = true := by kernel_rfl) (hr : (Region.ready .any ops listed).contains i = true := by kernel_rfl)
    (hsub : ∀ w,Gam av bor w0 loc X w → Gam av bor w0 loc0 X0 w := by (first | exact fun _ h => h | exact fun _ h => (h.drop (List.nil_sublist _)).imp (fun _ _ => trivial) | exact fun _ h => h.drop (by (first | exact List.Sublist.refl _ | exact List.Sublist.cons _ (List.Sublist.refl _) | exact List.Sublist.cons _ (List.Sublist.cons _ (List.Sublist.refl _)) | exact List.Sublist.cons _ (List.Sublist.cons _ (List.Sublist.cons _ (List.Sublist.refl _))))) | exact fun _ h => h.imp (fun _ h => h.1) | exact fun _ h => (h.drop (by (first | exact List.Sublist.refl _ | exact List.Sublist.cons _ (List.Sublist.refl _) | exact List.Sublist.cons _ (List.Sublist.cons _ (List.Sublist.refl _)) | exact List.Sublist.cons _ (List.Sublist.cons _ (List.Sublist.cons _ (List.Sublist.refl _)))))).imp (fun _ h => h.1) | exact fun _ h => (h.drop (by (first | exact List.Sublist.refl _ | exact List.Sublist.cons _ (List.Sublist.refl _) | exact List.Sublist.cons _ (List.Sublist.cons _ (List.Sublist.refl _)) | exact List.Sublist.cons _ (List.Sublist.cons _ (List.Sublist.cons _ (List.Sublist.refl _)))))).imp (fun _ h => h.1.1))) (hg : gdB ops E g = some (bb,want) := by rfl) (hb : bb = !want := by (first | with_reducible rfl | with_reducible assumption | with_reducible exact Bool.not_false | with_reducible exact Bool.not_true)) (hd : Nat.blt n N = true := by rfl)
    (h : Aw P N av bor w0 loc0 X0 ops fuel (listed.setIfInBounds i true) ⟨(n,undef) :: E,loc,X⟩ k) : Aw P N av bor w0 loc0 X0 ops (fuel + 1) listed ⟨E,loc,X⟩ k := ⟨fun a w ok => by
  have ok' := ok.put (d:=some n) (by have h1 : n < N := Nat.le_of_ble_eq_true hd;simpa [inB] using h1) undef
  refine wpAnyH_take hi hs hf hr (fun _ _ _ h => h) (Or.inr ⟨?_,rfl⟩) (hsub w ok.gam) (h.run _ _ ok')
  rw [wanted_of ok (o:=⟨some n,o,ty,pos,af,g⟩) hg,hb]
  cases want <;> rfl⟩

theorem aw_skipT (i : Nat) (hi : ops[i]? = some ⟨some n,o,ty,pos,af,g⟩ := by rfl) (hs : Region.noSelect ops = true := by kernel_rfl) (hf : Region.free .any ops listed i = true := by kernel_rfl) (hr : (Region.ready .any ops listed).contains i = true := by kernel_rfl)
    (hsub : ∀ w,Gam av bor w0 loc X w → Gam av bor w0 loc0 X0 w := by (first | exact fun _ h => h | exact fun _ h => (h.drop (List.nil_sublist _)).imp (fun _ _ => trivial) | exact fun _ h => h.drop (by (first | exact List.Sublist.refl _ | exact List.Sublist.cons _ (List.Sublist.refl _) | exact List.Sublist.cons _ (List.Sublist.cons _ (List.Sublist.refl _)) | exact List.Sublist.cons _ (List.Sublist.cons _ (List.Sublist.cons _ (List.Sublist.refl _))))) | exact fun _ h => h.imp (fun _ h => h.1) | exact fun _ h => (h.drop (by (first | exact List.Sublist.refl _ | exact List.Sublist.cons _ (List.Sublist.refl _) | exact List.Sublist.cons _ (List.Sublist.cons _ (List.Sublist.refl _)) | exact List.Sublist.cons _ (List.Sublist.cons _ (List.Sublist.cons _ (List.Sublist.refl _)))))).imp (fun _ h => h.1) | exact fun _ h => (h.drop (by (first | exact List.Sublist.refl _ | exact List.Sublist.cons _ (List.Sublist.refl _) | exact List.Sublist.cons _ (List.Sublist.cons _ (List.Sublist.refl _)) | exact List.Sublist.cons _ (List.Sublist.cons _ (List.Sublist.cons _ (List.Sublist.refl _)))))).imp (fun _ h => h.1.1))) (hg : gdB ops E g = some (bb,true) := by rfl) (hb : bb = false := by (first | with_reducible rfl | with_reducible assumption | with_reducible exact Bool.not_false | with_reducible exact Bool.not_true)) (hd : Nat.blt n N = true := by rfl)
    (h : Aw P N av bor w0 loc0 X0 ops fuel (listed.setIfInBounds i true) ⟨(n,undef) :: E,loc,X⟩ k) : Aw P N av bor w0 loc0 X0 ops (fuel + 1) listed ⟨E,loc,X⟩ k := aw_skip i hi hs hf hr hsub hg (by simp [hb]) hd h
theorem aw_skipF (i : Nat) (hi : ops[i]? = some ⟨some n,o,ty,pos,af,g⟩ := by rfl) (hs : Region.noSelect ops = true := by kernel_rfl) (hf : Region.free .any ops listed i = true := by kernel_rfl) (hr : (Region.ready .any ops listed).contains i = true := by kernel_rfl)
    (hsub : ∀ w,Gam av bor w0 loc X w → Gam av bor w0 loc0 X0 w := by (first | exact fun _ h => h | exact fun _ h => (h.drop (List.nil_sublist _)).imp (fun _ _ => trivial) | exact fun _ h => h.drop (by (first | exact List.Sublist.refl _ | exact List.Sublist.cons _ (List.Sublist.refl _) | exact List.Sublist.cons _ (List.Sublist.cons _ (List.Sublist.refl _)) | exact List.Sublist.cons _ (List.Sublist.cons _ (List.Sublist.cons _ (List.Sublist.refl _))))) | exact fun _ h => h.imp (fun _ h => h.1) | exact fun _ h => (h.drop (by (first | exact List.Sublist.refl _ | exact List.Sublist.cons _ (List.Sublist.refl _) | exact List.Sublist.cons _ (List.Sublist.cons _ (List.Sublist.refl _)) | exact List.Sublist.cons _ (List.Sublist.cons _ (List.Sublist.cons _ (List.Sublist.refl _)))))).imp (fun _ h => h.1) | exact fun _ h => (h.drop (by (first | exact List.Sublist.refl _ | exact List.Sublist.cons _ (List.Sublist.refl _) | exact List.Sublist.cons _ (List.Sublist.cons _ (List.Sublist.refl _)) | exact List.Sublist.cons _ (List.Sublist.cons _ (List.Sublist.cons _ (List.Sublist.refl _)))))).imp (fun _ h => h.1.1))) (hg : gdB ops E g = some (bb,false) := by rfl) (hb : bb = true := by (first | with_reducible rfl | with_reducible assumption | with_reducible exact Bool.not_false | with_reducible exact Bool.not_true)) (hd : Nat.blt n N = true := by rfl)
    (h : Aw P N av bor w0 loc0 X0 ops fuel (listed.setIfInBounds i true) ⟨(n,undef) :: E,loc,X⟩ k) : Aw P N av bor w0 loc0 X0 ops (fuel + 1) listed ⟨E,loc,X⟩ k := aw_skip i hi hs hf hr hsub hg (by simp [hb]) hd h
theorem gdU_wanted {a : Act} {w : World} {st : St} (ok : Ok N av bor w0 st a w) {o : Oper} (h : gdU ops st.env o.guard = true) : Region.wanted o (yielded ops a.tmps) = false := by
  unfold gdU at h
  unfold Region.wanted
  split at h
  · cases h
  · rename_i j want' he
    simp only [he]
    split at h
    · rename_i t ht
      split at h
      · rename_i vs hv
        have := ok.env t _ hv
        simp only [yielded,ht,Option.bind_some,this]
        rfl
      · cases h
    · cases h
theorem aw_skipU (i : Nat) (hi : ops[i]? = some ⟨some n,o,ty,pos,af,g⟩ := by rfl) (hs : Region.noSelect ops = true := by kernel_rfl) (hf : Region.free .any ops listed i = true := by kernel_rfl) (hr : (Region.ready .any ops listed).contains i = true := by kernel_rfl)
    (hsub : ∀ w,Gam av bor w0 loc X w → Gam av bor w0 loc0 X0 w := by (first | exact fun _ h => h | exact fun _ h => (h.drop (List.nil_sublist _)).imp (fun _ _ => trivial) | exact fun _ h => h.drop (by (first | exact List.Sublist.refl _ | exact List.Sublist.cons _ (List.Sublist.refl _) | exact List.Sublist.cons _ (List.Sublist.cons _ (List.Sublist.refl _)) | exact List.Sublist.cons _ (List.Sublist.cons _ (List.Sublist.cons _ (List.Sublist.refl _))))) | exact fun _ h => h.imp (fun _ h => h.1) | exact fun _ h => (h.drop (by (first | exact List.Sublist.refl _ | exact List.Sublist.cons _ (List.Sublist.refl _) | exact List.Sublist.cons _ (List.Sublist.cons _ (List.Sublist.refl _)) | exact List.Sublist.cons _ (List.Sublist.cons _ (List.Sublist.cons _ (List.Sublist.refl _)))))).imp (fun _ h => h.1) | exact fun _ h => (h.drop (by (first | exact List.Sublist.refl _ | exact List.Sublist.cons _ (List.Sublist.refl _) | exact List.Sublist.cons _ (List.Sublist.cons _ (List.Sublist.refl _)) | exact List.Sublist.cons _ (List.Sublist.cons _ (List.Sublist.cons _ (List.Sublist.refl _)))))).imp (fun _ h => h.1.1))) (hg : gdU ops E g = true := by rfl) (hd : Nat.blt n N = true := by rfl)
    (h : Aw P N av bor w0 loc0 X0 ops fuel (listed.setIfInBounds i true) ⟨(n,undef) :: E,loc,X⟩ k) : Aw P N av bor w0 loc0 X0 ops (fuel + 1) listed ⟨E,loc,X⟩ k := ⟨fun a w ok => by
  have ok' := ok.put (d:=some n) (by have h1 : n < N := Nat.le_of_ble_eq_true hd;simpa [inB] using h1) undef
  exact wpAnyH_take hi hs hf hr (fun _ _ _ h => h) (Or.inr ⟨gdU_wanted ok (o:=⟨some n,o,ty,pos,af,g⟩) hg,rfl⟩) (hsub w ok.gam) (h.run _ _ ok')⟩
theorem aw_guard (i : Nat) (hi : ops[i]? = some ⟨some n,o,ty,pos,af,g⟩ := by rfl) (hg : gdB ops E g = some (bb,want) := by rfl) (ht : bb = true → Aw P N av bor w0 loc0 X0 ops fuel listed ⟨E,loc,X⟩ k) (hf : bb = false → Aw P N av bor w0 loc0 X0 ops fuel listed ⟨E,loc,X⟩ k) :
    Aw P N av bor w0 loc0 X0 ops fuel listed ⟨E,loc,X⟩ k := by
  cases bb
  · exact hf rfl
  · exact ht rfl
theorem cw_draw0 {id : Nat} {l : List Oper} (hm : P.follows .mixedOrders = true) (h : Aw P N av bor w0 loc X l.toArray l.length (Array.replicate l.length false) ⟨E,loc,X⟩ (K .normal)) :
    Cw P N av bor w0 (.region id l.toArray true) ⟨E,loc,X⟩ K := cw_draw loc X hm h

theorem aw_fin {A : Prop} (h : A) (hsub : ∀ w,Gam av bor w0 loc X w → Gam av bor w0 loc0 X0 w := by (first | exact fun _ h => h | exact fun _ h => (h.drop (List.nil_sublist _)).imp (fun _ _ => trivial) | exact fun _ h => h.drop (by (first | exact List.Sublist.refl _ | exact List.Sublist.cons _ (List.Sublist.refl _) | exact List.Sublist.cons _ (List.Sublist.cons _ (List.Sublist.refl _)) | exact List.Sublist.cons _ (List.Sublist.cons _ (List.Sublist.cons _ (List.Sublist.refl _))))) | exact fun _ h => h.imp (fun _ h => h.1) | exact fun _ h => (h.drop (by (first | exact List.Sublist.refl _ | exact List.Sublist.cons _ (List.Sublist.refl _) | exact List.Sublist.cons _ (List.Sublist.cons _ (List.Sublist.refl _)) | exact List.Sublist.cons _ (List.Sublist.cons _ (List.Sublist.cons _ (List.Sublist.refl _)))))).imp (fun _ h => h.1) | exact fun _ h => (h.drop (by (first | exact List.Sublist.refl _ | exact List.Sublist.cons _ (List.Sublist.refl _) | exact List.Sublist.cons _ (List.Sublist.cons _ (List.Sublist.refl _)) | exact List.Sublist.cons _ (List.Sublist.cons _ (List.Sublist.cons _ (List.Sublist.refl _)))))).imp (fun _ h => h.1.1))) : (∀ w,Gam av bor w0 loc X w → Gam av bor w0 loc0 X0 w) ∧ A := ⟨hsub,h⟩
theorem aw_op {i : Nat} {o : Oper} (hi : ops[i]? = some o := by rfl)
    (h : Sw P N av bor w0 ops [o] ⟨E,loc,X⟩ (fun s => (∀ w,Gam av bor w0 s.loc s.ext w → Gam av bor w0 loc0 X0 w) ∧ Aw P N av bor w0 loc0 X0 ops fuel (listed.setIfInBounds i true) s k)) :
    ∀ a w,Ok N av bor w0 ⟨E,loc,X⟩ a w → wpOp P ops (post N av bor w0 (only k)) i (fun a' w' => Gam av bor w0 loc0 X0 w' ∧ wpAnyH P .any ops (post N av bor w0 (only k)) (Gam av bor w0 loc0 X0) fuel (listed.setIfInBounds i true) a' w') a w := fun a w ok => by
  have h1 := h.run a w ok
  simp only [wpList] at h1
  unfold wpOp
  simp only [hi]
  have done : ∀ a w,post N av bor w0 (only (fun s => (∀ w,Gam av bor w0 s.loc s.ext w → Gam av bor w0 loc0 X0 w) ∧ Aw P N av bor w0 loc0 X0 ops fuel (listed.setIfInBounds i true) s k)) .normal a w →
      Gam av bor w0 loc0 X0 w ∧ wpAnyH P .any ops (post N av bor w0 (only k)) (Gam av bor w0 loc0 X0) fuel (listed.setIfInBounds i true) a w := by
    rintro a w ⟨s,⟨h2,h3⟩,ok'⟩
    exact ⟨h2 w ok'.gam,h3.run a w ok'⟩
  split
  · rename_i hw
    simp only [hw,if_true] at h1
    rcases h1 with h1 | ⟨_,_,_,h1⟩
    · exact .inl (oper_wp_mono done h1)
    · exact h1.elim
  · rename_i hw
    simp only [hw] at h1
    exact done _ _ h1
theorem aw_step (i : Nat) {o : Oper} (hi : ops[i]? = some o := by rfl) (hr : Region.ready .any ops listed = [i] := by kernel_rfl)
    (h : Sw P N av bor w0 ops [o] ⟨E,loc,X⟩ (fun s => (∀ w,Gam av bor w0 s.loc s.ext w → Gam av bor w0 loc0 X0 w) ∧ Aw P N av bor w0 loc0 X0 ops fuel (listed.setIfInBounds i true) s k)) :
    Aw P N av bor w0 loc0 X0 ops (fuel + 1) listed ⟨E,loc,X⟩ k := ⟨fun a w ok => wpAnyH_all hr (by simp) fun j hj => by
  rw [List.mem_singleton] at hj
  subst hj
  exact aw_op hi h a w ok⟩
theorem aw_two (i j : Nat) {o o' : Oper} (hi : ops[i]? = some o := by rfl) (hj : ops[j]? = some o' := by rfl) (hr : Region.ready .any ops listed = [i,j] := by kernel_rfl)
    (h : Sw P N av bor w0 ops [o] ⟨E,loc,X⟩ (fun s => (∀ w,Gam av bor w0 s.loc s.ext w → Gam av bor w0 loc0 X0 w) ∧ Aw P N av bor w0 loc0 X0 ops fuel (listed.setIfInBounds i true) s k))
    (h' : Sw P N av bor w0 ops [o'] ⟨E,loc,X⟩ (fun s => (∀ w,Gam av bor w0 s.loc s.ext w → Gam av bor w0 loc0 X0 w) ∧ Aw P N av bor w0 loc0 X0 ops fuel (listed.setIfInBounds j true) s k)) :
    Aw P N av bor w0 loc0 X0 ops (fuel + 1) listed ⟨E,loc,X⟩ k := ⟨fun a w ok => wpAnyH_all hr (by simp) fun x hx => by
  rcases List.mem_cons.1 hx with rfl | hx
  · exact aw_op hi h a w ok
  · rw [List.mem_singleton] at hx
    subst hx
    exact aw_op hj h' a w ok⟩
theorem aw_done (hr : Region.ready .any ops listed = [] := by kernel_rfl) (h : k ⟨E,loc,X⟩) : Aw P N av bor w0 loc0 X0 ops fuel listed ⟨E,loc,X⟩ k := ⟨fun a w ok => wpAnyH_done hr ⟨_,h,ok⟩ fuel⟩
theorem meet {ι : Type} {M : ι → St} {s : St} (i : ι) (h : ∀ a w,Ok N av bor w0 s a w → Ok N av bor w0 (M i) a w) : thn (fun s => ∃ i, ∀ a w,Ok N av bor w0 s a w → Ok N av bor w0 (M i) a w) K .normal s := ⟨i,h⟩
end
end Go.Proofs.YtjmpdkmboheknaaGreatDoor.Sy

namespace Go.Proofs.YtjmpdkmboheknaaGreatDoor.Sy
open Go Go.RowKit

def ORow (w : World) (e size : Nat) (v : Value) (n : Nat) (xs : List Value) : Prop :=
  xs.length = n * size ∧ ((v = .slice none 0 0 ∧ n = 0) ∨
    ∃ g cap cur fz,v = .slice (some ⟨g,0,none⟩) n cap ∧ w.heap[g]? = some (.cells cur e fz) ∧ n ≤ cap ∧ cap ≤ maxLen ∧ cur.size = cap * size ∧ cur.toList.take (n * size) = xs ∧ (fz.1 = fz.2 ∨ cur.size ≤ fz.1))
def orow (e size : Nat) (v : Value) (n : Nat) (xs : List Value) : Res := ⟨v.ownBlock.toList,fun w => ORow w e size v n xs⟩
theorem orow_holds {e size n : Nat} {v : Value} {xs : List Value} {w : World} (h : ORow w e size v n xs) : Holds (orow e size v n xs) w := by
  intro w2 h2
  refine ⟨h.1, ?_⟩
  rcases h.2 with h0 | ⟨g,cap,cur,fz,hv,hg,hr⟩
  · exact .inl h0
  · exact .inr ⟨g,cap,cur,fz,hv,(h2 g (by rw [hv];simp [orow,Value.ownBlock])).trans hg,hr⟩

section
variable {P : Program} {N : Nat} {av bor : List Nat} {w0 : World} {ops : Array Oper} {rest : List Oper} {k : St → Prop} {E : Env} {loc loc' : List Res} {X : World → Prop}
variable {d : Option Tmp} {ty : TypeId} {pos : String} {af : Array Edge} {g : Option (Nat × Bool)} {bb want : Bool} {K : Exit → St → Prop}

theorem Gam.swap {w w' : World} {r r' : Res} (G : Gam av bor w0 loc X w) (hA : At r r' loc loc') (ho : w'.os = w.os) (ht : w'.tape = w.tape) (hp : w'.output = w.output) (hz : w.heap.size ≤ w'.heap.size)
    (hb : ∀ i,i < w.heap.size → i ∉ r.fp → w'.heap[i]? = w.heap[i]?) (hn : r'.fp.Nodup) (hf : ∀ i ∈ r'.fp,i < w'.heap.size ∧ (i ∈ r.fp ∨ w.heap.size ≤ i)) (hr : Holds r' w') : Gam av bor w0 loc' X w' := by
  obtain ⟨f,h1,h2⟩ := hA.perm
  have G1 : Gam av bor w0 ([r] ++ f) X w := G.perm h1
  have G2 : Gam (av ++ fps f) (fps [r]) w [r'] (fun _ => True) w' := by
    have hs := G1.start
    have e1 : fps [r] = r.fp := by simp [fps]
    have e2 : fps [r'] = r'.fp := by simp [fps]
    refine ⟨⟨ho,ht,hp,hz,fun i hi hne => hb i hi (by rwa [e1] at hne)⟩,hs.avb,by rw [e2];exact hn, ?_, ?_,Keeps.all fun _ => trivial⟩
    · intro i hi
      rw [e2] at hi
      have := hf i hi
      rw [e1]
      exact ⟨this.1,this.2.symm⟩
    · intro x hx
      rw [List.mem_singleton] at hx
      subst hx
      exact hr
  exact (((G1.frame G2).imp fun _ h => h.1 : Gam av bor w0 ([r'] ++ f) X w')).perm h2.symm

theorem run_storeCells_m (P : Program) (g o : Nat) (t : TypeId) (fz : Nat × Nat) : ∀ (vs : List Value) (i : Nat) (cur : Array Value) (w : World),w.heap[g]? = some (.cells cur t fz) → (fz.1 = fz.2 ∨ cur.size ≤ fz.1) → o + i + vs.length ≤ cur.size → (∀ v ∈ vs,v.oneCell' = true) →
    (storeCells ⟨g,o,none⟩ vs i).run P w = .ok () (w.setRow g (cur.toList.take (o + i) ++ vs ++ cur.toList.drop (o + i + vs.length)).toArray)
  | [],i,cur,w,hg,_,_,_ => by
    simp only [storeCells,List.append_nil,List.length_nil,Nat.add_zero,List.take_append_drop,Array.toArray_toList]
    rw [setRow_self w g cur t fz hg]
    rfl
  | v :: rest,i,cur,w,hg,hz,hl,h1 => by
    have hi : o + i < cur.size := by simp at hl;omega
    have hadd : (⟨g,o,none⟩ : Addr).add i = ⟨g,o + i,none⟩ := by unfold Addr.add;split <;> simp_all
    have hcell : w.cell? ⟨g,o + i,none⟩ = some cur[o + i] := by simp [World.cell?,hg,hi]
    have hfro : w.frozen? ⟨g,o + i,none⟩ = false := by
      obtain ⟨lo,hi'⟩ := fz
      simp only [World.frozen?,hg]
      simp only at hz
      have : ¬ (lo ≤ o + i ∧ o + i < hi') := by omega
      simpa using this
    have hst : (store ((⟨g,o,none⟩ : Addr).add i) v).run P w = .ok () (w.setRow g (cur.setIfInBounds (o + i) v)) := by
      rw [hadd,run_store P w _ v _ (h1 v (by simp)),hcell]
      simp [hfro,setCell_eq_setRow w g (o + i) cur t fz v hg]
    have ih := run_storeCells_m P g o t fz rest (i + 1) (cur.setIfInBounds (o + i) v) (w.setRow g (cur.setIfInBounds (o + i) v)) (Go.setRow_heap w g cur _ t _ hg) (by simpa using hz) (by simp at hl ⊢;omega) (fun x hx => h1 x (by simp [hx]))
    simp only [storeCells,Sem.run_bind,hst,Result.andThen_ok,ih,setRow_setRow]
    congr 3
    have e := list_seg_step cur.toList (o + i) v rest (by simp at hl ⊢;omega)
    simpa [Array.toList_setIfInBounds,Nat.add_assoc] using e

def strOrSl (P : Program) (u : TypeId) : Bool :=
  match P.underlying u with
  | some .string | some (.slice _) => true
  | _ => false
class TySrc (P : Program) (u : TypeId) : Prop where out : strOrSl P u = true
instance {u : TypeId} [h : TyStr P u] : TySrc P u := ⟨by simp [strOrSl,h.out]⟩
instance {u e n b : TypeId} [h : TySl P u e n b] : TySrc P u := ⟨by simp [strOrSl,(slOf_spec h.out).1]⟩
theorem strOrSl_spec {u : TypeId} (h : strOrSl P u = true) : P.underlying u = some .string ∨ ∃ e,P.underlying u = some (.slice e) := by
  unfold strOrSl at h
  split at h
  · exact .inl (by assumption)
  · exact .inr ⟨_,by assumption⟩
  · cases h
structure Src (P : Program) (w : World) (size : Nat) (x : Value) (m : Nat) (news : List Value) : Prop where
  len : ∀ w',(Builtin.lenOf x).run P w' = .ok m w'
  cells : ∀ w' : World,w'.heap = w.heap → (Builtin.firstCells size m x).run P w' = .ok news.toArray w'
  size : news.length = m * size
  one : ∀ u ∈ news,u.oneCell' = true

theorem run_newRow' (e : TypeId) (cs : Array Value) (w : World) : (newRow e cs).run P w = .ok ⟨w.heap.size,0,none⟩ (w.alloc (.cells cs e)) := rfl
theorem run_append_o {w : World} {t u ty e size bytes : Nat} {z : Value} (hs : slOf P t = some (e,size,bytes)) (hz : zeroOf P e = some z) (hzs : z.cells.size = size) (hsz : 0 < size) (hu : strOrSl P u = true)
    {v x : Value} {n m : Nat} {xs news : List Value} (ho : ORow w e size v n xs) (hx : Src P w size x m news) (h63 : n + m ≤ maxLen) (hby : (n + m) * bytes ≤ 140737488355328) :
    ∃ v' w',(Builtin.append_ #[t,u] ty #[v,x]).run P w = .ok v' w' ∧ ORow w' e size v' (n + m) (xs ++ news) ∧ w'.os = w.os ∧ w'.tape = w.tape ∧ w'.output = w.output ∧ w.heap.size ≤ w'.heap.size ∧
      (∀ i,i < w.heap.size → i ∉ v.ownBlock.toList → w'.heap[i]? = w.heap[i]?) ∧ (∀ i ∈ v'.ownBlock.toList,i < w'.heap.size ∧ (i ∈ v.ownBlock.toList ∨ w.heap.size ≤ i)) := by
  obtain ⟨ht,inf,hi,hi1,hi2⟩ := slOf_spec hs
  have hzr : (zeroValue e).run P w.drew = .ok z w.drew := run_zero hz _
  have hsm : n + m ≤ 9223372036854775807 := by simp only [maxLen] at h63;omega
  have hlen : (xs ++ news).length = (n + m) * size := by rw [List.length_append,ho.1,hx.size,Nat.add_mul]
  have h63' : ¬ (9223372036854775807 < (n : Int) + (m : Int)) := by omega
  -- where there is no room
  have grow : ∀ (A : Option Addr) (cap : Nat),v = .slice A n cap → cap < n + m → (∀ w' : World,w'.heap = w.heap → (Builtin.firstCells size n v).run P w' = .ok xs.toArray w') →
      (Builtin.append_ #[t,u] ty #[v,x]).run P w = .ok (.slice (some ⟨w.heap.size,0,none⟩) (n + m) (grownCap w (n + m) cap e))
        (w.drew.alloc (.cells (xs.toArray ++ news.toArray ++ Builtin.zeroCells z.cells (grownCap w (n + m) cap e - (n + m))) e)) := by
    intro A cap hv hlt hf
    subst hv
    have h1 := hf w.drew rfl
    have h2 := hx.cells w.drew rfl
    have hnc : ¬ (n + m ≤ cap) := by omega
    have hfit : ¬ (281474976710656 < Builtin.nextslicecap (n + m) cap * bytes) := by have := growslice_fits hlt hby;omega
    have hsw : (sizeOf e).run P w = .ok size w := by simp [sizeOf,typeInfo,hi,hi1]
    rcases strOrSl_spec hu with hD | ⟨e',hD⟩ <;> simp [Builtin.append_,run_underlying ht,run_underlying hD,hsw,typeInfo,hi,hi1,hi2,hx.len,hnc,hfit,h1,h2,hzr,grownCap,Question.forced,h63',run_newRow'] <;> (rw [← Array.append_assoc];simp)
  have fin : ∀ (A : Option Addr) (cap : Nat),v = .slice A n cap → cap < n + m → (∀ w' : World,w'.heap = w.heap → (Builtin.firstCells size n v).run P w' = .ok xs.toArray w') → _ :=
    fun A cap hv hlt hf => by
      have hge := grownCap_ge w (n + m) cap e
      have hcm : grownCap w (n + m) cap e ≤ maxLen := grownCap_le_maxLen w (n + m) cap e h63
      exact (⟨_,_,grow A cap hv hlt hf,⟨hlen,.inr ⟨w.heap.size,_,_,(0,0),rfl,heap_alloc_new w.drew _,hge,hcm,by
          simp only [Array.size_append,List.size_toArray,size_zeroCells,hzs,ho.1,hx.size, ← Nat.add_mul]
          congr 1
          omega,by
          simp only [Array.toList_append,List.append_assoc]
          rw [← List.append_assoc, ← hlen]
          exact List.take_left,.inl rfl⟩⟩,rfl,rfl,rfl,by simp,fun i hi _ => Below.heap_alloc w.drew _ i hi,fun i hi => by
          simp only [Value.ownBlock,Option.toList_some,List.mem_singleton] at hi
          subst hi
          exact ⟨by simp,.inr (Nat.le_refl _)⟩⟩ :
        ∃ v' w',(Builtin.append_ #[t,u] ty #[v,x]).run P w = .ok v' w' ∧ ORow w' e size v' (n + m) (xs ++ news) ∧ w'.os = w.os ∧ w'.tape = w.tape ∧ w'.output = w.output ∧ w.heap.size ≤ w'.heap.size ∧
          (∀ i,i < w.heap.size → i ∉ v.ownBlock.toList → w'.heap[i]? = w.heap[i]?) ∧ (∀ i ∈ v'.ownBlock.toList,i < w'.heap.size ∧ (i ∈ v.ownBlock.toList ∨ w.heap.size ≤ i)))
  have hsw : (sizeOf e).run P w = .ok size w := by simp [sizeOf,typeInfo,hi,hi1]
  rcases ho.2 with ⟨rfl,rfl⟩ | ⟨g,cap,cur,fz,rfl,hg,hnc,hcm,hcs,htake,hfz⟩
  · have hxs : xs = [] := List.eq_nil_of_length_eq_zero (by simpa using ho.1)
    subst hxs
    by_cases hm : m = 0
    · subst hm
      have hn : news = [] := List.eq_nil_of_length_eq_zero (by simpa using hx.size)
      subst hn
      refine ⟨.slice none 0 0,w, ?_,⟨by simp,.inl ⟨rfl,rfl⟩⟩,rfl,rfl,rfl,Nat.le_refl _,fun _ _ _ => rfl,fun i hi => by simp [Value.ownBlock] at hi⟩
      have h2 := hx.cells w rfl
      rcases strOrSl_spec hu with hD | ⟨e',hD⟩ <;> simp [Builtin.append_,run_underlying ht,run_underlying hD,hsw,hx.len,h2]
    · refine fin none 0 rfl (by omega) fun w' _ => ?_
      simp [Builtin.firstCells]
  · have hglt : g < w.heap.size := (Array.getElem?_eq_some_iff.1 hg).1
    by_cases hroom : n + m ≤ cap
    · have h2 := hx.cells w rfl
      have hfit : n * size + news.length ≤ cur.size := by
        rw [hcs,hx.size, ← Nat.add_mul]
        exact Nat.mul_le_mul_right _ hroom
      have hst := run_storeCells_m P g (n * size) e fz news 0 cur w hg hfz (by simpa using hfit) hx.one
      simp only [Nat.add_zero] at hst
      have hadd : (⟨g,0,none⟩ : Addr).add (n * size) = ⟨g,n * size,none⟩ := by unfold Addr.add;split <;> simp_all
      refine ⟨.slice (some ⟨g,0,none⟩) (n + m) cap,w.setRow g (cur.toList.take (n * size) ++ news ++ cur.toList.drop (n * size + news.length)).toArray, ?_,⟨hlen,.inr ⟨g,cap,_,fz,rfl,Go.setRow_heap w g cur _ e fz hg,hroom,hcm, ?_, ?_, ?_⟩⟩,rfl,rfl,rfl,by rw [setRow_size];exact Nat.le_refl _, ?_, ?_⟩
      · rcases strOrSl_spec hu with hD | ⟨e',hD⟩ <;> simp [Builtin.append_,run_underlying ht,run_underlying hD,hsw,hx.len,h2,hroom,hadd,hst]
      · simp only [List.size_toArray,List.length_append,List.length_take,List.length_drop,Array.length_toList]
        omega
      · rw [htake, ← hlen]
        exact List.take_left
      · simp only [List.size_toArray,List.length_append,List.length_take,List.length_drop,Array.length_toList]
        omega
      · intro i _ hi
        exact setRow_heap _ _ _ _ (fun e => hi (by simp [Value.ownBlock,e]))
      · intro i hi
        simp only [Value.ownBlock,Option.toList_some,List.mem_singleton] at hi
        subst hi
        exact ⟨by rw [setRow_size];exact hglt,.inl (by simp [Value.ownBlock])⟩
    · refine fin (some ⟨g,0,none⟩) cap rfl (by omega) fun w' hw' => ?_
      have hl := run_loadCells_list (P:=P) w' ⟨g,0,none⟩ xs (fun j u hj => by
        have hadd : (⟨g,0,none⟩ : Addr).add j = ⟨g,j,none⟩ := by unfold Addr.add;split <;> simp_all
        rw [hadd,cell_of_row w' g j cur e fz (by rw [hw'];exact hg)]
        rw [← htake,List.getElem?_take] at hj
        split at hj
        · simpa using hj
        · cases hj)
      rw [ho.1] at hl
      simp [Builtin.firstCells,hl]

theorem sw_append {n : Nat} {s x : Operand} {t u e size bytes : Nat} [hs : TySl P t e size bytes] {z : Value} [hz : TyZero P e z] {v vx : Value} {m q : Nat} {xs news : List Value} {L : Value → List Res}
    [hu : TySrc P u] (hzs : z.cells.size = size := by rfl) (hsz : Nat.blt 0 size = true := by rfl)
    (hv : ev E s = some v := by rfl) (hx : ev E x = some vx := by rfl) (hA : ∀ v',At (orow e size v m xs) (orow e size v' (m + q) (xs ++ news)) loc (L v')) (hsrc : ∀ w,Gam av bor w0 loc X w → Src P w size vx q news)
    (h63 : (m + q) * bytes ≤ 140737488355328) (h1 : m + q ≤ maxLen) (hg : gdB ops E g = some (bb,want) := by rfl) (hb : bb = want := by (first | with_reducible rfl | with_reducible assumption | with_reducible exact Bool.not_false | with_reducible exact Bool.not_true)) (hd : Nat.blt n N = true := by rfl)
    (h : ∀ A c,Sw P N av bor w0 ops rest ⟨(n,.slice A (m + q) c) :: E,L (.slice A (m + q) c),X⟩ k) : Sw P N av bor w0 ops (⟨some n,.call ⟨.builtin .append,#[s,x],#[t,u]⟩,ty,pos,af,g⟩ :: rest) ⟨E,loc,X⟩ k := Sw.mk fun a w ok => by
  have hd' : inB N (some n) = true := by have h1 : n < N := Nat.le_of_ble_eq_true hd;simpa [inB] using h1
  have ho : ORow w e size v m xs := (ok.gam.here _ (hA v).mem).now
  obtain ⟨v',w',hr,ho',k1,k2,k3,k4,k5,k6⟩ := run_append_o (P:=P) (ty:=ty) hs.out hz.out hzs (Nat.le_of_ble_eq_true hsz) hu.out ho (hsrc w ok.gam) h1 h63
  have hv' : ∃ A c,v' = .slice A (m + q) c := by
    rcases ho'.2 with ⟨rfl,h0⟩ | ⟨g',cap,_,_,rfl,_⟩
    · exact ⟨none,0,by rw [h0]⟩
    · exact ⟨_,_,rfl⟩
  obtain ⟨A,c,rfl⟩ := hv'
  simp only [wpList]
  rw [wanted_of ok (o:=⟨some n,.call ⟨.builtin .append,#[s,x],#[t,u]⟩,ty,pos,af,g⟩) hg]
  subst hb
  simp only [beq_self_eq_true,if_true]
  left
  unfold Oper.wp
  have hr' : (execOp a.eval ⟨some n,.call ⟨.builtin .append,#[s,x],#[t,u]⟩,ty,pos,af,g⟩).run P w = .ok (.value (.slice A (m + q) c)) w' := by
    simp only [execOp,resolve,invoke,builtin,Sem.run_bind,Sem.run_pure,Result.andThen_ok,List.map_toArray,List.map_cons,List.map_nil,ok.eval (st:=⟨E,loc,X⟩) hv,ok.eval (st:=⟨E,loc,X⟩) hx,hr]
  rw [hr']
  have hn : (orow e size (.slice A (m + q) c) (m + q) (xs ++ news)).fp.Nodup := by cases A <;> simp [orow,Value.ownBlock]
  have ok' : Ok N av bor w0 ⟨E,L (.slice A (m + q) c),X⟩ a w' := (ok.via fun M G => G.swap ((hA _).app M) k1 k2 k3 k4 k5 hn k6 (orow_holds ho'))
  exact (h A c).run _ _ (put_eq (some n) _ ▸ ok'.put hd' _)

theorem Gam.nilRow {w : World} (G : Gam av bor w0 loc X w) (e size : Nat) : Gam av bor w0 (orow e size (.slice none 0 0) 0 [] :: loc) X w := by
  have e1 : fps (orow e size (.slice none 0 0) 0 [] :: loc) = fps loc := by simp [fps,orow,Value.ownBlock]
  refine ⟨G.fr,G.avb,by rw [e1];exact G.nodup,by rw [e1];exact G.own,fun r hr => ?_,by rw [e1];exact G.keep⟩
  rcases List.mem_cons.1 hr with rfl | hr
  · exact orow_holds ⟨by simp,.inl ⟨rfl,rfl⟩⟩
  · exact G.here r hr
theorem sw_nilRow (e size : Nat) (h : Sw P N av bor w0 ops rest ⟨E,orow e size (.slice none 0 0) 0 [] :: loc,X⟩ k) : Sw P N av bor w0 ops rest ⟨E,loc,X⟩ k := Sw.mk fun a w ok => h.run a w (ok.via fun M G => G.nilRow e size)
theorem cw_nilRow {c : Code} (e size : Nat) (h : Cw P N av bor w0 c ⟨E,orow e size (.slice none 0 0) 0 [] :: loc,X⟩ K) : Cw P N av bor w0 c ⟨E,loc,X⟩ K := Cw.mk fun a w ok => h.run a w (ok.via fun M G => G.nilRow e size)

theorem src_string {w : World} {s : ByteArray} (hs : s.size ≤ 9223372036854775807) : Src P w 1 (.string s) s.size (s.data.toList.map fun b => .int .u8 b.toNat) := by
  refine ⟨fun w' => by simp [Builtin.lenOf],fun w' _ => ?_,by simp,fun u hu => ?_⟩
  · have e : s.extract 0 s.size = s := by simp
    simp only [Builtin.firstCells,e,Sem.run_pure]
    congr 1
    apply Array.ext'
    simp
  · simp only [List.mem_map] at hu
    obtain ⟨b,_,rfl⟩ := hu
    rfl
theorem src_cel {w : World} {b T n size : Nat} {cs : List Value} (G : Gam av bor w0 loc X w) (hm : cel b T cs ∈ loc) (hl : cs.length = n * size) (h1 : cs.all (·.oneCell') = true) (c : Nat) : Src P w size (.slice (some ⟨b,0,none⟩) n c) n cs := by
  have hw : w.heap[b]? = some (.cells cs.toArray T (0,0)) := (G.here _ hm).now
  refine ⟨fun w' => by simp [Builtin.lenOf],fun w' e => ?_,hl,by simpa using h1⟩
  have := run_loadCells_list (P:=P) w' ⟨b,0,none⟩ cs (fun j v hv => by
    have hadd : (⟨b,0,none⟩ : Addr).add j = ⟨b,j,none⟩ := by unfold Addr.add;split <;> simp_all
    rw [hadd,cell_of_row w' b j _ _ _ (by rw [e];exact hw)]
    simpa using hv)
  rw [hl] at this
  simp [Builtin.firstCells,this]
theorem src_rows {w : World} {size : Nat} {s : SlV} {xs : List (List Value)} (h : RowsD w size s xs) (h1 : ∀ cs ∈ xs,cs.all (·.oneCell') = true) : Src P w size s.v s.n xs.flatten := by
  have hlen : xs.flatten.length = s.n * size := by
    rw [List.length_flatten,h.len]
    have : ∀ x ∈ xs.map List.length,x = size := by
      intro x hx
      obtain ⟨cs,hcs,rfl⟩ := List.mem_map.1 hx
      obtain ⟨i,hi⟩ := List.mem_iff_getElem?.1 hcs
      exact (h.row i cs hi).1
    rw [List.eq_replicate_of_mem this]
    simp
  refine ⟨fun w' => by simp [Builtin.lenOf,SlV.v],fun w' e => ?_,hlen,fun u hu => ?_⟩
  · obtain ⟨p,n,c⟩ := s
    cases p with
    | none =>
      have : xs = [] := by
        cases xs with
        | nil => rfl
        | cons cs r => have := (h.row 0 cs rfl).2.1;simp at this
      subst this
      simp [Builtin.firstCells,SlV.v]
    | some a =>
      have := run_loadCells_list (P:=P) w' a xs.flatten (fun j v hv => by
        have key : ∀ (l : List (List Value)) (i0 : Nat),(∀ i cs,l[i]? = some cs → cs.length = size ∧ ∀ j u,cs[j]? = some u → CellAt w (some a) ((i0 + i) * size + j) u) → ∀ j v,l.flatten[j]? = some v → w.cell? (a.add (i0 * size + j)) = some v := by
          intro l
          induction l with
          | nil => intro _ _ j v hv;simp at hv
          | cons cs r ih =>
            intro i0 hl j v hv
            have h0 := hl 0 cs rfl
            rw [List.flatten_cons] at hv
            rcases Nat.lt_or_ge j cs.length with hj | hj
            · rw [List.getElem?_append_left hj] at hv
              have := (h0.2 j v hv).2 a rfl
              simpa using this
            · rw [List.getElem?_append_right hj] at hv
              have := ih (i0 + 1) (fun i cs' hi => by
                have := hl (i + 1) cs' (by simpa using hi)
                rw [show i0 + 1 + i = i0 + (i + 1) from by omega]
                exact this) (j - cs.length) v hv
              rw [h0.1] at this hj
              rw [show i0 * size + j = (i0 + 1) * size + (j - size) from by rw [Nat.add_mul];omega]
              exact this
        have := key xs 0 (fun i cs hi => ⟨(h.row i cs hi).1,fun j u hj => by simpa using (h.row i cs hi).2.2 j u hj⟩) j v hv
        have hc : w'.cell? (a.add j) = w.cell? (a.add j) := by simp [World.cell?,e]
        rw [hc]
        simpa using this)
      rw [hlen] at this
      simp [Builtin.firstCells,SlV.v,this]
  · simp only [List.mem_flatten] at hu
    obtain ⟨cs,hcs,hu⟩ := hu
    have := h1 cs hcs
    simp only [List.all_eq_true] at this
    exact this u hu

def ofInts (ns : List Int) : ByteArray := ns.foldl (fun r n => r.push (UInt8.ofNat n.toNat)) ByteArray.empty
def u8s (ns : List Int) : List Value := ns.map (Value.int .u8)
def bytesI (s : ByteArray) : List Int := s.data.toList.map fun b => (b.toNat : Int)
theorem u8s_append (a b : List Int) : u8s (a ++ b) = u8s a ++ u8s b := by simp [u8s]
theorem src_str {w : World} {s : ByteArray} (hs : s.size ≤ 9223372036854775807) : Src P w 1 (.string s) s.size (u8s (bytesI s)) := by
  have := src_string (P:=P) (w:=w) hs
  simpa [u8s,bytesI,List.map_map,Function.comp_def] using this
theorem y_b2s {st : St} {x : Operand} {t t2 e b' : TypeId} [hs : TySl P t e 1 b'] [he : TyInt P e .u8] [h2 : TyStr P t2] {v : Value} {n : Nat} {ns : List Int} (hx : ev st.env x = some v) (hm : orow e 1 v n (u8s ns) ∈ st.loc) :
    Sy.Yields P N av bor w0 st (.convert t t2 x) ty (.string (ofInts ns)) := Sy.Yields.mk fun A w ok d pos af g => by
  have ho : ORow w e 1 v n (u8s ns) := (ok.gam.here _ hm).now
  have hl : (u8s ns).length = n := by have := ho.1;omega
  rcases ho.2 with ⟨rfl,rfl⟩ | ⟨g,cap,cur,fz,rfl,hg,hnc,hcm,hcs,htake,hfz⟩
  · have : ns = [] := by simpa [u8s] using hl
    subst this
    have := run_convert_bytes_string (P:=P) w t t2 e none 0 0 (slOf_spec hs.out).1 he.out h2.out
    simp [execOp,ok.eval hx,this,Conv.bytesToString,ofInts]
  · have hlc := run_loadCells_list (P:=P) w ⟨g,0,none⟩ (u8s ns) (fun j u hj => by
      have hadd : (⟨g,0,none⟩ : Addr).add j = ⟨g,j,none⟩ := by unfold Addr.add;split <;> simp_all
      rw [hadd,cell_of_row w g j cur e fz hg]
      rw [← htake,List.getElem?_take] at hj
      split at hj
      · simpa using hj
      · cases hj)
    rw [hl] at hlc
    have h3 := run_bytesToString (P:=P) w ⟨g,0,none⟩ n cap ns hlc
    have h4 := run_convert_bytes_string (P:=P) w t t2 e (some ⟨g,0,none⟩) n cap (slOf_spec hs.out).1 he.out h2.out
    rw [h3] at h4
    simp [execOp,ok.eval hx,h4,ofInts]
theorem sy_b2s {nn : Nat} {x : Operand} {t t2 e b' : TypeId} [hs : TySl P t e 1 b'] [he : TyInt P e .u8] [h2 : TyStr P t2] {v : Value} {n : Nat} {ns : List Int} (hx : ev E x = some v := by rfl) (hm : orow e 1 v n (u8s ns) ∈ loc := by (repeat (first | exact List.mem_cons_self | apply List.mem_cons_of_mem)))
    (hg : gdB ops E g = some (bb,want) := by rfl) (hb : bb = want := by (first | with_reducible rfl | with_reducible assumption | with_reducible exact Bool.not_false | with_reducible exact Bool.not_true)) (hd : Nat.blt nn N = true := by rfl) (h : Sw P N av bor w0 ops rest ⟨(nn,.string (ofInts ns)) :: E,loc,X⟩ k) : Sw P N av bor w0 ops (⟨some nn,.convert t t2 x,ty,pos,af,g⟩ :: rest) ⟨E,loc,X⟩ k :=
  sw_yield (y_b2s hx hm) hg hb hd h
theorem freeze_new (w : World) (C : Array Value) (e : TypeId) : (w.alloc (.cells C e)).freeze ⟨w.heap.size,C.size,none⟩ 1 = w.alloc (.cells C e (C.size,C.size + 1)) := by
  simp only [World.freeze,World.alloc]
  rw [if_neg (by omega)]
  congr 1
  apply Array.ext_getElem?
  intro i
  rw [Array.getElem?_modify]
  by_cases h : w.heap.size = i
  · subst h
    simp
  · have h' : ¬ i = w.heap.size := fun e => h e.symm
    simp [h,h',Array.getElem?_push]
theorem run_s2b {w : World} {e : TypeId} {s : ByteArray} : (Conv.stringToBytes e s).run P w = .ok (.slice (some ⟨w.heap.size,0,none⟩) s.size (grownCap w s.size 0 e))
    (w.drew.alloc (.cells ((s.data.map fun b => Value.int .u8 b.toNat) ++ Array.replicate (grownCap w s.size 0 e - s.size) (.int .u8 0)) e
      ((((s.data.map fun b => Value.int .u8 b.toNat) ++ Array.replicate (grownCap w s.size 0 e - s.size) (.int .u8 0)) : Array Value).size,(((s.data.map fun b => Value.int .u8 b.toNat) ++ Array.replicate (grownCap w s.size 0 e - s.size) (.int .u8 0)) : Array Value).size + 1))) := by
  have h1 : (choose (.appendCap s.size 0 e)).run P w = .ok (grownCap w s.size 0 e) w.drew := rfl
  unfold Conv.stringToBytes
  simp only [Sem.run_bind,h1,Result.andThen_ok,run_newRow']
  generalize ((s.data.map fun b => Value.int .u8 b.toNat) ++ Array.replicate (grownCap w s.size 0 e - s.size) (.int .u8 0) : Array Value) = C
  have h2 : (markStringish ⟨w.drew.heap.size,0,none⟩).run P (w.drew.alloc (.cells C e)) = .ok () (w.drew.alloc (.cells C e (C.size,C.size + 1))) := by
    have hs : (w.drew.alloc (.cells C e)).shape? w.heap.size = some (e,C.size) := by
      have := heap_alloc_new w.drew (.cells C e)
      unfold World.shape?
      rw [show w.heap.size = w.drew.heap.size from rfl,this]
    have := freeze_new w.drew C e
    simp [markStringish,hs]
    exact this
  rw [h2]
  simp
theorem sw_s2b {n : Nat} {x : Operand} {t t2 e b' : TypeId} [hs : TySl P t2 e 1 b'] [he : TyInt P e .u8] [h2 : TyStr P t] {s : ByteArray} (hx : ev E x = some (.string s) := by rfl) (hsz : s.size ≤ 4611686018427387904 := by omega) (hg : gdB ops E g = some (bb,want) := by rfl) (hb : bb = want := by (first | with_reducible rfl | with_reducible assumption | with_reducible exact Bool.not_false | with_reducible exact Bool.not_true)) (hd : Nat.blt n N = true := by rfl)
    (h : ∀ A c,Sw P N av bor w0 ops rest ⟨(n,.slice A s.size c) :: E,orow e 1 (.slice A s.size c) s.size (u8s (bytesI s)) :: loc,X⟩ k) : Sw P N av bor w0 ops (⟨some n,.convert t t2 x,ty,pos,af,g⟩ :: rest) ⟨E,loc,X⟩ k := Sw.mk fun a w ok => by
  have hd' : inB N (some n) = true := by have h1 : n < N := Nat.le_of_ble_eq_true hd;simpa [inB] using h1
  have hge : s.size ≤ grownCap w s.size 0 e := grownCap_ge w s.size 0 e
  have hcm : grownCap w s.size 0 e ≤ maxLen := grownCap_le_maxLen w s.size 0 e (by simp only [maxLen];omega)
  have hr0 := run_s2b (P:=P) (w:=w) (e:=e) (s:=s)
  generalize grownCap w s.size 0 e = c at hge hcm hr0
  generalize hC : ((s.data.map fun b => Value.int .u8 b.toNat) ++ Array.replicate (c - s.size) (.int .u8 0) : Array Value) = C at hr0
  have hCs : C.size = c := by rw [← hC];simp;omega
  have hCt : C.toList.take s.size = u8s (bytesI s) := by
    rw [← hC]
    simp only [Array.toList_append,Array.toList_map]
    rw [List.take_append_of_le_length (by simp)]
    rw [List.take_of_length_le (by simp)]
    simp [u8s,bytesI]
  simp only [wpList]
  rw [wanted_of ok (o:=⟨some n,.convert t t2 x,ty,pos,af,g⟩) hg]
  subst hb
  simp only [beq_self_eq_true,if_true]
  left
  unfold Oper.wp
  have hr : (execOp a.eval ⟨some n,.convert t t2 x,ty,pos,af,g⟩).run P w = .ok (.value (.slice (some ⟨w.heap.size,0,none⟩) s.size c)) (w.drew.alloc (.cells C e (C.size,C.size + 1))) := by
    simp [execOp,ok.eval (st:=⟨E,loc,X⟩) hx,convert,run_underlying h2.out,run_underlying (slOf_spec hs.out).1,run_underlying he.out,hr0]
  rw [hr]
  have ok' : Ok N av bor w0 ⟨E,orow e 1 (.slice (some ⟨w.heap.size,0,none⟩) s.size c) s.size (u8s (bytesI s)) :: loc,X⟩ a (w.drew.alloc (.cells C e (C.size,C.size + 1))) := (ok.via fun M G => (G.drew).new (.cells C e (C.size,C.size + 1)) (fun w2 => ORow w2 e 1 (.slice (some ⟨w.heap.size,0,none⟩) s.size c) s.size (u8s (bytesI s))) (fun w2 h => ⟨by simp [u8s,bytesI],.inr ⟨w.heap.size,c,C,_,rfl,h,hge,hcm,by omega,by simpa using hCt,.inr (Nat.le_refl _)⟩⟩))
  exact (h _ _).run _ _ (put_eq (some n) _ ▸ ok'.put hd' _)
end
end Go.Proofs.YtjmpdkmboheknaaGreatDoor.Sy

namespace Go.Proofs.YtjmpdkmboheknaaGreatDoor.Sy
open Go Go.RowKit Go.MapKept

class KeyT (κ : Type) where
  d : TypeDesc
  enc : κ → Value
  eqb : κ → κ → Bool
  ok : ∀ a,IsKey d (enc a)
  same : ∀ a b,Instr.sameNow d (enc a) (enc b) = some (eqb a b)
  eqb_iff : ∀ a b,eqb a b = true ↔ a = b
instance : KeyT Int := ⟨.int .i64,.int .i64,fun a b => decide (a = b),fun a => rfl,fun a b => by simp [Instr.sameNow];rfl,fun a b => by simp⟩
instance : KeyT ByteArray := ⟨.string,.string,fun a b => a == b,fun a => trivial,fun a b => rfl,bytes_beq⟩
def keyD (κ : Type) [KeyT κ] : TypeDesc := KeyT.d κ

section
variable {κ : Type} [KeyT κ] {β : Type}
def mget : List (κ × β) → κ → Option β
  | [],_ => none
  | (k',v') :: r,k => bif KeyT.eqb k k' then some v' else mget r k
def mput : List (κ × β) → κ → β → List (κ × β)
  | [],k,v => [(k,v)]
  | (k',v') :: r,k,v => bif KeyT.eqb k k' then (k,v) :: r else (k',v') :: mput r k v
def MapAt (w : World) (g : Nat) (l : List (κ × Value)) : Prop :=
  ∃ es clock,w.heap[g]? = some (.map es clock) ∧ Stamped es clock ∧ es.toList.map (fun e => (e.key,e.val)) = l.map fun p => (KeyT.enc p.1,p.2)
def mapr (g : Nat) (l : List (κ × Value)) : Res := ⟨[g],fun w => MapAt w g l⟩
theorem find_enc (k : κ) : ∀ (es : List MapEntry) (l : List (κ × Value)) (i : Nat),es.map (fun e => (e.key,e.val)) = l.map (fun p => (KeyT.enc p.1,p.2)) →
    (Instr.findNow (keyD κ) (KeyT.enc k) es i = some none ∧ mget l k = none ∧ (∀ v,mput l k v = l ++ [(k,v)]) ∧ ∀ x ∈ es,x.key ≠ KeyT.enc k) ∨
    ∃ j e v0,Instr.findNow (keyD κ) (KeyT.enc k) es i = some (some (i + j,v0)) ∧ es[j]? = some e ∧ e.key = KeyT.enc k ∧ mget l k = some v0 ∧ ∀ v,mput l k v = l.set j (k,v)
  | [],l,i,h => by
    have : l = [] := by cases l <;> simp_all
    subst this
    exact .inl ⟨rfl,rfl,fun _ => rfl,by simp⟩
  | e :: es, [],i,h => by simp at h
  | e :: es,(k',v') :: l,i,h => by
    simp only [List.map_cons,List.cons.injEq,Prod.mk.injEq] at h
    obtain ⟨⟨h1,h2⟩,h3⟩ := h
    have hs : Instr.sameNow (keyD κ) (KeyT.enc k) e.key = some (KeyT.eqb k k') := by rw [h1];exact KeyT.same k k'
    cases hb : KeyT.eqb k k' with
    | true =>
      have hk := (KeyT.eqb_iff k k').1 hb
      exact .inr ⟨0,e,v',by simp [Instr.findNow,hs,hb,h2],rfl,by rw [h1,hk],by simp [mget,hb],fun v => by simp [mput,hb]⟩
    | false =>
      have hne : e.key ≠ KeyT.enc k := fun q => by
        have h5 := KeyT.same k k
        have h6 : KeyT.eqb k k = true := (KeyT.eqb_iff k k).2 rfl
        have h7 : Instr.sameNow (keyD κ) (KeyT.enc k) (KeyT.enc k) = some true := by rw [← h6];exact h5
        rw [q,h7,hb] at hs
        simp at hs
      rcases find_enc k es l (i + 1) h3 with ⟨g1,g2,g3,g4⟩ | ⟨j,e',v0,g1,g2,g3,g4,g5⟩
      · exact .inl ⟨by simp [Instr.findNow,hs,hb,g1],by simp [mget,hb,g2],fun v => by simp [mput,hb,g3],fun x hx => by
          cases hx with
          | head => exact hne
          | tail _ hx => exact g4 x hx⟩
      · exact .inr ⟨j + 1,e',v0,by simp [Instr.findNow,hs,hb,g1];omega,by simpa using g2,g3,by simp [mget,hb,g4],fun v => by simp [mput,hb,g5]⟩
def mapOf (P : Program) (t : TypeId) : Option (TypeId × TypeDesc) :=
  match P.underlying t with
  | some (.map kt et) => (P.underlying kt).map fun d => (et,d)
  | _ => none
class TyMap (P : Program) (t : TypeId) (et : outParam Nat) (d : outParam TypeDesc) : Prop where out : mapOf P t = some (et,d)
theorem mapOf_spec {P : Program} {t et : TypeId} {d : TypeDesc} (h : mapOf P t = some (et,d)) : ∃ kt,P.underlying t = some (.map kt et) ∧ P.underlying kt = some d := by
  unfold mapOf at h
  split at h
  · rename_i kt et' he
    cases hk : P.underlying kt with
    | none => simp [hk] at h
    | some d' =>
      simp [hk] at h
      obtain ⟨rfl,rfl⟩ := h
      exact ⟨kt,he,hk⟩
  · cases h
theorem run_mapUpdate_at {P : Program} {w : World} {t et : TypeId} (ht : mapOf P t = some (et,keyD κ)) {g : Nat} {l : List (κ × Value)} (h : MapAt w g l) (k : κ) (v : Value) :
    ∃ o,(Instr.mapUpdate t (.map (some g)) (KeyT.enc k) v).run P w = .ok () { w with heap := w.heap.setIfInBounds g o } ∧ ∀ w' : World,w'.heap[g]? = some o → MapAt w' g (mput l k v) := by
  obtain ⟨kt,h1,h2⟩ := mapOf_spec ht
  obtain ⟨es,clock,hb,hs,hl⟩ := h
  have hk := KeyT.ok k
  rcases find_enc k es.toList l 0 hl with ⟨g1,g2,g3,g4⟩ | ⟨j,e,v0,g1,g2,g3,g4,g5⟩
  · refine ⟨.map (es.push { key := KeyT.enc k,val := v,born := clock }) (clock + 1), ?_,fun w' hw => ⟨_,_,hw,stamped_push hs g4, ?_⟩⟩
    · simp [Instr.mapUpdate,run_underlying h1,MapKept.run_getObj_map hb,MapKept.run_checkKey h2 hk,MapKept.run_findKey h2 g1,MapKept.run_setObj_map _ hb,Result.andThen]
    · rw [g3]
      simp [hl]
  · have hj : es[j]? = some e := by simpa using g2
    refine ⟨.map (es.modify j fun e => { e with key := KeyT.enc k,val := v }) clock, ?_,fun w' hw => ⟨_,_,hw,stamped_modify hs _ _ (fun _ _ => rfl) (fun e' _ he' => by rw [hj] at he';cases he';exact g3.symm), ?_⟩⟩
    · simp [Instr.mapUpdate,run_underlying h1,MapKept.run_getObj_map hb,MapKept.run_checkKey h2 hk,MapKept.run_findKey h2 g1,hj,g3,MapKept.run_keyThatStays hk,MapKept.run_setObj_map _ hb,Result.andThen]
    · rw [g5]
      apply List.ext_getElem?
      intro q
      have hq := congrArg (fun l => l[q]?) hl
      simp only [List.getElem?_map,Array.getElem?_toList] at hq
      simp only [List.getElem?_map,Array.getElem?_toList,Array.getElem?_modify,List.getElem?_set]
      by_cases e1 : j = q
      · subst e1
        have hlt : j < l.length := by
          rcases Nat.lt_or_ge j l.length with h | h
          · exact h
          · rw [hj,List.getElem?_eq_none h] at hq;simp at hq
        simp [hj,hlt]
      · simp [e1,hq]
theorem run_lookup_at {P : Program} {w : World} {t et : TypeId} {z : Value} (ht : mapOf P t = some (et,keyD κ)) (hz : zeroOf P et = some z) {g : Nat} {l : List (κ × Value)} (h : MapAt w g l) (k : κ) (c : Bool) :
    (Instr.lookup t (.map (some g)) (KeyT.enc k) c).run P w = .ok (if c then .tuple #[(mget l k).getD z,.bool (mget l k).isSome] else (mget l k).getD z) w := by
  obtain ⟨kt,h1,h2⟩ := mapOf_spec ht
  obtain ⟨es,clock,hb,hs,hl⟩ := h
  have hk := KeyT.ok k
  have hzr : (zeroValue et).run P w = .ok z w := run_zero hz w
  rcases find_enc k es.toList l 0 hl with ⟨g1,g2,g3,g4⟩ | ⟨j,e,v0,g1,g2,g3,g4,g5⟩
  · cases c <;> simp [Instr.lookup,run_underlying h1,MapKept.run_getObj_map hb,MapKept.run_checkKey h2 hk,MapKept.run_findKey h2 g1,hzr,g2,Result.andThen]
  · cases c <;> simp [Instr.lookup,run_underlying h1,MapKept.run_getObj_map hb,MapKept.run_checkKey h2 hk,MapKept.run_findKey h2 g1,g4,Result.andThen]
end

theorem Gam.give {av bor : List Nat} {w0 w : World} {r : Res} {loc : List Res} {X : World → Prop} (G : Gam av bor w0 (r :: loc) X w) : Gam av bor w0 loc (fun w => X w ∧ r.F w) w := by
  have hn := G.nodup
  rw [fps_cons] at hn
  have hn2 := List.nodup_append.1 hn
  refine ⟨G.fr,G.avb,hn2.2.1,fun k hk => G.own k (by rw [fps_cons];exact List.mem_append.2 (.inr hk)),fun q hq => G.here q (List.mem_cons_of_mem _ hq), ?_⟩
  refine Keeps.and (G.keep.anti fun k hk => ?_) ⟨fun k => k ∈ r.fp,fun k hk => ?_,fun w' e => G.here r List.mem_cons_self w' e⟩
  · rw [fps_cons]
    rcases List.mem_append.1 hk with h | h
    · exact List.mem_append.2 (.inl h)
    · exact List.mem_append.2 (.inr (List.mem_append.2 (.inr h)))
  · have h1 := G.own k (by rw [fps_cons];exact List.mem_append.2 (.inl hk))
    refine ⟨h1.1,fun h => ?_⟩
    rcases List.mem_append.1 h with h | h
    · have h2 := G.avb k h
      rcases h1.2 with h3 | h3
      · omega
      · exact h2.2 h3
    · exact hn2.2.2 k hk k h rfl
section
variable {P : Program} {N : Nat} {av bor : List Nat} {w0 : World} {ops : Array Oper} {rest : List Oper} {k : St → Prop} {E : Env} {loc loc' : List Res} {X : World → Prop}
variable {d : Option Tmp} {ty : TypeId} {pos : String} {af : Array Edge} {g : Option (Nat × Bool)} {bb want : Bool} {K : Exit → St → Prop}
theorem sw_give {r : Res} (h : Sw P N av bor w0 ops rest ⟨E,loc,fun w => X w ∧ r.F w⟩ k) : Sw P N av bor w0 ops rest ⟨E,r :: loc,X⟩ k := Sw.mk fun a w ok => h.run a w (ok.via fun M G => G.give)
theorem sw_makeMap (κ : Type) [KeyT κ] {n : Nat} {t : TypeId} (hg : gdB ops E g = some (bb,want) := by rfl) (hb : bb = want := by (first | with_reducible rfl | with_reducible assumption | with_reducible exact Bool.not_false | with_reducible exact Bool.not_true)) (hd : Nat.blt n N = true := by rfl)
    (h : ∀ q,Sw P N av bor w0 ops rest ⟨(n,.map (some q)) :: E,mapr q ([] : List (κ × Value)) :: loc,X⟩ k) : Sw P N av bor w0 ops (⟨some n,.makeMap t none,ty,pos,af,g⟩ :: rest) ⟨E,loc,X⟩ k := Sw.mk fun a w ok => by
  have hd' : inB N (some n) = true := by have h1 : n < N := Nat.le_of_ble_eq_true hd;simpa [inB] using h1
  simp only [wpList]
  rw [wanted_of ok (o:=⟨some n,.makeMap t none,ty,pos,af,g⟩) hg]
  subst hb
  simp only [beq_self_eq_true,if_true]
  left
  unfold Oper.wp
  have hr : (execOp a.eval ⟨some n,.makeMap t none,ty,pos,af,g⟩).run P w = .ok (.value (.map (some w.heap.size))) (w.alloc (.map #[] 0)) := by
    have : (newObj (.map #[] 0)).run P w = .ok w.heap.size (w.alloc (.map #[] 0)) := rfl
    simp [execOp,Instr.makeMap,this]
  rw [hr]
  have ok' : Ok N av bor w0 ⟨E,mapr w.heap.size ([] : List (κ × Value)) :: loc,X⟩ a (w.alloc (.map #[] 0)) := (ok.via fun M G => G.new (.map #[] 0) (fun w2 => MapAt w2 w.heap.size ([] : List (κ × Value))) fun w2 h => ⟨#[],0,h,stamped_empty 0,rfl⟩)
  exact (h _).run _ _ (put_eq (some n) _ ▸ ok'.put hd' _)
theorem MapAt.same {κ : Type} [KeyT κ] {w w' : World} {q : Nat} {l : List (κ × Value)} (h : MapAt w q l) (e : w'.heap[q]? = w.heap[q]?) : MapAt w' q l := by
  obtain ⟨es,c,h1,h2⟩ := h
  exact ⟨es,c,e.trans h1,h2⟩
theorem ok_update {κ : Type} [KeyT κ] {a : Act} {w : World} (ok : Ok N av bor w0 ⟨E,loc,X⟩ a w) {t et : TypeId} (ht : mapOf P t = some (et,keyD κ)) {q : Nat} {l : List (κ × Value)} {kk : κ} {v : Value} (hA : At (mapr q l) (mapr q (mput l kk v)) loc loc') :
    ∃ w',(Instr.mapUpdate t (.map (some q)) (KeyT.enc kk) v).run P w = .ok () w' ∧ Ok N av bor w0 ⟨E,loc',X⟩ a w' := by
  have hm : MapAt w q l := (ok.gam.here _ hA.mem).now
  obtain ⟨o,hr,ho⟩ := run_mapUpdate_at ht hm kk v
  obtain ⟨es,c,hb,_⟩ := hm
  have hs := heap_set (o':=o) hb
  refine ⟨_,hr,ok.via fun M G => G.turn (hA.app M) rfl rfl rfl (by simp) (fun i hi => hs.2 i hi) fun w2 h2 => ho w2 (h2.trans hs.1)⟩
theorem sw_insert {κ : Type} [KeyT κ] {t et : Nat} [ht : TyMap P t et (keyD κ)] {m x y : Operand} {q : Nat} {l : List (κ × Value)} {kk : κ} {v : Value} (hm : ev E m = some (.map (some q)) := by rfl) (hx : ev E x = some (KeyT.enc kk) := by rfl) (hy : ev E y = some v := by rfl)
    (hA : At (mapr q l) (mapr q (mput l kk v)) loc loc' := by (repeat (first | exact At.here _ | apply At.there))) (hg : gdB ops E g = some (bb,want) := by rfl) (hb : bb = want := by (first | with_reducible rfl | with_reducible assumption | with_reducible exact Bool.not_false | with_reducible exact Bool.not_true)) (hd : inB N d = true := by rfl)
    (h : Sw P N av bor w0 ops rest ⟨putE E d undef,loc',X⟩ k) : Sw P N av bor w0 ops (⟨d,.insert t m x y,ty,pos,af,g⟩ :: rest) ⟨E,loc,X⟩ k := Sw.mk fun a w ok => by
  simp only [wpList]
  rw [wanted_of ok (o:=⟨d,.insert t m x y,ty,pos,af,g⟩) hg]
  subst hb
  simp only [beq_self_eq_true,if_true]
  left
  unfold Oper.wp
  obtain ⟨w',hr,ok'⟩ := ok_update (P:=P) ok ht.out hA
  have hr' : (execOp a.eval ⟨d,.insert t m x y,ty,pos,af,g⟩).run P w = .ok .skip w' := by
    simp [execOp,ok.eval (st:=⟨E,loc,X⟩) hm,ok.eval (st:=⟨E,loc,X⟩) hx,ok.eval (st:=⟨E,loc,X⟩) hy,hr]
  rw [hr']
  exact h.run _ _ (put_eq d _ ▸ ok'.put hd _)
theorem sw_update {κ : Type} [KeyT κ] {t et : Nat} [ht : TyMap P t et (keyD κ)] {m x y : Operand} {q : Nat} {l : List (κ × Value)} {kk : κ} {v : Value} (hm : ev E m = some (.map (some q)) := by rfl) (hx : ev E x = some (KeyT.enc kk) := by rfl) (hy : ev E y = some v := by rfl)
    (hA : At (mapr q l) (mapr q (mput l kk v)) loc loc' := by (repeat (first | exact At.here _ | apply At.there))) (hg : gdB ops E g = some (bb,want) := by rfl) (hb : bb = want := by (first | with_reducible rfl | with_reducible assumption | with_reducible exact Bool.not_false | with_reducible exact Bool.not_true)) (hd : inB N d = true := by rfl)
    (h : Sw P N av bor w0 ops rest ⟨putE E d undef,loc',X⟩ k) : Sw P N av bor w0 ops (⟨d,.mapUpdate t m x y,ty,pos,af,g⟩ :: rest) ⟨E,loc,X⟩ k := Sw.mk fun a w ok => by
  simp only [wpList]
  rw [wanted_of ok (o:=⟨d,.mapUpdate t m x y,ty,pos,af,g⟩) hg]
  subst hb
  simp only [beq_self_eq_true,if_true]
  left
  unfold Oper.wp
  obtain ⟨w',hr,ok'⟩ := ok_update (P:=P) ok ht.out hA
  have hr' : (execOp a.eval ⟨d,.mapUpdate t m x y,ty,pos,af,g⟩).run P w = .ok .skip w' := by
    simp [execOp,ok.eval (st:=⟨E,loc,X⟩) hm,ok.eval (st:=⟨E,loc,X⟩) hx,ok.eval (st:=⟨E,loc,X⟩) hy,hr]
  rw [hr']
  exact h.run _ _ (put_eq d _ ▸ ok'.put hd _)
theorem y_lookup {κ : Type} [KeyT κ] {st : St} {t et : Nat} [ht : TyMap P t et (keyD κ)] {z : Value} [hz : TyZero P et z] {m x : Operand} {c : Bool} {q : Nat} {l : List (κ × Value)} {kk : κ} (hm : ev st.env m = some (.map (some q))) (hx : ev st.env x = some (KeyT.enc kk))
    (hl : ∀ w,Gam av bor w0 st.loc st.ext w → MapAt w q l) : Sy.Yields P N av bor w0 st (.lookup t m x c) ty (if c then .tuple #[(mget l kk).getD z,.bool (mget l kk).isSome] else (mget l kk).getD z) := Sy.Yields.mk fun A w ok d pos af g => by
  have := run_lookup_at (P:=P) (t:=t) ht.out hz.out (hl w ok.gam) kk c
  simp [execOp,ok.eval hm,ok.eval hx,this]
theorem map_loc {κ : Type} [KeyT κ] {q : Nat} {l : List (κ × Value)} (hm : mapr q l ∈ loc) : ∀ w,Gam av bor w0 loc X w → MapAt w q l := fun w G => (G.here _ hm).now
theorem map_ext {κ : Type} [KeyT κ] {q : Nat} {l : List (κ × Value)} (hm : ∀ w,X w → MapAt w q l) : ∀ w,Gam av bor w0 loc X w → MapAt w q l := fun w G => hm w G.keep.now
theorem sy_lookup {κ : Type} [KeyT κ] {n : Nat} {t et : Nat} [ht : TyMap P t et (keyD κ)] {z : Value} [hz : TyZero P et z] {m x : Operand} {c : Bool} {q : Nat} {l : List (κ × Value)} {kk : κ} (hm : ev E m = some (.map (some q)) := by rfl) (hx : ev E x = some (KeyT.enc kk) := by rfl)
    (hl : ∀ w,Gam av bor w0 loc X w → MapAt w q l) (hg : gdB ops E g = some (bb,want) := by rfl) (hb : bb = want := by (first | with_reducible rfl | with_reducible assumption | with_reducible exact Bool.not_false | with_reducible exact Bool.not_true)) (hd : Nat.blt n N = true := by rfl)
    (h : Sw P N av bor w0 ops rest ⟨(n,if c then .tuple #[(mget l kk).getD z,.bool (mget l kk).isSome] else (mget l kk).getD z) :: E,loc,X⟩ k) : Sw P N av bor w0 ops (⟨some n,.lookup t m x c,ty,pos,af,g⟩ :: rest) ⟨E,loc,X⟩ k := sw_yield (y_lookup hm hx hl) hg hb hd h
theorem sy_lookup2 {κ : Type} [KeyT κ] {n : Nat} {t et : Nat} [ht : TyMap P t et (keyD κ)] {z : Value} [hz : TyZero P et z] {m x : Operand} {q : Nat} {l : List (κ × Value)} {kk : κ} {o : Option Value} {v : Value} {b : Bool} (hm : ev E m = some (.map (some q)) := by rfl) (hx : ev E x = some (KeyT.enc kk) := by rfl)
    (hl : ∀ w,Gam av bor w0 loc X w → MapAt w q l) (ho : mget l kk = o) (hv : o.getD z = v := by rfl) (hbo : o.isSome = b := by rfl) (hg : gdB ops E g = some (bb,want) := by rfl) (hb : bb = want := by (first | with_reducible rfl | with_reducible assumption | with_reducible exact Bool.not_false | with_reducible exact Bool.not_true)) (hd : Nat.blt n N = true := by rfl)
    (h : Sw P N av bor w0 ops rest ⟨(n,.tuple #[v,.bool b]) :: E,loc,X⟩ k) : Sw P N av bor w0 ops (⟨some n,.lookup t m x true,ty,pos,af,g⟩ :: rest) ⟨E,loc,X⟩ k := by
  subst ho;subst hv;subst hbo
  exact sy_lookup hm hx hl hg hb hd h
end
theorem Gam.giveAll {av bor : List Nat} {w0 w : World} : ∀ {loc : List Res} {X : World → Prop},Gam av bor w0 loc X w → Gam av bor w0 [] (fun w => X w ∧ ∀ r ∈ loc,r.F w) w
  | [],X,G => G.imp fun _ h => ⟨h,by simp⟩
  | r :: loc,X,G => (Gam.giveAll G.give).imp fun w h => ⟨h.1.1,fun q hq => by
      rcases List.mem_cons.1 hq with rfl | hq
      · exact h.1.2
      · exact h.2 q hq⟩
theorem mk_of_cw2 {P : Program} {f : FuncId} {fn : Func} {c : Code} {args : List Value} {X : World → Prop} {Φ : Value → (World → Prop) → Prop} (N : Nat)
    (hf : P.funcs[f]? = some fn) (hb : fn.body = some c) (hN : fn.ntmps = N) (hn : Nat.ble args.length N = true)
    (h : ∀ av bor w0,Cw P N av bor w0 c ⟨params 0 args, [],X⟩ (ends P fn N fun u R X' => Φ u fun w => X' w ∧ ∀ r ∈ R,r.F w)) : Mk P f args.toArray X Φ := by
  unfold Mk
  exact Ct.mk fun w av G => by
    have h1 := (ct_of_cw (P:=P) (Post:=fun u R X' => Φ u fun w => X' w ∧ ∀ r ∈ R,r.F w) N hf hb hN hn h).run w av G
    refine h1.mono fun e w' ⟨u,R,X',he,hu,G'⟩ => ⟨u, [],_,he,⟨hu,rfl⟩,G'.giveAll⟩
end Go.Proofs.YtjmpdkmboheknaaGreatDoor.Sy

namespace Go.Proofs.YtjmpdkmboheknaaGreatDoor.Sy
open Go Go.RowKit Go.Sort Go.Proofs

def bl (s : ByteArray) : List UInt8 := s.data.toList
def lb (l : List UInt8) : ByteArray := ⟨l.toArray⟩
theorem lb_bl (s : ByteArray) : lb (bl s) = s := by simp [lb,bl]
theorem bl_lb (l : List UInt8) : bl (lb l) = l := by simp [lb,bl]
def encB (s : ByteArray) : Value := .string s
theorem encStr_bl (s : ByteArray) : encStr (bl s) = encB s := by simp [encStr,bl,encB]
theorem map_encStr (l : List (List UInt8)) : l.map encStr = (l.map lb).map encB := by
  rw [List.map_map]
  apply List.map_congr_left
  intro a _
  show encStr a = encB (lb a)
  rw [← encStr_bl,bl_lb]
theorem map_encB (l : List ByteArray) : l.map encB = (l.map bl).map encStr := by
  rw [List.map_map]
  apply List.map_congr_left
  intro a _
  exact (encStr_bl a).symm
def sortB (l : List ByteArray) : List ByteArray := ((l.map bl).mergeSort leB).map lb
def compB (l : List ByteArray) : List ByteArray := (Lib.compact (l.map bl)).map lb
theorem sortB_len (l : List ByteArray) : (sortB l).length = l.length := by simp [sortB]

theorem holds_orow {α : Type} [Inhabited α] {enc : α → Value} {w : World} {e g n : Nat} {cur : Array Value} {fz : Nat × Nat} {ss : List α} (hb : w.heap[g]? = some (.cells cur e fz)) (hl : ss.length = n) (ht : cur.toList.take (n * 1) = ss.map enc)
    (hz : fz.1 = fz.2 ∨ cur.size ≤ fz.1) : Go.Sort.Holds enc w g 0 ss.toArray := by
  intro j hj
  have hj' : j < ss.length := by simpa using hj
  have h1 : (cur.toList.take (n * 1))[j]? = (ss.map enc)[j]? := by rw [ht]
  rw [List.getElem?_take_of_lt (by omega)] at h1
  have hjc : j < cur.size := by
    rcases Nat.lt_or_ge j cur.size with h | h
    · exact h
    · rw [List.getElem?_eq_none (by simpa using h),List.getElem?_map,List.getElem?_eq_getElem hj'] at h1
      simp at h1
  refine ⟨?_, ?_⟩
  · simp only [World.cell?,hb,Nat.zero_add]
    simp only [Option.isSome_none,Bool.false_eq_true,if_false]
    rw [← Array.getElem?_toList,h1]
    simp [hj']
  · obtain ⟨lo,hi⟩ := fz
    simp only [World.frozen?,hb]
    simp only at hz
    have : ¬ (lo ≤ 0 + j ∧ 0 + j < hi) := by omega
    simpa using this
theorem heap_put {α : Type} [Inhabited α] {enc : α → Value} {w : World} {g n : Nat} {os : Array Obj} {cur : Array Value} {e : Nat} {fr : Nat × Nat} (d : Array α) (hb : w.heap[g]? = some (.cells cur e fr)) :
    (grow (putRow enc (Sort.ahead w n) g 0 d) os).heap[g]? = some (.cells (putCells enc 0 d cur) e fr) := by
  have hg : g < w.heap.size := (Array.getElem?_eq_some_iff.1 hb).1
  rw [heap_grow_old _ _ (by simpa using hg)]
  simp [putRow,mapBlock,Sort.ahead,Array.getElem?_modify,hb,onCells]
theorem heap_other {α : Type} [Inhabited α] {enc : α → Value} {w : World} {g n : Nat} {os : Array Obj} (d : Array α) (k : Nat) (hk : k < w.heap.size) (hne : k ≠ g) :
    (grow (putRow enc (Sort.ahead w n) g 0 d) os).heap[k]? = w.heap[k]? := by
  rw [heap_grow_old _ _ (by simpa using hk)]
  have : g ≠ k := fun e => hne e.symm
  simp [putRow,mapBlock,Sort.ahead,Array.getElem?_modify,this]
theorem take_put {α : Type} [Inhabited α] {enc : α → Value} (cur : Array Value) (ts us : List α) (h : (ts ++ us).length ≤ cur.size) : (putCells enc 0 (ts ++ us).toArray cur).toList.take ts.length = ts.map enc := by
  apply List.ext_getElem?
  intro j
  by_cases hj : j < ts.length
  · rw [List.getElem?_take_of_lt hj,Array.getElem?_toList]
    have h2 : ts.length + us.length ≤ cur.size := by simpa using h
    simp [putCells,hj,show j < cur.size by omega,show j < ts.length + us.length by omega]
  · rw [List.getElem?_take_eq_none (by omega),List.getElem?_eq_none (by simp;omega)]
theorem Gam.putRow {α : Type} [Inhabited α] {enc : α → Value} {av bor : List Nat} {w0 w : World} {loc loc' : List Res} {X : World → Prop} {e g cap n n' q : Nat} {xs : List Value} {cur : Array Value} {fz : Nat × Nat} {os : Array Obj} {ts us : List α}
    (G : Gam av bor w0 loc X w) (hb : w.heap[g]? = some (.cells cur e fz)) (hcm : cap ≤ maxLen) (hcs : cur.size = cap) (hz : fz.1 = fz.2 ∨ cur.size ≤ fz.1) (hle : n' ≤ cap) (htl : ts.length = n') (hus : (ts ++ us).length ≤ cap)
    (hA : At (orow e 1 (.slice (some ⟨g,0,none⟩) n cap) n xs) (orow e 1 (.slice (some ⟨g,0,none⟩) n' cap) n' (ts.map enc)) loc loc') :
    Gam av bor w0 loc' X (grow (Go.Sort.putRow enc (Sort.ahead w q) g 0 (ts ++ us).toArray) os) := by
  have hg : g < w.heap.size := (Array.getElem?_eq_some_iff.1 hb).1
  refine G.swap hA rfl rfl rfl (by simp) (fun i hi hne => heap_other _ i hi ?_) (by simp [orow,Value.ownBlock]) (fun i hi => ?_) (orow_holds ?_)
  · simpa [orow,Value.ownBlock] using hne
  · simp only [orow,Value.ownBlock,Option.toList_some,List.mem_singleton] at hi ⊢
    subst hi
    exact ⟨by simp;omega,.inl rfl⟩
  · refine ⟨by simp [htl],.inr ⟨g,cap,_,fz,rfl,heap_put _ hb,hle,hcm,by simp [putCells,hcs], ?_,by simpa [putCells] using hz⟩⟩
    rw [Nat.mul_one, ← htl]
    exact take_put cur ts us (by omega)

section
variable {P : Program} {f : FuncId}
structure SortC {α : Type} [Inhabited α] (P : Program) (f : FuncId) (enc : α → Value) (srt : List α → List α) : Prop where
  some_ : ∀ (blk off cap : Nat) (ss : List α) (w : World),Go.Sort.Holds enc w blk off ss.toArray → blk < w.heap.size → ss.length < 4611686018427387904 →
    Calls P f #[.slice (some ⟨blk,off,none⟩) ss.length cap] w fun e w' => e = .returned (.tuple #[]) ∧ ∃ n os,w' = grow (Go.Sort.putRow enc (Sort.ahead w n) blk off (srt ss).toArray) os
  none_ : ∀ (p : Option Addr) (cap : Nat) (w : World),Calls P f #[.slice p 0 cap] w fun e w' => e = .returned (.tuple #[]) ∧ w' = w
  len : ∀ ss,(srt ss).length = ss.length
theorem SortC.ct {α : Type} [Inhabited α] {enc : α → Value} {srt : List α → List α} (h : SortC P f enc srt) {e n : Nat} {v : Value} {ss : List α} (hn : n ≤ 1000000000) :
    Ct P f #[v] [orow e 1 v n (ss.map enc)] (fun _ => True) fun u R _ => u = .tuple #[] ∧ R = [orow e 1 v n ((srt ss).map enc)] := Ct.mk fun w av G => by
  have ho : ORow w e 1 v n (ss.map enc) := (G.here _ List.mem_cons_self).now
  have hl : ss.length = n := by simpa using ho.1
  rcases ho.2 with ⟨rfl,rfl⟩ | ⟨g,cap,cur,fz,rfl,hg,hnc,hcm,hcs,htake,hfz⟩
  · have hss : ss = [] := List.eq_nil_of_length_eq_zero hl
    have hss' : srt ss = [] := List.eq_nil_of_length_eq_zero (by rw [h.len,hl])
    refine (h.none_ none 0 w).mono fun e w' ⟨h1,h2⟩ => ⟨_,_,fun _ => True,h1,⟨rfl,rfl⟩, ?_⟩
    subst h2
    rw [hss']
    rw [hss] at G
    exact G
  · have hgl : g < w.heap.size := (Array.getElem?_eq_some_iff.1 hg).1
    subst hl
    have h62 : ss.length < 4611686018427387904 := by omega
    refine (h.some_ g 0 cap ss w (holds_orow hg rfl htake hfz) hgl h62).mono fun e w' ⟨h1,n,os,h2⟩ => ⟨_,_,fun _ => True,h1,⟨rfl,rfl⟩, ?_⟩
    subst h2
    have := G.putRow (us:=[]) (ts:=srt ss) (q:=n) (os:=os) (enc:=enc) hg hcm (by omega) hfz hnc (h.len ss) (by simp [h.len];omega) (At.here [])
    rw [List.append_nil] at this
    exact this
structure CompC {α : Type} [Inhabited α] (P : Program) (f : FuncId) (enc : α → Value) (z : α) (cmp : List α → List α) : Prop where
  some_ : ∀ (blk off cap : Nat) (ss : List α) (w : World),Go.Sort.Holds enc w blk off ss.toArray → ss.length ≤ 9223372036854775807 → ss.length ≤ cap →
    Calls P f #[.slice (some ⟨blk,off,none⟩) ss.length cap] w fun e w' => e = .returned (.slice (some ⟨blk,off,none⟩) (cmp ss).length cap) ∧ ∃ q,w' = Go.Sort.putRow enc (Sort.ahead w q) blk off (cmp ss ++ List.replicate (ss.length - (cmp ss).length) z).toArray
  none_ : ∀ (a : Option Addr) (cap : Nat) (w : World),Calls P f #[.slice a 0 cap] w fun e w' => e = .returned (.slice a 0 cap) ∧ w' = w
  len : ∀ ss,(cmp ss).length ≤ ss.length
theorem CompC.ct {α : Type} [Inhabited α] {enc : α → Value} {z : α} {cmp : List α → List α} (h : CompC P f enc z cmp) {e n : Nat} {v : Value} {ss : List α} :
    Ct P f #[v] [orow e 1 v n (ss.map enc)] (fun _ => True) fun u R _ => ∃ A c,u = .slice A (cmp ss).length c ∧ R = [orow e 1 u (cmp ss).length ((cmp ss).map enc)] := Ct.mk fun w av G => by
  have ho : ORow w e 1 v n (ss.map enc) := (G.here _ List.mem_cons_self).now
  have hl : ss.length = n := by simpa using ho.1
  rcases ho.2 with ⟨rfl,rfl⟩ | ⟨g,cap,cur,fz,rfl,hg,hnc,hcm,hcs,htake,hfz⟩
  · have hss : ss = [] := List.eq_nil_of_length_eq_zero hl
    have hss' : cmp ss = [] := List.eq_nil_of_length_eq_zero (by have := h.len ss;omega)
    refine (h.none_ none 0 w).mono fun e w' ⟨h1,h2⟩ => ⟨_,_,fun _ => True,h1,⟨none,0,by rw [hss'];rfl,rfl⟩, ?_⟩
    subst h2
    rw [hss']
    rw [hss] at G
    exact G
  · subst hl
    have h62 : ss.length ≤ 9223372036854775807 := by simp only [maxLen] at hcm;omega
    have hlen := h.len ss
    refine (h.some_ g 0 cap ss w (holds_orow hg rfl htake hfz) h62 hnc).mono fun e w' ⟨h1,q,h2⟩ => ⟨_,_,fun _ => True,h1,⟨_,_,rfl,rfl⟩, ?_⟩
    subst h2
    have := G.putRow (us:=List.replicate (ss.length - (cmp ss).length) z) (ts:=cmp ss) (n':=(cmp ss).length) (q:=q) (os:=#[]) (enc:=enc) hg hcm (by omega) hfz (by omega) rfl (by simp;omega) (At.here [])
    rw [grow_empty] at this
    exact this
end
end Go.Proofs.YtjmpdkmboheknaaGreatDoor.Sy

namespace Go.Proofs.YtjmpdkmboheknaaGreatDoor.Sy
open Go Go.RowKit Go.Sort Go.Proofs Go.MapKept Go.Maps Go.Shelf

theorem Gam.more {av bor : List Nat} {w0 w w' : World} {loc : List Res} {X : World → Prop} {r : Res} (G : Gam av bor w0 loc X w) (hB : Below w.heap.size w w') (hr : Holds r w') (hn : r.fp.Nodup) (hf : ∀ i ∈ r.fp,w.heap.size ≤ i ∧ i < w'.heap.size) :
    Gam av bor w0 (r :: loc) X w' := by
  have G0 : Gam av bor w0 (⟨[],fun _ => True⟩ :: loc) X w := by
    have e1 : fps ((⟨[],fun _ => True⟩ : Res) :: loc) = fps loc := by simp [fps]
    refine ⟨G.fr,G.avb,by rw [e1];exact G.nodup,by rw [e1];exact G.own,fun x hx => ?_,by rw [e1];exact G.keep⟩
    rcases List.mem_cons.1 hx with rfl | hx
    · exact fun _ _ => trivial
    · exact G.here x hx
  refine G0.swap (At.here loc) hB.os hB.tape hB.output hB.size (fun i hi _ => hB.block i hi) hn (fun i hi => ⟨(hf i hi).2,.inr (hf i hi).1⟩) hr
theorem orow_of_owns {w : World} {base e size n : Nat} {v : Value} {xs : List Value} (h : w.ownsRow base e size v n xs) : ORow w e size v n xs := by
  refine ⟨h.1, ?_⟩
  rcases h.2 with h0 | ⟨g,cap,cur,hv,_,hg,h1,h2,h3,h4⟩
  · exact .inl h0
  · exact .inr ⟨g,cap,cur,(0,0),hv,hg,h1,h2,h3,h4,.inl rfl⟩
theorem owns_fp {w : World} {base e size n : Nat} {v : Value} {xs : List Value} (h : w.ownsRow base e size v n xs) : (orow e size v n xs).fp.Nodup ∧ (∀ i ∈ (orow e size v n xs).fp,base ≤ i ∧ i < w.heap.size) ∧ ∃ A c,v = .slice A n c := by
  rcases h.2 with ⟨rfl,rfl⟩ | ⟨g,cap,cur,rfl,hb,hg,h1,h2,h3,h4⟩
  · exact ⟨by simp [orow,Value.ownBlock],fun i hi => by simp [orow,Value.ownBlock] at hi,none,0,rfl⟩
  · refine ⟨by simp [orow,Value.ownBlock],fun i hi => ?_,_,_,rfl⟩
    simp only [orow,Value.ownBlock,Option.toList_some,List.mem_singleton] at hi
    subst hi
    exact ⟨hb,(Array.getElem?_eq_some_iff.1 hg).1⟩
def rTriv : Value → Option (DataW Unit × List MemPlace) := fun _ => some (.nil, [])
theorem map_len {κ : Type} [KeyT κ] {w : World} {q : Nat} {l : List (κ × Value)} {es : Array MapEntry} (hl : es.toList.map (fun e => (e.key,e.val)) = l.map fun p => (KeyT.enc p.1,p.2)) : es.size = l.length := by
  have := congrArg List.length hl
  simpa using this
theorem owns_of_mapS {P : Program} {K : Nat} (hk : P.underlying K = some .string) {w : World} {q : Nat} {l : List (ByteArray × Value)} (h : MapAt w q l) (hs : ∀ p ∈ l,p.1.size ≤ maxLen) (hlen : l.length ≤ maxLen) :
    ∃ D0 : DataW Unit,w.ownsMap P K rTriv q l.length D0 ∧ (strKeys D0).Perm (l.map fun p => bl p.1) ∧ Maps.size D0 = l.length := by
  obtain ⟨es,clock,hb,hst,hl⟩ := h
  have hz := map_len (w:=w) (q:=q) hl
  have hkey : ∀ x ∈ es.toList, ∃ s : ByteArray,x.key = .string s ∧ s.size ≤ maxLen := by
    intro x hx
    have h1 : (x.key,x.val) ∈ l.map fun p => (KeyT.enc p.1,p.2) := by rw [← hl];exact List.mem_map.2 ⟨x,hx,rfl⟩
    obtain ⟨p,hp,he⟩ := List.mem_map.1 h1
    refine ⟨p.1, ?_,hs p hp⟩
    have := congrArg Prod.fst he
    exact this.symm
  have hrd : ∀ x ∈ es.toList, ∃ s : ByteArray,x.key = .string s ∧ WideElems.rd P K rTriv x = some (.string (bl s),.nil) := by
    intro x hx
    obtain ⟨s,h1,h2⟩ := hkey x hx
    refine ⟨s,h1, ?_⟩
    have h3 : keyOf P K x.key = some (.string (bl s)) := by rw [h1];simp [keyOf,hk,mapKey,h2,bl]
    simp [WideElems.rd,h3,rTriv]
  refine ⟨_,⟨es,clock,hb,⟨by omega,hst,fun x hx => ?_⟩,by omega,rfl⟩, ?_, ?_⟩
  · obtain ⟨s,_,h2⟩ := hrd x hx
    exact ⟨_,h2⟩
  · have h1 := (WideShapes.sorted_perm (es.toList.map (WideElems.rg P K rTriv))).map fun p => strOf p.1
    refine h1.trans ?_
    have h2 : (es.toList.map (WideElems.rg P K rTriv)).map (fun p => strOf p.1) = es.toList.map fun x => match x.key with | .string s => bl s | _ => [] := by
      rw [List.map_map]
      refine List.map_congr_left fun x hx => ?_
      obtain ⟨s,h3,h4⟩ := hrd x hx
      simp [WideElems.rg,h4,h3,strOf]
    have h5 : (es.toList.map fun x => match x.key with | .string s => bl s | _ => []) = l.map fun p => bl p.1 := by
      have h6 := congrArg (List.map fun (p : Value × Value) => match p.1 with | .string s => bl s | _ => []) hl
      rw [List.map_map,List.map_map] at h6
      exact h6
    rw [h2,h5]
  · show ((es.toList.map (WideElems.rg P K rTriv)).foldr DataW.insert []).length = l.length
    rw [length_sorted]
    simp [hz]
theorem owns_of_mapI {P : Program} {K : Nat} (hk : P.underlying K = some (.int .i64)) {w : World} {q : Nat} {l : List (Int × Value)} (h : MapAt w q l) (hs : ∀ p ∈ l,(Lit.int .i64 p.1).wf = true) (hlen : l.length ≤ maxLen) :
    ∃ D0 : DataW Unit,w.ownsMap P K rTriv q l.length D0 ∧ (intKeys D0).Perm (l.map fun p => p.1) ∧ Maps.size D0 = l.length := by
  obtain ⟨es,clock,hb,hst,hl⟩ := h
  have hz := map_len (w:=w) (q:=q) hl
  have hkey : ∀ x ∈ es.toList, ∃ s : Int,x.key = .int .i64 s ∧ (Lit.int .i64 s).wf = true := by
    intro x hx
    have h1 : (x.key,x.val) ∈ l.map fun p => (KeyT.enc p.1,p.2) := by rw [← hl];exact List.mem_map.2 ⟨x,hx,rfl⟩
    obtain ⟨p,hp,he⟩ := List.mem_map.1 h1
    refine ⟨p.1, ?_,hs p hp⟩
    have := congrArg Prod.fst he
    exact this.symm
  have hrd : ∀ x ∈ es.toList, ∃ s : Int,x.key = .int .i64 s ∧ WideElems.rd P K rTriv x = some (.int .i64 s,.nil) := by
    intro x hx
    obtain ⟨s,h1,h2⟩ := hkey x hx
    refine ⟨s,h1, ?_⟩
    have h3 : keyOf P K x.key = some (.int .i64 s) := by rw [h1];simp [keyOf,hk,mapKey,h2]
    simp [WideElems.rd,h3,rTriv]
  refine ⟨_,⟨es,clock,hb,⟨by omega,hst,fun x hx => ?_⟩,by omega,rfl⟩, ?_, ?_⟩
  · obtain ⟨s,_,h2⟩ := hrd x hx
    exact ⟨_,h2⟩
  · have h1 := (WideShapes.sorted_perm (es.toList.map (WideElems.rg P K rTriv))).map fun p => Go.intOf p.1
    refine h1.trans ?_
    have h2 : (es.toList.map (WideElems.rg P K rTriv)).map (fun p => Go.intOf p.1) = es.toList.map fun x => match x.key with | .int _ s => s | _ => 0 := by
      rw [List.map_map]
      refine List.map_congr_left fun x hx => ?_
      obtain ⟨s,h3,h4⟩ := hrd x hx
      simp [WideElems.rg,h4,h3,Go.intOf]
    have h5 : (es.toList.map fun x => match x.key with | .int _ s => s | _ => 0) = l.map fun p => p.1 := by
      have h6 := congrArg (List.map fun (p : Value × Value) => match p.1 with | .int _ s => s | _ => 0) hl
      rw [List.map_map,List.map_map] at h6
      exact h6
    rw [h2,h5]
  · show ((es.toList.map (WideElems.rg P K rTriv)).foldr DataW.insert []).length = l.length
    rw [length_sorted]
    simp [hz]

section
variable {P : Program}
structure KeysC (P : Program) (fk g M : Nat) : Prop where
  keys : ∀ (mb : Option Nat) (W : World),Calls P fk #[.map mb] W fun e w' => e = .returned (.func (.func g) #[] #[.pointer (some ⟨W.heap.size,0,none⟩)]) ∧ w' = W.alloc (.cells #[.map mb] M)
structure SortedSC (P : Program) (fs g K : Nat) : Prop where
  key : P.underlying K = some .string
  sorted : ∀ (w : World) (Bm q nn : Nat) (D0 : DataW Unit),Bm < w.heap.size → w.cell? ⟨Bm,0,none⟩ = some (.map (some q)) → w.ownsMap P K rTriv q nn D0 → Maps.size D0 ≤ maxLen → Maps.size D0 * 16 ≤ 140737488355328 →
    Calls P fs #[.func (.func g) #[] #[.pointer (some ⟨Bm,0,none⟩)]] w fun e w' => ∃ (v : Value) (ss : List (List UInt8)),e = .returned v ∧ ss.Perm (strKeys D0) ∧
      w'.ownsRow w.heap.size K 1 v ss.length ((ss.mergeSort (fun x y => decide (x ≤ y))).map encStr) ∧ (v = .slice none 0 0 ↔ ss = []) ∧ Below w.heap.size w w'
structure SortedIC (P : Program) (fs g K : Nat) : Prop where
  key : P.underlying K = some (.int .i64)
  sorted : ∀ (w : World) (Bm q nn : Nat) (D0 : DataW Unit),Bm < w.heap.size → w.cell? ⟨Bm,0,none⟩ = some (.map (some q)) → w.ownsMap P K rTriv q nn D0 → Maps.size D0 ≤ maxLen → Maps.size D0 * 8 ≤ 140737488355328 →
    Calls P fs #[.func (.func g) #[] #[.pointer (some ⟨Bm,0,none⟩)]] w fun e w' => ∃ (v : Value) (ss : List Int),e = .returned v ∧ ss.Perm (intKeys D0) ∧
      w'.ownsRow w.heap.size K 1 v ss.length ((ss.mergeSort (fun x y => decide (x ≤ y))).map encZ) ∧ (v = .slice none 0 0 ↔ ss = []) ∧ Below w.heap.size w w'
theorem KeysC.ct {fk g M : Nat} (h : KeysC P fk g M) (mb : Option Nat) : Ct P fk #[.map mb] [] (fun _ => True) fun u R _ => ∃ b,u = .func (.func g) #[] #[.pointer (some ⟨b,0,none⟩)] ∧ R = [cel b M [.map mb]] := Ct.mk fun w av G => by
  refine (h.keys mb w).mono fun e w' ⟨h1,h2⟩ => ⟨_,_,fun _ => True,h1,⟨_,rfl,rfl⟩, ?_⟩
  subst h2
  exact G.new _ _ fun _ h => h
def sortI (l : List Int) : List Int := l.mergeSort leI
theorem SortedSC.ct {fs g M K : Nat} (h : SortedSC P fs g K) (b q : Nat) (l : List (ByteArray × Value)) (hs : ∀ p ∈ l,p.1.size ≤ maxLen) (hl : l.length ≤ 1000000) :
    Ct P fs #[.func (.func g) #[] #[.pointer (some ⟨b,0,none⟩)]] [cel b M [.map (some q)],mapr q l] (fun _ => True)
      fun u R _ => ∃ A c,u = .slice A l.length c ∧ R = [orow K 1 u l.length ((sortB (l.map (·.1))).map encB),cel b M [.map (some q)],mapr q l] := Ct.mk fun w av G => by
  have hb : w.heap[b]? = some (.cells #[.map (some q)] M (0,0)) := (G.here (cel b M [.map (some q)]) List.mem_cons_self).now
  have hm : MapAt w q l := (G.here (mapr q l) (List.mem_cons_of_mem _ List.mem_cons_self)).now
  obtain ⟨D0,hown,hperm,hsz⟩ := owns_of_mapS h.key hm hs (by simp only [maxLen];omega)
  have hbl : b < w.heap.size := (Array.getElem?_eq_some_iff.1 hb).1
  have hc : w.cell? ⟨b,0,none⟩ = some (.map (some q)) := by simp [World.cell?,hb]
  refine (h.sorted w b q l.length D0 hbl hc hown (by rw [hsz];simp only [maxLen];omega) (by rw [hsz];omega)).mono fun e w' ⟨v,ss,he,hS,hrow,hnil,hB⟩ => ?_
  have hlen : ss.length = l.length := by rw [(hS.trans hperm).length_eq];simp
  have hsort : (ss.mergeSort fun x y => decide (x ≤ y)).map encStr = (sortB (l.map (·.1))).map encB := by
    have := mergeSort_of_perm (hS.trans hperm)
    rw [show (ss.mergeSort fun x y => decide (x ≤ y)) = ss.mergeSort leB from rfl,this,map_encStr,sortB]
    simp only [List.map_map]
    rfl
  rw [hsort,hlen] at hrow
  obtain ⟨f1,f2,A,c,rfl⟩ := owns_fp hrow
  exact ⟨_,_,fun _ => True,he,⟨A,c,rfl,rfl⟩,(G.more hB (orow_holds (orow_of_owns hrow)) f1 f2).imp fun _ _ => trivial⟩
theorem SortedIC.ct {fs g M K : Nat} (h : SortedIC P fs g K) (b q : Nat) (l : List (Int × Value)) (hs : ∀ p ∈ l,(Lit.int .i64 p.1).wf = true) (hl : l.length ≤ 1000000) :
    Ct P fs #[.func (.func g) #[] #[.pointer (some ⟨b,0,none⟩)]] [cel b M [.map (some q)],mapr q l] (fun _ => True)
      fun u R _ => ∃ A c,u = .slice A l.length c ∧ R = [orow K 1 u l.length ((sortI (l.map (·.1))).map encZ),cel b M [.map (some q)],mapr q l] := Ct.mk fun w av G => by
  have hb : w.heap[b]? = some (.cells #[.map (some q)] M (0,0)) := (G.here (cel b M [.map (some q)]) List.mem_cons_self).now
  have hm : MapAt w q l := (G.here (mapr q l) (List.mem_cons_of_mem _ List.mem_cons_self)).now
  obtain ⟨D0,hown,hperm,hsz⟩ := owns_of_mapI h.key hm hs (by simp only [maxLen];omega)
  have hbl : b < w.heap.size := (Array.getElem?_eq_some_iff.1 hb).1
  have hc : w.cell? ⟨b,0,none⟩ = some (.map (some q)) := by simp [World.cell?,hb]
  refine (h.sorted w b q l.length D0 hbl hc hown (by rw [hsz];simp only [maxLen];omega) (by rw [hsz];omega)).mono fun e w' ⟨v,ss,he,hS,hrow,hnil,hB⟩ => ?_
  have hlen : ss.length = l.length := by rw [(hS.trans hperm).length_eq];simp
  have hsort : (ss.mergeSort fun x y => decide (x ≤ y)).map encZ = (sortI (l.map (·.1))).map encZ := by
    have := mergeSort_of_perm_i (hS.trans hperm)
    rw [show (ss.mergeSort fun x y => decide (x ≤ y)) = ss.mergeSort leI from rfl,this,sortI]
  rw [hsort,hlen] at hrow
  obtain ⟨f1,f2,A,c,rfl⟩ := owns_fp hrow
  exact ⟨_,_,fun _ => True,he,⟨A,c,rfl,rfl⟩,(G.more hB (orow_holds (orow_of_owns hrow)) f1 f2).imp fun _ _ => trivial⟩
end
end Go.Proofs.YtjmpdkmboheknaaGreatDoor.Sy
