/- Maps with int and string keys; a resource becomes data. No program in sight. -/
import Derived.Test.YtfpojkoddcdojaaGreatDoorAp
import Derived.MapKept
set_option linter.unusedVariables false
set_option linter.unusedSimpArgs false
namespace Go.Proofs.YtfpojkoddcdojaaGreatDoor.Sy
open Go Go.RowKit Go.MapKept

class KeyT (κ : Type) where
  d : TypeDesc
  enc : κ → Value
  eqb : κ → κ → Bool
  ok : ∀ a, IsKey d (enc a)
  same : ∀ a b, Instr.sameNow d (enc a) (enc b) = some (eqb a b)
  eqb_iff : ∀ a b, eqb a b = true ↔ a = b
instance : KeyT Int := ⟨.int .i64, .int .i64, fun a b => decide (a = b), fun a => rfl, fun a b => by simp [Instr.sameNow]; rfl, fun a b => by simp⟩
theorem beq_bytes (a b : ByteArray) : (a == b) = true ↔ a = b := bytes_beq a b
instance : KeyT ByteArray := ⟨.string, .string, fun a b => a == b, fun a => trivial, fun a b => rfl, bytes_beq⟩
def keyD (κ : Type) [KeyT κ] : TypeDesc := KeyT.d κ

section
variable {κ : Type} [KeyT κ] {β : Type}
def mget : List (κ × β) → κ → Option β
  | [], _ => none
  | (k', v') :: r, k => bif KeyT.eqb k k' then some v' else mget r k
def mput : List (κ × β) → κ → β → List (κ × β)
  | [], k, v => [(k, v)]
  | (k', v') :: r, k, v => bif KeyT.eqb k k' then (k, v) :: r else (k', v') :: mput r k v
theorem mget_map {γ : Type} (f : β → γ) : ∀ (l : List (κ × β)) (k : κ), mget (l.map fun p => (p.1, f p.2)) k = (mget l k).map f
  | [], _ => rfl
  | (k', v') :: r, k => by
    simp only [List.map_cons, mget, mget_map f r k]
    cases KeyT.eqb k k' <;> rfl
theorem mput_map {γ : Type} (f : β → γ) : ∀ (l : List (κ × β)) (k : κ) (v : β), mput (l.map fun p => (p.1, f p.2)) k (f v) = (mput l k v).map fun p => (p.1, f p.2)
  | [], _, _ => rfl
  | (k', v') :: r, k, v => by
    simp only [List.map_cons, mput, mput_map f r k v]
    cases KeyT.eqb k k' <;> rfl
def MapAt (w : World) (g : Nat) (l : List (κ × Value)) : Prop :=
  ∃ es clock, w.heap[g]? = some (.map es clock) ∧ Stamped es clock ∧ es.toList.map (fun e => (e.key, e.val)) = l.map fun p => (KeyT.enc p.1, p.2)
def mapr (g : Nat) (l : List (κ × Value)) : Res := ⟨[g], fun w => MapAt w g l⟩
theorem find_enc (k : κ) : ∀ (es : List MapEntry) (l : List (κ × Value)) (i : Nat), es.map (fun e => (e.key, e.val)) = l.map (fun p => (KeyT.enc p.1, p.2)) →
    (Instr.findNow (keyD κ) (KeyT.enc k) es i = some none ∧ mget l k = none ∧ (∀ v, mput l k v = l ++ [(k, v)]) ∧ ∀ x ∈ es, x.key ≠ KeyT.enc k) ∨
    ∃ j e v0, Instr.findNow (keyD κ) (KeyT.enc k) es i = some (some (i + j, v0)) ∧ es[j]? = some e ∧ e.key = KeyT.enc k ∧ mget l k = some v0 ∧ ∀ v, mput l k v = l.set j (k, v)
  | [], l, i, h => by
    have : l = [] := by cases l <;> simp_all
    subst this
    exact .inl ⟨rfl, rfl, fun _ => rfl, by simp⟩
  | e :: es, [], i, h => by simp at h
  | e :: es, (k', v') :: l, i, h => by
    simp only [List.map_cons, List.cons.injEq, Prod.mk.injEq] at h
    obtain ⟨⟨h1, h2⟩, h3⟩ := h
    have hs : Instr.sameNow (keyD κ) (KeyT.enc k) e.key = some (KeyT.eqb k k') := by rw [h1]; exact KeyT.same k k'
    cases hb : KeyT.eqb k k' with
    | true =>
      have hk := (KeyT.eqb_iff k k').1 hb
      exact .inr ⟨0, e, v', by simp [Instr.findNow, hs, hb, h2], rfl, by rw [h1, hk], by simp [mget, hb], fun v => by simp [mput, hb]⟩
    | false =>
      have hne : e.key ≠ KeyT.enc k := fun q => by
        have h5 := KeyT.same k k
        have h6 : KeyT.eqb k k = true := (KeyT.eqb_iff k k).2 rfl
        have h7 : Instr.sameNow (keyD κ) (KeyT.enc k) (KeyT.enc k) = some true := by rw [← h6]; exact h5
        rw [q, h7, hb] at hs
        simp at hs
      rcases find_enc k es l (i + 1) h3 with ⟨g1, g2, g3, g4⟩ | ⟨j, e', v0, g1, g2, g3, g4, g5⟩
      · exact .inl ⟨by simp [Instr.findNow, hs, hb, g1], by simp [mget, hb, g2], fun v => by simp [mput, hb, g3], fun x hx => by
          cases hx with
          | head => exact hne
          | tail _ hx => exact g4 x hx⟩
      · exact .inr ⟨j + 1, e', v0, by simp [Instr.findNow, hs, hb, g1]; omega, by simpa using g2, g3, by simp [mget, hb, g4], fun v => by simp [mput, hb, g5]⟩
def mapOf (P : Program) (t : TypeId) : Option (TypeId × TypeDesc) :=
  match P.underlying t with
  | some (.map kt et) => (P.underlying kt).map fun d => (et, d)
  | _ => none
class TyMap (P : Program) (t : TypeId) (et : outParam Nat) (d : outParam TypeDesc) : Prop where out : mapOf P t = some (et, d)
theorem mapOf_spec {P : Program} {t et : TypeId} {d : TypeDesc} (h : mapOf P t = some (et, d)) : ∃ kt, P.underlying t = some (.map kt et) ∧ P.underlying kt = some d := by
  unfold mapOf at h
  split at h
  · rename_i kt et' he
    cases hk : P.underlying kt with
    | none => simp [hk] at h
    | some d' =>
      simp [hk] at h
      obtain ⟨rfl, rfl⟩ := h
      exact ⟨kt, he, hk⟩
  · cases h
theorem setObj_size (w : World) (g : Nat) (o : Obj) : ({ w with heap := w.heap.setIfInBounds g o } : World).heap.size = w.heap.size := by simp
theorem run_mapUpdate_at {P : Program} {w : World} {t et : TypeId} (ht : mapOf P t = some (et, keyD κ)) {g : Nat} {l : List (κ × Value)} (h : MapAt w g l) (k : κ) (v : Value) :
    ∃ o, (Instr.mapUpdate t (.map (some g)) (KeyT.enc k) v).run P w = .ok () { w with heap := w.heap.setIfInBounds g o } ∧ ∀ w' : World, w'.heap[g]? = some o → MapAt w' g (mput l k v) := by
  obtain ⟨kt, h1, h2⟩ := mapOf_spec ht
  obtain ⟨es, clock, hb, hs, hl⟩ := h
  have hk := KeyT.ok k
  rcases find_enc k es.toList l 0 hl with ⟨g1, g2, g3, g4⟩ | ⟨j, e, v0, g1, g2, g3, g4, g5⟩
  · refine ⟨.map (es.push { key := KeyT.enc k, val := v, born := clock }) (clock + 1), ?_, fun w' hw => ⟨_, _, hw, stamped_push hs g4, ?_⟩⟩
    · simp [Instr.mapUpdate, run_underlying h1, MapKept.run_getObj_map hb, MapKept.run_checkKey h2 hk, MapKept.run_findKey h2 g1, MapKept.run_setObj_map _ hb, Result.andThen]
    · rw [g3]
      simp [hl]
  · have hj : es[j]? = some e := by simpa using g2
    refine ⟨.map (es.modify j fun e => { e with key := KeyT.enc k, val := v }) clock, ?_, fun w' hw => ⟨_, _, hw, stamped_modify hs _ _ (fun _ _ => rfl) (fun e' _ he' => by rw [hj] at he'; cases he'; exact g3.symm), ?_⟩⟩
    · simp [Instr.mapUpdate, run_underlying h1, MapKept.run_getObj_map hb, MapKept.run_checkKey h2 hk, MapKept.run_findKey h2 g1, hj, g3, MapKept.run_keyThatStays hk, MapKept.run_setObj_map _ hb, Result.andThen]
    · rw [g5]
      apply List.ext_getElem?
      intro q
      have hq := congrArg (fun l => l[q]?) hl
      simp only [List.getElem?_map, Array.getElem?_toList] at hq
      simp only [List.getElem?_map, Array.getElem?_toList, Array.getElem?_modify, List.getElem?_set]
      by_cases e1 : j = q
      · subst e1
        have hlt : j < l.length := by
          rcases Nat.lt_or_ge j l.length with h | h
          · exact h
          · rw [hj, List.getElem?_eq_none h] at hq; simp at hq
        simp [hj, hlt]
      · simp [e1, hq]
theorem run_lookup_at {P : Program} {w : World} {t et : TypeId} {z : Value} (ht : mapOf P t = some (et, keyD κ)) (hz : zeroOf P et = some z) {g : Nat} {l : List (κ × Value)} (h : MapAt w g l) (k : κ) (c : Bool) :
    (Instr.lookup t (.map (some g)) (KeyT.enc k) c).run P w = .ok (if c then .tuple #[(mget l k).getD z, .bool (mget l k).isSome] else (mget l k).getD z) w := by
  obtain ⟨kt, h1, h2⟩ := mapOf_spec ht
  obtain ⟨es, clock, hb, hs, hl⟩ := h
  have hk := KeyT.ok k
  have hzr : (zeroValue et).run P w = .ok z w := run_zero hz w
  rcases find_enc k es.toList l 0 hl with ⟨g1, g2, g3, g4⟩ | ⟨j, e, v0, g1, g2, g3, g4, g5⟩
  · cases c <;> simp [Instr.lookup, run_underlying h1, MapKept.run_getObj_map hb, MapKept.run_checkKey h2 hk, MapKept.run_findKey h2 g1, hzr, g2, Result.andThen]
  · cases c <;> simp [Instr.lookup, run_underlying h1, MapKept.run_getObj_map hb, MapKept.run_checkKey h2 hk, MapKept.run_findKey h2 g1, g4, Result.andThen]
end

/-- A resource becomes data: nobody writes it any more. -/
theorem Gam.give {av bor : List Nat} {w0 w : World} {r : Res} {loc : List Res} {X : World → Prop} (G : Gam av bor w0 (r :: loc) X w) : Gam av bor w0 loc (fun w => X w ∧ r.F w) w := by
  have hn := G.nodup
  rw [fps_cons] at hn
  have hn2 := List.nodup_append.1 hn
  refine ⟨G.fr, G.avb, hn2.2.1, fun k hk => G.own k (by rw [fps_cons]; exact List.mem_append.2 (.inr hk)), fun q hq => G.here q (List.mem_cons_of_mem _ hq), ?_⟩
  refine Keeps.and (G.keep.anti fun k hk => ?_) ⟨fun k => k ∈ r.fp, fun k hk => ?_, fun w' e => G.here r List.mem_cons_self w' e⟩
  · rw [fps_cons]
    rcases List.mem_append.1 hk with h | h
    · exact List.mem_append.2 (.inl h)
    · exact List.mem_append.2 (.inr (List.mem_append.2 (.inr h)))
  · have h1 := G.own k (by rw [fps_cons]; exact List.mem_append.2 (.inl hk))
    refine ⟨h1.1, fun h => ?_⟩
    rcases List.mem_append.1 h with h | h
    · have h2 := G.avb k h
      rcases h1.2 with h3 | h3
      · omega
      · exact h2.2 h3
    · exact hn2.2.2 k hk k h rfl
section
variable {P : Program} {N : Nat} {av bor : List Nat} {w0 : World} {ops : Array Oper} {rest : List Oper} {k : St → Prop} {E : Env} {loc loc' : List Res} {X : World → Prop}
variable {d : Option Tmp} {ty : TypeId} {pos : String} {af : Array Edge} {g : Option (Nat × Bool)} {bb want : Bool} {K : Exit → St → Prop}
theorem sw_give {r : Res} (h : Sw P N av bor w0 ops rest ⟨E, loc, fun w => X w ∧ r.F w⟩ k) : Sw P N av bor w0 ops rest ⟨E, r :: loc, X⟩ k := Sw.mk fun a w ok => h.run a w ⟨ok.defers, ok.size, ok.env, ok.gam.give⟩
theorem cw_give {c : Code} {r : Res} (h : Cw P N av bor w0 c ⟨E, loc, fun w => X w ∧ r.F w⟩ K) : Cw P N av bor w0 c ⟨E, r :: loc, X⟩ K := Cw.mk fun a w ok => h.run a w ⟨ok.defers, ok.size, ok.env, ok.gam.give⟩
theorem sw_makeMap (κ : Type) [KeyT κ] {n : Nat} {t : TypeId} (hg : gdB ops E g = some (bb, want) := by rfl) (hb : bb = want := by (first | with_reducible rfl | with_reducible assumption | with_reducible exact Bool.not_false | with_reducible exact Bool.not_true)) (hd : Nat.blt n N = true := by rfl)
    (h : ∀ q, Sw P N av bor w0 ops rest ⟨(n, .map (some q)) :: E, mapr q ([] : List (κ × Value)) :: loc, X⟩ k) : Sw P N av bor w0 ops (⟨some n, .makeMap t none, ty, pos, af, g⟩ :: rest) ⟨E, loc, X⟩ k := Sw.mk fun a w ok => by
  have hd' : inB N (some n) = true := by have h1 : n < N := Nat.le_of_ble_eq_true hd; simpa [inB] using h1
  simp only [wpList]
  rw [wanted_of ok (o := ⟨some n, .makeMap t none, ty, pos, af, g⟩) hg]
  subst hb
  simp only [beq_self_eq_true, if_true]
  left
  unfold Oper.wp
  have hr : (execOp a.eval ⟨some n, .makeMap t none, ty, pos, af, g⟩).run P w = .ok (.value (.map (some w.heap.size))) (w.alloc (.map #[] 0)) := by
    have : (newObj (.map #[] 0)).run P w = .ok w.heap.size (w.alloc (.map #[] 0)) := rfl
    simp [execOp, Instr.makeMap, this]
  rw [hr]
  have G1 := ok.gam.new (.map #[] 0) (fun w2 => MapAt w2 w.heap.size ([] : List (κ × Value))) fun w2 h => ⟨#[], 0, h, stamped_empty 0, rfl⟩
  have ok' : Ok N av bor w0 ⟨E, mapr w.heap.size ([] : List (κ × Value)) :: loc, X⟩ a (w.alloc (.map #[] 0)) := ⟨ok.defers, ok.size, ok.env, G1⟩
  exact (h _).run _ _ (put_eq (some n) _ ▸ ok'.put hd' _)
theorem MapAt.same {κ : Type} [KeyT κ] {w w' : World} {q : Nat} {l : List (κ × Value)} (h : MapAt w q l) (e : w'.heap[q]? = w.heap[q]?) : MapAt w' q l := by
  obtain ⟨es, c, h1, h2⟩ := h
  exact ⟨es, c, e.trans h1, h2⟩
theorem ok_update {κ : Type} [KeyT κ] {a : Act} {w : World} (ok : Ok N av bor w0 ⟨E, loc, X⟩ a w) {t et : TypeId} (ht : mapOf P t = some (et, keyD κ)) {q : Nat} {l : List (κ × Value)} {kk : κ} {v : Value} (hA : At (mapr q l) (mapr q (mput l kk v)) loc loc') :
    ∃ w', (Instr.mapUpdate t (.map (some q)) (KeyT.enc kk) v).run P w = .ok () w' ∧ Ok N av bor w0 ⟨E, loc', X⟩ a w' := by
  have hm : MapAt w q l := (ok.gam.here _ hA.mem).now
  obtain ⟨o, hr, ho⟩ := run_mapUpdate_at ht hm kk v
  obtain ⟨es, c, hb, _⟩ := hm
  have hs := heap_set (o' := o) hb
  refine ⟨_, hr, ok.defers, ok.size, ok.env, ok.gam.turn hA rfl rfl rfl (by simp) (fun i hi => hs.2 i hi) fun w2 h2 => ho w2 (h2.trans hs.1)⟩
theorem sw_insert {κ : Type} [KeyT κ] {t et : Nat} [ht : TyMap P t et (keyD κ)] {m x y : Operand} {q : Nat} {l : List (κ × Value)} {kk : κ} {v : Value} (hm : ev E m = some (.map (some q)) := by rfl) (hx : ev E x = some (KeyT.enc kk) := by rfl) (hy : ev E y = some v := by rfl)
    (hA : At (mapr q l) (mapr q (mput l kk v)) loc loc' := by (repeat (first | exact At.here _ | apply At.there))) (hg : gdB ops E g = some (bb, want) := by rfl) (hb : bb = want := by (first | with_reducible rfl | with_reducible assumption | with_reducible exact Bool.not_false | with_reducible exact Bool.not_true)) (hd : inB N d = true := by rfl)
    (h : Sw P N av bor w0 ops rest ⟨putE E d undef, loc', X⟩ k) : Sw P N av bor w0 ops (⟨d, .insert t m x y, ty, pos, af, g⟩ :: rest) ⟨E, loc, X⟩ k := Sw.mk fun a w ok => by
  simp only [wpList]
  rw [wanted_of ok (o := ⟨d, .insert t m x y, ty, pos, af, g⟩) hg]
  subst hb
  simp only [beq_self_eq_true, if_true]
  left
  unfold Oper.wp
  obtain ⟨w', hr, ok'⟩ := ok_update (P := P) ok ht.out hA
  have hr' : (execOp a.eval ⟨d, .insert t m x y, ty, pos, af, g⟩).run P w = .ok .skip w' := by
    simp [execOp, ok.eval (st := ⟨E, loc, X⟩) hm, ok.eval (st := ⟨E, loc, X⟩) hx, ok.eval (st := ⟨E, loc, X⟩) hy, hr]
  rw [hr']
  exact h.run _ _ (put_eq d _ ▸ ok'.put hd _)
theorem sw_update {κ : Type} [KeyT κ] {t et : Nat} [ht : TyMap P t et (keyD κ)] {m x y : Operand} {q : Nat} {l : List (κ × Value)} {kk : κ} {v : Value} (hm : ev E m = some (.map (some q)) := by rfl) (hx : ev E x = some (KeyT.enc kk) := by rfl) (hy : ev E y = some v := by rfl)
    (hA : At (mapr q l) (mapr q (mput l kk v)) loc loc' := by (repeat (first | exact At.here _ | apply At.there))) (hg : gdB ops E g = some (bb, want) := by rfl) (hb : bb = want := by (first | with_reducible rfl | with_reducible assumption | with_reducible exact Bool.not_false | with_reducible exact Bool.not_true)) (hd : inB N d = true := by rfl)
    (h : Sw P N av bor w0 ops rest ⟨putE E d undef, loc', X⟩ k) : Sw P N av bor w0 ops (⟨d, .mapUpdate t m x y, ty, pos, af, g⟩ :: rest) ⟨E, loc, X⟩ k := Sw.mk fun a w ok => by
  simp only [wpList]
  rw [wanted_of ok (o := ⟨d, .mapUpdate t m x y, ty, pos, af, g⟩) hg]
  subst hb
  simp only [beq_self_eq_true, if_true]
  left
  unfold Oper.wp
  obtain ⟨w', hr, ok'⟩ := ok_update (P := P) ok ht.out hA
  have hr' : (execOp a.eval ⟨d, .mapUpdate t m x y, ty, pos, af, g⟩).run P w = .ok .skip w' := by
    simp [execOp, ok.eval (st := ⟨E, loc, X⟩) hm, ok.eval (st := ⟨E, loc, X⟩) hx, ok.eval (st := ⟨E, loc, X⟩) hy, hr]
  rw [hr']
  exact h.run _ _ (put_eq d _ ▸ ok'.put hd _)
theorem y_lookup {κ : Type} [KeyT κ] {st : St} {t et : Nat} [ht : TyMap P t et (keyD κ)] {z : Value} [hz : TyZero P et z] {m x : Operand} {c : Bool} {q : Nat} {l : List (κ × Value)} {kk : κ} (hm : ev st.env m = some (.map (some q))) (hx : ev st.env x = some (KeyT.enc kk))
    (hl : ∀ w, Gam av bor w0 st.loc st.ext w → MapAt w q l) : Sy.Yields P N av bor w0 st (.lookup t m x c) ty (if c then .tuple #[(mget l kk).getD z, .bool (mget l kk).isSome] else (mget l kk).getD z) := Sy.Yields.mk fun A w ok d pos af g => by
  have := run_lookup_at (P := P) (t := t) ht.out hz.out (hl w ok.gam) kk c
  simp [execOp, ok.eval hm, ok.eval hx, this]
theorem map_loc {κ : Type} [KeyT κ] {q : Nat} {l : List (κ × Value)} (hm : mapr q l ∈ loc) : ∀ w, Gam av bor w0 loc X w → MapAt w q l := fun w G => (G.here _ hm).now
theorem map_ext {κ : Type} [KeyT κ] {q : Nat} {l : List (κ × Value)} (hm : ∀ w, X w → MapAt w q l) : ∀ w, Gam av bor w0 loc X w → MapAt w q l := fun w G => hm w G.keep.now
theorem sy_lookup {κ : Type} [KeyT κ] {n : Nat} {t et : Nat} [ht : TyMap P t et (keyD κ)] {z : Value} [hz : TyZero P et z] {m x : Operand} {c : Bool} {q : Nat} {l : List (κ × Value)} {kk : κ} (hm : ev E m = some (.map (some q)) := by rfl) (hx : ev E x = some (KeyT.enc kk) := by rfl)
    (hl : ∀ w, Gam av bor w0 loc X w → MapAt w q l) (hg : gdB ops E g = some (bb, want) := by rfl) (hb : bb = want := by (first | with_reducible rfl | with_reducible assumption | with_reducible exact Bool.not_false | with_reducible exact Bool.not_true)) (hd : Nat.blt n N = true := by rfl)
    (h : Sw P N av bor w0 ops rest ⟨(n, if c then .tuple #[(mget l kk).getD z, .bool (mget l kk).isSome] else (mget l kk).getD z) :: E, loc, X⟩ k) : Sw P N av bor w0 ops (⟨some n, .lookup t m x c, ty, pos, af, g⟩ :: rest) ⟨E, loc, X⟩ k := sw_yield (y_lookup hm hx hl) hg hb hd h
theorem sy_lookup2 {κ : Type} [KeyT κ] {n : Nat} {t et : Nat} [ht : TyMap P t et (keyD κ)] {z : Value} [hz : TyZero P et z] {m x : Operand} {q : Nat} {l : List (κ × Value)} {kk : κ} {o : Option Value} {v : Value} {b : Bool} (hm : ev E m = some (.map (some q)) := by rfl) (hx : ev E x = some (KeyT.enc kk) := by rfl)
    (hl : ∀ w, Gam av bor w0 loc X w → MapAt w q l) (ho : mget l kk = o) (hv : o.getD z = v := by rfl) (hbo : o.isSome = b := by rfl) (hg : gdB ops E g = some (bb, want) := by rfl) (hb : bb = want := by (first | with_reducible rfl | with_reducible assumption | with_reducible exact Bool.not_false | with_reducible exact Bool.not_true)) (hd : Nat.blt n N = true := by rfl)
    (h : Sw P N av bor w0 ops rest ⟨(n, .tuple #[v, .bool b]) :: E, loc, X⟩ k) : Sw P N av bor w0 ops (⟨some n, .lookup t m x true, ty, pos, af, g⟩ :: rest) ⟨E, loc, X⟩ k := by
  subst ho; subst hv; subst hbo
  exact sy_lookup hm hx hl hg hb hd h
theorem sy_lookup1 {κ : Type} [KeyT κ] {n : Nat} {t et : Nat} [ht : TyMap P t et (keyD κ)] {z : Value} [hz : TyZero P et z] {m x : Operand} {q : Nat} {l : List (κ × Value)} {kk : κ} {o : Option Value} (hm : ev E m = some (.map (some q)) := by rfl) (hx : ev E x = some (KeyT.enc kk) := by rfl)
    (hl : ∀ w, Gam av bor w0 loc X w → MapAt w q l) (ho : mget l kk = o) (hg : gdB ops E g = some (bb, want) := by rfl) (hb : bb = want := by (first | with_reducible rfl | with_reducible assumption | with_reducible exact Bool.not_false | with_reducible exact Bool.not_true)) (hd : Nat.blt n N = true := by rfl)
    (h : Sw P N av bor w0 ops rest ⟨(n, o.getD z) :: E, loc, X⟩ k) : Sw P N av bor w0 ops (⟨some n, .lookup t m x false, ty, pos, af, g⟩ :: rest) ⟨E, loc, X⟩ k := by
  subst ho
  exact sy_lookup hm hx hl hg hb hd h
end
theorem Gam.giveAll {av bor : List Nat} {w0 w : World} : ∀ {loc : List Res} {X : World → Prop}, Gam av bor w0 loc X w → Gam av bor w0 [] (fun w => X w ∧ ∀ r ∈ loc, r.F w) w
  | [], X, G => G.imp fun _ h => ⟨h, by simp⟩
  | r :: loc, X, G => (Gam.giveAll G.give).imp fun w h => ⟨h.1.1, fun q hq => by
      rcases List.mem_cons.1 hq with rfl | hq
      · exact h.1.2
      · exact h.2 q hq⟩
/-- The contract of a function that hands back new memory: all that it owns at its end becomes data. -/
theorem mk_of_cw2 {P : Program} {f : FuncId} {fn : Func} {c : Code} {args : List Value} {X : World → Prop} {Φ : Value → (World → Prop) → Prop} (N : Nat)
    (hf : P.funcs[f]? = some fn) (hb : fn.body = some c) (hN : fn.ntmps = N) (hn : Nat.ble args.length N = true)
    (h : ∀ av bor w0, Cw P N av bor w0 c ⟨params 0 args, [], X⟩ (ends P fn N fun u R X' => Φ u fun w => X' w ∧ ∀ r ∈ R, r.F w)) : Mk P f args.toArray X Φ := by
  unfold Mk
  exact Ct.mk fun w av G => by
    have h1 := (ct_of_cw (P := P) (Post := fun u R X' => Φ u fun w => X' w ∧ ∀ r ∈ R, r.F w) N hf hb hN hn h).run w av G
    refine h1.mono fun e w' ⟨u, R, X', he, hu, G'⟩ => ⟨u, [], _, he, ⟨hu, rfl⟩, G'.giveAll⟩
end Go.Proofs.YtfpojkoddcdojaaGreatDoor.Sy
