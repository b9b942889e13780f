/- 'slices.Sorted(maps.Keys(m))' out of the shelf's contracts, for the calculus of XSy. No program in sight. -/
import Derived.Test.YtfpojkoddcdojaaGreatDoorSo
import Derived.Shelf.SlIter.Nil
import Derived.Shelf.SlIterI.Nil
import Derived.Shelf.SortM.Plain
import Derived.Shelf.SortM.SortNone
set_option linter.unusedVariables false
set_option linter.unusedSimpArgs false
namespace Go.Proofs.YtfpojkoddcdojaaGreatDoor.Sy
open Go Go.RowKit Go.Sort Go.Proofs Go.MapKept Go.Maps Go.Shelf

theorem Gam.more {av bor : List Nat} {w0 w w' : World} {loc : List Res} {X : World → Prop} {r : Res} (G : Gam av bor w0 loc X w) (hB : Below w.heap.size w w') (hr : Holds r w') (hn : r.fp.Nodup) (hf : ∀ i ∈ r.fp, w.heap.size ≤ i ∧ i < w'.heap.size) :
    Gam av bor w0 (r :: loc) X w' := by
  have G0 : Gam av bor w0 (⟨[], fun _ => True⟩ :: loc) X w := by
    have e1 : fps ((⟨[], fun _ => True⟩ : Res) :: loc) = fps loc := by simp [fps]
    refine ⟨G.fr, G.avb, by rw [e1]; exact G.nodup, by rw [e1]; exact G.own, fun x hx => ?_, by rw [e1]; exact G.keep⟩
    rcases List.mem_cons.1 hx with rfl | hx
    · exact fun _ _ => trivial
    · exact G.here x hx
  refine G0.swap (At.here loc) hB.os hB.tape hB.output hB.size (fun i hi _ => hB.block i hi) hn (fun i hi => ⟨(hf i hi).2, .inr (hf i hi).1⟩) hr
theorem orow_of_owns {w : World} {base e size n : Nat} {v : Value} {xs : List Value} (h : w.ownsRow base e size v n xs) : ORow w e size v n xs := by
  refine ⟨h.1, ?_⟩
  rcases h.2 with h0 | ⟨g, cap, cur, hv, _, hg, h1, h2, h3, h4⟩
  · exact .inl h0
  · exact .inr ⟨g, cap, cur, (0, 0), hv, hg, h1, h2, h3, h4, .inl rfl⟩
theorem owns_fp {w : World} {base e size n : Nat} {v : Value} {xs : List Value} (h : w.ownsRow base e size v n xs) : (orow e size v n xs).fp.Nodup ∧ (∀ i ∈ (orow e size v n xs).fp, base ≤ i ∧ i < w.heap.size) ∧ ∃ A c, v = .slice A n c := by
  rcases h.2 with ⟨rfl, rfl⟩ | ⟨g, cap, cur, rfl, hb, hg, h1, h2, h3, h4⟩
  · exact ⟨by simp [orow, Value.ownBlock], fun i hi => by simp [orow, Value.ownBlock] at hi, none, 0, rfl⟩
  · refine ⟨by simp [orow, Value.ownBlock], fun i hi => ?_, _, _, rfl⟩
    simp only [orow, Value.ownBlock, Option.toList_some, List.mem_singleton] at hi
    subst hi
    exact ⟨hb, (Array.getElem?_eq_some_iff.1 hg).1⟩
def rTriv : Value → Option (DataW Unit × List MemPlace) := fun _ => some (.nil, [])
theorem map_len {κ : Type} [KeyT κ] {w : World} {q : Nat} {l : List (κ × Value)} {es : Array MapEntry} (hl : es.toList.map (fun e => (e.key, e.val)) = l.map fun p => (KeyT.enc p.1, p.2)) : es.size = l.length := by
  have := congrArg List.length hl
  simpa using this
theorem owns_of_mapS {P : Program} {K : Nat} (hk : P.underlying K = some .string) {w : World} {q : Nat} {l : List (ByteArray × Value)} (h : MapAt w q l) (hs : ∀ p ∈ l, p.1.size ≤ maxLen) (hlen : l.length ≤ maxLen) :
    ∃ D0 : DataW Unit, w.ownsMap P K rTriv q l.length D0 ∧ (strKeys D0).Perm (l.map fun p => bl p.1) ∧ Maps.size D0 = l.length := by
  obtain ⟨es, clock, hb, hst, hl⟩ := h
  have hz := map_len (w := w) (q := q) hl
  have hkey : ∀ x ∈ es.toList, ∃ s : ByteArray, x.key = .string s ∧ s.size ≤ maxLen := by
    intro x hx
    have h1 : (x.key, x.val) ∈ l.map fun p => (KeyT.enc p.1, p.2) := by rw [← hl]; exact List.mem_map.2 ⟨x, hx, rfl⟩
    obtain ⟨p, hp, he⟩ := List.mem_map.1 h1
    refine ⟨p.1, ?_, hs p hp⟩
    have := congrArg Prod.fst he
    exact this.symm
  have hrd : ∀ x ∈ es.toList, ∃ s : ByteArray, x.key = .string s ∧ WideElems.rd P K rTriv x = some (.string (bl s), .nil) := by
    intro x hx
    obtain ⟨s, h1, h2⟩ := hkey x hx
    refine ⟨s, h1, ?_⟩
    have h3 : keyOf P K x.key = some (.string (bl s)) := by rw [h1]; simp [keyOf, hk, mapKey, h2, bl]
    simp [WideElems.rd, h3, rTriv]
  refine ⟨_, ⟨es, clock, hb, ⟨by omega, hst, fun x hx => ?_⟩, by omega, rfl⟩, ?_, ?_⟩
  · obtain ⟨s, _, h2⟩ := hrd x hx
    exact ⟨_, h2⟩
  · have h1 := (WideShapes.sorted_perm (es.toList.map (WideElems.rg P K rTriv))).map fun p => strOf p.1
    refine h1.trans ?_
    have h2 : (es.toList.map (WideElems.rg P K rTriv)).map (fun p => strOf p.1) = es.toList.map fun x => match x.key with | .string s => bl s | _ => [] := by
      rw [List.map_map]
      refine List.map_congr_left fun x hx => ?_
      obtain ⟨s, h3, h4⟩ := hrd x hx
      simp [WideElems.rg, h4, h3, strOf]
    have h5 : (es.toList.map fun x => match x.key with | .string s => bl s | _ => []) = l.map fun p => bl p.1 := by
      have h6 := congrArg (List.map fun (p : Value × Value) => match p.1 with | .string s => bl s | _ => []) hl
      rw [List.map_map, List.map_map] at h6
      exact h6
    rw [h2, h5]
  · show ((es.toList.map (WideElems.rg P K rTriv)).foldr DataW.insert []).length = l.length
    rw [length_sorted]
    simp [hz]
theorem owns_of_mapI {P : Program} {K : Nat} (hk : P.underlying K = some (.int .i64)) {w : World} {q : Nat} {l : List (Int × Value)} (h : MapAt w q l) (hs : ∀ p ∈ l, (Lit.int .i64 p.1).wf = true) (hlen : l.length ≤ maxLen) :
    ∃ D0 : DataW Unit, w.ownsMap P K rTriv q l.length D0 ∧ (intKeys D0).Perm (l.map fun p => p.1) ∧ Maps.size D0 = l.length := by
  obtain ⟨es, clock, hb, hst, hl⟩ := h
  have hz := map_len (w := w) (q := q) hl
  have hkey : ∀ x ∈ es.toList, ∃ s : Int, x.key = .int .i64 s ∧ (Lit.int .i64 s).wf = true := by
    intro x hx
    have h1 : (x.key, x.val) ∈ l.map fun p => (KeyT.enc p.1, p.2) := by rw [← hl]; exact List.mem_map.2 ⟨x, hx, rfl⟩
    obtain ⟨p, hp, he⟩ := List.mem_map.1 h1
    refine ⟨p.1, ?_, hs p hp⟩
    have := congrArg Prod.fst he
    exact this.symm
  have hrd : ∀ x ∈ es.toList, ∃ s : Int, x.key = .int .i64 s ∧ WideElems.rd P K rTriv x = some (.int .i64 s, .nil) := by
    intro x hx
    obtain ⟨s, h1, h2⟩ := hkey x hx
    refine ⟨s, h1, ?_⟩
    have h3 : keyOf P K x.key = some (.int .i64 s) := by rw [h1]; simp [keyOf, hk, mapKey, h2]
    simp [WideElems.rd, h3, rTriv]
  refine ⟨_, ⟨es, clock, hb, ⟨by omega, hst, fun x hx => ?_⟩, by omega, rfl⟩, ?_, ?_⟩
  · obtain ⟨s, _, h2⟩ := hrd x hx
    exact ⟨_, h2⟩
  · have h1 := (WideShapes.sorted_perm (es.toList.map (WideElems.rg P K rTriv))).map fun p => Go.intOf p.1
    refine h1.trans ?_
    have h2 : (es.toList.map (WideElems.rg P K rTriv)).map (fun p => Go.intOf p.1) = es.toList.map fun x => match x.key with | .int _ s => s | _ => 0 := by
      rw [List.map_map]
      refine List.map_congr_left fun x hx => ?_
      obtain ⟨s, h3, h4⟩ := hrd x hx
      simp [WideElems.rg, h4, h3, Go.intOf]
    have h5 : (es.toList.map fun x => match x.key with | .int _ s => s | _ => 0) = l.map fun p => p.1 := by
      have h6 := congrArg (List.map fun (p : Value × Value) => match p.1 with | .int _ s => s | _ => 0) hl
      rw [List.map_map, List.map_map] at h6
      exact h6
    rw [h2, h5]
  · show ((es.toList.map (WideElems.rg P K rTriv)).foldr DataW.insert []).length = l.length
    rw [length_sorted]
    simp [hz]

section
variable {P : Program}
/-- What the shelf says of maps.Keys at a map type, and of slices.Sorted at what it hands back. -/
structure KeysC (P : Program) (fk g M : Nat) : Prop where
  keys : ∀ (mb : Option Nat) (W : World), Calls P fk #[.map mb] W fun e w' => e = .returned (.func (.func g) #[] #[.pointer (some ⟨W.heap.size, 0, none⟩)]) ∧ w' = W.alloc (.cells #[.map mb] M)
structure SortedSC (P : Program) (fs g K : Nat) : Prop where
  key : P.underlying K = some .string
  sorted : ∀ (w : World) (Bm q nn : Nat) (D0 : DataW Unit), Bm < w.heap.size → w.cell? ⟨Bm, 0, none⟩ = some (.map (some q)) → w.ownsMap P K rTriv q nn D0 → Maps.size D0 ≤ maxLen → Maps.size D0 * 16 ≤ 140737488355328 →
    Calls P fs #[.func (.func g) #[] #[.pointer (some ⟨Bm, 0, none⟩)]] w fun e w' => ∃ (v : Value) (ss : List (List UInt8)), e = .returned v ∧ ss.Perm (strKeys D0) ∧
      w'.ownsRow w.heap.size K 1 v ss.length ((ss.mergeSort (fun x y => decide (x ≤ y))).map encStr) ∧ (v = .slice none 0 0 ↔ ss = []) ∧ Below w.heap.size w w'
structure SortedIC (P : Program) (fs g K : Nat) : Prop where
  key : P.underlying K = some (.int .i64)
  sorted : ∀ (w : World) (Bm q nn : Nat) (D0 : DataW Unit), Bm < w.heap.size → w.cell? ⟨Bm, 0, none⟩ = some (.map (some q)) → w.ownsMap P K rTriv q nn D0 → Maps.size D0 ≤ maxLen → Maps.size D0 * 8 ≤ 140737488355328 →
    Calls P fs #[.func (.func g) #[] #[.pointer (some ⟨Bm, 0, none⟩)]] w fun e w' => ∃ (v : Value) (ss : List Int), e = .returned v ∧ ss.Perm (intKeys D0) ∧
      w'.ownsRow w.heap.size K 1 v ss.length ((ss.mergeSort (fun x y => decide (x ≤ y))).map encZ) ∧ (v = .slice none 0 0 ↔ ss = []) ∧ Below w.heap.size w w'
theorem KeysC.ct {fk g M : Nat} (h : KeysC P fk g M) (mb : Option Nat) : Ct P fk #[.map mb] [] (fun _ => True) fun u R _ => ∃ b, u = .func (.func g) #[] #[.pointer (some ⟨b, 0, none⟩)] ∧ R = [cel b M [.map mb]] := Ct.mk fun w av G => by
  refine (h.keys mb w).mono fun e w' ⟨h1, h2⟩ => ⟨_, _, fun _ => True, h1, ⟨_, rfl, rfl⟩, ?_⟩
  subst h2
  exact G.new _ _ fun _ h => h
def sortI (l : List Int) : List Int := l.mergeSort leI
theorem SortedSC.ct {fs g M K : Nat} (h : SortedSC P fs g K) (b q : Nat) (l : List (ByteArray × Value)) (hs : ∀ p ∈ l, p.1.size ≤ maxLen) (hl : l.length ≤ 1000000) :
    Ct P fs #[.func (.func g) #[] #[.pointer (some ⟨b, 0, none⟩)]] [cel b M [.map (some q)], mapr q l] (fun _ => True)
      fun u R _ => ∃ A c, u = .slice A l.length c ∧ R = [orow K 1 u l.length ((sortB (l.map (·.1))).map encB), cel b M [.map (some q)], mapr q l] := Ct.mk fun w av G => by
  have hb : w.heap[b]? = some (.cells #[.map (some q)] M (0, 0)) := (G.here (cel b M [.map (some q)]) List.mem_cons_self).now
  have hm : MapAt w q l := (G.here (mapr q l) (List.mem_cons_of_mem _ List.mem_cons_self)).now
  obtain ⟨D0, hown, hperm, hsz⟩ := owns_of_mapS h.key hm hs (by simp only [maxLen]; omega)
  have hbl : b < w.heap.size := (Array.getElem?_eq_some_iff.1 hb).1
  have hc : w.cell? ⟨b, 0, none⟩ = some (.map (some q)) := by simp [World.cell?, hb]
  refine (h.sorted w b q l.length D0 hbl hc hown (by rw [hsz]; simp only [maxLen]; omega) (by rw [hsz]; omega)).mono fun e w' ⟨v, ss, he, hS, hrow, hnil, hB⟩ => ?_
  have hlen : ss.length = l.length := by rw [(hS.trans hperm).length_eq]; simp
  have hsort : (ss.mergeSort fun x y => decide (x ≤ y)).map encStr = (sortB (l.map (·.1))).map encB := by
    have := mergeSort_of_perm (hS.trans hperm)
    rw [show (ss.mergeSort fun x y => decide (x ≤ y)) = ss.mergeSort leB from rfl, this, map_encStr, sortB]
    simp only [List.map_map]
    rfl
  rw [hsort, hlen] at hrow
  obtain ⟨f1, f2, A, c, rfl⟩ := owns_fp hrow
  exact ⟨_, _, fun _ => True, he, ⟨A, c, rfl, rfl⟩, (G.more hB (orow_holds (orow_of_owns hrow)) f1 f2).imp fun _ _ => trivial⟩
theorem SortedIC.ct {fs g M K : Nat} (h : SortedIC P fs g K) (b q : Nat) (l : List (Int × Value)) (hs : ∀ p ∈ l, (Lit.int .i64 p.1).wf = true) (hl : l.length ≤ 1000000) :
    Ct P fs #[.func (.func g) #[] #[.pointer (some ⟨b, 0, none⟩)]] [cel b M [.map (some q)], mapr q l] (fun _ => True)
      fun u R _ => ∃ A c, u = .slice A l.length c ∧ R = [orow K 1 u l.length ((sortI (l.map (·.1))).map encZ), cel b M [.map (some q)], mapr q l] := Ct.mk fun w av G => by
  have hb : w.heap[b]? = some (.cells #[.map (some q)] M (0, 0)) := (G.here (cel b M [.map (some q)]) List.mem_cons_self).now
  have hm : MapAt w q l := (G.here (mapr q l) (List.mem_cons_of_mem _ List.mem_cons_self)).now
  obtain ⟨D0, hown, hperm, hsz⟩ := owns_of_mapI h.key hm hs (by simp only [maxLen]; omega)
  have hbl : b < w.heap.size := (Array.getElem?_eq_some_iff.1 hb).1
  have hc : w.cell? ⟨b, 0, none⟩ = some (.map (some q)) := by simp [World.cell?, hb]
  refine (h.sorted w b q l.length D0 hbl hc hown (by rw [hsz]; simp only [maxLen]; omega) (by rw [hsz]; omega)).mono fun e w' ⟨v, ss, he, hS, hrow, hnil, hB⟩ => ?_
  have hlen : ss.length = l.length := by rw [(hS.trans hperm).length_eq]; simp
  have hsort : (ss.mergeSort fun x y => decide (x ≤ y)).map encZ = (sortI (l.map (·.1))).map encZ := by
    have := mergeSort_of_perm_i (hS.trans hperm)
    rw [show (ss.mergeSort fun x y => decide (x ≤ y)) = ss.mergeSort leI from rfl, this, sortI]
  rw [hsort, hlen] at hrow
  obtain ⟨f1, f2, A, c, rfl⟩ := owns_fp hrow
  exact ⟨_, _, fun _ => True, he, ⟨A, c, rfl, rfl⟩, (G.more hB (orow_holds (orow_of_owns hrow)) f1 f2).imp fun _ _ => trivial⟩
end
end Go.Proofs.YtfpojkoddcdojaaGreatDoor.Sy
