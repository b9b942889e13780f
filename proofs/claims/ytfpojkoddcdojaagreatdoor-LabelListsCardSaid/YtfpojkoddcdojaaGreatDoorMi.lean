/- Joined by program (wip/dev/merge.py) out of: Vl Lv Lw Lm Wm Ws Wp Bk Wq. -/
import Derived.Test.YtfpojkoddcdojaaGreatDoorMe1
import Derived.Shelf.SlIter.AllValuesS
import Derived.Lib.SlKeysI
import Derived.Test.YtfpojkoddcdojaaGreatDoorMh
import Derived.Test.YtfpojkoddcdojaaGreatDoorMf
import Derived.Test.YtfpojkoddcdojaaGreatDoorMb
import Derived.Test.YtfpojkoddcdojaaGreatDoorMa
/- 'slices.Sorted(maps.Values(m))' at a map[int]string: the iterator's word, after the shelf's proof for maps keyed by string. -/
set_option linter.unusedVariables false
set_option linter.unusedSimpArgs false
namespace Go.Proofs.YtfpojkoddcdojaaGreatDoor
open Go Go.Proofs Sy Go.Shelf Go.Maps Go.Sort Go.RowKit
structure ValsL (P : Program) (ρ : Ren) : Prop where
  mixed : P.follows .mixedOrders = true
  f7 : Bears P (ρ.f 7) (SlBodyY.n7 ρ)
  t0 : P.underlying (ρ.t 0) = some (TypeDesc.tuple #[])
  a0 : ∀ w, (isAgg (ρ.t 0)).run P w = .ok false w
  z0 : ∀ w, (Go.sizeOf (ρ.t 0)).run P w = .ok 1 w
  v0 : ∀ w, (zeroValue (ρ.t 0)).run P w = .ok (Value.tuple #[]) w
  t3 : P.underlying (ρ.t 3) = some (TypeDesc.string)
  a3 : ∀ w, (isAgg (ρ.t 3)).run P w = .ok false w
  z3 : ∀ w, (Go.sizeOf (ρ.t 3)).run P w = .ok 1 w
  v3 : ∀ w, (zeroValue (ρ.t 3)).run P w = .ok (Value.string { data := #[] }) w
  t4 : P.underlying (ρ.t 4) = some (TypeDesc.bool)
  a4 : ∀ w, (isAgg (ρ.t 4)).run P w = .ok false w
  z4 : ∀ w, (Go.sizeOf (ρ.t 4)).run P w = .ok 1 w
  v4 : ∀ w, (zeroValue (ρ.t 4)).run P w = .ok (Value.bool false) w
  t23 : P.underlying (ρ.t 23) = some (TypeDesc.map (ρ.t 27) (ρ.t 3))
  a23 : ∀ w, (isAgg (ρ.t 23)).run P w = .ok false w
  z23 : ∀ w, (Go.sizeOf (ρ.t 23)).run P w = .ok 1 w
  v23 : ∀ w, (zeroValue (ρ.t 23)).run P w = .ok (Value.map none) w
  t33 : P.underlying (ρ.t 33) = some (TypeDesc.func #[ρ.t 3] #[ρ.t 4] false)
  a33 : ∀ w, (isAgg (ρ.t 33)).run P w = .ok false w
  z33 : ∀ w, (Go.sizeOf (ρ.t 33)).run P w = .ok 1 w
  v33 : ∀ w, (zeroValue (ρ.t 33)).run P w = .ok (Value.nilFunc) w
  t27 : P.underlying (ρ.t 27) = some (TypeDesc.int .i64)
/-- The pair's second is the map's value at its first. -/
def ValI {H : Type} (D0 : DataW H) (p : Int × List UInt8) : Prop := ∀ zd, D0.atKey (.int .i64 p.1) zd = .lit (.string p.2)
def AllI {H : Type} (D0 : DataW H) (ps : List (Int × List UInt8)) : Prop := (ps.map (·.1)).Perm (intKeys D0) ∧ ∀ p ∈ ps, ValI D0 p
variable {P : Program} {ρ : Ren}
set_option maxRecDepth 100000 in
set_option maxHeartbeats 1000000 in
theorem valsI_in (L : ValsL P ρ) {H : Type} (F : Fence) (n : Nat) (h8 : F.fn (ρ.f 7)) (hro : F.round = none) (hn : 1 ≤ n) (l Bm b nn : Nat) (D0 : DataW H) (J : List (List UInt8) → World → Prop)
    (hY : ∀ pre x W, J pre W → pre.length < Maps.size D0 → YieldAt F (n - 1) P l #[encStr x] W fun e W' => e = .returned (.bool true) ∧ J (pre ++ [x]) W' ∧ KeepsWalks W W')
    (W : World) (hJ : AbidesFrom W.heap.size J) (hm : W.cell? ⟨Bm, 0, none⟩ = some (.map (some b))) (hown : W.ownsMap P (ρ.t 27) (plainElem P (ρ.t 3)) b nn D0) (h0 : J [] W) :
    CallsIn F n P (ρ.f 7) #[.func (.yield l) #[] #[], .pointer (some ⟨Bm, 0, none⟩)] W fun e W' => (∃ v, e = .returned v) ∧ ∃ xs, (∃ ps, AllI D0 ps ∧ xs = ps.map (·.2)) ∧ J xs W' := by
  have mixed := L.mixed; have t0 := L.t0; have a0 := L.a0; have z0 := L.z0; have v0 := L.v0; have t3 := L.t3; have a3 := L.a3; have z3 := L.z3; have v3 := L.v3; have t4 := L.t4; have a4 := L.a4; have z4 := L.z4; have v4 := L.v4; have t23 := L.t23; have a23 := L.a23; have z23 := L.z23; have v23 := L.v23; have t33 := L.t33; have a33 := L.a33; have z33 := L.z33; have v33 := L.v33; have t27 := L.t27
  have u0 := run_underlying L.t0; have u3 := run_underlying L.t3; have u4 := run_underlying L.t4; have u23 := run_underlying L.t23; have u33 := run_underlying L.t33; have u27 := run_underlying L.t27
  obtain ⟨_, _, FG⟩ := L.f7
  refine callsIn_of_wp FG rfl h8 ?_ hro
  simp only [SlBodyY.n7_ntmps ρ, List.size_toArray, List.length_cons, List.length_nil, Nat.reduceAdd, Nat.reduceSub, Array.replicate_succ, Array.replicate_zero, List.push_toArray, List.append_toArray, List.nil_append, List.cons_append]
  gi_wp2_with (first
    | (gi_at_range; refine wpListIn_range_own _ rfl _ (ρ.t 23) rfl (ρ.t 27) (ρ.t 3) (int_keyed L.t27) L.t23 _ b nn _ rfl hown ?_; intro w0 hrg0 hg0 hs0)
    | gi_in)
  go_frame
  gi_loopw [4] (fun _ wr => ∃ (left : Lit → Bool) (cnt : Nat) (ps : List (Int × List UInt8)), wr.ranges P (ρ.t 27) (plainElem P (ρ.t 3)) b W.heap.size nn D0 left cnt ∧ ps.length + cnt ≤ Maps.size D0 ∧ CollectedI D0 left (ps.map (·.1)) ∧ (∀ p ∈ ps, ValI D0 p) ∧ J (ps.map (·.2)) wr)
    (fun _ wr => wr.rangeLeft b W.heap.size)
  case atStart =>
    exact ⟨_, _, [], hrg0, by simp, CollectedI.start D0, by simp, hJ [] W w0 none h0 hg0 (fun r e => by cases e)⟩
  case round =>
    obtain ⟨left, cnt, ps, hrg, hcs, hC, hV, hJs⟩ := hrel
    gi_wp2_with (first
      | (gi_at_next; refine wpListIn_next_ranges _ rfl _ rfl (ρ.t 27) (int_keyed L.t27) (plainElem P (ρ.t 3)) encZ encStr (fun key kl hk => by obtain ⟨x, hx, _⟩ := Maps.keyOf_i64 L.t27 hk; exact ⟨x, hx⟩) (fun v y hv => by obtain ⟨c, rfl, _⟩ := plainElem_string_inv L.t3 hv; exact ⟨c, rfl⟩) b W.heap.size nn _ _ _ rfl hrg ?_ ?_)
      | gi_in)
    · intro hc0 hl0
      gi_wp2
      go_end0
      exact ⟨⟨_, rfl⟩, _, ⟨ps, ⟨hC.perm hown (int_keyed L.t27) L.t27 hl0, hV⟩, rfl⟩, hJs⟩
    · intro x c kl yd yp w2 cnt2 hkey hlk hv hat hrg2 hlt hg2 hs2 hen
      obtain ⟨x', ex, rfl, _⟩ := Maps.keyOf_i64 L.t27 hkey
      obtain rfl : x = x' := encZ_inj ex
      obtain ⟨c', ec, ez, _⟩ := plainElem_string_inv L.t3 hv
      obtain rfl : c = c' := encStr_inj ec
      obtain rfl : yd = .lit (.string c) := (Prod.mk.inj ez).1
      have hJ2 : J (ps.map (·.2)) w2 := hJ _ wr w2 (some W.heap.size) hJs hg2 (fun r e => by cases e; exact ⟨Nat.le_refl _, hrg.iter_walk⟩)
      obtain ⟨fn, tmps, assign, body, hy, hR⟩ := hY (ps.map (·.2)) c w2 hJ2 (by simp; omega)
      clear hs2
      gi_wp2
      refine hR.mono ?_
      have hC2 : CollectedI D0 (fun z => left z && !z.sameKey (.int .i64 x)) ((ps ++ [(x, c)]).map (·.1)) := by simpa using hC.step hlk hat
      have hV2 : ∀ p ∈ ps ++ [(x, c)], ValI D0 p := fun p hp => (List.mem_append.1 hp).elim (hV p) (fun e => by simp at e; subst e; exact hat)
      rintro e W3 ⟨rfl, hJ3, hk3⟩
      gi_wp2
      have hrg3 := hrg2.of_walks hk3
      go_roundw
      case rel => exact ⟨_, cnt2, ps ++ [(x, c)], hrg3, by simp; omega, hC2, hV2, by simpa using hJ3⟩
      case measure => rw [hrg3.left_eq, hrg.left_eq]; exact hlt
theorem valsI_gives (L : ValsL P ρ) {H : Type} (F : Fence) (n : Nat) (h7 : F.fn (ρ.f 7)) (hro : F.round = none) (hn : 1 ≤ n) (Bm b nn : Nat) (D0 : DataW H) (w : World) (hBm : Bm < w.heap.size)
    (hm : w.cell? ⟨Bm, 0, none⟩ = some (.map (some b))) (hown : w.ownsMap P (ρ.t 27) (plainElem P (ρ.t 3)) b nn D0) :
    SeqGives F n P (ρ.f 7) #[.pointer (some ⟨Bm, 0, none⟩)] encStr (fun xs => ∃ ps, AllI D0 ps ∧ xs = ps.map (·.2)) (Maps.size D0) w := fun l J W hW hJ hY h0 => by
  have hown' : W.ownsMap P (ρ.t 27) (plainElem P (ρ.t 3)) b nn D0 := by
    have hbl := hown.lt
    obtain ⟨es, clock, hb, Ft, hs, hD⟩ := hown
    exact ⟨es, clock, (hW.block b hbl).trans hb, Ft, hs, hD⟩
  exact valsI_in L F n h7 hro hn l Bm b nn D0 J hY W hJ ((hW.cell (p := ⟨Bm, 0, none⟩) hBm).trans hm) hown' h0
def valsRen : Ren := ⟨fun | 7 => 62 | n => n, fun | 0 => 0 | 3 => 9 | 4 => 4 | 23 => 90 | 33 => 108 | 27 => 3 | n => n, fun | n => n⟩
theorem valsL : ValsL Tryz.prog valsRen where
  mixed := by kernel_rfl
  f7 := ⟨Tryz.f62.name, by decide, Tryz.func62.trans (congrArg some (by kernel_rfl))⟩
  t0 := Tryz.underlying0
  a0 := Tryz.isAgg0
  z0 := Tryz.sizeOf0
  v0 := Tryz.zeroValue0
  t3 := Tryz.underlying9
  a3 := Tryz.isAgg9
  z3 := Tryz.sizeOf9
  v3 := Tryz.zeroValue9
  t4 := Tryz.underlying4
  a4 := Tryz.isAgg4
  z4 := Tryz.sizeOf4
  v4 := Tryz.zeroValue4
  t23 := Tryz.underlying90
  a23 := Tryz.isAgg90
  z23 := Tryz.sizeOf90
  v23 := Tryz.zeroValue90
  t33 := Tryz.underlying108
  a33 := Tryz.isAgg108
  z33 := Tryz.sizeOf108
  v33 := Tryz.zeroValue108
  t27 := Tryz.underlying3
def strV (l : List (Int × ByteArray)) : List (Int × Value) := l.map fun p => (p.1, .string p.2)
theorem owns_of_mapIS {P : Program} {K V : Nat} (hk : P.underlying K = some (.int .i64)) (hv : P.underlying V = some .string) {w : World} {q : Nat} {l : List (Int × ByteArray)} (h : MapAt w q (strV l)) (hs : ∀ p ∈ l, (Lit.int .i64 p.1).wf = true ∧ p.2.size ≤ maxLen) (hlen : l.length ≤ maxLen) :
    ∃ D0 : DataW Unit, w.ownsMap P K (plainElem P V) q l.length D0 ∧ (intKeys D0).Perm (l.map fun p => p.1) ∧ Maps.size D0 = l.length ∧ ∀ p ∈ l, ValI D0 (p.1, bl p.2) := by
  obtain ⟨es, clock, hb, hst, hl⟩ := h
  have hz : es.size = l.length := by have := map_len (w := w) (q := q) hl; simpa [strV] using this
  have hl' : es.toList.map (fun e => (e.key, e.val)) = l.map fun p => (Value.int .i64 p.1, Value.string p.2) := by rw [hl, strV, List.map_map]; rfl
  have hrd : ∀ x ∈ es.toList, ∃ p ∈ l, x.key = .int .i64 p.1 ∧ x.val = .string p.2 ∧ WideElems.rd P K (plainElem (H := Unit) P V) x = some (.int .i64 p.1, .lit (.string (bl p.2))) := by
    intro x hx
    have h1 : (x.key, x.val) ∈ l.map fun p => (Value.int .i64 p.1, Value.string p.2) := by rw [← hl']; exact List.mem_map.2 ⟨x, hx, rfl⟩
    obtain ⟨p, hp, he⟩ := List.mem_map.1 h1
    have e1 : x.key = .int .i64 p.1 := (congrArg Prod.fst he).symm
    have e2 : x.val = .string p.2 := (congrArg Prod.snd he).symm
    have h3 : keyOf P K x.key = some (.int .i64 p.1) := by rw [e1]; simp [keyOf, hk, mapKey, (hs p hp).1]
    have h4 : plainElem (H := Unit) P V x.val = some (.lit (.string (bl p.2)), []) := by rw [e2]; simp [plainElem, hv, (hs p hp).2, bl]
    exact ⟨p, hp, e1, e2, by simp [WideElems.rd, h3, h4]⟩
  have hown : w.ownsMap P K (plainElem (H := Unit) P V) q l.length (.map ((es.toList.map (WideElems.rg P K (plainElem P V))).foldr DataW.insert [])) :=
    ⟨es, clock, hb, ⟨by omega, hst, fun x hx => by obtain ⟨p, _, _, _, h2⟩ := hrd x hx; exact ⟨_, h2⟩⟩, by omega, rfl⟩
  have hperm := WideShapes.sorted_perm (es.toList.map (WideElems.rg P K (plainElem (H := Unit) P V)))
  refine ⟨_, hown, ?_, ?_, fun p hp zd => ?_⟩
  · have h1 := hperm.map fun p => Go.intOf p.1
    refine h1.trans ?_
    have h2 : (es.toList.map (WideElems.rg P K (plainElem (H := Unit) P V))).map (fun p => Go.intOf p.1) = es.toList.map fun x => match x.key with | .int _ s => s | _ => 0 := by
      rw [List.map_map]
      refine List.map_congr_left fun x hx => ?_
      obtain ⟨p, _, h3, _, h4⟩ := hrd x hx
      simp [WideElems.rg, h4, h3, Go.intOf]
    have h5 : (es.toList.map fun x => match x.key with | .int _ s => s | _ => 0) = l.map fun p => p.1 := by
      have h6 := congrArg (List.map fun (p : Value × Value) => match p.1 with | .int _ s => s | _ => 0) hl'
      rw [List.map_map, List.map_map] at h6
      exact h6
    rw [h2, h5]
  · show ((es.toList.map (WideElems.rg P K (plainElem (H := Unit) P V))).foldr DataW.insert []).length = l.length
    rw [length_sorted]
    simp [hz]
  · have h1 : (Value.int .i64 p.1, Value.string p.2) ∈ es.toList.map (fun e => (e.key, e.val)) := by rw [hl']; exact List.mem_map.2 ⟨p, hp, rfl⟩
    obtain ⟨x, hx, he⟩ := List.mem_map.1 h1
    obtain ⟨p', _, e1, e2, h4⟩ := hrd x hx
    have e3 : p'.1 = p.1 := by have := congrArg Prod.fst he; rw [e1] at this; injection this
    have e4 : p'.2 = p.2 := by have := congrArg Prod.snd he; rw [e2] at this; injection this
    rw [e3, e4] at h4
    have hm : (Lit.int .i64 p.1, (DataW.lit (.string (bl p.2)) : DataW Unit)) ∈ (es.toList.map (WideElems.rg P K (plainElem (H := Unit) P V))).foldr DataW.insert [] :=
      hperm.symm.subset (List.mem_map.2 ⟨x, hx, by simp [WideElems.rg, h4]⟩)
    obtain ⟨es', hD', hpw, _⟩ := hown.entries (int_keyed hk)
    injection hD' with hD'
    rw [← hD'] at hpw
    exact WideAt.atKey_mem zd trivial hpw hm
def litS {H : Type} : DataW H → List UInt8
  | .lit (.string s) => s
  | _ => []
theorem vals_perm {H : Type} {D0 : DataW H} {ps : List (Int × List UInt8)} {l : List (Int × ByteArray)} (h : AllI D0 ps) (h2 : (intKeys D0).Perm (l.map fun p => p.1)) (h3 : ∀ p ∈ l, ValI D0 (p.1, bl p.2)) : (ps.map (·.2)).Perm (l.map fun p => bl p.2) := by
  have e1 : ps.map (·.2) = (ps.map (·.1)).map fun k => litS (D0.atKey (.int .i64 k) .nil) := by
    rw [List.map_map]
    exact List.map_congr_left fun p hp => by simp only [Function.comp_apply, h.2 p hp .nil, litS]
  have e2 : (l.map fun p => bl p.2) = (l.map fun p => p.1).map fun k => litS (D0.atKey (.int .i64 k) .nil) := by
    rw [List.map_map]
    exact List.map_congr_left fun p hp => by simp only [Function.comp_apply, h3 p hp .nil, litS]
  rw [e1, e2]
  exact (h.1.trans h2).map _
theorem sortedVS {w : World} {Bm q nn : Nat} {D0 : DataW Unit} (hB : Bm < w.heap.size) (hc : w.cell? ⟨Bm, 0, none⟩ = some (.map (some q))) (hown : w.ownsMap Tryz.prog 3 (plainElem Tryz.prog 9) q nn D0) (h1 : Maps.size D0 ≤ maxLen) (h2 : Maps.size D0 * 16 ≤ 140737488355328) :
    Calls Tryz.prog 39 #[.func (.func 62) #[] #[.pointer (some ⟨Bm, 0, none⟩)]] w fun e w' => ∃ (v : Value) (ss : List (List UInt8)), e = .returned v ∧ (∃ ps, AllI D0 ps ∧ ss = ps.map (·.2)) ∧
      w'.ownsRow w.heap.size 9 1 v ss.length ((ss.mergeSort (fun x y => decide (x ≤ y))).map encStr) ∧ (v = .slice none 0 0 ↔ ss = []) ∧ Below w.heap.size w w' :=
  (callsIn_wide (n := 5)).1 (AnyZ.sorted_in Tryz.sortedS Fence.wide 5 trivial trivial trivial trivial rfl (by omega) (sortsS _) (enters_of Tryz.func51 (by kernel_rfl) rfl) _ _ trivial (enters_of Tryz.func62 (by kernel_rfl) rfl) _ _ h1 h2 _
    (valsI_gives (ρ := valsRen) valsL Fence.wide _ trivial rfl (by omega) Bm q nn D0 w hB hc hown))
theorem sortedVS_ct {M : Nat} (b q : Nat) (l : List (Int × ByteArray)) (hs : ∀ p ∈ l, (Lit.int .i64 p.1).wf = true ∧ p.2.size ≤ maxLen) (hl : l.length ≤ 1000000) :
    Ct Tryz.prog 39 #[.func (.func 62) #[] #[.pointer (some ⟨b, 0, none⟩)]] [cel b M [.map (some q)], mapr q (strV l)] (fun _ => True)
      fun u R _ => ∃ A c, u = .slice A l.length c ∧ R = [orow 9 1 u l.length ((sortB (l.map (·.2))).map encB), cel b M [.map (some q)], mapr q (strV l)] := Ct.mk fun w av G => by
  have hb : w.heap[b]? = some (.cells #[.map (some q)] M (0, 0)) := (G.here (cel b M [.map (some q)]) List.mem_cons_self).now
  have hm : MapAt w q (strV l) := (G.here (mapr q (strV l)) (List.mem_cons_of_mem _ List.mem_cons_self)).now
  obtain ⟨D0, hown, hperm, hsz, hval⟩ := owns_of_mapIS Tryz.underlying3 Tryz.underlying9 hm hs (by simp only [maxLen]; omega)
  have hbl : b < w.heap.size := (Array.getElem?_eq_some_iff.1 hb).1
  have hc : w.cell? ⟨b, 0, none⟩ = some (.map (some q)) := by simp [World.cell?, hb]
  refine (sortedVS hbl hc hown (by rw [hsz]; simp only [maxLen]; omega) (by rw [hsz]; omega)).mono fun e w' ⟨v, ss, he, hS, hrow, hnil, hB⟩ => ?_
  obtain ⟨ps, hps, rfl⟩ := hS
  have hp := vals_perm hps hperm hval
  have hlen : (ps.map (·.2)).length = l.length := by rw [hp.length_eq]; simp
  have hsort : ((ps.map (·.2)).mergeSort fun x y => decide (x ≤ y)).map encStr = (sortB (l.map (·.2))).map encB := by
    have := mergeSort_of_perm hp
    rw [show ((ps.map (·.2)).mergeSort fun x y => decide (x ≤ y)) = (ps.map (·.2)).mergeSort leB from rfl, this, map_encStr, sortB]
    simp only [List.map_map]
    rfl
  rw [hsort, hlen] at hrow
  obtain ⟨f1, f2, A, c, rfl⟩ := owns_fp hrow
  exact ⟨_, _, fun _ => True, he, ⟨A, c, rfl, rfl⟩, (G.more hB (orow_holds (orow_of_owns hrow)) f1 f2).imp fun _ _ => trivial⟩
end Go.Proofs.YtfpojkoddcdojaaGreatDoor

/- label.Valid: the data and the contract. -/
set_option linter.unusedVariables false
set_option linter.unusedSimpArgs false
namespace Go.Proofs.YtfpojkoddcdojaaGreatDoor
open Go Go.Proofs Sy Go.Sort
instance : TyMap Tryz.prog 90 9 (keyD Int) := ⟨by kernel_rfl⟩
def labB (t : ByteArray) (a : ActD) : Bool := seqB a.object t || seqB a.target t
def labF (l : List ActD) (t : ByteArray) : Nat → List Nat
  | 0 => []
  | i + 1 => bif decide ((l.getD i ActD.zero).kind = 17) then (bif labB t (l.getD i ActD.zero) then labF l t i ++ [i] else labF l t i) else bif decide ((l.getD i ActD.zero).kind = 6) then (match idxV l (l.getD i ActD.zero).object with | some j => (labF l t i).erase j | none => labF l t i) else labF l t i
theorem labF_lt (l : List ActD) (t : ByteArray) : ∀ i, ∀ j ∈ labF l t i, j < i
  | 0, j, h => by cases h
  | i + 1, j, h => by
    have ih := labF_lt l t i
    simp only [labF] at h
    cases h1 : decide ((l.getD i ActD.zero).kind = 17) with
    | true =>
      rw [h1, cond_true] at h
      cases h3 : labB t (l.getD i ActD.zero) with
      | true =>
        rw [h3, cond_true] at h
        rcases List.mem_append.1 h with h | h
        · have := ih j h; omega
        · rw [List.mem_singleton.1 h]; omega
      | false =>
        rw [h3, cond_false] at h
        have := ih j h; omega
    | false =>
      rw [h1] at h
      simp only [cond_false] at h
      cases h2 : decide ((l.getD i ActD.zero).kind = 6) with
      | true =>
        rw [h2] at h
        simp only [cond_true] at h
        split at h
        · have := ih j (List.mem_of_mem_erase h); omega
        · have := ih j h; omega
      | false => rw [h2] at h; have := ih j h; omega
theorem labF_len (l : List ActD) (t : ByteArray) : ∀ i, (labF l t i).length ≤ i
  | 0 => Nat.le_refl _
  | i + 1 => by
    have ih := labF_len l t i
    simp only [labF]
    cases decide ((l.getD i ActD.zero).kind = 17) with
    | true =>
      cases labB t (l.getD i ActD.zero) with
      | true => simp only [cond_true, List.length_append, List.length_singleton]; omega
      | false => simp only [cond_true, cond_false]; omega
    | false =>
      simp only [cond_false]
      cases decide ((l.getD i ActD.zero).kind = 6) with
      | true =>
        simp only [cond_true]
        split
        · have := List.length_erase_le (a := ‹Nat›) (l := labF l t i); omega
        · omega
      | false => simp only [cond_false]; omega
def textA (l : List ActD) (j : Nat) : ByteArray := (l.getD j ActD.zero).text
def labV (l : List ActD) (t : ByteArray) : List ByteArray := compB (sortB ((labF l t l.length).map (textA l)))
def validV (l : List ChainD) (k t : ByteArray) : List ByteArray := bif seqB t ⟨#[]⟩ then [] else match findC l k with
  | some c => labV c.actsL t
  | none => []
theorem idx_strV (g : Nat → ByteArray) (F : List Nat) : idxP' (fun j => .string (g j)) F = strV (F.map fun (j : Nat) => ((j : Int), g j)) := by simp [idxP', strV, List.map_map, Function.comp_def]
theorem valuesI_ct (mb : Option Nat) : Ct Tryz.prog 45 #[.map mb] [] (fun _ => True) fun u R _ => ∃ b, u = .func (.func 62) #[] #[.pointer (some ⟨b, 0, none⟩)] ∧ R = [cel b 90 [.map mb]] := by
  refine ct_of_cwS (args := [_]) (Post := fun u R => ∃ b, u = .func (.func 62) #[] #[.pointer (some ⟨b, 0, none⟩)] ∧ R = [cel b 90 [.map mb]]) _ Tryz.func45 rfl Tryz.ntmps45 rfl fun av bor w0 => ?_
  repeat' (first | apply sw_nil | apply cw_seq | apply cw_reg | refine sy_move (h := ?_) | refine sy_assign (h := ?_) | refine sy_nilCheck (h := ?_) | refine sy_fld (h := ?_) | refine sy_ld (h := ?_) | refine sy_ldAll (h := ?_) | refine sy_pick_t (h := ?_) | refine sy_pick_f (h := ?_) | refine sy_not (h := ?_) | refine sy_eql (h := ?_) | refine sy_neq (h := ?_) | refine sy_lss (h := ?_) | refine sy_leq (h := ?_) | refine sy_gtr (h := ?_) | refine sy_geq (h := ?_) | refine sy_seql (h := ?_) | refine sy_sneq (h := ?_) | refine sy_slen (h := ?_) | refine sy_len (h := ?_) | refine sy_extract (h := ?_) | refine sy_add (h := ?_) | refine sy_sub (h := ?_) | refine sw_skipT (h := ?_) | refine sw_skipF (h := ?_) | refine sw_skipU (h := ?_) | refine sw_alloc (h := fun _ => ?_) | refine sw_box (h := fun _ => ?_) | refine sw_rangeS (h := fun _ => ?_) | refine sw_nextS (h1 := fun _ => ?_) (h2 := fun _ => ?_) | refine sw_bsl (h := fun _ => ?_) | refine sw_st1 (h := ?_) | refine sw_stAll (h := ?_) | refine cw_cond_t (ht := ?_) | refine cw_cond_f (hf := ?_) | apply cw_skip | apply cw_block | apply cw_ret | apply cw_exit | refine sy_and (h := ?_) | refine sy_or (h := ?_) | refine sy_xor (h := ?_) | refine sy_andNot (h := ?_) | refine sy_xorU (h := ?_) | refine sy_shl (h := ?_) | refine sy_shr (h := ?_) | refine sy_mul (h := ?_) | refine sy_int (h := ?_) | refine sy_beql (h := ?_) | refine sy_bneq (h := ?_) | refine sy_min (h := ?_) | refine sy_max (h := ?_) | refine sy_arrA (h := ?_) | refine sy_strI (h := ?_) | (refine sy_makeFunc (h := ?_)))
  exact ends_ret (res_tmp rfl rfl) ⟨_, List.Sublist.refl _, _, rfl, rfl⟩
set_option maxHeartbeats 4000000 in
theorem valid_ct (s : SlV) (l : List ChainD) (k t : ByteArray) (hok : ∀ c ∈ l, ActsOk c.actsL) (hlen : ∀ c ∈ l, c.actsL.length ≤ 1000000) (htx : ∀ c ∈ l, ∀ a ∈ c.actsL, a.text.size ≤ 1000000) :
    Ct Tryz.prog 22 #[s.v, .string k, .string t] [] (fun w => Chains w s l ∧ Glob w) (fun u R _ => OwnStrs (validV l k t) u R) := by
  refine ct_of_cwS (args := [_, _, _]) (Post := OwnStrs (validV l k t)) _ Tryz.func22 rfl Tryz.ntmps22 rfl fun av bor w0 => ?_
  have hfi := find_pu s l k
  refine cw_nilRow 9 1 ?_
  cases ht : seqB t ⟨#[]⟩ with
  | true =>
    have e : validV l k t = [] := by rw [validV, ht]; rfl
    rw [e]
    repeat' (first | apply sw_nil | apply cw_seq | apply cw_reg | refine sy_move (h := ?_) | refine sy_assign (h := ?_) | refine sy_nilCheck (h := ?_) | refine sy_fld (h := ?_) | refine sy_ld (h := ?_) | refine sy_ldAll (h := ?_) | refine sy_pick_t (h := ?_) | refine sy_pick_f (h := ?_) | refine sy_not (h := ?_) | refine sy_eql (h := ?_) | refine sy_neq (h := ?_) | refine sy_lss (h := ?_) | refine sy_leq (h := ?_) | refine sy_gtr (h := ?_) | refine sy_geq (h := ?_) | refine sy_seql (h := ?_) | refine sy_sneq (h := ?_) | refine sy_slen (h := ?_) | refine sy_len (h := ?_) | refine sy_extract (h := ?_) | refine sy_add (h := ?_) | refine sy_sub (h := ?_) | refine sw_skipT (h := ?_) | refine sw_skipF (h := ?_) | refine sw_skipU (h := ?_) | refine sw_alloc (h := fun _ => ?_) | refine sw_box (h := fun _ => ?_) | refine sw_rangeS (h := fun _ => ?_) | refine sw_nextS (h1 := fun _ => ?_) (h2 := fun _ => ?_) | refine sw_bsl (h := fun _ => ?_) | refine sw_st1 (h := ?_) | refine sw_stAll (h := ?_) | refine cw_cond_t (ht := ?_) | refine cw_cond_f (hf := ?_) | apply cw_skip | apply cw_block | apply cw_ret | apply cw_exit | refine sy_and (h := ?_) | refine sy_or (h := ?_) | refine sy_xor (h := ?_) | refine sy_andNot (h := ?_) | refine sy_xorU (h := ?_) | refine sy_shl (h := ?_) | refine sy_shr (h := ?_) | refine sy_mul (h := ?_) | refine sy_int (h := ?_) | refine sy_beql (h := ?_) | refine sy_bneq (h := ?_) | refine sy_min (h := ?_) | refine sy_max (h := ?_) | refine sy_arrA (h := ?_) | refine sy_strI (h := ?_))
    exact ends_ret (res_tmp rfl rfl) ⟨_, List.Sublist.refl _, none, 0, rfl, rfl⟩
  | false =>
  cases hf : findC l k with
  | none =>
    rw [hf] at hfi
    have hfi : Pu Tryz.prog 17 #[s.v, .string k] (fun w => Chains w s l) (.tuple #[ChainD.zero.v, .bool false]) := hfi
    have e : validV l k t = [] := by rw [validV, ht, hf]; rfl
    rw [e]
    repeat' (first | apply sw_nil | apply cw_seq | apply cw_reg | refine sy_move (h := ?_) | refine sy_assign (h := ?_) | refine sy_nilCheck (h := ?_) | refine sy_fld (h := ?_) | refine sy_ld (h := ?_) | refine sy_ldAll (h := ?_) | refine sy_pick_t (h := ?_) | refine sy_pick_f (h := ?_) | refine sy_not (h := ?_) | refine sy_eql (h := ?_) | refine sy_neq (h := ?_) | refine sy_lss (h := ?_) | refine sy_leq (h := ?_) | refine sy_gtr (h := ?_) | refine sy_geq (h := ?_) | refine sy_seql (h := ?_) | refine sy_sneq (h := ?_) | refine sy_slen (h := ?_) | refine sy_len (h := ?_) | refine sy_extract (h := ?_) | refine sy_add (h := ?_) | refine sy_sub (h := ?_) | refine sw_skipT (h := ?_) | refine sw_skipF (h := ?_) | refine sw_skipU (h := ?_) | refine sw_alloc (h := fun _ => ?_) | refine sw_box (h := fun _ => ?_) | refine sw_rangeS (h := fun _ => ?_) | refine sw_nextS (h1 := fun _ => ?_) (h2 := fun _ => ?_) | refine sw_bsl (h := fun _ => ?_) | refine sw_st1 (h := ?_) | refine sw_stAll (h := ?_) | refine cw_cond_t (ht := ?_) | refine cw_cond_f (hf := ?_) | apply cw_skip | apply cw_block | apply cw_ret | apply cw_exit | refine sy_and (h := ?_) | refine sy_or (h := ?_) | refine sy_xor (h := ?_) | refine sy_andNot (h := ?_) | refine sy_xorU (h := ?_) | refine sy_shl (h := ?_) | refine sy_shr (h := ?_) | refine sy_mul (h := ?_) | refine sy_int (h := ?_) | refine sy_beql (h := ?_) | refine sy_bneq (h := ?_) | refine sy_min (h := ?_) | refine sy_max (h := ?_) | refine sy_arrA (h := ?_) | refine sy_strI (h := ?_) | (refine sw_pu (hc := hfi) (hX := fun w h => h.1) (h := ?_)) | ((fail_if_success (refine sw_chk (h := ?_))); refine sw_guard (ht := ?_) (hf := ?_); all_goals (intro hx_; first | have := of_decide_eq_true hx_ | have := of_decide_eq_false hx_ | skip)) | (refine cw_cond (ht := ?_) (hf := ?_); all_goals (intro hx_; first | have := of_decide_eq_true hx_ | have := of_decide_eq_false hx_ | skip)))
    exact ends_ret (res_tmp rfl rfl) ⟨_, List.Sublist.cons _ (List.Sublist.refl _), none, 0, rfl, rfl⟩
  | some c =>
    rw [hf] at hfi
    have hfi : Pu Tryz.prog 17 #[s.v, .string k] (fun w => Chains w s l) (.tuple #[c.v, .bool true]) := hfi
    have hcm := findC_mem hf
    have hc := hok c hcm
    have hcl := hlen c hcm
    have hct := htx c hcm
    have e : validV l k t = compB (sortB ((labF c.actsL t c.actsL.length).map (textA c.actsL))) := by rw [validV, ht, hf]; rfl
    rw [e]
    have hF := labF_lt c.actsL t
    have hFl := labF_len c.actsL t
    have hS : ∀ i, labF c.actsL t (i + 1) = _ := fun i => labF.eq_2 c.actsL t i
    have hE : ∀ j x, c.actsL[j]? = some x → textA c.actsL j = x.text := fun j x hx => by simp only [textA, List.getD_eq_getElem?_getD, hx, Option.getD_some]
    have hT : ∀ j, (textA c.actsL j).size ≤ 1000000 := fun j => by
      cases hj : c.actsL[j]? with
      | none => simp only [textA, List.getD_eq_getElem?_getD, hj, Option.getD_none]; decide
      | some x => rw [hE j x hj]; exact hct x (List.mem_of_getElem? hj)
    generalize hFg : labF c.actsL t = F at *
    generalize hTg : textA c.actsL = T at *
    refine cw_know (p := c.acts.n = c.actsL.length ∧ c.acts.n ≤ maxLen ∧ (0 < c.actsL.length → c.acts.p.isSome = true) ∧ c.acts.n ≤ c.acts.c) (fun w h => XC.know (c := c) w ⟨h.1.2 c hcm, h.2⟩) fun ⟨hl, hm, hp, hcap⟩ => ?_
    simp only [maxLen] at hm
    repeat' (first | apply sw_nil | apply cw_seq | apply cw_reg | refine sy_move (h := ?_) | refine sy_assign (h := ?_) | refine sy_nilCheck (h := ?_) | refine sy_fld (h := ?_) | refine sy_ld (h := ?_) | refine sy_ldAll (h := ?_) | refine sy_pick_t (h := ?_) | refine sy_pick_f (h := ?_) | refine sy_not (h := ?_) | refine sy_eql (h := ?_) | refine sy_neq (h := ?_) | refine sy_lss (h := ?_) | refine sy_leq (h := ?_) | refine sy_gtr (h := ?_) | refine sy_geq (h := ?_) | refine sy_seql (h := ?_) | refine sy_sneq (h := ?_) | refine sy_slen (h := ?_) | refine sy_len (h := ?_) | refine sy_extract (h := ?_) | refine sy_add (h := ?_) | refine sy_sub (h := ?_) | refine sw_skipT (h := ?_) | refine sw_skipF (h := ?_) | refine sw_skipU (h := ?_) | refine sw_alloc (h := fun _ => ?_) | refine sw_box (h := fun _ => ?_) | refine sw_rangeS (h := fun _ => ?_) | refine sw_nextS (h1 := fun _ => ?_) (h2 := fun _ => ?_) | refine sw_bsl (h := fun _ => ?_) | refine sw_st1 (h := ?_) | refine sw_stAll (h := ?_) | refine cw_cond_t (ht := ?_) | refine cw_cond_f (hf := ?_) | apply cw_skip | apply cw_block | apply cw_ret | apply cw_exit | refine sy_and (h := ?_) | refine sy_or (h := ?_) | refine sy_xor (h := ?_) | refine sy_andNot (h := ?_) | refine sy_xorU (h := ?_) | refine sy_shl (h := ?_) | refine sy_shr (h := ?_) | refine sy_mul (h := ?_) | refine sy_int (h := ?_) | refine sy_beql (h := ?_) | refine sy_bneq (h := ?_) | refine sy_min (h := ?_) | refine sy_max (h := ?_) | refine sy_arrA (h := ?_) | refine sy_strI (h := ?_) | (refine sw_pu (hc := hfi) (hX := fun w h => h.1) (h := ?_)) | (refine sw_makeMap Int (h := fun q => ?_)) | ((fail_if_success (refine sw_chk (h := ?_))); refine sw_guard (ht := ?_) (hf := ?_); all_goals (intro hx_; first | have := of_decide_eq_true hx_ | have := of_decide_eq_false hx_ | skip)) | (refine cw_cond (ht := ?_) (hf := ?_); all_goals (intro hx_; first | have := of_decide_eq_true hx_ | have := of_decide_eq_false hx_ | skip)))
    rename_i b7
    refine cw_loop (ι := Kth c.actsL.length) (fun i => ⟨[(2, .string t), (7, .pointer (some ⟨b7, 0, none⟩)), (9, .map (some q)), (26, c.acts.v), (27, .int .i64 c.acts.n), (28, .int .i64 i.k)],
      [mapr q (idxP' (fun j => .string (T j)) (F i.k)), cel b7 40 c.cells], fun w => Chains w s l ∧ Glob w⟩) (fun i => c.actsL.length - i.k) ⟨0, Nat.zero_le _⟩ (ok_sub ⟨rfl, rfl, rfl, rfl, rfl, rfl, trivial⟩ (by rw [← hFg]; exact List.Sublist.cons_cons _ (List.Sublist.cons_cons _ (List.nil_sublist _))) fun _ h => h) fun i => ?_
    have hik := i.hk
    repeat' (first | apply sw_nil | apply cw_seq | apply cw_reg | refine sy_move (h := ?_) | refine sy_assign (h := ?_) | refine sy_nilCheck (h := ?_) | refine sy_fld (h := ?_) | refine sy_ld (h := ?_) | refine sy_ldAll (h := ?_) | refine sy_pick_t (h := ?_) | refine sy_pick_f (h := ?_) | refine sy_not (h := ?_) | refine sy_eql (h := ?_) | refine sy_neq (h := ?_) | refine sy_lss (h := ?_) | refine sy_leq (h := ?_) | refine sy_gtr (h := ?_) | refine sy_geq (h := ?_) | refine sy_seql (h := ?_) | refine sy_sneq (h := ?_) | refine sy_slen (h := ?_) | refine sy_len (h := ?_) | refine sy_extract (h := ?_) | refine sy_add (h := ?_) | refine sy_sub (h := ?_) | refine sw_skipT (h := ?_) | refine sw_skipF (h := ?_) | refine sw_skipU (h := ?_) | refine sw_alloc (h := fun _ => ?_) | refine sw_box (h := fun _ => ?_) | refine sw_rangeS (h := fun _ => ?_) | refine sw_nextS (h1 := fun _ => ?_) (h2 := fun _ => ?_) | refine sw_bsl (h := fun _ => ?_) | refine sw_st1 (h := ?_) | refine sw_stAll (h := ?_) | refine cw_cond_t (ht := ?_) | refine cw_cond_f (hf := ?_) | apply cw_skip | apply cw_block | apply cw_ret | apply cw_exit | refine sy_and (h := ?_) | refine sy_or (h := ?_) | refine sy_xor (h := ?_) | refine sy_andNot (h := ?_) | refine sy_xorU (h := ?_) | refine sy_shl (h := ?_) | refine sy_shr (h := ?_) | refine sy_mul (h := ?_) | refine sy_int (h := ?_) | refine sy_beql (h := ?_) | refine sy_bneq (h := ?_) | refine sy_min (h := ?_) | refine sy_max (h := ?_) | refine sy_arrA (h := ?_) | refine sy_strI (h := ?_) | ((fail_if_success (refine sw_chk (h := ?_))); refine sw_guard (ht := ?_) (hf := ?_); all_goals (intro hx_; first | have := of_decide_eq_true hx_ | have := of_decide_eq_false hx_ | skip)) | (refine cw_cond (ht := ?_) (hf := ?_); all_goals (intro hx_; first | have := of_decide_eq_true hx_ | have := of_decide_eq_false hx_ | skip)))
    · have hlt : i.k < c.actsL.length := by omega
      have hp' := hp (by omega)
      obtain ⟨x, hx⟩ : ∃ x, c.actsL[i.k]? = some x := ⟨_, List.getElem?_eq_getElem hlt⟩
      have hidx := index_pu c hc x.object
      have hEx := hE i.k x hx
      have hSx := hS i.k
      rw [show c.actsL.getD i.k ActD.zero = x from by rw [List.getD_eq_getElem?_getD, hx]; rfl] at hSx
      simp only [labB] at hSx
      have hnew : i.k ∉ F i.k := fun h => absurd (hF i.k i.k h) (Nat.lt_irrefl _)
      have hFlen := hFl i.k
      have hml : (idxP' (fun j => Value.string (T j)) (F i.k)).length = (F i.k).length := by simp [idxP']
      have hm1 : mput (idxP' (fun j => Value.string (T j)) (F i.k)) (i.k : Int) (Value.string x.text) = idxP' (fun j => Value.string (T j)) (F i.k ++ [i.k]) := by
        have h := mput_new (fun j => Value.string (T j)) i.k (F i.k) hnew
        simp only [hEx] at h
        exact h
      cases ho : idxV c.actsL x.object with
      | none =>
        rw [ho] at hidx hSx
        have hidx : Pu Tryz.prog 43 #[c.v, .string x.object] (fun w => c.at_ w ∧ Glob w) (.tuple #[.int .i64 0, .bool false]) := hidx
        repeat' (first | apply sw_nil | apply cw_seq | apply cw_reg | refine sy_move (h := ?_) | refine sy_assign (h := ?_) | refine sy_nilCheck (h := ?_) | refine sy_fld (h := ?_) | refine sy_ld (h := ?_) | refine sy_ldAll (h := ?_) | refine sy_pick_t (h := ?_) | refine sy_pick_f (h := ?_) | refine sy_not (h := ?_) | refine sy_eql (h := ?_) | refine sy_neq (h := ?_) | refine sy_lss (h := ?_) | refine sy_leq (h := ?_) | refine sy_gtr (h := ?_) | refine sy_geq (h := ?_) | refine sy_seql (h := ?_) | refine sy_sneq (h := ?_) | refine sy_slen (h := ?_) | refine sy_len (h := ?_) | refine sy_extract (h := ?_) | refine sy_add (h := ?_) | refine sy_sub (h := ?_) | refine sw_skipT (h := ?_) | refine sw_skipF (h := ?_) | refine sw_skipU (h := ?_) | refine sw_alloc (h := fun _ => ?_) | refine sw_box (h := fun _ => ?_) | refine sw_rangeS (h := fun _ => ?_) | refine sw_nextS (h1 := fun _ => ?_) (h2 := fun _ => ?_) | refine sw_bsl (h := fun _ => ?_) | refine sw_st1 (h := ?_) | refine sw_stAll (h := ?_) | refine cw_cond_t (ht := ?_) | refine cw_cond_f (hf := ?_) | apply cw_skip | apply cw_block | apply cw_ret | apply cw_exit | refine sy_and (h := ?_) | refine sy_or (h := ?_) | refine sy_xor (h := ?_) | refine sy_andNot (h := ?_) | refine sy_xorU (h := ?_) | refine sy_shl (h := ?_) | refine sy_shr (h := ?_) | refine sy_mul (h := ?_) | refine sy_int (h := ?_) | refine sy_beql (h := ?_) | refine sy_bneq (h := ?_) | refine sy_min (h := ?_) | refine sy_max (h := ?_) | refine sy_arrA (h := ?_) | refine sy_strI (h := ?_) | (refine sy_idxX (q := i.k * 20) (h := ?_)) | (refine sy_ldXs (cs := x.cells) (hF := fun w h => Acts.get (h.1.2 c hcm) hx) (h := ?_)) | (refine sw_update (κ := Int) (kk := (i.k : Int)) (hA := by (repeat (first | exact At.here _ | apply At.there))) (h := ?_)) | (refine sy_mlen (κ := Int) (hl := by (repeat (first | exact List.mem_cons_self | apply List.mem_cons_of_mem))) (h := ?_)) | (refine sw_pu (hc := hidx) (hX := fun w h => ⟨h.1.2 c hcm, h.2⟩) (h := ?_)) | (refine sw_delete (κ := Int) (kk := (j : Nat)) (hA := by (repeat (first | exact At.here _ | apply At.there))) (h := ?_)) | ((fail_if_success (refine sw_chk (h := ?_))); refine sw_guard (ht := ?_) (hf := ?_); all_goals (intro hx_; first | have := of_decide_eq_true hx_ | have := of_decide_eq_false hx_ | skip)) | (refine cw_cond (ht := ?_) (hf := ?_); all_goals (intro hx_; first | have := of_decide_eq_true hx_ | have := of_decide_eq_false hx_ | skip)))
        all_goals first
          | (have hSx' : F (i.k + 1) = F i.k ++ [i.k] := by rw [hSx, decide_eq_true (by assumption), cond_true, show (seqB x.object t || seqB x.target t) = true from by rw [‹seqB x.object t = true›]; rfl, cond_true]
             refine ⟨(⟨i.k + 1, hlt⟩ : Kth c.actsL.length), (by show c.actsL.length - (i.k + 1) < c.actsL.length - i.k; omega), ok_sub ⟨rfl, rfl, rfl, rfl, rfl, rfl, trivial⟩ ?_ fun _ h => h⟩
             show List.Sublist [mapr q (idxP' (fun j => Value.string (T j)) (F (i.k + 1))), _] _
             rw [hSx', ← hm1]
             exact List.Sublist.cons _ (List.Sublist.refl _))
          | (have hSx' : F (i.k + 1) = F i.k ++ [i.k] := by rw [hSx, decide_eq_true (by assumption), cond_true, show (seqB x.object t || seqB x.target t) = true from by rw [‹seqB x.object t = false›, ‹seqB x.target t = true›]; rfl, cond_true]
             refine ⟨(⟨i.k + 1, hlt⟩ : Kth c.actsL.length), (by show c.actsL.length - (i.k + 1) < c.actsL.length - i.k; omega), ok_sub ⟨rfl, rfl, rfl, rfl, rfl, rfl, trivial⟩ ?_ fun _ h => h⟩
             show List.Sublist [mapr q (idxP' (fun j => Value.string (T j)) (F (i.k + 1))), _] _
             rw [hSx', ← hm1]
             exact List.Sublist.cons _ (List.Sublist.refl _))
          | (have hSx' : F (i.k + 1) = F i.k := by rw [hSx, decide_eq_true (by assumption), cond_true, show (seqB x.object t || seqB x.target t) = false from by rw [‹seqB x.object t = false›, ‹seqB x.target t = false›]; rfl, cond_false]
             refine ⟨(⟨i.k + 1, hlt⟩ : Kth c.actsL.length), (by show c.actsL.length - (i.k + 1) < c.actsL.length - i.k; omega), ok_sub ⟨rfl, rfl, rfl, rfl, rfl, rfl, trivial⟩ ?_ fun _ h => h⟩
             show List.Sublist [mapr q (idxP' (fun j => Value.string (T j)) (F (i.k + 1))), _] _
             rw [hSx']
             exact List.Sublist.cons _ (List.Sublist.refl _))
          | (have hSx' : F (i.k + 1) = F i.k := by 
               have h0 : F i.k = [] := List.eq_nil_of_length_eq_zero (by omega)
               rw [hSx, decide_eq_false (by assumption), cond_false, decide_eq_true (by assumption), cond_true, h0]
               try rfl
             refine ⟨(⟨i.k + 1, hlt⟩ : Kth c.actsL.length), (by show c.actsL.length - (i.k + 1) < c.actsL.length - i.k; omega), ok_sub ⟨rfl, rfl, rfl, rfl, rfl, rfl, trivial⟩ ?_ fun _ h => h⟩
             show List.Sublist [mapr q (idxP' (fun j => Value.string (T j)) (F (i.k + 1))), _] _
             rw [hSx']
             exact List.Sublist.cons _ (List.Sublist.refl _))
          | (have hSx' : F (i.k + 1) = F i.k := by rw [hSx, decide_eq_false (by assumption), cond_false, decide_eq_false (by assumption), cond_false]
             refine ⟨(⟨i.k + 1, hlt⟩ : Kth c.actsL.length), (by show c.actsL.length - (i.k + 1) < c.actsL.length - i.k; omega), ok_sub ⟨rfl, rfl, rfl, rfl, rfl, rfl, trivial⟩ ?_ fun _ h => h⟩
             show List.Sublist [mapr q (idxP' (fun j => Value.string (T j)) (F (i.k + 1))), _] _
             rw [hSx']
             exact List.Sublist.cons _ (List.Sublist.refl _))
          | (have hSx' : F (i.k + 1) = F i.k := by rw [hSx, decide_eq_false (by assumption), cond_false, decide_eq_true (by assumption), cond_true]
             refine ⟨(⟨i.k + 1, hlt⟩ : Kth c.actsL.length), (by show c.actsL.length - (i.k + 1) < c.actsL.length - i.k; omega), ok_sub ⟨rfl, rfl, rfl, rfl, rfl, rfl, trivial⟩ ?_ fun _ h => h⟩
             show List.Sublist [mapr q (idxP' (fun j => Value.string (T j)) (F (i.k + 1))), _] _
             rw [hSx']
             exact List.Sublist.cons _ (List.Sublist.refl _))
      | some j =>
        rw [ho] at hidx hSx
        have hidx : Pu Tryz.prog 43 #[c.v, .string x.object] (fun w => c.at_ w ∧ Glob w) (.tuple #[.int .i64 (j : Nat), .bool true]) := hidx
        repeat' (first | apply sw_nil | apply cw_seq | apply cw_reg | refine sy_move (h := ?_) | refine sy_assign (h := ?_) | refine sy_nilCheck (h := ?_) | refine sy_fld (h := ?_) | refine sy_ld (h := ?_) | refine sy_ldAll (h := ?_) | refine sy_pick_t (h := ?_) | refine sy_pick_f (h := ?_) | refine sy_not (h := ?_) | refine sy_eql (h := ?_) | refine sy_neq (h := ?_) | refine sy_lss (h := ?_) | refine sy_leq (h := ?_) | refine sy_gtr (h := ?_) | refine sy_geq (h := ?_) | refine sy_seql (h := ?_) | refine sy_sneq (h := ?_) | refine sy_slen (h := ?_) | refine sy_len (h := ?_) | refine sy_extract (h := ?_) | refine sy_add (h := ?_) | refine sy_sub (h := ?_) | refine sw_skipT (h := ?_) | refine sw_skipF (h := ?_) | refine sw_skipU (h := ?_) | refine sw_alloc (h := fun _ => ?_) | refine sw_box (h := fun _ => ?_) | refine sw_rangeS (h := fun _ => ?_) | refine sw_nextS (h1 := fun _ => ?_) (h2 := fun _ => ?_) | refine sw_bsl (h := fun _ => ?_) | refine sw_st1 (h := ?_) | refine sw_stAll (h := ?_) | refine cw_cond_t (ht := ?_) | refine cw_cond_f (hf := ?_) | apply cw_skip | apply cw_block | apply cw_ret | apply cw_exit | refine sy_and (h := ?_) | refine sy_or (h := ?_) | refine sy_xor (h := ?_) | refine sy_andNot (h := ?_) | refine sy_xorU (h := ?_) | refine sy_shl (h := ?_) | refine sy_shr (h := ?_) | refine sy_mul (h := ?_) | refine sy_int (h := ?_) | refine sy_beql (h := ?_) | refine sy_bneq (h := ?_) | refine sy_min (h := ?_) | refine sy_max (h := ?_) | refine sy_arrA (h := ?_) | refine sy_strI (h := ?_) | (refine sy_idxX (q := i.k * 20) (h := ?_)) | (refine sy_ldXs (cs := x.cells) (hF := fun w h => Acts.get (h.1.2 c hcm) hx) (h := ?_)) | (refine sw_update (κ := Int) (kk := (i.k : Int)) (hA := by (repeat (first | exact At.here _ | apply At.there))) (h := ?_)) | (refine sy_mlen (κ := Int) (hl := by (repeat (first | exact List.mem_cons_self | apply List.mem_cons_of_mem))) (h := ?_)) | (refine sw_pu (hc := hidx) (hX := fun w h => ⟨h.1.2 c hcm, h.2⟩) (h := ?_)) | (refine sw_delete (κ := Int) (kk := (j : Nat)) (hA := by (repeat (first | exact At.here _ | apply At.there))) (h := ?_)) | ((fail_if_success (refine sw_chk (h := ?_))); refine sw_guard (ht := ?_) (hf := ?_); all_goals (intro hx_; first | have := of_decide_eq_true hx_ | have := of_decide_eq_false hx_ | skip)) | (refine cw_cond (ht := ?_) (hf := ?_); all_goals (intro hx_; first | have := of_decide_eq_true hx_ | have := of_decide_eq_false hx_ | skip)))
        all_goals first
          | (have hSx' : F (i.k + 1) = F i.k ++ [i.k] := by rw [hSx, decide_eq_true (by assumption), cond_true, show (seqB x.object t || seqB x.target t) = true from by rw [‹seqB x.object t = true›]; rfl, cond_true]
             refine ⟨(⟨i.k + 1, hlt⟩ : Kth c.actsL.length), (by show c.actsL.length - (i.k + 1) < c.actsL.length - i.k; omega), ok_sub ⟨rfl, rfl, rfl, rfl, rfl, rfl, trivial⟩ ?_ fun _ h => h⟩
             show List.Sublist [mapr q (idxP' (fun j => Value.string (T j)) (F (i.k + 1))), _] _
             rw [hSx', ← hm1]
             exact List.Sublist.cons _ (List.Sublist.refl _))
          | (have hSx' : F (i.k + 1) = F i.k ++ [i.k] := by rw [hSx, decide_eq_true (by assumption), cond_true, show (seqB x.object t || seqB x.target t) = true from by rw [‹seqB x.object t = false›, ‹seqB x.target t = true›]; rfl, cond_true]
             refine ⟨(⟨i.k + 1, hlt⟩ : Kth c.actsL.length), (by show c.actsL.length - (i.k + 1) < c.actsL.length - i.k; omega), ok_sub ⟨rfl, rfl, rfl, rfl, rfl, rfl, trivial⟩ ?_ fun _ h => h⟩
             show List.Sublist [mapr q (idxP' (fun j => Value.string (T j)) (F (i.k + 1))), _] _
             rw [hSx', ← hm1]
             exact List.Sublist.cons _ (List.Sublist.refl _))
          | (have hSx' : F (i.k + 1) = F i.k := by rw [hSx, decide_eq_true (by assumption), cond_true, show (seqB x.object t || seqB x.target t) = false from by rw [‹seqB x.object t = false›, ‹seqB x.target t = false›]; rfl, cond_false]
             refine ⟨(⟨i.k + 1, hlt⟩ : Kth c.actsL.length), (by show c.actsL.length - (i.k + 1) < c.actsL.length - i.k; omega), ok_sub ⟨rfl, rfl, rfl, rfl, rfl, rfl, trivial⟩ ?_ fun _ h => h⟩
             show List.Sublist [mapr q (idxP' (fun j => Value.string (T j)) (F (i.k + 1))), _] _
             rw [hSx']
             exact List.Sublist.cons _ (List.Sublist.refl _))
          | (have hSx' : F (i.k + 1) = F i.k := by 
               have h0 : F i.k = [] := List.eq_nil_of_length_eq_zero (by omega)
               rw [hSx, decide_eq_false (by assumption), cond_false, decide_eq_true (by assumption), cond_true, h0]
               try rfl
             refine ⟨(⟨i.k + 1, hlt⟩ : Kth c.actsL.length), (by show c.actsL.length - (i.k + 1) < c.actsL.length - i.k; omega), ok_sub ⟨rfl, rfl, rfl, rfl, rfl, rfl, trivial⟩ ?_ fun _ h => h⟩
             show List.Sublist [mapr q (idxP' (fun j => Value.string (T j)) (F (i.k + 1))), _] _
             rw [hSx']
             exact List.Sublist.cons _ (List.Sublist.refl _))
          | (have hSx' : F (i.k + 1) = F i.k := by rw [hSx, decide_eq_false (by assumption), cond_false, decide_eq_false (by assumption), cond_false]
             refine ⟨(⟨i.k + 1, hlt⟩ : Kth c.actsL.length), (by show c.actsL.length - (i.k + 1) < c.actsL.length - i.k; omega), ok_sub ⟨rfl, rfl, rfl, rfl, rfl, rfl, trivial⟩ ?_ fun _ h => h⟩
             show List.Sublist [mapr q (idxP' (fun j => Value.string (T j)) (F (i.k + 1))), _] _
             rw [hSx']
             exact List.Sublist.cons _ (List.Sublist.refl _))
          | (have hSx' : F (i.k + 1) = (F i.k).erase j := by rw [hSx, decide_eq_false (by assumption), cond_false, decide_eq_true (by assumption), cond_true]
             refine ⟨(⟨i.k + 1, hlt⟩ : Kth c.actsL.length), (by show c.actsL.length - (i.k + 1) < c.actsL.length - i.k; omega), ok_sub ⟨rfl, rfl, rfl, rfl, rfl, rfl, trivial⟩ ?_ fun _ h => h⟩
             show List.Sublist [mapr q (idxP' (fun j => Value.string (T j)) (F (i.k + 1))), _] _
             rw [hSx', ← mdel_idx]
             exact List.Sublist.cons _ (List.Sublist.refl _))
    have hik' : i.k = c.actsL.length := by omega
    rw [hik']
    have hGlt := hF c.actsL.length
    have hGl := hFl c.actsL.length
    generalize F c.actsL.length = G at *
    rw [idx_strV]
    have hmv : ((G.map fun (j : Nat) => ((j : Int), T j)).map fun p => p.2) = G.map T := by simp [List.map_map, Function.comp_def]
    have hml : (G.map fun (j : Nat) => ((j : Int), T j)).length = G.length := by simp
    refine sw_fn0 (hc := valuesI_ct (some q)) (hX := fun _ _ => trivial) (h := ?_)
    rintro v1 R1 X1 ⟨bk, rfl, rfl⟩
    refine sw_fn (pre := [cel bk 90 [.map (some q)], mapr q (strV (G.map fun (j : Nat) => ((j : Int), T j)))]) (fr := [cel b7 40 c.cells]) (hc := sortedVS_ct bk q (G.map fun (j : Nat) => ((j : Int), T j)) (fun p hp => ?_) (by omega)) (hX := fun _ _ => trivial) (h := ?_)
    · obtain ⟨j, hj, rfl⟩ := List.mem_map.1 hp
      have h1 := hGlt j hj
      have h2 := hT j
      exact ⟨wf_nat (by omega), by simp only [maxLen]; show (T j).size ≤ _; omega⟩
    rintro v2 R2 X2 ⟨A, c2, rfl, rfl⟩
    rw [hmv, hml]
    refine sw_fnAt (hc := compB_ct) (hX := fun _ _ => trivial) (h := ?_)
    rintro _ _ X3 ⟨A3, c3, rfl, rfl⟩
    repeat' (first | apply sw_nil | apply cw_seq | apply cw_reg | refine sy_move (h := ?_) | refine sy_assign (h := ?_) | refine sy_nilCheck (h := ?_) | refine sy_fld (h := ?_) | refine sy_ld (h := ?_) | refine sy_ldAll (h := ?_) | refine sy_pick_t (h := ?_) | refine sy_pick_f (h := ?_) | refine sy_not (h := ?_) | refine sy_eql (h := ?_) | refine sy_neq (h := ?_) | refine sy_lss (h := ?_) | refine sy_leq (h := ?_) | refine sy_gtr (h := ?_) | refine sy_geq (h := ?_) | refine sy_seql (h := ?_) | refine sy_sneq (h := ?_) | refine sy_slen (h := ?_) | refine sy_len (h := ?_) | refine sy_extract (h := ?_) | refine sy_add (h := ?_) | refine sy_sub (h := ?_) | refine sw_skipT (h := ?_) | refine sw_skipF (h := ?_) | refine sw_skipU (h := ?_) | refine sw_alloc (h := fun _ => ?_) | refine sw_box (h := fun _ => ?_) | refine sw_rangeS (h := fun _ => ?_) | refine sw_nextS (h1 := fun _ => ?_) (h2 := fun _ => ?_) | refine sw_bsl (h := fun _ => ?_) | refine sw_st1 (h := ?_) | refine sw_stAll (h := ?_) | refine cw_cond_t (ht := ?_) | refine cw_cond_f (hf := ?_) | apply cw_skip | apply cw_block | apply cw_ret | apply cw_exit | refine sy_and (h := ?_) | refine sy_or (h := ?_) | refine sy_xor (h := ?_) | refine sy_andNot (h := ?_) | refine sy_xorU (h := ?_) | refine sy_shl (h := ?_) | refine sy_shr (h := ?_) | refine sy_mul (h := ?_) | refine sy_int (h := ?_) | refine sy_beql (h := ?_) | refine sy_bneq (h := ?_) | refine sy_min (h := ?_) | refine sy_max (h := ?_) | refine sy_arrA (h := ?_) | refine sy_strI (h := ?_))
    exact ends_ret (res_tmp rfl rfl) ⟨_, List.Sublist.cons_cons _ (List.nil_sublist _), A3, c3, rfl, rfl⟩
end Go.Proofs.YtfpojkoddcdojaaGreatDoor

/- label.Of: the data and the contract. -/
set_option linter.unusedVariables false
set_option linter.unusedSimpArgs false
namespace Go.Proofs.YtfpojkoddcdojaaGreatDoor
open Go Go.Proofs Sy Go.Sort Go.Shelf Go.Maps
instance : TyMap Tryz.prog 88 3 (keyD ByteArray) := ⟨by kernel_rfl⟩
theorem keysSI_c : KeysC Tryz.prog 42 59 88 where
  keys := fun mb W => (callsIn_wide (n := 5)).1 (AnyZ.keys_in Tryz.keys_map_string_int_string_int Fence.wide 5 trivial rfl mb W)
theorem sortedSI_c : SortedSC Tryz.prog 39 59 9 where
  key := Tryz.underlying9
  sorted := fun w Bm q nn D0 hB hc hown h1 h2 => (callsIn_wide (n := 5)).1 (AnyZ.sorted_in Tryz.sortedS Fence.wide 5 trivial trivial trivial trivial rfl (by omega) (sortsS _) (enters_of Tryz.func51 (by kernel_rfl) rfl) _ _ trivial (enters_of Tryz.func59 (by kernel_rfl) rfl) _ _ h1 h2 _
    (AnyZ.keys_gives (ρ := Tryz.keys_map_string_int_string_int_ren) { Tryz.keys_map_string_int_string_int with } Fence.wide _ trivial rfl (by omega) Bm q nn D0 w hB hc hown))
structure CntD where
  name : ByteArray
  n : Nat
def CntD.cells (a : CntD) : List Value := [.string a.name, .int .i64 a.n]
def CntD.v (a : CntD) : Value := .agg a.cells.toArray
def Cnts (w : World) (s : SlV) (l : List CntD) : Prop := RowsD w 2 s (l.map CntD.cells)
def cm (M : List (ByteArray × Nat)) : List (ByteArray × Value) := M.map fun p => (p.1, .int .i64 p.2)
theorem mget_cm (b : List (ByteArray × Nat)) (k : ByteArray) : mget (cm b) k = (mget b k).map fun n : Nat => Value.int .i64 n := mget_map (fun n : Nat => Value.int .i64 n) b k
theorem mput_cm (b : List (ByteArray × Nat)) (k : ByteArray) (n : Nat) : mput (cm b) k (.int .i64 n) = cm (mput b k n) := mput_map (fun n : Nat => Value.int .i64 n) b k n
def cntStep (M : List (ByteArray × Nat)) (k : ByteArray) : List (ByteArray × Nat) := mput M k ((mget M k).getD 0 + 1)
def cntF (l : List ChainD) (t : ByteArray) (ks : List ByteArray) : Nat → List ByteArray × List (ByteArray × Nat)
  | 0 => ([], [])
  | i + 1 => bif hasK (cntF l t ks i).1 (ks.getD i .empty) then cntF l t ks i else (sput (cntF l t ks i).1 (ks.getD i .empty), (validV l (ks.getD i .empty) t).foldl cntStep (cntF l t ks i).2)
def cntV (l : List ChainD) (ks : List ByteArray) (t : ByteArray) : List CntD := (sortB ((cntF l t ks ks.length).2.map (·.1))).map fun a => ⟨a, (mget (cntF l t ks ks.length).2 a).getD 0⟩
structure CBnd (m : Nat) (b : List (ByteArray × Nat)) : Prop where
  len : b.length ≤ m
  size : ∀ p ∈ b, p.1.size ≤ maxLen
  val : ∀ k, (mget b k).getD 0 ≤ m
theorem CBnd.mono {m m' : Nat} {b : List (ByteArray × Nat)} (h : CBnd m b) (hm : m ≤ m') : CBnd m' b := ⟨Nat.le_trans h.len hm, h.size, fun k => Nat.le_trans (h.val k) hm⟩
theorem mput_len {β : Type} (k : ByteArray) (v : β) : ∀ b : List (ByteArray × β), (mput b k v).length ≤ b.length + 1
  | [] => by simp [mput]
  | p :: r => by
    have ih := mput_len k v r
    obtain ⟨k', v'⟩ := p
    simp only [mput]
    cases KeyT.eqb k k' with
    | true => simp
    | false => simp only [cond_false, List.length_cons]; omega
theorem mput_sizes {β : Type} {k : ByteArray} {v : β} (hk : k.size ≤ maxLen) : ∀ {b : List (ByteArray × β)}, (∀ p ∈ b, p.1.size ≤ maxLen) → ∀ p ∈ mput b k v, p.1.size ≤ maxLen
  | [], _, p, hp => by
    simp only [mput, List.mem_singleton] at hp
    subst hp
    exact hk
  | (k', v') :: r, h, p, hp => by
    simp only [mput] at hp
    cases hkk : KeyT.eqb k k' with
    | true =>
      rw [hkk] at hp
      rcases List.mem_cons.1 hp with rfl | hp
      · exact hk
      · exact h p (List.mem_cons_of_mem _ hp)
    | false =>
      rw [hkk] at hp
      rcases List.mem_cons.1 hp with rfl | hp
      · exact h _ List.mem_cons_self
      · exact mput_sizes hk (fun q hq => h q (List.mem_cons_of_mem _ hq)) p hp
theorem mget_mput' {β : Type} : ∀ (b : List (ByteArray × β)) (k a : ByteArray) (v : β), mget (mput b k v) a = if a = k then some v else mget b a
  | [], k, a, v => by
    simp only [mput, mget]
    by_cases h : a = k
    · rw [(KeyT.eqb_iff a k).2 h, if_pos h]; rfl
    · rw [if_neg h]
      cases hb : KeyT.eqb a k with
      | true => exact absurd ((KeyT.eqb_iff a k).1 hb) h
      | false => rfl
  | (k', v') :: r, k, a, v => by
    have ih := mget_mput' r k a v
    simp only [mput]
    cases hkk : KeyT.eqb k k' with
    | true =>
      have e := (KeyT.eqb_iff k k').1 hkk
      subst e
      simp only [cond_true, mget]
      by_cases h : a = k
      · rw [(KeyT.eqb_iff a k).2 h, if_pos h]; rfl
      · rw [if_neg h]
        cases hb : KeyT.eqb a k with
        | true => exact absurd ((KeyT.eqb_iff a k).1 hb) h
        | false => rfl
    | false =>
      simp only [cond_false, mget]
      cases hb : KeyT.eqb a k' with
      | true =>
        have e := (KeyT.eqb_iff a k').1 hb
        subst e
        have h : ¬ a = k := fun h => by rw [h, (KeyT.eqb_iff k k).2 rfl] at hkk; cases hkk
        rw [if_neg h]; rfl
      | false => simp only [cond_false]; exact ih
theorem cntStep_bnd {m : Nat} {b : List (ByteArray × Nat)} {k : ByteArray} (h : CBnd m b) (hk : k.size ≤ maxLen) : CBnd (m + 1) (cntStep b k) :=
  ⟨Nat.le_trans (mput_len k _ b) (Nat.succ_le_succ h.len), mput_sizes hk h.size, fun a => by
    unfold cntStep
    rw [mget_mput']
    by_cases e : a = k
    · rw [if_pos e]
      have := h.val k
      simp only [Option.getD_some]
      omega
    · rw [if_neg e]
      have := h.val a
      omega⟩
theorem cntFold_bnd : ∀ (E : List ByteArray) {m : Nat} {b : List (ByteArray × Nat)}, CBnd m b → (∀ e ∈ E, e.size ≤ maxLen) → CBnd (m + E.length) (E.foldl cntStep b)
  | [], m, b, h, _ => h
  | e :: E, m, b, h, he => by
    have := cntFold_bnd E (cntStep_bnd h (he e List.mem_cons_self)) fun x hx => he x (List.mem_cons_of_mem _ hx)
    simp only [List.foldl_cons, List.length_cons]
    exact this.mono (by omega)
theorem compB_len (l : List ByteArray) : (compB l).length ≤ l.length := by
  have := Lib.compact_length_le (l.map bl)
  simpa [compB] using this
theorem valid_bnd {l : List ChainD} (hlen : ∀ c ∈ l, c.actsL.length ≤ 1000) (htx : ∀ c ∈ l, ∀ a ∈ c.actsL, a.text.size ≤ 1000000) (k t : ByteArray) : (validV l k t).length ≤ 1000 ∧ ∀ x ∈ validV l k t, x.size ≤ maxLen := by
  unfold validV
  cases seqB t ⟨#[]⟩ with
  | true => simp
  | false =>
    cases hf : findC l k with
    | none => simp
    | some c =>
      have hcm := findC_mem hf
      simp only [cond_false, labV]
      refine ⟨?_, fun x hx => ?_⟩
      · have h1 := compB_len (sortB ((labF c.actsL t c.actsL.length).map (textA c.actsL)))
        rw [sortB_len, List.length_map] at h1
        have h2 := labF_len c.actsL t c.actsL.length
        have h3 := hlen c hcm
        omega
      · obtain ⟨j, hj, rfl⟩ := List.mem_map.1 (mem_compB_sortB.1 hx)
        have hj2 := labF_lt _ _ _ _ hj
        show (c.actsL.getD j ActD.zero).text.size ≤ maxLen
        rw [List.getD_eq_getElem?_getD, List.getElem?_eq_getElem hj2]
        have := htx c hcm _ (List.getElem_mem hj2)
        simp only [maxLen, Option.getD_some]
        omega
theorem cntF_bnd {l : List ChainD} (hlen : ∀ c ∈ l, c.actsL.length ≤ 1000) (htx : ∀ c ∈ l, ∀ a ∈ c.actsL, a.text.size ≤ 1000000) (t : ByteArray) (ks : List ByteArray) : ∀ i, CBnd (i * 1000) (cntF l t ks i).2
  | 0 => ⟨by simp [cntF], by simp [cntF], fun k => by simp [cntF, mget]⟩
  | i + 1 => by
    have ih := cntF_bnd hlen htx t ks i
    simp only [cntF]
    cases hasK (cntF l t ks i).1 (ks.getD i .empty) with
    | true => exact ih.mono (by omega)
    | false =>
      have he := valid_bnd hlen htx (ks.getD i .empty) t
      exact (cntFold_bnd (validV l (ks.getD i .empty) t) ih he.2).mono (by have := he.1; omega)
theorem valid_mk (s : SlV) (l : List ChainD) (k t : ByteArray) (hok : ∀ c ∈ l, ActsOk c.actsL) (hlen : ∀ c ∈ l, c.actsL.length ≤ 1000000) (htx : ∀ c ∈ l, ∀ a ∈ c.actsL, a.text.size ≤ 1000000) :
    Mk Tryz.prog 22 #[s.v, .string k, .string t] (fun w => Chains w s l ∧ Glob w) (StrsAt (validV l k t)) := mk_of_own (valid_ct s l k t hok hlen htx)
set_option maxHeartbeats 4000000 in
theorem count_mk (s : SlV) (l : List ChainD) (sk : SlV) (ks : List ByteArray) (t : ByteArray) (hok : ∀ c ∈ l, ActsOk c.actsL) (hlen : ∀ c ∈ l, c.actsL.length ≤ 1000) (htx : ∀ c ∈ l, ∀ a ∈ c.actsL, a.text.size ≤ 1000000) (hkl : ks.length ≤ 1000) :
    Mk Tryz.prog 20 #[s.v, sk.v, .string t] (fun w => Chains w s l ∧ Strs w sk ks ∧ Glob w) fun u X => ∃ S : SlV, u = S.v ∧ ∀ w, X w → Cnts w S (cntV l ks t) := by
  refine mk_of_cw2 (args := [_, _, _]) _ Tryz.func20 rfl Tryz.ntmps20 rfl fun av bor w0 => ?_
  refine cw_know (p := sk.n = ks.length ∧ sk.n ≤ maxLen ∧ (0 < ks.length → sk.p.isSome = true)) (fun w h => ⟨h.2.1.len_, Nat.le_trans (RowsD.cap h.2.1) (RowsD.max h.2.1), h.2.1.some_⟩) fun ⟨hl, hm, hp⟩ => ?_
  simp only [maxLen] at hm
  have hS : ∀ i, cntF l t ks (i + 1) = _ := fun i => cntF.eq_2 l t ks i
  have hB := cntF_bnd hlen htx t ks
  have hofV : cntV l ks t = (sortB ((cntF l t ks ks.length).2.map (·.1))).map fun a => ⟨a, (mget (cntF l t ks ks.length).2 a).getD 0⟩ := rfl
  generalize hFg : cntF l t ks = F at *
  repeat' (first | apply sw_nil | apply cw_seq | apply cw_reg | refine sy_move (h := ?_) | refine sy_assign (h := ?_) | refine sy_nilCheck (h := ?_) | refine sy_fld (h := ?_) | refine sy_ld (h := ?_) | refine sy_ldAll (h := ?_) | refine sy_pick_t (h := ?_) | refine sy_pick_f (h := ?_) | refine sy_not (h := ?_) | refine sy_eql (h := ?_) | refine sy_neq (h := ?_) | refine sy_lss (h := ?_) | refine sy_leq (h := ?_) | refine sy_gtr (h := ?_) | refine sy_geq (h := ?_) | refine sy_seql (h := ?_) | refine sy_sneq (h := ?_) | refine sy_slen (h := ?_) | refine sy_len (h := ?_) | refine sy_extract (h := ?_) | refine sy_add (h := ?_) | refine sy_sub (h := ?_) | refine sw_skipT (h := ?_) | refine sw_skipF (h := ?_) | refine sw_skipU (h := ?_) | refine sw_alloc (h := fun _ => ?_) | refine sw_box (h := fun _ => ?_) | refine sw_rangeS (h := fun _ => ?_) | refine sw_nextS (h1 := fun _ => ?_) (h2 := fun _ => ?_) | refine sw_bsl (h := fun _ => ?_) | refine sw_st1 (h := ?_) | refine sw_stAll (h := ?_) | refine cw_cond_t (ht := ?_) | refine cw_cond_f (hf := ?_) | apply cw_skip | apply cw_block | apply cw_ret | apply cw_exit | refine sy_and (h := ?_) | refine sy_or (h := ?_) | refine sy_xor (h := ?_) | refine sy_andNot (h := ?_) | refine sy_xorU (h := ?_) | refine sy_shl (h := ?_) | refine sy_shr (h := ?_) | refine sy_mul (h := ?_) | refine sy_int (h := ?_) | refine sy_beql (h := ?_) | refine sy_bneq (h := ?_) | refine sy_min (h := ?_) | refine sy_max (h := ?_) | refine sy_arrA (h := ?_) | refine sy_strI (h := ?_) | (refine sw_makeMap ByteArray (h := fun _ => ?_)) | ((fail_if_success (refine sw_chk (h := ?_))); refine sw_guard (ht := ?_) (hf := ?_); all_goals (intro hx_; first | have := of_decide_eq_true hx_ | have := of_decide_eq_false hx_ | skip)) | (refine cw_cond (ht := ?_) (hf := ?_); all_goals (intro hx_; first | have := of_decide_eq_true hx_ | have := of_decide_eq_false hx_ | skip)))
  rename_i q1 q2
  refine cw_loop (ι := Kth ks.length) (fun i => ⟨[(0, s.v), (2, .string t), (7, .map (some q1)), (8, .map (some q2)), (18, sk.v), (19, .int .i64 sk.n), (20, .int .i64 i.k)],
    [mapr q2 (cm (F i.k).2), mapr q1 (setM (F i.k).1)], fun w => Chains w s l ∧ Strs w sk ks ∧ Glob w⟩) (fun i => ks.length - i.k) ⟨0, Nat.zero_le _⟩ (ok_sub ⟨rfl, rfl, rfl, rfl, rfl, rfl, rfl, trivial⟩ (by rw [← hFg]; exact List.Sublist.refl _) fun _ h => h) fun i => ?_
  have hik := i.hk
  repeat' (first | apply sw_nil | apply cw_seq | apply cw_reg | refine sy_move (h := ?_) | refine sy_assign (h := ?_) | refine sy_nilCheck (h := ?_) | refine sy_fld (h := ?_) | refine sy_ld (h := ?_) | refine sy_ldAll (h := ?_) | refine sy_pick_t (h := ?_) | refine sy_pick_f (h := ?_) | refine sy_not (h := ?_) | refine sy_eql (h := ?_) | refine sy_neq (h := ?_) | refine sy_lss (h := ?_) | refine sy_leq (h := ?_) | refine sy_gtr (h := ?_) | refine sy_geq (h := ?_) | refine sy_seql (h := ?_) | refine sy_sneq (h := ?_) | refine sy_slen (h := ?_) | refine sy_len (h := ?_) | refine sy_extract (h := ?_) | refine sy_add (h := ?_) | refine sy_sub (h := ?_) | refine sw_skipT (h := ?_) | refine sw_skipF (h := ?_) | refine sw_skipU (h := ?_) | refine sw_alloc (h := fun _ => ?_) | refine sw_box (h := fun _ => ?_) | refine sw_rangeS (h := fun _ => ?_) | refine sw_nextS (h1 := fun _ => ?_) (h2 := fun _ => ?_) | refine sw_bsl (h := fun _ => ?_) | refine sw_st1 (h := ?_) | refine sw_stAll (h := ?_) | refine cw_cond_t (ht := ?_) | refine cw_cond_f (hf := ?_) | apply cw_skip | apply cw_block | apply cw_ret | apply cw_exit | refine sy_and (h := ?_) | refine sy_or (h := ?_) | refine sy_xor (h := ?_) | refine sy_andNot (h := ?_) | refine sy_xorU (h := ?_) | refine sy_shl (h := ?_) | refine sy_shr (h := ?_) | refine sy_mul (h := ?_) | refine sy_int (h := ?_) | refine sy_beql (h := ?_) | refine sy_bneq (h := ?_) | refine sy_min (h := ?_) | refine sy_max (h := ?_) | refine sy_arrA (h := ?_) | refine sy_strI (h := ?_) | ((fail_if_success (refine sw_chk (h := ?_))); refine sw_guard (ht := ?_) (hf := ?_); all_goals (intro hx_; first | have := of_decide_eq_true hx_ | have := of_decide_eq_false hx_ | skip)) | (refine cw_cond (ht := ?_) (hf := ?_); all_goals (intro hx_; first | have := of_decide_eq_true hx_ | have := of_decide_eq_false hx_ | skip)))
  · have hlt : i.k < ks.length := by omega
    have hp' := hp (by omega)
    have hSx := hS i.k
    have hBi := hB i.k
    have hc1 : ∀ w, Chains w s l ∧ Strs w sk ks ∧ Glob w → CellAt w sk.p i.k (.string (ks.getD i.k .empty)) := fun w h => Strs.get h.2.1 hlt
    generalize ks.getD i.k .empty = x at *
    have hen := valid_mk s l x t hok (fun c hc => Nat.le_trans (hlen c hc) (by decide)) htx
    have hEb := valid_bnd hlen htx x t
    have hgs := mget_set (F i.k).1 x
    have hps := mput_set (F i.k).1 x
    generalize validV l x t = E at *
    cases hh : hasK (F i.k).1 x with
    | true =>
      rw [hh] at hgs hSx
      repeat' (first | refine sy_idxX (q := i.k) (h := ?_) | refine sy_ldX (q := i.k) (u := .string x) (hF := fun w h => hc1 w h) (h := ?_) | apply sw_nil | apply cw_seq | apply cw_reg | refine sy_move (h := ?_) | refine sy_assign (h := ?_) | refine sy_nilCheck (h := ?_) | refine sy_fld (h := ?_) | refine sy_ld (h := ?_) | refine sy_ldAll (h := ?_) | refine sy_pick_t (h := ?_) | refine sy_pick_f (h := ?_) | refine sy_not (h := ?_) | refine sy_eql (h := ?_) | refine sy_neq (h := ?_) | refine sy_lss (h := ?_) | refine sy_leq (h := ?_) | refine sy_gtr (h := ?_) | refine sy_geq (h := ?_) | refine sy_seql (h := ?_) | refine sy_sneq (h := ?_) | refine sy_slen (h := ?_) | refine sy_len (h := ?_) | refine sy_extract (h := ?_) | refine sy_add (h := ?_) | refine sy_sub (h := ?_) | refine sw_skipT (h := ?_) | refine sw_skipF (h := ?_) | refine sw_skipU (h := ?_) | refine sw_alloc (h := fun _ => ?_) | refine sw_box (h := fun _ => ?_) | refine sw_rangeS (h := fun _ => ?_) | refine sw_nextS (h1 := fun _ => ?_) (h2 := fun _ => ?_) | refine sw_bsl (h := fun _ => ?_) | refine sw_st1 (h := ?_) | refine sw_stAll (h := ?_) | refine cw_cond_t (ht := ?_) | refine cw_cond_f (hf := ?_) | apply cw_skip | apply cw_block | apply cw_ret | apply cw_exit | refine sy_and (h := ?_) | refine sy_or (h := ?_) | refine sy_xor (h := ?_) | refine sy_andNot (h := ?_) | refine sy_xorU (h := ?_) | refine sy_shl (h := ?_) | refine sy_shr (h := ?_) | refine sy_mul (h := ?_) | refine sy_int (h := ?_) | refine sy_beql (h := ?_) | refine sy_bneq (h := ?_) | refine sy_min (h := ?_) | refine sy_max (h := ?_) | refine sy_arrA (h := ?_) | refine sy_strI (h := ?_) | (refine sy_lookup1 (κ := ByteArray) (kk := x) (o := some (.bool true)) (hl := map_loc (by (repeat (first | exact List.mem_cons_self | apply List.mem_cons_of_mem)))) (ho := hgs) (h := ?_)) | ((fail_if_success (refine sw_chk (h := ?_))); refine sw_guard (ht := ?_) (hf := ?_); all_goals (intro hx_; first | have := of_decide_eq_true hx_ | have := of_decide_eq_false hx_ | skip)) | (refine cw_cond (ht := ?_) (hf := ?_); all_goals (intro hx_; first | have := of_decide_eq_true hx_ | have := of_decide_eq_false hx_ | skip)))
      simp only [cond_true] at hSx
      refine ⟨(⟨i.k + 1, hlt⟩ : Kth ks.length), (by show ks.length - (i.k + 1) < ks.length - i.k; omega), ok_sub ⟨rfl, rfl, rfl, rfl, rfl, rfl, rfl, trivial⟩ ?_ fun _ h => h⟩
      show List.Sublist [mapr q2 (cm (F (i.k + 1)).2), mapr q1 (setM (F (i.k + 1)).1)] _
      rw [hSx]
      exact List.Sublist.refl _
    | false =>
      rw [hh] at hgs hSx
      repeat' (first | refine sy_idxX (q := i.k) (h := ?_) | refine sy_ldX (q := i.k) (u := .string x) (hF := fun w h => hc1 w h) (h := ?_) | apply sw_nil | apply cw_seq | apply cw_reg | refine sy_move (h := ?_) | refine sy_assign (h := ?_) | refine sy_nilCheck (h := ?_) | refine sy_fld (h := ?_) | refine sy_ld (h := ?_) | refine sy_ldAll (h := ?_) | refine sy_pick_t (h := ?_) | refine sy_pick_f (h := ?_) | refine sy_not (h := ?_) | refine sy_eql (h := ?_) | refine sy_neq (h := ?_) | refine sy_lss (h := ?_) | refine sy_leq (h := ?_) | refine sy_gtr (h := ?_) | refine sy_geq (h := ?_) | refine sy_seql (h := ?_) | refine sy_sneq (h := ?_) | refine sy_slen (h := ?_) | refine sy_len (h := ?_) | refine sy_extract (h := ?_) | refine sy_add (h := ?_) | refine sy_sub (h := ?_) | refine sw_skipT (h := ?_) | refine sw_skipF (h := ?_) | refine sw_skipU (h := ?_) | refine sw_alloc (h := fun _ => ?_) | refine sw_box (h := fun _ => ?_) | refine sw_rangeS (h := fun _ => ?_) | refine sw_nextS (h1 := fun _ => ?_) (h2 := fun _ => ?_) | refine sw_bsl (h := fun _ => ?_) | refine sw_st1 (h := ?_) | refine sw_stAll (h := ?_) | refine cw_cond_t (ht := ?_) | refine cw_cond_f (hf := ?_) | apply cw_skip | apply cw_block | apply cw_ret | apply cw_exit | refine sy_and (h := ?_) | refine sy_or (h := ?_) | refine sy_xor (h := ?_) | refine sy_andNot (h := ?_) | refine sy_xorU (h := ?_) | refine sy_shl (h := ?_) | refine sy_shr (h := ?_) | refine sy_mul (h := ?_) | refine sy_int (h := ?_) | refine sy_beql (h := ?_) | refine sy_bneq (h := ?_) | refine sy_min (h := ?_) | refine sy_max (h := ?_) | refine sy_arrA (h := ?_) | refine sy_strI (h := ?_) | (refine sy_lookup1 (κ := ByteArray) (kk := x) (o := none) (hl := map_loc (by (repeat (first | exact List.mem_cons_self | apply List.mem_cons_of_mem)))) (ho := hgs) (h := ?_)) | (refine sw_update (κ := ByteArray) (kk := x) (hA := by (repeat (first | with_reducible exact At.here _ | apply At.there))) (h := ?_)) | (refine sw_mk (hc := hen) (hX := fun w h => ⟨h.1, h.2.2⟩) (h := fun v1 X1 h1 => ?_); obtain ⟨S, rfl, hs⟩ := h1) | ((fail_if_success (refine sw_chk (h := ?_))); refine sw_guard (ht := ?_) (hf := ?_); all_goals (intro hx_; first | have := of_decide_eq_true hx_ | have := of_decide_eq_false hx_ | skip)) | (refine cw_cond (ht := ?_) (hf := ?_); all_goals (intro hx_; first | have := of_decide_eq_true hx_ | have := of_decide_eq_false hx_ | skip)))
      rw [hps]
      simp only [cond_false] at hSx
      refine cw_know (p := S.n = E.length ∧ S.n ≤ maxLen ∧ (0 < E.length → S.p.isSome = true)) (fun w h => ⟨(hs w h.2).len_, Nat.le_trans (RowsD.cap (hs w h.2)) (RowsD.max (hs w h.2)), (hs w h.2).some_⟩) fun ⟨hn1, hm1, hp1⟩ => ?_
      simp only [maxLen] at hm1
      have hBf : ∀ j, j ≤ E.length → CBnd (i.k * 1000 + j) ((E.take j).foldl cntStep (F i.k).2) := fun j hj => by
        have h := cntFold_bnd (E.take j) hBi fun e he => hEb.2 e (List.mem_of_mem_take he)
        rw [List.length_take, Nat.min_eq_left hj] at h
        exact h
      generalize hsk : sput (F i.k).1 x = sn at *
      generalize hb0 : (F i.k).2 = b0 at *
      refine cw_loop (ι := Kth E.length) (fun j => ⟨[(0, s.v), (2, .string t), (7, .map (some q1)), (8, .map (some q2)), (18, sk.v), (19, .int .i64 sk.n), (20, .int .i64 i.k), (32, S.v), (33, .int .i64 S.n), (34, .int .i64 j.k)],
        [mapr q2 (cm ((E.take j.k).foldl cntStep b0)), mapr q1 (setM sn)], fun w => (Chains w s l ∧ Strs w sk ks ∧ Glob w) ∧ X1 w⟩) (fun j => E.length - j.k) ⟨0, Nat.zero_le _⟩ (ok_sub ⟨rfl, rfl, rfl, rfl, rfl, rfl, rfl, rfl, rfl, rfl, trivial⟩ (List.Sublist.refl _) fun _ h => h) fun j => ?_
      have hjk := j.hk
      repeat' (first | apply sw_nil | apply cw_seq | apply cw_reg | refine sy_move (h := ?_) | refine sy_assign (h := ?_) | refine sy_nilCheck (h := ?_) | refine sy_fld (h := ?_) | refine sy_ld (h := ?_) | refine sy_ldAll (h := ?_) | refine sy_pick_t (h := ?_) | refine sy_pick_f (h := ?_) | refine sy_not (h := ?_) | refine sy_eql (h := ?_) | refine sy_neq (h := ?_) | refine sy_lss (h := ?_) | refine sy_leq (h := ?_) | refine sy_gtr (h := ?_) | refine sy_geq (h := ?_) | refine sy_seql (h := ?_) | refine sy_sneq (h := ?_) | refine sy_slen (h := ?_) | refine sy_len (h := ?_) | refine sy_extract (h := ?_) | refine sy_add (h := ?_) | refine sy_sub (h := ?_) | refine sw_skipT (h := ?_) | refine sw_skipF (h := ?_) | refine sw_skipU (h := ?_) | refine sw_alloc (h := fun _ => ?_) | refine sw_box (h := fun _ => ?_) | refine sw_rangeS (h := fun _ => ?_) | refine sw_nextS (h1 := fun _ => ?_) (h2 := fun _ => ?_) | refine sw_bsl (h := fun _ => ?_) | refine sw_st1 (h := ?_) | refine sw_stAll (h := ?_) | refine cw_cond_t (ht := ?_) | refine cw_cond_f (hf := ?_) | apply cw_skip | apply cw_block | apply cw_ret | apply cw_exit | refine sy_and (h := ?_) | refine sy_or (h := ?_) | refine sy_xor (h := ?_) | refine sy_andNot (h := ?_) | refine sy_xorU (h := ?_) | refine sy_shl (h := ?_) | refine sy_shr (h := ?_) | refine sy_mul (h := ?_) | refine sy_int (h := ?_) | refine sy_beql (h := ?_) | refine sy_bneq (h := ?_) | refine sy_min (h := ?_) | refine sy_max (h := ?_) | refine sy_arrA (h := ?_) | refine sy_strI (h := ?_) | ((fail_if_success (refine sw_chk (h := ?_))); refine sw_guard (ht := ?_) (hf := ?_); all_goals (intro hx_; first | have := of_decide_eq_true hx_ | have := of_decide_eq_false hx_ | skip)) | (refine cw_cond (ht := ?_) (hf := ?_); all_goals (intro hx_; first | have := of_decide_eq_true hx_ | have := of_decide_eq_false hx_ | skip)))
      · have hlt2 : j.k < E.length := by omega
        have hp2 := hp1 (by omega)
        obtain ⟨e, he⟩ : ∃ e, E[j.k]? = some e := ⟨_, List.getElem?_eq_getElem hlt2⟩
        have hfo := foldl_take cntStep b0 E he
        have hBj := hBf j.k (by omega)
        generalize (E.take j.k).foldl cntStep b0 = b at *
        have hmb := mget_cm b e
        have hvb := hBj.val e
        have hi1 : i.k * 1000 ≤ 1000000 := Nat.le_trans (Nat.mul_le_mul_right 1000 (Nat.le_trans hik hkl)) (by decide)
        obtain ⟨n, hn, hst, hnb⟩ : ∃ n : Nat, (mget b e).getD 0 = n ∧ cntStep b e = mput b e (n + 1) ∧ n ≤ 1001000 := ⟨_, rfl, rfl, by omega⟩
        have hpb : mput (cm b) e (.int .i64 ((n : Int) + 1)) = cm (mput b e (n + 1)) := mput_cm b e (n + 1)
        cases ho : mget b e with
        | none =>
          rw [ho] at hmb hn
          have hn0 : n = 0 := hn.symm
          subst hn0
          have hpb : mput (cm b) e (.int .i64 1) = cm (mput b e (0 + 1)) := hpb
          repeat' (first | refine sy_idxX (q := j.k) (h := ?_) | refine sy_ldX (q := j.k) (u := .string e) (hF := fun w h => (hs w h.2).at_ he) (h := ?_) | apply sw_nil | apply cw_seq | apply cw_reg | refine sy_move (h := ?_) | refine sy_assign (h := ?_) | refine sy_nilCheck (h := ?_) | refine sy_fld (h := ?_) | refine sy_ld (h := ?_) | refine sy_ldAll (h := ?_) | refine sy_pick_t (h := ?_) | refine sy_pick_f (h := ?_) | refine sy_not (h := ?_) | refine sy_eql (h := ?_) | refine sy_neq (h := ?_) | refine sy_lss (h := ?_) | refine sy_leq (h := ?_) | refine sy_gtr (h := ?_) | refine sy_geq (h := ?_) | refine sy_seql (h := ?_) | refine sy_sneq (h := ?_) | refine sy_slen (h := ?_) | refine sy_len (h := ?_) | refine sy_extract (h := ?_) | refine sy_add (h := ?_) | refine sy_sub (h := ?_) | refine sw_skipT (h := ?_) | refine sw_skipF (h := ?_) | refine sw_skipU (h := ?_) | refine sw_alloc (h := fun _ => ?_) | refine sw_box (h := fun _ => ?_) | refine sw_rangeS (h := fun _ => ?_) | refine sw_nextS (h1 := fun _ => ?_) (h2 := fun _ => ?_) | refine sw_bsl (h := fun _ => ?_) | refine sw_st1 (h := ?_) | refine sw_stAll (h := ?_) | refine cw_cond_t (ht := ?_) | refine cw_cond_f (hf := ?_) | apply cw_skip | apply cw_block | apply cw_ret | apply cw_exit | refine sy_and (h := ?_) | refine sy_or (h := ?_) | refine sy_xor (h := ?_) | refine sy_andNot (h := ?_) | refine sy_xorU (h := ?_) | refine sy_shl (h := ?_) | refine sy_shr (h := ?_) | refine sy_mul (h := ?_) | refine sy_int (h := ?_) | refine sy_beql (h := ?_) | refine sy_bneq (h := ?_) | refine sy_min (h := ?_) | refine sy_max (h := ?_) | refine sy_arrA (h := ?_) | refine sy_strI (h := ?_) | (refine sy_lookup1 (κ := ByteArray) (kk := e) (o := none) (hl := map_loc (by (repeat (first | exact List.mem_cons_self | apply List.mem_cons_of_mem)))) (ho := hmb) (h := ?_)) | (refine sw_update (κ := ByteArray) (kk := e) (v := .int .i64 1) (hA := by (repeat (first | with_reducible exact At.here _ | apply At.there))) (h := ?_)) | ((fail_if_success (refine sw_chk (h := ?_))); refine sw_guard (ht := ?_) (hf := ?_); all_goals (intro hx_; first | have := of_decide_eq_true hx_ | have := of_decide_eq_false hx_ | skip)) | (refine cw_cond (ht := ?_) (hf := ?_); all_goals (intro hx_; first | have := of_decide_eq_true hx_ | have := of_decide_eq_false hx_ | skip)))
          refine ⟨(⟨j.k + 1, hlt2⟩ : Kth E.length), (by show E.length - (j.k + 1) < E.length - j.k; omega), ok_sub ⟨rfl, rfl, rfl, rfl, rfl, rfl, rfl, rfl, rfl, rfl, trivial⟩ ?_ fun _ h => h⟩
          show List.Sublist [mapr q2 (cm ((E.take (j.k + 1)).foldl cntStep b0)), mapr q1 (setM sn)] _
          rw [hfo, hst, ← hpb]
          exact List.Sublist.refl _
        | some m =>
          rw [ho] at hmb hn
          have hn0 : m = n := hn
          subst hn0
          repeat' (first | refine sy_idxX (q := j.k) (h := ?_) | refine sy_ldX (q := j.k) (u := .string e) (hF := fun w h => (hs w h.2).at_ he) (h := ?_) | apply sw_nil | apply cw_seq | apply cw_reg | refine sy_move (h := ?_) | refine sy_assign (h := ?_) | refine sy_nilCheck (h := ?_) | refine sy_fld (h := ?_) | refine sy_ld (h := ?_) | refine sy_ldAll (h := ?_) | refine sy_pick_t (h := ?_) | refine sy_pick_f (h := ?_) | refine sy_not (h := ?_) | refine sy_eql (h := ?_) | refine sy_neq (h := ?_) | refine sy_lss (h := ?_) | refine sy_leq (h := ?_) | refine sy_gtr (h := ?_) | refine sy_geq (h := ?_) | refine sy_seql (h := ?_) | refine sy_sneq (h := ?_) | refine sy_slen (h := ?_) | refine sy_len (h := ?_) | refine sy_extract (h := ?_) | refine sy_add (h := ?_) | refine sy_sub (h := ?_) | refine sw_skipT (h := ?_) | refine sw_skipF (h := ?_) | refine sw_skipU (h := ?_) | refine sw_alloc (h := fun _ => ?_) | refine sw_box (h := fun _ => ?_) | refine sw_rangeS (h := fun _ => ?_) | refine sw_nextS (h1 := fun _ => ?_) (h2 := fun _ => ?_) | refine sw_bsl (h := fun _ => ?_) | refine sw_st1 (h := ?_) | refine sw_stAll (h := ?_) | refine cw_cond_t (ht := ?_) | refine cw_cond_f (hf := ?_) | apply cw_skip | apply cw_block | apply cw_ret | apply cw_exit | refine sy_and (h := ?_) | refine sy_or (h := ?_) | refine sy_xor (h := ?_) | refine sy_andNot (h := ?_) | refine sy_xorU (h := ?_) | refine sy_shl (h := ?_) | refine sy_shr (h := ?_) | refine sy_mul (h := ?_) | refine sy_int (h := ?_) | refine sy_beql (h := ?_) | refine sy_bneq (h := ?_) | refine sy_min (h := ?_) | refine sy_max (h := ?_) | refine sy_arrA (h := ?_) | refine sy_strI (h := ?_) | (refine sy_lookup1 (κ := ByteArray) (kk := e) (o := some (.int .i64 (m : Nat))) (hl := map_loc (by (repeat (first | exact List.mem_cons_self | apply List.mem_cons_of_mem)))) (ho := hmb) (h := ?_)) | (refine sw_update (κ := ByteArray) (kk := e) (v := .int .i64 ((m : Int) + 1)) (hA := by (repeat (first | with_reducible exact At.here _ | apply At.there))) (h := ?_)) | ((fail_if_success (refine sw_chk (h := ?_))); refine sw_guard (ht := ?_) (hf := ?_); all_goals (intro hx_; first | have := of_decide_eq_true hx_ | have := of_decide_eq_false hx_ | skip)) | (refine cw_cond (ht := ?_) (hf := ?_); all_goals (intro hx_; first | have := of_decide_eq_true hx_ | have := of_decide_eq_false hx_ | skip)))
          refine ⟨(⟨j.k + 1, hlt2⟩ : Kth E.length), (by show E.length - (j.k + 1) < E.length - j.k; omega), ok_sub ⟨rfl, rfl, rfl, rfl, rfl, rfl, rfl, rfl, rfl, rfl, trivial⟩ ?_ fun _ h => h⟩
          show List.Sublist [mapr q2 (cm ((E.take (j.k + 1)).foldl cntStep b0)), mapr q1 (setM sn)] _
          rw [hfo, hst, ← hpb]
          exact List.Sublist.refl _
      · have hj : j.k = E.length := by omega
        refine ⟨(⟨i.k + 1, hlt⟩ : Kth ks.length), (by show ks.length - (i.k + 1) < ks.length - i.k; omega), ok_sub ⟨rfl, rfl, rfl, rfl, rfl, rfl, rfl, trivial⟩ ?_ fun _ h => h.1⟩
        show List.Sublist [mapr q2 (cm (F (i.k + 1)).2), mapr q1 (setM (F (i.k + 1)).1)] _
        rw [hSx, hj, List.take_length]
        exact List.Sublist.refl _
  · have hik' : i.k = ks.length := by omega
    rw [hik']
    have hBx := hB ks.length
    generalize (F ks.length).2 = b at *
    have hbl : b.length ≤ 1000000 := by have := hBx.len; have : ks.length * 1000 ≤ 1000000 := Nat.mul_le_mul_right 1000 hkl; omega
    have hml : (cm b).length = b.length := by simp [cm]
    have hmk : (cm b).map (·.1) = b.map (·.1) := by simp [cm, Function.comp_def]
    refine sw_drop (l := [mapr q2 (cm b)]) (List.Sublist.cons_cons _ (List.nil_sublist _)) ?_
    refine sw_fn0 (hc := keysSI_c.ct (some q2)) (hX := fun _ _ => trivial) (h := ?_)
    rintro v1 R1 X1 ⟨bk, rfl, rfl⟩
    refine sw_fn (pre := [cel bk 88 [.map (some q2)], mapr q2 (cm b)]) (fr := []) (hc := sortedSI_c.ct bk q2 (cm b) (fun p hp => ?_) (by omega)) (hX := fun _ _ => trivial) (h := ?_)
    · simp only [cm, List.mem_map] at hp
      obtain ⟨p', hp', rfl⟩ := hp
      exact hBx.size p' hp'
    rintro v2 R2 X2 ⟨A, c2, rfl, rfl⟩
    rw [hml, hmk]
    have hKl : (sortB (b.map (·.1))).length = b.length := by rw [sortB_len, List.length_map]
    have hKm : ∀ a ∈ sortB (b.map (·.1)), ∃ e, mget b a = some e := fun a ha => mget_atK (mem_sortB.1 ha)
    generalize sortB (b.map (·.1)) = K at *
    refine sw_give ?_
    repeat' (first | apply sw_nil | apply cw_seq | apply cw_reg | refine sy_move (h := ?_) | refine sy_assign (h := ?_) | refine sy_nilCheck (h := ?_) | refine sy_fld (h := ?_) | refine sy_ld (h := ?_) | refine sy_ldAll (h := ?_) | refine sy_pick_t (h := ?_) | refine sy_pick_f (h := ?_) | refine sy_not (h := ?_) | refine sy_eql (h := ?_) | refine sy_neq (h := ?_) | refine sy_lss (h := ?_) | refine sy_leq (h := ?_) | refine sy_gtr (h := ?_) | refine sy_geq (h := ?_) | refine sy_seql (h := ?_) | refine sy_sneq (h := ?_) | refine sy_slen (h := ?_) | refine sy_len (h := ?_) | refine sy_extract (h := ?_) | refine sy_add (h := ?_) | refine sy_sub (h := ?_) | refine sw_skipT (h := ?_) | refine sw_skipF (h := ?_) | refine sw_skipU (h := ?_) | refine sw_alloc (h := fun _ => ?_) | refine sw_box (h := fun _ => ?_) | refine sw_rangeS (h := fun _ => ?_) | refine sw_nextS (h1 := fun _ => ?_) (h2 := fun _ => ?_) | refine sw_bsl (h := fun _ => ?_) | refine sw_st1 (h := ?_) | refine sw_stAll (h := ?_) | refine cw_cond_t (ht := ?_) | refine cw_cond_f (hf := ?_) | apply cw_skip | apply cw_block | apply cw_ret | apply cw_exit | refine sy_and (h := ?_) | refine sy_or (h := ?_) | refine sy_xor (h := ?_) | refine sy_andNot (h := ?_) | refine sy_xorU (h := ?_) | refine sy_shl (h := ?_) | refine sy_shr (h := ?_) | refine sy_mul (h := ?_) | refine sy_int (h := ?_) | refine sy_beql (h := ?_) | refine sy_bneq (h := ?_) | refine sy_min (h := ?_) | refine sy_max (h := ?_) | refine sy_arrA (h := ?_) | refine sy_strI (h := ?_))
    refine cw_imp (X' := fun w => Strs w ⟨A, b.length, c2⟩ K) (fun w h => strs_of_orow h.2 hKl.symm) ?_
    refine cw_know (p := 0 < K.length → A.isSome = true) (fun w h => h.some_) fun hpA => ?_
    refine cw_nilRow 55 2 ?_
    refine cw_loop (ι := FilS K.length) (fun j => ⟨[(8, .map (some q2)), (13, .slice j.A j.k j.c), (46, .slice A b.length c2), (47, .int .i64 (b.length : Nat)), (48, .int .i64 j.k)],
      [orow 55 2 (.slice j.A j.k j.c) j.k ((K.take j.k).map fun a => CntD.cells ⟨a, (mget b a).getD 0⟩).flatten, mapr q2 (cm b)], fun w => Strs w ⟨A, b.length, c2⟩ K⟩) (fun j => K.length - j.k) ⟨0, Nat.zero_le _, none, 0⟩
      (ok_sub ⟨rfl, rfl, rfl, rfl, rfl, trivial⟩ (List.Sublist.cons_cons _ (List.Sublist.cons _ (List.Sublist.cons_cons _ (List.nil_sublist _)))) fun _ h => h) fun j => ?_
    have hjk := j.hk
    repeat' (first | apply sw_nil | apply cw_seq | apply cw_reg | refine sy_move (h := ?_) | refine sy_assign (h := ?_) | refine sy_nilCheck (h := ?_) | refine sy_fld (h := ?_) | refine sy_ld (h := ?_) | refine sy_ldAll (h := ?_) | refine sy_pick_t (h := ?_) | refine sy_pick_f (h := ?_) | refine sy_not (h := ?_) | refine sy_eql (h := ?_) | refine sy_neq (h := ?_) | refine sy_lss (h := ?_) | refine sy_leq (h := ?_) | refine sy_gtr (h := ?_) | refine sy_geq (h := ?_) | refine sy_seql (h := ?_) | refine sy_sneq (h := ?_) | refine sy_slen (h := ?_) | refine sy_len (h := ?_) | refine sy_extract (h := ?_) | refine sy_add (h := ?_) | refine sy_sub (h := ?_) | refine sw_skipT (h := ?_) | refine sw_skipF (h := ?_) | refine sw_skipU (h := ?_) | refine sw_alloc (h := fun _ => ?_) | refine sw_box (h := fun _ => ?_) | refine sw_rangeS (h := fun _ => ?_) | refine sw_nextS (h1 := fun _ => ?_) (h2 := fun _ => ?_) | refine sw_bsl (h := fun _ => ?_) | refine sw_st1 (h := ?_) | refine sw_stAll (h := ?_) | refine cw_cond_t (ht := ?_) | refine cw_cond_f (hf := ?_) | apply cw_skip | apply cw_block | apply cw_ret | apply cw_exit | refine sy_and (h := ?_) | refine sy_or (h := ?_) | refine sy_xor (h := ?_) | refine sy_andNot (h := ?_) | refine sy_xorU (h := ?_) | refine sy_shl (h := ?_) | refine sy_shr (h := ?_) | refine sy_mul (h := ?_) | refine sy_int (h := ?_) | refine sy_beql (h := ?_) | refine sy_bneq (h := ?_) | refine sy_min (h := ?_) | refine sy_max (h := ?_) | refine sy_arrA (h := ?_) | refine sy_strI (h := ?_) | ((fail_if_success (refine sw_chk (h := ?_))); refine sw_guard (ht := ?_) (hf := ?_); all_goals (intro hx_; first | have := of_decide_eq_true hx_ | have := of_decide_eq_false hx_ | skip)) | (refine cw_cond (ht := ?_) (hf := ?_); all_goals (intro hx_; first | have := of_decide_eq_true hx_ | have := of_decide_eq_false hx_ | skip)))
    · have hltj : j.k < K.length := by omega
      have hpA' := hpA (by omega)
      obtain ⟨a, ha⟩ : ∃ a, K[j.k]? = some a := ⟨_, List.getElem?_eq_getElem hltj⟩
      obtain ⟨e, he⟩ := hKm a (List.mem_of_getElem? ha)
      have hmb : mget (cm b) a = some (.int .i64 e) := by rw [mget_cm, he]; rfl
      have hfl : ((K.take (j.k + 1)).map fun a => CntD.cells ⟨a, (mget b a).getD 0⟩).flatten = ((K.take j.k).map fun a => CntD.cells ⟨a, (mget b a).getD 0⟩).flatten ++ CntD.cells ⟨a, e⟩ := by
        rw [List.take_add_one, ha]
        simp [he]
      generalize ((K.take j.k).map fun a => CntD.cells ⟨a, (mget b a).getD 0⟩).flatten = acc at *
      repeat' (first | refine sy_idxX (q := j.k) (h := ?_) | refine sy_ldX (q := j.k) (u := .string a) (hF := fun w h => h.at_ ha) (h := ?_) | refine sy_build (cs := CntD.cells ⟨a, e⟩) (hf := by rfl) (h := ?_) | refine sw_bslS (size := 2) (vs := [CntD.v ⟨a, e⟩]) (css := CntD.cells ⟨a, e⟩) (hsz := by rfl) (hcs := by rfl) (h := fun _ => ?_) | apply sw_nil | apply cw_seq | apply cw_reg | refine sy_move (h := ?_) | refine sy_assign (h := ?_) | refine sy_nilCheck (h := ?_) | refine sy_fld (h := ?_) | refine sy_ld (h := ?_) | refine sy_ldAll (h := ?_) | refine sy_pick_t (h := ?_) | refine sy_pick_f (h := ?_) | refine sy_not (h := ?_) | refine sy_eql (h := ?_) | refine sy_neq (h := ?_) | refine sy_lss (h := ?_) | refine sy_leq (h := ?_) | refine sy_gtr (h := ?_) | refine sy_geq (h := ?_) | refine sy_seql (h := ?_) | refine sy_sneq (h := ?_) | refine sy_slen (h := ?_) | refine sy_len (h := ?_) | refine sy_extract (h := ?_) | refine sy_add (h := ?_) | refine sy_sub (h := ?_) | refine sw_skipT (h := ?_) | refine sw_skipF (h := ?_) | refine sw_skipU (h := ?_) | refine sw_alloc (h := fun _ => ?_) | refine sw_box (h := fun _ => ?_) | refine sw_rangeS (h := fun _ => ?_) | refine sw_nextS (h1 := fun _ => ?_) (h2 := fun _ => ?_) | refine sw_bsl (h := fun _ => ?_) | refine sw_st1 (h := ?_) | refine sw_stAll (h := ?_) | refine cw_cond_t (ht := ?_) | refine cw_cond_f (hf := ?_) | apply cw_skip | apply cw_block | apply cw_ret | apply cw_exit | refine sy_and (h := ?_) | refine sy_or (h := ?_) | refine sy_xor (h := ?_) | refine sy_andNot (h := ?_) | refine sy_xorU (h := ?_) | refine sy_shl (h := ?_) | refine sy_shr (h := ?_) | refine sy_mul (h := ?_) | refine sy_int (h := ?_) | refine sy_beql (h := ?_) | refine sy_bneq (h := ?_) | refine sy_min (h := ?_) | refine sy_max (h := ?_) | refine sy_arrA (h := ?_) | refine sy_strI (h := ?_) | (refine sy_lookup1 (κ := ByteArray) (kk := a) (o := some (.int .i64 (e : Nat))) (hl := map_loc (by (repeat (first | exact List.mem_cons_self | apply List.mem_cons_of_mem)))) (ho := hmb) (h := ?_)) | (refine sw_append (size := 2) (news := CntD.cells ⟨a, e⟩) (q := 1) rfl rfl rfl rfl (fun _ => At.there _ (At.here _)) (fun w G => src_cel G List.mem_cons_self rfl rfl 1) (by omega) (by simp only [maxLen]; omega) rfl ?_ rfl ?_; (first | with_reducible rfl | with_reducible assumption | with_reducible exact Bool.not_false | with_reducible exact Bool.not_true); intro A3 c3) | ((fail_if_success (refine sw_chk (h := ?_))); refine sw_guard (ht := ?_) (hf := ?_); all_goals (intro hx_; first | have := of_decide_eq_true hx_ | have := of_decide_eq_false hx_ | skip)) | (refine cw_cond (ht := ?_) (hf := ?_); all_goals (intro hx_; first | have := of_decide_eq_true hx_ | have := of_decide_eq_false hx_ | skip)))
      refine ⟨(⟨j.k + 1, hltj, A3, c3⟩ : FilS K.length), (by show K.length - (j.k + 1) < K.length - j.k; omega), ok_sub ⟨rfl, rfl, rfl, rfl, rfl, trivial⟩ ?_ fun _ h => h⟩
      show List.Sublist [orow 55 2 _ _ ((K.take (j.k + 1)).map fun a => CntD.cells ⟨a, (mget b a).getD 0⟩).flatten, _] _
      rw [hfl]
      exact List.Sublist.cons _ (List.Sublist.refl _)
    · have hk : j.k = K.length := by omega
      refine ends_ret (res_tmp rfl rfl) ⟨⟨j.A, j.k, j.c⟩, rfl, fun w h => ?_⟩
      have h1 := h.2 _ List.mem_cons_self
      have e1 : ((K.take j.k).map fun a => CntD.cells ⟨a, (mget b a).getD 0⟩) = (K.map fun a => (⟨a, (mget b a).getD 0⟩ : CntD)).map CntD.cells := by
        rw [hk, List.take_length, List.map_map]; rfl
      rw [e1] at h1
      rw [hofV]
      exact rows_of_orow h1 (by simp [hk]) (by
        intro r hr
        obtain ⟨x, _, rfl⟩ := List.mem_map.1 hr
        rfl)
end Go.Proofs.YtfpojkoddcdojaaGreatDoor

/- Package agoralaw37: the bound and the examples. -/
set_option linter.unusedVariables false
set_option linter.unusedSimpArgs false
namespace Go.Proofs.YtfpojkoddcdojaaGreatDoor
open Go Go.Proofs Sy
def fewBad (l : List ChainD) (k : Nat) : Bool := !shortV (l.getD k ChainD.zero)
def fewV (l : List ChainD) : Bool := decide (l.length ≤ 6) && allB l.length (fewBad l)
theorem few_ok {l : List ChainD} (hr : ∀ c ∈ l, ∀ a ∈ c.actsL, a.Rng ∧ a.target.size ≤ maxLen) (h : fewV l = true) : l.length ≤ 6 ∧ ∀ c ∈ l, ActsOk c.actsL ∧ c.actsL.length ≤ 24 := by
  simp only [fewV, Bool.and_eq_true, decide_eq_true_eq] at h
  refine ⟨h.1, fun c hc => ?_⟩
  obtain ⟨i, hi, rfl⟩ := List.getElem_of_mem hc
  have h1 := allB_at h.2 hi
  simp only [fewBad, List.getD_eq_getElem?_getD, List.getElem?_eq_getElem hi, Option.getD_some, Bool.not_eq_false'] at h1
  exact actsOk_of (fun a ha => (hr _ (List.getElem_mem hi) a ha).1) (fun a ha => (hr _ (List.getElem_mem hi) a ha).2) h1
/-! the examples -/
def spamS : ByteArray := ⟨#[115, 112, 97, 109]⟩
def botS : ByteArray := ⟨#[98, 111, 116]⟩
def xS : ByteArray := ⟨#[120]⟩
theorem chainsNil (w : World) : Chains w ⟨none, 0, 0⟩ [] := ⟨rowsD_nil w 6, fun c h => by cases h⟩
end Go.Proofs.YtfpojkoddcdojaaGreatDoor

/- Package agoralaw34: the bound; counts' equality; Same; Reports. -/
set_option linter.unusedVariables false
set_option linter.unusedSimpArgs false
namespace Go.Proofs.YtfpojkoddcdojaaGreatDoor
open Go Go.Proofs Sy
theorem few_text {l : List ChainD} (h : fewV l = true) : ∀ c ∈ l, ∀ a ∈ c.actsL, a.text.size ≤ 1000000 := by
  simp only [fewV, Bool.and_eq_true, decide_eq_true_eq] at h
  intro c hc a ha
  obtain ⟨i, hi, rfl⟩ := List.getElem_of_mem hc
  have h1 := allB_at h.2 hi
  simp only [fewBad, List.getD_eq_getElem?_getD, List.getElem?_eq_getElem hi, Option.getD_some, Bool.not_eq_false'] at h1
  simp only [shortV, Bool.and_eq_true] at h1
  obtain ⟨j, hj, rfl⟩ := List.getElem_of_mem ha
  have h2 := allB_at h1.2 hj
  simp only [shortBad, List.getD_eq_getElem?_getD, List.getElem?_eq_getElem hj, Option.getD_some, Bool.or_eq_false_iff, decide_eq_false_iff_not] at h2
  omega
set_option maxHeartbeats 1000000 in
theorem few34_pu (s : SlV) (l : List ChainD) : Pu Tryz.prog 19 #[s.v] (fun w => Chains w s l) (.bool (fewV l)) := by
  refine pu_of_cw (args := [_]) _ Tryz.func19 rfl Tryz.ntmps19 rfl fun av bor w0 => ?_
  refine cw_know (p := s.n = l.length ∧ s.n ≤ maxLen ∧ (0 < l.length → s.p.isSome = true)) (fun w h => ⟨h.len_, h.max_, h.some_⟩) fun ⟨hl, hm, hp⟩ => ?_
  simp only [maxLen] at hm
  repeat' (first | apply sw_nil | apply cw_seq | apply cw_reg | refine sy_move (h := ?_) | refine sy_assign (h := ?_) | refine sy_nilCheck (h := ?_) | refine sy_fld (h := ?_) | refine sy_ld (h := ?_) | refine sy_ldAll (h := ?_) | refine sy_pick_t (h := ?_) | refine sy_pick_f (h := ?_) | refine sy_not (h := ?_) | refine sy_eql (h := ?_) | refine sy_neq (h := ?_) | refine sy_lss (h := ?_) | refine sy_leq (h := ?_) | refine sy_gtr (h := ?_) | refine sy_geq (h := ?_) | refine sy_seql (h := ?_) | refine sy_sneq (h := ?_) | refine sy_slen (h := ?_) | refine sy_len (h := ?_) | refine sy_extract (h := ?_) | refine sy_add (h := ?_) | refine sy_sub (h := ?_) | refine sw_skipT (h := ?_) | refine sw_skipF (h := ?_) | refine sw_skipU (h := ?_) | refine sw_alloc (h := fun _ => ?_) | refine sw_box (h := fun _ => ?_) | refine sw_rangeS (h := fun _ => ?_) | refine sw_nextS (h1 := fun _ => ?_) (h2 := fun _ => ?_) | refine sw_bsl (h := fun _ => ?_) | refine sw_st1 (h := ?_) | refine sw_stAll (h := ?_) | refine cw_cond_t (ht := ?_) | refine cw_cond_f (hf := ?_) | apply cw_skip | apply cw_block | apply cw_ret | apply cw_exit | refine sy_and (h := ?_) | refine sy_or (h := ?_) | refine sy_xor (h := ?_) | refine sy_andNot (h := ?_) | refine sy_xorU (h := ?_) | refine sy_shl (h := ?_) | refine sy_shr (h := ?_) | refine sy_mul (h := ?_) | refine sy_int (h := ?_) | refine sy_beql (h := ?_) | refine sy_bneq (h := ?_) | refine sy_min (h := ?_) | refine sy_max (h := ?_) | refine sy_arrA (h := ?_) | refine sy_strI (h := ?_) | ((fail_if_success (refine sw_chk (h := ?_))); refine sw_guard (ht := ?_) (hf := ?_); all_goals (intro hx_; first | have := of_decide_eq_true hx_ | have := of_decide_eq_false hx_ | skip)) | (refine cw_cond (ht := ?_) (hf := ?_); all_goals (intro hx_; first | have := of_decide_eq_true hx_ | have := of_decide_eq_false hx_ | skip)))
  · apply ends_ret; apply res_tmp; rfl; rfl
    rw [fewV, decide_eq_false (by omega), Bool.false_and]
  refine cw_loop (ι := Upto l.length (fewBad l)) (fun i => ⟨[(0, s.v), (3, .int .i64 i.k)], [], fun w => Chains w s l⟩) (fun i => l.length - i.k) (Upto.zero _ _) (ok_sub ⟨rfl, rfl, trivial⟩ (List.Sublist.refl _) fun _ h => h) fun i => ?_
  have hik := i.hk
  repeat' (first | apply sw_nil | apply cw_seq | apply cw_reg | refine sy_move (h := ?_) | refine sy_assign (h := ?_) | refine sy_nilCheck (h := ?_) | refine sy_fld (h := ?_) | refine sy_ld (h := ?_) | refine sy_ldAll (h := ?_) | refine sy_pick_t (h := ?_) | refine sy_pick_f (h := ?_) | refine sy_not (h := ?_) | refine sy_eql (h := ?_) | refine sy_neq (h := ?_) | refine sy_lss (h := ?_) | refine sy_leq (h := ?_) | refine sy_gtr (h := ?_) | refine sy_geq (h := ?_) | refine sy_seql (h := ?_) | refine sy_sneq (h := ?_) | refine sy_slen (h := ?_) | refine sy_len (h := ?_) | refine sy_extract (h := ?_) | refine sy_add (h := ?_) | refine sy_sub (h := ?_) | refine sw_skipT (h := ?_) | refine sw_skipF (h := ?_) | refine sw_skipU (h := ?_) | refine sw_alloc (h := fun _ => ?_) | refine sw_box (h := fun _ => ?_) | refine sw_rangeS (h := fun _ => ?_) | refine sw_nextS (h1 := fun _ => ?_) (h2 := fun _ => ?_) | refine sw_bsl (h := fun _ => ?_) | refine sw_st1 (h := ?_) | refine sw_stAll (h := ?_) | refine cw_cond_t (ht := ?_) | refine cw_cond_f (hf := ?_) | apply cw_skip | apply cw_block | apply cw_ret | apply cw_exit | refine sy_and (h := ?_) | refine sy_or (h := ?_) | refine sy_xor (h := ?_) | refine sy_andNot (h := ?_) | refine sy_xorU (h := ?_) | refine sy_shl (h := ?_) | refine sy_shr (h := ?_) | refine sy_mul (h := ?_) | refine sy_int (h := ?_) | refine sy_beql (h := ?_) | refine sy_bneq (h := ?_) | refine sy_min (h := ?_) | refine sy_max (h := ?_) | refine sy_arrA (h := ?_) | refine sy_strI (h := ?_) | ((fail_if_success (refine sw_chk (h := ?_))); refine sw_guard (ht := ?_) (hf := ?_); all_goals (intro hx_; first | have := of_decide_eq_true hx_ | have := of_decide_eq_false hx_ | skip)) | (refine cw_cond (ht := ?_) (hf := ?_); all_goals (intro hx_; first | have := of_decide_eq_true hx_ | have := of_decide_eq_false hx_ | skip)))
  · have hlt : i.k < l.length := by omega
    have hp' := hp (by omega)
    obtain ⟨c, hc⟩ : ∃ c, l[i.k]? = some c := ⟨_, List.getElem?_eq_getElem hlt⟩
    have hcm := List.mem_of_getElem? hc
    have hfb : fewBad l i.k = !shortV c := by simp only [fewBad, List.getD_eq_getElem?_getD, hc, Option.getD_some]
    refine sw_know (p := c.acts.n = c.actsL.length ∧ c.acts.n ≤ maxLen ∧ (0 < c.actsL.length → c.acts.p.isSome = true)) (fun w h => ⟨(h.2 c hcm).len_, (h.2 c hcm).max_, (h.2 c hcm).some_⟩) fun ⟨hl2, hm2, hp2⟩ => ?_
    simp only [maxLen] at hm2
    repeat' (first | apply sw_nil | apply cw_seq | apply cw_reg | refine sy_move (h := ?_) | refine sy_assign (h := ?_) | refine sy_nilCheck (h := ?_) | refine sy_fld (h := ?_) | refine sy_ld (h := ?_) | refine sy_ldAll (h := ?_) | refine sy_pick_t (h := ?_) | refine sy_pick_f (h := ?_) | refine sy_not (h := ?_) | refine sy_eql (h := ?_) | refine sy_neq (h := ?_) | refine sy_lss (h := ?_) | refine sy_leq (h := ?_) | refine sy_gtr (h := ?_) | refine sy_geq (h := ?_) | refine sy_seql (h := ?_) | refine sy_sneq (h := ?_) | refine sy_slen (h := ?_) | refine sy_len (h := ?_) | refine sy_extract (h := ?_) | refine sy_add (h := ?_) | refine sy_sub (h := ?_) | refine sw_skipT (h := ?_) | refine sw_skipF (h := ?_) | refine sw_skipU (h := ?_) | refine sw_alloc (h := fun _ => ?_) | refine sw_box (h := fun _ => ?_) | refine sw_rangeS (h := fun _ => ?_) | refine sw_nextS (h1 := fun _ => ?_) (h2 := fun _ => ?_) | refine sw_bsl (h := fun _ => ?_) | refine sw_st1 (h := ?_) | refine sw_stAll (h := ?_) | refine cw_cond_t (ht := ?_) | refine cw_cond_f (hf := ?_) | apply cw_skip | apply cw_block | apply cw_ret | apply cw_exit | refine sy_and (h := ?_) | refine sy_or (h := ?_) | refine sy_xor (h := ?_) | refine sy_andNot (h := ?_) | refine sy_xorU (h := ?_) | refine sy_shl (h := ?_) | refine sy_shr (h := ?_) | refine sy_mul (h := ?_) | refine sy_int (h := ?_) | refine sy_beql (h := ?_) | refine sy_bneq (h := ?_) | refine sy_min (h := ?_) | refine sy_max (h := ?_) | refine sy_arrA (h := ?_) | refine sy_strI (h := ?_) | (refine sy_idxX (q := i.k * 6) (h := ?_)) | (refine sy_fldX (h := ?_)) | (refine sy_ldX (q := i.k * 6 + 1) (u := c.acts.v) (hF := fun w h => (Chains.get h hc).2.2 1 _ rfl) (h := ?_)) | ((fail_if_success (refine sw_chk (h := ?_))); refine sw_guard (ht := ?_) (hf := ?_); all_goals (intro hx_; first | have := of_decide_eq_true hx_ | have := of_decide_eq_false hx_ | skip)) | (refine cw_cond (ht := ?_) (hf := ?_); all_goals (intro hx_; first | have := of_decide_eq_true hx_ | have := of_decide_eq_false hx_ | skip)))
    · apply ends_ret; apply res_tmp; rfl; rfl
      rw [fewV, allB_false hlt (by rw [hfb, shortV, decide_eq_false (by omega)]; rfl), Bool.and_false]
    refine cw_loop (ι := Upto c.actsL.length (shortBad c.actsL)) (fun j => ⟨[(0, s.v), (3, .int .i64 i.k), (4, .int .i64 j.k)], [], fun w => Chains w s l⟩) (fun j => c.actsL.length - j.k) (Upto.zero _ _) (ok_sub ⟨rfl, rfl, rfl, trivial⟩ (List.Sublist.refl _) fun _ h => h) fun j => ?_
    have hjk := j.hk
    repeat' (first | apply sw_nil | apply cw_seq | apply cw_reg | refine sy_move (h := ?_) | refine sy_assign (h := ?_) | refine sy_nilCheck (h := ?_) | refine sy_fld (h := ?_) | refine sy_ld (h := ?_) | refine sy_ldAll (h := ?_) | refine sy_pick_t (h := ?_) | refine sy_pick_f (h := ?_) | refine sy_not (h := ?_) | refine sy_eql (h := ?_) | refine sy_neq (h := ?_) | refine sy_lss (h := ?_) | refine sy_leq (h := ?_) | refine sy_gtr (h := ?_) | refine sy_geq (h := ?_) | refine sy_seql (h := ?_) | refine sy_sneq (h := ?_) | refine sy_slen (h := ?_) | refine sy_len (h := ?_) | refine sy_extract (h := ?_) | refine sy_add (h := ?_) | refine sy_sub (h := ?_) | refine sw_skipT (h := ?_) | refine sw_skipF (h := ?_) | refine sw_skipU (h := ?_) | refine sw_alloc (h := fun _ => ?_) | refine sw_box (h := fun _ => ?_) | refine sw_rangeS (h := fun _ => ?_) | refine sw_nextS (h1 := fun _ => ?_) (h2 := fun _ => ?_) | refine sw_bsl (h := fun _ => ?_) | refine sw_st1 (h := ?_) | refine sw_stAll (h := ?_) | refine cw_cond_t (ht := ?_) | refine cw_cond_f (hf := ?_) | apply cw_skip | apply cw_block | apply cw_ret | apply cw_exit | refine sy_and (h := ?_) | refine sy_or (h := ?_) | refine sy_xor (h := ?_) | refine sy_andNot (h := ?_) | refine sy_xorU (h := ?_) | refine sy_shl (h := ?_) | refine sy_shr (h := ?_) | refine sy_mul (h := ?_) | refine sy_int (h := ?_) | refine sy_beql (h := ?_) | refine sy_bneq (h := ?_) | refine sy_min (h := ?_) | refine sy_max (h := ?_) | refine sy_arrA (h := ?_) | refine sy_strI (h := ?_) | (refine sy_idxX (q := i.k * 6) (h := ?_)) | (refine sy_fldX (h := ?_)) | (refine sy_ldX (q := i.k * 6 + 1) (u := c.acts.v) (hF := fun w h => (Chains.get h hc).2.2 1 _ rfl) (h := ?_)) | ((fail_if_success (refine sw_chk (h := ?_))); refine sw_guard (ht := ?_) (hf := ?_); all_goals (intro hx_; first | have := of_decide_eq_true hx_ | have := of_decide_eq_false hx_ | skip)) | (refine cw_cond (ht := ?_) (hf := ?_); all_goals (intro hx_; first | have := of_decide_eq_true hx_ | have := of_decide_eq_false hx_ | skip)))
    · have hjl : j.k < c.actsL.length := by omega
      have hp3 := hp2 (by omega)
      obtain ⟨x, hx⟩ : ∃ x, c.actsL[j.k]? = some x := ⟨_, List.getElem?_eq_getElem hjl⟩
      have hB : shortBad c.actsL j.k = (decide (8 < x.to.n) || decide (8 < x.wraps.n) || decide (600 < x.text.size) || decide (600 < x.body.data.size)) := by simp only [shortBad, List.getD_eq_getElem?_getD, hx, Option.getD_some]
      repeat' (first | apply sw_nil | apply cw_seq | apply cw_reg | refine sy_move (h := ?_) | refine sy_assign (h := ?_) | refine sy_nilCheck (h := ?_) | refine sy_fld (h := ?_) | refine sy_ld (h := ?_) | refine sy_ldAll (h := ?_) | refine sy_pick_t (h := ?_) | refine sy_pick_f (h := ?_) | refine sy_not (h := ?_) | refine sy_eql (h := ?_) | refine sy_neq (h := ?_) | refine sy_lss (h := ?_) | refine sy_leq (h := ?_) | refine sy_gtr (h := ?_) | refine sy_geq (h := ?_) | refine sy_seql (h := ?_) | refine sy_sneq (h := ?_) | refine sy_slen (h := ?_) | refine sy_len (h := ?_) | refine sy_extract (h := ?_) | refine sy_add (h := ?_) | refine sy_sub (h := ?_) | refine sw_skipT (h := ?_) | refine sw_skipF (h := ?_) | refine sw_skipU (h := ?_) | refine sw_alloc (h := fun _ => ?_) | refine sw_box (h := fun _ => ?_) | refine sw_rangeS (h := fun _ => ?_) | refine sw_nextS (h1 := fun _ => ?_) (h2 := fun _ => ?_) | refine sw_bsl (h := fun _ => ?_) | refine sw_st1 (h := ?_) | refine sw_stAll (h := ?_) | refine cw_cond_t (ht := ?_) | refine cw_cond_f (hf := ?_) | apply cw_skip | apply cw_block | apply cw_ret | apply cw_exit | refine sy_and (h := ?_) | refine sy_or (h := ?_) | refine sy_xor (h := ?_) | refine sy_andNot (h := ?_) | refine sy_xorU (h := ?_) | refine sy_shl (h := ?_) | refine sy_shr (h := ?_) | refine sy_mul (h := ?_) | refine sy_int (h := ?_) | refine sy_beql (h := ?_) | refine sy_bneq (h := ?_) | refine sy_min (h := ?_) | refine sy_max (h := ?_) | refine sy_arrA (h := ?_) | refine sy_strI (h := ?_) | (refine sy_idxX (q := j.k * 20) (h := ?_)) | (refine sy_ldXs (cs := x.cells) (hF := fun w h => Acts.get (h.2 c hcm) hx) (h := ?_)) | ((fail_if_success (refine sw_chk (h := ?_))); refine sw_guard (ht := ?_) (hf := ?_); all_goals (intro hx_; first | have := of_decide_eq_true hx_ | have := of_decide_eq_false hx_ | skip)) | (refine cw_cond (ht := ?_) (hf := ?_); all_goals (intro hx_; first | have := of_decide_eq_true hx_ | have := of_decide_eq_false hx_ | skip)))
      all_goals first
        | (apply ends_ret; apply res_tmp; rfl; rfl
           have hb : shortBad c.actsL j.k = true := by
             rw [hB]; simp only [Bool.or_eq_true, decide_eq_true_eq]; simp only [decide_eq_true_eq, decide_eq_false_iff_not] at *; omega
           rw [fewV, allB_false hlt (by rw [hfb, shortV, allB_false hjl hb, Bool.and_false]; rfl), Bool.and_false])
        | (have hb : shortBad c.actsL j.k = false := by
             rw [hB]; simp only [Bool.or_eq_false_iff, decide_eq_false_iff_not]; simp only [decide_eq_true_eq, decide_eq_false_iff_not] at *; omega
           exact ⟨j.next hjl hb, (by show c.actsL.length - (j.k + 1) < c.actsL.length - j.k; omega), ok_sub ⟨rfl, rfl, rfl, trivial⟩ (List.Sublist.cons _ (List.Sublist.refl _)) fun _ h => h⟩)
    · have hsv : shortV c = true := by rw [shortV, j.all (by omega), decide_eq_true (by omega)]; rfl
      exact ⟨i.next hlt (by rw [hfb, hsv]; rfl), (by show l.length - (i.k + 1) < l.length - i.k; omega), ok_sub ⟨rfl, rfl, trivial⟩ (List.Sublist.refl _) fun _ h => h⟩
  · apply ends_ret; apply res_tmp; rfl; rfl
    rw [fewV, i.all (by omega), decide_eq_true (by omega)]
    rfl
def CntD.zero : CntD := ⟨⟨#[]⟩, 0⟩
def eqCD (a b : CntD) : Bool := seqB a.name b.name && decide (a.n = b.n)
theorem eqCD_iff {a b : CntD} : eqCD a b = true ↔ a = b := by
  cases a; cases b
  simp only [eqCD, Bool.and_eq_true, seqB_iff, decide_eq_true_eq, CntD.mk.injEq]
theorem run_eqCD (w : World) (d : Nat) (a b : CntD) : (Op.equalIn (d + 2) 55 a.v b.v).run Tryz.prog w = .ok (eqCD a b) w := by
  have p0 : ∀ x : CntD, (part 9 x.cells.toArray 0).run Tryz.prog w = .ok (.string x.name) w := fun x => run_partS w rfl
  have p1 : ∀ x : CntD, (part 3 x.cells.toArray 1).run Tryz.prog w = .ok (.int .i64 x.n) w := fun x => run_partI w rfl
  unfold CntD.v
  rw [run_equalIn_agg _ _ _ _ _ (by kernel_rfl) (by kernel_rfl)]
  simp only [Program.fieldsOf, Tryz.underlying55]
  simp [Op.eqFields, p0, p1, eqS_run, eqI_run]
  unfold eqCD
  cases seqB a.name b.name <;> by_cases h : a.n = b.n <;> simp [h, Int.ofNat_inj]
section
variable {N : Nat} {av bor : List Nat} {w0 : World} {ops : Array Oper} {rest : List Oper} {k : St → Prop} {E : Env} {loc : List Res} {X : World → Prop} {x y : Operand} {t2 : TypeId}
variable {n : Nat} {ty : TypeId} {pos : String} {af : Array Edge} {g : Option (Nat × Bool)} {bb want : Bool} {st : St}
theorem y_neqCD (a b : CntD) (hx : ev st.env x = some a.v) (hy : ev st.env y = some b.v) : Sy.Yields Tryz.prog N av bor w0 st (.binOp .neq 55 x y t2) ty (.bool (!eqCD a b)) := Sy.Yields.mk fun A w ok d pos af g => by
  have h1 := run_eqGuard_agg (P := Tryz.prog) w .neq 55 x y a.cells.toArray b.cells.toArray (by kernel_rfl)
  have h2 := run_neq_struct (P := Tryz.prog) w 55 a.cells.toArray b.cells.toArray
  have h3 := run_eqCD w 9998 a b
  simp only [CntD.v] at hx hy h3
  simp [execOp, ok.eval hx, ok.eval hy, h1, h2, h3]
end
theorem Cnts.know {s : SlV} {l : List CntD} : ∀ w, Cnts w s l → s.n = l.length ∧ s.n ≤ maxLen ∧ (0 < l.length → s.p.isSome = true) := fun w h =>
  ⟨by have := RowsD.len h; simpa using this, Nat.le_trans (RowsD.cap h) (RowsD.max h), fun hl => (RowsD.row h 0 l[0].cells (by simp [List.getElem?_eq_getElem hl])).2.1⟩
theorem Cnts.get {w : World} {s : SlV} {l : List CntD} (h : Cnts w s l) {i : Nat} {x : CntD} (hx : l[i]? = some x) : x.cells.length = 2 ∧ s.p.isSome = true ∧ ∀ j u, x.cells[j]? = some u → CellAt w s.p (i * 2 + j) u :=
  RowsD.row h i x.cells (by simp [hx])
def eqBadC (l m : List CntD) (k : Nat) : Bool := !eqCD (l.getD k CntD.zero) (m.getD k CntD.zero)
def eqCL (l m : List CntD) : Bool := decide (l.length = m.length) && allB l.length (eqBadC l m)
theorem eqCL_refl (l : List CntD) : eqCL l l = true := by
  rw [eqCL, decide_eq_true rfl, Bool.true_and]
  refine allB_true fun j hj => ?_
  simp only [eqBadC, eqCD_iff.2 rfl, Bool.not_true]
theorem same34_pu (s r : SlV) (l m : List CntD) : Pu Tryz.prog 21 #[s.v, r.v] (fun w => Cnts w s l ∧ Cnts w r m) (.bool (eqCL l m)) := by
  refine pu_of_cw (args := [_, _]) _ Tryz.func21 rfl Tryz.ntmps21 rfl fun av bor w0 => ?_
  refine cw_know (fun w h => And.intro (Cnts.know w h.1) (Cnts.know w h.2)) fun ⟨⟨hl, hm, hp⟩, ⟨hl', hm', hp'⟩⟩ => ?_
  simp only [maxLen] at hm hm'
  repeat' (first | apply sw_nil | apply cw_seq | apply cw_reg | refine sy_move (h := ?_) | refine sy_assign (h := ?_) | refine sy_nilCheck (h := ?_) | refine sy_fld (h := ?_) | refine sy_ld (h := ?_) | refine sy_ldAll (h := ?_) | refine sy_pick_t (h := ?_) | refine sy_pick_f (h := ?_) | refine sy_not (h := ?_) | refine sy_eql (h := ?_) | refine sy_neq (h := ?_) | refine sy_lss (h := ?_) | refine sy_leq (h := ?_) | refine sy_gtr (h := ?_) | refine sy_geq (h := ?_) | refine sy_seql (h := ?_) | refine sy_sneq (h := ?_) | refine sy_slen (h := ?_) | refine sy_len (h := ?_) | refine sy_extract (h := ?_) | refine sy_add (h := ?_) | refine sy_sub (h := ?_) | refine sw_skipT (h := ?_) | refine sw_skipF (h := ?_) | refine sw_skipU (h := ?_) | refine sw_alloc (h := fun _ => ?_) | refine sw_box (h := fun _ => ?_) | refine sw_rangeS (h := fun _ => ?_) | refine sw_nextS (h1 := fun _ => ?_) (h2 := fun _ => ?_) | refine sw_bsl (h := fun _ => ?_) | refine sw_st1 (h := ?_) | refine sw_stAll (h := ?_) | refine cw_cond_t (ht := ?_) | refine cw_cond_f (hf := ?_) | apply cw_skip | apply cw_block | apply cw_ret | apply cw_exit | refine sy_and (h := ?_) | refine sy_or (h := ?_) | refine sy_xor (h := ?_) | refine sy_andNot (h := ?_) | refine sy_xorU (h := ?_) | refine sy_shl (h := ?_) | refine sy_shr (h := ?_) | refine sy_mul (h := ?_) | refine sy_int (h := ?_) | refine sy_beql (h := ?_) | refine sy_bneq (h := ?_) | refine sy_min (h := ?_) | refine sy_max (h := ?_) | refine sy_arrA (h := ?_) | refine sy_strI (h := ?_) | ((fail_if_success (refine sw_chk (h := ?_))); refine sw_guard (ht := ?_) (hf := ?_); all_goals (intro hx_; first | have := of_decide_eq_true hx_ | have := of_decide_eq_false hx_ | skip)) | (refine cw_cond (ht := ?_) (hf := ?_); all_goals (intro hx_; first | have := of_decide_eq_true hx_ | have := of_decide_eq_false hx_ | skip)))
  · apply ends_ret; apply res_tmp; rfl; rfl
    have : ¬ l.length = m.length := by
      have h1 : ¬ (s.n : Int) = (r.n : Int) := by simpa using hx_
      omega
    simp only [eqCL, decide_eq_false this, Bool.false_and]
  have hlm : l.length = m.length := by
    have h1 : (s.n : Int) = (r.n : Int) := by simpa using hx_
    omega
  refine cw_loop (ι := Upto l.length (eqBadC l m)) (fun i => ⟨[(0, s.v), (1, r.v), (5, .int .i64 i.k)], [], fun w => Cnts w s l ∧ Cnts w r m⟩) (fun i => l.length - i.k) (Upto.zero _ _) (ok_sub (by repeat (first | exact trivial | refine ⟨rfl, ?_⟩)) (List.Sublist.refl _) fun _ h => h) fun i => ?_
  have hik := i.hk
  repeat' (first | apply sw_nil | apply cw_seq | apply cw_reg | refine sy_move (h := ?_) | refine sy_assign (h := ?_) | refine sy_nilCheck (h := ?_) | refine sy_fld (h := ?_) | refine sy_ld (h := ?_) | refine sy_ldAll (h := ?_) | refine sy_pick_t (h := ?_) | refine sy_pick_f (h := ?_) | refine sy_not (h := ?_) | refine sy_eql (h := ?_) | refine sy_neq (h := ?_) | refine sy_lss (h := ?_) | refine sy_leq (h := ?_) | refine sy_gtr (h := ?_) | refine sy_geq (h := ?_) | refine sy_seql (h := ?_) | refine sy_sneq (h := ?_) | refine sy_slen (h := ?_) | refine sy_len (h := ?_) | refine sy_extract (h := ?_) | refine sy_add (h := ?_) | refine sy_sub (h := ?_) | refine sw_skipT (h := ?_) | refine sw_skipF (h := ?_) | refine sw_skipU (h := ?_) | refine sw_alloc (h := fun _ => ?_) | refine sw_box (h := fun _ => ?_) | refine sw_rangeS (h := fun _ => ?_) | refine sw_nextS (h1 := fun _ => ?_) (h2 := fun _ => ?_) | refine sw_bsl (h := fun _ => ?_) | refine sw_st1 (h := ?_) | refine sw_stAll (h := ?_) | refine cw_cond_t (ht := ?_) | refine cw_cond_f (hf := ?_) | apply cw_skip | apply cw_block | apply cw_ret | apply cw_exit | refine sy_and (h := ?_) | refine sy_or (h := ?_) | refine sy_xor (h := ?_) | refine sy_andNot (h := ?_) | refine sy_xorU (h := ?_) | refine sy_shl (h := ?_) | refine sy_shr (h := ?_) | refine sy_mul (h := ?_) | refine sy_int (h := ?_) | refine sy_beql (h := ?_) | refine sy_bneq (h := ?_) | refine sy_min (h := ?_) | refine sy_max (h := ?_) | refine sy_arrA (h := ?_) | refine sy_strI (h := ?_) | ((fail_if_success (refine sw_chk (h := ?_))); refine sw_guard (ht := ?_) (hf := ?_); all_goals (intro hx_; first | have := of_decide_eq_true hx_ | have := of_decide_eq_false hx_ | skip)) | (refine cw_cond (ht := ?_) (hf := ?_); all_goals (intro hx_; first | have := of_decide_eq_true hx_ | have := of_decide_eq_false hx_ | skip)))
  · have hlt : i.k < l.length := by omega
    have hlt' : i.k < m.length := by omega
    have hp1 := hp (by omega)
    have hp2 := hp' (by omega)
    have hx : l[i.k]? = some (l.getD i.k CntD.zero) := by rw [List.getD_eq_getElem?_getD, List.getElem?_eq_getElem hlt]; rfl
    have hx' : m[i.k]? = some (m.getD i.k CntD.zero) := by rw [List.getD_eq_getElem?_getD, List.getElem?_eq_getElem hlt']; rfl
    have hB : eqBadC l m i.k = !eqCD (l.getD i.k CntD.zero) (m.getD i.k CntD.zero) := rfl
    generalize l.getD i.k CntD.zero = x at *
    generalize m.getD i.k CntD.zero = x' at *
    (refine cw_draw [] (fun w => Cnts w s l ∧ Cnts w r m) (by kernel_rfl) ?_)
    all_goals (refine aw_take 0 (h := ?_))
    all_goals (refine aw_take 1 (h := ?_))
    all_goals (first | refine aw_take 2 (h := ?_) | refine aw_take 2 (hy := by (first | (apply y_idxX (q := i.k * 2); rfl; rfl; omega; omega; assumption; omega))) (h := ?_))
    all_goals (first | refine aw_take 3 (h := ?_) | refine aw_take 3 (hy := by (first | (apply y_ldXs (cs := x.cells); rfl; exact fun w h => Cnts.get h.1 hx) | (apply y_ldXs (cs := x'.cells); rfl; exact fun w h => Cnts.get h.2 hx'))) (h := ?_))
    all_goals (refine aw_take 4 (h := ?_))
    all_goals (refine aw_take 5 (h := ?_))
    all_goals (first | refine aw_take 6 (h := ?_) | refine aw_take 6 (hy := by (first | (apply y_idxX (q := i.k * 2); rfl; rfl; omega; omega; assumption; omega))) (h := ?_))
    all_goals (first | refine aw_take 7 (h := ?_) | refine aw_take 7 (hy := by (first | (apply y_ldXs (cs := x.cells); rfl; exact fun w h => Cnts.get h.1 hx) | (apply y_ldXs (cs := x'.cells); rfl; exact fun w h => Cnts.get h.2 hx'))) (h := ?_))
    all_goals (first | refine aw_take 8 (h := ?_) | refine aw_take 8 (hy := by (first | (apply y_neqCD x x'; rfl; rfl))) (h := ?_))
    all_goals (refine aw_done (h := ?_))
    repeat' (first | apply sw_nil | apply cw_seq | apply cw_reg | refine sy_move (h := ?_) | refine sy_assign (h := ?_) | refine sy_nilCheck (h := ?_) | refine sy_fld (h := ?_) | refine sy_ld (h := ?_) | refine sy_ldAll (h := ?_) | refine sy_pick_t (h := ?_) | refine sy_pick_f (h := ?_) | refine sy_not (h := ?_) | refine sy_eql (h := ?_) | refine sy_neq (h := ?_) | refine sy_lss (h := ?_) | refine sy_leq (h := ?_) | refine sy_gtr (h := ?_) | refine sy_geq (h := ?_) | refine sy_seql (h := ?_) | refine sy_sneq (h := ?_) | refine sy_slen (h := ?_) | refine sy_len (h := ?_) | refine sy_extract (h := ?_) | refine sy_add (h := ?_) | refine sy_sub (h := ?_) | refine sw_skipT (h := ?_) | refine sw_skipF (h := ?_) | refine sw_skipU (h := ?_) | refine sw_alloc (h := fun _ => ?_) | refine sw_box (h := fun _ => ?_) | refine sw_rangeS (h := fun _ => ?_) | refine sw_nextS (h1 := fun _ => ?_) (h2 := fun _ => ?_) | refine sw_bsl (h := fun _ => ?_) | refine sw_st1 (h := ?_) | refine sw_stAll (h := ?_) | refine cw_cond_t (ht := ?_) | refine cw_cond_f (hf := ?_) | apply cw_skip | apply cw_block | apply cw_ret | apply cw_exit | refine sy_and (h := ?_) | refine sy_or (h := ?_) | refine sy_xor (h := ?_) | refine sy_andNot (h := ?_) | refine sy_xorU (h := ?_) | refine sy_shl (h := ?_) | refine sy_shr (h := ?_) | refine sy_mul (h := ?_) | refine sy_int (h := ?_) | refine sy_beql (h := ?_) | refine sy_bneq (h := ?_) | refine sy_min (h := ?_) | refine sy_max (h := ?_) | refine sy_arrA (h := ?_) | refine sy_strI (h := ?_) | ((fail_if_success (refine sw_chk (h := ?_))); refine sw_guard (ht := ?_) (hf := ?_); all_goals (intro hx_; first | have := of_decide_eq_true hx_ | have := of_decide_eq_false hx_ | skip)) | (refine cw_cond (ht := ?_) (hf := ?_); all_goals (intro hx_; first | have := of_decide_eq_true hx_ | have := of_decide_eq_false hx_ | skip)))
    · apply ends_ret; apply res_tmp; rfl; rfl
      rw [eqCL, allB_false hlt (by rw [hB]; assumption), Bool.and_false]
    · exact ⟨i.next hlt (by rw [hB]; assumption), (by show l.length - (i.k + 1) < l.length - i.k; omega), ok_sub (by repeat (first | exact trivial | refine ⟨rfl, ?_⟩)) (List.Sublist.refl _) fun _ h => h⟩
  · apply ends_ret; apply res_tmp; rfl; rfl
    rw [eqCL, i.all (by omega), decide_eq_true hlm]
    rfl
/-! Reports -/
def repB (id : ByteArray) (a : ActD) : Bool := decide (a.kind = 12) && seqB a.object id
def repA (l : List ActD) (id : ByteArray) : Nat → Bool
  | 0 => false
  | j + 1 => repA l id j || repB id (l.getD j ActD.zero)
def repF (l : List ChainD) (id : ByteArray) : Nat → List ByteArray
  | 0 => []
  | i + 1 => bif repA (l.getD i ChainD.zero).actsL id (l.getD i ChainD.zero).actsL.length then sput (repF l id i) (l.getD i ChainD.zero).id else repF l id i
def reportsV (l : List ChainD) (id : ByteArray) : Nat := bif seqB id ⟨#[]⟩ then 0 else (repF l id l.length).length
theorem sput_sput : ∀ (ks : List ByteArray) (k : ByteArray), sput (sput ks k) k = sput ks k
  | [], k => by simp only [sput, (KeyT.eqb_iff k k).2 rfl, cond_true]
  | a :: ks, k => by
    have ih := sput_sput ks k
    simp only [sput]
    cases h : KeyT.eqb k a with
    | true => simp only [cond_true, sput, (KeyT.eqb_iff k k).2 rfl]
    | false => simp only [cond_false, sput, h, ih]
set_option maxHeartbeats 2000000 in
theorem reports_pu (s : SlV) (l : List ChainD) (id : ByteArray) (hlen : ∀ c ∈ l, c.actsL.length ≤ 1000000) : Pu Tryz.prog 41 #[s.v, .string id] (fun w => Chains w s l) (.int .i64 (reportsV l id)) := by
  refine pu_of_cw (args := [_, _]) _ Tryz.func41 rfl Tryz.ntmps41 rfl fun av bor w0 => ?_
  refine cw_know (p := s.n = l.length ∧ s.n ≤ maxLen ∧ (0 < l.length → s.p.isSome = true)) (fun w h => ⟨h.len_, h.max_, h.some_⟩) fun ⟨hl, hm, hp⟩ => ?_
  simp only [maxLen] at hm
  cases ht : seqB id ⟨#[]⟩ with
  | true =>
    repeat' (first | apply sw_nil | apply cw_seq | apply cw_reg | refine sy_move (h := ?_) | refine sy_assign (h := ?_) | refine sy_nilCheck (h := ?_) | refine sy_fld (h := ?_) | refine sy_ld (h := ?_) | refine sy_ldAll (h := ?_) | refine sy_pick_t (h := ?_) | refine sy_pick_f (h := ?_) | refine sy_not (h := ?_) | refine sy_eql (h := ?_) | refine sy_neq (h := ?_) | refine sy_lss (h := ?_) | refine sy_leq (h := ?_) | refine sy_gtr (h := ?_) | refine sy_geq (h := ?_) | refine sy_seql (h := ?_) | refine sy_sneq (h := ?_) | refine sy_slen (h := ?_) | refine sy_len (h := ?_) | refine sy_extract (h := ?_) | refine sy_add (h := ?_) | refine sy_sub (h := ?_) | refine sw_skipT (h := ?_) | refine sw_skipF (h := ?_) | refine sw_skipU (h := ?_) | refine sw_alloc (h := fun _ => ?_) | refine sw_box (h := fun _ => ?_) | refine sw_rangeS (h := fun _ => ?_) | refine sw_nextS (h1 := fun _ => ?_) (h2 := fun _ => ?_) | refine sw_bsl (h := fun _ => ?_) | refine sw_st1 (h := ?_) | refine sw_stAll (h := ?_) | refine cw_cond_t (ht := ?_) | refine cw_cond_f (hf := ?_) | apply cw_skip | apply cw_block | apply cw_ret | apply cw_exit | refine sy_and (h := ?_) | refine sy_or (h := ?_) | refine sy_xor (h := ?_) | refine sy_andNot (h := ?_) | refine sy_xorU (h := ?_) | refine sy_shl (h := ?_) | refine sy_shr (h := ?_) | refine sy_mul (h := ?_) | refine sy_int (h := ?_) | refine sy_beql (h := ?_) | refine sy_bneq (h := ?_) | refine sy_min (h := ?_) | refine sy_max (h := ?_) | refine sy_arrA (h := ?_) | refine sy_strI (h := ?_))
    apply ends_ret; apply res_tmp; rfl; rfl
    rw [reportsV, ht]
    rfl
  | false =>
    have hS : ∀ i, repF l id (i + 1) = _ := fun i => repF.eq_2 l id i
    have hofV : reportsV l id = (repF l id l.length).length := by rw [reportsV, ht]; rfl
    generalize hFg : repF l id = F at *
    repeat' (first | apply sw_nil | apply cw_seq | apply cw_reg | refine sy_move (h := ?_) | refine sy_assign (h := ?_) | refine sy_nilCheck (h := ?_) | refine sy_fld (h := ?_) | refine sy_ld (h := ?_) | refine sy_ldAll (h := ?_) | refine sy_pick_t (h := ?_) | refine sy_pick_f (h := ?_) | refine sy_not (h := ?_) | refine sy_eql (h := ?_) | refine sy_neq (h := ?_) | refine sy_lss (h := ?_) | refine sy_leq (h := ?_) | refine sy_gtr (h := ?_) | refine sy_geq (h := ?_) | refine sy_seql (h := ?_) | refine sy_sneq (h := ?_) | refine sy_slen (h := ?_) | refine sy_len (h := ?_) | refine sy_extract (h := ?_) | refine sy_add (h := ?_) | refine sy_sub (h := ?_) | refine sw_skipT (h := ?_) | refine sw_skipF (h := ?_) | refine sw_skipU (h := ?_) | refine sw_alloc (h := fun _ => ?_) | refine sw_box (h := fun _ => ?_) | refine sw_rangeS (h := fun _ => ?_) | refine sw_nextS (h1 := fun _ => ?_) (h2 := fun _ => ?_) | refine sw_bsl (h := fun _ => ?_) | refine sw_st1 (h := ?_) | refine sw_stAll (h := ?_) | refine cw_cond_t (ht := ?_) | refine cw_cond_f (hf := ?_) | apply cw_skip | apply cw_block | apply cw_ret | apply cw_exit | refine sy_and (h := ?_) | refine sy_or (h := ?_) | refine sy_xor (h := ?_) | refine sy_andNot (h := ?_) | refine sy_xorU (h := ?_) | refine sy_shl (h := ?_) | refine sy_shr (h := ?_) | refine sy_mul (h := ?_) | refine sy_int (h := ?_) | refine sy_beql (h := ?_) | refine sy_bneq (h := ?_) | refine sy_min (h := ?_) | refine sy_max (h := ?_) | refine sy_arrA (h := ?_) | refine sy_strI (h := ?_) | (refine sw_makeMap ByteArray (h := fun q => ?_)) | ((fail_if_success (refine sw_chk (h := ?_))); refine sw_guard (ht := ?_) (hf := ?_); all_goals (intro hx_; first | have := of_decide_eq_true hx_ | have := of_decide_eq_false hx_ | skip)) | (refine cw_cond (ht := ?_) (hf := ?_); all_goals (intro hx_; first | have := of_decide_eq_true hx_ | have := of_decide_eq_false hx_ | skip)))
    refine cw_loop (ι := Kth l.length) (fun i => ⟨[(1, .string id), (5, .map (some q)), (13, s.v), (14, .int .i64 s.n), (15, .int .i64 i.k)], [mapr q (setM (F i.k))], fun w => Chains w s l⟩) (fun i => l.length - i.k) ⟨0, Nat.zero_le _⟩ (ok_sub ⟨rfl, rfl, rfl, rfl, rfl, trivial⟩ (by rw [← hFg]; exact List.Sublist.refl _) fun _ h => h) fun i => ?_
    have hik := i.hk
    repeat' (first | apply sw_nil | apply cw_seq | apply cw_reg | refine sy_move (h := ?_) | refine sy_assign (h := ?_) | refine sy_nilCheck (h := ?_) | refine sy_fld (h := ?_) | refine sy_ld (h := ?_) | refine sy_ldAll (h := ?_) | refine sy_pick_t (h := ?_) | refine sy_pick_f (h := ?_) | refine sy_not (h := ?_) | refine sy_eql (h := ?_) | refine sy_neq (h := ?_) | refine sy_lss (h := ?_) | refine sy_leq (h := ?_) | refine sy_gtr (h := ?_) | refine sy_geq (h := ?_) | refine sy_seql (h := ?_) | refine sy_sneq (h := ?_) | refine sy_slen (h := ?_) | refine sy_len (h := ?_) | refine sy_extract (h := ?_) | refine sy_add (h := ?_) | refine sy_sub (h := ?_) | refine sw_skipT (h := ?_) | refine sw_skipF (h := ?_) | refine sw_skipU (h := ?_) | refine sw_alloc (h := fun _ => ?_) | refine sw_box (h := fun _ => ?_) | refine sw_rangeS (h := fun _ => ?_) | refine sw_nextS (h1 := fun _ => ?_) (h2 := fun _ => ?_) | refine sw_bsl (h := fun _ => ?_) | refine sw_st1 (h := ?_) | refine sw_stAll (h := ?_) | refine cw_cond_t (ht := ?_) | refine cw_cond_f (hf := ?_) | apply cw_skip | apply cw_block | apply cw_ret | apply cw_exit | refine sy_and (h := ?_) | refine sy_or (h := ?_) | refine sy_xor (h := ?_) | refine sy_andNot (h := ?_) | refine sy_xorU (h := ?_) | refine sy_shl (h := ?_) | refine sy_shr (h := ?_) | refine sy_mul (h := ?_) | refine sy_int (h := ?_) | refine sy_beql (h := ?_) | refine sy_bneq (h := ?_) | refine sy_min (h := ?_) | refine sy_max (h := ?_) | refine sy_arrA (h := ?_) | refine sy_strI (h := ?_) | ((fail_if_success (refine sw_chk (h := ?_))); refine sw_guard (ht := ?_) (hf := ?_); all_goals (intro hx_; first | have := of_decide_eq_true hx_ | have := of_decide_eq_false hx_ | skip)) | (refine cw_cond (ht := ?_) (hf := ?_); all_goals (intro hx_; first | have := of_decide_eq_true hx_ | have := of_decide_eq_false hx_ | skip)))
    · have hlt : i.k < l.length := by omega
      have hp' := hp (by omega)
      obtain ⟨c, hc⟩ : ∃ c, l[i.k]? = some c := ⟨_, List.getElem?_eq_getElem hlt⟩
      have hcm := List.mem_of_getElem? hc
      have hcl := hlen c hcm
      have hSx := hS i.k
      rw [show l.getD i.k ChainD.zero = c from by rw [List.getD_eq_getElem?_getD, hc]; rfl] at hSx
      refine sw_know (p := c.acts.n = c.actsL.length ∧ c.acts.n ≤ maxLen ∧ (0 < c.actsL.length → c.acts.p.isSome = true)) (fun w h => ⟨(h.2 c hcm).len_, (h.2 c hcm).max_, (h.2 c hcm).some_⟩) fun ⟨hl2, hm2, hp2⟩ => ?_
      simp only [maxLen] at hm2
      generalize F i.k = R at *
      repeat' (first | apply sw_nil | apply cw_seq | apply cw_reg | refine sy_move (h := ?_) | refine sy_assign (h := ?_) | refine sy_nilCheck (h := ?_) | refine sy_fld (h := ?_) | refine sy_ld (h := ?_) | refine sy_ldAll (h := ?_) | refine sy_pick_t (h := ?_) | refine sy_pick_f (h := ?_) | refine sy_not (h := ?_) | refine sy_eql (h := ?_) | refine sy_neq (h := ?_) | refine sy_lss (h := ?_) | refine sy_leq (h := ?_) | refine sy_gtr (h := ?_) | refine sy_geq (h := ?_) | refine sy_seql (h := ?_) | refine sy_sneq (h := ?_) | refine sy_slen (h := ?_) | refine sy_len (h := ?_) | refine sy_extract (h := ?_) | refine sy_add (h := ?_) | refine sy_sub (h := ?_) | refine sw_skipT (h := ?_) | refine sw_skipF (h := ?_) | refine sw_skipU (h := ?_) | refine sw_alloc (h := fun _ => ?_) | refine sw_box (h := fun _ => ?_) | refine sw_rangeS (h := fun _ => ?_) | refine sw_nextS (h1 := fun _ => ?_) (h2 := fun _ => ?_) | refine sw_bsl (h := fun _ => ?_) | refine sw_st1 (h := ?_) | refine sw_stAll (h := ?_) | refine cw_cond_t (ht := ?_) | refine cw_cond_f (hf := ?_) | apply cw_skip | apply cw_block | apply cw_ret | apply cw_exit | refine sy_and (h := ?_) | refine sy_or (h := ?_) | refine sy_xor (h := ?_) | refine sy_andNot (h := ?_) | refine sy_xorU (h := ?_) | refine sy_shl (h := ?_) | refine sy_shr (h := ?_) | refine sy_mul (h := ?_) | refine sy_int (h := ?_) | refine sy_beql (h := ?_) | refine sy_bneq (h := ?_) | refine sy_min (h := ?_) | refine sy_max (h := ?_) | refine sy_arrA (h := ?_) | refine sy_strI (h := ?_) | (refine sy_idxX (q := i.k * 6) (h := ?_)) | (refine sy_ldXs (cs := c.cells) (hF := fun w h => Chains.get h hc) (h := ?_)) | ((fail_if_success (refine sw_chk (h := ?_))); refine sw_guard (ht := ?_) (hf := ?_); all_goals (intro hx_; first | have := of_decide_eq_true hx_ | have := of_decide_eq_false hx_ | skip)) | (refine cw_cond (ht := ?_) (hf := ?_); all_goals (intro hx_; first | have := of_decide_eq_true hx_ | have := of_decide_eq_false hx_ | skip)))
      rename_i b7
      refine cw_loop (ι := Kth c.actsL.length) (fun j => ⟨[(1, .string id), (5, .map (some q)), (7, .pointer (some ⟨b7, 0, none⟩)), (13, s.v), (14, .int .i64 s.n), (15, .int .i64 i.k), (20, c.acts.v), (21, .int .i64 c.acts.n), (22, .int .i64 j.k)], [cel b7 40 c.cells, mapr q (setM (bif repA c.actsL id j.k then sput R c.id else R))], fun w => Chains w s l⟩) (fun j => c.actsL.length - j.k) ⟨0, Nat.zero_le _⟩ (ok_sub ⟨rfl, rfl, rfl, rfl, rfl, rfl, rfl, rfl, rfl, trivial⟩ (List.Sublist.refl _) fun _ h => h) fun j => ?_
      have hjk := j.hk
      repeat' (first | apply sw_nil | apply cw_seq | apply cw_reg | refine sy_move (h := ?_) | refine sy_assign (h := ?_) | refine sy_nilCheck (h := ?_) | refine sy_fld (h := ?_) | refine sy_ld (h := ?_) | refine sy_ldAll (h := ?_) | refine sy_pick_t (h := ?_) | refine sy_pick_f (h := ?_) | refine sy_not (h := ?_) | refine sy_eql (h := ?_) | refine sy_neq (h := ?_) | refine sy_lss (h := ?_) | refine sy_leq (h := ?_) | refine sy_gtr (h := ?_) | refine sy_geq (h := ?_) | refine sy_seql (h := ?_) | refine sy_sneq (h := ?_) | refine sy_slen (h := ?_) | refine sy_len (h := ?_) | refine sy_extract (h := ?_) | refine sy_add (h := ?_) | refine sy_sub (h := ?_) | refine sw_skipT (h := ?_) | refine sw_skipF (h := ?_) | refine sw_skipU (h := ?_) | refine sw_alloc (h := fun _ => ?_) | refine sw_box (h := fun _ => ?_) | refine sw_rangeS (h := fun _ => ?_) | refine sw_nextS (h1 := fun _ => ?_) (h2 := fun _ => ?_) | refine sw_bsl (h := fun _ => ?_) | refine sw_st1 (h := ?_) | refine sw_stAll (h := ?_) | refine cw_cond_t (ht := ?_) | refine cw_cond_f (hf := ?_) | apply cw_skip | apply cw_block | apply cw_ret | apply cw_exit | refine sy_and (h := ?_) | refine sy_or (h := ?_) | refine sy_xor (h := ?_) | refine sy_andNot (h := ?_) | refine sy_xorU (h := ?_) | refine sy_shl (h := ?_) | refine sy_shr (h := ?_) | refine sy_mul (h := ?_) | refine sy_int (h := ?_) | refine sy_beql (h := ?_) | refine sy_bneq (h := ?_) | refine sy_min (h := ?_) | refine sy_max (h := ?_) | refine sy_arrA (h := ?_) | refine sy_strI (h := ?_) | ((fail_if_success (refine sw_chk (h := ?_))); refine sw_guard (ht := ?_) (hf := ?_); all_goals (intro hx_; first | have := of_decide_eq_true hx_ | have := of_decide_eq_false hx_ | skip)) | (refine cw_cond (ht := ?_) (hf := ?_); all_goals (intro hx_; first | have := of_decide_eq_true hx_ | have := of_decide_eq_false hx_ | skip)))
      · have hjl : j.k < c.actsL.length := by omega
        have hp3 := hp2 (by omega)
        obtain ⟨x, hx⟩ : ∃ x, c.actsL[j.k]? = some x := ⟨_, List.getElem?_eq_getElem hjl⟩
        have hst : repA c.actsL id (j.k + 1) = (repA c.actsL id j.k || (decide (x.kind = 12) && seqB x.object id)) := by simp only [repA, repB, List.getD_eq_getElem?_getD, hx, Option.getD_some]
        have hps : mput (setM (bif repA c.actsL id j.k then sput R c.id else R)) c.id (.bool true) = setM (sput R c.id) := by
          rw [mput_set]
          cases repA c.actsL id j.k with
          | true => simp only [cond_true, sput_sput]
          | false => rfl
        generalize repA c.actsL id j.k = b at *
        generalize hbR : (bif b then sput R c.id else R) = bR at *
        repeat' (first | apply sw_nil | apply cw_seq | apply cw_reg | refine sy_move (h := ?_) | refine sy_assign (h := ?_) | refine sy_nilCheck (h := ?_) | refine sy_fld (h := ?_) | refine sy_ld (h := ?_) | refine sy_ldAll (h := ?_) | refine sy_pick_t (h := ?_) | refine sy_pick_f (h := ?_) | refine sy_not (h := ?_) | refine sy_eql (h := ?_) | refine sy_neq (h := ?_) | refine sy_lss (h := ?_) | refine sy_leq (h := ?_) | refine sy_gtr (h := ?_) | refine sy_geq (h := ?_) | refine sy_seql (h := ?_) | refine sy_sneq (h := ?_) | refine sy_slen (h := ?_) | refine sy_len (h := ?_) | refine sy_extract (h := ?_) | refine sy_add (h := ?_) | refine sy_sub (h := ?_) | refine sw_skipT (h := ?_) | refine sw_skipF (h := ?_) | refine sw_skipU (h := ?_) | refine sw_alloc (h := fun _ => ?_) | refine sw_box (h := fun _ => ?_) | refine sw_rangeS (h := fun _ => ?_) | refine sw_nextS (h1 := fun _ => ?_) (h2 := fun _ => ?_) | refine sw_bsl (h := fun _ => ?_) | refine sw_st1 (h := ?_) | refine sw_stAll (h := ?_) | refine cw_cond_t (ht := ?_) | refine cw_cond_f (hf := ?_) | apply cw_skip | apply cw_block | apply cw_ret | apply cw_exit | refine sy_and (h := ?_) | refine sy_or (h := ?_) | refine sy_xor (h := ?_) | refine sy_andNot (h := ?_) | refine sy_xorU (h := ?_) | refine sy_shl (h := ?_) | refine sy_shr (h := ?_) | refine sy_mul (h := ?_) | refine sy_int (h := ?_) | refine sy_beql (h := ?_) | refine sy_bneq (h := ?_) | refine sy_min (h := ?_) | refine sy_max (h := ?_) | refine sy_arrA (h := ?_) | refine sy_strI (h := ?_) | (refine sy_idxX (q := j.k * 20) (h := ?_)) | (refine sy_ldXs (cs := x.cells) (hF := fun w h => Acts.get (h.2 c hcm) hx) (h := ?_)) | (refine sw_update (κ := ByteArray) (kk := c.id) (hA := by (repeat (first | with_reducible exact At.here _ | apply At.there))) (h := ?_)) | ((fail_if_success (refine sw_chk (h := ?_))); refine sw_guard (ht := ?_) (hf := ?_); all_goals (intro hx_; first | have := of_decide_eq_true hx_ | have := of_decide_eq_false hx_ | skip)) | (refine cw_cond (ht := ?_) (hf := ?_); all_goals (intro hx_; first | have := of_decide_eq_true hx_ | have := of_decide_eq_false hx_ | skip)))
        all_goals first
          | (have e1 : repA c.actsL id (j.k + 1) = true := by rw [hst, decide_eq_true (by assumption), show seqB x.object id = true from by assumption, Bool.true_and, Bool.or_true]
             refine ⟨(⟨j.k + 1, hjl⟩ : Kth c.actsL.length), (by show c.actsL.length - (j.k + 1) < c.actsL.length - j.k; omega), ok_sub ⟨rfl, rfl, rfl, rfl, rfl, rfl, rfl, rfl, rfl, trivial⟩ ?_ fun _ h => h⟩
             show List.Sublist [_, mapr q (setM (bif repA c.actsL id (j.k + 1) then sput R c.id else R))] _
             rw [e1, cond_true, ← hps]
             exact List.Sublist.cons _ (List.Sublist.refl _))
          | (have e1 : repA c.actsL id (j.k + 1) = b := by rw [hst, decide_eq_true (by assumption), show seqB x.object id = false from by assumption, Bool.and_false, Bool.or_false]
             refine ⟨(⟨j.k + 1, hjl⟩ : Kth c.actsL.length), (by show c.actsL.length - (j.k + 1) < c.actsL.length - j.k; omega), ok_sub ⟨rfl, rfl, rfl, rfl, rfl, rfl, rfl, rfl, rfl, trivial⟩ ?_ fun _ h => h⟩
             show List.Sublist [_, mapr q (setM (bif repA c.actsL id (j.k + 1) then sput R c.id else R))] _
             rw [e1, hbR]
             exact List.Sublist.cons _ (List.Sublist.refl _))
          | (have e1 : repA c.actsL id (j.k + 1) = b := by rw [hst, decide_eq_false (by assumption), Bool.false_and, Bool.or_false]
             refine ⟨(⟨j.k + 1, hjl⟩ : Kth c.actsL.length), (by show c.actsL.length - (j.k + 1) < c.actsL.length - j.k; omega), ok_sub ⟨rfl, rfl, rfl, rfl, rfl, rfl, rfl, rfl, rfl, trivial⟩ ?_ fun _ h => h⟩
             show List.Sublist [_, mapr q (setM (bif repA c.actsL id (j.k + 1) then sput R c.id else R))] _
             rw [e1, hbR]
             exact List.Sublist.cons _ (List.Sublist.refl _))
      · have hj : j.k = c.actsL.length := by omega
        refine ⟨(⟨i.k + 1, hlt⟩ : Kth l.length), (by show l.length - (i.k + 1) < l.length - i.k; omega), ok_sub ⟨rfl, rfl, rfl, rfl, rfl, trivial⟩ ?_ fun _ h => h⟩
        show List.Sublist [mapr q (setM (F (i.k + 1)))] _
        rw [hSx, hj]
        exact List.Sublist.cons _ (List.Sublist.refl _)
    · have hk : i.k = l.length := by omega
      rw [hk]
      have hml : (setM (F l.length)).length = (F l.length).length := by simp [setM]
      repeat' (first | apply sw_nil | apply cw_seq | apply cw_reg | refine sy_move (h := ?_) | refine sy_assign (h := ?_) | refine sy_nilCheck (h := ?_) | refine sy_fld (h := ?_) | refine sy_ld (h := ?_) | refine sy_ldAll (h := ?_) | refine sy_pick_t (h := ?_) | refine sy_pick_f (h := ?_) | refine sy_not (h := ?_) | refine sy_eql (h := ?_) | refine sy_neq (h := ?_) | refine sy_lss (h := ?_) | refine sy_leq (h := ?_) | refine sy_gtr (h := ?_) | refine sy_geq (h := ?_) | refine sy_seql (h := ?_) | refine sy_sneq (h := ?_) | refine sy_slen (h := ?_) | refine sy_len (h := ?_) | refine sy_extract (h := ?_) | refine sy_add (h := ?_) | refine sy_sub (h := ?_) | refine sw_skipT (h := ?_) | refine sw_skipF (h := ?_) | refine sw_skipU (h := ?_) | refine sw_alloc (h := fun _ => ?_) | refine sw_box (h := fun _ => ?_) | refine sw_rangeS (h := fun _ => ?_) | refine sw_nextS (h1 := fun _ => ?_) (h2 := fun _ => ?_) | refine sw_bsl (h := fun _ => ?_) | refine sw_st1 (h := ?_) | refine sw_stAll (h := ?_) | refine cw_cond_t (ht := ?_) | refine cw_cond_f (hf := ?_) | apply cw_skip | apply cw_block | apply cw_ret | apply cw_exit | refine sy_and (h := ?_) | refine sy_or (h := ?_) | refine sy_xor (h := ?_) | refine sy_andNot (h := ?_) | refine sy_xorU (h := ?_) | refine sy_shl (h := ?_) | refine sy_shr (h := ?_) | refine sy_mul (h := ?_) | refine sy_int (h := ?_) | refine sy_beql (h := ?_) | refine sy_bneq (h := ?_) | refine sy_min (h := ?_) | refine sy_max (h := ?_) | refine sy_arrA (h := ?_) | refine sy_strI (h := ?_) | (refine sy_mlen (κ := ByteArray) (hl := by (repeat (first | exact List.mem_cons_self | apply List.mem_cons_of_mem))) (h := ?_)) | ((fail_if_success (refine sw_chk (h := ?_))); refine sw_guard (ht := ?_) (hf := ?_); all_goals (intro hx_; first | have := of_decide_eq_true hx_ | have := of_decide_eq_false hx_ | skip)) | (refine cw_cond (ht := ?_) (hf := ?_); all_goals (intro hx_; first | have := of_decide_eq_true hx_ | have := of_decide_eq_false hx_ | skip)))
      apply ends_ret; apply res_tmp; rfl; rfl
      rw [hofV, hml]
end Go.Proofs.YtfpojkoddcdojaaGreatDoor

/- Package agoralaw34: the examples. -/
set_option linter.unusedVariables false
set_option linter.unusedSimpArgs false
namespace Go.Proofs.YtfpojkoddcdojaaGreatDoor
open Go Go.Proofs Sy
def lbP1 : ActD := { ActD.zero with kind := 17, target := idB, text := spamS }
def lbP2 : ActD := { ActD.zero with kind := 17, target := idB, text := botS }
def lbP3 : ActD := { ActD.zero with kind := 12, object := xS }
def lbL : List ActD := [lbP1, lbP2, lbP3]
def chainB (b : Nat) : ChainD := ⟨idA, ⟨some ⟨b, 0, none⟩, 3, 3⟩, ⟨none, 0, 0⟩, ⟨#[]⟩, 0, false, lbL⟩
def lb0 : CntD := ⟨botS, 1⟩
def lb1 : CntD := ⟨spamS, 1⟩
theorem lbL_mem {P : ActD → Prop} (h1 : P lbP1) (h2 : P lbP2) (h3 : P lbP3) : ∀ a ∈ lbL, P a := by
  intro a ha
  simp only [lbL, List.mem_cons, List.not_mem_nil, or_false] at ha
  rcases ha with rfl | rfl | rfl
  · exact h1
  · exact h2
  · exact h3
theorem lbL_ok : ActsOk lbL := ⟨lbL_mem ⟨by decide, fun w hw => absurd hw (by show ¬ w ∈ []; simp), rfl, rfl⟩ ⟨by decide, fun w hw => absurd hw (by show ¬ w ∈ []; simp), rfl, rfl⟩ ⟨by decide, fun w hw => absurd hw (by show ¬ w ∈ []; simp), rfl, rfl⟩,
  lbL_mem ⟨by decide, by decide, by decide⟩ ⟨by decide, by decide, by decide⟩ ⟨by decide, by decide, by decide⟩⟩
theorem lbL_text : ∀ a ∈ lbL, a.text.size ≤ 1000000 := lbL_mem (by decide) (by decide) (by decide)
theorem chainB_at {b : Nat} {w : World} (hc : (cel b 49 (lbL.map ActD.cells).flatten).F w) : (chainB b).at_ w :=
  ⟨rows_of_cel hc rfl (by decide) (cells_len lbL), lbL_mem ⟨rowsD_nil w 1, rowsD_nil w 5⟩ ⟨rowsD_nil w 1, rowsD_nil w 5⟩ ⟨rowsD_nil w 1, rowsD_nil w 5⟩⟩
theorem chainsB {b b2 : Nat} {w : World} (hc : (cel b 49 (lbL.map ActD.cells).flatten).F w) (h2 : (cel b2 40 (chainB b).cells).F w) : Chains w ⟨some ⟨b2, 0, none⟩, 1, 1⟩ [chainB b] :=
  ⟨rows_of_cel (xs := [(chainB b).cells]) h2 rfl (by decide) (by intro r hr; rw [List.mem_singleton.1 hr]; rfl), fun c h => by rw [List.mem_singleton.1 h]; exact chainB_at hc⟩
theorem chainsB2 {b b2 : Nat} {w : World} (hc : (cel b 49 (lbL.map ActD.cells).flatten).F w) (h2 : (cel b2 40 ((chainB b).cells ++ (chainB b).cells)).F w) : Chains w ⟨some ⟨b2, 0, none⟩, 2, 2⟩ [chainB b, chainB b] :=
  ⟨rows_of_cel (xs := [(chainB b).cells, (chainB b).cells]) h2 rfl (by decide) (by intro r hr; simp only [List.mem_cons, List.not_mem_nil, or_false, or_self] at hr; rw [hr]; rfl), fun c h => by simp only [List.mem_cons, List.not_mem_nil, or_false, or_self] at h; rw [h]; exact chainB_at hc⟩
theorem mem1 {α : Type} {P : α → Prop} {a : α} (h : P a) : ∀ x ∈ [a], P x := fun x hx => by rw [List.mem_singleton.1 hx]; exact h
theorem asc2 : Asc [botS, spamS] := List.Pairwise.cons (fun b hb => by rw [List.mem_singleton.1 hb]; kernel_rfl) (List.pairwise_singleton _ _)
theorem validV_ex (b : Nat) : validV [chainB b] idA idB = [botS, spamS] := by
  have h : validV [chainB b] idA idB = compB (sortB [spamS, botS]) := by kernel_rfl
  rw [h]
  refine compB_sortB_eq asc2 fun x => ?_
  simp only [List.mem_cons, List.not_mem_nil, or_false]
  exact or_comm
theorem cntV_ex (b : Nat) : cntV [chainB b] [idA, idA] idB = [lb0, lb1] := by
  have h1 : cntF [chainB b] idB [idA, idA] 2 = ([idA], (validV [chainB b] idA idB).foldl cntStep []) := by kernel_rfl
  rw [validV_ex] at h1
  have h2 : [botS, spamS].foldl cntStep [] = [(botS, 1), (spamS, 1)] := by kernel_rfl
  rw [h2] at h1
  have h3 : sortB [botS, spamS] = [botS, spamS] := (asc_sortB asc2.nodup).ext asc2 fun x => mem_sortB
  have h4 : cntV [chainB b] [idA, idA] idB = (sortB ((cntF [chainB b] idB [idA, idA] 2).2.map (·.1))).map fun a => ⟨a, (mget (cntF [chainB b] idB [idA, idA] 2).2 a).getD 0⟩ := rfl
  rw [h4, h1]
  show (sortB [botS, spamS]).map _ = _
  rw [h3]
  kernel_rfl
set_option maxHeartbeats 1000000 in
theorem small34_pu : Pu Tryz.prog 18 #[] Glob (.bool true) := by
  refine pu_of_cw (args := []) _ Tryz.func18 rfl Tryz.ntmps18 rfl fun av bor w0 => ?_
  repeat' (first | refine sy_build (cs := lbP1.cells) (hf := by rfl) (h := ?_) | refine sy_build (cs := lbP2.cells) (hf := by rfl) (h := ?_) | refine sy_build (cs := lbP3.cells) (hf := by rfl) (h := ?_) | (refine sw_bslS (size := 20) (vs := [.agg lbP1.cells.toArray, .agg lbP2.cells.toArray, .agg lbP3.cells.toArray]) (css := (lbL.map ActD.cells).flatten) (hsz := by rfl) (hcs := by rfl) (h := fun bR => ?_); refine sw_give ?_) | refine sy_build (cs := (chainB bR).cells) (hf := by rfl) (h := ?_) | (refine sw_bslS (size := 6) (vs := [(chainB bR).v]) (css := (chainB bR).cells) (hsz := by rfl) (hcs := by rfl) (h := fun bC => ?_); refine sw_give ?_) | (refine sw_bsl (len := 2) (vs := [encB idA, encB idA]) (h := fun bK => ?_); refine sw_give ?_) | apply sw_nil | apply cw_seq | apply cw_reg | refine sy_move (h := ?_) | refine sy_assign (h := ?_) | refine sy_nilCheck (h := ?_) | refine sy_fld (h := ?_) | refine sy_ld (h := ?_) | refine sy_ldAll (h := ?_) | refine sy_pick_t (h := ?_) | refine sy_pick_f (h := ?_) | refine sy_not (h := ?_) | refine sy_eql (h := ?_) | refine sy_neq (h := ?_) | refine sy_lss (h := ?_) | refine sy_leq (h := ?_) | refine sy_gtr (h := ?_) | refine sy_geq (h := ?_) | refine sy_seql (h := ?_) | refine sy_sneq (h := ?_) | refine sy_slen (h := ?_) | refine sy_len (h := ?_) | refine sy_extract (h := ?_) | refine sy_add (h := ?_) | refine sy_sub (h := ?_) | refine sw_skipT (h := ?_) | refine sw_skipF (h := ?_) | refine sw_skipU (h := ?_) | refine sw_alloc (h := fun _ => ?_) | refine sw_box (h := fun _ => ?_) | refine sw_rangeS (h := fun _ => ?_) | refine sw_nextS (h1 := fun _ => ?_) (h2 := fun _ => ?_) | refine sw_bsl (h := fun _ => ?_) | refine sw_st1 (h := ?_) | refine sw_stAll (h := ?_) | refine cw_cond_t (ht := ?_) | refine cw_cond_f (hf := ?_) | apply cw_skip | apply cw_block | apply cw_ret | apply cw_exit | refine sy_and (h := ?_) | refine sy_or (h := ?_) | refine sy_xor (h := ?_) | refine sy_andNot (h := ?_) | refine sy_xorU (h := ?_) | refine sy_shl (h := ?_) | refine sy_shr (h := ?_) | refine sy_mul (h := ?_) | refine sy_int (h := ?_) | refine sy_beql (h := ?_) | refine sy_bneq (h := ?_) | refine sy_min (h := ?_) | refine sy_max (h := ?_) | refine sy_arrA (h := ?_) | refine sy_strI (h := ?_) | ((fail_if_success (refine sw_chk (h := ?_))); refine sw_guard (ht := ?_) (hf := ?_); all_goals (intro hx_; first | have := of_decide_eq_true hx_ | have := of_decide_eq_false hx_ | skip)) | (refine cw_cond (ht := ?_) (hf := ?_); all_goals (intro hx_; first | have := of_decide_eq_true hx_ | have := of_decide_eq_false hx_ | skip)))
  have ho := count_mk ⟨some ⟨bC, 0, none⟩, 1, 1⟩ [chainB bR] ⟨some ⟨bK, 0, none⟩, 2, 2⟩ [idA, idA] idB (mem1 lbL_ok) (fun c h => by rw [List.mem_singleton.1 h]; show (3 : Nat) ≤ 1000; decide) (mem1 lbL_text) (by decide)
  rw [cntV_ex] at ho
  refine sw_mk (hc := ho) (hX := fun w h => ⟨chainsB h.1.1.2 h.1.2, strs_of_cel (l := [idA, idA]) h.2 (by decide), h.1.1.1⟩) (h := fun v4 X4 h4 => ?_)
  obtain ⟨s4, rfl, hs4⟩ := h4
  have hv0 := valid_mk ⟨none, 0, 0⟩ [] idA idB (fun c h => by cases h) (fun c h => by cases h) (fun c h => by cases h)
  rw [show validV [] idA idB = [] from by kernel_rfl] at hv0
  have hv1 : ∀ b : Nat, Mk Tryz.prog 22 #[(⟨some ⟨b, 0, none⟩, 1, 1⟩ : SlV).v, .string idA, .string idB] (fun w => Chains w ⟨some ⟨b, 0, none⟩, 1, 1⟩ [chainB bR] ∧ Glob w) (StrsAt [botS, spamS]) := fun b => by
    have h := valid_mk ⟨some ⟨b, 0, none⟩, 1, 1⟩ [chainB bR] idA idB (mem1 lbL_ok) (fun c h => by rw [List.mem_singleton.1 h]; show (3 : Nat) ≤ 1000000; decide) (mem1 lbL_text)
    rw [validV_ex] at h
    exact h
  have ho0 : ∀ b : Nat, Mk Tryz.prog 20 #[(⟨none, 0, 0⟩ : SlV).v, (⟨some ⟨b, 0, none⟩, 1, 1⟩ : SlV).v, .string idB] (fun w => Chains w ⟨none, 0, 0⟩ [] ∧ Strs w ⟨some ⟨b, 0, none⟩, 1, 1⟩ [idA] ∧ Glob w) (fun u X => ∃ S : SlV, u = S.v ∧ ∀ w, X w → Cnts w S []) := fun b => by
    have h := count_mk ⟨none, 0, 0⟩ [] ⟨some ⟨b, 0, none⟩, 1, 1⟩ [idA] idB (fun c h => by cases h) (fun c h => by cases h) (fun c h => by cases h) (by decide)
    rw [show cntV [] [idA] idB = [] from by kernel_rfl] at h
    exact h
  have hr0 : Pu Tryz.prog 41 #[(⟨none, 0, 0⟩ : SlV).v, .string xS] (fun w => Chains w ⟨none, 0, 0⟩ []) (.int .i64 0) := by
    have h := reports_pu ⟨none, 0, 0⟩ [] xS (fun c h => by cases h)
    rw [show reportsV [] xS = 0 from by kernel_rfl] at h
    exact h
  have hr1 : ∀ b : Nat, Pu Tryz.prog 41 #[(⟨some ⟨b, 0, none⟩, 2, 2⟩ : SlV).v, .string xS] (fun w => Chains w ⟨some ⟨b, 0, none⟩, 2, 2⟩ [chainB bR, chainB bR]) (.int .i64 1) := fun b => by
    have h := reports_pu ⟨some ⟨b, 0, none⟩, 2, 2⟩ [chainB bR, chainB bR] xS (fun c h => by simp only [List.mem_cons, List.not_mem_nil, or_false, or_self] at h; rw [h]; show 3 ≤ 1000000; decide)
    rw [show reportsV [chainB bR, chainB bR] xS = 1 from by kernel_rfl] at h
    exact h
  have hr2 : ∀ b : Nat, Pu Tryz.prog 41 #[(⟨some ⟨b, 0, none⟩, 1, 1⟩ : SlV).v, .string ⟨#[]⟩] (fun w => Chains w ⟨some ⟨b, 0, none⟩, 1, 1⟩ [chainB bR]) (.int .i64 0) := fun b => by
    have h := reports_pu ⟨some ⟨b, 0, none⟩, 1, 1⟩ [chainB bR] ⟨#[]⟩ (fun c h => by rw [List.mem_singleton.1 h]; show (3 : Nat) ≤ 1000000; decide)
    rw [show reportsV [chainB bR] ⟨#[]⟩ = 0 from by kernel_rfl] at h
    exact h
  have hs21 : ∀ r q : SlV, Pu Tryz.prog 30 #[r.v, q.v] (fun w => Strs w r [botS, spamS] ∧ Strs w q [botS, spamS]) (.bool true) := fun r q => by
    have h := same21_pu r q [botS, spamS] [botS, spamS]
    rw [eqL_refl] at h
    exact h
  have hs34 : ∀ r q : SlV, Pu Tryz.prog 21 #[r.v, q.v] (fun w => Cnts w r [lb0, lb1] ∧ Cnts w q [lb0, lb1]) (.bool true) := fun r q => by
    have h := same34_pu r q [lb0, lb1] [lb0, lb1]
    rw [eqCL_refl] at h
    exact h
  refine sw_imp (X' := fun w => Glob w ∧ (cel bR 49 (lbL.map ActD.cells).flatten).F w ∧ Cnts w s4 [lb0, lb1]) (fun w h => ⟨h.1.1.1.1, h.1.1.1.2, hs4 w h.2⟩) ?_
  repeat' (first | refine sy_eqlT (hab := by omega) (h := ?_) | (refine sw_bsl (len := 1) (vs := [encB idA]) (h := fun bK1 => ?_); refine sw_give ?_) | (refine sw_bslS (size := 6) (vs := [(chainB bR).v]) (css := (chainB bR).cells) (hsz := by rfl) (hcs := by rfl) (h := fun bD => ?_); refine sw_give ?_) | (refine sw_bsl (len := 2) (vs := [encB botS, encB spamS]) (h := fun bS => ?_); refine sw_give ?_) | refine sy_build (cs := lb0.cells) (hf := by rfl) (h := ?_) | refine sy_build (cs := lb1.cells) (hf := by rfl) (h := ?_) | (refine sw_bslS (size := 2) (vs := [.agg lb0.cells.toArray, .agg lb1.cells.toArray]) (css := ([lb0, lb1].map CntD.cells).flatten) (hsz := by rfl) (hcs := by rfl) (h := fun bQ => ?_); refine sw_give ?_) | (refine sw_bslS (size := 6) (vs := [(chainB bR).v, (chainB bR).v]) (css := (chainB bR).cells ++ (chainB bR).cells) (hsz := by rfl) (hcs := by rfl) (h := fun bE => ?_); refine sw_give ?_) | apply sw_nil | apply cw_seq | apply cw_reg | refine sy_move (h := ?_) | refine sy_assign (h := ?_) | refine sy_nilCheck (h := ?_) | refine sy_fld (h := ?_) | refine sy_ld (h := ?_) | refine sy_ldAll (h := ?_) | refine sy_pick_t (h := ?_) | refine sy_pick_f (h := ?_) | refine sy_not (h := ?_) | refine sy_eql (h := ?_) | refine sy_neq (h := ?_) | refine sy_lss (h := ?_) | refine sy_leq (h := ?_) | refine sy_gtr (h := ?_) | refine sy_geq (h := ?_) | refine sy_seql (h := ?_) | refine sy_sneq (h := ?_) | refine sy_slen (h := ?_) | refine sy_len (h := ?_) | refine sy_extract (h := ?_) | refine sy_add (h := ?_) | refine sy_sub (h := ?_) | refine sw_skipT (h := ?_) | refine sw_skipF (h := ?_) | refine sw_skipU (h := ?_) | refine sw_alloc (h := fun _ => ?_) | refine sw_box (h := fun _ => ?_) | refine sw_rangeS (h := fun _ => ?_) | refine sw_nextS (h1 := fun _ => ?_) (h2 := fun _ => ?_) | refine sw_bsl (h := fun _ => ?_) | refine sw_st1 (h := ?_) | refine sw_stAll (h := ?_) | refine cw_cond_t (ht := ?_) | refine cw_cond_f (hf := ?_) | apply cw_skip | apply cw_block | apply cw_ret | apply cw_exit | refine sy_and (h := ?_) | refine sy_or (h := ?_) | refine sy_xor (h := ?_) | refine sy_andNot (h := ?_) | refine sy_xorU (h := ?_) | refine sy_shl (h := ?_) | refine sy_shr (h := ?_) | refine sy_mul (h := ?_) | refine sy_int (h := ?_) | refine sy_beql (h := ?_) | refine sy_bneq (h := ?_) | refine sy_min (h := ?_) | refine sy_max (h := ?_) | refine sy_arrA (h := ?_) | refine sy_strI (h := ?_) | (refine sw_mk (hc := hv0) (hX := fun w h => ⟨chainsNil w, h.1⟩) (h := fun v5 X5 h5 => ?_); obtain ⟨s5, rfl, hs5⟩ := h5; refine sw_know (p := (s5.n : Int) = 0) (fun w h => by have := (hs5 w h.2).len_; rw [this]; rfl) fun hn5 => ?_) | (refine sw_mk (hc := ho0 bK1) (hX := fun w h => ⟨chainsNil w, strs_of_cel (l := [idA]) h.2 (by decide), h.1.1.1⟩) (h := fun v6 X6 h6 => ?_); obtain ⟨s6, rfl, hs6⟩ := h6; refine sw_know (p := (s6.n : Int) = 0) (fun w h => by have := (Cnts.know w (hs6 w h.2)).1; rw [this]; rfl) fun hn6 => ?_) | (refine sw_pu (hc := hr0) (hX := fun w h => chainsNil w) (h := ?_)) | (refine sw_mk (hc := hv1 bD) (hX := fun w h => ⟨chainsB h.1.1.1.1.2.1 h.2, h.1.1.1.1.1⟩) (h := fun v7 X7 h7 => ?_); obtain ⟨s7, rfl, hs7⟩ := h7) | (refine sw_pu (hc := hs21 s7 ⟨some ⟨bS, 0, none⟩, 2, 2⟩) (hX := fun w h => ⟨hs7 w h.1.2, strs_of_cel (l := [botS, spamS]) h.2 (by decide)⟩) (h := ?_)) | (refine sw_pu (hc := hs34 s4 ⟨some ⟨bQ, 0, none⟩, 2, 2⟩) (hX := fun w h => ⟨h.1.1.1.1.1.1.1.2.2, rows_of_cel (xs := [lb0.cells, lb1.cells]) h.2 rfl (by decide) (by intro r hr; simp only [List.mem_cons, List.not_mem_nil, or_false] at hr; rcases hr with rfl | rfl <;> rfl)⟩) (h := ?_)) | (refine sw_pu (hc := hr1 bE) (hX := fun w h => chainsB2 h.1.1.1.1.1.1.1.1.2.1 h.2) (h := ?_)) | (refine sw_pu (hc := hr2 bD) (hX := fun w h => chainsB h.1.1.1.1.1.1.1.1.1.2.1 h.2) (h := ?_)) | ((fail_if_success (refine sw_chk (h := ?_))); refine sw_guard (ht := ?_) (hf := ?_); all_goals (intro hx_; first | have := of_decide_eq_true hx_ | have := of_decide_eq_false hx_ | skip)) | (refine cw_cond (ht := ?_) (hf := ?_); all_goals (intro hx_; first | have := of_decide_eq_true hx_ | have := of_decide_eq_false hx_ | skip)))
  apply ends_ret; apply res_tmp; rfl; rfl
  rfl
end Go.Proofs.YtfpojkoddcdojaaGreatDoor

/- Plain law of LabelLists: what a valid label is. -/
set_option linter.unusedVariables false
set_option linter.unusedSimpArgs false
namespace Go.Proofs.YtfpojkoddcdojaaGreatDoor
open Go Go.Proofs Sy
theorem labF_mem (l : List ActD) (t : ByteArray) : ∀ i, ∀ j ∈ labF l t i, (l.getD j ActD.zero).kind = 17 ∧ labB t (l.getD j ActD.zero) = true
  | 0, j, h => by cases h
  | i + 1, j, h => by
    have ih := labF_mem l t i
    simp only [labF] at h
    cases h1 : decide ((l.getD i ActD.zero).kind = 17) with
    | true =>
      rw [h1, cond_true] at h
      cases h3 : labB t (l.getD i ActD.zero) with
      | true =>
        rw [h3, cond_true] at h
        rcases List.mem_append.1 h with h | h
        · exact ih j h
        · rw [List.mem_singleton.1 h]; exact ⟨of_decide_eq_true h1, h3⟩
      | false =>
        rw [h3, cond_false] at h
        exact ih j h
    | false =>
      rw [h1] at h
      simp only [cond_false] at h
      cases h2 : decide ((l.getD i ActD.zero).kind = 6) with
      | true =>
        rw [h2] at h
        simp only [cond_true] at h
        split at h
        · exact ih j (List.mem_of_mem_erase h)
        · exact ih j h
      | false => rw [h2] at h; exact ih j h
theorem labF_all (l : List ActD) (t : ByteArray) : ∀ i, (∀ m, m < i → (l.getD m ActD.zero).kind ≠ 6) → ∀ j, j < i → (l.getD j ActD.zero).kind = 17 → labB t (l.getD j ActD.zero) = true → j ∈ labF l t i
  | 0, _, j, h, _, _ => by omega
  | i + 1, hn, j, h, hk, hl => by
    have ih := labF_all l t i (fun m hm => hn m (by omega))
    simp only [labF]
    by_cases e : j = i
    · subst e
      rw [decide_eq_true hk, cond_true, hl, cond_true]
      exact List.mem_append_right _ (List.mem_singleton.2 rfl)
    · have hj := ih j (by omega) hk hl
      cases decide ((l.getD i ActD.zero).kind = 17) with
      | true =>
        cases labB t (l.getD i ActD.zero) with
        | true => exact List.mem_append_left _ hj
        | false => exact hj
      | false =>
        rw [decide_eq_false (hn i (by omega))]
        exact hj
theorem labV_asc (l : List ActD) (t : ByteArray) : Asc (labV l t) := asc_compB_sortB _
theorem labV_from {l : List ActD} {t x : ByteArray} (h : x ∈ labV l t) : ∃ (j : Nat) (a : ActD), l[j]? = some a ∧ a.kind = 17 ∧ a.text = x ∧ labB t a = true := by
  obtain ⟨j, hj, rfl⟩ := List.mem_map.1 (mem_compB_sortB.1 h)
  have h1 := labF_lt _ _ _ _ hj
  obtain ⟨h2, h3⟩ := labF_mem _ _ _ _ hj
  rw [List.getD_eq_getElem?_getD, List.getElem?_eq_getElem h1] at h2 h3
  exact ⟨j, _, List.getElem?_eq_getElem h1, h2, by simp only [textA, List.getD_eq_getElem?_getD, List.getElem?_eq_getElem h1]; rfl, h3⟩
theorem labV_all {l : List ActD} {t : ByteArray} (hn : ∀ a ∈ l, a.kind ≠ 6) {j : Nat} {a : ActD} (hj : l[j]? = some a) (hk : a.kind = 17) (hl : labB t a = true) : a.text ∈ labV l t := by
  have e : l.getD j ActD.zero = a := by rw [List.getD_eq_getElem?_getD, hj]; rfl
  have hjl := (List.getElem?_eq_some_iff.1 hj).1
  refine mem_compB_sortB.2 (List.mem_map.2 ⟨j, labF_all l t l.length (fun m hm => ?_) j hjl (by rw [e]; exact hk) (by rw [e]; exact hl), by simp only [textA, e]⟩)
  rw [List.getD_eq_getElem?_getD, List.getElem?_eq_getElem hm]
  exact hn _ (List.getElem_mem hm)
end Go.Proofs.YtfpojkoddcdojaaGreatDoor

/- A list read from its end, each element twice (the laws that ask that order and repetitions do not matter). -/
set_option linter.unusedVariables false
set_option linter.unusedSimpArgs false
namespace Go.Proofs.YtfpojkoddcdojaaGreatDoor
open Go Go.Proofs Sy
def backF (ks : List ByteArray) (m : Nat) : List ByteArray := (ks.reverse.take m).flatMap fun k => [k, k]
theorem backF_len (ks : List ByteArray) (m : Nat) (h : m ≤ ks.length) : (backF ks m).length = m * 2 := by
  have : ∀ l : List ByteArray, (l.flatMap fun k => [k, k]).length = l.length * 2 := fun l => by
    induction l with
    | nil => rfl
    | cons a l ih => simp only [List.flatMap_cons, List.length_append, ih, List.length_cons, List.length_nil]; omega
  rw [backF, this, List.length_take, List.length_reverse, Nat.min_eq_left h]
theorem backF_succ {ks : List ByteArray} {m : Nat} {x : ByteArray} (hx : ks[ks.length - 1 - m]? = some x) (h : m < ks.length) : backF ks (m + 1) = backF ks m ++ [x, x] := by
  have e : ks.reverse[m]? = some x := by rw [List.getElem?_reverse h, hx]
  rw [backF, List.take_add_one, e]
  simp [backF]
theorem backF_mem (ks : List ByteArray) (k : ByteArray) : k ∈ backF ks ks.length ↔ k ∈ ks := by
  rw [backF, show ks.reverse.take ks.length = ks.reverse from List.take_of_length_le (by simp)]
  simp
structure BackI (m : Nat) where
  k : Nat
  hk : k ≤ m
  A : Option Addr
  c : Nat
end Go.Proofs.YtfpojkoddcdojaaGreatDoor

/- Plain law of LabelCounts: what a count is. -/
set_option linter.unusedVariables false
set_option linter.unusedSimpArgs false
namespace Go.Proofs.YtfpojkoddcdojaaGreatDoor
open Go Go.Proofs Sy
/-- the different strings among the first i -/
def ddF (ks : List ByteArray) : Nat → List ByteArray
  | 0 => []
  | i + 1 => bif hasK (ddF ks i) (ks.getD i .empty) then ddF ks i else sput (ddF ks i) (ks.getD i .empty)
theorem sput_new : ∀ {ks : List ByteArray} {k : ByteArray}, hasK ks k = false → sput ks k = ks ++ [k]
  | [], k, _ => rfl
  | k' :: r, k, h => by
    simp only [hasK, List.any_cons, Bool.or_eq_false_iff] at h
    simp only [sput]
    rw [h.1]
    simp only [cond_false, List.cons_append]
    rw [sput_new (ks := r) (by simpa only [hasK] using h.2)]
theorem ddF_mem (ks : List ByteArray) : ∀ i, i ≤ ks.length → ∀ x, x ∈ ddF ks i ↔ x ∈ ks.take i
  | 0, _, x => by simp [ddF]
  | i + 1, h, x => by
    have ih := ddF_mem ks i (by omega)
    have hx : ks[i]? = some (ks.getD i .empty) := by rw [List.getD_eq_getElem?_getD, List.getElem?_eq_getElem (by omega)]; rfl
    rw [List.take_add_one, hx]
    simp only [ddF, Option.toList_some, List.mem_append, List.mem_singleton]
    cases hh : hasK (ddF ks i) (ks.getD i .empty) with
    | true =>
      rw [cond_true, ih]
      exact ⟨Or.inl, fun h => h.elim id fun e => by rw [e]; exact (ih _).1 (hasK_iff.1 hh)⟩
    | false =>
      rw [cond_false, mem_sput, ih]
      exact ⟨fun h => h.symm, fun h => h.symm⟩
theorem ddF_nodup (ks : List ByteArray) : ∀ i, (ddF ks i).Nodup
  | 0 => List.nodup_nil
  | i + 1 => by
    have ih := ddF_nodup ks i
    simp only [ddF]
    cases hh : hasK (ddF ks i) (ks.getD i .empty) with
    | true => exact ih
    | false =>
      rw [cond_false, sput_new hh]
      refine List.nodup_append.2 ⟨ih, by simp, fun a ha b hb e => ?_⟩
      rw [List.mem_singleton.1 hb] at e
      rw [e] at ha
      rw [hasK_iff.2 ha] at hh
      cases hh
theorem ddF_old {ks : List ByteArray} {i : Nat} {x : ByteArray} (hx : ks[i]? = some x) (h : hasS (ks.take i) x = true) : ddF ks (i + 1) = ddF ks i := by
  have hi := (List.getElem?_eq_some_iff.1 hx).1
  have e : ks.getD i .empty = x := by rw [List.getD_eq_getElem?_getD, hx]; rfl
  simp only [ddF]
  rw [e, hasK_iff.2 ((ddF_mem ks i (by omega) x).2 (hasS_iff.1 h)), cond_true]
theorem ddF_new {ks : List ByteArray} {i : Nat} {x : ByteArray} (hx : ks[i]? = some x) (h : hasS (ks.take i) x = false) : ddF ks (i + 1) = ddF ks i ++ [x] := by
  have hi := (List.getElem?_eq_some_iff.1 hx).1
  have e : ks.getD i .empty = x := by rw [List.getD_eq_getElem?_getD, hx]; rfl
  have hk : hasK (ddF ks i) x = false := by
    cases hh : hasK (ddF ks i) x with
    | false => rfl
    | true => exact absurd ((ddF_mem ks i (by omega) x).1 (hasK_iff.1 hh)) (hasS_false.1 h)
  simp only [ddF]
  rw [e, hk, cond_false, sput_new hk]
theorem ddF_len (ks : List ByteArray) : ∀ i, (ddF ks i).length ≤ i
  | 0 => Nat.le_refl _
  | i + 1 => by
    have ih := ddF_len ks i
    simp only [ddF]
    cases hh : hasK (ddF ks i) (ks.getD i .empty) with
    | true => rw [cond_true]; omega
    | false => rw [cond_false, sput_new hh, List.length_append]; simp only [List.length_singleton]; omega
/-- all labels that the different labellers give -/
def labE (l : List ChainD) (t : ByteArray) (D : List ByteArray) : List ByteArray := D.flatMap fun x => validV l x t
theorem cntF_eq (l : List ChainD) (t : ByteArray) (ks : List ByteArray) : ∀ i, cntF l t ks i = (ddF ks i, (labE l t (ddF ks i)).foldl cntStep [])
  | 0 => rfl
  | i + 1 => by
    have ih := cntF_eq l t ks i
    simp only [cntF, ddF, ih]
    cases hh : hasK (ddF ks i) (ks.getD i .empty) with
    | true => rfl
    | false =>
      simp only [cond_false]
      rw [sput_new hh, labE, labE, List.flatMap_append, List.foldl_append, List.flatMap_singleton]
theorem cst_get : ∀ (E : List ByteArray) (b : List (ByteArray × Nat)) (a : ByteArray), (mget (E.foldl cntStep b) a).getD 0 = (mget b a).getD 0 + E.countP (seqB a)
  | [], b, a => by simp
  | e :: E, b, a => by
    have ih := cst_get E (cntStep b e) a
    rw [List.foldl_cons, ih, List.countP_cons, cntStep, mget_mput']
    by_cases h : a = e
    · subst h
      rw [if_pos rfl, if_pos (seqB_self _)]
      simp only [Option.getD_some]
      omega
    · rw [if_neg h, if_neg (fun k => h (seqB_iff.1 k)), Nat.add_zero]
theorem cst_keys : ∀ (E : List ByteArray) (b : List (ByteArray × Nat)) (a : ByteArray), a ∈ (E.foldl cntStep b).map (·.1) ↔ a ∈ b.map (·.1) ∨ a ∈ E
  | [], b, a => by simp
  | e :: E, b, a => by
    rw [List.foldl_cons, cst_keys E (cntStep b e) a, cntStep, mem_mput, List.mem_cons]
    exact ⟨fun h => h.elim (fun h => h.elim (fun h => Or.inr (Or.inl h)) Or.inl) fun h => Or.inr (Or.inr h), fun h => h.elim (fun h => Or.inl (Or.inr h)) fun h => h.elim (fun h => Or.inl (Or.inl h)) Or.inr⟩
theorem cst_nodup : ∀ (E : List ByteArray) (b : List (ByteArray × Nat)), (b.map (·.1)).Nodup → ((E.foldl cntStep b).map (·.1)).Nodup
  | [], b, h => h
  | e :: E, b, h => cst_nodup E _ (nodup_mput b e _ h)
theorem cnt_nodup : ∀ {l : List ByteArray}, l.Nodup → ∀ a, l.countP (seqB a) = if hasS l a = true then 1 else 0
  | [], _, a => rfl
  | x :: l, h, a => by
    obtain ⟨h1, h2⟩ := List.nodup_cons.1 h
    rw [List.countP_cons, cnt_nodup h2 a]
    have e : hasS (x :: l) a = (seqB a x || hasS l a) := rfl
    rw [e]
    cases hx : seqB a x with
    | true =>
      have := seqB_iff.1 hx
      subst this
      rw [hasS_false.2 h1]
      rfl
    | false =>
      rw [Bool.false_or]
      simp
/-- the number of labellers in D whose valid labels contain a name -/
def nN (l : List ChainD) (t : ByteArray) (D : List ByteArray) (a : ByteArray) : Nat := D.countP fun x => hasS (validV l x t) a
theorem validV_nodup (l : List ChainD) (x t : ByteArray) : (validV l x t).Nodup := by
  unfold validV
  cases seqB t ⟨#[]⟩ with
  | true => exact List.nodup_nil
  | false =>
    simp only [cond_false]
    split
    · exact (labV_asc _ _).nodup
    · exact List.nodup_nil
theorem cnt_flat (l : List ChainD) (t : ByteArray) (a : ByteArray) : ∀ D : List ByteArray, (labE l t D).countP (seqB a) = nN l t D a
  | [] => rfl
  | x :: D => by
    have ih := cnt_flat l t a D
    simp only [labE, nN] at ih
    rw [labE, nN, List.flatMap_cons, List.countP_append, ih, cnt_nodup (validV_nodup l x t), List.countP_cons]
    omega
def namesV (l : List ChainD) (t : ByteArray) (ks : List ByteArray) : List ByteArray := sortB (((labE l t (ddF ks ks.length)).foldl cntStep []).map (·.1))
theorem cntV_eq (l : List ChainD) (ks : List ByteArray) (t : ByteArray) : cntV l ks t = (namesV l t ks).map fun a => ⟨a, nN l t (ddF ks ks.length) a⟩ := by
  simp only [cntV, namesV, cntF_eq, cst_get, cnt_flat]
  have e : ∀ a : ByteArray, (mget ([] : List (ByteArray × Nat)) a).getD 0 = 0 := fun a => rfl
  simp only [e, Nat.zero_add]
theorem namesV_asc (l : List ChainD) (t : ByteArray) (ks : List ByteArray) : Asc (namesV l t ks) := asc_sortB (cst_nodup _ _ List.nodup_nil)
theorem namesV_mem {l : List ChainD} {t : ByteArray} {ks : List ByteArray} {a : ByteArray} : a ∈ namesV l t ks ↔ ∃ k ∈ ks, a ∈ validV l k t := by
  rw [namesV, mem_sortB, cst_keys, labE, List.mem_flatMap]
  have hm := ddF_mem ks ks.length (Nat.le_refl _)
  rw [List.take_length] at hm
  constructor
  · rintro (h | ⟨k, h1, h2⟩)
    · cases h
    · exact ⟨k, (hm k).1 h1, h2⟩
  · rintro ⟨k, h1, h2⟩
    exact Or.inr ⟨k, (hm k).2 h1, h2⟩
theorem dd_mem (ks : List ByteArray) (x : ByteArray) : x ∈ ddF ks ks.length ↔ x ∈ ks := by
  have hm := ddF_mem ks ks.length (Nat.le_refl _) x
  rwa [List.take_length] at hm
theorem nN_congr {l : List ChainD} {t : ByteArray} {D D' : List ByteArray} (hD : D.Nodup) (hD' : D'.Nodup) (h : ∀ x, x ∈ D ↔ x ∈ D') (a : ByteArray) : nN l t D a = nN l t D' a :=
  ((List.perm_ext_iff_of_nodup hD hD').2 h).countP_eq _
theorem cntV_congr {l : List ChainD} {ks ks' : List ByteArray} {t : ByteArray} (h : ∀ k, k ∈ ks ↔ k ∈ ks') : cntV l ks t = cntV l ks' t := by
  have e : namesV l t ks = namesV l t ks' := (namesV_asc l t ks).ext (namesV_asc l t ks') fun x => by
    rw [namesV_mem, namesV_mem]
    exact ⟨fun ⟨k, h1, h2⟩ => ⟨k, (h k).1 h1, h2⟩, fun ⟨k, h1, h2⟩ => ⟨k, (h k).2 h1, h2⟩⟩
  rw [cntV_eq, cntV_eq, e]
  congr 1
  funext a
  rw [nN_congr (ddF_nodup ks _) (ddF_nodup ks' _) (fun x => by rw [dd_mem, dd_mem, h]) a]
theorem cntV_mem {l : List ChainD} {ks : List ByteArray} {t : ByteArray} {x : CntD} : x ∈ cntV l ks t ↔ x.n = nN l t (ddF ks ks.length) x.name ∧ ∃ k ∈ ks, x.name ∈ validV l k t := by
  rw [cntV_eq, List.mem_map, ← namesV_mem]
  constructor
  · rintro ⟨a, ha, rfl⟩
    exact ⟨rfl, ha⟩
  · rintro ⟨h1, h2⟩
    exact ⟨x.name, h2, by rw [← h1]⟩
theorem cntV_asc (l : List ChainD) (ks : List ByteArray) (t : ByteArray) : (cntV l ks t).Pairwise fun x y => ltB x.name y.name = true := by
  rw [cntV_eq]
  exact List.pairwise_map.2 (namesV_asc l t ks)
theorem cnt_pos {l : List ChainD} {ks : List ByteArray} {t : ByteArray} {x : CntD} (h : x ∈ cntV l ks t) : 1 ≤ x.n := by
  obtain ⟨h1, k, hk, hx⟩ := cntV_mem.1 h
  rw [h1]
  exact List.countP_pos_iff.2 ⟨k, (dd_mem ks k).2 hk, hasS_iff.2 hx⟩
theorem cnt_kept {l : List ChainD} {ks ks' : List ByteArray} {t more : ByteArray} (hm : ∀ k, k ∈ ks' ↔ k = more ∨ k ∈ ks) {x : CntD} (h : x ∈ cntV l ks t) : ∃ y ∈ cntV l ks' t, y.name = x.name ∧ x.n ≤ y.n ∧ y.n ≤ x.n + 1 := by
  obtain ⟨h1, k, hk, hx⟩ := cntV_mem.1 h
  refine ⟨⟨x.name, nN l t (ddF ks' ks'.length) x.name⟩, cntV_mem.2 ⟨rfl, k, (hm k).2 (Or.inr hk), hx⟩, rfl, ?_⟩
  show x.n ≤ nN l t (ddF ks' ks'.length) x.name ∧ nN l t (ddF ks' ks'.length) x.name ≤ x.n + 1
  rw [h1]
  by_cases hin : more ∈ ks
  · rw [nN_congr (ddF_nodup ks' _) (ddF_nodup ks ks.length) (fun y => by
      rw [dd_mem, dd_mem, hm]
      exact ⟨fun h => h.elim (fun e => by rw [e]; exact hin) id, Or.inr⟩) x.name]
    omega
  · rw [nN_congr (D' := more :: ddF ks ks.length) (ddF_nodup ks' _) (List.nodup_cons.2 ⟨fun h => hin ((dd_mem ks more).1 h), ddF_nodup ks ks.length⟩) (fun y => by
      rw [dd_mem, hm, List.mem_cons, dd_mem]) x.name]
    simp only [nN, List.countP_cons]
    split <;> omega
theorem nN_app (l : List ChainD) (t : ByteArray) (D : List ByteArray) (x a : ByteArray) : nN l t (D ++ [x]) a = nN l t D a + if hasS (validV l x t) a = true then 1 else 0 := by
  rw [nN, nN, List.countP_append, List.countP_singleton]
theorem nN_le (l : List ChainD) (t : ByteArray) (ks : List ByteArray) (i : Nat) (a : ByteArray) : nN l t (ddF ks i) a ≤ i := Nat.le_trans List.countP_le_length (ddF_len ks i)
theorem sum_addF {α : Type} (f g : α → Nat) : ∀ K : List α, (K.map fun a => f a + g a).sum = (K.map f).sum + (K.map g).sum
  | [] => rfl
  | a :: K => by
    simp only [List.map_cons, List.sum_cons, sum_addF f g K]
    omega
theorem ind_zero (e : ByteArray) : ∀ K : List ByteArray, e ∉ K → (K.map fun a => if seqB a e = true then 1 else 0).sum = 0
  | [], _ => rfl
  | a :: K, h => by
    have h1 : ¬ seqB a e = true := fun k => h (by rw [seqB_iff.1 k]; exact List.mem_cons_self)
    rw [List.map_cons, List.sum_cons, if_neg h1, ind_zero e K fun k => h (List.mem_cons_of_mem _ k)]
theorem ind_one (e : ByteArray) : ∀ K : List ByteArray, K.Nodup → e ∈ K → (K.map fun a => if seqB a e = true then 1 else 0).sum = 1
  | a :: K, hn, h => by
    obtain ⟨h1, h2⟩ := List.nodup_cons.1 hn
    rw [List.map_cons, List.sum_cons]
    by_cases hae : a = e
    · subst hae
      rw [if_pos (seqB_self _), ind_zero a K h1]
    · rw [if_neg fun k => hae (seqB_iff.1 k), ind_one e K h2 ((List.mem_cons.1 h).resolve_left fun k => hae k.symm)]
theorem sum_count (K : List ByteArray) (hn : K.Nodup) : ∀ E : List ByteArray, (∀ e ∈ E, e ∈ K) → (K.map fun a => E.countP (seqB a)).sum = E.length
  | [], _ => by
    have : ∀ K : List ByteArray, (K.map fun _ => (0 : Nat)).sum = 0 := fun K => by induction K with | nil => rfl | cons a K ih => simp [ih]
    exact this K
  | e :: E, h => by
    have ih := sum_count K hn E fun x hx => h x (List.mem_cons_of_mem _ hx)
    have h1 := ind_one e K hn (h e List.mem_cons_self)
    simp only [List.countP_cons, List.length_cons]
    rw [sum_addF, ih, h1]
/-- the sum of the first i counts -/
def totF (L : List CntD) (i : Nat) : Nat := ((L.take i).map (·.n)).sum
theorem totF_succ {L : List CntD} {i : Nat} {x : CntD} (h : L[i]? = some x) : totF L (i + 1) = totF L i + x.n := by
  rw [totF, totF, List.take_add_one, h]
  simp
theorem totF_le (L : List CntD) (i : Nat) : totF L i ≤ totF L L.length := by
  have e : (L.map (·.n)).sum = ((L.take i).map (·.n)).sum + ((L.drop i).map (·.n)).sum := by
    rw [← List.sum_append, ← List.map_append, List.take_append_drop]
  rw [totF, totF, List.take_length, e]
  omega
/-- the sum of the lengths of the valid labels of the first i different labellers -/
def lenF (l : List ChainD) (t : ByteArray) (ks : List ByteArray) (i : Nat) : Nat := (labE l t (ddF ks i)).length
theorem tot_len (l : List ChainD) (t : ByteArray) (ks : List ByteArray) : totF (cntV l ks t) (cntV l ks t).length = lenF l t ks ks.length := by
  rw [totF, List.take_length, cntV_eq, List.map_map]
  have h := sum_count (namesV l t ks) (namesV_asc l t ks).nodup (labE l t (ddF ks ks.length)) fun e he => by
    obtain ⟨k, h1, h2⟩ := List.mem_flatMap.1 he
    exact namesV_mem.2 ⟨k, (dd_mem ks k).1 h1, h2⟩
  simp only [cnt_flat] at h
  exact h
theorem lenF_old {l : List ChainD} {t : ByteArray} {ks : List ByteArray} {i : Nat} {x : ByteArray} (hx : ks[i]? = some x) (h : hasS (ks.take i) x = true) : lenF l t ks (i + 1) = lenF l t ks i := by rw [lenF, lenF, ddF_old hx h]
theorem lenF_new {l : List ChainD} {t : ByteArray} {ks : List ByteArray} {i : Nat} {x : ByteArray} (hx : ks[i]? = some x) (h : hasS (ks.take i) x = false) : lenF l t ks (i + 1) = lenF l t ks i + (validV l x t).length := by
  rw [lenF, lenF, ddF_new hx h, labE, labE, List.flatMap_append, List.length_append, List.flatMap_singleton]
theorem lenF_le {l : List ChainD} {t : ByteArray} {ks : List ByteArray} {m : Nat} (hm : ∀ x, (validV l x t).length ≤ m) : ∀ i, lenF l t ks i ≤ i * m
  | 0 => by simp [lenF, ddF, labE]
  | i + 1 => by
    have ih := lenF_le (ks := ks) hm i
    simp only [lenF, ddF] at ih ⊢
    rw [Nat.add_mul]
    cases hh : hasK (ddF ks i) (ks.getD i .empty) with
    | true => rw [cond_true]; omega
    | false =>
      rw [cond_false, sput_new hh, labE, List.flatMap_append, List.length_append, List.flatMap_singleton]
      have := hm (ks.getD i .empty)
      simp only [labE] at ih
      omega
theorem cntV_len {l : List ChainD} {t : ByteArray} {ks : List ByteArray} {m : Nat} (hm : ∀ x, (validV l x t).length ≤ m) : (cntV l ks t).length ≤ ks.length * m := by
  have h1 : (cntV l ks t).length ≤ totF (cntV l ks t) (cntV l ks t).length := by
    rw [totF, List.take_length]
    have : ∀ L : List CntD, (∀ x ∈ L, 1 ≤ x.n) → L.length ≤ (L.map (·.n)).sum := fun L => by
      induction L with
      | nil => intro _; exact Nat.le_refl _
      | cons a L ih =>
        intro h
        have := ih fun x hx => h x (List.mem_cons_of_mem _ hx)
        have := h a List.mem_cons_self
        simp only [List.length_cons, List.map_cons, List.sum_cons]
        omega
    exact this _ fun x hx => cnt_pos hx
  rw [tot_len] at h1
  exact Nat.le_trans h1 (lenF_le hm _)
end Go.Proofs.YtfpojkoddcdojaaGreatDoor
