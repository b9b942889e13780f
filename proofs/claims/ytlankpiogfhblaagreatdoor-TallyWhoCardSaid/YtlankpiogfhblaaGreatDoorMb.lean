/- Joined by program (wip/dev/merge.py) out of: Ap Aq Mp Bu So Ke Oq Or Os Mo Ps. -/
import Derived.Test.YtlankpiogfhblaaGreatDoorMa
import Derived.MapKept
import Derived.Sort.OwnSorted
import Derived.Lib.SlKeysI
import Derived.Lib.SlicesCompact
import Derived.Shelf.SlIter.Nil
import Derived.Shelf.SlIterI.Nil
import Derived.Shelf.SortM.Plain
import Derived.Shelf.SortM.SortNone
import Derived.Laws.Cover3
import Derived.Lib.LazyBuf
import Derived.Sort.Walk0
/- Rows of the call's own that grow by append; bytes and strings. No program in sight. -/
set_option linter.unusedVariables false
set_option linter.unusedSimpArgs false
namespace Go.Proofs.YtlankpiogfhblaaGreatDoor.Sy
open Go Go.RowKit

/-- The slice v owns its row: the first n elements are xs; it starts at the row's head; no cell of it is frozen. -/
def ORow (w : World) (e size : Nat) (v : Value) (n : Nat) (xs : List Value) : Prop :=
  xs.length = n * size ∧ ((v = .slice none 0 0 ∧ n = 0) ∨
    ∃ g cap cur fz, v = .slice (some ⟨g, 0, none⟩) n cap ∧ w.heap[g]? = some (.cells cur e fz) ∧ n ≤ cap ∧ cap ≤ maxLen ∧ cur.size = cap * size ∧ cur.toList.take (n * size) = xs ∧ (fz.1 = fz.2 ∨ cur.size ≤ fz.1))
def orow (e size : Nat) (v : Value) (n : Nat) (xs : List Value) : Res := ⟨v.ownBlock.toList, fun w => ORow w e size v n xs⟩
theorem orow_holds {e size n : Nat} {v : Value} {xs : List Value} {w : World} (h : ORow w e size v n xs) : Holds (orow e size v n xs) w := by
  intro w2 h2
  refine ⟨h.1, ?_⟩
  rcases h.2 with h0 | ⟨g, cap, cur, fz, hv, hg, hr⟩
  · exact .inl h0
  · exact .inr ⟨g, cap, cur, fz, hv, (h2 g (by rw [hv]; simp [orow, Value.ownBlock])).trans hg, hr⟩

section
variable {P : Program} {N : Nat} {av bor : List Nat} {w0 : World} {ops : Array Oper} {rest : List Oper} {k : St → Prop} {E : Env} {loc loc' : List Res} {X : World → Prop}
variable {d : Option Tmp} {ty : TypeId} {pos : String} {af : Array Edge} {g : Option (Nat × Bool)} {bb want : Bool} {K : Exit → St → Prop}

/-- A resource is handed in, another one comes back. -/
theorem Gam.swap {w w' : World} {r r' : Res} (G : Gam av bor w0 loc X w) (hA : At r r' loc loc') (ho : w'.os = w.os) (ht : w'.tape = w.tape) (hp : w'.output = w.output) (hz : w.heap.size ≤ w'.heap.size)
    (hb : ∀ i, i < w.heap.size → i ∉ r.fp → w'.heap[i]? = w.heap[i]?) (hn : r'.fp.Nodup) (hf : ∀ i ∈ r'.fp, i < w'.heap.size ∧ (i ∈ r.fp ∨ w.heap.size ≤ i)) (hr : Holds r' w') : Gam av bor w0 loc' X w' := by
  obtain ⟨f, h1, h2⟩ := hA.perm
  have G1 : Gam av bor w0 ([r] ++ f) X w := G.perm h1
  have G2 : Gam (av ++ fps f) (fps [r]) w [r'] (fun _ => True) w' := by
    have hs := G1.start
    have e1 : fps [r] = r.fp := by simp [fps]
    have e2 : fps [r'] = r'.fp := by simp [fps]
    refine ⟨⟨ho, ht, hp, hz, fun i hi hne => hb i hi (by rwa [e1] at hne)⟩, hs.avb, by rw [e2]; exact hn, ?_, ?_, Keeps.all fun _ => trivial⟩
    · intro i hi
      rw [e2] at hi
      have := hf i hi
      rw [e1]
      exact ⟨this.1, this.2.symm⟩
    · intro x hx
      rw [List.mem_singleton] at hx
      subst hx
      exact hr
  exact (((G1.frame G2).imp fun _ h => h.1 : Gam av bor w0 ([r'] ++ f) X w')).perm h2.symm

theorem run_storeCells_m (P : Program) (g o : Nat) (t : TypeId) (fz : Nat × Nat) : ∀ (vs : List Value) (i : Nat) (cur : Array Value) (w : World), w.heap[g]? = some (.cells cur t fz) → (fz.1 = fz.2 ∨ cur.size ≤ fz.1) → o + i + vs.length ≤ cur.size → (∀ v ∈ vs, v.oneCell' = true) →
    (storeCells ⟨g, o, none⟩ vs i).run P w = .ok () (w.setRow g (cur.toList.take (o + i) ++ vs ++ cur.toList.drop (o + i + vs.length)).toArray)
  | [], i, cur, w, hg, _, _, _ => by
    simp only [storeCells, List.append_nil, List.length_nil, Nat.add_zero, List.take_append_drop, Array.toArray_toList]
    rw [setRow_self w g cur t fz hg]
    rfl
  | v :: rest, i, cur, w, hg, hz, hl, h1 => by
    have hi : o + i < cur.size := by simp at hl; omega
    have hadd : (⟨g, o, none⟩ : Addr).add i = ⟨g, o + i, none⟩ := by unfold Addr.add; split <;> simp_all
    have hcell : w.cell? ⟨g, o + i, none⟩ = some cur[o + i] := by simp [World.cell?, hg, hi]
    have hfro : w.frozen? ⟨g, o + i, none⟩ = false := by
      obtain ⟨lo, hi'⟩ := fz
      simp only [World.frozen?, hg]
      simp only at hz
      have : ¬ (lo ≤ o + i ∧ o + i < hi') := by omega
      simpa using this
    have hst : (store ((⟨g, o, none⟩ : Addr).add i) v).run P w = .ok () (w.setRow g (cur.setIfInBounds (o + i) v)) := by
      rw [hadd, run_store P w _ v _ (h1 v (by simp)), hcell]
      simp [hfro, setCell_eq_setRow w g (o + i) cur t fz v hg]
    have ih := run_storeCells_m P g o t fz rest (i + 1) (cur.setIfInBounds (o + i) v) (w.setRow g (cur.setIfInBounds (o + i) v)) (Go.setRow_heap w g cur _ t _ hg) (by simpa using hz) (by simp at hl ⊢; omega) (fun x hx => h1 x (by simp [hx]))
    simp only [storeCells, Sem.run_bind, hst, Result.andThen_ok, ih, setRow_setRow]
    congr 3
    have e := list_seg_step cur.toList (o + i) v rest (by simp at hl ⊢; omega)
    simpa [Array.toList_setIfInBounds, Nat.add_assoc] using e

def strOrSl (P : Program) (u : TypeId) : Bool :=
  match P.underlying u with
  | some .string | some (.slice _) => true
  | _ => false
class TySrc (P : Program) (u : TypeId) : Prop where out : strOrSl P u = true
instance {u : TypeId} [h : TyStr P u] : TySrc P u := ⟨by simp [strOrSl, h.out]⟩
instance {u e n b : TypeId} [h : TySl P u e n b] : TySrc P u := ⟨by simp [strOrSl, (slOf_spec h.out).1]⟩
theorem strOrSl_spec {u : TypeId} (h : strOrSl P u = true) : P.underlying u = some .string ∨ ∃ e, P.underlying u = some (.slice e) := by
  unfold strOrSl at h
  split at h
  · exact .inl (by assumption)
  · exact .inr ⟨_, by assumption⟩
  · cases h
/-- What is appended: m elements, their cells. -/
structure Src (P : Program) (w : World) (size : Nat) (x : Value) (m : Nat) (news : List Value) : Prop where
  len : ∀ w', (Builtin.lenOf x).run P w' = .ok m w'
  cells : ∀ w' : World, w'.heap = w.heap → (Builtin.firstCells size m x).run P w' = .ok news.toArray w'
  size : news.length = m * size
  one : ∀ u ∈ news, u.oneCell' = true

theorem run_newRow' (e : TypeId) (cs : Array Value) (w : World) : (newRow e cs).run P w = .ok ⟨w.heap.size, 0, none⟩ (w.alloc (.cells cs e)) := rfl
theorem run_append_o {w : World} {t u ty e size bytes : Nat} {z : Value} (hs : slOf P t = some (e, size, bytes)) (hz : zeroOf P e = some z) (hzs : z.cells.size = size) (hsz : 0 < size) (hu : strOrSl P u = true)
    {v x : Value} {n m : Nat} {xs news : List Value} (ho : ORow w e size v n xs) (hx : Src P w size x m news) (h63 : n + m ≤ maxLen) (hby : (n + m) * bytes ≤ 140737488355328) :
    ∃ v' w', (Builtin.append_ #[t, u] ty #[v, x]).run P w = .ok v' w' ∧ ORow w' e size v' (n + m) (xs ++ news) ∧ w'.os = w.os ∧ w'.tape = w.tape ∧ w'.output = w.output ∧ w.heap.size ≤ w'.heap.size ∧
      (∀ i, i < w.heap.size → i ∉ v.ownBlock.toList → w'.heap[i]? = w.heap[i]?) ∧ (∀ i ∈ v'.ownBlock.toList, i < w'.heap.size ∧ (i ∈ v.ownBlock.toList ∨ w.heap.size ≤ i)) := by
  obtain ⟨ht, inf, hi, hi1, hi2⟩ := slOf_spec hs
  have hzr : (zeroValue e).run P w.drew = .ok z w.drew := run_zero hz _
  have hsm : n + m ≤ 9223372036854775807 := by simp only [maxLen] at h63; omega
  have hlen : (xs ++ news).length = (n + m) * size := by rw [List.length_append, ho.1, hx.size, Nat.add_mul]
  have h63' : ¬ (9223372036854775807 < (n : Int) + (m : Int)) := by omega
  -- where there is no room
  have grow : ∀ (A : Option Addr) (cap : Nat), v = .slice A n cap → cap < n + m → (∀ w' : World, w'.heap = w.heap → (Builtin.firstCells size n v).run P w' = .ok xs.toArray w') →
      (Builtin.append_ #[t, u] ty #[v, x]).run P w = .ok (.slice (some ⟨w.heap.size, 0, none⟩) (n + m) (grownCap w (n + m) cap e))
        (w.drew.alloc (.cells (xs.toArray ++ news.toArray ++ Builtin.zeroCells z.cells (grownCap w (n + m) cap e - (n + m))) e)) := by
    intro A cap hv hlt hf
    subst hv
    have h1 := hf w.drew rfl
    have h2 := hx.cells w.drew rfl
    have hnc : ¬ (n + m ≤ cap) := by omega
    have hfit : ¬ (281474976710656 < Builtin.nextslicecap (n + m) cap * bytes) := by have := growslice_fits hlt hby; omega
    have hsw : (sizeOf e).run P w = .ok size w := by simp [sizeOf, typeInfo, hi, hi1]
    rcases strOrSl_spec hu with hD | ⟨e', hD⟩ <;> simp [Builtin.append_, run_underlying ht, run_underlying hD, hsw, typeInfo, hi, hi1, hi2, hx.len, hnc, hfit, h1, h2, hzr, grownCap, Question.forced, h63', run_newRow'] <;> (rw [← Array.append_assoc]; simp)
  have fin : ∀ (A : Option Addr) (cap : Nat), v = .slice A n cap → cap < n + m → (∀ w' : World, w'.heap = w.heap → (Builtin.firstCells size n v).run P w' = .ok xs.toArray w') → _ :=
    fun A cap hv hlt hf => by
      have hge := grownCap_ge w (n + m) cap e
      have hcm : grownCap w (n + m) cap e ≤ maxLen := grownCap_le_maxLen w (n + m) cap e h63
      exact (⟨_, _, grow A cap hv hlt hf, ⟨hlen, .inr ⟨w.heap.size, _, _, (0, 0), rfl, heap_alloc_new w.drew _, hge, hcm, by
          simp only [Array.size_append, List.size_toArray, size_zeroCells, hzs, ho.1, hx.size, ← Nat.add_mul]
          congr 1
          omega, by
          simp only [Array.toList_append, List.append_assoc]
          rw [← List.append_assoc, ← hlen]
          exact List.take_left, .inl rfl⟩⟩, rfl, rfl, rfl, by simp, fun i hi _ => Below.heap_alloc w.drew _ i hi, fun i hi => by
          simp only [Value.ownBlock, Option.toList_some, List.mem_singleton] at hi
          subst hi
          exact ⟨by simp, .inr (Nat.le_refl _)⟩⟩ :
        ∃ v' w', (Builtin.append_ #[t, u] ty #[v, x]).run P w = .ok v' w' ∧ ORow w' e size v' (n + m) (xs ++ news) ∧ w'.os = w.os ∧ w'.tape = w.tape ∧ w'.output = w.output ∧ w.heap.size ≤ w'.heap.size ∧
          (∀ i, i < w.heap.size → i ∉ v.ownBlock.toList → w'.heap[i]? = w.heap[i]?) ∧ (∀ i ∈ v'.ownBlock.toList, i < w'.heap.size ∧ (i ∈ v.ownBlock.toList ∨ w.heap.size ≤ i)))
  have hsw : (sizeOf e).run P w = .ok size w := by simp [sizeOf, typeInfo, hi, hi1]
  rcases ho.2 with ⟨rfl, rfl⟩ | ⟨g, cap, cur, fz, rfl, hg, hnc, hcm, hcs, htake, hfz⟩
  · have hxs : xs = [] := List.eq_nil_of_length_eq_zero (by simpa using ho.1)
    subst hxs
    by_cases hm : m = 0
    · subst hm
      have hn : news = [] := List.eq_nil_of_length_eq_zero (by simpa using hx.size)
      subst hn
      refine ⟨.slice none 0 0, w, ?_, ⟨by simp, .inl ⟨rfl, rfl⟩⟩, rfl, rfl, rfl, Nat.le_refl _, fun _ _ _ => rfl, fun i hi => by simp [Value.ownBlock] at hi⟩
      have h2 := hx.cells w rfl
      rcases strOrSl_spec hu with hD | ⟨e', hD⟩ <;> simp [Builtin.append_, run_underlying ht, run_underlying hD, hsw, hx.len, h2]
    · refine fin none 0 rfl (by omega) fun w' _ => ?_
      simp [Builtin.firstCells]
  · have hglt : g < w.heap.size := (Array.getElem?_eq_some_iff.1 hg).1
    by_cases hroom : n + m ≤ cap
    · have h2 := hx.cells w rfl
      have hfit : n * size + news.length ≤ cur.size := by
        rw [hcs, hx.size, ← Nat.add_mul]
        exact Nat.mul_le_mul_right _ hroom
      have hst := run_storeCells_m P g (n * size) e fz news 0 cur w hg hfz (by simpa using hfit) hx.one
      simp only [Nat.add_zero] at hst
      have hadd : (⟨g, 0, none⟩ : Addr).add (n * size) = ⟨g, n * size, none⟩ := by unfold Addr.add; split <;> simp_all
      refine ⟨.slice (some ⟨g, 0, none⟩) (n + m) cap, w.setRow g (cur.toList.take (n * size) ++ news ++ cur.toList.drop (n * size + news.length)).toArray, ?_, ⟨hlen, .inr ⟨g, cap, _, fz, rfl, Go.setRow_heap w g cur _ e fz hg, hroom, hcm, ?_, ?_, ?_⟩⟩, rfl, rfl, rfl, by rw [setRow_size]; exact Nat.le_refl _, ?_, ?_⟩
      · rcases strOrSl_spec hu with hD | ⟨e', hD⟩ <;> simp [Builtin.append_, run_underlying ht, run_underlying hD, hsw, hx.len, h2, hroom, hadd, hst]
      · simp only [List.size_toArray, List.length_append, List.length_take, List.length_drop, Array.length_toList]
        omega
      · rw [htake, ← hlen]
        exact List.take_left
      · simp only [List.size_toArray, List.length_append, List.length_take, List.length_drop, Array.length_toList]
        omega
      · intro i _ hi
        exact setRow_heap _ _ _ _ (fun e => hi (by simp [Value.ownBlock, e]))
      · intro i hi
        simp only [Value.ownBlock, Option.toList_some, List.mem_singleton] at hi
        subst hi
        exact ⟨by rw [setRow_size]; exact hglt, .inl (by simp [Value.ownBlock])⟩
    · refine fin (some ⟨g, 0, none⟩) cap rfl (by omega) fun w' hw' => ?_
      have hl := run_loadCells_list (P := P) w' ⟨g, 0, none⟩ xs (fun j u hj => by
        have hadd : (⟨g, 0, none⟩ : Addr).add j = ⟨g, j, none⟩ := by unfold Addr.add; split <;> simp_all
        rw [hadd, cell_of_row w' g j cur e fz (by rw [hw']; exact hg)]
        rw [← htake, List.getElem?_take] at hj
        split at hj
        · simpa using hj
        · cases hj)
      rw [ho.1] at hl
      simp [Builtin.firstCells, hl]

/-- 'append(s, x...)', s a row of the call's own. -/
theorem sw_append {n : Nat} {s x : Operand} {t u e size bytes : Nat} [hs : TySl P t e size bytes] {z : Value} [hz : TyZero P e z] {v vx : Value} {m q : Nat} {xs news : List Value} {L : Value → List Res}
    [hu : TySrc P u] (hzs : z.cells.size = size := by rfl) (hsz : Nat.blt 0 size = true := by rfl)
    (hv : ev E s = some v := by rfl) (hx : ev E x = some vx := by rfl) (hA : ∀ v', At (orow e size v m xs) (orow e size v' (m + q) (xs ++ news)) loc (L v')) (hsrc : ∀ w, Gam av bor w0 loc X w → Src P w size vx q news)
    (h63 : (m + q) * bytes ≤ 140737488355328) (h1 : m + q ≤ maxLen) (hg : gdB ops E g = some (bb, want) := by rfl) (hb : bb = want := by (first | with_reducible rfl | with_reducible assumption | with_reducible exact Bool.not_false | with_reducible exact Bool.not_true)) (hd : Nat.blt n N = true := by rfl)
    (h : ∀ A c, Sw P N av bor w0 ops rest ⟨(n, .slice A (m + q) c) :: E, L (.slice A (m + q) c), X⟩ k) : Sw P N av bor w0 ops (⟨some n, .call ⟨.builtin .append, #[s, x], #[t, u]⟩, ty, pos, af, g⟩ :: rest) ⟨E, loc, X⟩ k := Sw.mk fun a w ok => by
  have hd' : inB N (some n) = true := by have h1 : n < N := Nat.le_of_ble_eq_true hd; simpa [inB] using h1
  have ho : ORow w e size v m xs := (ok.gam.here _ (hA v).mem).now
  obtain ⟨v', w', hr, ho', k1, k2, k3, k4, k5, k6⟩ := run_append_o (P := P) (ty := ty) hs.out hz.out hzs (Nat.le_of_ble_eq_true hsz) hu.out ho (hsrc w ok.gam) h1 h63
  have hv' : ∃ A c, v' = .slice A (m + q) c := by
    rcases ho'.2 with ⟨rfl, h0⟩ | ⟨g', cap, _, _, rfl, _⟩
    · exact ⟨none, 0, by rw [h0]⟩
    · exact ⟨_, _, rfl⟩
  obtain ⟨A, c, rfl⟩ := hv'
  simp only [wpList]
  rw [wanted_of ok (o := ⟨some n, .call ⟨.builtin .append, #[s, x], #[t, u]⟩, ty, pos, af, g⟩) hg]
  subst hb
  simp only [beq_self_eq_true, if_true]
  left
  unfold Oper.wp
  have hr' : (execOp a.eval ⟨some n, .call ⟨.builtin .append, #[s, x], #[t, u]⟩, ty, pos, af, g⟩).run P w = .ok (.value (.slice A (m + q) c)) w' := by
    simp only [execOp, resolve, invoke, builtin, Sem.run_bind, Sem.run_pure, Result.andThen_ok, List.map_toArray, List.map_cons, List.map_nil, ok.eval (st := ⟨E, loc, X⟩) hv, ok.eval (st := ⟨E, loc, X⟩) hx, hr]
  rw [hr']
  have hn : (orow e size (.slice A (m + q) c) (m + q) (xs ++ news)).fp.Nodup := by cases A <;> simp [orow, Value.ownBlock]
  have ok' : Ok N av bor w0 ⟨E, L (.slice A (m + q) c), X⟩ a w' := (ok.via fun M G => G.swap ((hA _).app M) k1 k2 k3 k4 k5 hn k6 (orow_holds ho'))
  exact (h A c).run _ _ (put_eq (some n) _ ▸ ok'.put hd' _)

/-- A nil slice is an empty row of the call's own. -/
theorem Gam.nilRow {w : World} (G : Gam av bor w0 loc X w) (e size : Nat) : Gam av bor w0 (orow e size (.slice none 0 0) 0 [] :: loc) X w := by
  have e1 : fps (orow e size (.slice none 0 0) 0 [] :: loc) = fps loc := by simp [fps, orow, Value.ownBlock]
  refine ⟨G.fr, G.avb, by rw [e1]; exact G.nodup, by rw [e1]; exact G.own, fun r hr => ?_, by rw [e1]; exact G.keep⟩
  rcases List.mem_cons.1 hr with rfl | hr
  · exact orow_holds ⟨by simp, .inl ⟨rfl, rfl⟩⟩
  · exact G.here r hr
theorem sw_nilRow (e size : Nat) (h : Sw P N av bor w0 ops rest ⟨E, orow e size (.slice none 0 0) 0 [] :: loc, X⟩ k) : Sw P N av bor w0 ops rest ⟨E, loc, X⟩ k := Sw.mk fun a w ok => h.run a w (ok.via fun M G => G.nilRow e size)
theorem cw_nilRow {c : Code} (e size : Nat) (h : Cw P N av bor w0 c ⟨E, orow e size (.slice none 0 0) 0 [] :: loc, X⟩ K) : Cw P N av bor w0 c ⟨E, loc, X⟩ K := Cw.mk fun a w ok => h.run a w (ok.via fun M G => G.nilRow e size)

/-! ### Sources -/
theorem src_string {w : World} {s : ByteArray} (hs : s.size ≤ 9223372036854775807) : Src P w 1 (.string s) s.size (s.data.toList.map fun b => .int .u8 b.toNat) := by
  refine ⟨fun w' => by simp [Builtin.lenOf], fun w' _ => ?_, by simp, fun u hu => ?_⟩
  · have e : s.extract 0 s.size = s := by simp
    simp only [Builtin.firstCells, e, Sem.run_pure]
    congr 1
    apply Array.ext'
    simp
  · simp only [List.mem_map] at hu
    obtain ⟨b, _, rfl⟩ := hu
    rfl
theorem src_cel {w : World} {b T n size : Nat} {cs : List Value} (G : Gam av bor w0 loc X w) (hm : cel b T cs ∈ loc) (hl : cs.length = n * size) (h1 : cs.all (·.oneCell') = true) (c : Nat) : Src P w size (.slice (some ⟨b, 0, none⟩) n c) n cs := by
  have hw : w.heap[b]? = some (.cells cs.toArray T (0, 0)) := (G.here _ hm).now
  refine ⟨fun w' => by simp [Builtin.lenOf], fun w' e => ?_, hl, by simpa using h1⟩
  have := run_loadCells_list (P := P) w' ⟨b, 0, none⟩ cs (fun j v hv => by
    have hadd : (⟨b, 0, none⟩ : Addr).add j = ⟨b, j, none⟩ := by unfold Addr.add; split <;> simp_all
    rw [hadd, cell_of_row w' b j _ _ _ (by rw [e]; exact hw)]
    simpa using hv)
  rw [hl] at this
  simp [Builtin.firstCells, this]
/-- A slice that is data. -/
theorem src_rows {w : World} {size : Nat} {s : SlV} {xs : List (List Value)} (h : RowsD w size s xs) (h1 : ∀ cs ∈ xs, cs.all (·.oneCell') = true) : Src P w size s.v s.n xs.flatten := by
  have hlen : xs.flatten.length = s.n * size := by
    rw [List.length_flatten, h.len]
    have : ∀ x ∈ xs.map List.length, x = size := by
      intro x hx
      obtain ⟨cs, hcs, rfl⟩ := List.mem_map.1 hx
      obtain ⟨i, hi⟩ := List.mem_iff_getElem?.1 hcs
      exact (h.row i cs hi).1
    rw [List.eq_replicate_of_mem this]
    simp
  refine ⟨fun w' => by simp [Builtin.lenOf, SlV.v], fun w' e => ?_, hlen, fun u hu => ?_⟩
  · obtain ⟨p, n, c⟩ := s
    cases p with
    | none =>
      have : xs = [] := by
        cases xs with
        | nil => rfl
        | cons cs r => have := (h.row 0 cs rfl).2.1; simp at this
      subst this
      simp [Builtin.firstCells, SlV.v]
    | some a =>
      have := run_loadCells_list (P := P) w' a xs.flatten (fun j v hv => by
        have key : ∀ (l : List (List Value)) (i0 : Nat), (∀ i cs, l[i]? = some cs → cs.length = size ∧ ∀ j u, cs[j]? = some u → CellAt w (some a) ((i0 + i) * size + j) u) → ∀ j v, l.flatten[j]? = some v → w.cell? (a.add (i0 * size + j)) = some v := by
          intro l
          induction l with
          | nil => intro _ _ j v hv; simp at hv
          | cons cs r ih =>
            intro i0 hl j v hv
            have h0 := hl 0 cs rfl
            rw [List.flatten_cons] at hv
            rcases Nat.lt_or_ge j cs.length with hj | hj
            · rw [List.getElem?_append_left hj] at hv
              have := (h0.2 j v hv).2 a rfl
              simpa using this
            · rw [List.getElem?_append_right hj] at hv
              have := ih (i0 + 1) (fun i cs' hi => by
                have := hl (i + 1) cs' (by simpa using hi)
                rw [show i0 + 1 + i = i0 + (i + 1) from by omega]
                exact this) (j - cs.length) v hv
              rw [h0.1] at this hj
              rw [show i0 * size + j = (i0 + 1) * size + (j - size) from by rw [Nat.add_mul]; omega]
              exact this
        have := key xs 0 (fun i cs hi => ⟨(h.row i cs hi).1, fun j u hj => by simpa using (h.row i cs hi).2.2 j u hj⟩) j v hv
        have hc : w'.cell? (a.add j) = w.cell? (a.add j) := by simp [World.cell?, e]
        rw [hc]
        simpa using this)
      rw [hlen] at this
      simp [Builtin.firstCells, SlV.v, this]
  · simp only [List.mem_flatten] at hu
    obtain ⟨cs, hcs, hu⟩ := hu
    have := h1 cs hcs
    simp only [List.all_eq_true] at this
    exact this u hu

/-! ### Bytes and strings -/
def ofInts (ns : List Int) : ByteArray := ns.foldl (fun r n => r.push (UInt8.ofNat n.toNat)) ByteArray.empty
def u8s (ns : List Int) : List Value := ns.map (Value.int .u8)
def bytesI (s : ByteArray) : List Int := s.data.toList.map fun b => (b.toNat : Int)
theorem u8s_append (a b : List Int) : u8s (a ++ b) = u8s a ++ u8s b := by simp [u8s]
theorem src_str {w : World} {s : ByteArray} (hs : s.size ≤ 9223372036854775807) : Src P w 1 (.string s) s.size (u8s (bytesI s)) := by
  have := src_string (P := P) (w := w) hs
  simpa [u8s, bytesI, List.map_map, Function.comp_def] using this
theorem y_b2s {st : St} {x : Operand} {t t2 e b' : TypeId} [hs : TySl P t e 1 b'] [he : TyInt P e .u8] [h2 : TyStr P t2] {v : Value} {n : Nat} {ns : List Int} (hx : ev st.env x = some v) (hm : orow e 1 v n (u8s ns) ∈ st.loc) :
    Sy.Yields P N av bor w0 st (.convert t t2 x) ty (.string (ofInts ns)) := Sy.Yields.mk fun A w ok d pos af g => by
  have ho : ORow w e 1 v n (u8s ns) := (ok.gam.here _ hm).now
  have hl : (u8s ns).length = n := by have := ho.1; omega
  rcases ho.2 with ⟨rfl, rfl⟩ | ⟨g, cap, cur, fz, rfl, hg, hnc, hcm, hcs, htake, hfz⟩
  · have : ns = [] := by simpa [u8s] using hl
    subst this
    have := run_convert_bytes_string (P := P) w t t2 e none 0 0 (slOf_spec hs.out).1 he.out h2.out
    simp [execOp, ok.eval hx, this, Conv.bytesToString, ofInts]
  · have hlc := run_loadCells_list (P := P) w ⟨g, 0, none⟩ (u8s ns) (fun j u hj => by
      have hadd : (⟨g, 0, none⟩ : Addr).add j = ⟨g, j, none⟩ := by unfold Addr.add; split <;> simp_all
      rw [hadd, cell_of_row w g j cur e fz hg]
      rw [← htake, List.getElem?_take] at hj
      split at hj
      · simpa using hj
      · cases hj)
    rw [hl] at hlc
    have h3 := run_bytesToString (P := P) w ⟨g, 0, none⟩ n cap ns hlc
    have h4 := run_convert_bytes_string (P := P) w t t2 e (some ⟨g, 0, none⟩) n cap (slOf_spec hs.out).1 he.out h2.out
    rw [h3] at h4
    simp [execOp, ok.eval hx, h4, ofInts]
theorem sy_b2s {nn : Nat} {x : Operand} {t t2 e b' : TypeId} [hs : TySl P t e 1 b'] [he : TyInt P e .u8] [h2 : TyStr P t2] {v : Value} {n : Nat} {ns : List Int} (hx : ev E x = some v := by rfl) (hm : orow e 1 v n (u8s ns) ∈ loc := by (repeat (first | exact List.mem_cons_self | apply List.mem_cons_of_mem)))
    (hg : gdB ops E g = some (bb, want) := by rfl) (hb : bb = want := by (first | with_reducible rfl | with_reducible assumption | with_reducible exact Bool.not_false | with_reducible exact Bool.not_true)) (hd : Nat.blt nn N = true := by rfl) (h : Sw P N av bor w0 ops rest ⟨(nn, .string (ofInts ns)) :: E, loc, X⟩ k) : Sw P N av bor w0 ops (⟨some nn, .convert t t2 x, ty, pos, af, g⟩ :: rest) ⟨E, loc, X⟩ k :=
  sw_yield (y_b2s hx hm) hg hb hd h
theorem freeze_new (w : World) (C : Array Value) (e : TypeId) : (w.alloc (.cells C e)).freeze ⟨w.heap.size, C.size, none⟩ 1 = w.alloc (.cells C e (C.size, C.size + 1)) := by
  simp only [World.freeze, World.alloc]
  rw [if_neg (by omega)]
  congr 1
  apply Array.ext_getElem?
  intro i
  rw [Array.getElem?_modify]
  by_cases h : w.heap.size = i
  · subst h
    simp
  · have h' : ¬ i = w.heap.size := fun e => h e.symm
    simp [h, h', Array.getElem?_push]
theorem run_s2b {w : World} {e : TypeId} {s : ByteArray} : (Conv.stringToBytes e s).run P w = .ok (.slice (some ⟨w.heap.size, 0, none⟩) s.size (grownCap w s.size 0 e))
    (w.drew.alloc (.cells ((s.data.map fun b => Value.int .u8 b.toNat) ++ Array.replicate (grownCap w s.size 0 e - s.size) (.int .u8 0)) e
      ((((s.data.map fun b => Value.int .u8 b.toNat) ++ Array.replicate (grownCap w s.size 0 e - s.size) (.int .u8 0)) : Array Value).size, (((s.data.map fun b => Value.int .u8 b.toNat) ++ Array.replicate (grownCap w s.size 0 e - s.size) (.int .u8 0)) : Array Value).size + 1))) := by
  have h1 : (choose (.appendCap s.size 0 e)).run P w = .ok (grownCap w s.size 0 e) w.drew := rfl
  unfold Conv.stringToBytes
  simp only [Sem.run_bind, h1, Result.andThen_ok, run_newRow']
  generalize ((s.data.map fun b => Value.int .u8 b.toNat) ++ Array.replicate (grownCap w s.size 0 e - s.size) (.int .u8 0) : Array Value) = C
  have h2 : (markStringish ⟨w.drew.heap.size, 0, none⟩).run P (w.drew.alloc (.cells C e)) = .ok () (w.drew.alloc (.cells C e (C.size, C.size + 1))) := by
    have hs : (w.drew.alloc (.cells C e)).shape? w.heap.size = some (e, C.size) := by
      have := heap_alloc_new w.drew (.cells C e)
      unfold World.shape?
      rw [show w.heap.size = w.drew.heap.size from rfl, this]
    have := freeze_new w.drew C e
    simp [markStringish, hs]
    exact this
  rw [h2]
  simp
theorem sw_s2b {n : Nat} {x : Operand} {t t2 e b' : TypeId} [hs : TySl P t2 e 1 b'] [he : TyInt P e .u8] [h2 : TyStr P t] {s : ByteArray} (hx : ev E x = some (.string s) := by rfl) (hsz : s.size ≤ 4611686018427387904 := by omega) (hg : gdB ops E g = some (bb, want) := by rfl) (hb : bb = want := by (first | with_reducible rfl | with_reducible assumption | with_reducible exact Bool.not_false | with_reducible exact Bool.not_true)) (hd : Nat.blt n N = true := by rfl)
    (h : ∀ A c, Sw P N av bor w0 ops rest ⟨(n, .slice A s.size c) :: E, orow e 1 (.slice A s.size c) s.size (u8s (bytesI s)) :: loc, X⟩ k) : Sw P N av bor w0 ops (⟨some n, .convert t t2 x, ty, pos, af, g⟩ :: rest) ⟨E, loc, X⟩ k := Sw.mk fun a w ok => by
  have hd' : inB N (some n) = true := by have h1 : n < N := Nat.le_of_ble_eq_true hd; simpa [inB] using h1
  have hge : s.size ≤ grownCap w s.size 0 e := grownCap_ge w s.size 0 e
  have hcm : grownCap w s.size 0 e ≤ maxLen := grownCap_le_maxLen w s.size 0 e (by simp only [maxLen]; omega)
  have hr0 := run_s2b (P := P) (w := w) (e := e) (s := s)
  generalize grownCap w s.size 0 e = c at hge hcm hr0
  generalize hC : ((s.data.map fun b => Value.int .u8 b.toNat) ++ Array.replicate (c - s.size) (.int .u8 0) : Array Value) = C at hr0
  have hCs : C.size = c := by rw [← hC]; simp; omega
  have hCt : C.toList.take s.size = u8s (bytesI s) := by
    rw [← hC]
    simp only [Array.toList_append, Array.toList_map]
    rw [List.take_append_of_le_length (by simp)]
    rw [List.take_of_length_le (by simp)]
    simp [u8s, bytesI]
  simp only [wpList]
  rw [wanted_of ok (o := ⟨some n, .convert t t2 x, ty, pos, af, g⟩) hg]
  subst hb
  simp only [beq_self_eq_true, if_true]
  left
  unfold Oper.wp
  have hr : (execOp a.eval ⟨some n, .convert t t2 x, ty, pos, af, g⟩).run P w = .ok (.value (.slice (some ⟨w.heap.size, 0, none⟩) s.size c)) (w.drew.alloc (.cells C e (C.size, C.size + 1))) := by
    simp [execOp, ok.eval (st := ⟨E, loc, X⟩) hx, convert, run_underlying h2.out, run_underlying (slOf_spec hs.out).1, run_underlying he.out, hr0]
  rw [hr]
  have ok' : Ok N av bor w0 ⟨E, orow e 1 (.slice (some ⟨w.heap.size, 0, none⟩) s.size c) s.size (u8s (bytesI s)) :: loc, X⟩ a (w.drew.alloc (.cells C e (C.size, C.size + 1))) := (ok.via fun M G => (G.drew).new (.cells C e (C.size, C.size + 1)) (fun w2 => ORow w2 e 1 (.slice (some ⟨w.heap.size, 0, none⟩) s.size c) s.size (u8s (bytesI s))) (fun w2 h => ⟨by simp [u8s, bytesI], .inr ⟨w.heap.size, c, C, _, rfl, h, hge, hcm, by omega, by simpa using hCt, .inr (Nat.le_refl _)⟩⟩))
  exact (h _ _).run _ _ (put_eq (some n) _ ▸ ok'.put hd' _)
end
end Go.Proofs.YtlankpiogfhblaaGreatDoor.Sy

/- Slice literals, made slices. No program in sight. -/
set_option linter.unusedVariables false
set_option linter.unusedSimpArgs false
namespace Go.Proofs.YtlankpiogfhblaaGreatDoor.Sy
open Go Go.RowKit

section
variable {P : Program} {N : Nat} {av bor : List Nat} {w0 : World} {ops : Array Oper} {rest : List Oper} {k : St → Prop} {E : Env} {loc loc' : List Res} {X : World → Prop}
variable {d : Option Tmp} {ty : TypeId} {pos : String} {af : Array Edge} {g : Option (Nat × Bool)} {bb want : Bool} {K : Exit → St → Prop}

theorem fill_ones : ∀ (vs pre z : List Value), (∀ v ∈ vs, v.oneCell' = true) → z.length = vs.length →
    Instr.fill (fun i => some (i * 1, 1)) (pre ++ z).toArray ((vs.zipIdx pre.length).map fun p => (p.2, p.1)) = some (pre ++ vs).toArray
  | [], pre, z, _, hz => by
    have : z = [] := List.eq_nil_of_length_eq_zero (by simpa using hz)
    subst this
    simp [Instr.fill]
  | v :: vs, pre, z, h1, hz => by
    cases z with
    | nil => simp at hz
    | cons y z =>
      have hv : v.cells = #[v] := by
        have := h1 v List.mem_cons_self
        cases v <;> first | rfl | (simp [Value.oneCell'] at this)
      have ih := fill_ones vs (pre ++ [v]) z (fun u hu => h1 u (List.mem_cons_of_mem _ hu)) (by simpa using hz)
      simp only [List.zipIdx_cons, List.map_cons, Instr.fill, hv]
      have e : ((pre ++ y :: z).toArray.setIfInBounds pre.length v) = (pre ++ [v] ++ z).toArray := by
        apply Array.ext'
        simp
      simp only [List.length_append, List.length_cons, List.length_nil, Nat.zero_add] at ih
      simp [e]
      simpa using ih
def partsOf (E : Env) : Nat → List (Nat × Operand) → Option (List Value)
  | _, [] => some []
  | i, (j, x) :: r =>
    bif Nat.beq i j then
      match ev E x, partsOf E (i + 1) r with
      | some v, some l => some (v :: l)
      | _, _ => none
    else none
theorem partsOf_spec {a : Act} {w : World} (ok : Ok N av bor w0 ⟨E, loc, X⟩ a w) : ∀ (l : List (Nat × Operand)) (i : Nat) (vs : List Value), partsOf E i l = some vs → (l.map fun p => (p.1, a.eval p.2)) = (vs.zipIdx i).map fun p => (p.2, p.1)
  | [], i, vs, h => by simp [partsOf] at h; subst h; rfl
  | (j, x) :: r, i, vs, h => by
    unfold partsOf at h
    cases hb : Nat.beq i j with
    | false => simp [hb] at h
    | true =>
      have e : i = j := Nat.eq_of_beq_eq_true hb
      subst e
      simp only [hb, cond_true] at h
      split at h
      · rename_i v l' hv hl
        simp at h
        subst h
        simp [ok.eval (st := ⟨E, loc, X⟩) hv, partsOf_spec ok r (i + 1) l' hl]
      · cases h
/-- '[]T{x, y, ..}', T of one cell. -/
theorem sw_bsl {n len : Nat} {t e b' : Nat} [hs : TySl P t e 1 b'] {z : Value} [hz : TyZero P e z] {parts : List (Nat × Operand)} {vs : List Value} (hp : partsOf E 0 parts = some vs := by rfl) (hl : vs.length = len := by rfl) (h1 : vs.all (·.oneCell') = true := by rfl)
    (hpos : Nat.ble len 1000000 = true := by rfl) (hg : gdB ops E g = some (bb, want) := by rfl) (hb : bb = want := by (first | with_reducible rfl | with_reducible assumption | with_reducible exact Bool.not_false | with_reducible exact Bool.not_true)) (hd : Nat.blt n N = true := by rfl)
    (h : ∀ b, Sw P N av bor w0 ops rest ⟨(n, .slice (some ⟨b, 0, none⟩) len len) :: E, cel b e vs :: loc, X⟩ k) : Sw P N av bor w0 ops (⟨some n, .buildSlice t len parts.toArray, ty, pos, af, g⟩ :: rest) ⟨E, loc, X⟩ k := Sw.mk fun a w ok => by
  have hd' : inB N (some n) = true := by have h1 : n < N := Nat.le_of_ble_eq_true hd; simpa [inB] using h1
  have hle : len ≤ 1000000 := Nat.le_of_ble_eq_true hpos
  obtain ⟨ht, inf, hi, hi1, hi2⟩ := slOf_spec hs.out
  have hsz : (sizeOf e).run P w = .ok 1 w := by simp [sizeOf, typeInfo, hi, hi1]
  have hzr : (zeroValue e).run P w = .ok z w := run_zero hz.out w
  simp only [wpList]
  rw [wanted_of ok (o := ⟨some n, .buildSlice t len parts.toArray, ty, pos, af, g⟩) hg]
  subst hb
  simp only [beq_self_eq_true, if_true]
  left
  unfold Oper.wp
  have hfill : ∀ Z : Array Value, Z.size = len → Instr.fill (fun i => some (i * 1, 1)) Z (parts.map fun p => (p.1, a.eval p.2)) = some vs.toArray := fun Z hZ => by
    rw [partsOf_spec ok parts 0 vs hp]
    have := fill_ones vs [] Z.toList (by simpa using h1) (by simp [hZ, hl])
    simpa using this
  have hr : (execOp a.eval ⟨some n, .buildSlice t len parts.toArray, ty, pos, af, g⟩).run P w = .ok (.value (.slice (some ⟨w.heap.size, 0, none⟩) len len)) (w.alloc (.cells vs.toArray e)) := by
    have hn : ¬ (16777216 < len) := by omega
    by_cases h0 : len = 0
    · subst h0
      have hf := hfill #[] rfl
      have hr0 : ∀ f : Nat → Value, Array.map f (Array.range 0) = #[] := fun f => Array.eq_empty_of_size_eq_zero (by simp)
      simp at hf
      simp [execOp, Instr.buildSlice, run_underlying ht, hsz, hf, hr0, run_newRow']
    · have hf := hfill ((Array.range len).map (fun x => z.cells[x % z.cells.size]!)) (by simp)
      simp at hf
      simp [execOp, Instr.buildSlice, run_underlying ht, hsz, hzr, h0, hn, hf, run_newRow']
  rw [hr]
  have ok' : Ok N av bor w0 ⟨E, cel w.heap.size e vs :: loc, X⟩ a (w.alloc (.cells vs.toArray e)) := (ok.via fun M G => G.new _ _ fun _ h => h)
  exact (h _).run _ _ (put_eq (some n) _ ▸ ok'.put hd' _)
end
end Go.Proofs.YtlankpiogfhblaaGreatDoor.Sy

/- Maps with int and string keys; a resource becomes data. No program in sight. -/
set_option linter.unusedVariables false
set_option linter.unusedSimpArgs false
namespace Go.Proofs.YtlankpiogfhblaaGreatDoor.Sy
open Go Go.RowKit Go.MapKept

class KeyT (κ : Type) where
  d : TypeDesc
  enc : κ → Value
  eqb : κ → κ → Bool
  ok : ∀ a, IsKey d (enc a)
  same : ∀ a b, Instr.sameNow d (enc a) (enc b) = some (eqb a b)
  eqb_iff : ∀ a b, eqb a b = true ↔ a = b
instance : KeyT Int := ⟨.int .i64, .int .i64, fun a b => decide (a = b), fun a => rfl, fun a b => by simp [Instr.sameNow]; rfl, fun a b => by simp⟩
instance : KeyT ByteArray := ⟨.string, .string, fun a b => a == b, fun a => trivial, fun a b => rfl, bytes_beq⟩
def keyD (κ : Type) [KeyT κ] : TypeDesc := KeyT.d κ

section
variable {κ : Type} [KeyT κ] {β : Type}
def mget : List (κ × β) → κ → Option β
  | [], _ => none
  | (k', v') :: r, k => bif KeyT.eqb k k' then some v' else mget r k
def mput : List (κ × β) → κ → β → List (κ × β)
  | [], k, v => [(k, v)]
  | (k', v') :: r, k, v => bif KeyT.eqb k k' then (k, v) :: r else (k', v') :: mput r k v
def MapAt (w : World) (g : Nat) (l : List (κ × Value)) : Prop :=
  ∃ es clock, w.heap[g]? = some (.map es clock) ∧ Stamped es clock ∧ es.toList.map (fun e => (e.key, e.val)) = l.map fun p => (KeyT.enc p.1, p.2)
def mapr (g : Nat) (l : List (κ × Value)) : Res := ⟨[g], fun w => MapAt w g l⟩
theorem find_enc (k : κ) : ∀ (es : List MapEntry) (l : List (κ × Value)) (i : Nat), es.map (fun e => (e.key, e.val)) = l.map (fun p => (KeyT.enc p.1, p.2)) →
    (Instr.findNow (keyD κ) (KeyT.enc k) es i = some none ∧ mget l k = none ∧ (∀ v, mput l k v = l ++ [(k, v)]) ∧ ∀ x ∈ es, x.key ≠ KeyT.enc k) ∨
    ∃ j e v0, Instr.findNow (keyD κ) (KeyT.enc k) es i = some (some (i + j, v0)) ∧ es[j]? = some e ∧ e.key = KeyT.enc k ∧ mget l k = some v0 ∧ ∀ v, mput l k v = l.set j (k, v)
  | [], l, i, h => by
    have : l = [] := by cases l <;> simp_all
    subst this
    exact .inl ⟨rfl, rfl, fun _ => rfl, by simp⟩
  | e :: es, [], i, h => by simp at h
  | e :: es, (k', v') :: l, i, h => by
    simp only [List.map_cons, List.cons.injEq, Prod.mk.injEq] at h
    obtain ⟨⟨h1, h2⟩, h3⟩ := h
    have hs : Instr.sameNow (keyD κ) (KeyT.enc k) e.key = some (KeyT.eqb k k') := by rw [h1]; exact KeyT.same k k'
    cases hb : KeyT.eqb k k' with
    | true =>
      have hk := (KeyT.eqb_iff k k').1 hb
      exact .inr ⟨0, e, v', by simp [Instr.findNow, hs, hb, h2], rfl, by rw [h1, hk], by simp [mget, hb], fun v => by simp [mput, hb]⟩
    | false =>
      have hne : e.key ≠ KeyT.enc k := fun q => by
        have h5 := KeyT.same k k
        have h6 : KeyT.eqb k k = true := (KeyT.eqb_iff k k).2 rfl
        have h7 : Instr.sameNow (keyD κ) (KeyT.enc k) (KeyT.enc k) = some true := by rw [← h6]; exact h5
        rw [q, h7, hb] at hs
        simp at hs
      rcases find_enc k es l (i + 1) h3 with ⟨g1, g2, g3, g4⟩ | ⟨j, e', v0, g1, g2, g3, g4, g5⟩
      · exact .inl ⟨by simp [Instr.findNow, hs, hb, g1], by simp [mget, hb, g2], fun v => by simp [mput, hb, g3], fun x hx => by
          cases hx with
          | head => exact hne
          | tail _ hx => exact g4 x hx⟩
      · exact .inr ⟨j + 1, e', v0, by simp [Instr.findNow, hs, hb, g1]; omega, by simpa using g2, g3, by simp [mget, hb, g4], fun v => by simp [mput, hb, g5]⟩
def mapOf (P : Program) (t : TypeId) : Option (TypeId × TypeDesc) :=
  match P.underlying t with
  | some (.map kt et) => (P.underlying kt).map fun d => (et, d)
  | _ => none
class TyMap (P : Program) (t : TypeId) (et : outParam Nat) (d : outParam TypeDesc) : Prop where out : mapOf P t = some (et, d)
theorem mapOf_spec {P : Program} {t et : TypeId} {d : TypeDesc} (h : mapOf P t = some (et, d)) : ∃ kt, P.underlying t = some (.map kt et) ∧ P.underlying kt = some d := by
  unfold mapOf at h
  split at h
  · rename_i kt et' he
    cases hk : P.underlying kt with
    | none => simp [hk] at h
    | some d' =>
      simp [hk] at h
      obtain ⟨rfl, rfl⟩ := h
      exact ⟨kt, he, hk⟩
  · cases h
theorem run_mapUpdate_at {P : Program} {w : World} {t et : TypeId} (ht : mapOf P t = some (et, keyD κ)) {g : Nat} {l : List (κ × Value)} (h : MapAt w g l) (k : κ) (v : Value) :
    ∃ o, (Instr.mapUpdate t (.map (some g)) (KeyT.enc k) v).run P w = .ok () { w with heap := w.heap.setIfInBounds g o } ∧ ∀ w' : World, w'.heap[g]? = some o → MapAt w' g (mput l k v) := by
  obtain ⟨kt, h1, h2⟩ := mapOf_spec ht
  obtain ⟨es, clock, hb, hs, hl⟩ := h
  have hk := KeyT.ok k
  rcases find_enc k es.toList l 0 hl with ⟨g1, g2, g3, g4⟩ | ⟨j, e, v0, g1, g2, g3, g4, g5⟩
  · refine ⟨.map (es.push { key := KeyT.enc k, val := v, born := clock }) (clock + 1), ?_, fun w' hw => ⟨_, _, hw, stamped_push hs g4, ?_⟩⟩
    · simp [Instr.mapUpdate, run_underlying h1, MapKept.run_getObj_map hb, MapKept.run_checkKey h2 hk, MapKept.run_findKey h2 g1, MapKept.run_setObj_map _ hb, Result.andThen]
    · rw [g3]
      simp [hl]
  · have hj : es[j]? = some e := by simpa using g2
    refine ⟨.map (es.modify j fun e => { e with key := KeyT.enc k, val := v }) clock, ?_, fun w' hw => ⟨_, _, hw, stamped_modify hs _ _ (fun _ _ => rfl) (fun e' _ he' => by rw [hj] at he'; cases he'; exact g3.symm), ?_⟩⟩
    · simp [Instr.mapUpdate, run_underlying h1, MapKept.run_getObj_map hb, MapKept.run_checkKey h2 hk, MapKept.run_findKey h2 g1, hj, g3, MapKept.run_keyThatStays hk, MapKept.run_setObj_map _ hb, Result.andThen]
    · rw [g5]
      apply List.ext_getElem?
      intro q
      have hq := congrArg (fun l => l[q]?) hl
      simp only [List.getElem?_map, Array.getElem?_toList] at hq
      simp only [List.getElem?_map, Array.getElem?_toList, Array.getElem?_modify, List.getElem?_set]
      by_cases e1 : j = q
      · subst e1
        have hlt : j < l.length := by
          rcases Nat.lt_or_ge j l.length with h | h
          · exact h
          · rw [hj, List.getElem?_eq_none h] at hq; simp at hq
        simp [hj, hlt]
      · simp [e1, hq]
theorem run_lookup_at {P : Program} {w : World} {t et : TypeId} {z : Value} (ht : mapOf P t = some (et, keyD κ)) (hz : zeroOf P et = some z) {g : Nat} {l : List (κ × Value)} (h : MapAt w g l) (k : κ) (c : Bool) :
    (Instr.lookup t (.map (some g)) (KeyT.enc k) c).run P w = .ok (if c then .tuple #[(mget l k).getD z, .bool (mget l k).isSome] else (mget l k).getD z) w := by
  obtain ⟨kt, h1, h2⟩ := mapOf_spec ht
  obtain ⟨es, clock, hb, hs, hl⟩ := h
  have hk := KeyT.ok k
  have hzr : (zeroValue et).run P w = .ok z w := run_zero hz w
  rcases find_enc k es.toList l 0 hl with ⟨g1, g2, g3, g4⟩ | ⟨j, e, v0, g1, g2, g3, g4, g5⟩
  · cases c <;> simp [Instr.lookup, run_underlying h1, MapKept.run_getObj_map hb, MapKept.run_checkKey h2 hk, MapKept.run_findKey h2 g1, hzr, g2, Result.andThen]
  · cases c <;> simp [Instr.lookup, run_underlying h1, MapKept.run_getObj_map hb, MapKept.run_checkKey h2 hk, MapKept.run_findKey h2 g1, g4, Result.andThen]
end

/-- A resource becomes data: nobody writes it any more. -/
theorem Gam.give {av bor : List Nat} {w0 w : World} {r : Res} {loc : List Res} {X : World → Prop} (G : Gam av bor w0 (r :: loc) X w) : Gam av bor w0 loc (fun w => X w ∧ r.F w) w := by
  have hn := G.nodup
  rw [fps_cons] at hn
  have hn2 := List.nodup_append.1 hn
  refine ⟨G.fr, G.avb, hn2.2.1, fun k hk => G.own k (by rw [fps_cons]; exact List.mem_append.2 (.inr hk)), fun q hq => G.here q (List.mem_cons_of_mem _ hq), ?_⟩
  refine Keeps.and (G.keep.anti fun k hk => ?_) ⟨fun k => k ∈ r.fp, fun k hk => ?_, fun w' e => G.here r List.mem_cons_self w' e⟩
  · rw [fps_cons]
    rcases List.mem_append.1 hk with h | h
    · exact List.mem_append.2 (.inl h)
    · exact List.mem_append.2 (.inr (List.mem_append.2 (.inr h)))
  · have h1 := G.own k (by rw [fps_cons]; exact List.mem_append.2 (.inl hk))
    refine ⟨h1.1, fun h => ?_⟩
    rcases List.mem_append.1 h with h | h
    · have h2 := G.avb k h
      rcases h1.2 with h3 | h3
      · omega
      · exact h2.2 h3
    · exact hn2.2.2 k hk k h rfl
section
variable {P : Program} {N : Nat} {av bor : List Nat} {w0 : World} {ops : Array Oper} {rest : List Oper} {k : St → Prop} {E : Env} {loc loc' : List Res} {X : World → Prop}
variable {d : Option Tmp} {ty : TypeId} {pos : String} {af : Array Edge} {g : Option (Nat × Bool)} {bb want : Bool} {K : Exit → St → Prop}
theorem sw_give {r : Res} (h : Sw P N av bor w0 ops rest ⟨E, loc, fun w => X w ∧ r.F w⟩ k) : Sw P N av bor w0 ops rest ⟨E, r :: loc, X⟩ k := Sw.mk fun a w ok => h.run a w (ok.via fun M G => G.give)
theorem sw_makeMap (κ : Type) [KeyT κ] {n : Nat} {t : TypeId} (hg : gdB ops E g = some (bb, want) := by rfl) (hb : bb = want := by (first | with_reducible rfl | with_reducible assumption | with_reducible exact Bool.not_false | with_reducible exact Bool.not_true)) (hd : Nat.blt n N = true := by rfl)
    (h : ∀ q, Sw P N av bor w0 ops rest ⟨(n, .map (some q)) :: E, mapr q ([] : List (κ × Value)) :: loc, X⟩ k) : Sw P N av bor w0 ops (⟨some n, .makeMap t none, ty, pos, af, g⟩ :: rest) ⟨E, loc, X⟩ k := Sw.mk fun a w ok => by
  have hd' : inB N (some n) = true := by have h1 : n < N := Nat.le_of_ble_eq_true hd; simpa [inB] using h1
  simp only [wpList]
  rw [wanted_of ok (o := ⟨some n, .makeMap t none, ty, pos, af, g⟩) hg]
  subst hb
  simp only [beq_self_eq_true, if_true]
  left
  unfold Oper.wp
  have hr : (execOp a.eval ⟨some n, .makeMap t none, ty, pos, af, g⟩).run P w = .ok (.value (.map (some w.heap.size))) (w.alloc (.map #[] 0)) := by
    have : (newObj (.map #[] 0)).run P w = .ok w.heap.size (w.alloc (.map #[] 0)) := rfl
    simp [execOp, Instr.makeMap, this]
  rw [hr]
  have ok' : Ok N av bor w0 ⟨E, mapr w.heap.size ([] : List (κ × Value)) :: loc, X⟩ a (w.alloc (.map #[] 0)) := (ok.via fun M G => G.new (.map #[] 0) (fun w2 => MapAt w2 w.heap.size ([] : List (κ × Value))) fun w2 h => ⟨#[], 0, h, stamped_empty 0, rfl⟩)
  exact (h _).run _ _ (put_eq (some n) _ ▸ ok'.put hd' _)
theorem MapAt.same {κ : Type} [KeyT κ] {w w' : World} {q : Nat} {l : List (κ × Value)} (h : MapAt w q l) (e : w'.heap[q]? = w.heap[q]?) : MapAt w' q l := by
  obtain ⟨es, c, h1, h2⟩ := h
  exact ⟨es, c, e.trans h1, h2⟩
theorem ok_update {κ : Type} [KeyT κ] {a : Act} {w : World} (ok : Ok N av bor w0 ⟨E, loc, X⟩ a w) {t et : TypeId} (ht : mapOf P t = some (et, keyD κ)) {q : Nat} {l : List (κ × Value)} {kk : κ} {v : Value} (hA : At (mapr q l) (mapr q (mput l kk v)) loc loc') :
    ∃ w', (Instr.mapUpdate t (.map (some q)) (KeyT.enc kk) v).run P w = .ok () w' ∧ Ok N av bor w0 ⟨E, loc', X⟩ a w' := by
  have hm : MapAt w q l := (ok.gam.here _ hA.mem).now
  obtain ⟨o, hr, ho⟩ := run_mapUpdate_at ht hm kk v
  obtain ⟨es, c, hb, _⟩ := hm
  have hs := heap_set (o' := o) hb
  refine ⟨_, hr, ok.via fun M G => G.turn (hA.app M) rfl rfl rfl (by simp) (fun i hi => hs.2 i hi) fun w2 h2 => ho w2 (h2.trans hs.1)⟩
theorem sw_insert {κ : Type} [KeyT κ] {t et : Nat} [ht : TyMap P t et (keyD κ)] {m x y : Operand} {q : Nat} {l : List (κ × Value)} {kk : κ} {v : Value} (hm : ev E m = some (.map (some q)) := by rfl) (hx : ev E x = some (KeyT.enc kk) := by rfl) (hy : ev E y = some v := by rfl)
    (hA : At (mapr q l) (mapr q (mput l kk v)) loc loc' := by (repeat (first | exact At.here _ | apply At.there))) (hg : gdB ops E g = some (bb, want) := by rfl) (hb : bb = want := by (first | with_reducible rfl | with_reducible assumption | with_reducible exact Bool.not_false | with_reducible exact Bool.not_true)) (hd : inB N d = true := by rfl)
    (h : Sw P N av bor w0 ops rest ⟨putE E d undef, loc', X⟩ k) : Sw P N av bor w0 ops (⟨d, .insert t m x y, ty, pos, af, g⟩ :: rest) ⟨E, loc, X⟩ k := Sw.mk fun a w ok => by
  simp only [wpList]
  rw [wanted_of ok (o := ⟨d, .insert t m x y, ty, pos, af, g⟩) hg]
  subst hb
  simp only [beq_self_eq_true, if_true]
  left
  unfold Oper.wp
  obtain ⟨w', hr, ok'⟩ := ok_update (P := P) ok ht.out hA
  have hr' : (execOp a.eval ⟨d, .insert t m x y, ty, pos, af, g⟩).run P w = .ok .skip w' := by
    simp [execOp, ok.eval (st := ⟨E, loc, X⟩) hm, ok.eval (st := ⟨E, loc, X⟩) hx, ok.eval (st := ⟨E, loc, X⟩) hy, hr]
  rw [hr']
  exact h.run _ _ (put_eq d _ ▸ ok'.put hd _)
theorem sw_update {κ : Type} [KeyT κ] {t et : Nat} [ht : TyMap P t et (keyD κ)] {m x y : Operand} {q : Nat} {l : List (κ × Value)} {kk : κ} {v : Value} (hm : ev E m = some (.map (some q)) := by rfl) (hx : ev E x = some (KeyT.enc kk) := by rfl) (hy : ev E y = some v := by rfl)
    (hA : At (mapr q l) (mapr q (mput l kk v)) loc loc' := by (repeat (first | exact At.here _ | apply At.there))) (hg : gdB ops E g = some (bb, want) := by rfl) (hb : bb = want := by (first | with_reducible rfl | with_reducible assumption | with_reducible exact Bool.not_false | with_reducible exact Bool.not_true)) (hd : inB N d = true := by rfl)
    (h : Sw P N av bor w0 ops rest ⟨putE E d undef, loc', X⟩ k) : Sw P N av bor w0 ops (⟨d, .mapUpdate t m x y, ty, pos, af, g⟩ :: rest) ⟨E, loc, X⟩ k := Sw.mk fun a w ok => by
  simp only [wpList]
  rw [wanted_of ok (o := ⟨d, .mapUpdate t m x y, ty, pos, af, g⟩) hg]
  subst hb
  simp only [beq_self_eq_true, if_true]
  left
  unfold Oper.wp
  obtain ⟨w', hr, ok'⟩ := ok_update (P := P) ok ht.out hA
  have hr' : (execOp a.eval ⟨d, .mapUpdate t m x y, ty, pos, af, g⟩).run P w = .ok .skip w' := by
    simp [execOp, ok.eval (st := ⟨E, loc, X⟩) hm, ok.eval (st := ⟨E, loc, X⟩) hx, ok.eval (st := ⟨E, loc, X⟩) hy, hr]
  rw [hr']
  exact h.run _ _ (put_eq d _ ▸ ok'.put hd _)
theorem y_lookup {κ : Type} [KeyT κ] {st : St} {t et : Nat} [ht : TyMap P t et (keyD κ)] {z : Value} [hz : TyZero P et z] {m x : Operand} {c : Bool} {q : Nat} {l : List (κ × Value)} {kk : κ} (hm : ev st.env m = some (.map (some q))) (hx : ev st.env x = some (KeyT.enc kk))
    (hl : ∀ w, Gam av bor w0 st.loc st.ext w → MapAt w q l) : Sy.Yields P N av bor w0 st (.lookup t m x c) ty (if c then .tuple #[(mget l kk).getD z, .bool (mget l kk).isSome] else (mget l kk).getD z) := Sy.Yields.mk fun A w ok d pos af g => by
  have := run_lookup_at (P := P) (t := t) ht.out hz.out (hl w ok.gam) kk c
  simp [execOp, ok.eval hm, ok.eval hx, this]
theorem map_loc {κ : Type} [KeyT κ] {q : Nat} {l : List (κ × Value)} (hm : mapr q l ∈ loc) : ∀ w, Gam av bor w0 loc X w → MapAt w q l := fun w G => (G.here _ hm).now
theorem map_ext {κ : Type} [KeyT κ] {q : Nat} {l : List (κ × Value)} (hm : ∀ w, X w → MapAt w q l) : ∀ w, Gam av bor w0 loc X w → MapAt w q l := fun w G => hm w G.keep.now
theorem sy_lookup {κ : Type} [KeyT κ] {n : Nat} {t et : Nat} [ht : TyMap P t et (keyD κ)] {z : Value} [hz : TyZero P et z] {m x : Operand} {c : Bool} {q : Nat} {l : List (κ × Value)} {kk : κ} (hm : ev E m = some (.map (some q)) := by rfl) (hx : ev E x = some (KeyT.enc kk) := by rfl)
    (hl : ∀ w, Gam av bor w0 loc X w → MapAt w q l) (hg : gdB ops E g = some (bb, want) := by rfl) (hb : bb = want := by (first | with_reducible rfl | with_reducible assumption | with_reducible exact Bool.not_false | with_reducible exact Bool.not_true)) (hd : Nat.blt n N = true := by rfl)
    (h : Sw P N av bor w0 ops rest ⟨(n, if c then .tuple #[(mget l kk).getD z, .bool (mget l kk).isSome] else (mget l kk).getD z) :: E, loc, X⟩ k) : Sw P N av bor w0 ops (⟨some n, .lookup t m x c, ty, pos, af, g⟩ :: rest) ⟨E, loc, X⟩ k := sw_yield (y_lookup hm hx hl) hg hb hd h
theorem sy_lookup2 {κ : Type} [KeyT κ] {n : Nat} {t et : Nat} [ht : TyMap P t et (keyD κ)] {z : Value} [hz : TyZero P et z] {m x : Operand} {q : Nat} {l : List (κ × Value)} {kk : κ} {o : Option Value} {v : Value} {b : Bool} (hm : ev E m = some (.map (some q)) := by rfl) (hx : ev E x = some (KeyT.enc kk) := by rfl)
    (hl : ∀ w, Gam av bor w0 loc X w → MapAt w q l) (ho : mget l kk = o) (hv : o.getD z = v := by rfl) (hbo : o.isSome = b := by rfl) (hg : gdB ops E g = some (bb, want) := by rfl) (hb : bb = want := by (first | with_reducible rfl | with_reducible assumption | with_reducible exact Bool.not_false | with_reducible exact Bool.not_true)) (hd : Nat.blt n N = true := by rfl)
    (h : Sw P N av bor w0 ops rest ⟨(n, .tuple #[v, .bool b]) :: E, loc, X⟩ k) : Sw P N av bor w0 ops (⟨some n, .lookup t m x true, ty, pos, af, g⟩ :: rest) ⟨E, loc, X⟩ k := by
  subst ho; subst hv; subst hbo
  exact sy_lookup hm hx hl hg hb hd h
theorem sy_lookup1 {κ : Type} [KeyT κ] {n : Nat} {t et : Nat} [ht : TyMap P t et (keyD κ)] {z : Value} [hz : TyZero P et z] {m x : Operand} {q : Nat} {l : List (κ × Value)} {kk : κ} {o : Option Value} (hm : ev E m = some (.map (some q)) := by rfl) (hx : ev E x = some (KeyT.enc kk) := by rfl)
    (hl : ∀ w, Gam av bor w0 loc X w → MapAt w q l) (ho : mget l kk = o) (hg : gdB ops E g = some (bb, want) := by rfl) (hb : bb = want := by (first | with_reducible rfl | with_reducible assumption | with_reducible exact Bool.not_false | with_reducible exact Bool.not_true)) (hd : Nat.blt n N = true := by rfl)
    (h : Sw P N av bor w0 ops rest ⟨(n, o.getD z) :: E, loc, X⟩ k) : Sw P N av bor w0 ops (⟨some n, .lookup t m x false, ty, pos, af, g⟩ :: rest) ⟨E, loc, X⟩ k := by
  subst ho
  exact sy_lookup hm hx hl hg hb hd h
end
theorem Gam.giveAll {av bor : List Nat} {w0 w : World} : ∀ {loc : List Res} {X : World → Prop}, Gam av bor w0 loc X w → Gam av bor w0 [] (fun w => X w ∧ ∀ r ∈ loc, r.F w) w
  | [], X, G => G.imp fun _ h => ⟨h, by simp⟩
  | r :: loc, X, G => (Gam.giveAll G.give).imp fun w h => ⟨h.1.1, fun q hq => by
      rcases List.mem_cons.1 hq with rfl | hq
      · exact h.1.2
      · exact h.2 q hq⟩
/-- The contract of a function that hands back new memory: all that it owns at its end becomes data. -/
theorem mk_of_cw2 {P : Program} {f : FuncId} {fn : Func} {c : Code} {args : List Value} {X : World → Prop} {Φ : Value → (World → Prop) → Prop} (N : Nat)
    (hf : P.funcs[f]? = some fn) (hb : fn.body = some c) (hN : fn.ntmps = N) (hn : Nat.ble args.length N = true)
    (h : ∀ av bor w0, Cw P N av bor w0 c ⟨params 0 args, [], X⟩ (ends P fn N fun u R X' => Φ u fun w => X' w ∧ ∀ r ∈ R, r.F w)) : Mk P f args.toArray X Φ := by
  unfold Mk
  exact Ct.mk fun w av G => by
    have h1 := (ct_of_cw (P := P) (Post := fun u R X' => Φ u fun w => X' w ∧ ∀ r ∈ R, r.F w) N hf hb hN hn h).run w av G
    refine h1.mono fun e w' ⟨u, R, X', he, hu, G'⟩ => ⟨u, [], _, he, ⟨hu, rfl⟩, G'.giveAll⟩
end Go.Proofs.YtlankpiogfhblaaGreatDoor.Sy

/- Struct literals. No program in sight. -/
set_option linter.unusedVariables false
set_option linter.unusedSimpArgs false
namespace Go.Proofs.YtlankpiogfhblaaGreatDoor.Sy
open Go Go.RowKit

theorem fold_set (off : Nat) : ∀ (vs : List Value) (i : Nat) (cur : Array Value), off + i + vs.length ≤ cur.size →
    (vs.zipIdx i).foldl (fun cs (p : Value × Nat) => cs.setIfInBounds (off + p.2) p.1) cur = (cur.toList.take (off + i) ++ vs ++ cur.toList.drop (off + i + vs.length)).toArray
  | [], i, cur, _ => by simp
  | v :: vs, i, cur, h => by
    simp only [List.length_cons] at h
    rw [List.zipIdx_cons, List.foldl_cons, fold_set off vs (i + 1) _ (by simp; omega)]
    have e := list_seg_step cur.toList (off + i) v vs (by simp; omega)
    congr 1
    simpa [Array.toList_setIfInBounds, Nat.add_assoc] using e
def fillL (pl : List (Nat × Nat)) : List Value → List (Nat × Value) → Option (List Value)
  | cs, [] => some cs
  | cs, (i, v) :: r =>
    match pl[i]? with
    | none => none
    | some (off, size) => bif Nat.beq v.cells.size size && Nat.ble (off + size) cs.length then fillL pl (cs.take off ++ v.cells.toList ++ cs.drop (off + size)) r else none
theorem fillL_spec (pl : List (Nat × Nat)) : ∀ (vs : List (Nat × Value)) (cs cs' : List Value), fillL pl cs vs = some cs' → Instr.fill (pl.toArray[·]?) cs.toArray vs = some cs'.toArray
  | [], cs, cs', h => by simp [fillL] at h; subst h; rfl
  | (i, v) :: r, cs, cs', h => by
    unfold fillL at h
    cases hp : pl[i]? with
    | none => simp [hp] at h
    | some q =>
      obtain ⟨off, size⟩ := q
      simp only [hp] at h
      cases hb : Nat.beq v.cells.size size && Nat.ble (off + size) cs.length with
      | false => simp [hb] at h
      | true =>
        simp only [hb, cond_true] at h
        have hb' := (Bool.and_eq_true _ _).mp hb
        have h1 : v.cells.size = size := Nat.eq_of_beq_eq_true hb'.1
        have h2 : off + size ≤ cs.length := Nat.le_of_ble_eq_true hb'.2
        have h3 := fold_set off v.cells.toList 0 cs.toArray (by simp; omega)
        have h4 : (v.cells.zipIdx.foldl (fun cs (p : Value × Nat) => cs.setIfInBounds (off + p.2) p.1) cs.toArray) = (cs.take off ++ v.cells.toList ++ cs.drop (off + size)).toArray := by
          rw [← Array.foldl_toList, Array.toList_zipIdx, h3]
          simp [h1]
        have ih := fillL_spec pl r _ _ h
        have hp' : pl.toArray[i]? = some (off, size) := by simpa using hp
        unfold Instr.fill
        simp only [hp']
        rw [if_neg (by simp [h1]; omega), ← ih, ← h4]
section
variable {P : Program} {N : Nat} {av bor : List Nat} {w0 : World} {ops : Array Oper} {rest : List Oper} {k : St → Prop} {E : Env} {loc loc' : List Res} {X : World → Prop}
variable {d : Option Tmp} {ty : TypeId} {pos : String} {af : Array Edge} {g : Option (Nat × Bool)} {bb want : Bool} {K : Exit → St → Prop}
theorem run_places {w : World} : ∀ (fs : List Field) (pl : List (Nat × Nat)), fs.mapM (fun f => (P.info? f.type).map fun i => (f.offset, i.size)) = some pl →
    (fs.mapM fun f => (Prod.mk f.offset <$> sizeOf f.type : Sem (Nat × Nat))).run P w = .ok pl w
  | [], pl, h => by simp at h; subst h; simp
  | f :: fs, pl, h => by
    simp only [List.mapM_cons, Option.bind_eq_bind, Option.bind_eq_some_iff, Option.map_eq_some_iff, Option.pure_def, Option.some.injEq] at h
    obtain ⟨q, ⟨i, hi, rfl⟩, l, hl, rfl⟩ := h
    have hs := run_sizeOf (P := P) (w := w) (t := f.type) (n := i.size) (by simp [hi])
    simp [List.mapM_cons, hs, run_places fs l hl]
def partsE (E : Env) : List (Nat × Operand) → Option (List (Nat × Value))
  | [] => some []
  | (j, x) :: r =>
    match ev E x, partsE E r with
    | some v, some l => some ((j, v) :: l)
    | _, _ => none
theorem partsE_spec {st : St} {a : Act} {w : World} (ok : Ok N av bor w0 st a w) : ∀ (l : List (Nat × Operand)) (vs : List (Nat × Value)), partsE st.env l = some vs → (l.map fun p => (p.1, a.eval p.2)) = vs
  | [], vs, h => by simp [partsE] at h; subst h; rfl
  | (j, x) :: r, vs, h => by
    unfold partsE at h
    split at h
    · rename_i v l' hv hl
      simp at h
      subst h
      simp [ok.eval hv, partsE_spec ok r l' hl]
    · cases h
/-- 'T{x: y, ..}'. -/
theorem y_build {st : St} {t : TypeId} {z : Value} [hz : TyZero P t z] {pl : List (Nat × Nat)} [hp : TyPl P t pl] {parts : List (Nat × Operand)} {vs : List (Nat × Value)} {cs : List Value}
    (hx : partsE st.env parts = some vs) (hf : fillL pl z.cells.toList vs = some cs) : Sy.Yields P N av bor w0 st (.build t parts.toArray) ty (.agg cs.toArray) := Sy.Yields.mk fun A w ok d pos af g => by
  have hz' := run_zero hz.out w
  have h1 := hp.out
  unfold plOf at h1
  split at h1
  · rename_i fs hu
    have h2 := run_places (w := w) fs.toList pl h1
    have h3 : (fs.mapM fun f => (Prod.mk f.offset <$> sizeOf f.type : Sem (Nat × Nat))).run P w = .ok pl.toArray w := by
      have e : fs = fs.toList.toArray := by simp
      rw [e, List.mapM_toArray]
      simp [Sem.run_bind, h2] 
    have h4 := partsE_spec ok parts vs hx
    have h5 := fillL_spec pl vs _ _ hf
    simp only [Array.toArray_toList, List.getElem?_toArray] at h5
    simp [execOp, Instr.build, hz', run_underlying hu, h3, h4, h5]
  · cases h1
theorem sy_build {n : Nat} {t : TypeId} {z : Value} [hz : TyZero P t z] {pl : List (Nat × Nat)} [hp : TyPl P t pl] {parts : List (Nat × Operand)} {vs : List (Nat × Value)} {cs : List Value}
    (hx : partsE E parts = some vs := by rfl) (hf : fillL pl z.cells.toList vs = some cs := by rfl) (hg : gdB ops E g = some (bb, want) := by rfl) (hbb : bb = want := by (first | with_reducible rfl | with_reducible assumption | with_reducible exact Bool.not_false | with_reducible exact Bool.not_true)) (hd : Nat.blt n N = true := by rfl) (h : Sw P N av bor w0 ops rest ⟨(n, .agg cs.toArray) :: E, loc, X⟩ k) :
    Sw P N av bor w0 ops (⟨some n, .build t parts.toArray, ty, pos, af, g⟩ :: rest) ⟨E, loc, X⟩ k := sw_yield (y_build hx hf) hg hbb hd h
end
end Go.Proofs.YtlankpiogfhblaaGreatDoor.Sy

/- Sorting and compacting a row of the call's own, out of the shelf's contracts. No program in sight. -/
set_option linter.unusedVariables false
set_option linter.unusedSimpArgs false
namespace Go.Proofs.YtlankpiogfhblaaGreatDoor.Sy
open Go Go.RowKit Go.Sort Go.Proofs

def bl (s : ByteArray) : List UInt8 := s.data.toList
def lb (l : List UInt8) : ByteArray := ⟨l.toArray⟩
theorem lb_bl (s : ByteArray) : lb (bl s) = s := by simp [lb, bl]
theorem bl_lb (l : List UInt8) : bl (lb l) = l := by simp [lb, bl]
def encB (s : ByteArray) : Value := .string s
theorem encStr_bl (s : ByteArray) : encStr (bl s) = encB s := by simp [encStr, bl, encB]
theorem map_encStr (l : List (List UInt8)) : l.map encStr = (l.map lb).map encB := by
  rw [List.map_map]
  apply List.map_congr_left
  intro a _
  show encStr a = encB (lb a)
  rw [← encStr_bl, bl_lb]
/-- Sorted by bytes. -/
def sortB (l : List ByteArray) : List ByteArray := ((l.map bl).mergeSort leB).map lb
theorem sortB_len (l : List ByteArray) : (sortB l).length = l.length := by simp [sortB]

theorem holds_orow {α : Type} [Inhabited α] {enc : α → Value} {w : World} {e g n : Nat} {cur : Array Value} {fz : Nat × Nat} {ss : List α} (hb : w.heap[g]? = some (.cells cur e fz)) (hl : ss.length = n) (ht : cur.toList.take (n * 1) = ss.map enc)
    (hz : fz.1 = fz.2 ∨ cur.size ≤ fz.1) : Go.Sort.Holds enc w g 0 ss.toArray := by
  intro j hj
  have hj' : j < ss.length := by simpa using hj
  have h1 : (cur.toList.take (n * 1))[j]? = (ss.map enc)[j]? := by rw [ht]
  rw [List.getElem?_take_of_lt (by omega)] at h1
  have hjc : j < cur.size := by
    rcases Nat.lt_or_ge j cur.size with h | h
    · exact h
    · rw [List.getElem?_eq_none (by simpa using h), List.getElem?_map, List.getElem?_eq_getElem hj'] at h1
      simp at h1
  refine ⟨?_, ?_⟩
  · simp only [World.cell?, hb, Nat.zero_add]
    simp only [Option.isSome_none, Bool.false_eq_true, if_false]
    rw [← Array.getElem?_toList, h1]
    simp [hj']
  · obtain ⟨lo, hi⟩ := fz
    simp only [World.frozen?, hb]
    simp only at hz
    have : ¬ (lo ≤ 0 + j ∧ 0 + j < hi) := by omega
    simpa using this
theorem heap_put {α : Type} [Inhabited α] {enc : α → Value} {w : World} {g n : Nat} {os : Array Obj} {cur : Array Value} {e : Nat} {fr : Nat × Nat} (d : Array α) (hb : w.heap[g]? = some (.cells cur e fr)) :
    (grow (putRow enc (Sort.ahead w n) g 0 d) os).heap[g]? = some (.cells (putCells enc 0 d cur) e fr) := by
  have hg : g < w.heap.size := (Array.getElem?_eq_some_iff.1 hb).1
  rw [heap_grow_old _ _ (by simpa using hg)]
  simp [putRow, mapBlock, Sort.ahead, Array.getElem?_modify, hb, onCells]
theorem heap_other {α : Type} [Inhabited α] {enc : α → Value} {w : World} {g n : Nat} {os : Array Obj} (d : Array α) (k : Nat) (hk : k < w.heap.size) (hne : k ≠ g) :
    (grow (putRow enc (Sort.ahead w n) g 0 d) os).heap[k]? = w.heap[k]? := by
  rw [heap_grow_old _ _ (by simpa using hk)]
  have : g ≠ k := fun e => hne e.symm
  simp [putRow, mapBlock, Sort.ahead, Array.getElem?_modify, this]
theorem take_put {α : Type} [Inhabited α] {enc : α → Value} (cur : Array Value) (ts us : List α) (h : (ts ++ us).length ≤ cur.size) : (putCells enc 0 (ts ++ us).toArray cur).toList.take ts.length = ts.map enc := by
  apply List.ext_getElem?
  intro j
  by_cases hj : j < ts.length
  · rw [List.getElem?_take_of_lt hj, Array.getElem?_toList]
    have h2 : ts.length + us.length ≤ cur.size := by simpa using h
    simp [putCells, hj, show j < cur.size by omega, show j < ts.length + us.length by omega]
  · rw [List.getElem?_take_eq_none (by omega), List.getElem?_eq_none (by simp; omega)]
/-- The row g of the call's own holds other cells, new blocks lie behind: the state goes on. -/
theorem Gam.putRow {α : Type} [Inhabited α] {enc : α → Value} {av bor : List Nat} {w0 w : World} {loc loc' : List Res} {X : World → Prop} {e g cap n n' q : Nat} {xs : List Value} {cur : Array Value} {fz : Nat × Nat} {os : Array Obj} {ts us : List α}
    (G : Gam av bor w0 loc X w) (hb : w.heap[g]? = some (.cells cur e fz)) (hcm : cap ≤ maxLen) (hcs : cur.size = cap) (hz : fz.1 = fz.2 ∨ cur.size ≤ fz.1) (hle : n' ≤ cap) (htl : ts.length = n') (hus : (ts ++ us).length ≤ cap)
    (hA : At (orow e 1 (.slice (some ⟨g, 0, none⟩) n cap) n xs) (orow e 1 (.slice (some ⟨g, 0, none⟩) n' cap) n' (ts.map enc)) loc loc') :
    Gam av bor w0 loc' X (grow (Go.Sort.putRow enc (Sort.ahead w q) g 0 (ts ++ us).toArray) os) := by
  have hg : g < w.heap.size := (Array.getElem?_eq_some_iff.1 hb).1
  refine G.swap hA rfl rfl rfl (by simp) (fun i hi hne => heap_other _ i hi ?_) (by simp [orow, Value.ownBlock]) (fun i hi => ?_) (orow_holds ?_)
  · simpa [orow, Value.ownBlock] using hne
  · simp only [orow, Value.ownBlock, Option.toList_some, List.mem_singleton] at hi ⊢
    subst hi
    exact ⟨by simp; omega, .inl rfl⟩
  · refine ⟨by simp [htl], .inr ⟨g, cap, _, fz, rfl, heap_put _ hb, hle, hcm, by simp [putCells, hcs], ?_, by simpa [putCells] using hz⟩⟩
    rw [Nat.mul_one, ← htl]
    exact take_put cur ts us (by omega)

section
variable {P : Program} {f : FuncId}
/-- What the shelf says of slices.Sort, of slices.Compact. -/
structure SortC {α : Type} [Inhabited α] (P : Program) (f : FuncId) (enc : α → Value) (srt : List α → List α) : Prop where
  some_ : ∀ (blk off cap : Nat) (ss : List α) (w : World), Go.Sort.Holds enc w blk off ss.toArray → blk < w.heap.size → ss.length < 4611686018427387904 →
    Calls P f #[.slice (some ⟨blk, off, none⟩) ss.length cap] w fun e w' => e = .returned (.tuple #[]) ∧ ∃ n os, w' = grow (Go.Sort.putRow enc (Sort.ahead w n) blk off (srt ss).toArray) os
  none_ : ∀ (p : Option Addr) (cap : Nat) (w : World), Calls P f #[.slice p 0 cap] w fun e w' => e = .returned (.tuple #[]) ∧ w' = w
  len : ∀ ss, (srt ss).length = ss.length
theorem SortC.ct {α : Type} [Inhabited α] {enc : α → Value} {srt : List α → List α} (h : SortC P f enc srt) {e n : Nat} {v : Value} {ss : List α} (hn : n ≤ 1000000000) :
    Ct P f #[v] [orow e 1 v n (ss.map enc)] (fun _ => True) fun u R _ => u = .tuple #[] ∧ R = [orow e 1 v n ((srt ss).map enc)] := Ct.mk fun w av G => by
  have ho : ORow w e 1 v n (ss.map enc) := (G.here _ List.mem_cons_self).now
  have hl : ss.length = n := by simpa using ho.1
  rcases ho.2 with ⟨rfl, rfl⟩ | ⟨g, cap, cur, fz, rfl, hg, hnc, hcm, hcs, htake, hfz⟩
  · have hss : ss = [] := List.eq_nil_of_length_eq_zero hl
    have hss' : srt ss = [] := List.eq_nil_of_length_eq_zero (by rw [h.len, hl])
    refine (h.none_ none 0 w).mono fun e w' ⟨h1, h2⟩ => ⟨_, _, fun _ => True, h1, ⟨rfl, rfl⟩, ?_⟩
    subst h2
    rw [hss']
    rw [hss] at G
    exact G
  · have hgl : g < w.heap.size := (Array.getElem?_eq_some_iff.1 hg).1
    subst hl
    have h62 : ss.length < 4611686018427387904 := by omega
    refine (h.some_ g 0 cap ss w (holds_orow hg rfl htake hfz) hgl h62).mono fun e w' ⟨h1, n, os, h2⟩ => ⟨_, _, fun _ => True, h1, ⟨rfl, rfl⟩, ?_⟩
    subst h2
    have := G.putRow (us := []) (ts := srt ss) (q := n) (os := os) (enc := enc) hg hcm (by omega) hfz hnc (h.len ss) (by simp [h.len]; omega) (At.here [])
    rw [List.append_nil] at this
    exact this
structure CompC {α : Type} [Inhabited α] (P : Program) (f : FuncId) (enc : α → Value) (z : α) (cmp : List α → List α) : Prop where
  some_ : ∀ (blk off cap : Nat) (ss : List α) (w : World), Go.Sort.Holds enc w blk off ss.toArray → ss.length ≤ 9223372036854775807 → ss.length ≤ cap →
    Calls P f #[.slice (some ⟨blk, off, none⟩) ss.length cap] w fun e w' => e = .returned (.slice (some ⟨blk, off, none⟩) (cmp ss).length cap) ∧ ∃ q, w' = Go.Sort.putRow enc (Sort.ahead w q) blk off (cmp ss ++ List.replicate (ss.length - (cmp ss).length) z).toArray
  none_ : ∀ (a : Option Addr) (cap : Nat) (w : World), Calls P f #[.slice a 0 cap] w fun e w' => e = .returned (.slice a 0 cap) ∧ w' = w
  len : ∀ ss, (cmp ss).length ≤ ss.length
theorem CompC.ct {α : Type} [Inhabited α] {enc : α → Value} {z : α} {cmp : List α → List α} (h : CompC P f enc z cmp) {e n : Nat} {v : Value} {ss : List α} :
    Ct P f #[v] [orow e 1 v n (ss.map enc)] (fun _ => True) fun u R _ => ∃ A c, u = .slice A (cmp ss).length c ∧ R = [orow e 1 u (cmp ss).length ((cmp ss).map enc)] := Ct.mk fun w av G => by
  have ho : ORow w e 1 v n (ss.map enc) := (G.here _ List.mem_cons_self).now
  have hl : ss.length = n := by simpa using ho.1
  rcases ho.2 with ⟨rfl, rfl⟩ | ⟨g, cap, cur, fz, rfl, hg, hnc, hcm, hcs, htake, hfz⟩
  · have hss : ss = [] := List.eq_nil_of_length_eq_zero hl
    have hss' : cmp ss = [] := List.eq_nil_of_length_eq_zero (by have := h.len ss; omega)
    refine (h.none_ none 0 w).mono fun e w' ⟨h1, h2⟩ => ⟨_, _, fun _ => True, h1, ⟨none, 0, by rw [hss']; rfl, rfl⟩, ?_⟩
    subst h2
    rw [hss']
    rw [hss] at G
    exact G
  · subst hl
    have h62 : ss.length ≤ 9223372036854775807 := by simp only [maxLen] at hcm; omega
    have hlen := h.len ss
    refine (h.some_ g 0 cap ss w (holds_orow hg rfl htake hfz) h62 hnc).mono fun e w' ⟨h1, q, h2⟩ => ⟨_, _, fun _ => True, h1, ⟨_, _, rfl, rfl⟩, ?_⟩
    subst h2
    have := G.putRow (us := List.replicate (ss.length - (cmp ss).length) z) (ts := cmp ss) (n' := (cmp ss).length) (q := q) (os := #[]) (enc := enc) hg hcm (by omega) hfz (by omega) rfl (by simp; omega) (At.here [])
    rw [grow_empty] at this
    exact this
end
end Go.Proofs.YtlankpiogfhblaaGreatDoor.Sy

/- 'slices.Sorted(maps.Keys(m))' out of the shelf's contracts, for the calculus of XSy. No program in sight. -/
set_option linter.unusedVariables false
set_option linter.unusedSimpArgs false
namespace Go.Proofs.YtlankpiogfhblaaGreatDoor.Sy
open Go Go.RowKit Go.Sort Go.Proofs Go.MapKept Go.Maps Go.Shelf

theorem Gam.more {av bor : List Nat} {w0 w w' : World} {loc : List Res} {X : World → Prop} {r : Res} (G : Gam av bor w0 loc X w) (hB : Below w.heap.size w w') (hr : Holds r w') (hn : r.fp.Nodup) (hf : ∀ i ∈ r.fp, w.heap.size ≤ i ∧ i < w'.heap.size) :
    Gam av bor w0 (r :: loc) X w' := by
  have G0 : Gam av bor w0 (⟨[], fun _ => True⟩ :: loc) X w := by
    have e1 : fps ((⟨[], fun _ => True⟩ : Res) :: loc) = fps loc := by simp [fps]
    refine ⟨G.fr, G.avb, by rw [e1]; exact G.nodup, by rw [e1]; exact G.own, fun x hx => ?_, by rw [e1]; exact G.keep⟩
    rcases List.mem_cons.1 hx with rfl | hx
    · exact fun _ _ => trivial
    · exact G.here x hx
  refine G0.swap (At.here loc) hB.os hB.tape hB.output hB.size (fun i hi _ => hB.block i hi) hn (fun i hi => ⟨(hf i hi).2, .inr (hf i hi).1⟩) hr
theorem orow_of_owns {w : World} {base e size n : Nat} {v : Value} {xs : List Value} (h : w.ownsRow base e size v n xs) : ORow w e size v n xs := by
  refine ⟨h.1, ?_⟩
  rcases h.2 with h0 | ⟨g, cap, cur, hv, _, hg, h1, h2, h3, h4⟩
  · exact .inl h0
  · exact .inr ⟨g, cap, cur, (0, 0), hv, hg, h1, h2, h3, h4, .inl rfl⟩
theorem owns_fp {w : World} {base e size n : Nat} {v : Value} {xs : List Value} (h : w.ownsRow base e size v n xs) : (orow e size v n xs).fp.Nodup ∧ (∀ i ∈ (orow e size v n xs).fp, base ≤ i ∧ i < w.heap.size) ∧ ∃ A c, v = .slice A n c := by
  rcases h.2 with ⟨rfl, rfl⟩ | ⟨g, cap, cur, rfl, hb, hg, h1, h2, h3, h4⟩
  · exact ⟨by simp [orow, Value.ownBlock], fun i hi => by simp [orow, Value.ownBlock] at hi, none, 0, rfl⟩
  · refine ⟨by simp [orow, Value.ownBlock], fun i hi => ?_, _, _, rfl⟩
    simp only [orow, Value.ownBlock, Option.toList_some, List.mem_singleton] at hi
    subst hi
    exact ⟨hb, (Array.getElem?_eq_some_iff.1 hg).1⟩
def rTriv : Value → Option (DataW Unit × List MemPlace) := fun _ => some (.nil, [])
theorem map_len {κ : Type} [KeyT κ] {w : World} {q : Nat} {l : List (κ × Value)} {es : Array MapEntry} (hl : es.toList.map (fun e => (e.key, e.val)) = l.map fun p => (KeyT.enc p.1, p.2)) : es.size = l.length := by
  have := congrArg List.length hl
  simpa using this
theorem owns_of_mapS {P : Program} {K : Nat} (hk : P.underlying K = some .string) {w : World} {q : Nat} {l : List (ByteArray × Value)} (h : MapAt w q l) (hs : ∀ p ∈ l, p.1.size ≤ maxLen) (hlen : l.length ≤ maxLen) :
    ∃ D0 : DataW Unit, w.ownsMap P K rTriv q l.length D0 ∧ (strKeys D0).Perm (l.map fun p => bl p.1) ∧ Maps.size D0 = l.length := by
  obtain ⟨es, clock, hb, hst, hl⟩ := h
  have hz := map_len (w := w) (q := q) hl
  have hkey : ∀ x ∈ es.toList, ∃ s : ByteArray, x.key = .string s ∧ s.size ≤ maxLen := by
    intro x hx
    have h1 : (x.key, x.val) ∈ l.map fun p => (KeyT.enc p.1, p.2) := by rw [← hl]; exact List.mem_map.2 ⟨x, hx, rfl⟩
    obtain ⟨p, hp, he⟩ := List.mem_map.1 h1
    refine ⟨p.1, ?_, hs p hp⟩
    have := congrArg Prod.fst he
    exact this.symm
  have hrd : ∀ x ∈ es.toList, ∃ s : ByteArray, x.key = .string s ∧ WideElems.rd P K rTriv x = some (.string (bl s), .nil) := by
    intro x hx
    obtain ⟨s, h1, h2⟩ := hkey x hx
    refine ⟨s, h1, ?_⟩
    have h3 : keyOf P K x.key = some (.string (bl s)) := by rw [h1]; simp [keyOf, hk, mapKey, h2, bl]
    simp [WideElems.rd, h3, rTriv]
  refine ⟨_, ⟨es, clock, hb, ⟨by omega, hst, fun x hx => ?_⟩, by omega, rfl⟩, ?_, ?_⟩
  · obtain ⟨s, _, h2⟩ := hrd x hx
    exact ⟨_, h2⟩
  · have h1 := (WideShapes.sorted_perm (es.toList.map (WideElems.rg P K rTriv))).map fun p => strOf p.1
    refine h1.trans ?_
    have h2 : (es.toList.map (WideElems.rg P K rTriv)).map (fun p => strOf p.1) = es.toList.map fun x => match x.key with | .string s => bl s | _ => [] := by
      rw [List.map_map]
      refine List.map_congr_left fun x hx => ?_
      obtain ⟨s, h3, h4⟩ := hrd x hx
      simp [WideElems.rg, h4, h3, strOf]
    have h5 : (es.toList.map fun x => match x.key with | .string s => bl s | _ => []) = l.map fun p => bl p.1 := by
      have h6 := congrArg (List.map fun (p : Value × Value) => match p.1 with | .string s => bl s | _ => []) hl
      rw [List.map_map, List.map_map] at h6
      exact h6
    rw [h2, h5]
  · show ((es.toList.map (WideElems.rg P K rTriv)).foldr DataW.insert []).length = l.length
    rw [length_sorted]
    simp [hz]
theorem owns_of_mapI {P : Program} {K : Nat} (hk : P.underlying K = some (.int .i64)) {w : World} {q : Nat} {l : List (Int × Value)} (h : MapAt w q l) (hs : ∀ p ∈ l, (Lit.int .i64 p.1).wf = true) (hlen : l.length ≤ maxLen) :
    ∃ D0 : DataW Unit, w.ownsMap P K rTriv q l.length D0 ∧ (intKeys D0).Perm (l.map fun p => p.1) ∧ Maps.size D0 = l.length := by
  obtain ⟨es, clock, hb, hst, hl⟩ := h
  have hz := map_len (w := w) (q := q) hl
  have hkey : ∀ x ∈ es.toList, ∃ s : Int, x.key = .int .i64 s ∧ (Lit.int .i64 s).wf = true := by
    intro x hx
    have h1 : (x.key, x.val) ∈ l.map fun p => (KeyT.enc p.1, p.2) := by rw [← hl]; exact List.mem_map.2 ⟨x, hx, rfl⟩
    obtain ⟨p, hp, he⟩ := List.mem_map.1 h1
    refine ⟨p.1, ?_, hs p hp⟩
    have := congrArg Prod.fst he
    exact this.symm
  have hrd : ∀ x ∈ es.toList, ∃ s : Int, x.key = .int .i64 s ∧ WideElems.rd P K rTriv x = some (.int .i64 s, .nil) := by
    intro x hx
    obtain ⟨s, h1, h2⟩ := hkey x hx
    refine ⟨s, h1, ?_⟩
    have h3 : keyOf P K x.key = some (.int .i64 s) := by rw [h1]; simp [keyOf, hk, mapKey, h2]
    simp [WideElems.rd, h3, rTriv]
  refine ⟨_, ⟨es, clock, hb, ⟨by omega, hst, fun x hx => ?_⟩, by omega, rfl⟩, ?_, ?_⟩
  · obtain ⟨s, _, h2⟩ := hrd x hx
    exact ⟨_, h2⟩
  · have h1 := (WideShapes.sorted_perm (es.toList.map (WideElems.rg P K rTriv))).map fun p => Go.intOf p.1
    refine h1.trans ?_
    have h2 : (es.toList.map (WideElems.rg P K rTriv)).map (fun p => Go.intOf p.1) = es.toList.map fun x => match x.key with | .int _ s => s | _ => 0 := by
      rw [List.map_map]
      refine List.map_congr_left fun x hx => ?_
      obtain ⟨s, h3, h4⟩ := hrd x hx
      simp [WideElems.rg, h4, h3, Go.intOf]
    have h5 : (es.toList.map fun x => match x.key with | .int _ s => s | _ => 0) = l.map fun p => p.1 := by
      have h6 := congrArg (List.map fun (p : Value × Value) => match p.1 with | .int _ s => s | _ => 0) hl
      rw [List.map_map, List.map_map] at h6
      exact h6
    rw [h2, h5]
  · show ((es.toList.map (WideElems.rg P K rTriv)).foldr DataW.insert []).length = l.length
    rw [length_sorted]
    simp [hz]

section
variable {P : Program}
/-- What the shelf says of maps.Keys at a map type, and of slices.Sorted at what it hands back. -/
structure KeysC (P : Program) (fk g M : Nat) : Prop where
  keys : ∀ (mb : Option Nat) (W : World), Calls P fk #[.map mb] W fun e w' => e = .returned (.func (.func g) #[] #[.pointer (some ⟨W.heap.size, 0, none⟩)]) ∧ w' = W.alloc (.cells #[.map mb] M)
structure SortedSC (P : Program) (fs g K : Nat) : Prop where
  key : P.underlying K = some .string
  sorted : ∀ (w : World) (Bm q nn : Nat) (D0 : DataW Unit), Bm < w.heap.size → w.cell? ⟨Bm, 0, none⟩ = some (.map (some q)) → w.ownsMap P K rTriv q nn D0 → Maps.size D0 ≤ maxLen → Maps.size D0 * 16 ≤ 140737488355328 →
    Calls P fs #[.func (.func g) #[] #[.pointer (some ⟨Bm, 0, none⟩)]] w fun e w' => ∃ (v : Value) (ss : List (List UInt8)), e = .returned v ∧ ss.Perm (strKeys D0) ∧
      w'.ownsRow w.heap.size K 1 v ss.length ((ss.mergeSort (fun x y => decide (x ≤ y))).map encStr) ∧ (v = .slice none 0 0 ↔ ss = []) ∧ Below w.heap.size w w'
structure SortedIC (P : Program) (fs g K : Nat) : Prop where
  key : P.underlying K = some (.int .i64)
  sorted : ∀ (w : World) (Bm q nn : Nat) (D0 : DataW Unit), Bm < w.heap.size → w.cell? ⟨Bm, 0, none⟩ = some (.map (some q)) → w.ownsMap P K rTriv q nn D0 → Maps.size D0 ≤ maxLen → Maps.size D0 * 8 ≤ 140737488355328 →
    Calls P fs #[.func (.func g) #[] #[.pointer (some ⟨Bm, 0, none⟩)]] w fun e w' => ∃ (v : Value) (ss : List Int), e = .returned v ∧ ss.Perm (intKeys D0) ∧
      w'.ownsRow w.heap.size K 1 v ss.length ((ss.mergeSort (fun x y => decide (x ≤ y))).map encZ) ∧ (v = .slice none 0 0 ↔ ss = []) ∧ Below w.heap.size w w'
theorem KeysC.ct {fk g M : Nat} (h : KeysC P fk g M) (mb : Option Nat) : Ct P fk #[.map mb] [] (fun _ => True) fun u R _ => ∃ b, u = .func (.func g) #[] #[.pointer (some ⟨b, 0, none⟩)] ∧ R = [cel b M [.map mb]] := Ct.mk fun w av G => by
  refine (h.keys mb w).mono fun e w' ⟨h1, h2⟩ => ⟨_, _, fun _ => True, h1, ⟨_, rfl, rfl⟩, ?_⟩
  subst h2
  exact G.new _ _ fun _ h => h
def sortI (l : List Int) : List Int := l.mergeSort leI
theorem SortedSC.ct {fs g M K : Nat} (h : SortedSC P fs g K) (b q : Nat) (l : List (ByteArray × Value)) (hs : ∀ p ∈ l, p.1.size ≤ maxLen) (hl : l.length ≤ 1000000) :
    Ct P fs #[.func (.func g) #[] #[.pointer (some ⟨b, 0, none⟩)]] [cel b M [.map (some q)], mapr q l] (fun _ => True)
      fun u R _ => ∃ A c, u = .slice A l.length c ∧ R = [orow K 1 u l.length ((sortB (l.map (·.1))).map encB), cel b M [.map (some q)], mapr q l] := Ct.mk fun w av G => by
  have hb : w.heap[b]? = some (.cells #[.map (some q)] M (0, 0)) := (G.here (cel b M [.map (some q)]) List.mem_cons_self).now
  have hm : MapAt w q l := (G.here (mapr q l) (List.mem_cons_of_mem _ List.mem_cons_self)).now
  obtain ⟨D0, hown, hperm, hsz⟩ := owns_of_mapS h.key hm hs (by simp only [maxLen]; omega)
  have hbl : b < w.heap.size := (Array.getElem?_eq_some_iff.1 hb).1
  have hc : w.cell? ⟨b, 0, none⟩ = some (.map (some q)) := by simp [World.cell?, hb]
  refine (h.sorted w b q l.length D0 hbl hc hown (by rw [hsz]; simp only [maxLen]; omega) (by rw [hsz]; omega)).mono fun e w' ⟨v, ss, he, hS, hrow, hnil, hB⟩ => ?_
  have hlen : ss.length = l.length := by rw [(hS.trans hperm).length_eq]; simp
  have hsort : (ss.mergeSort fun x y => decide (x ≤ y)).map encStr = (sortB (l.map (·.1))).map encB := by
    have := mergeSort_of_perm (hS.trans hperm)
    rw [show (ss.mergeSort fun x y => decide (x ≤ y)) = ss.mergeSort leB from rfl, this, map_encStr, sortB]
    simp only [List.map_map]
    rfl
  rw [hsort, hlen] at hrow
  obtain ⟨f1, f2, A, c, rfl⟩ := owns_fp hrow
  exact ⟨_, _, fun _ => True, he, ⟨A, c, rfl, rfl⟩, (G.more hB (orow_holds (orow_of_owns hrow)) f1 f2).imp fun _ _ => trivial⟩
theorem SortedIC.ct {fs g M K : Nat} (h : SortedIC P fs g K) (b q : Nat) (l : List (Int × Value)) (hs : ∀ p ∈ l, (Lit.int .i64 p.1).wf = true) (hl : l.length ≤ 1000000) :
    Ct P fs #[.func (.func g) #[] #[.pointer (some ⟨b, 0, none⟩)]] [cel b M [.map (some q)], mapr q l] (fun _ => True)
      fun u R _ => ∃ A c, u = .slice A l.length c ∧ R = [orow K 1 u l.length ((sortI (l.map (·.1))).map encZ), cel b M [.map (some q)], mapr q l] := Ct.mk fun w av G => by
  have hb : w.heap[b]? = some (.cells #[.map (some q)] M (0, 0)) := (G.here (cel b M [.map (some q)]) List.mem_cons_self).now
  have hm : MapAt w q l := (G.here (mapr q l) (List.mem_cons_of_mem _ List.mem_cons_self)).now
  obtain ⟨D0, hown, hperm, hsz⟩ := owns_of_mapI h.key hm hs (by simp only [maxLen]; omega)
  have hbl : b < w.heap.size := (Array.getElem?_eq_some_iff.1 hb).1
  have hc : w.cell? ⟨b, 0, none⟩ = some (.map (some q)) := by simp [World.cell?, hb]
  refine (h.sorted w b q l.length D0 hbl hc hown (by rw [hsz]; simp only [maxLen]; omega) (by rw [hsz]; omega)).mono fun e w' ⟨v, ss, he, hS, hrow, hnil, hB⟩ => ?_
  have hlen : ss.length = l.length := by rw [(hS.trans hperm).length_eq]; simp
  have hsort : (ss.mergeSort fun x y => decide (x ≤ y)).map encZ = (sortI (l.map (·.1))).map encZ := by
    have := mergeSort_of_perm_i (hS.trans hperm)
    rw [show (ss.mergeSort fun x y => decide (x ≤ y)) = ss.mergeSort leI from rfl, this, sortI]
  rw [hsort, hlen] at hrow
  obtain ⟨f1, f2, A, c, rfl⟩ := owns_fp hrow
  exact ⟨_, _, fun _ => True, he, ⟨A, c, rfl, rfl⟩, (G.more hB (orow_holds (orow_of_owns hrow)) f1 f2).imp fun _ _ => trivial⟩
end
end Go.Proofs.YtlankpiogfhblaaGreatDoor.Sy

/- Laws of single operations more: cuts and bytes of strings, arrays, least and greatest, nil slices, maps' lengths and deletions, made slices, values read out of memory that is data. No program in sight. -/
set_option linter.unusedVariables false
set_option linter.unusedSimpArgs false
namespace Go.Proofs.YtlankpiogfhblaaGreatDoor.Sy
open Go Go.RowKit Go.MapKept

def arrOf (P : Program) (t : TypeId) : Option (Nat × Nat) :=
  match P.underlying t with
  | some (.array n e) => bif oneCell P e then some (n, e) else none
  | _ => none
class TyArr (P : Program) (t : TypeId) (n e : outParam Nat) : Prop where out : arrOf P t = some (n, e)
theorem arrOf_spec {P : Program} {t n e : Nat} (h : arrOf P t = some (n, e)) : P.underlying t = some (.array n e) ∧ oneCell P e = true := by
  unfold arrOf at h
  split at h
  · rename_i n' e' he
    cases ho : oneCell P e' with
    | false => simp [ho] at h
    | true => simp [ho] at h; obtain ⟨rfl, rfl⟩ := h; exact ⟨he, ho⟩
  · cases h
class TyBool (P : Program) (t : TypeId) : Prop where out : P.underlying t = some .bool
def byteAt (s : ByteArray) (i : Nat) : Int := ((s.data.toList.getD i 0).toNat : Int)

section
variable {P : Program} {N : Nat} {av bor : List Nat} {w0 : World} {st : St} {ty : TypeId} {x y z : Operand} {t t2 : TypeId} {k : IntKind} {a b c : Int}
theorem y_strH {s : ByteArray} [hI : TyStr P t] (hx : ev st.env x = some (.string s)) (hy : ev st.env y = some (.int k a)) (h0 : 0 ≤ a) (h1 : a ≤ s.size) : Yields P N av bor w0 st (.slice t x none (some y) none) ty (.string (s.extract 0 a.toNat)) := Sy.Yields.mk fun A w ok d pos af g => by
  simp [execOp, ok.eval hx, ok.eval hy, Instr.sliceAt, run_underlying hI.out, run_slice_string_h w t s hI.out k a h0 h1]
theorem y_strL {s : ByteArray} [hI : TyStr P t] (hx : ev st.env x = some (.string s)) (hy : ev st.env y = some (.int k a)) (h0 : 0 ≤ a) (h1 : a ≤ s.size) : Yields P N av bor w0 st (.slice t x (some y) none none) ty (.string (s.extract a.toNat s.size)) := Sy.Yields.mk fun A w ok d pos af g => by
  simp [execOp, ok.eval hx, ok.eval hy, Instr.sliceAt, run_underlying hI.out, run_slice_string_l w t s hI.out k a h0 h1]
theorem y_strLH {s : ByteArray} {k' : IntKind} [hI : TyStr P t] (hx : ev st.env x = some (.string s)) (hy : ev st.env y = some (.int k a)) (hz : ev st.env z = some (.int k' b)) (h0 : 0 ≤ a) (h1 : a ≤ b) (h2 : b ≤ s.size) : Yields P N av bor w0 st (.slice t x (some y) (some z) none) ty (.string (s.extract a.toNat b.toNat)) := Sy.Yields.mk fun A w ok d pos af g => by
  simp [execOp, ok.eval hx, ok.eval hy, ok.eval hz, Instr.sliceAt, run_underlying hI.out, run_slice_string w t s k k' a b hI.out h0 h1 h2]
theorem y_strI {s : ByteArray} [hI : TyStr P t] (hx : ev st.env x = some (.string s)) (hy : ev st.env y = some (.int k a)) (h0 : 0 ≤ a) (h1 : a < s.size) : Yields P N av bor w0 st (.index t x y) ty (.int .u8 (byteAt s a.toNat)) := Sy.Yields.mk fun A w ok d pos af g => by
  have hn : a.toNat < s.data.size := by have : s.size = s.data.size := rfl; omega
  have hn' : a.toNat < s.size := hn
  have e : s[a.toNat] = s.data[a.toNat] := rfl
  have e2 : byteAt s a.toNat = ((s[a.toNat]'hn').toNat : Int) := by rw [byteAt, List.getD_eq_getElem?_getD, Array.getElem?_toList, Array.getElem?_eq_getElem hn]; rfl
  rw [e2]
  simp [execOp, ok.eval hx, ok.eval hy, run_index_string w t s k a hI.out, h0, h1]
theorem y_arrI {n e : Nat} {cs : Array Value} {v : Value} [hI : TyArr P t n e] (hx : ev st.env x = some (.agg cs)) (hy : ev st.env y = some (.int k a)) (h0 : 0 ≤ a) (h1 : a < n) (hv : cs[a.toNat]? = some v) : Yields P N av bor w0 st (.index t x y) ty v := Sy.Yields.mk fun A w ok d pos af g => by
  obtain ⟨hu, ho⟩ := arrOf_spec hI.out
  obtain ⟨h2, h3⟩ := oneCell_spec ho w
  simp [execOp, ok.eval hx, ok.eval hy, Instr.index, asIntOf, run_underlying hu, h0, h1, run_sizeOf h3, part, h2, hv]
theorem y_arrA {n e : Nat} {bl off q : Nat} [hI : TyArr P t n e] (hx : ev st.env x = some (.pointer (some ⟨bl, off, none⟩))) (hy : ev st.env y = some (.int k a)) (h0 : 0 ≤ a) (h1 : a < n) (hq : off + a.toNat = q) : Yields P N av bor w0 st (.indexAddr t x y) ty (.pointer (some ⟨bl, q, none⟩)) := Sy.Yields.mk fun A w ok d pos af g => by
  obtain ⟨hu, ho⟩ := arrOf_spec hI.out
  obtain ⟨h2, h3⟩ := oneCell_spec ho w
  have e1 : (⟨bl, off, none⟩ : Addr).add a.toNat = ⟨bl, q, none⟩ := by
    unfold Addr.add
    split
    · rename_i hz; rw [hz] at hq; simp at hq; subst hq; rfl
    · subst hq; rfl
  simp [execOp, ok.eval hx, ok.eval hy, Instr.indexAt, asIntOf, Instr.sureAddr, run_underlying hu, h0, h1, run_sizeOf h3, e1]
theorem y_min (hx : ev st.env x = some (.int k a)) (hy : ev st.env y = some (.int k b)) : Yields P N av bor w0 st (.call ⟨.builtin .min, #[x, y], #[t, t2]⟩) ty (.int k (if b < a then b else a)) := Sy.Yields.mk fun A w ok d pos af g => by
  simp [execOp, resolve, invoke, builtin, Builtin.min_, Builtin.min2, ok.eval hx, ok.eval hy]
theorem y_max (hx : ev st.env x = some (.int k a)) (hy : ev st.env y = some (.int k b)) : Yields P N av bor w0 st (.call ⟨.builtin .max, #[x, y], #[t, t2]⟩) ty (.int k (if a < b then b else a)) := Sy.Yields.mk fun A w ok d pos af g => by
  simp [execOp, resolve, invoke, builtin, Builtin.max_, Builtin.max2, ok.eval hx, ok.eval hy]
/-- A load of a cell that the memory holds. -/
theorem y_ldC {bl off : Nat} {v : Value} [hI : TyOne P t] (hx : ev st.env x = some (.pointer (some ⟨bl, off, none⟩))) (hF : ∀ w, st.ext w → w.cell? ⟨bl, off, none⟩ = some v) : Yields P N av bor w0 st (.load t x) ty v := Sy.Yields.mk fun A w ok d pos af g => by
  simp [execOp, ok.eval hx, Instr.loadAt, Instr.sureAddr, loadVar, (oneCell_spec hI.out w).1, hF w ok.gam.keep.now]
theorem y_ldCs {m : Nat} {bl : Nat} {cs : List Value} [hI : TyAgg P t m] (hx : ev st.env x = some (.pointer (some ⟨bl, 0, none⟩))) (hF : ∀ w, st.ext w → ∀ j v, cs[j]? = some v → w.cell? ⟨bl, j, none⟩ = some v) (hl : cs.length = m) : Yields P N av bor w0 st (.load t x) ty (.agg cs.toArray) := Sy.Yields.mk fun A w ok d pos af g => by
  have := run_loadVar_cells (P := P) (t := t) hI.out (w := w) (A := ⟨bl, 0, none⟩) hl (fun j v hj => by
    have e : (⟨bl, 0, none⟩ : Addr).add j = ⟨bl, j, none⟩ := by unfold Addr.add; split <;> simp_all
    rw [e]
    exact hF w ok.gam.keep.now j v hj)
  simp [execOp, ok.eval hx, Instr.loadAt, Instr.sureAddr, this]
/-- An array's literal, all of it. -/
theorem y_buildA {n e : Nat} {zv : Value} [hI : TyArr P t n e] [hz : TyZero P t zv] {parts : List (Nat × Operand)} {vs : List Value} (hx : partsOf st.env 0 parts = some vs) (h1 : vs.all (·.oneCell') = true) (hl : zv.cells.size = vs.length) :
    Yields P N av bor w0 st (.build t parts.toArray) ty (.agg vs.toArray) := Sy.Yields.mk fun A w ok d pos af g => by
  obtain ⟨hu, ho⟩ := arrOf_spec hI.out
  obtain ⟨h2, h3⟩ := oneCell_spec ho w
  have hz' := run_zero hz.out w
  have hp := partsOf_spec (E := st.env) (loc := st.loc) (X := st.ext) ok parts 0 vs hx
  have hf := fill_ones vs [] zv.cells.toList (by simpa using h1) (by simpa using hl)
  simp only [List.nil_append, List.length_nil, Array.toArray_toList] at hf
  rw [← hp] at hf
  simp only [Nat.mul_one] at hf
  simp [execOp, Instr.build, hz', run_underlying hu, run_sizeOf h3, hf]
end
theorem k_nonneg (k : IntKind) (hk : k.signed = false) (n : Int) : 0 ≤ k.wrap n := by
  cases k <;> first | (simp [IntKind.signed] at hk; done) | (simp only [IntKind.wrap, IntKind.bits, IntKind.signed]; simp; try exact Int.emod_nonneg _ (by decide))
theorem bitsV_nonneg (op : BinOp) (k : IntKind) (hk : k.signed = false) (a b : Int) : 0 ≤ bitsV op k a b := k_nonneg k hk _
section
variable {P : Program} {N : Nat} {av bor : List Nat} {w0 : World} {ops : Array Oper} {rest : List Oper} {k : St → Prop} {E : Env} {loc loc' : List Res} {X : World → Prop}
variable {d : Option Tmp} {ty : TypeId} {pos : String} {af : Array Edge} {g : Option (Nat × Bool)} {bb want : Bool} {K : Exit → St → Prop}
/-- 'make([]T, 0, c)'. -/
theorem sw_mkSl {n c : Nat} {t e size bytes : Nat} [hs : TySl P t e size bytes] {z : Value} [hz : TyZero P e z] {x y : Operand} (hx : ev E x = some (.int .i64 0) := by rfl) (hy : ev E y = some (.int .i64 (c : Int)) := by rfl) (hm : Nat.ble (bytes * c) 1000000 = true := by rfl) (hm2 : Nat.ble c 1000000 = true := by rfl)
    (hg : gdB ops E g = some (bb, want) := by rfl) (hb : bb = want := by (first | with_reducible rfl | with_reducible assumption | with_reducible exact Bool.not_false | with_reducible exact Bool.not_true)) (hd : Nat.blt n N = true := by rfl) (h : ∀ q, Sw P N av bor w0 ops rest ⟨(n, .slice (some ⟨q, 0, none⟩) 0 c) :: E, orow e size (.slice (some ⟨q, 0, none⟩) 0 c) 0 [] :: loc, X⟩ k) :
    Sw P N av bor w0 ops (⟨some n, .makeSlice t x y, ty, pos, af, g⟩ :: rest) ⟨E, loc, X⟩ k := Sw.mk fun a w ok => by
  have hd' : inB N (some n) = true := by have h1 : n < N := Nat.le_of_ble_eq_true hd; simpa [inB] using h1
  obtain ⟨ht, inf, hi, hi1, hi2⟩ := slOf_spec hs.out
  have hz1 : inf.zero = some z := by have := hz.out; simpa [zeroOf, hi] using this
  have h1 := Nat.le_of_ble_eq_true hm
  have h2 := Nat.le_of_ble_eq_true hm2
  have hby : (inf.bytes : Int) * (c : Int) ≤ 281474976710656 := by
    have h : ((inf.bytes * c : Nat) : Int) ≤ 281474976710656 := by rw [hi2]; omega
    rwa [Int.natCast_mul] at h
  have hr := run_make (P := P) w t e inf z ht hi hz1 .i64 .i64 0 (c : Int) (Int.le_refl _) (by omega) hby (by omega)
  simp only [Int.toNat_zero, Int.toNat_natCast] at hr
  simp only [wpList]
  rw [wanted_of ok (o := ⟨some n, .makeSlice t x y, ty, pos, af, g⟩) hg]
  subst hb
  simp only [beq_self_eq_true, if_true]
  left
  unfold Oper.wp
  have hr' : (execOp a.eval ⟨some n, .makeSlice t x y, ty, pos, af, g⟩).run P w = .ok (.value (.slice (some ⟨w.heap.size, 0, none⟩) 0 c)) (w.alloc (.cells (madeCells z.cells (c * inf.size)) e)) := by
    simp [execOp, ok.eval (st := ⟨E, loc, X⟩) hx, ok.eval (st := ⟨E, loc, X⟩) hy, hr]
  rw [hr']
  have ok' : Ok N av bor w0 ⟨E, orow e size (.slice (some ⟨w.heap.size, 0, none⟩) 0 c) 0 [] :: loc, X⟩ a (w.alloc (.cells (madeCells z.cells (c * inf.size)) e)) := (ok.via fun M G => G.new (.cells (madeCells z.cells (c * inf.size)) e) (fun w2 => ORow w2 e size (.slice (some ⟨w.heap.size, 0, none⟩) 0 c) 0 []) (fun w2 h => ⟨by simp, .inr ⟨w.heap.size, c, _, (0, 0), rfl, h, Nat.zero_le _, by simp only [maxLen]; omega, by rw [size_madeCells, hi1], by simp, .inl rfl⟩⟩))
  exact (h _).run _ _ (put_eq (some n) _ ▸ ok'.put hd' _)
end
section
variable {P : Program}
/-- A result that lies in a cell block. -/
theorem res_cell {fn : Func} {N t ty n : Nat} {s : St} {b T : Nat} {cs : List Value} [hI : TyAgg P ty n] (hr : fn.results = #[.cell t ty]) (h : look s.env t = some (.pointer (some ⟨b, 0, none⟩))) (hm : cel b T cs ∈ s.loc) (hn : cs.length = n) : Res1 P fn N s (.agg cs.toArray) := fun av bor w0 a w ok => by
  obtain ⟨D, h1, h2, h3⟩ := aggSize_spec hI.out
  have ht := ok.env t _ h
  have : (loadVar ty ⟨b, 0, none⟩).run P w = .ok (.agg cs.toArray) w := by
    cases D <;> simp at h2
    · exact run_loadVar_row w b T ty cs.toArray (0, 0) _ (cel_in ok hm) h1 rfl (by rw [h3]; simp [hn])
    · exact run_loadVar_row w b T ty cs.toArray (0, 0) _ (cel_in ok hm) h1 rfl (by rw [h3]; simp [hn])
  simp [results, hr, ht, asAddr, this]
end
/-! ### The same as steps of a walk -/
section
variable {P : Program} {N : Nat} {av bor : List Nat} {w0 : World} {ty : TypeId} {x y z : Operand} {t t2 : TypeId} {k : IntKind} {a b c : Int}
variable {E : Env} {loc : List Res} {X : World → Prop} {ops : Array Oper} {kk : St → Prop} {n : Nat} {pos : String} {af : Array Edge} {g : Option (Nat × Bool)} {rest : List Oper} {bb want : Bool}
theorem sy_strL {s : ByteArray} [hI : TyStr P t] (hx : ev E x = some (.string s) := by rfl) (hy : ev E y = some (.int k a) := by rfl) (h0 : 0 ≤ a := by (first | decide | omega)) (h1 : a ≤ s.size := by (first | decide | omega)) (hg : gdB ops E g = some (bb, want) := by rfl) (hbb : bb = want := by (first | with_reducible rfl | with_reducible assumption | with_reducible exact Bool.not_false | with_reducible exact Bool.not_true)) (hd : Nat.blt n N = true := by rfl) (h : Sw P N av bor w0 ops rest ⟨(n, .string (s.extract a.toNat s.size)) :: E, loc, X⟩ kk) :
    Sw P N av bor w0 ops (⟨some n, .slice t x (some y) none none, ty, pos, af, g⟩ :: rest) ⟨E, loc, X⟩ kk := sw_yield (y_strL hx hy h0 h1) hg hbb hd h
theorem sy_strLH {s : ByteArray} {k' : IntKind} [hI : TyStr P t] (hx : ev E x = some (.string s) := by rfl) (hy : ev E y = some (.int k a) := by rfl) (hz : ev E z = some (.int k' b) := by rfl) (h0 : 0 ≤ a := by (first | decide | omega)) (h1 : a ≤ b := by (first | decide | omega)) (h2 : b ≤ s.size := by (first | decide | omega)) (hg : gdB ops E g = some (bb, want) := by rfl) (hbb : bb = want := by (first | with_reducible rfl | with_reducible assumption | with_reducible exact Bool.not_false | with_reducible exact Bool.not_true)) (hd : Nat.blt n N = true := by rfl) (h : Sw P N av bor w0 ops rest ⟨(n, .string (s.extract a.toNat b.toNat)) :: E, loc, X⟩ kk) :
    Sw P N av bor w0 ops (⟨some n, .slice t x (some y) (some z) none, ty, pos, af, g⟩ :: rest) ⟨E, loc, X⟩ kk := sw_yield (y_strLH hx hy hz h0 h1 h2) hg hbb hd h
theorem sy_strI {s : ByteArray} [hI : TyStr P t] (hx : ev E x = some (.string s) := by rfl) (hy : ev E y = some (.int k a) := by rfl) (h0 : 0 ≤ a := by (first | decide | omega)) (h1 : a < s.size := by (first | decide | omega)) (hg : gdB ops E g = some (bb, want) := by rfl) (hbb : bb = want := by (first | with_reducible rfl | with_reducible assumption | with_reducible exact Bool.not_false | with_reducible exact Bool.not_true)) (hd : Nat.blt n N = true := by rfl) (h : Sw P N av bor w0 ops rest ⟨(n, .int .u8 (byteAt s a.toNat)) :: E, loc, X⟩ kk) :
    Sw P N av bor w0 ops (⟨some n, .index t x y, ty, pos, af, g⟩ :: rest) ⟨E, loc, X⟩ kk := sw_yield (y_strI hx hy h0 h1) hg hbb hd h
theorem sy_arrI {n0 e : Nat} {cs : Array Value} {v : Value} [hI : TyArr P t n0 e] (hx : ev E x = some (.agg cs) := by rfl) (hy : ev E y = some (.int k a) := by rfl) (h0 : 0 ≤ a := by (first | decide | omega)) (h1 : a < n0 := by (first | decide | omega)) (hv : cs[a.toNat]? = some v := by rfl) (hg : gdB ops E g = some (bb, want) := by rfl) (hbb : bb = want := by (first | with_reducible rfl | with_reducible assumption | with_reducible exact Bool.not_false | with_reducible exact Bool.not_true)) (hd : Nat.blt n N = true := by rfl) (h : Sw P N av bor w0 ops rest ⟨(n, v) :: E, loc, X⟩ kk) :
    Sw P N av bor w0 ops (⟨some n, .index t x y, ty, pos, af, g⟩ :: rest) ⟨E, loc, X⟩ kk := sw_yield (y_arrI hx hy h0 h1 hv) hg hbb hd h
theorem sy_arrA {n0 e : Nat} {bl off q : Nat} [hI : TyArr P t n0 e] (hx : ev E x = some (.pointer (some ⟨bl, off, none⟩)) := by rfl) (hy : ev E y = some (.int k a) := by rfl) (h0 : 0 ≤ a := by (first | decide | omega)) (h1 : a < n0 := by (first | decide | omega)) (hq : off + a.toNat = q := by (first | rfl | omega)) (hg : gdB ops E g = some (bb, want) := by rfl) (hbb : bb = want := by (first | with_reducible rfl | with_reducible assumption | with_reducible exact Bool.not_false | with_reducible exact Bool.not_true)) (hd : Nat.blt n N = true := by rfl) (h : Sw P N av bor w0 ops rest ⟨(n, .pointer (some ⟨bl, q, none⟩)) :: E, loc, X⟩ kk) :
    Sw P N av bor w0 ops (⟨some n, .indexAddr t x y, ty, pos, af, g⟩ :: rest) ⟨E, loc, X⟩ kk := sw_yield (y_arrA hx hy h0 h1 hq) hg hbb hd h
theorem sy_min (hx : ev E x = some (.int k a) := by rfl) (hy : ev E y = some (.int k b) := by rfl) (hg : gdB ops E g = some (bb, want) := by rfl) (hbb : bb = want := by (first | with_reducible rfl | with_reducible assumption | with_reducible exact Bool.not_false | with_reducible exact Bool.not_true)) (hd : Nat.blt n N = true := by rfl) (h : Sw P N av bor w0 ops rest ⟨(n, .int k (if b < a then b else a)) :: E, loc, X⟩ kk) :
    Sw P N av bor w0 ops (⟨some n, .call ⟨.builtin .min, #[x, y], #[t, t2]⟩, ty, pos, af, g⟩ :: rest) ⟨E, loc, X⟩ kk := sw_yield (y_min hx hy) hg hbb hd h
theorem sy_max (hx : ev E x = some (.int k a) := by rfl) (hy : ev E y = some (.int k b) := by rfl) (hg : gdB ops E g = some (bb, want) := by rfl) (hbb : bb = want := by (first | with_reducible rfl | with_reducible assumption | with_reducible exact Bool.not_false | with_reducible exact Bool.not_true)) (hd : Nat.blt n N = true := by rfl) (h : Sw P N av bor w0 ops rest ⟨(n, .int k (if a < b then b else a)) :: E, loc, X⟩ kk) :
    Sw P N av bor w0 ops (⟨some n, .call ⟨.builtin .max, #[x, y], #[t, t2]⟩, ty, pos, af, g⟩ :: rest) ⟨E, loc, X⟩ kk := sw_yield (y_max hx hy) hg hbb hd h
theorem sy_ldCs {m : Nat} {bl : Nat} {cs : List Value} [hI : TyAgg P t m] (hx : ev E x = some (.pointer (some ⟨bl, 0, none⟩)) := by rfl) (hF : ∀ w, X w → ∀ j v, cs[j]? = some v → w.cell? ⟨bl, j, none⟩ = some v) (hl : cs.length = m := by rfl) (hg : gdB ops E g = some (bb, want) := by rfl) (hbb : bb = want := by (first | with_reducible rfl | with_reducible assumption | with_reducible exact Bool.not_false | with_reducible exact Bool.not_true)) (hd : Nat.blt n N = true := by rfl) (h : Sw P N av bor w0 ops rest ⟨(n, .agg cs.toArray) :: E, loc, X⟩ kk) :
    Sw P N av bor w0 ops (⟨some n, .load t x, ty, pos, af, g⟩ :: rest) ⟨E, loc, X⟩ kk := sw_yield (y_ldCs hx hF hl) hg hbb hd h
theorem sy_buildA {n0 e : Nat} {zv : Value} [hI : TyArr P t n0 e] [hz : TyZero P t zv] {parts : List (Nat × Operand)} {vs : List Value} (hx : partsOf E 0 parts = some vs := by rfl) (h1 : vs.all (·.oneCell') = true := by rfl) (hl : zv.cells.size = vs.length := by rfl) (hg : gdB ops E g = some (bb, want) := by rfl) (hbb : bb = want := by (first | with_reducible rfl | with_reducible assumption | with_reducible exact Bool.not_false | with_reducible exact Bool.not_true)) (hd : Nat.blt n N = true := by rfl) (h : Sw P N av bor w0 ops rest ⟨(n, .agg vs.toArray) :: E, loc, X⟩ kk) :
    Sw P N av bor w0 ops (⟨some n, .build t parts.toArray, ty, pos, af, g⟩ :: rest) ⟨E, loc, X⟩ kk := sw_yield (y_buildA hx h1 hl) hg hbb hd h
end
end Go.Proofs.YtlankpiogfhblaaGreatDoor.Sy

/- Laws more: nil slices, parts of a struct stored, empty slices, rows of the call's own that become data, clones. No program in sight. -/
set_option linter.unusedVariables false
set_option linter.unusedSimpArgs false
namespace Go.Proofs.YtlankpiogfhblaaGreatDoor.Sy
open Go Go.RowKit

section
variable {P : Program} {N : Nat} {av bor : List Nat} {w0 : World} {ops : Array Oper} {rest : List Oper} {k : St → Prop} {E : Env} {loc loc' : List Res} {X : World → Prop}
variable {d : Option Tmp} {ty : TypeId} {pos : String} {af : Array Edge} {g : Option (Nat × Bool)} {bb want : Bool} {K : Exit → St → Prop}
theorem y_slNil {st : St} {x y : Operand} {t t2 e n b' : Nat} {p : Option Addr} {m c : Nat} [hI : TySl P t e n b'] (hx : ev st.env x = some (.slice p m c)) (hy : ev st.env y = some (.slice none 0 0)) : Sy.Yields P N av bor w0 st (.binOp .eql t x y t2) ty (.bool p.isNone) := Sy.Yields.mk fun A w ok d pos af g => by
  have := Lib.run_eql_slice_nil (P := P) w t e p m c 0 0 (slOf_spec hI.out).1
  simp [execOp, ok.eval hx, ok.eval hy, eqGuard, this]
theorem sy_slNil {nn : Nat} {x y : Operand} {t t2 e n b' : Nat} {p : Option Addr} {m c : Nat} [hI : TySl P t e n b'] (hx : ev E x = some (.slice p m c) := by rfl) (hy : ev E y = some (.slice none 0 0) := by rfl) (hg : gdB ops E g = some (bb, want) := by rfl) (hbb : bb = want := by (first | with_reducible rfl | with_reducible assumption | with_reducible exact Bool.not_false | with_reducible exact Bool.not_true)) (hd : Nat.blt nn N = true := by rfl)
    (h : Sw P N av bor w0 ops rest ⟨(nn, .bool p.isNone) :: E, loc, X⟩ k) : Sw P N av bor w0 ops (⟨some nn, .binOp .eql t x y t2, ty, pos, af, g⟩ :: rest) ⟨E, loc, X⟩ k := sw_yield (y_slNil hx hy) hg hbb hd h
theorem sy_eqlT {n : Nat} {x y : Operand} {t t2 : TypeId} {kk : IntKind} {a b : Int} (hx : ev E x = some (.int kk a) := by rfl) (hy : ev E y = some (.int kk b) := by rfl) (hab : a = b := by decide) (hg : gdB ops E g = some (bb, want) := by rfl) (hbb : bb = want := by (first | with_reducible rfl | with_reducible assumption | with_reducible exact Bool.not_false | with_reducible exact Bool.not_true)) (hd : Nat.blt n N = true := by rfl) (h : Sw P N av bor w0 ops rest ⟨(n, .bool true) :: E, loc, X⟩ k) :
    Sw P N av bor w0 ops (⟨some n, .binOp .eql t x y t2, ty, pos, af, g⟩ :: rest) ⟨E, loc, X⟩ k := sw_yield (by have := y_eql (P := P) (N := N) (av := av) (bor := bor) (w0 := w0) (st := ⟨E, loc, X⟩) (ty := ty) (t := t) (t2 := t2) hx hy; rwa [decide_eq_true hab] at this) hg hbb hd h
theorem sy_eqlF {n : Nat} {x y : Operand} {t t2 : TypeId} {kk : IntKind} {a b : Int} (hx : ev E x = some (.int kk a) := by rfl) (hy : ev E y = some (.int kk b) := by rfl) (hab : ¬ a = b := by decide) (hg : gdB ops E g = some (bb, want) := by rfl) (hbb : bb = want := by (first | with_reducible rfl | with_reducible assumption | with_reducible exact Bool.not_false | with_reducible exact Bool.not_true)) (hd : Nat.blt n N = true := by rfl) (h : Sw P N av bor w0 ops rest ⟨(n, .bool false) :: E, loc, X⟩ k) :
    Sw P N av bor w0 ops (⟨some n, .binOp .eql t x y t2, ty, pos, af, g⟩ :: rest) ⟨E, loc, X⟩ k := sw_yield (by have := y_eql (P := P) (N := N) (av := av) (bor := bor) (w0 := w0) (st := ⟨E, loc, X⟩) (ty := ty) (t := t) (t2 := t2) hx hy; rwa [decide_eq_false hab] at this) hg hbb hd h
/-- A part of a struct is stored. -/
theorem sw_stSub {m : Nat} {t : TypeId} {x y : Operand} {b off T : Nat} {cs vs : List Value} (cs' : List Value) {arr : Array Value} [ht : TyAgg P t m] (hx : ev E x = some (.pointer (some ⟨b, off, none⟩)) := by rfl) (hy : ev E y = some (.agg arr) := by rfl) (hv : arr.toList = vs := by (first | exact List.toList_toArray | rfl))
    (hA : At (cel b T cs) (cel b T cs') loc loc' := by (repeat (first | exact At.here _ | apply At.there))) (hm : vs.length = m := by rfl) (hl : Nat.ble (off + m) cs.length = true := by rfl) (h1 : vs.all (·.oneCell') = true := by rfl) (hc2 : cs.take off ++ vs ++ cs.drop (off + m) = cs' := by rfl) (hg : gdB ops E g = some (bb, want) := by rfl) (hb : bb = want := by (first | with_reducible rfl | with_reducible assumption | with_reducible exact Bool.not_false | with_reducible exact Bool.not_true)) (hd : inB N d = true := by rfl)
    (h : Sw P N av bor w0 ops rest ⟨putE E d undef, loc', X⟩ k) : Sw P N av bor w0 ops (⟨d, .store t x y, ty, pos, af, g⟩ :: rest) ⟨E, loc, X⟩ k := by
  obtain ⟨_, _, _, h3⟩ := aggSize_spec (TyAgg.out (P := P) (t := t))
  exact sw_store (vs := vs) (cs := cs) (cs' := cs') (by rw [h3, hm]) hx hy (by simpa [Value.cells] using hv) h1 (by have := Nat.le_of_ble_eq_true hl; omega) (by rw [hm]; exact hc2) hA hg hb hd h
/-- '[]T{}', T of whatever size. -/
theorem sw_bsl0 {n : Nat} {t e size b' : Nat} [hs : TySl P t e size b'] (hg : gdB ops E g = some (bb, want) := by rfl) (hb : bb = want := by (first | with_reducible rfl | with_reducible assumption | with_reducible exact Bool.not_false | with_reducible exact Bool.not_true)) (hd : Nat.blt n N = true := by rfl)
    (h : ∀ b, Sw P N av bor w0 ops rest ⟨(n, .slice (some ⟨b, 0, none⟩) 0 0) :: E, orow e size (.slice (some ⟨b, 0, none⟩) 0 0) 0 [] :: loc, X⟩ k) : Sw P N av bor w0 ops (⟨some n, .buildSlice t 0 #[], ty, pos, af, g⟩ :: rest) ⟨E, loc, X⟩ k := Sw.mk fun a w ok => by
  have hd' : inB N (some n) = true := by have h1 : n < N := Nat.le_of_ble_eq_true hd; simpa [inB] using h1
  obtain ⟨ht, inf, hi, hi1, hi2⟩ := slOf_spec hs.out
  have hsz : (sizeOf e).run P w = .ok size w := by simp [sizeOf, typeInfo, hi, hi1]
  simp only [wpList]
  rw [wanted_of ok (o := ⟨some n, .buildSlice t 0 #[], ty, pos, af, g⟩) hg]
  subst hb
  simp only [beq_self_eq_true, if_true]
  left
  unfold Oper.wp
  have hr : (execOp a.eval ⟨some n, .buildSlice t 0 #[], ty, pos, af, g⟩).run P w = .ok (.value (.slice (some ⟨w.heap.size, 0, none⟩) 0 0)) (w.alloc (.cells #[] e)) := by
    have hr0 : ∀ f : Nat → Value, Array.map f (Array.range 0) = #[] := fun f => Array.eq_empty_of_size_eq_zero (by simp)
    simp [execOp, Instr.buildSlice, run_underlying ht, hsz, Instr.fill, hr0, run_newRow']
  rw [hr]
  have ok' : Ok N av bor w0 ⟨E, orow e size (.slice (some ⟨w.heap.size, 0, none⟩) 0 0) 0 [] :: loc, X⟩ a (w.alloc (.cells #[] e)) := (ok.via fun M G => G.new (.cells #[] e) (fun w2 => ORow w2 e size (.slice (some ⟨w.heap.size, 0, none⟩) 0 0) 0 []) (fun w2 h => ⟨by simp, .inr ⟨w.heap.size, 0, _, (0, 0), rfl, h, Nat.le_refl _, Nat.zero_le _, by simp, by simp, .inl rfl⟩⟩))
  exact (h _).run _ _ (put_eq (some n) _ ▸ ok'.put hd' _)
end

/-! ### Rows of the call's own become data -/
theorem flatten_get {size : Nat} : ∀ (xs : List (List Value)) (i : Nat) (cs : List Value), (∀ r ∈ xs, r.length = size) → xs[i]? = some cs → ∀ j u, cs[j]? = some u → xs.flatten[i * size + j]? = some u
  | [], i, cs, _, h, j, u, _ => by simp at h
  | r :: xs, 0, cs, hl, h, j, u, hj => by
    simp at h
    subst h
    have h1 := (List.getElem?_eq_some_iff.1 hj).1
    rw [List.flatten_cons, Nat.zero_mul, Nat.zero_add, List.getElem?_append_left h1, hj]
  | r :: xs, i + 1, cs, hl, h, j, u, hj => by
    have h1 : r.length = size := hl r List.mem_cons_self
    rw [List.flatten_cons, List.getElem?_append_right (by rw [h1, Nat.add_mul]; omega), h1, show (i + 1) * size + j - size = i * size + j from by rw [Nat.add_mul]; omega]
    exact flatten_get xs i cs (fun q hq => hl q (List.mem_cons_of_mem _ hq)) (by simpa using h) j u hj
theorem flatten_len {size : Nat} (xs : List (List Value)) (h : ∀ r ∈ xs, r.length = size) : xs.flatten.length = xs.length * size := by
  rw [List.length_flatten]
  have : ∀ x ∈ xs.map List.length, x = size := by
    intro x hx
    obtain ⟨cs, hcs, rfl⟩ := List.mem_map.1 hx
    exact h cs hcs
  rw [List.eq_replicate_of_mem this]
  simp
theorem rows_of_orow {w : World} {e size n c : Nat} {A : Option Addr} {xs : List (List Value)} (h : ORow w e size (.slice A n c) n xs.flatten) (hn : n = xs.length) (hs : ∀ r ∈ xs, r.length = size) : RowsD w size ⟨A, n, c⟩ xs := by
  rcases h.2 with ⟨h1, h2⟩ | ⟨g, cap, cur, fz, h1, hg, hnc, hcm, hcs, htake, hfz⟩
  · have hx : xs = [] := List.eq_nil_of_length_eq_zero (by omega)
    subst hx
    simp only [Value.slice.injEq] at h1
    obtain ⟨rfl, rfl, rfl⟩ := h1
    exact ⟨rfl, Nat.le_refl _, Nat.zero_le _, fun i cs hi => by simp at hi⟩
  · simp only [Value.slice.injEq] at h1
    obtain ⟨rfl, _, rfl⟩ := h1
    refine ⟨hn, hnc, hcm, fun i cs hi => ⟨hs cs (List.mem_of_getElem? hi), rfl, fun j u hj => ⟨rfl, fun a ha => ?_⟩⟩⟩
    cases ha
    have hf := flatten_get xs i cs hs hi j u hj
    have hadd : (⟨g, 0, none⟩ : Addr).add (i * size + j) = ⟨g, i * size + j, none⟩ := by unfold Addr.add; split <;> simp_all
    rw [hadd, cell_of_row w g _ cur e fz hg]
    rw [← htake, List.getElem?_take] at hf
    split at hf
    · simpa using hf
    · cases hf
theorem orow_of_cel {w : World} {b e size n : Nat} {cs : List Value} (h : w.heap[b]? = some (.cells cs.toArray e (0, 0))) (hl : cs.length = n * size) (hm : n ≤ maxLen) : ORow w e size (.slice (some ⟨b, 0, none⟩) n n) n cs :=
  ⟨hl, .inr ⟨b, n, _, (0, 0), rfl, h, Nat.le_refl _, hm, by simpa using hl, by simp [← hl], .inl rfl⟩⟩
theorem rows_of_cel {w : World} {b e size n : Nat} {xs : List (List Value)} (h : w.heap[b]? = some (.cells xs.flatten.toArray e (0, 0))) (hn : n = xs.length) (hm : n ≤ maxLen) (hs : ∀ r ∈ xs, r.length = size) : RowsD w size ⟨some ⟨b, 0, none⟩, n, n⟩ xs :=
  rows_of_orow (orow_of_cel h (by rw [flatten_len xs hs, hn]) hm) hn hs
theorem RowsD.none_nil {w : World} {size : Nat} {s : SlV} {xs : List (List Value)} (h : RowsD w size s xs) (hp : s.p.isNone = true) : xs = [] := by
  cases xs with
  | nil => rfl
  | cons cs r =>
    have := (h.row 0 cs rfl).2.1
    cases hq : s.p <;> simp_all
theorem rowsD_nil (w : World) (size : Nat) : RowsD w size ⟨none, 0, 0⟩ [] := ⟨rfl, Nat.le_refl _, Nat.zero_le _, fun i cs hi => by simp at hi⟩
/-- What a clone hands back. -/
def CloneAt (size : Nat) (xs : List (List Value)) (u : Value) (X : World → Prop) : Prop := ∃ s : SlV, u = s.v ∧ s.n = xs.length ∧ ∀ w, X w → RowsD w size s xs
end Go.Proofs.YtlankpiogfhblaaGreatDoor.Sy

/- Laws more: deletions, lengths of maps, cut slices, contracts that hand back resources. No program in sight. -/
set_option linter.unusedVariables false
set_option linter.unusedSimpArgs false
namespace Go.Proofs.YtlankpiogfhblaaGreatDoor.Sy
open Go Go.RowKit Go.MapKept

def mdel {κ β : Type} [KeyT κ] : List (κ × β) → κ → List (κ × β)
  | [], _ => []
  | (k', v') :: r, k => bif KeyT.eqb k k' then r else (k', v') :: mdel r k
theorem mdel_of_none {κ β : Type} [KeyT κ] : ∀ (l : List (κ × β)) (k : κ), mget l k = none → mdel l k = l
  | [], _, _ => rfl
  | (k', v') :: r, k, h => by
    simp only [mget] at h
    simp only [mdel]
    cases hb : KeyT.eqb k k' with
    | true => rw [hb] at h; simp at h
    | false => rw [hb] at h; rw [cond_false, mdel_of_none r k (by simpa using h)]
theorem mdel_of_at {κ β : Type} [KeyT κ] : ∀ (l : List (κ × β)) (k : κ) (j : Nat) (v : β), l[j]? = some (k, v) → (l.map (·.1)).Nodup → mdel l k = l.eraseIdx j
  | [], _, j, v, h, _ => by simp at h
  | (k', v') :: r, k, 0, v, h, hn => by
    simp at h
    obtain ⟨rfl, rfl⟩ := h
    have : KeyT.eqb k' k' = true := (KeyT.eqb_iff k' k').2 rfl
    simp [mdel, this]
  | (k', v') :: r, k, j + 1, v, h, hn => by
    have hne : KeyT.eqb k k' = false := by
      cases hb : KeyT.eqb k k' with
      | false => rfl
      | true =>
        have e := (KeyT.eqb_iff k k').1 hb
        subst e
        simp only [List.map_cons, List.nodup_cons] at hn
        exact absurd (List.mem_map.2 ⟨(k, v), List.mem_of_getElem? (by simpa using h), rfl⟩) hn.1
    simp only [mdel, hne, cond_false, List.eraseIdx_cons_succ]
    rw [mdel_of_at r k j v (by simpa using h) (by simp only [List.map_cons, List.nodup_cons] at hn; exact hn.2)]
theorem enc_inj {κ : Type} [KeyT κ] {a b : κ} (h : KeyT.enc a = KeyT.enc b) : a = b := by
  have h1 := KeyT.same a a
  have h2 := KeyT.same a b
  rw [← h] at h2
  rw [h1] at h2
  have h3 : KeyT.eqb a a = true := (KeyT.eqb_iff a a).2 rfl
  rw [h3] at h2
  exact (KeyT.eqb_iff a b).1 (Option.some.inj h2).symm
theorem map_erase {α β : Type} (f : α → β) : ∀ (l : List α) (j : Nat), (l.eraseIdx j).map f = (l.map f).eraseIdx j
  | [], j => by simp
  | a :: l, 0 => rfl
  | a :: l, j + 1 => by simp [map_erase f l j]
theorem run_delete_at {κ : Type} [KeyT κ] {P : Program} {w : World} {t et kt ty : TypeId} (ht : mapOf P t = some (et, keyD κ)) {g : Nat} {l : List (κ × Value)} (h : MapAt w g l) (k : κ) :
    ∃ o, (Builtin.delete_ #[t, kt] ty #[.map (some g), KeyT.enc k]).run P w = .ok (.tuple #[]) { w with heap := w.heap.setIfInBounds g o } ∧ ∀ w' : World, w'.heap[g]? = some o → MapAt w' g (mdel l k) := by
  obtain ⟨kt', h1, h2⟩ := mapOf_spec ht
  obtain ⟨es, clock, hb, hs, hl⟩ := h
  have hk := KeyT.ok k
  have hnd : (l.map (·.1)).Nodup := by
    have h3 := hs.2.2
    have h4 : es.toList.map (·.key) = l.map fun p => KeyT.enc p.1 := by
      have := congrArg (List.map Prod.fst) hl
      simpa [List.map_map, Function.comp_def] using this
    rw [h4] at h3
    unfold List.Nodup at h3 ⊢
    rw [List.pairwise_map] at h3 ⊢
    exact h3.imp fun hab e => hab (by rw [e])
  rcases find_enc k es.toList l 0 hl with ⟨g1, g2, g3, g4⟩ | ⟨j, e, v0, g1, g2, g3, g4, g5⟩
  · refine ⟨.map es clock, ?_, fun w' hw => ⟨es, clock, hw, hs, ?_⟩⟩
    · simp [Builtin.delete_, run_underlying h1, MapKept.run_getObj_map hb, MapKept.run_checkKey h2 hk, MapKept.run_findKey h2 g1, MapKept.run_setObj_map _ hb, Result.andThen]
    · rw [mdel_of_none l k g2]
      exact hl
  · have hj : es[j]? = some e := by simpa using g2
    have hlj : l[j]? = some (k, v0) := by
      have h3 := congrArg (fun q => q[j]?) hl
      simp only [List.getElem?_map, Array.getElem?_toList, hj, Option.map_some] at h3
      cases hq : l[j]? with
      | none => rw [hq] at h3; simp at h3
      | some p =>
        rw [hq] at h3
        simp only [Option.map_some, Option.some.injEq, Prod.mk.injEq] at h3
        have e1 : p.1 = k := enc_inj (h3.1.symm.trans g3)
        have e2 : mget l k = some p.2 := by
          have key : ∀ (l : List (κ × Value)) (j : Nat) (p : κ × Value), l[j]? = some p → (l.map (·.1)).Nodup → mget l p.1 = some p.2 := by
            intro l
            induction l with
            | nil => intro j p h; simp at h
            | cons a r ih =>
              intro j p h hn
              cases j with
              | zero =>
                simp at h
                subst h
                have : KeyT.eqb a.1 a.1 = true := (KeyT.eqb_iff _ _).2 rfl
                simp [mget, this]
              | succ j =>
                simp only [List.map_cons, List.nodup_cons] at hn
                have hne : KeyT.eqb p.1 a.1 = false := by
                  cases hb : KeyT.eqb p.1 a.1 with
                  | false => rfl
                  | true =>
                    have e := (KeyT.eqb_iff _ _).1 hb
                    exact absurd (List.mem_map.2 ⟨p, List.mem_of_getElem? (by simpa using h), e⟩) hn.1
                simp only [mget, hne, cond_false]
                exact ih j p (by simpa using h) hn.2
          have := key l j p hq hnd
          rwa [e1] at this
        rw [g4] at e2
        obtain ⟨p1, p2⟩ := p
        simp only at e1 e2
        rw [e1, Option.some.inj e2]
    refine ⟨.map (es.eraseIdxIfInBounds j) clock, ?_, fun w' hw => ⟨_, _, hw, stamped_erase hs j, ?_⟩⟩
    · simp [Builtin.delete_, run_underlying h1, MapKept.run_getObj_map hb, MapKept.run_checkKey h2 hk, MapKept.run_findKey h2 g1, MapKept.run_setObj_map _ hb, Result.andThen]
    · rw [mdel_of_at l k j v0 hlj hnd]
      have hlt : j < es.size := (Array.getElem?_eq_some_iff.1 hj).1
      have e1 : (es.eraseIdxIfInBounds j).toList = es.toList.eraseIdx j := by simp [Array.eraseIdxIfInBounds, hlt]
      rw [e1, map_erase, hl, ← map_erase]

section
variable {P : Program} {N : Nat} {av bor : List Nat} {w0 : World} {ops : Array Oper} {rest : List Oper} {k : St → Prop} {E : Env} {loc loc' : List Res} {X : World → Prop}
variable {d : Option Tmp} {ty : TypeId} {pos : String} {af : Array Edge} {g : Option (Nat × Bool)} {bb want : Bool} {K : Exit → St → Prop}
theorem sw_delete {κ : Type} [KeyT κ] {t et kt : Nat} [ht : TyMap P t et (keyD κ)] {m x : Operand} {q : Nat} {l : List (κ × Value)} {kk : κ} (hm : ev E m = some (.map (some q)) := by rfl) (hx : ev E x = some (KeyT.enc kk) := by rfl)
    (hA : At (mapr q l) (mapr q (mdel l kk)) loc loc' := by (repeat (first | exact At.here _ | apply At.there))) (hg : gdB ops E g = some (bb, want) := by rfl) (hb : bb = want := by (first | with_reducible rfl | with_reducible assumption | with_reducible exact Bool.not_false | with_reducible exact Bool.not_true)) (hd : inB N d = true := by rfl)
    (h : Sw P N av bor w0 ops rest ⟨putE E d (.tuple #[]), loc', X⟩ k) : Sw P N av bor w0 ops (⟨d, .call ⟨.builtin .delete, #[m, x], #[t, kt]⟩, ty, pos, af, g⟩ :: rest) ⟨E, loc, X⟩ k := Sw.mk fun a w ok => by
  simp only [wpList]
  rw [wanted_of ok (o := ⟨d, .call ⟨.builtin .delete, #[m, x], #[t, kt]⟩, ty, pos, af, g⟩) hg]
  subst hb
  simp only [beq_self_eq_true, if_true]
  left
  unfold Oper.wp
  have hmm : MapAt w q l := (ok.gam.here _ hA.mem).now
  obtain ⟨o, hr, ho⟩ := run_delete_at (P := P) (kt := kt) (ty := ty) ht.out hmm kk
  obtain ⟨es, c, hb', _⟩ := hmm
  have hs := heap_set (o' := o) hb'
  have ok' : Ok N av bor w0 ⟨E, loc', X⟩ a { w with heap := w.heap.setIfInBounds q o } := (ok.via fun M G => G.turn (hA.app M) rfl rfl rfl (by simp) (fun i hi => hs.2 i hi) fun w2 h2 => ho w2 (h2.trans hs.1))
  have hr' : (execOp a.eval ⟨d, .call ⟨.builtin .delete, #[m, x], #[t, kt]⟩, ty, pos, af, g⟩).run P w = .ok (.value (.tuple #[])) { w with heap := w.heap.setIfInBounds q o } := by
    simp only [execOp, resolve, invoke, builtin, Sem.run_bind, Sem.run_pure, Result.andThen_ok, List.map_toArray, List.map_cons, List.map_nil, ok.eval (st := ⟨E, loc, X⟩) hm, ok.eval (st := ⟨E, loc, X⟩) hx, hr]
  rw [hr']
  exact h.run _ _ (put_eq d _ ▸ ok'.put hd _)
theorem y_mlen {κ : Type} [KeyT κ] {st : St} {t et : Nat} [ht : TyMap P t et (keyD κ)] {m : Operand} {q : Nat} {l : List (κ × Value)} (hm : ev st.env m = some (.map (some q))) (hl : mapr q l ∈ st.loc) :
    Sy.Yields P N av bor w0 st (.call ⟨.builtin .len, #[m], #[t]⟩) ty (.int .i64 (l.length : Int)) := Sy.Yields.mk fun A w ok d pos af g => by
  obtain ⟨kt', h1, h2⟩ := mapOf_spec ht.out
  obtain ⟨es, clock, hb, hs, hle⟩ : MapAt w q l := (ok.gam.here _ hl).now
  have hz : es.size = l.length := by have := congrArg List.length hle; simpa using this
  simp [execOp, resolve, invoke, builtin, Builtin.len_, ok.eval hm, run_underlying h1, MapKept.run_getObj_map hb, goInt, hz]
theorem sy_mlen {κ : Type} [KeyT κ] {n : Nat} {t et : Nat} [ht : TyMap P t et (keyD κ)] {m : Operand} {q : Nat} {l : List (κ × Value)} (hm : ev E m = some (.map (some q)) := by rfl) (hl : mapr q l ∈ loc := by (repeat (first | exact List.mem_cons_self | apply List.mem_cons_of_mem))) (hg : gdB ops E g = some (bb, want) := by rfl) (hbb : bb = want := by (first | with_reducible rfl | with_reducible assumption | with_reducible exact Bool.not_false | with_reducible exact Bool.not_true)) (hd : Nat.blt n N = true := by rfl)
    (h : Sw P N av bor w0 ops rest ⟨(n, .int .i64 (l.length : Int)) :: E, loc, X⟩ k) : Sw P N av bor w0 ops (⟨some n, .call ⟨.builtin .len, #[m], #[t]⟩, ty, pos, af, g⟩ :: rest) ⟨E, loc, X⟩ k := sw_yield (y_mlen hm hl) hg hbb hd h
/-- 's[:h]' of a slice. -/
theorem y_slcH {st : St} {x y : Operand} {t e size b' : Nat} [hI : TySl P t e size b'] {p : Option Addr} {m c : Nat} {kk : IntKind} {i : Int} (hx : ev st.env x = some (.slice p m c)) (hy : ev st.env y = some (.int kk i)) (h0 : 0 ≤ i) (h1 : i ≤ (c : Int)) :
    Sy.Yields P N av bor w0 st (.slice t x none (some y) none) ty (.slice p i.toNat c) := Sy.Yields.mk fun A w ok d pos af g => by
  obtain ⟨hu, inf, hi, hs, hb⟩ := slOf_spec hI.out
  have hz := run_sizeOf (P := P) (w := w) (t := e) (n := size) (by simp [hi, hs])
  have hadd : ∀ a : Addr, a.add 0 = a := fun a => by simp [Addr.add]
  have hmap : p.map (fun a => a.add 0) = p := by cases p <;> simp [hadd]
  simp [execOp, ok.eval hx, ok.eval hy, Instr.sliceAt, run_underlying hu, Instr.slice, Instr.sliceBounds, run_sliceBound, h0, h1, hz, hmap]
theorem sy_slcH {n : Nat} {x y : Operand} {t e size b' : Nat} [hI : TySl P t e size b'] {p : Option Addr} {m c : Nat} {kk : IntKind} {i : Int} (hx : ev E x = some (.slice p m c) := by rfl) (hy : ev E y = some (.int kk i) := by rfl) (h0 : 0 ≤ i := by omega) (h1 : i ≤ (c : Int)) (hg : gdB ops E g = some (bb, want) := by rfl) (hbb : bb = want := by (first | with_reducible rfl | with_reducible assumption | with_reducible exact Bool.not_false | with_reducible exact Bool.not_true)) (hd : Nat.blt n N = true := by rfl)
    (h : Sw P N av bor w0 ops rest ⟨(n, .slice p i.toNat c) :: E, loc, X⟩ k) : Sw P N av bor w0 ops (⟨some n, .slice t x none (some y) none, ty, pos, af, g⟩ :: rest) ⟨E, loc, X⟩ k := sw_yield (y_slcH hx hy h0 h1) hg hbb hd h
theorem ok_perm {E' : Env} {l' : List Res} {X' : World → Prop} (he : sub E E') (hl : loc.Perm l') (hx : ∀ w, X w → X' w) : ∀ a w, Ok N av bor w0 ⟨E, loc, X⟩ a w → Ok N av bor w0 ⟨E', l', X'⟩ a w := fun a w ok =>
  ok_sub he (List.Sublist.refl _) hx a w (ok.via fun M G => G.perm (hl.append_right M))
theorem cw_drop {c : Code} {l : List Res} (hs : l.Sublist loc) (h : Cw P N av bor w0 c ⟨E, l, X⟩ K) : Cw P N av bor w0 c ⟨E, loc, X⟩ K := Cw.mk fun a w ok => h.run a w (ok.via fun M G => G.drop (hs.append_right M))
end
/-- The contract of a function that hands back some of what it owns. -/
theorem ct_of_cwS {P : Program} {f : FuncId} {fn : Func} {c : Code} {args : List Value} {pre : List Res} {X : World → Prop} {Post : Value → List Res → Prop} (N : Nat)
    (hf : P.funcs[f]? = some fn) (hb : fn.body = some c) (hN : fn.ntmps = N) (hn : Nat.ble args.length N = true)
    (h : ∀ av bor w0, Cw P N av bor w0 c ⟨params 0 args, pre, X⟩ (ends P fn N fun u R _ => ∃ R', R'.Sublist R ∧ Post u R')) : Ct P f args.toArray pre X fun u R _ => Post u R := Ct.mk fun w av G => by
  have h1 := (ct_of_cw (P := P) (Post := fun u R _ => ∃ R', R'.Sublist R ∧ Post u R') N hf hb hN hn h).run w av G
  refine h1.mono fun e w' ⟨u, R, X', he, ⟨R', hs, hp⟩, G'⟩ => ⟨u, R', X', he, hp, G'.drop hs⟩
end Go.Proofs.YtlankpiogfhblaaGreatDoor.Sy

/- Laws more: a slice from an element on; slice literals of structs; parts of data rows. No program in sight. -/
set_option linter.unusedVariables false
set_option linter.unusedSimpArgs false
namespace Go.Proofs.YtlankpiogfhblaaGreatDoor.Sy
open Go Go.RowKit

theorem CellAt.shift {w : World} {p : Option Addr} {k q : Nat} {u : Value} : CellAt w (p.map (·.add k)) q u ↔ CellAt w p (k + q) u := by
  cases p with
  | none => simp [CellAt]
  | some a => simp [CellAt, Addr_add_add]
theorem RowsD.take {w : World} {size : Nat} {s : SlV} {xs : List (List Value)} (h : RowsD w size s xs) {n : Nat} (hn : n ≤ xs.length) : RowsD w size ⟨s.p, n, s.c⟩ (xs.take n) := by
  refine ⟨by rw [List.length_take]; show n = _; omega, by have := h.cap; have := h.len; show n ≤ s.c; omega, h.max, fun i cs hi => h.row i cs ?_⟩
  rw [List.getElem?_take] at hi
  split at hi
  · exact hi
  · cases hi
def SlV.from (s : SlV) (size n : Nat) : SlV := ⟨if s.c = n then s.p else s.p.map (·.add (n * size)), s.n - n, s.c - n⟩
theorem RowsD.drop {w : World} {size : Nat} {s : SlV} {xs : List (List Value)} (h : RowsD w size s xs) {n : Nat} (hn : n ≤ xs.length) : RowsD w size (s.from size n) (xs.drop n) := by
  have h1 := h.len
  have h2 := h.cap
  have h3 := h.max
  refine ⟨by rw [List.length_drop]; show s.n - n = _; omega, by show s.n - n ≤ s.c - n; omega, by show s.c - n ≤ maxLen; omega, fun i cs hi => ?_⟩
  rw [List.getElem?_drop] at hi
  have hlt := (List.getElem?_eq_some_iff.1 hi).1
  have hr := h.row (n + i) cs hi
  have e : (s.from size n).p = s.p.map (·.add (n * size)) := by unfold SlV.from; rw [if_neg (by omega)]
  refine ⟨hr.1, by rw [e]; simpa using hr.2.1, fun j u hj => ?_⟩
  rw [e, CellAt.shift, ← Nat.add_assoc, ← Nat.add_mul]
  exact hr.2.2 j u hj

section
variable {P : Program} {N : Nat} {av bor : List Nat} {w0 : World} {ops : Array Oper} {rest : List Oper} {k : St → Prop} {E : Env} {loc loc' : List Res} {X : World → Prop}
variable {d : Option Tmp} {ty : TypeId} {pos : String} {af : Array Edge} {g : Option (Nat × Bool)} {bb want : Bool} {K : Exit → St → Prop}

theorem fill_rows (size : Nat) : ∀ (vs : List Value) (k : Nat) (pre z : List Value), (∀ v ∈ vs, v.cells.size = size) → pre.length = k * size → z.length = vs.length * size →
    Instr.fill (fun i => some (i * size, size)) (pre ++ z).toArray ((vs.zipIdx k).map fun p => (p.2, p.1)) = some (pre ++ vs.flatMap fun v => v.cells.toList).toArray
  | [], k, pre, z, _, _, hz => by
    have : z = [] := List.eq_nil_of_length_eq_zero (by simpa using hz)
    subst this
    simp [Instr.fill]
  | v :: vs, k, pre, z, h1, hp, hz => by
    have hv := h1 v List.mem_cons_self
    have hvl : v.cells.toList.length = size := by simpa using hv
    simp only [List.length_cons, Nat.add_mul, Nat.one_mul] at hz
    have ih := fill_rows size vs (k + 1) (pre ++ v.cells.toList) (z.drop size) (fun u hu => h1 u (List.mem_cons_of_mem _ hu)) (by rw [List.length_append, hp, hvl, Nat.add_mul, Nat.one_mul]) (by rw [List.length_drop]; omega)
    have h3 := fold_set pre.length v.cells.toList 0 (pre ++ z).toArray (by simp; omega)
    have h4 : (v.cells.zipIdx.foldl (fun cs (p : Value × Nat) => cs.setIfInBounds (k * size + p.2) p.1) (pre ++ z).toArray) = (pre ++ v.cells.toList ++ z.drop size).toArray := by
      rw [← Array.foldl_toList, Array.toList_zipIdx, ← hp, h3]
      simp [hv]
    simp only [List.zipIdx_cons, List.map_cons, Instr.fill]
    have hc : ¬ ((decide (v.cells.size ≠ size) || decide (k * size + v.cells.size > (pre ++ z).toArray.size)) = true) := by
      simp [hv]; omega
    rw [if_neg hc, h4, ih]
    simp [List.flatMap_cons]
/-- '[]T{x, y, ..}', T of whatever size. -/
theorem sw_bslS {n len : Nat} {t e size b' : Nat} [hs : TySl P t e size b'] {z : Value} [hz : TyZero P e z] {parts : List (Nat × Operand)} {vs css : List Value} (hzs : z.cells.size = size := by rfl) (hp : partsOf E 0 parts = some vs := by rfl) (hl : vs.length = len := by rfl) (hsz : (vs.all fun v => v.cells.size == size) = true) (hcs : (vs.flatMap fun v => v.cells.toList) = css)
    (hpos : Nat.ble (len * size) 1000000 = true := by rfl) (h0 : Nat.blt 0 (len * size) = true := by rfl) (hg : gdB ops E g = some (bb, want) := by rfl) (hb : bb = want := by (first | with_reducible rfl | with_reducible assumption | with_reducible exact Bool.not_false | with_reducible exact Bool.not_true)) (hd : Nat.blt n N = true := by rfl)
    (h : ∀ b, Sw P N av bor w0 ops rest ⟨(n, .slice (some ⟨b, 0, none⟩) len len) :: E, cel b e css :: loc, X⟩ k) : Sw P N av bor w0 ops (⟨some n, .buildSlice t len parts.toArray, ty, pos, af, g⟩ :: rest) ⟨E, loc, X⟩ k := Sw.mk fun a w ok => by
  have hd' : inB N (some n) = true := by have h1 : n < N := Nat.le_of_ble_eq_true hd; simpa [inB] using h1
  have hle : len * size ≤ 1000000 := Nat.le_of_ble_eq_true hpos
  have hlt : 0 < len * size := Nat.le_of_ble_eq_true h0
  obtain ⟨ht, inf, hi, hi1, hi2⟩ := slOf_spec hs.out
  have hsz1 : (sizeOf e).run P w = .ok size w := by simp [sizeOf, typeInfo, hi, hi1]
  have hzr : (zeroValue e).run P w = .ok z w := run_zero hz.out w
  simp only [wpList]
  rw [wanted_of ok (o := ⟨some n, .buildSlice t len parts.toArray, ty, pos, af, g⟩) hg]
  subst hb
  simp only [beq_self_eq_true, if_true]
  left
  unfold Oper.wp
  have hfill : ∀ Z : Array Value, Z.size = len * size → Instr.fill (fun i => some (i * size, size)) Z (parts.map fun p => (p.1, a.eval p.2)) = some css.toArray := fun Z hZ => by
    rw [partsOf_spec ok parts 0 vs hp, ← hcs]
    have := fill_rows size vs 0 [] Z.toList (fun v hv => by simpa using List.all_eq_true.1 hsz v hv) (by simp) (by simp [hZ, hl])
    simpa using this
  have hr : (execOp a.eval ⟨some n, .buildSlice t len parts.toArray, ty, pos, af, g⟩).run P w = .ok (.value (.slice (some ⟨w.heap.size, 0, none⟩) len len)) (w.alloc (.cells css.toArray e)) := by
    have hn : ¬ (16777216 < len * size) := by omega
    have hne : ¬ (len * size = 0) := by omega
    have hne2 : ¬ (len = 0 ∨ size = 0) := fun h => hne (by rcases h with h | h <;> simp [h])
    have hf := hfill ((Array.range (len * size)).map (fun x => z.cells[x % z.cells.size]!)) (by simp)
    simp [execOp, Instr.buildSlice, run_underlying ht, hsz1, hzr, hne, hne2, hn, hf, run_newRow']
  rw [hr]
  have ok' : Ok N av bor w0 ⟨E, cel w.heap.size e css :: loc, X⟩ a (w.alloc (.cells css.toArray e)) := (ok.via fun M G => G.new _ _ fun _ h => h)
  exact (h _).run _ _ (put_eq (some n) _ ▸ ok'.put hd' _)
/-! ways meet again -/
theorem cw_meet {ι : Type} (M : ι → St) {x y : Code} {st : St} (h1 : Cw P N av bor w0 x st (thn (fun s => ∃ i, ∀ a w, Ok N av bor w0 s a w → Ok N av bor w0 (M i) a w) K)) (h2 : ∀ i, Cw P N av bor w0 y (M i) K) :
    Cw P N av bor w0 x st (thn (fun s => Cw P N av bor w0 y s K) K) := cw_mono (fun e s h => by
  cases e with
  | normal =>
    obtain ⟨i, hi⟩ := h
    exact cw_to hi (h2 i)
  | _ => exact h) h1
end
end Go.Proofs.YtlankpiogfhblaaGreatDoor.Sy

/- Plain laws of strings, sorted lists and compacted lists. No program in sight. -/
set_option linter.unusedVariables false
set_option linter.unusedSimpArgs false
namespace Go.Proofs.YtlankpiogfhblaaGreatDoor.Sy
open Go Go.Proofs

theorem toList_bl (a : ByteArray) : a.toList = bl a := by simp [bl, ByteArray.toList_eq]
theorem bl_inj {a b : ByteArray} (h : bl a = bl b) : a = b := by rw [← lb_bl a, ← lb_bl b, h]
theorem seqB_iff {a b : ByteArray} : seqB a b = true ↔ a = b := by
  unfold seqB
  rw [toList_bl, toList_bl, beq_iff_eq]
  exact ⟨bl_inj, fun h => by rw [h]⟩
theorem seqB_self (a : ByteArray) : seqB a a = true := seqB_iff.2 rfl
theorem seqB_ne {a b : ByteArray} : seqB a b = false ↔ a ≠ b := by
  rw [← Bool.not_eq_true, seqB_iff]
theorem seqB_comm (a b : ByteArray) : seqB a b = seqB b a := by
  cases h : seqB b a with
  | true => rw [seqB_iff.1 h]; exact seqB_self _
  | false => exact seqB_ne.2 fun e => seqB_ne.1 h e.symm
/-- The order of strings. -/
def ltB (a b : ByteArray) : Bool := Op.bytesLess a.toList b.toList
theorem ltB_iff {a b : ByteArray} : ltB a b = true ↔ bl a < bl b := by
  unfold ltB
  rw [toList_bl, toList_bl, Go.Proofs.bytesLess_eq, decide_eq_true_eq]
theorem ltB_irrefl (a : ByteArray) : ltB a a = false := by
  rw [← Bool.not_eq_true, ltB_iff]
  exact List.lt_irrefl _
theorem ltB_trans {a b c : ByteArray} (h : ltB a b = true) (k : ltB b c = true) : ltB a c = true := by
  rw [ltB_iff] at *
  exact List.lt_trans h k
theorem ltB_asymm {a b : ByteArray} (h : ltB a b = true) : ltB b a = false := by
  rw [← Bool.not_eq_true]
  intro k
  have := ltB_trans h k
  rw [ltB_irrefl] at this
  cases this
theorem ltB_ne {a b : ByteArray} (h : ltB a b = true) : a ≠ b := by
  rintro rfl
  rw [ltB_irrefl] at h
  cases h

/-- Ascending and distinct. -/
def Asc (l : List ByteArray) : Prop := l.Pairwise fun a b => ltB a b = true
theorem Asc.nodup {l : List ByteArray} (h : Asc l) : l.Nodup := List.Pairwise.imp (fun h => ltB_ne h) h
theorem Asc.getD {l : List ByteArray} (h : Asc l) {i j : Nat} (hij : i < j) (hj : j < l.length) : ltB (l.getD i .empty) (l.getD j .empty) = true := by
  rw [List.getD_eq_getElem?_getD, List.getD_eq_getElem?_getD, List.getElem?_eq_getElem hj, List.getElem?_eq_getElem (by omega)]
  exact List.pairwise_iff_getElem.1 h i j (by omega) hj hij
theorem Asc.ext {l m : List ByteArray} (hl : Asc l) (hm : Asc m) (h : ∀ x, x ∈ l ↔ x ∈ m) : l = m := by
  have hp : l.Perm m := (List.perm_ext_iff_of_nodup hl.nodup hm.nodup).2 h
  refine hp.eq_of_pairwise (fun a b _ _ h1 h2 => ?_) hl hm
  rw [ltB_asymm h1] at h2
  cases h2

theorem mem_sortB {x : ByteArray} {l : List ByteArray} : x ∈ sortB l ↔ x ∈ l := by
  unfold sortB
  have hp : (((l.map bl).mergeSort leB).map lb).Perm ((l.map bl).map lb) := (List.mergeSort_perm _ _).map lb
  rw [hp.mem_iff, List.map_map]
  have e : (lb ∘ bl) = id := by funext a; exact lb_bl a
  rw [e, List.map_id]
theorem leB_pw (l : List (List UInt8)) : (l.mergeSort leB).Pairwise fun a b => a ≤ b := by
  have h := List.pairwise_mergeSort (le := leB) (fun a b c h1 h2 => by
    simp only [leB, decide_eq_true_eq] at *
    exact List.le_trans h1 h2) (fun a b => by
    simp only [leB, Bool.or_eq_true, decide_eq_true_eq]
    exact List.le_total a b) l
  exact h.imp fun h => by simpa [leB] using h

/-- Sorted, of a list without repetitions: ascending. -/
theorem asc_sortB {l : List ByteArray} (hn : l.Nodup) : Asc (sortB l) := by
  have hp : (sortB l).Perm l := by
    unfold sortB
    have hp : (((l.map bl).mergeSort leB).map lb).Perm ((l.map bl).map lb) := (List.mergeSort_perm _ _).map lb
    have e : (lb ∘ bl) = id := by funext a; exact lb_bl a
    rwa [List.map_map, e, List.map_id] at hp
  have hn' : (sortB l).Nodup := hp.nodup_iff.2 hn
  have h1 : (sortB l).Pairwise fun a b => bl a ≤ bl b := by
    unfold sortB
    rw [List.pairwise_map]
    exact (leB_pw (l.map bl)).imp (fun {a b} (h : a ≤ b) => by rw [bl_lb, bl_lb]; exact h)
  unfold Asc
  refine (h1.and hn').imp (fun {a b} ⟨h2, h3⟩ => ?_)
  rw [ltB_iff]
  rcases Decidable.em (bl a < bl b) with h | h
  · exact h
  · exact absurd (bl_inj (List.le_antisymm h2 (List.not_lt.1 h))) h3
end Go.Proofs.YtlankpiogfhblaaGreatDoor.Sy
