/- Rows of the call's own that grow by append; bytes and strings. No program in sight. -/
import Derived.Test.YtfpojkoddcdojaaGreatDoorDr
set_option linter.unusedVariables false
set_option linter.unusedSimpArgs false
namespace Go.Proofs.YtfpojkoddcdojaaGreatDoor.Sy
open Go Go.RowKit

/-- The slice v owns its row: the first n elements are xs; it starts at the row's head; no cell of it is frozen. -/
def ORow (w : World) (e size : Nat) (v : Value) (n : Nat) (xs : List Value) : Prop :=
  xs.length = n * size ∧ ((v = .slice none 0 0 ∧ n = 0) ∨
    ∃ g cap cur fz, v = .slice (some ⟨g, 0, none⟩) n cap ∧ w.heap[g]? = some (.cells cur e fz) ∧ n ≤ cap ∧ cap ≤ maxLen ∧ cur.size = cap * size ∧ cur.toList.take (n * size) = xs ∧ (fz.1 = fz.2 ∨ cur.size ≤ fz.1))
def orow (e size : Nat) (v : Value) (n : Nat) (xs : List Value) : Res := ⟨v.ownBlock.toList, fun w => ORow w e size v n xs⟩
theorem orow_holds {e size n : Nat} {v : Value} {xs : List Value} {w : World} (h : ORow w e size v n xs) : Holds (orow e size v n xs) w := by
  intro w2 h2
  refine ⟨h.1, ?_⟩
  rcases h.2 with h0 | ⟨g, cap, cur, fz, hv, hg, hr⟩
  · exact .inl h0
  · exact .inr ⟨g, cap, cur, fz, hv, (h2 g (by rw [hv]; simp [orow, Value.ownBlock])).trans hg, hr⟩

section
variable {P : Program} {N : Nat} {av bor : List Nat} {w0 : World} {ops : Array Oper} {rest : List Oper} {k : St → Prop} {E : Env} {loc loc' : List Res} {X : World → Prop}
variable {d : Option Tmp} {ty : TypeId} {pos : String} {af : Array Edge} {g : Option (Nat × Bool)} {bb want : Bool} {K : Exit → St → Prop}

/-- A resource is handed in, another one comes back. -/
theorem Gam.swap {w w' : World} {r r' : Res} (G : Gam av bor w0 loc X w) (hA : At r r' loc loc') (ho : w'.os = w.os) (ht : w'.tape = w.tape) (hp : w'.output = w.output) (hz : w.heap.size ≤ w'.heap.size)
    (hb : ∀ i, i < w.heap.size → i ∉ r.fp → w'.heap[i]? = w.heap[i]?) (hn : r'.fp.Nodup) (hf : ∀ i ∈ r'.fp, i < w'.heap.size ∧ (i ∈ r.fp ∨ w.heap.size ≤ i)) (hr : Holds r' w') : Gam av bor w0 loc' X w' := by
  obtain ⟨f, h1, h2⟩ := hA.perm
  have G1 : Gam av bor w0 ([r] ++ f) X w := G.perm h1
  have G2 : Gam (av ++ fps f) (fps [r]) w [r'] (fun _ => True) w' := by
    have hs := G1.start
    have e1 : fps [r] = r.fp := by simp [fps]
    have e2 : fps [r'] = r'.fp := by simp [fps]
    refine ⟨⟨ho, ht, hp, hz, fun i hi hne => hb i hi (by rwa [e1] at hne)⟩, hs.avb, by rw [e2]; exact hn, ?_, ?_, Keeps.all fun _ => trivial⟩
    · intro i hi
      rw [e2] at hi
      have := hf i hi
      rw [e1]
      exact ⟨this.1, this.2.symm⟩
    · intro x hx
      rw [List.mem_singleton] at hx
      subst hx
      exact hr
  exact (((G1.frame G2).imp fun _ h => h.1 : Gam av bor w0 ([r'] ++ f) X w')).perm h2.symm

theorem run_storeCells_m (P : Program) (g o : Nat) (t : TypeId) (fz : Nat × Nat) : ∀ (vs : List Value) (i : Nat) (cur : Array Value) (w : World), w.heap[g]? = some (.cells cur t fz) → (fz.1 = fz.2 ∨ cur.size ≤ fz.1) → o + i + vs.length ≤ cur.size → (∀ v ∈ vs, v.oneCell' = true) →
    (storeCells ⟨g, o, none⟩ vs i).run P w = .ok () (w.setRow g (cur.toList.take (o + i) ++ vs ++ cur.toList.drop (o + i + vs.length)).toArray)
  | [], i, cur, w, hg, _, _, _ => by
    simp only [storeCells, List.append_nil, List.length_nil, Nat.add_zero, List.take_append_drop, Array.toArray_toList]
    rw [setRow_self w g cur t fz hg]
    rfl
  | v :: rest, i, cur, w, hg, hz, hl, h1 => by
    have hi : o + i < cur.size := by simp at hl; omega
    have hadd : (⟨g, o, none⟩ : Addr).add i = ⟨g, o + i, none⟩ := by unfold Addr.add; split <;> simp_all
    have hcell : w.cell? ⟨g, o + i, none⟩ = some cur[o + i] := by simp [World.cell?, hg, hi]
    have hfro : w.frozen? ⟨g, o + i, none⟩ = false := by
      obtain ⟨lo, hi'⟩ := fz
      simp only [World.frozen?, hg]
      simp only at hz
      have : ¬ (lo ≤ o + i ∧ o + i < hi') := by omega
      simpa using this
    have hst : (store ((⟨g, o, none⟩ : Addr).add i) v).run P w = .ok () (w.setRow g (cur.setIfInBounds (o + i) v)) := by
      rw [hadd, run_store P w _ v _ (h1 v (by simp)), hcell]
      simp [hfro, setCell_eq_setRow w g (o + i) cur t fz v hg]
    have ih := run_storeCells_m P g o t fz rest (i + 1) (cur.setIfInBounds (o + i) v) (w.setRow g (cur.setIfInBounds (o + i) v)) (Go.setRow_heap w g cur _ t _ hg) (by simpa using hz) (by simp at hl ⊢; omega) (fun x hx => h1 x (by simp [hx]))
    simp only [storeCells, Sem.run_bind, hst, Result.andThen_ok, ih, setRow_setRow]
    congr 3
    have e := list_seg_step cur.toList (o + i) v rest (by simp at hl ⊢; omega)
    simpa [Array.toList_setIfInBounds, Nat.add_assoc] using e

def strOrSl (P : Program) (u : TypeId) : Bool :=
  match P.underlying u with
  | some .string | some (.slice _) => true
  | _ => false
class TySrc (P : Program) (u : TypeId) : Prop where out : strOrSl P u = true
instance {u : TypeId} [h : TyStr P u] : TySrc P u := ⟨by simp [strOrSl, h.out]⟩
instance {u e n b : TypeId} [h : TySl P u e n b] : TySrc P u := ⟨by simp [strOrSl, (slOf_spec h.out).1]⟩
theorem strOrSl_spec {u : TypeId} (h : strOrSl P u = true) : P.underlying u = some .string ∨ ∃ e, P.underlying u = some (.slice e) := by
  unfold strOrSl at h
  split at h
  · exact .inl (by assumption)
  · exact .inr ⟨_, by assumption⟩
  · cases h
/-- What is appended: m elements, their cells. -/
structure Src (P : Program) (w : World) (size : Nat) (x : Value) (m : Nat) (news : List Value) : Prop where
  len : ∀ w', (Builtin.lenOf x).run P w' = .ok m w'
  cells : ∀ w' : World, w'.heap = w.heap → (Builtin.firstCells size m x).run P w' = .ok news.toArray w'
  size : news.length = m * size
  one : ∀ u ∈ news, u.oneCell' = true

theorem run_newRow' (e : TypeId) (cs : Array Value) (w : World) : (newRow e cs).run P w = .ok ⟨w.heap.size, 0, none⟩ (w.alloc (.cells cs e)) := rfl
theorem run_append_o {w : World} {t u ty e size bytes : Nat} {z : Value} (hs : slOf P t = some (e, size, bytes)) (hz : zeroOf P e = some z) (hzs : z.cells.size = size) (hsz : 0 < size) (hu : strOrSl P u = true)
    {v x : Value} {n m : Nat} {xs news : List Value} (ho : ORow w e size v n xs) (hx : Src P w size x m news) (h63 : n + m ≤ maxLen) (hby : (n + m) * bytes ≤ 140737488355328) :
    ∃ v' w', (Builtin.append_ #[t, u] ty #[v, x]).run P w = .ok v' w' ∧ ORow w' e size v' (n + m) (xs ++ news) ∧ w'.os = w.os ∧ w'.tape = w.tape ∧ w'.output = w.output ∧ w.heap.size ≤ w'.heap.size ∧
      (∀ i, i < w.heap.size → i ∉ v.ownBlock.toList → w'.heap[i]? = w.heap[i]?) ∧ (∀ i ∈ v'.ownBlock.toList, i < w'.heap.size ∧ (i ∈ v.ownBlock.toList ∨ w.heap.size ≤ i)) := by
  obtain ⟨ht, inf, hi, hi1, hi2⟩ := slOf_spec hs
  have hzr : (zeroValue e).run P w.drew = .ok z w.drew := run_zero hz _
  have hsm : n + m ≤ 9223372036854775807 := by simp only [maxLen] at h63; omega
  have hlen : (xs ++ news).length = (n + m) * size := by rw [List.length_append, ho.1, hx.size, Nat.add_mul]
  have h63' : ¬ (9223372036854775807 < (n : Int) + (m : Int)) := by omega
  -- where there is no room
  have grow : ∀ (A : Option Addr) (cap : Nat), v = .slice A n cap → cap < n + m → (∀ w' : World, w'.heap = w.heap → (Builtin.firstCells size n v).run P w' = .ok xs.toArray w') →
      (Builtin.append_ #[t, u] ty #[v, x]).run P w = .ok (.slice (some ⟨w.heap.size, 0, none⟩) (n + m) (grownCap w (n + m) cap e))
        (w.drew.alloc (.cells (xs.toArray ++ news.toArray ++ Builtin.zeroCells z.cells (grownCap w (n + m) cap e - (n + m))) e)) := by
    intro A cap hv hlt hf
    subst hv
    have h1 := hf w.drew rfl
    have h2 := hx.cells w.drew rfl
    have hnc : ¬ (n + m ≤ cap) := by omega
    have hfit : ¬ (281474976710656 < Builtin.nextslicecap (n + m) cap * bytes) := by have := growslice_fits hlt hby; omega
    have hsw : (sizeOf e).run P w = .ok size w := by simp [sizeOf, typeInfo, hi, hi1]
    rcases strOrSl_spec hu with hD | ⟨e', hD⟩ <;> simp [Builtin.append_, run_underlying ht, run_underlying hD, hsw, typeInfo, hi, hi1, hi2, hx.len, hnc, hfit, h1, h2, hzr, grownCap, Question.forced, h63', run_newRow'] <;> (rw [← Array.append_assoc]; simp)
  have fin : ∀ (A : Option Addr) (cap : Nat), v = .slice A n cap → cap < n + m → (∀ w' : World, w'.heap = w.heap → (Builtin.firstCells size n v).run P w' = .ok xs.toArray w') → _ :=
    fun A cap hv hlt hf => by
      have hge := grownCap_ge w (n + m) cap e
      have hcm : grownCap w (n + m) cap e ≤ maxLen := grownCap_le_maxLen w (n + m) cap e h63
      exact (⟨_, _, grow A cap hv hlt hf, ⟨hlen, .inr ⟨w.heap.size, _, _, (0, 0), rfl, heap_alloc_new w.drew _, hge, hcm, by
          simp only [Array.size_append, List.size_toArray, size_zeroCells, hzs, ho.1, hx.size, ← Nat.add_mul]
          congr 1
          omega, by
          simp only [Array.toList_append, List.append_assoc]
          rw [← List.append_assoc, ← hlen]
          exact List.take_left, .inl rfl⟩⟩, rfl, rfl, rfl, by simp, fun i hi _ => Below.heap_alloc w.drew _ i hi, fun i hi => by
          simp only [Value.ownBlock, Option.toList_some, List.mem_singleton] at hi
          subst hi
          exact ⟨by simp, .inr (Nat.le_refl _)⟩⟩ :
        ∃ v' w', (Builtin.append_ #[t, u] ty #[v, x]).run P w = .ok v' w' ∧ ORow w' e size v' (n + m) (xs ++ news) ∧ w'.os = w.os ∧ w'.tape = w.tape ∧ w'.output = w.output ∧ w.heap.size ≤ w'.heap.size ∧
          (∀ i, i < w.heap.size → i ∉ v.ownBlock.toList → w'.heap[i]? = w.heap[i]?) ∧ (∀ i ∈ v'.ownBlock.toList, i < w'.heap.size ∧ (i ∈ v.ownBlock.toList ∨ w.heap.size ≤ i)))
  have hsw : (sizeOf e).run P w = .ok size w := by simp [sizeOf, typeInfo, hi, hi1]
  rcases ho.2 with ⟨rfl, rfl⟩ | ⟨g, cap, cur, fz, rfl, hg, hnc, hcm, hcs, htake, hfz⟩
  · have hxs : xs = [] := List.eq_nil_of_length_eq_zero (by simpa using ho.1)
    subst hxs
    by_cases hm : m = 0
    · subst hm
      have hn : news = [] := List.eq_nil_of_length_eq_zero (by simpa using hx.size)
      subst hn
      refine ⟨.slice none 0 0, w, ?_, ⟨by simp, .inl ⟨rfl, rfl⟩⟩, rfl, rfl, rfl, Nat.le_refl _, fun _ _ _ => rfl, fun i hi => by simp [Value.ownBlock] at hi⟩
      have h2 := hx.cells w rfl
      rcases strOrSl_spec hu with hD | ⟨e', hD⟩ <;> simp [Builtin.append_, run_underlying ht, run_underlying hD, hsw, hx.len, h2]
    · refine fin none 0 rfl (by omega) fun w' _ => ?_
      simp [Builtin.firstCells]
  · have hglt : g < w.heap.size := (Array.getElem?_eq_some_iff.1 hg).1
    by_cases hroom : n + m ≤ cap
    · have h2 := hx.cells w rfl
      have hfit : n * size + news.length ≤ cur.size := by
        rw [hcs, hx.size, ← Nat.add_mul]
        exact Nat.mul_le_mul_right _ hroom
      have hst := run_storeCells_m P g (n * size) e fz news 0 cur w hg hfz (by simpa using hfit) hx.one
      simp only [Nat.add_zero] at hst
      have hadd : (⟨g, 0, none⟩ : Addr).add (n * size) = ⟨g, n * size, none⟩ := by unfold Addr.add; split <;> simp_all
      refine ⟨.slice (some ⟨g, 0, none⟩) (n + m) cap, w.setRow g (cur.toList.take (n * size) ++ news ++ cur.toList.drop (n * size + news.length)).toArray, ?_, ⟨hlen, .inr ⟨g, cap, _, fz, rfl, Go.setRow_heap w g cur _ e fz hg, hroom, hcm, ?_, ?_, ?_⟩⟩, rfl, rfl, rfl, by rw [setRow_size]; exact Nat.le_refl _, ?_, ?_⟩
      · rcases strOrSl_spec hu with hD | ⟨e', hD⟩ <;> simp [Builtin.append_, run_underlying ht, run_underlying hD, hsw, hx.len, h2, hroom, hadd, hst]
      · simp only [List.size_toArray, List.length_append, List.length_take, List.length_drop, Array.length_toList]
        omega
      · rw [htake, ← hlen]
        exact List.take_left
      · simp only [List.size_toArray, List.length_append, List.length_take, List.length_drop, Array.length_toList]
        omega
      · intro i _ hi
        exact setRow_heap _ _ _ _ (fun e => hi (by simp [Value.ownBlock, e]))
      · intro i hi
        simp only [Value.ownBlock, Option.toList_some, List.mem_singleton] at hi
        subst hi
        exact ⟨by rw [setRow_size]; exact hglt, .inl (by simp [Value.ownBlock])⟩
    · refine fin (some ⟨g, 0, none⟩) cap rfl (by omega) fun w' hw' => ?_
      have hl := run_loadCells_list (P := P) w' ⟨g, 0, none⟩ xs (fun j u hj => by
        have hadd : (⟨g, 0, none⟩ : Addr).add j = ⟨g, j, none⟩ := by unfold Addr.add; split <;> simp_all
        rw [hadd, cell_of_row w' g j cur e fz (by rw [hw']; exact hg)]
        rw [← htake, List.getElem?_take] at hj
        split at hj
        · simpa using hj
        · cases hj)
      rw [ho.1] at hl
      simp [Builtin.firstCells, hl]

/-- 'append(s, x...)', s a row of the call's own. -/
theorem sw_append {n : Nat} {s x : Operand} {t u e size bytes : Nat} [hs : TySl P t e size bytes] {z : Value} [hz : TyZero P e z] {v vx : Value} {m q : Nat} {xs news : List Value} {L : Value → List Res}
    [hu : TySrc P u] (hzs : z.cells.size = size := by rfl) (hsz : Nat.blt 0 size = true := by rfl)
    (hv : ev E s = some v := by rfl) (hx : ev E x = some vx := by rfl) (hA : ∀ v', At (orow e size v m xs) (orow e size v' (m + q) (xs ++ news)) loc (L v')) (hsrc : ∀ w, Gam av bor w0 loc X w → Src P w size vx q news)
    (h63 : (m + q) * bytes ≤ 140737488355328) (h1 : m + q ≤ maxLen) (hg : gdB ops E g = some (bb, want) := by rfl) (hb : bb = want := by (first | with_reducible rfl | with_reducible assumption | with_reducible exact Bool.not_false | with_reducible exact Bool.not_true)) (hd : Nat.blt n N = true := by rfl)
    (h : ∀ A c, Sw P N av bor w0 ops rest ⟨(n, .slice A (m + q) c) :: E, L (.slice A (m + q) c), X⟩ k) : Sw P N av bor w0 ops (⟨some n, .call ⟨.builtin .append, #[s, x], #[t, u]⟩, ty, pos, af, g⟩ :: rest) ⟨E, loc, X⟩ k := Sw.mk fun a w ok => by
  have hd' : inB N (some n) = true := by have h1 : n < N := Nat.le_of_ble_eq_true hd; simpa [inB] using h1
  have ho : ORow w e size v m xs := (ok.gam.here _ (hA v).mem).now
  obtain ⟨v', w', hr, ho', k1, k2, k3, k4, k5, k6⟩ := run_append_o (P := P) (ty := ty) hs.out hz.out hzs (Nat.le_of_ble_eq_true hsz) hu.out ho (hsrc w ok.gam) h1 h63
  have hv' : ∃ A c, v' = .slice A (m + q) c := by
    rcases ho'.2 with ⟨rfl, h0⟩ | ⟨g', cap, _, _, rfl, _⟩
    · exact ⟨none, 0, by rw [h0]⟩
    · exact ⟨_, _, rfl⟩
  obtain ⟨A, c, rfl⟩ := hv'
  simp only [wpList]
  rw [wanted_of ok (o := ⟨some n, .call ⟨.builtin .append, #[s, x], #[t, u]⟩, ty, pos, af, g⟩) hg]
  subst hb
  simp only [beq_self_eq_true, if_true]
  left
  unfold Oper.wp
  have hr' : (execOp a.eval ⟨some n, .call ⟨.builtin .append, #[s, x], #[t, u]⟩, ty, pos, af, g⟩).run P w = .ok (.value (.slice A (m + q) c)) w' := by
    simp only [execOp, resolve, invoke, builtin, Sem.run_bind, Sem.run_pure, Result.andThen_ok, List.map_toArray, List.map_cons, List.map_nil, ok.eval (st := ⟨E, loc, X⟩) hv, ok.eval (st := ⟨E, loc, X⟩) hx, hr]
  rw [hr']
  have hn : (orow e size (.slice A (m + q) c) (m + q) (xs ++ news)).fp.Nodup := by cases A <;> simp [orow, Value.ownBlock]
  have ok' : Ok N av bor w0 ⟨E, L (.slice A (m + q) c), X⟩ a w' := ⟨ok.defers, ok.size, ok.env, ok.gam.swap (hA _) k1 k2 k3 k4 k5 hn k6 (orow_holds ho')⟩
  exact (h A c).run _ _ (put_eq (some n) _ ▸ ok'.put hd' _)

/-- A nil slice is an empty row of the call's own. -/
theorem Gam.nilRow {w : World} (G : Gam av bor w0 loc X w) (e size : Nat) : Gam av bor w0 (orow e size (.slice none 0 0) 0 [] :: loc) X w := by
  have e1 : fps (orow e size (.slice none 0 0) 0 [] :: loc) = fps loc := by simp [fps, orow, Value.ownBlock]
  refine ⟨G.fr, G.avb, by rw [e1]; exact G.nodup, by rw [e1]; exact G.own, fun r hr => ?_, by rw [e1]; exact G.keep⟩
  rcases List.mem_cons.1 hr with rfl | hr
  · exact orow_holds ⟨by simp, .inl ⟨rfl, rfl⟩⟩
  · exact G.here r hr
theorem sw_nilRow (e size : Nat) (h : Sw P N av bor w0 ops rest ⟨E, orow e size (.slice none 0 0) 0 [] :: loc, X⟩ k) : Sw P N av bor w0 ops rest ⟨E, loc, X⟩ k := Sw.mk fun a w ok => h.run a w ⟨ok.defers, ok.size, ok.env, ok.gam.nilRow e size⟩
theorem cw_nilRow {c : Code} (e size : Nat) (h : Cw P N av bor w0 c ⟨E, orow e size (.slice none 0 0) 0 [] :: loc, X⟩ K) : Cw P N av bor w0 c ⟨E, loc, X⟩ K := Cw.mk fun a w ok => h.run a w ⟨ok.defers, ok.size, ok.env, ok.gam.nilRow e size⟩

/-! ### Sources -/
theorem src_string {w : World} {s : ByteArray} (hs : s.size ≤ 9223372036854775807) : Src P w 1 (.string s) s.size (s.data.toList.map fun b => .int .u8 b.toNat) := by
  refine ⟨fun w' => by simp [Builtin.lenOf], fun w' _ => ?_, by simp, fun u hu => ?_⟩
  · have e : s.extract 0 s.size = s := by simp
    simp only [Builtin.firstCells, e, Sem.run_pure]
    congr 1
    apply Array.ext'
    simp
  · simp only [List.mem_map] at hu
    obtain ⟨b, _, rfl⟩ := hu
    rfl
theorem src_cel {w : World} {b T n size : Nat} {cs : List Value} (G : Gam av bor w0 loc X w) (hm : cel b T cs ∈ loc) (hl : cs.length = n * size) (h1 : cs.all (·.oneCell') = true) (c : Nat) : Src P w size (.slice (some ⟨b, 0, none⟩) n c) n cs := by
  have hw : w.heap[b]? = some (.cells cs.toArray T (0, 0)) := (G.here _ hm).now
  refine ⟨fun w' => by simp [Builtin.lenOf], fun w' e => ?_, hl, by simpa using h1⟩
  have := run_loadCells_list (P := P) w' ⟨b, 0, none⟩ cs (fun j v hv => by
    have hadd : (⟨b, 0, none⟩ : Addr).add j = ⟨b, j, none⟩ := by unfold Addr.add; split <;> simp_all
    rw [hadd, cell_of_row w' b j _ _ _ (by rw [e]; exact hw)]
    simpa using hv)
  rw [hl] at this
  simp [Builtin.firstCells, this]
/-- A slice that is data. -/
theorem src_rows {w : World} {size : Nat} {s : SlV} {xs : List (List Value)} (h : RowsD w size s xs) (h1 : ∀ cs ∈ xs, cs.all (·.oneCell') = true) : Src P w size s.v s.n xs.flatten := by
  have hlen : xs.flatten.length = s.n * size := by
    rw [List.length_flatten, h.len]
    have : ∀ x ∈ xs.map List.length, x = size := by
      intro x hx
      obtain ⟨cs, hcs, rfl⟩ := List.mem_map.1 hx
      obtain ⟨i, hi⟩ := List.mem_iff_getElem?.1 hcs
      exact (h.row i cs hi).1
    rw [List.eq_replicate_of_mem this]
    simp
  refine ⟨fun w' => by simp [Builtin.lenOf, SlV.v], fun w' e => ?_, hlen, fun u hu => ?_⟩
  · obtain ⟨p, n, c⟩ := s
    cases p with
    | none =>
      have : xs = [] := by
        cases xs with
        | nil => rfl
        | cons cs r => have := (h.row 0 cs rfl).2.1; simp at this
      subst this
      simp [Builtin.firstCells, SlV.v]
    | some a =>
      have := run_loadCells_list (P := P) w' a xs.flatten (fun j v hv => by
        have key : ∀ (l : List (List Value)) (i0 : Nat), (∀ i cs, l[i]? = some cs → cs.length = size ∧ ∀ j u, cs[j]? = some u → CellAt w (some a) ((i0 + i) * size + j) u) → ∀ j v, l.flatten[j]? = some v → w.cell? (a.add (i0 * size + j)) = some v := by
          intro l
          induction l with
          | nil => intro _ _ j v hv; simp at hv
          | cons cs r ih =>
            intro i0 hl j v hv
            have h0 := hl 0 cs rfl
            rw [List.flatten_cons] at hv
            rcases Nat.lt_or_ge j cs.length with hj | hj
            · rw [List.getElem?_append_left hj] at hv
              have := (h0.2 j v hv).2 a rfl
              simpa using this
            · rw [List.getElem?_append_right hj] at hv
              have := ih (i0 + 1) (fun i cs' hi => by
                have := hl (i + 1) cs' (by simpa using hi)
                rw [show i0 + 1 + i = i0 + (i + 1) from by omega]
                exact this) (j - cs.length) v hv
              rw [h0.1] at this hj
              rw [show i0 * size + j = (i0 + 1) * size + (j - size) from by rw [Nat.add_mul]; omega]
              exact this
        have := key xs 0 (fun i cs hi => ⟨(h.row i cs hi).1, fun j u hj => by simpa using (h.row i cs hi).2.2 j u hj⟩) j v hv
        have hc : w'.cell? (a.add j) = w.cell? (a.add j) := by simp [World.cell?, e]
        rw [hc]
        simpa using this)
      rw [hlen] at this
      simp [Builtin.firstCells, SlV.v, this]
  · simp only [List.mem_flatten] at hu
    obtain ⟨cs, hcs, hu⟩ := hu
    have := h1 cs hcs
    simp only [List.all_eq_true] at this
    exact this u hu

/-! ### Bytes and strings -/
def ofInts (ns : List Int) : ByteArray := ns.foldl (fun r n => r.push (UInt8.ofNat n.toNat)) ByteArray.empty
def u8s (ns : List Int) : List Value := ns.map (Value.int .u8)
def bytesI (s : ByteArray) : List Int := s.data.toList.map fun b => (b.toNat : Int)
theorem u8s_append (a b : List Int) : u8s (a ++ b) = u8s a ++ u8s b := by simp [u8s]
theorem src_str {w : World} {s : ByteArray} (hs : s.size ≤ 9223372036854775807) : Src P w 1 (.string s) s.size (u8s (bytesI s)) := by
  have := src_string (P := P) (w := w) hs
  simpa [u8s, bytesI, List.map_map, Function.comp_def] using this
theorem y_b2s {st : St} {x : Operand} {t t2 e b' : TypeId} [hs : TySl P t e 1 b'] [he : TyInt P e .u8] [h2 : TyStr P t2] {v : Value} {n : Nat} {ns : List Int} (hx : ev st.env x = some v) (hm : orow e 1 v n (u8s ns) ∈ st.loc) :
    Sy.Yields P N av bor w0 st (.convert t t2 x) ty (.string (ofInts ns)) := Sy.Yields.mk fun A w ok d pos af g => by
  have ho : ORow w e 1 v n (u8s ns) := (ok.gam.here _ hm).now
  have hl : (u8s ns).length = n := by have := ho.1; omega
  rcases ho.2 with ⟨rfl, rfl⟩ | ⟨g, cap, cur, fz, rfl, hg, hnc, hcm, hcs, htake, hfz⟩
  · have : ns = [] := by simpa [u8s] using hl
    subst this
    have := run_convert_bytes_string (P := P) w t t2 e none 0 0 (slOf_spec hs.out).1 he.out h2.out
    simp [execOp, ok.eval hx, this, Conv.bytesToString, ofInts]
  · have hlc := run_loadCells_list (P := P) w ⟨g, 0, none⟩ (u8s ns) (fun j u hj => by
      have hadd : (⟨g, 0, none⟩ : Addr).add j = ⟨g, j, none⟩ := by unfold Addr.add; split <;> simp_all
      rw [hadd, cell_of_row w g j cur e fz hg]
      rw [← htake, List.getElem?_take] at hj
      split at hj
      · simpa using hj
      · cases hj)
    rw [hl] at hlc
    have h3 := run_bytesToString (P := P) w ⟨g, 0, none⟩ n cap ns hlc
    have h4 := run_convert_bytes_string (P := P) w t t2 e (some ⟨g, 0, none⟩) n cap (slOf_spec hs.out).1 he.out h2.out
    rw [h3] at h4
    simp [execOp, ok.eval hx, h4, ofInts]
theorem sy_b2s {nn : Nat} {x : Operand} {t t2 e b' : TypeId} [hs : TySl P t e 1 b'] [he : TyInt P e .u8] [h2 : TyStr P t2] {v : Value} {n : Nat} {ns : List Int} (hx : ev E x = some v := by rfl) (hm : orow e 1 v n (u8s ns) ∈ loc := by (repeat (first | exact List.mem_cons_self | apply List.mem_cons_of_mem)))
    (hg : gdB ops E g = some (bb, want) := by rfl) (hb : bb = want := by (first | with_reducible rfl | with_reducible assumption | with_reducible exact Bool.not_false | with_reducible exact Bool.not_true)) (hd : Nat.blt nn N = true := by rfl) (h : Sw P N av bor w0 ops rest ⟨(nn, .string (ofInts ns)) :: E, loc, X⟩ k) : Sw P N av bor w0 ops (⟨some nn, .convert t t2 x, ty, pos, af, g⟩ :: rest) ⟨E, loc, X⟩ k :=
  sw_yield (y_b2s hx hm) hg hb hd h
theorem freeze_new (w : World) (C : Array Value) (e : TypeId) : (w.alloc (.cells C e)).freeze ⟨w.heap.size, C.size, none⟩ 1 = w.alloc (.cells C e (C.size, C.size + 1)) := by
  simp only [World.freeze, World.alloc]
  rw [if_neg (by omega)]
  congr 1
  apply Array.ext_getElem?
  intro i
  rw [Array.getElem?_modify]
  by_cases h : w.heap.size = i
  · subst h
    simp
  · have h' : ¬ i = w.heap.size := fun e => h e.symm
    simp [h, h', Array.getElem?_push]
theorem run_s2b {w : World} {e : TypeId} {s : ByteArray} : (Conv.stringToBytes e s).run P w = .ok (.slice (some ⟨w.heap.size, 0, none⟩) s.size (grownCap w s.size 0 e))
    (w.drew.alloc (.cells ((s.data.map fun b => Value.int .u8 b.toNat) ++ Array.replicate (grownCap w s.size 0 e - s.size) (.int .u8 0)) e
      ((((s.data.map fun b => Value.int .u8 b.toNat) ++ Array.replicate (grownCap w s.size 0 e - s.size) (.int .u8 0)) : Array Value).size, (((s.data.map fun b => Value.int .u8 b.toNat) ++ Array.replicate (grownCap w s.size 0 e - s.size) (.int .u8 0)) : Array Value).size + 1))) := by
  have h1 : (choose (.appendCap s.size 0 e)).run P w = .ok (grownCap w s.size 0 e) w.drew := rfl
  unfold Conv.stringToBytes
  simp only [Sem.run_bind, h1, Result.andThen_ok, run_newRow']
  generalize ((s.data.map fun b => Value.int .u8 b.toNat) ++ Array.replicate (grownCap w s.size 0 e - s.size) (.int .u8 0) : Array Value) = C
  have h2 : (markStringish ⟨w.drew.heap.size, 0, none⟩).run P (w.drew.alloc (.cells C e)) = .ok () (w.drew.alloc (.cells C e (C.size, C.size + 1))) := by
    have hs : (w.drew.alloc (.cells C e)).shape? w.heap.size = some (e, C.size) := by
      have := heap_alloc_new w.drew (.cells C e)
      unfold World.shape?
      rw [show w.heap.size = w.drew.heap.size from rfl, this]
    have := freeze_new w.drew C e
    simp [markStringish, hs]
    exact this
  rw [h2]
  simp
theorem sw_s2b {n : Nat} {x : Operand} {t t2 e b' : TypeId} [hs : TySl P t2 e 1 b'] [he : TyInt P e .u8] [h2 : TyStr P t] {s : ByteArray} (hx : ev E x = some (.string s) := by rfl) (hsz : s.size ≤ 4611686018427387904 := by omega) (hg : gdB ops E g = some (bb, want) := by rfl) (hb : bb = want := by (first | with_reducible rfl | with_reducible assumption | with_reducible exact Bool.not_false | with_reducible exact Bool.not_true)) (hd : Nat.blt n N = true := by rfl)
    (h : ∀ A c, Sw P N av bor w0 ops rest ⟨(n, .slice A s.size c) :: E, orow e 1 (.slice A s.size c) s.size (u8s (bytesI s)) :: loc, X⟩ k) : Sw P N av bor w0 ops (⟨some n, .convert t t2 x, ty, pos, af, g⟩ :: rest) ⟨E, loc, X⟩ k := Sw.mk fun a w ok => by
  have hd' : inB N (some n) = true := by have h1 : n < N := Nat.le_of_ble_eq_true hd; simpa [inB] using h1
  have hge : s.size ≤ grownCap w s.size 0 e := grownCap_ge w s.size 0 e
  have hcm : grownCap w s.size 0 e ≤ maxLen := grownCap_le_maxLen w s.size 0 e (by simp only [maxLen]; omega)
  have hr0 := run_s2b (P := P) (w := w) (e := e) (s := s)
  generalize grownCap w s.size 0 e = c at hge hcm hr0
  generalize hC : ((s.data.map fun b => Value.int .u8 b.toNat) ++ Array.replicate (c - s.size) (.int .u8 0) : Array Value) = C at hr0
  have hCs : C.size = c := by rw [← hC]; simp; omega
  have hCt : C.toList.take s.size = u8s (bytesI s) := by
    rw [← hC]
    simp only [Array.toList_append, Array.toList_map]
    rw [List.take_append_of_le_length (by simp)]
    rw [List.take_of_length_le (by simp)]
    simp [u8s, bytesI]
  simp only [wpList]
  rw [wanted_of ok (o := ⟨some n, .convert t t2 x, ty, pos, af, g⟩) hg]
  subst hb
  simp only [beq_self_eq_true, if_true]
  left
  unfold Oper.wp
  have hr : (execOp a.eval ⟨some n, .convert t t2 x, ty, pos, af, g⟩).run P w = .ok (.value (.slice (some ⟨w.heap.size, 0, none⟩) s.size c)) (w.drew.alloc (.cells C e (C.size, C.size + 1))) := by
    simp [execOp, ok.eval (st := ⟨E, loc, X⟩) hx, convert, run_underlying h2.out, run_underlying (slOf_spec hs.out).1, run_underlying he.out, hr0]
  rw [hr]
  have G1 := (ok.gam.drew).new (.cells C e (C.size, C.size + 1)) (fun w2 => ORow w2 e 1 (.slice (some ⟨w.heap.size, 0, none⟩) s.size c) s.size (u8s (bytesI s))) (fun w2 h => ⟨by simp [u8s, bytesI], .inr ⟨w.heap.size, c, C, _, rfl, h, hge, hcm, by omega, by simpa using hCt, .inr (Nat.le_refl _)⟩⟩)
  have ok' : Ok N av bor w0 ⟨E, orow e 1 (.slice (some ⟨w.heap.size, 0, none⟩) s.size c) s.size (u8s (bytesI s)) :: loc, X⟩ a (w.drew.alloc (.cells C e (C.size, C.size + 1))) := ⟨ok.defers, ok.size, ok.env, G1⟩
  exact (h _ _).run _ _ (put_eq (some n) _ ▸ ok'.put hd' _)
end
end Go.Proofs.YtfpojkoddcdojaaGreatDoor.Sy
