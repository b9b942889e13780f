/- Plain laws of the listings: what the laws ListsGrows, ListsExpires and ListsAll ask. No program in sight. -/
import Derived.Test.YtfpojkoddcdojaaGreatDoorMh
set_option linter.unusedVariables false
set_option linter.unusedSimpArgs false
namespace Go.Proofs.YtfpojkoddcdojaaGreatDoor
open Go Go.Proofs Sy
instance : BEq ListD := ⟨eqLD⟩
instance : LawfulBEq ListD where
  eq_of_beq h := eqLD_iff.1 h
  rfl := eqLD_iff.2 rfl
theorem Lst.after {l : List ChainD} {ks : List ByteArray} {now : Int} {x : ListD} (h : Lst l ks now x) : now < x.until_ := by
  obtain ⟨e, he, rfl⟩ := h
  exact he.1.2
theorem exp_some {l : List ChainD} {ks : List ByteArray} {now later : Int} {x : ListD} (h : Lst l ks now x) (hn : now ≤ later) (hu : later < x.until_) : Lst l ks later x := by
  obtain ⟨e, he, rfl⟩ := h
  refine ⟨e, ⟨⟨he.1.1, hu⟩, rfl, fun e' h1 h2 => he.2.2 e' ⟨h1.1, ?_⟩ h2⟩, rfl⟩
  have := h1.2
  omega
theorem exp_none {l : List ChainD} {ks : List ByteArray} {now later : Int} {x : ListD} (h : Lst l ks now x) (hn : now ≤ later) (hu : ¬ later < x.until_) : hasL (ofV l ks later) x.actor = none := by
  rw [hasL_none_iff]
  rintro y ⟨e', he', rfl⟩ ha
  obtain ⟨e, he, rfl⟩ := h
  have h1 := he'.1.2
  rcases he.2.2 e' ⟨he'.1.1, by omega⟩ ha with h2 | h2
  · rw [h2] at h1; exact hu h1
  · rw [betV_iff] at h2; omega
theorem exp_len (l : List ChainD) (ks : List ByteArray) {now later : Int} (hn : now ≤ later) : (ofV l ks later).length ≤ (ofV l ks now).length := by
  refine len_sub (nodup_ofV _ _ _) fun y hy => ?_
  have hy := mem_ofV.1 hy
  obtain ⟨e', he', rfl⟩ := hy
  have h1 := he'.1.2
  obtain ⟨x, hx, ha, hu, _⟩ := listed (l := l) (ks := ks) (now := now) (e := e') ⟨he'.1.1, by omega⟩
  have hx2 := exp_some hx hn (by omega)
  have : x = e'.l := hx2.uniq ⟨e', he', rfl⟩ ha
  rw [← this]
  exact mem_ofV.2 hx
/-! one keeper alone -/
theorem one_some {l : List ChainD} {ks : List ByteArray} {now : Int} {x : ListD} (h : Lst l ks now x) : Lst l [x.by_] now x ∧ x.by_ ∈ ks := by
  obtain ⟨e, he, rfl⟩ := h
  obtain ⟨⟨k, hk, hek⟩, hn⟩ := he.1
  have hb := ent_by hek
  rw [hb]
  refine ⟨⟨e, ⟨⟨⟨k, List.mem_singleton.2 rfl, hek⟩, hn⟩, rfl, fun e' h1 h2 => he.2.2 e' ?_ h2⟩, rfl⟩, hk⟩
  obtain ⟨⟨k', hk', h3⟩, h4⟩ := h1
  rw [List.mem_singleton.1 hk'] at h3
  exact ⟨⟨k, hk, h3⟩, h4⟩
theorem one_all {l : List ChainD} {ks : List ByteArray} {now : Int} {k : ByteArray} (hk : k ∈ ks) {y : ListD} (h : Lst l [k] now y) : ∃ x, hasL (ofV l ks now) y.actor = some x ∧ y.until_ ≤ x.until_ ∧ (x.until_ = y.until_ → ltB k x.by_ = false) := by
  obtain ⟨e, he, rfl⟩ := h
  obtain ⟨⟨k', hk', hek⟩, hn⟩ := he.1
  rw [List.mem_singleton.1 hk'] at hek
  obtain ⟨x, hx, ha, hu, hb⟩ := listed (l := l) (ks := ks) (now := now) (e := e) ⟨⟨k, hk, hek⟩, hn⟩
  refine ⟨x, hasL_iff.2 ⟨hx, ha⟩, hu, fun h => ?_⟩
  rw [← ent_by hek]
  exact hb h
def manyF (l : List ChainD) (ks : List ByteArray) (now : Int) (i : Nat) : List ListD := (ks.take i).flatMap fun k => ofV l [k] now
theorem many_ge (l : List ChainD) (ks : List ByteArray) (now : Int) : (ofV l ks now).length ≤ (manyF l ks now ks.length).length := by
  refine len_sub (nodup_ofV _ _ _) fun x hx => ?_
  have h := one_some (mem_ofV.1 hx)
  unfold manyF
  rw [List.take_length, List.mem_flatMap]
  exact ⟨x.by_, h.2, mem_ofV.2 h.1⟩
/-! every entry, every listing -/
theorem foundF_stays {l : List ActD} {i : Nat} (hk : (l.getD i ActD.zero).kind = 23) : ∀ m, i < m → (∀ n, i < n → n < m → (l.getD n ActD.zero).kind ≠ 6) → i ∈ foundF l m
  | 0, h, _ => by omega
  | m + 1, h, hn => by
    simp only [foundF]
    by_cases e : i = m
    · subst e
      rw [decide_eq_true hk, cond_true]
      simp
    · have ih := foundF_stays hk m (by omega) fun n h1 h2 => hn n h1 (by omega)
      rw [decide_eq_false (hn m (by omega) (by omega))]
      simp only [cond_false]
      cases decide ((l.getD m ActD.zero).kind = 23) with
      | true => simp only [cond_true, List.mem_append]; exact .inl ih
      | false => exact ih
theorem foundF_kind {l : List ActD} : ∀ m j, j ∈ foundF l m → (l.getD j ActD.zero).kind = 23
  | 0, j, h => by cases h
  | m + 1, j, h => by
    simp only [foundF] at h
    cases h1 : decide ((l.getD m ActD.zero).kind = 23) with
    | true =>
      rw [h1] at h
      rcases List.mem_append.1 h with h | h
      · exact foundF_kind m j h
      · rw [List.mem_singleton.1 h]; exact of_decide_eq_true h1
    | false =>
      rw [h1] at h
      simp only [cond_false] at h
      cases h2 : decide ((l.getD m ActD.zero).kind = 6) with
      | true =>
        rw [h2] at h
        simp only [cond_true] at h
        split at h
        · exact foundF_kind m j (List.mem_of_mem_erase h)
        · exact foundF_kind m j h
      | false => rw [h2] at h; exact foundF_kind m j h
theorem all_some {l : List ChainD} {ks : List ByteArray} {now : Int} {k : ByteArray} {c : ChainD} {i : Nat} {x : ActD} (hk : k ∈ ks) (hc : findC l k = some c) (hx : c.actsL[i]? = some x) (h23 : x.kind = 23) (hn : now < x.n)
    (hu : ∀ m, i < m → m < c.actsL.length → (c.actsL.getD m ActD.zero).kind ≠ 6) : ∃ y, hasL (ofV l ks now) x.target = some y ∧ x.n ≤ y.until_ := by
  have hi := (List.getElem?_eq_some_iff.1 hx).1
  have hg : c.actsL.getD i ActD.zero = x := by rw [List.getD_eq_getElem?_getD, hx]; rfl
  have hm := foundF_stays (l := c.actsL) (i := i) (by rw [hg]; exact h23) c.actsL.length hi hu
  have he : entA k c.actsL i ∈ entsV l k := by unfold entsV; rw [hc]; exact List.mem_map.2 ⟨i, hm, rfl⟩
  have h1 : (entA k c.actsL i).l.until_ = x.n := by show (c.actsL.getD i ActD.zero).n = x.n; rw [hg]
  have h2 : (entA k c.actsL i).l.actor = x.target := by show (c.actsL.getD i ActD.zero).target = x.target; rw [hg]
  obtain ⟨y, hy, ha, hu2, _⟩ := listed (l := l) (ks := ks) (now := now) (e := entA k c.actsL i) ⟨⟨k, hk, he⟩, by rw [h1]; exact hn⟩
  exact ⟨y, hasL_iff.2 ⟨hy, by rw [ha, h2]⟩, by rw [← h1]; exact hu2⟩
/-- The listing of an activity of a keeper. -/
def lstA (k : ByteArray) (x : ActD) : ListD := ⟨x.target, x.text, k, x.n⟩
theorem all_from {l : List ChainD} {ks : List ByteArray} {now : Int} {y : ListD} (h : Lst l ks now y) : ∃ k ∈ ks, ∃ (c : ChainD) (i : Nat) (x : ActD), findC l k = some c ∧ c.actsL[i]? = some x ∧ x.kind = 23 ∧ now < x.n ∧ y = lstA k x := by
  obtain ⟨e, he, rfl⟩ := h
  obtain ⟨⟨k, hk, hek⟩, hn⟩ := he.1
  obtain ⟨c, j, hc, hj, rfl⟩ := entOf_spec hek
  have hjl := foundF_lt _ _ _ hj
  have hkd := foundF_kind _ _ hj
  have hx : c.actsL[j]? = some (c.actsL.getD j ActD.zero) := by rw [List.getD_eq_getElem?_getD, List.getElem?_eq_getElem hjl]; rfl
  exact ⟨k, hk, c, j, _, hc, hx, hkd, hn, rfl⟩
end Go.Proofs.YtfpojkoddcdojaaGreatDoor
