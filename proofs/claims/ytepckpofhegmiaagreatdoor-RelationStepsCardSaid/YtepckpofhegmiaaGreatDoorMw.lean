/- One activity more: how the four sets of a chain's ties move. No program in sight. -/
import Derived.Test.YtepckpofhegmiaaGreatDoorRu
import Derived.Test.YtepckpofhegmiaaGreatDoorMf
set_option linter.unusedVariables false
set_option linter.unusedSimpArgs false
namespace Go.Proofs.YtepckpofhegmiaaGreatDoor
open Go Go.Proofs Sy
theorem sdel_sub {k : ByteArray} : ∀ {ks : List ByteArray}, (sdel ks k).Sublist ks
  | [] => List.Sublist.refl _
  | a :: ks => by
    rw [sdel]
    cases KeyT.eqb k a with
    | true => exact List.sublist_cons_self _ _
    | false => exact sdel_sub.cons_cons a
theorem nodup_sdel {k : ByteArray} {ks : List ByteArray} (h : ks.Nodup) : (sdel ks k).Nodup := h.sublist sdel_sub
theorem mem_sdel {k x : ByteArray} : ∀ {ks : List ByteArray}, ks.Nodup → (x ∈ sdel ks k ↔ x ≠ k ∧ x ∈ ks)
  | [], _ => by simp [sdel]
  | a :: ks, h => by
    rw [List.nodup_cons] at h
    have ih := mem_sdel (k := k) (x := x) h.2
    rw [sdel, eqbB]
    cases hk : seqB k a with
    | true =>
      obtain rfl := seqB_iff.1 hk
      simp only [cond_true, List.mem_cons]
      constructor
      · intro hx
        exact ⟨fun e => h.1 (e ▸ hx), .inr hx⟩
      · rintro ⟨h1, h2 | h2⟩
        · exact absurd h2 h1
        · exact h2
    | false =>
      have hne := seqB_ne.1 hk
      simp only [cond_false, List.mem_cons, ih]
      constructor
      · rintro (h1 | ⟨h1, h2⟩)
        · exact ⟨fun e => hne (e ▸ h1), .inl h1⟩
        · exact ⟨h1, .inr h2⟩
      · rintro ⟨h1, h2 | h2⟩
        · exact .inl h2
        · exact .inr ⟨h1, h2⟩
structure TNd (t : TieS) : Prop where
  f : t.f.Nodup
  a : t.a.Nodup
  b : t.b.Nodup
  m : t.m.Nodup
/-- What 'moves' asks of two lists. -/
structure MovOk (x y : List ByteArray) (id : ByteArray) (inn ch : Bool) : Prop where
  asc : Asc y
  same : ch = false → x = y
  xin : ch = true → ∀ z ∈ x, seqB z id = false → hasS y z = true
  yin : ch = true → ∀ z ∈ y, seqB z id = false → hasS x z = true
  has : ch = true → hasS y id = inn
theorem mov_same {ks : List ByteArray} (h : ks.Nodup) (id : ByteArray) (inn : Bool) : MovOk (sortB ks) (sortB ks) id inn false :=
  ⟨asc_sortB h, fun _ => rfl, fun e => (by cases e), fun e => (by cases e), fun e => (by cases e)⟩
theorem mov_put {ks : List ByteArray} (h : ks.Nodup) (id : ByteArray) : MovOk (sortB ks) (sortB (sput ks id)) id true true :=
  ⟨asc_sortB (nodup_sput h), fun e => (by cases e), fun _ z hz _ => hasS_iff.2 (mem_sortB.2 (mem_sput.2 (.inr (mem_sortB.1 hz)))),
    fun _ z hz hn => hasS_iff.2 (mem_sortB.2 ((mem_sput.1 (mem_sortB.1 hz)).resolve_left (seqB_ne.1 hn))), fun _ => hasS_iff.2 (mem_sortB.2 (mem_sput.2 (.inl rfl)))⟩
theorem mov_del {ks : List ByteArray} (h : ks.Nodup) (id : ByteArray) : MovOk (sortB ks) (sortB (sdel ks id)) id false true :=
  ⟨asc_sortB (nodup_sdel h), fun e => (by cases e), fun _ z hz hn => hasS_iff.2 (mem_sortB.2 ((mem_sdel h).2 ⟨seqB_ne.1 hn, mem_sortB.1 hz⟩)),
    fun _ z hz hn => hasS_iff.2 (mem_sortB.2 ((mem_sdel h).1 (mem_sortB.1 hz)).2), fun _ => by
      cases hh : hasS (sortB (sdel ks id)) id with
      | false => rfl
      | true => exact absurd rfl ((mem_sdel h).1 (mem_sortB.1 (hasS_iff.1 hh))).1⟩
def foB (k : Int) (u : Bool) : Bool := bif decide (k = 7) then true else bif decide (k = 10) then !u else false
def acB (k : Int) (u : Bool) : Bool := bif decide (k = 8) then true else bif decide (k = 9) && !u then true else decide (k = 10) && !u
/-- The four moves. -/
structure Mov4 (t t' : TieS) (id : ByteArray) (k : Int) (u : Bool) : Prop where
  f : MovOk (sortB t.f) (sortB t'.f) id (decide (k = 7) && !u) (foB k u)
  a : MovOk (sortB t.a) (sortB t'.a) id (decide (k = 8) && !u) (acB k u)
  b : MovOk (sortB t.b) (sortB t'.b) id (decide (k = 10) && !u) (decide (k = 10))
  m : MovOk (sortB t.m) (sortB t'.m) id (decide (k = 11) && !u) (decide (k = 11))
theorem mov_none {t : TieS} (h : TNd t) (id : ByteArray) {k : Int} (u : Bool) (h7 : k ≠ 7) (h8 : k ≠ 8) (h9 : u = true ∨ k ≠ 9) (h10 : k ≠ 10) (h11 : k ≠ 11) : Mov4 t t id k u := by
  have e1 : foB k u = false := by rw [foB, decide_eq_false h7, decide_eq_false h10]; rfl
  have e2 : acB k u = false := by
    rw [acB, decide_eq_false h8, decide_eq_false h10]
    rcases h9 with rfl | h9
    · simp
    · rw [decide_eq_false h9]; rfl
  refine ⟨?_, ?_, ?_, ?_⟩
  · rw [e1]; exact mov_same h.f _ _
  · rw [e2]; exact mov_same h.a _ _
  · rw [decide_eq_false h10]; exact mov_same h.b _ _
  · rw [decide_eq_false h11]; exact mov_same h.m _ _
theorem undoT_mov {t : TieS} (h : TNd t) (y : ActD) : Mov4 t (undoT t y) y.target y.kind true ∧ TNd (undoT t y) := by
  by_cases h7 : y.kind = 7
  · have e : undoT t y = { t with f := sdel t.f y.target } := by rw [undoT, h7]; rfl
    rw [e, h7]
    exact ⟨⟨mov_del h.f _, mov_same h.a _ _, mov_same h.b _ _, mov_same h.m _ _⟩, ⟨nodup_sdel h.f, h.a, h.b, h.m⟩⟩
  by_cases h8 : y.kind = 8
  · have e : undoT t y = { t with a := sdel t.a y.target } := by rw [undoT, h8]; rfl
    rw [e, h8]
    exact ⟨⟨mov_same h.f _ _, mov_del h.a _, mov_same h.b _ _, mov_same h.m _ _⟩, ⟨h.f, nodup_sdel h.a, h.b, h.m⟩⟩
  by_cases h10 : y.kind = 10
  · have e : undoT t y = { t with b := sdel t.b y.target } := by rw [undoT, h10]; rfl
    rw [e, h10]
    exact ⟨⟨mov_same h.f _ _, mov_same h.a _ _, mov_del h.b _, mov_same h.m _ _⟩, ⟨h.f, h.a, nodup_sdel h.b, h.m⟩⟩
  by_cases h11 : y.kind = 11
  · have e : undoT t y = { t with m := sdel t.m y.target } := by rw [undoT, h11]; rfl
    rw [e, h11]
    exact ⟨⟨mov_same h.f _ _, mov_same h.a _ _, mov_same h.b _ _, mov_del h.m _⟩, ⟨h.f, h.a, h.b, nodup_sdel h.m⟩⟩
  have e : undoT t y = t := by rw [undoT, decide_eq_false h7, decide_eq_false h8, decide_eq_false h10, decide_eq_false h11]; rfl
  rw [e]
  exact ⟨mov_none h _ _ h7 h8 (.inl rfl) h10 h11, h⟩
theorem stepT_mov {l : List ActD} {i : Nat} {t : TieS} (h : TNd t) {x : ActD} (h6 : x.kind ≠ 6) : Mov4 t (stepT l i t x) x.target x.kind false ∧ TNd (stepT l i t x) := by
  by_cases h7 : x.kind = 7
  · have e : stepT l i t x = { t with f := sput t.f x.target } := by rw [stepT, h7]; rfl
    rw [e, h7]
    exact ⟨⟨mov_put h.f _, mov_same h.a _ _, mov_same h.b _ _, mov_same h.m _ _⟩, ⟨nodup_sput h.f, h.a, h.b, h.m⟩⟩
  by_cases h8 : x.kind = 8
  · have e : stepT l i t x = { t with a := sput t.a x.target } := by rw [stepT, h8]; rfl
    rw [e, h8]
    exact ⟨⟨mov_same h.f _ _, mov_put h.a _, mov_same h.b _ _, mov_same h.m _ _⟩, ⟨h.f, nodup_sput h.a, h.b, h.m⟩⟩
  by_cases h9 : x.kind = 9
  · have e : stepT l i t x = { t with a := sdel t.a x.target } := by rw [stepT, h9]; rfl
    rw [e, h9]
    exact ⟨⟨mov_same h.f _ _, mov_del h.a _, mov_same h.b _ _, mov_same h.m _ _⟩, ⟨h.f, nodup_sdel h.a, h.b, h.m⟩⟩
  by_cases h10 : x.kind = 10
  · have e : stepT l i t x = { t with b := sput t.b x.target, f := sdel t.f x.target, a := sdel t.a x.target } := by rw [stepT, h10]; rfl
    rw [e, h10]
    exact ⟨⟨mov_del h.f _, mov_del h.a _, mov_put h.b _, mov_same h.m _ _⟩, ⟨nodup_sdel h.f, nodup_sdel h.a, nodup_sput h.b, h.m⟩⟩
  by_cases h11 : x.kind = 11
  · have e : stepT l i t x = { t with m := sput t.m x.target } := by rw [stepT, h11]; rfl
    rw [e, h11]
    exact ⟨⟨mov_same h.f _ _, mov_same h.a _ _, mov_same h.b _ _, mov_put h.m _⟩, ⟨h.f, h.a, h.b, nodup_sput h.m⟩⟩
  have e : stepT l i t x = t := by rw [stepT, decide_eq_false h7, decide_eq_false h8, decide_eq_false h9, decide_eq_false h10, decide_eq_false h11, decide_eq_false h6]; rfl
  rw [e]
  exact ⟨mov_none h _ _ h7 h8 (.inr h9) h10 h11, h⟩
theorem stepT_six {l : List ActD} {i : Nat} {t : TieS} {x : ActD} (h6 : x.kind = 6) : stepT l i t x = match idxV l x.object with | some j => bif decide ((j : Int) < (i : Int)) then undoT t (l.getD j ActD.zero) else t | none => t := by
  rw [stepT, h6]
  rfl
theorem stepT_nd {l : List ActD} {i : Nat} {t : TieS} (h : TNd t) (x : ActD) : TNd (stepT l i t x) := by
  by_cases h6 : x.kind = 6
  · rw [stepT_six h6]
    cases idxV l x.object with
    | none => exact h
    | some j =>
      show TNd (bif decide ((j : Int) < (i : Int)) then undoT t (l.getD j ActD.zero) else t)
      cases decide ((j : Int) < (i : Int)) with
      | true => exact (undoT_mov h _).2
      | false => exact h
  · exact (stepT_mov h h6).2
theorem tieF_nd (l : List ActD) : ∀ n, TNd (tieF l n)
  | 0 => ⟨List.nodup_nil, List.nodup_nil, List.nodup_nil, List.nodup_nil⟩
  | n + 1 => stepT_nd (tieF_nd l n) _
/-- The four moves with their flags counted out. -/
structure MM (t t' : TieS) (id : ByteArray) (f1 f2 a1 a2 b1 b2 m1 m2 : Bool) : Prop where
  f : MovOk (sortB t.f) (sortB t'.f) id f1 f2
  a : MovOk (sortB t.a) (sortB t'.a) id a1 a2
  b : MovOk (sortB t.b) (sortB t'.b) id b1 b2
  m : MovOk (sortB t.m) (sortB t'.m) id m1 m2
def Others (k : Int) : Prop := k ≠ 7 ∧ k ≠ 8 ∧ k ≠ 9 ∧ k ≠ 10 ∧ k ≠ 11
theorem kinds (k : Int) : k = 7 ∨ k = 8 ∨ k = 9 ∨ k = 10 ∨ k = 11 ∨ Others k := by
  unfold Others
  omega
theorem mov_others {t t' : TieS} {id : ByteArray} {k : Int} {u : Bool} (h : Mov4 t t' id k u) (hk : Others k) : MM t t' id false false false false false false false false := by
  obtain ⟨h7, h8, h9, h10, h11⟩ := hk
  obtain ⟨hf, ha, hb, hm⟩ := h
  rw [foB, decide_eq_false h7, decide_eq_false h10] at hf
  rw [acB, decide_eq_false h8, decide_eq_false h9, decide_eq_false h10] at ha
  rw [decide_eq_false h10] at hb
  rw [decide_eq_false h11] at hm
  exact ⟨hf, ha, hb, hm⟩
theorem mov_do {t t' : TieS} {id : ByteArray} {k : Int} (h : Mov4 t t' id k false) : (k = 7 ∧ MM t t' id true true false false false false false false) ∨ (k = 8 ∧ MM t t' id false false true true false false false false) ∨ (k = 9 ∧ MM t t' id false false false true false false false false) ∨
    (k = 10 ∧ MM t t' id false true false true true true false false) ∨ (k = 11 ∧ MM t t' id false false false false false false true true) ∨ (Others k ∧ MM t t' id false false false false false false false false) := by
  rcases kinds k with rfl | rfl | rfl | rfl | rfl | hk
  · exact .inl ⟨rfl, h.f, h.a, h.b, h.m⟩
  · exact .inr (.inl ⟨rfl, h.f, h.a, h.b, h.m⟩)
  · exact .inr (.inr (.inl ⟨rfl, h.f, h.a, h.b, h.m⟩))
  · exact .inr (.inr (.inr (.inl ⟨rfl, h.f, h.a, h.b, h.m⟩)))
  · exact .inr (.inr (.inr (.inr (.inl ⟨rfl, h.f, h.a, h.b, h.m⟩))))
  · exact .inr (.inr (.inr (.inr (.inr ⟨hk, mov_others h hk⟩))))
theorem mov_undo {t t' : TieS} {id : ByteArray} {k : Int} (h : Mov4 t t' id k true) : (k = 7 ∧ MM t t' id false true false false false false false false) ∨ (k = 8 ∧ MM t t' id false false false true false false false false) ∨ (k = 9 ∧ MM t t' id false false false false false false false false) ∨
    (k = 10 ∧ MM t t' id false false false false false true false false) ∨ (k = 11 ∧ MM t t' id false false false false false false false true) ∨ (Others k ∧ MM t t' id false false false false false false false false) := by
  rcases kinds k with rfl | rfl | rfl | rfl | rfl | hk
  · exact .inl ⟨rfl, h.f, h.a, h.b, h.m⟩
  · exact .inr (.inl ⟨rfl, h.f, h.a, h.b, h.m⟩)
  · exact .inr (.inr (.inl ⟨rfl, h.f, h.a, h.b, h.m⟩))
  · exact .inr (.inr (.inr (.inl ⟨rfl, h.f, h.a, h.b, h.m⟩)))
  · exact .inr (.inr (.inr (.inr (.inl ⟨rfl, h.f, h.a, h.b, h.m⟩))))
  · exact .inr (.inr (.inr (.inr (.inr ⟨hk, mov_others h hk⟩))))
theorem mov_still {t : TieS} (h : TNd t) (id : ByteArray) : MM t t id false false false false false false false false := ⟨mov_same h.f _ _, mov_same h.a _ _, mov_same h.b _ _, mov_same h.m _ _⟩
end Go.Proofs.YtepckpofhegmiaaGreatDoor
