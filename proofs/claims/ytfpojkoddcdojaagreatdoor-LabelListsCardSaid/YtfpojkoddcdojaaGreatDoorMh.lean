/- Joined by program (wip/dev/merge.py) out of: Ld Lk Lj Lo Lq. -/
import Derived.Test.YtfpojkoddcdojaaGreatDoorMf
import Derived.Laws.StructEq
/- Listings and entries (package lists): the data, their equality; better; Has; Same. -/
set_option linter.unusedVariables false
set_option linter.unusedSimpArgs false
namespace Go.Proofs.YtfpojkoddcdojaaGreatDoor
open Go Go.Proofs Sy
structure ListD where
  actor : ByteArray
  reason : ByteArray
  by_ : ByteArray
  until_ : Int
def ListD.cells (a : ListD) : List Value := [.string a.actor, .string a.reason, .string a.by_, .int .i64 a.until_]
def ListD.v (a : ListD) : Value := .agg a.cells.toArray
structure EntD where
  l : ListD
  at_ : Int
def EntD.cells (a : EntD) : List Value := [.string a.l.actor, .string a.l.reason, .string a.l.by_, .int .i64 a.l.until_, .int .i64 a.at_]
def EntD.v (a : EntD) : Value := .agg a.cells.toArray
def eqLD (a b : ListD) : Bool := seqB a.actor b.actor && (seqB a.reason b.reason && (seqB a.by_ b.by_ && decide (a.until_ = b.until_)))
def eqED (a b : EntD) : Bool := eqLD a.l b.l && decide (a.at_ = b.at_)
theorem eqLD_iff {a b : ListD} : eqLD a b = true ↔ a = b := by
  cases a; cases b
  simp only [eqLD, Bool.and_eq_true, seqB_iff, decide_eq_true_eq, ListD.mk.injEq]
theorem eqED_iff {a b : EntD} : eqED a b = true ↔ a = b := by
  cases a; cases b
  simp only [eqED, Bool.and_eq_true, eqLD_iff, decide_eq_true_eq, EntD.mk.injEq]
theorem run_partS (w : World) {cs : Array Value} {off : Nat} {v : Value} (h : cs[off]? = some v) : (part 9 cs off).run Tryz.prog w = .ok v w := by
  simp [part, isAgg, run_underlying Tryz.underlying9, h]
theorem run_partI (w : World) {cs : Array Value} {off : Nat} {v : Value} (h : cs[off]? = some v) : (part 3 cs off).run Tryz.prog w = .ok v w := by
  simp [part, isAgg, run_underlying Tryz.underlying3, h]
theorem eqS_run (w : World) (d : Nat) (a b : ByteArray) : (Op.equalIn (d + 1) 9 (.string a) (.string b)).run Tryz.prog w = .ok (seqB a b) w := run_equalIn_string w d _ a b Tryz.underlying9
theorem eqI_run (w : World) (d : Nat) (a b : Int) : (Op.equalIn (d + 1) 3 (.int .i64 a) (.int .i64 b)).run Tryz.prog w = .ok (decide (a = b)) w := by
  rw [run_equalIn_int w d _ .i64 .i64 a b Tryz.underlying3]
  rfl
section
variable {N : Nat} {av bor : List Nat} {w0 : World} {ops : Array Oper} {rest : List Oper} {k : St → Prop} {E : Env} {loc : List Res} {X : World → Prop} {x y : Operand} {t2 : TypeId}
variable {n : Nat} {ty : TypeId} {pos : String} {af : Array Edge} {g : Option (Nat × Bool)} {bb want : Bool} {st : St}
end
/-- An entry is better than another one for the same actor. -/
def betV (a b : EntD) : Bool := bif !decide (a.l.until_ = b.l.until_) then decide (b.l.until_ < a.l.until_) else bif !seqB a.l.by_ b.l.by_ then ltB a.l.by_ b.l.by_ else decide (b.at_ < a.at_)
end Go.Proofs.YtfpojkoddcdojaaGreatDoor

/- Sorted keys of the maps of package lists; Has, Same, few. -/
set_option linter.unusedVariables false
set_option linter.unusedSimpArgs false
namespace Go.Proofs.YtfpojkoddcdojaaGreatDoor
open Go Go.Proofs Sy Go.Shelf Go.Maps Go.Sort
instance : TyMap Tryz.prog 76 4 (keyD ByteArray) := ⟨by kernel_rfl⟩
/-! listings in slices -/
def ListD.zero : ListD := ⟨⟨#[]⟩, ⟨#[]⟩, ⟨#[]⟩, 0⟩
def Lists (w : World) (s : SlV) (l : List ListD) : Prop := RowsD w 4 s (l.map ListD.cells)
def Ents (w : World) (s : SlV) (l : List EntD) : Prop := RowsD w 5 s (l.map EntD.cells)
theorem Lists.len_ {w : World} {s : SlV} {l : List ListD} (h : Lists w s l) : s.n = l.length := by have := RowsD.len h; simpa using this
theorem Lists.know {s : SlV} {l : List ListD} : ∀ w, Lists w s l → s.n = l.length ∧ s.n ≤ maxLen ∧ (0 < l.length → s.p.isSome = true) := fun w h =>
  ⟨h.len_, Nat.le_trans (RowsD.cap h) (RowsD.max h), fun hl => (RowsD.row h 0 l[0].cells (by simp [List.getElem?_eq_getElem hl])).2.1⟩
theorem Lists.get {w : World} {s : SlV} {l : List ListD} (h : Lists w s l) {i : Nat} {x : ListD} (hx : l[i]? = some x) : x.cells.length = 4 ∧ s.p.isSome = true ∧ ∀ j u, x.cells[j]? = some u → CellAt w s.p (i * 4 + j) u :=
  RowsD.row h i x.cells (by simp [hx])
theorem Ents.know {s : SlV} {l : List EntD} : ∀ w, Ents w s l → s.n = l.length ∧ s.n ≤ maxLen ∧ (0 < l.length → s.p.isSome = true) := fun w h =>
  ⟨by have := RowsD.len h; simpa using this, Nat.le_trans (RowsD.cap h) (RowsD.max h), fun hl => (RowsD.row h 0 l[0].cells (by simp [List.getElem?_eq_getElem hl])).2.1⟩
theorem Ents.get {w : World} {s : SlV} {l : List EntD} (h : Ents w s l) {i : Nat} {x : EntD} (hx : l[i]? = some x) : x.cells.length = 5 ∧ s.p.isSome = true ∧ ∀ j u, x.cells[j]? = some u → CellAt w s.p (i * 5 + j) u :=
  RowsD.row h i x.cells (by simp [hx])
end Go.Proofs.YtfpojkoddcdojaaGreatDoor

/- lists.entries: the data and the contract. -/
set_option linter.unusedVariables false
set_option linter.unusedSimpArgs false
namespace Go.Proofs.YtfpojkoddcdojaaGreatDoor
open Go Go.Proofs Sy Go.Sort
def entA (k : ByteArray) (l : List ActD) (j : Nat) : EntD := ⟨⟨(l.getD j ActD.zero).target, (l.getD j ActD.zero).text, k, (l.getD j ActD.zero).n⟩, j⟩
def foundF (l : List ActD) : Nat → List Nat
  | 0 => []
  | i + 1 => bif decide ((l.getD i ActD.zero).kind = 23) then foundF l i ++ [i] else bif decide ((l.getD i ActD.zero).kind = 6) then (match idxV l (l.getD i ActD.zero).object with | some j => (foundF l i).erase j | none => foundF l i) else foundF l i
def idxP' (f : Nat → Value) (F : List Nat) : List (Int × Value) := F.map fun (j : Nat) => ((j : Int), f j)
theorem eqb_int (a b : Int) : KeyT.eqb a b = decide (a = b) := rfl
theorem mput_new (f : Nat → Value) (i : Nat) : ∀ F : List Nat, i ∉ F → mput (idxP' f F) (i : Int) (f i) = idxP' f (F ++ [i])
  | [], _ => rfl
  | j :: F, h => by
    have h1 : ¬ (i : Int) = (j : Int) := fun e => h (by rw [show i = j by omega]; exact List.mem_cons_self)
    have ih := mput_new f i F fun h2 => h (List.mem_cons_of_mem _ h2)
    simp only [idxP', List.map_cons, mput, eqb_int, decide_eq_false h1, cond_false, List.cons_append] at ih ⊢
    rw [ih]
theorem mdel_idx (f : Nat → Value) (i : Nat) : ∀ F : List Nat, mdel (idxP' f F) (i : Int) = idxP' f (F.erase i)
  | [] => rfl
  | j :: F => by
    have ih := mdel_idx f i F
    by_cases h : i = j
    · subst h
      simp only [idxP', List.map_cons, mdel, eqb_int, decide_true, cond_true, List.erase_cons_head]
    · have h1 : ¬ (i : Int) = (j : Int) := by omega
      rw [List.erase_cons_tail (by simpa using fun e : j = i => h e.symm)]
      simp only [idxP', List.map_cons, mdel, eqb_int, decide_eq_false h1, cond_false] at ih ⊢
      rw [ih]
theorem wf_nat {j : Nat} (h : j ≤ 1000000000) : (Lit.int .i64 (j : Int)).wf = true := by
  have h1 : IntKind.i64.min = -9223372036854775808 := by decide
  have h2 : IntKind.i64.max = 9223372036854775807 := by decide
  simp only [Lit.wf, Bool.and_eq_true, decide_eq_true_eq, h1, h2]
  omega
def entsV (l : List ChainD) (k : ByteArray) : List EntD := match findC l k with
  | some c => (foundF c.actsL c.actsL.length).map (entA k c.actsL)
  | none => []
theorem findC_mem {l : List ChainD} {k : ByteArray} {c : ChainD} (h : findC l k = some c) : c ∈ l := List.mem_of_find?_eq_some h
end Go.Proofs.YtfpojkoddcdojaaGreatDoor

/- lists.Of: the data and the contract. -/
set_option linter.unusedVariables false
set_option linter.unusedSimpArgs false
namespace Go.Proofs.YtfpojkoddcdojaaGreatDoor
open Go Go.Proofs Sy Go.Sort
def hasK (ks : List ByteArray) (k : ByteArray) : Bool := ks.any fun y => KeyT.eqb k y
theorem mget_set : ∀ (ks : List ByteArray) (k : ByteArray), mget (setM ks) k = bif hasK ks k then some (.bool true) else none
  | [], _ => rfl
  | a :: ks, k => by
    have ih := mget_set ks k
    simp only [setM, List.map_cons, mget, hasK, List.any_cons] at ih ⊢
    cases KeyT.eqb k a with
    | true => rfl
    | false => simpa using ih
def bestStep (now : Int) (b : List (ByteArray × EntD)) (e : EntD) : List (ByteArray × EntD) :=
  bif decide (e.l.until_ ≤ now) then b else
    match mget b e.l.actor with
    | none => mput b e.l.actor e
    | some old => bif (!eqED e old) && betV e old then mput b e.l.actor e else b
def bestF (l : List ChainD) (now : Int) (ks : List ByteArray) : Nat → List ByteArray × List (ByteArray × EntD)
  | 0 => ([], [])
  | i + 1 => bif hasK (bestF l now ks i).1 (ks.getD i .empty) then bestF l now ks i else (sput (bestF l now ks i).1 (ks.getD i .empty), (entsV l (ks.getD i .empty)).foldl (bestStep now) (bestF l now ks i).2)
def EntD.zero : EntD := ⟨ListD.zero, 0⟩
theorem foldl_take {α β : Type} (f : β → α → β) (b : β) (E : List α) {j : Nat} {e : α} (h : E[j]? = some e) : (E.take (j + 1)).foldl f b = f ((E.take j).foldl f b) e := by
  rw [List.take_add_one, h]
  simp
section
variable {N : Nat} {av bor : List Nat} {w0 : World} {ops : Array Oper} {rest : List Oper} {k : St → Prop} {E : Env} {loc : List Res} {X : World → Prop} {x : Operand} {st : St}
variable {n : Nat} {ty : TypeId} {pos : String} {af : Array Edge} {g : Option (Nat × Bool)} {bb want : Bool}
end
theorem mget_atK {β : Type} : ∀ {b : List (ByteArray × β)} {a : ByteArray}, a ∈ b.map (·.1) → ∃ e, mget b a = some e
  | [], a, h => by cases h
  | (k', v') :: r, a, h => by
    simp only [mget]
    cases hk : KeyT.eqb a k' with
    | true => exact ⟨v', rfl⟩
    | false =>
      simp only [List.map_cons, List.mem_cons] at h
      rcases h with rfl | h
      · rw [(KeyT.eqb_iff a a).2 rfl] at hk; cases hk
      · exact mget_atK h
structure BBnd (m : Nat) (b : List (ByteArray × EntD)) : Prop where
  len : b.length ≤ m
  size : ∀ p ∈ b, p.1.size ≤ maxLen
theorem BBnd.mono {m m' : Nat} {b : List (ByteArray × EntD)} (h : BBnd m b) (hm : m ≤ m') : BBnd m' b := ⟨Nat.le_trans h.len hm, h.size⟩
end Go.Proofs.YtfpojkoddcdojaaGreatDoor

/- Plain laws of the listings: what lists.Of answers is, for each actor, the best of the valid entries of the keepers. No program in sight. -/
set_option linter.unusedVariables false
set_option linter.unusedSimpArgs false
namespace Go.Proofs.YtfpojkoddcdojaaGreatDoor
open Go Go.Proofs Sy
theorem betV_iff {a b : EntD} : betV a b = true ↔ b.l.until_ < a.l.until_ ∨ (a.l.until_ = b.l.until_ ∧ (ltB a.l.by_ b.l.by_ = true ∨ (a.l.by_ = b.l.by_ ∧ b.at_ < a.at_))) := by
  unfold betV
  by_cases h : a.l.until_ = b.l.until_
  · rw [decide_eq_true h]
    simp only [Bool.not_true, cond_false]
    cases hs : seqB a.l.by_ b.l.by_ with
    | true =>
      have e := seqB_iff.1 hs
      simp only [Bool.not_true, cond_false, decide_eq_true_eq]
      constructor
      · intro h1; exact .inr ⟨h, .inr ⟨e, h1⟩⟩
      · rintro (h1 | ⟨_, h1 | h1⟩)
        · omega
        · rw [e, ltB_irrefl] at h1; cases h1
        · exact h1.2
    | false =>
      have e := seqB_ne.1 hs
      simp only [Bool.not_false, cond_true]
      constructor
      · intro h1; exact .inr ⟨h, .inl h1⟩
      · rintro (h1 | ⟨_, h1 | h1⟩)
        · omega
        · exact h1
        · exact absurd h1.1 e
  · rw [decide_eq_false h]
    simp only [Bool.not_false, cond_true, decide_eq_true_eq]
    constructor
    · intro h1; exact .inl h1
    · rintro (h1 | h1)
      · exact h1
      · exact absurd h1.1 h
theorem betV_trans {a b c : EntD} (h : betV a b = true) (k : betV b c = true) : betV a c = true := by
  rw [betV_iff] at *
  rcases h with h | ⟨h, h2⟩
  · rcases k with k | ⟨k, _⟩ <;> exact .inl (by omega)
  · rcases k with k | ⟨k, k2⟩
    · exact .inl (by omega)
    · refine .inr ⟨by omega, ?_⟩
      rcases h2 with h2 | ⟨h2, h3⟩
      · rcases k2 with k2 | ⟨k2, _⟩
        · exact .inl (ltB_trans h2 k2)
        · exact .inl (k2 ▸ h2)
      · rcases k2 with k2 | ⟨k2, k3⟩
        · exact .inl (h2 ▸ k2)
        · exact .inr ⟨h2.trans k2, by omega⟩
theorem betV_total {a b : EntD} (h : ¬ betV a b = true) (k : ¬ betV b a = true) : a.l.by_ = b.l.by_ ∧ a.at_ = b.at_ := by
  rw [betV_iff] at *
  simp only [not_or, not_and] at h k
  have hu : a.l.until_ = b.l.until_ := by omega
  have h2 := h.2 hu
  have k2 := k.2 hu.symm
  have e : a.l.by_ = b.l.by_ := ltB_total (by simpa using h2.1) (by simpa using k2.1)
  exact ⟨e, by have := h2.2 e; have := k2.2 e.symm; omega⟩
theorem entOf_spec {l : List ChainD} {k : ByteArray} {e : EntD} (h : e ∈ entsV l k) : ∃ c j, findC l k = some c ∧ j ∈ foundF c.actsL c.actsL.length ∧ e = entA k c.actsL j := by
  unfold entsV at h
  cases hf : findC l k with
  | none => rw [hf] at h; cases h
  | some c =>
    rw [hf] at h
    obtain ⟨j, hj, rfl⟩ := List.mem_map.1 h
    exact ⟨c, j, rfl, hj, rfl⟩
theorem ent_by {l : List ChainD} {k : ByteArray} {e : EntD} (h : e ∈ entsV l k) : e.l.by_ = k := by
  obtain ⟨c, j, _, _, rfl⟩ := entOf_spec h
  rfl
theorem ent_uniq {l : List ChainD} {k k' : ByteArray} {e e' : EntD} (h : e ∈ entsV l k) (h' : e' ∈ entsV l k') (hb : e.l.by_ = e'.l.by_) (ha : e.at_ = e'.at_) : e = e' := by
  have hk : k = k' := by rw [← ent_by h, ← ent_by h', hb]
  subst hk
  obtain ⟨c, j, hc, _, rfl⟩ := entOf_spec h
  obtain ⟨c', j', hc', _, rfl⟩ := entOf_spec h'
  rw [hc] at hc'
  cases hc'
  have : (j : Int) = (j' : Int) := ha
  rw [show j = j' by omega]
def Best (S : EntD → Prop) (a : ByteArray) (e : EntD) : Prop := S e ∧ e.l.actor = a ∧ ∀ e', S e' → e'.l.actor = a → e' = e ∨ betV e e' = true
theorem mget_mput {β : Type} : ∀ (b : List (ByteArray × β)) (k a : ByteArray) (v : β), mget (mput b k v) a = if a = k then some v else mget b a
  | [], k, a, v => by
    by_cases h : a = k
    · simp only [mput, mget, (KeyT.eqb_iff a k).2 h, cond_true, if_pos h]
    · have : KeyT.eqb a k = false := by rw [← Bool.not_eq_true, KeyT.eqb_iff]; exact h
      simp only [mput, mget, this, cond_false, if_neg h]
  | (k', v') :: r, k, a, v => by
    have ih := mget_mput r k a v
    simp only [mput]
    cases hk : KeyT.eqb k k' with
    | true =>
      have e := (KeyT.eqb_iff k k').1 hk
      subst e
      by_cases h : a = k
      · simp only [cond_true, mget, (KeyT.eqb_iff a k).2 h, if_pos h]
      · have : KeyT.eqb a k = false := by rw [← Bool.not_eq_true, KeyT.eqb_iff]; exact h
        simp only [cond_true, mget, this, cond_false, if_neg h]
    | false =>
      simp only [cond_false, mget]
      cases ha : KeyT.eqb a k' with
      | true =>
        have e := (KeyT.eqb_iff a k').1 ha
        subst e
        have hne : ¬ a = k := fun e => by rw [e, (KeyT.eqb_iff k k).2 rfl] at hk; cases hk
        simp only [cond_true, if_neg hne]
      | false => simp only [cond_false, ih]
theorem mem_mput {β : Type} : ∀ (b : List (ByteArray × β)) (k a : ByteArray) (v : β), a ∈ (mput b k v).map (·.1) ↔ a = k ∨ a ∈ b.map (·.1)
  | [], k, a, v => by simp [mput]
  | (k', v') :: r, k, a, v => by
    have ih := mem_mput r k a v
    simp only [mput]
    cases hk : KeyT.eqb k k' with
    | true =>
      have e := (KeyT.eqb_iff k k').1 hk
      subst e
      simp
    | false =>
      simp only [cond_false, List.map_cons, List.mem_cons, ih]
      constructor
      · rintro (h | h | h)
        · exact .inr (.inl h)
        · exact .inl h
        · exact .inr (.inr h)
      · rintro (h | h | h)
        · exact .inr (.inl h)
        · exact .inl h
        · exact .inr (.inr h)
theorem nodup_mput {β : Type} : ∀ (b : List (ByteArray × β)) (k : ByteArray) (v : β), (b.map (·.1)).Nodup → ((mput b k v).map (·.1)).Nodup
  | [], k, v, _ => by simp [mput]
  | (k', v') :: r, k, v, h => by
    simp only [List.map_cons, List.nodup_cons] at h
    have ih := nodup_mput r k v h.2
    simp only [mput]
    cases hk : KeyT.eqb k k' with
    | true =>
      have e := (KeyT.eqb_iff k k').1 hk
      subst e
      simp only [cond_true, List.map_cons, List.nodup_cons]
      exact h
    | false =>
      simp only [cond_false, List.map_cons, List.nodup_cons]
      refine ⟨fun hm => ?_, ih⟩
      rcases (mem_mput r k k' v).1 hm with e | e
      · rw [e, (KeyT.eqb_iff k k).2 rfl] at hk; cases hk
      · exact h.1 e
structure Inv (l : List ChainD) (S : EntD → Prop) (b : List (ByteArray × EntD)) : Prop where
  wf : ∀ e, S e → ∃ k, e ∈ entsV l k
  nodup : (b.map (·.1)).Nodup
  best : ∀ a e, mget b a = some e → Best S a e
  all : ∀ e, S e → ∃ e', mget b e.l.actor = some e'
theorem Inv.congr {l : List ChainD} {S S' : EntD → Prop} {b : List (ByteArray × EntD)} (h : Inv l S b) (hs : ∀ e, S e ↔ S' e) : Inv l S' b := by
  have : S = S' := funext fun e => propext (hs e)
  subst this
  exact h
theorem inv_step {l : List ChainD} {S : EntD → Prop} {b : List (ByteArray × EntD)} {now : Int} {e : EntD} {k : ByteArray} (h : Inv l S b) (he : e ∈ entsV l k) : Inv l (fun x => S x ∨ (x = e ∧ now < e.l.until_)) (bestStep now b e) := by
  unfold bestStep
  by_cases hu : e.l.until_ ≤ now
  · rw [decide_eq_true hu, cond_true]
    exact h.congr fun x => ⟨.inl, fun hx => hx.elim id fun hx => by omega⟩
  · rw [decide_eq_false hu, cond_false]
    have hu' : now < e.l.until_ := by omega
    have hS : (fun x => S x ∨ (x = e ∧ now < e.l.until_)) = fun x => S x ∨ x = e := funext fun x => propext ⟨fun hx => hx.imp id And.left, fun hx => hx.imp id fun hx => ⟨hx, hu'⟩⟩
    rw [hS]
    have hwf : ∀ x, S x ∨ x = e → ∃ k, x ∈ entsV l k := fun x hx => hx.elim (h.wf x) fun hx => ⟨k, hx ▸ he⟩
    have put : (∀ x, S x → x.l.actor = e.l.actor → x = e ∨ betV e x = true) → Inv l (fun x => S x ∨ x = e) (mput b e.l.actor e) := fun hb => by
      refine ⟨hwf, nodup_mput b _ _ h.nodup, fun a x hx => ?_, fun x hx => ?_⟩
      · rw [mget_mput] at hx
        by_cases ha : a = e.l.actor
        · rw [if_pos ha] at hx
          cases hx
          refine ⟨.inr rfl, ha.symm, fun e' h1 h2 => ?_⟩
          rcases h1 with h1 | h1
          · exact hb e' h1 (h2.trans ha)
          · exact .inl h1
        · rw [if_neg ha] at hx
          have h1 := h.best a x hx
          refine ⟨.inl h1.1, h1.2.1, fun e' h2 h3 => ?_⟩
          rcases h2 with h2 | h2
          · exact h1.2.2 e' h2 h3
          · subst h2; exact absurd h3.symm ha
      · rw [mget_mput]
        by_cases ha : x.l.actor = e.l.actor
        · rw [if_pos ha]; exact ⟨_, rfl⟩
        · rw [if_neg ha]
          rcases hx with hx | hx
          · exact h.all x hx
          · subst hx; exact absurd rfl ha
    cases ho : mget b e.l.actor with
    | none =>
      refine put fun x hx ha => ?_
      obtain ⟨e', h1⟩ := h.all x hx
      rw [ha, ho] at h1
      cases h1
    | some old =>
      have hbo := h.best _ _ ho
      simp only
      cases hc : ((!eqED e old) && betV e old) with
      | true =>
        have hb := (Bool.and_eq_true _ _).mp hc
        refine put fun x hx ha => ?_
        rcases hbo.2.2 x hx ha with h1 | h1
        · rw [h1]; exact .inr hb.2
        · exact .inr (betV_trans hb.2 h1)
      | false =>
        simp only [cond_false]
        have hoe : old = e ∨ betV old e = true := by
          by_cases h1 : betV old e = true
          · exact .inr h1
          · by_cases h2 : betV e old = true
            · rw [h2, Bool.and_true] at hc
              have : eqED e old = true := by simpa using hc
              exact .inl (eqED_iff.1 this).symm
            · obtain ⟨k', hk'⟩ := h.wf old hbo.1
              have h3 := betV_total h1 h2
              exact .inl (ent_uniq hk' he h3.1 h3.2)
        refine ⟨hwf, h.nodup, fun a x hx => ?_, fun x hx => ?_⟩
        · have h1 := h.best a x hx
          refine ⟨.inl h1.1, h1.2.1, fun e' h2 h3 => ?_⟩
          rcases h2 with h2 | h2
          · exact h1.2.2 e' h2 h3
          · subst h2
            rw [← h3, ho] at hx
            cases hx
            rcases hoe with h4 | h4
            · exact .inl h4.symm
            · exact .inr h4
        · rcases hx with hx | hx
          · exact h.all x hx
          · subst hx; exact ⟨old, ho⟩
theorem inv_fold {l : List ChainD} {now : Int} {k : ByteArray} : ∀ (E : List EntD) {S : EntD → Prop} {b : List (ByteArray × EntD)}, Inv l S b → (∀ e ∈ E, e ∈ entsV l k) → Inv l (fun x => S x ∨ (x ∈ E ∧ now < x.l.until_)) (E.foldl (bestStep now) b)
  | [], S, b, h, _ => h.congr fun x => ⟨.inl, fun hx => hx.elim id fun hx => by cases hx.1⟩
  | e :: E, S, b, h, he => by
    have h1 := inv_step (now := now) h (he e List.mem_cons_self)
    have h2 := inv_fold (now := now) E h1 fun x hx => he x (List.mem_cons_of_mem _ hx)
    refine h2.congr fun x => ?_
    simp only [List.mem_cons]
    constructor
    · rintro ((h | ⟨rfl, h⟩) | ⟨h, h'⟩)
      · exact .inl h
      · exact .inr ⟨.inl rfl, h⟩
      · exact .inr ⟨.inr h, h'⟩
    · rintro (h | ⟨rfl | h, h'⟩)
      · exact .inl (.inl h)
      · exact .inl (.inr ⟨rfl, h'⟩)
      · exact .inr ⟨h, h'⟩
def Cand (l : List ChainD) (ks : List ByteArray) (now : Int) (e : EntD) : Prop := (∃ k ∈ ks, e ∈ entsV l k) ∧ now < e.l.until_
theorem hasK_iff {ks : List ByteArray} {k : ByteArray} : hasK ks k = true ↔ k ∈ ks := by
  rw [hasK, List.any_eq_true]
  constructor
  · rintro ⟨y, hy, h⟩
    rw [(KeyT.eqb_iff k y).1 h]; exact hy
  · intro h
    exact ⟨k, h, (KeyT.eqb_iff k k).2 rfl⟩
theorem mem_sput {ks : List ByteArray} {k a : ByteArray} : a ∈ sput ks k ↔ a = k ∨ a ∈ ks := by
  induction ks with
  | nil => simp [sput]
  | cons y ks ih =>
    simp only [sput]
    cases hk : KeyT.eqb k y with
    | true => rw [(KeyT.eqb_iff k y).1 hk]; simp
    | false =>
      simp only [cond_false, List.mem_cons, ih]
      constructor
      · rintro (h | h | h)
        · exact .inr (.inl h)
        · exact .inl h
        · exact .inr (.inr h)
      · rintro (h | h | h)
        · exact .inr (.inl h)
        · exact .inl h
        · exact .inr (.inr h)
theorem inv_best (l : List ChainD) (now : Int) (ks : List ByteArray) : ∀ i, i ≤ ks.length → (∀ k, k ∈ (bestF l now ks i).1 ↔ k ∈ ks.take i) ∧ Inv l (Cand l (ks.take i) now) (bestF l now ks i).2
  | 0, _ => ⟨fun k => (by simp [bestF]), { wf := fun e h => (by obtain ⟨⟨k, hk, _⟩, _⟩ := h; simp at hk), nodup := (by simp [bestF]), best := fun a e h => (by cases h), all := fun e h => (by obtain ⟨⟨k, hk, _⟩, _⟩ := h; simp at hk) }⟩
  | i + 1, hi => by
    obtain ⟨ih1, ih2⟩ := inv_best l now ks i (by omega)
    have hx : ks.getD i .empty = ks[i] := by rw [List.getD_eq_getElem?_getD, List.getElem?_eq_getElem (by omega)]; rfl
    have ht : ks.take (i + 1) = ks.take i ++ [ks[i]] := by rw [List.take_add_one, List.getElem?_eq_getElem (by omega)]; rfl
    simp only [bestF, hx, ht]
    generalize ks[i] = k0 at *
    cases hh : hasK (bestF l now ks i).1 k0 with
    | true =>
      have hin : k0 ∈ ks.take i := (ih1 k0).1 (hasK_iff.1 hh)
      simp only [cond_true]
      refine ⟨fun k => ?_, ih2.congr fun e => ?_⟩
      · rw [ih1, List.mem_append, List.mem_singleton]
        exact ⟨.inl, fun h => h.elim id fun h => h ▸ hin⟩
      · unfold Cand
        simp only [List.mem_append, List.mem_singleton]
        exact ⟨fun ⟨⟨k, h1, h2⟩, h3⟩ => ⟨⟨k, .inl h1, h2⟩, h3⟩, fun ⟨⟨k, h1, h2⟩, h3⟩ => ⟨⟨k, h1.elim id fun h => h ▸ hin, h2⟩, h3⟩⟩
    | false =>
      simp only [cond_false]
      refine ⟨fun k => ?_, (inv_fold (now := now) (k := k0) (entsV l k0) ih2 fun e he => he).congr fun e => ?_⟩
      · rw [mem_sput, ih1, List.mem_append, List.mem_singleton]
        exact Or.comm
      · unfold Cand
        simp only [List.mem_append, List.mem_singleton]
        constructor
        · rintro (⟨⟨k, h1, h2⟩, h3⟩ | ⟨h2, h3⟩)
          · exact ⟨⟨k, .inl h1, h2⟩, h3⟩
          · exact ⟨⟨k0, .inr rfl, h2⟩, h3⟩
        · rintro ⟨⟨k, h1 | rfl, h2⟩, h3⟩
          · exact .inl ⟨⟨k, h1, h2⟩, h3⟩
          · exact .inr ⟨h2, h3⟩
theorem inv_of (l : List ChainD) (now : Int) (ks : List ByteArray) : Inv l (Cand l ks now) (bestF l now ks ks.length).2 := by
  have := (inv_best l now ks ks.length (Nat.le_refl _)).2
  rwa [List.take_length] at this
/-- What is listed: of each actor the best candidate. -/
def Lst (l : List ChainD) (ks : List ByteArray) (now : Int) (x : ListD) : Prop := ∃ e, Best (Cand l ks now) x.actor e ∧ e.l = x
/-- Somebody has a candidate: he is listed. -/
theorem listed {l : List ChainD} {ks : List ByteArray} {now : Int} {e : EntD} (h : Cand l ks now e) : ∃ x, Lst l ks now x ∧ x.actor = e.l.actor ∧ e.l.until_ ≤ x.until_ ∧ (x.until_ = e.l.until_ → ltB e.l.by_ x.by_ = false) := by
  have hI := inv_of l now ks
  obtain ⟨e', he'⟩ := hI.all e h
  have hb := hI.best _ e' he'
  refine ⟨e'.l, ⟨e', by rw [hb.2.1]; exact hb, rfl⟩, hb.2.1, ?_, fun hu => ?_⟩
  · rcases hb.2.2 e h rfl with h1 | h1
    · rw [h1]; exact Int.le_refl _
    · rw [betV_iff] at h1; omega
  · rcases hb.2.2 e h rfl with h1 | h1
    · rw [h1]; exact ltB_irrefl _
    · rw [betV_iff] at h1
      rcases h1 with h1 | ⟨_, h1 | h1⟩
      · omega
      · exact ltB_asymm h1
      · rw [h1.1]; exact ltB_irrefl _
end Go.Proofs.YtfpojkoddcdojaaGreatDoor
