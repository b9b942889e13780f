/- A small calculus for walks over the kit's 'Code.wp': states say what some slots hold, which blocks the call owns, and a predicate on the rest of the memory. No program in sight. -/
import Derived.WalkKit
import Derived.WalkLawsBesides
import Derived.OrdersHeld
set_option linter.unusedVariables false
namespace Go.Proofs.YtfpojkoddcdojaaGreatDoor.Sy
open Go Go.RowKit

abbrev Env := List (Nat × Value)
def look : Env → Nat → Option Value
  | [], _ => none
  | (k, v) :: r, n => bif Nat.beq n k then some v else look r n

theorem beq_no {m n : Nat} (h : ¬ m = n) : Nat.beq m n = false := by
  cases e : Nat.beq m n with
  | false => rfl
  | true => exact absurd (Nat.eq_of_beq_eq_true e) h

/-- What the call owns: a footprint (block numbers) and what is said of them. -/
structure Res where
  fp : List Nat
  F : World → Prop

structure St where
  env : Env
  loc : List Res
  ext : World → Prop

def fps (l : List Res) : List Nat := l.flatMap Res.fp
theorem fps_nil : fps [] = [] := rfl
theorem fps_cons (r : Res) (l : List Res) : fps (r :: l) = r.fp ++ fps l := rfl
theorem fps_append (l m : List Res) : fps (l ++ m) = fps l ++ fps m := by simp [fps]

/-- It holds by virtue of its footprint. -/
def Holds (r : Res) (w : World) : Prop := ∀ w' : World, (∀ k ∈ r.fp, w'.heap[k]? = w.heap[k]?) → r.F w'
/-- It holds by virtue of blocks that are there and not among 'no'. -/
def Keeps (no : List Nat) (F : World → Prop) (w : World) : Prop :=
  ∃ used : Nat → Prop, (∀ k, used k → k < w.heap.size ∧ k ∉ no) ∧ ∀ w' : World, (∀ k, used k → w'.heap[k]? = w.heap[k]?) → F w'

theorem Holds.now {r : Res} {w : World} (h : Holds r w) : r.F w := h w fun _ _ => rfl
theorem Holds.same {r : Res} {w w' : World} (h : Holds r w) (e : ∀ k ∈ r.fp, w'.heap[k]? = w.heap[k]?) : Holds r w' :=
  fun w2 h2 => h w2 fun k hk => (h2 k hk).trans (e k hk)
theorem Keeps.now {no : List Nat} {F : World → Prop} {w : World} (h : Keeps no F w) : F w := by
  obtain ⟨u, _, h2⟩ := h
  exact h2 w fun _ _ => rfl
theorem Keeps.pure {no : List Nat} {p : Prop} {w : World} (h : p) : Keeps no (fun _ => p) w := ⟨fun _ => False, fun _ h => h.elim, fun _ _ => h⟩
theorem Keeps.imp {no : List Nat} {F G : World → Prop} {w : World} (h : Keeps no F w) (hi : ∀ w, F w → G w) : Keeps no G w := by
  obtain ⟨u, h1, h2⟩ := h
  exact ⟨u, h1, fun w' e => hi w' (h2 w' e)⟩
theorem Keeps.and {no : List Nat} {F G : World → Prop} {w : World} (h : Keeps no F w) (k : Keeps no G w) : Keeps no (fun w => F w ∧ G w) w := by
  obtain ⟨u, h1, h2⟩ := h
  obtain ⟨v, k1, k2⟩ := k
  exact ⟨fun x => u x ∨ v x, fun x hx => hx.elim (h1 x) (k1 x), fun w' e => ⟨h2 w' fun x hx => e x (.inl hx), k2 w' fun x hx => e x (.inr hx)⟩⟩
theorem Keeps.anti {no no' : List Nat} {F : World → Prop} {w : World} (h : Keeps no F w) (hn : ∀ k ∈ no', k ∈ no) : Keeps no' F w := by
  obtain ⟨u, h1, h2⟩ := h
  exact ⟨u, fun k hk => ⟨(h1 k hk).1, fun hk' => (h1 k hk).2 (hn k hk')⟩, h2⟩
theorem Keeps.all {no : List Nat} {F : World → Prop} {w : World} (h : ∀ w, F w) : Keeps no F w := ⟨fun _ => False, fun _ h => h.elim, fun _ _ => h _⟩

/-- All but the borrowed blocks of what was there is as it was. -/
structure Fr (bor : List Nat) (w0 w : World) : Prop where
  os : w.os = w0.os
  tape : w.tape = w0.tape
  output : w.output = w0.output
  size : w0.heap.size ≤ w.heap.size
  block : ∀ k, k < w0.heap.size → k ∉ bor → w.heap[k]? = w0.heap[k]?
theorem Fr.refl (bor : List Nat) (w : World) : Fr bor w w := ⟨rfl, rfl, rfl, Nat.le_refl _, fun _ _ _ => rfl⟩
theorem Fr.below {w0 w : World} (h : Fr [] w0 w) : Below w0.heap.size w0 w := ⟨h.os, h.tape, h.output, h.size, fun k hk => h.block k hk (by simp)⟩
theorem Fr.of_below {w0 w : World} (h : Below w0.heap.size w0 w) : Fr [] w0 w := ⟨h.os, h.tape, h.output, h.size, fun k hk _ => h.block k hk⟩

structure Gam (av bor : List Nat) (w0 : World) (loc : List Res) (X : World → Prop) (w : World) : Prop where
  fr : Fr bor w0 w
  avb : ∀ k ∈ av, k < w0.heap.size ∧ k ∉ bor
  nodup : (fps loc).Nodup
  own : ∀ k ∈ fps loc, k < w.heap.size ∧ (w0.heap.size ≤ k ∨ k ∈ bor)
  here : ∀ r ∈ loc, Holds r w
  keep : Keeps (av ++ fps loc) X w

/-- What a callee that is handed the resources 'pre' starts with. -/
theorem Gam.start {av bor : List Nat} {w0 w : World} {pre fr : List Res} {X : World → Prop} (G : Gam av bor w0 (pre ++ fr) X w) :
    Gam (av ++ fps fr) (fps pre) w pre X w := by
  have hn := G.nodup
  rw [fps_append] at hn
  have hd := List.nodup_append.1 hn
  refine ⟨Fr.refl _ _, ?_, hd.1, ?_, fun r hr => G.here r (List.mem_append_left _ hr), ?_⟩
  · intro k hk
    rcases List.mem_append.1 hk with h | h
    · have h1 := G.avb k h
      have h2 := G.fr.size
      refine ⟨by omega, fun h3 => ?_⟩
      have h4 := (G.own k (by rw [fps_append]; exact List.mem_append_left _ h3)).2
      rcases h4 with h4 | h4
      · omega
      · exact h1.2 h4
    · refine ⟨(G.own k (by rw [fps_append]; exact List.mem_append_right _ h)).1, fun h3 => ?_⟩
      exact hd.2.2 k h3 k h rfl
  · intro k hk
    exact ⟨(G.own k (by rw [fps_append]; exact List.mem_append_left _ hk)).1, .inr hk⟩
  · refine G.keep.anti fun k hk => ?_
    rw [fps_append]
    simp only [List.mem_append] at hk ⊢
    rcases hk with (h | h) | h
    · exact .inl h
    · exact .inr (.inr h)
    · exact .inr (.inl h)

/-- Behind the callee: its resources, and the others as they were. -/
theorem Gam.frame {av bor : List Nat} {w0 w w' : World} {pre fr R : List Res} {X X' : World → Prop} (G : Gam av bor w0 (pre ++ fr) X w)
    (G' : Gam (av ++ fps fr) (fps pre) w R X' w') : Gam av bor w0 (R ++ fr) (fun w => X w ∧ X' w) w' := by
  have hn := G.nodup
  rw [fps_append] at hn
  have hd := List.nodup_append.1 hn
  have hR : ∀ k ∈ fps R, w.heap.size ≤ k ∨ k ∈ fps pre := fun k hk => (G'.own k hk).2
  have hfr : ∀ k ∈ fps fr, k < w.heap.size ∧ k ∉ fps pre := fun k hk => G'.avb k (List.mem_append_right _ hk)
  have hpre : ∀ k ∈ fps pre, w0.heap.size ≤ k ∨ k ∈ bor := fun k hk => (G.own k (by rw [fps_append]; exact List.mem_append_left _ hk)).2
  have hs := G.fr.size
  have hs' := G'.fr.size
  refine ⟨⟨G'.fr.os.trans G.fr.os, G'.fr.tape.trans G.fr.tape, G'.fr.output.trans G.fr.output, by omega, ?_⟩, G.avb, ?_, ?_, ?_, ?_⟩
  · intro k hk hb
    rw [G'.fr.block k (by omega) (fun h => by rcases hpre k h with h | h; omega; exact hb h)]
    exact G.fr.block k hk hb
  · rw [fps_append]
    refine List.nodup_append.2 ⟨G'.nodup, hd.2.1, fun a ha b hb e => ?_⟩
    subst e
    have h1 := hfr a hb
    rcases hR a ha with h | h
    · omega
    · exact h1.2 h
  · intro k hk
    rw [fps_append] at hk
    rcases List.mem_append.1 hk with h | h
    · refine ⟨(G'.own k h).1, ?_⟩
      rcases hR k h with h | h
      · left; omega
      · exact hpre k h
    · have h1 := hfr k h
      exact ⟨by omega, (G.own k (by rw [fps_append]; exact List.mem_append_right _ h)).2⟩
  · intro r hr
    rcases List.mem_append.1 hr with h | h
    · exact G'.here r h
    · refine (G.here r (List.mem_append_right _ h)).same fun k hk => ?_
      have : k ∈ fps fr := List.mem_flatMap.2 ⟨r, h, hk⟩
      have h1 := hfr k this
      exact G'.fr.block k h1.1 h1.2
  · refine Keeps.and ?_ ?_
    · obtain ⟨u, h1, h2⟩ := G.keep
      refine ⟨u, fun k hk => ?_, fun w2 e => h2 w2 fun k hk => ?_⟩
      · have h3 := h1 k hk
        refine ⟨by omega, fun h4 => ?_⟩
        rw [fps_append] at h4 h3
        simp only [List.mem_append, not_or] at h3 h4
        rcases h4 with h4 | h4 | h4
        · exact h3.2.1 h4
        · rcases hR k h4 with h | h
          · omega
          · exact h3.2.2.1 h
        · exact h3.2.2.2 h4
      · have h3 := h1 k hk
        rw [fps_append] at h3
        simp only [List.mem_append, not_or] at h3
        rw [e k hk]
        exact G'.fr.block k h3.1 h3.2.2.1
    · refine G'.keep.anti fun k hk => ?_
      rw [fps_append] at hk
      simp only [List.mem_append] at hk ⊢
      rcases hk with h | h | h
      · exact .inl (.inl h)
      · exact .inr h
      · exact .inl (.inr h)

theorem Gam.imp {av bor : List Nat} {w0 w : World} {loc : List Res} {X X' : World → Prop} (G : Gam av bor w0 loc X w) (h : ∀ w, X w → X' w) : Gam av bor w0 loc X' w :=
  ⟨G.fr, G.avb, G.nodup, G.own, G.here, G.keep.imp h⟩
theorem fps_sublist {loc loc' : List Res} (h : loc'.Sublist loc) : (fps loc').Sublist (fps loc) := by
  unfold fps
  induction h with
  | slnil => exact List.Sublist.refl _
  | cons a _ ih => simp only [List.flatMap_cons]; exact ih.trans (List.sublist_append_right _ _)
  | cons_cons a _ ih => simp only [List.flatMap_cons]; exact (List.Sublist.refl _).append ih
theorem Gam.drop {av bor : List Nat} {w0 w : World} {loc loc' : List Res} {X : World → Prop} (G : Gam av bor w0 loc X w) (h : loc'.Sublist loc) : Gam av bor w0 loc' X w := by
  have hs := fps_sublist h
  refine ⟨G.fr, G.avb, G.nodup.sublist hs, fun k hk => G.own k (hs.subset hk), fun r hr => G.here r (h.subset hr), G.keep.anti fun k hk => ?_⟩
  rcases List.mem_append.1 hk with h | h
  · exact List.mem_append_left _ h
  · exact List.mem_append_right _ (hs.subset h)
theorem Gam.perm {av bor : List Nat} {w0 w : World} {loc loc' : List Res} {X : World → Prop} (G : Gam av bor w0 loc X w) (h : loc.Perm loc') : Gam av bor w0 loc' X w := by
  have hp : (fps loc).Perm (fps loc') := h.flatMap_right _
  refine ⟨G.fr, G.avb, hp.nodup_iff.1 G.nodup, fun k hk => G.own k (hp.mem_iff.2 hk), fun r hr => G.here r (h.mem_iff.2 hr), G.keep.anti fun k hk => ?_⟩
  rcases List.mem_append.1 hk with h | h
  · exact List.mem_append_left _ h
  · exact List.mem_append_right _ (hp.mem_iff.2 h)
/-- A draw turns nothing. -/
theorem Gam.drew {av bor : List Nat} {w0 w : World} {loc : List Res} {X : World → Prop} (G : Gam av bor w0 loc X w) : Gam av bor w0 loc X w.drew := by
  refine ⟨⟨G.fr.os, G.fr.tape, G.fr.output, G.fr.size, G.fr.block⟩, G.avb, G.nodup, G.own, fun r hr => (G.here r hr).same fun _ _ => rfl, ?_⟩
  obtain ⟨u, h1, h2⟩ := G.keep
  exact ⟨u, h1, h2⟩

/-! ### States -/
structure Ok (N : Nat) (av bor : List Nat) (w0 : World) (st : St) (a : Act) (w : World) : Prop where
  defers : a.defers = []
  size : a.tmps.size = N
  env : ∀ n v, look st.env n = some v → a.tmps[n]? = some v
  gam : Gam av bor w0 st.loc st.ext w

def St.put (st : St) (d : Option Tmp) (v : Value) : St :=
  match d with
  | some n => { st with env := (n, v) :: st.env }
  | none => st
def inB (N : Nat) : Option Tmp → Bool
  | some n => decide (n < N)
  | none => true

theorem Ok.put {N : Nat} {av bor : List Nat} {w0 : World} {st : St} {a : Act} {w : World} (h : Ok N av bor w0 st a w) {d : Option Tmp} (hd : inB N d = true) (v : Value) :
    Ok N av bor w0 (st.put d v) (a.put d v) w := by
  cases d with
  | none => exact h
  | some n =>
    have hn : n < a.tmps.size := by
      have h1 : n < N := by simpa [inB] using hd
      rw [h.size]; exact h1
    refine ⟨h.defers, by simp [Act.put, h.size], fun m u hm => ?_, h.gam⟩
    simp only [St.put, look] at hm
    by_cases e : m = n
    · subst e
      have hb : Nat.beq m m = true := by simp
      rw [hb] at hm
      simp only [cond_true, Option.some.injEq] at hm
      subst hm
      simp [Act.put, hn]
    · have hb : Nat.beq m n = false := beq_no e
      rw [hb] at hm
      simp only [cond_false] at hm
      have := h.env m u hm
      simp only [Act.put]
      rw [Array.getElem?_setIfInBounds_ne (Ne.symm e)]
      exact this

def ev (E : Env) : Operand → Option Value
  | .tmp t => look E t
  | .const v => some v
  | .global g => some (.pointer (some ⟨g, 0, none⟩))
  | .func f => some (.func (.func f) #[] #[])
theorem Ok.eval {N : Nat} {av bor : List Nat} {w0 : World} {st : St} {a : Act} {w : World} (h : Ok N av bor w0 st a w) {x : Operand} {v : Value} (hx : ev st.env x = some v) : a.eval x = v := by
  cases x with
  | tmp t =>
    have := h.env t v hx
    simp [Act.eval, Array.getD_eq_getD_getElem?, this]
  | const u => simpa [ev, Act.eval] using hx
  | global g => simpa [ev, Act.eval] using hx
  | func f => simpa [ev, Act.eval] using hx

section
variable (P : Program) (N : Nat) (av bor : List Nat) (w0 : World)

def post (K : Exit → St → Prop) : Exit → Act → World → Prop
  | .panic _, _, _ => False
  | .outgrown, _, _ => False
  | e, a, w => ∃ st, K e st ∧ Ok N av bor w0 st a w
def only (k : St → Prop) : Exit → St → Prop
  | .normal, st => k st
  | _, _ => False
def thn (k : St → Prop) (K : Exit → St → Prop) : Exit → St → Prop
  | .normal, st => k st
  | e, st => K e st
def blk (id : Nat) (K : Exit → St → Prop) : Exit → St → Prop
  | .exit id', st => if id' = id then K .normal st else K (.exit id') st
  | e, st => K e st

def Cw (c : Code) (st : St) (K : Exit → St → Prop) : Prop := ∀ a w, Ok N av bor w0 st a w → c.wp P (post N av bor w0 K) a w
def Sw (ops : Array Oper) (todo : List Oper) (st : St) (k : St → Prop) : Prop := ∀ a w, Ok N av bor w0 st a w → wpList P ops (post N av bor w0 (only k)) todo a w
end

section
variable {P : Program} {N : Nat} {av bor : List Nat} {w0 : World} {st : St} {K : Exit → St → Prop}

theorem cw_mono {K' : Exit → St → Prop} {c : Code} (hk : ∀ e st, K e st → K' e st) (h : Cw P N av bor w0 c st K) : Cw P N av bor w0 c st K' := fun a w ok =>
  Code.wp_mono (fun e a w q => by
    cases e with
    | panic _ => exact q
    | outgrown => exact q
    | normal => obtain ⟨s, h1, h2⟩ := q; exact ⟨s, hk _ _ h1, h2⟩
    | exit _ => obtain ⟨s, h1, h2⟩ := q; exact ⟨s, hk _ _ h1, h2⟩
    | goto _ => obtain ⟨s, h1, h2⟩ := q; exact ⟨s, hk _ _ h1, h2⟩
    | ret => obtain ⟨s, h1, h2⟩ := q; exact ⟨s, hk _ _ h1, h2⟩) (h a w ok)

theorem cw_skip (h : K .normal st) : Cw P N av bor w0 .skip st K := fun a w ok => wp_skip ⟨st, h, ok⟩
theorem cw_ret (h : K .ret st) : Cw P N av bor w0 .ret st K := fun a w ok => wp_ret ⟨st, h, ok⟩
theorem cw_exit {id : Nat} (h : K (.exit id) st) : Cw P N av bor w0 (.exit id) st K := fun a w ok => wp_exit ⟨st, h, ok⟩
theorem cw_seq {x y : Code} (h : Cw P N av bor w0 x st (thn (fun s => Cw P N av bor w0 y s K) K)) : Cw P N av bor w0 (.seq x y) st K := fun a w ok =>
  wp_seq (Code.wp_mono (fun e a w q => by
    cases e with
    | panic _ => exact q
    | outgrown => exact q
    | normal => obtain ⟨s, h1, h2⟩ := q; exact h1 a w h2
    | exit _ => exact q
    | goto _ => exact q
    | ret => exact q) (h a w ok))
theorem cw_cond {c : Operand} {x y : Code} {b : Bool} (hc : ev st.env c = some (.bool b) := by rfl) (ht : b = true → Cw P N av bor w0 x st K) (hf : b = false → Cw P N av bor w0 y st K) :
    Cw P N av bor w0 (.cond c x y) st K := fun a w ok => wp_cond_split (ok.eval hc) (fun h => ht h a w ok) (fun h => hf h a w ok)
theorem cw_cond_t {c : Operand} {x y : Code} {b : Bool} (hc : ev st.env c = some (.bool b) := by rfl) (hb : b = true := by (first | with_reducible rfl | with_reducible assumption | with_reducible exact Bool.not_false | with_reducible exact Bool.not_true)) (ht : Cw P N av bor w0 x st K) :
    Cw P N av bor w0 (.cond c x y) st K := cw_cond hc (fun _ => ht) (fun h => by rw [hb] at h; cases h)
theorem cw_cond_f {c : Operand} {x y : Code} {b : Bool} (hc : ev st.env c = some (.bool b) := by rfl) (hb : b = false := by (first | with_reducible rfl | with_reducible assumption | with_reducible exact Bool.not_false | with_reducible exact Bool.not_true)) (hf : Cw P N av bor w0 y st K) :
    Cw P N av bor w0 (.cond c x y) st K := cw_cond hc (fun h => by rw [hb] at h; cases h) (fun _ => hf)
theorem cw_block {id : Nat} {c : Code} (h : Cw P N av bor w0 c st (blk id K)) : Cw P N av bor w0 (.block id c) st K := fun a w ok =>
  wp_block (Code.wp_mono (fun e a w q => by
    cases e with
    | panic _ => exact q
    | outgrown => exact q
    | normal => exact q
    | exit i =>
      obtain ⟨s, h1, h2⟩ := q
      by_cases hi : i = id
      · simp only [blk, hi, if_true] at h1
        simp only [Exit.inBlock, hi, if_true]
        exact ⟨s, h1, h2⟩
      · simp only [blk, hi, if_false] at h1
        simp only [Exit.inBlock, hi, if_false]
        exact ⟨s, h1, h2⟩
    | goto _ => exact q
    | ret => exact q) (h a w ok))
/-- A loop: at each round's head one of the states 'I i'. -/
theorem cw_loop {ι : Type} {c : Code} (I : ι → St) (μ : ι → Nat) (i0 : ι) (h0 : ∀ a w, Ok N av bor w0 st a w → Ok N av bor w0 (I i0) a w)
    (round : ∀ i, Cw P N av bor w0 c (I i) (thn (fun s => ∃ j, μ j < μ i ∧ ∀ a w, Ok N av bor w0 s a w → Ok N av bor w0 (I j) a w) K)) : Cw P N av bor w0 (.loop c) st K := by
  intro a w ok
  -- the measure as a relation of states: carried beside the frame by strong induction
  have key : ∀ n i, μ i = n → ∀ a w, Ok N av bor w0 (I i) a w → ∀ (b : Frame) (k : List Item) (cs : List Frame),
      ∃ e a' w', post N av bor w0 K e a' w' ∧ Arrives P (lone (b.at a (.code c :: .inLoop c :: k)) cs w) b k cs e a' w' := by
    intro n
    induction n using Nat.strongRecOn with
    | _ n ih =>
      intro i hi a w ok b k cs
      obtain ⟨e, a1, w1, hq, harr⟩ := round i a w ok b (.inLoop c :: k) cs
      cases e with
      | normal =>
        obtain ⟨s, ⟨j, hlt, hj⟩, ok1⟩ := hq
        obtain ⟨e2, a2, w2, hq2, harr2⟩ := ih (μ j) (hi ▸ hlt) j rfl a1 w1 (hj _ _ ok1) b k cs
        exact ⟨e2, a2, w2, hq2, .of_steps (Steps.trans harr (.one step_inLoop)) harr2⟩
      | exit id => exact ⟨.exit id, a1, w1, (show post N av bor w0 K (.exit id) a1 w1 from hq), .pass (x := .inLoop c) rfl (fun _ _ => .inl (by simp)) harr⟩
      | goto l => exact ⟨.goto l, a1, w1, (show post N av bor w0 K (.goto l) a1 w1 from hq), .pass (x := .inLoop c) rfl (fun _ _ => .inl (by simp)) harr⟩
      | ret => exact ⟨.ret, a1, w1, (show post N av bor w0 K .ret a1 w1 from hq), .pass (x := .inLoop c) rfl (fun _ _ => .inl (by simp)) harr⟩
      | panic ch => exact hq.elim
      | outgrown => exact hq.elim
  intro b k cs
  obtain ⟨e, a', w', hq, harr⟩ := key _ i0 rfl a w (h0 _ _ ok) b k cs
  exact ⟨e, a', w', hq, .of_steps (.one step_loop) harr⟩

/-- Fewer slots are named, fewer resources, a weaker predicate. -/
theorem ok_weaken {N : Nat} {av bor : List Nat} {w0 : World} {E E' : Env} {l l' : List Res} {X X' : World → Prop} (he : ∀ p ∈ E', look E p.1 = some p.2)
    (hl : l'.Sublist l) (hx : ∀ w, X w → X' w) : ∀ a w, Ok N av bor w0 ⟨E, l, X⟩ a w → Ok N av bor w0 ⟨E', l', X'⟩ a w := by
  intro a w ok
  refine ⟨ok.defers, ok.size, fun n v hn => ?_, (ok.gam.drop hl).imp hx⟩
  have hm : (n, v) ∈ E' := by
    clear he
    induction E' with
    | nil => simp [look] at hn
    | cons p r ih =>
      obtain ⟨k, u⟩ := p
      simp only [look] at hn
      by_cases e : n = k
      · subst e
        have hb : Nat.beq n n = true := by simp
        rw [hb] at hn
        simp at hn
        subst hn
        exact List.mem_cons_self
      · have hb : Nat.beq n k = false := beq_no e
        rw [hb] at hn
        exact List.mem_cons_of_mem _ (ih hn)
  exact ok.env n v (he _ hm)

theorem cw_region {id : Nat} {l : List Oper} {k : St → Prop} (h : Sw P N av bor w0 l.toArray l st k) (hk : ∀ s, k s → K .normal s) : Cw P N av bor w0 (.region id l.toArray false) st K := fun a w ok =>
  wp_region_lit (P := P) (by
    have := h a w ok
    refine ?_
    have mono : ∀ (todo : List Oper) a w, wpList P l.toArray (post N av bor w0 (only k)) todo a w → wpList P l.toArray (post N av bor w0 K) todo a w := by
      intro todo
      induction todo with
      | nil =>
        intro a w h
        obtain ⟨s, h1, h2⟩ := h
        exact ⟨s, hk s h1, h2⟩
      | cons o rest ih =>
        intro a w h
        simp only [wpList] at h ⊢
        split
        · rename_i hw
          simp only [hw, if_true] at h
          rcases h with h | h
          · left
            unfold Oper.wp at *
            generalize (execOp a.eval o).run P w = r at *
            cases r with
            | ok n w' =>
              cases n <;> simp only [Oper.upon] at h ⊢
              case value u => exact ih _ _ h
              case skip => exact ih _ _ h
              case defer d => exact ih _ _ h
              case enter f args => exact Calls.mono h fun e w'' he => by cases e with
                | returned v => exact ih _ _ he
                | panicked c => exact he.elim
                | outgrown => obtain ⟨_, _, h⟩ := he; exact h.elim
              case row row args => exact Rows.mono h fun u w'' he => ih _ _ he
            | halt x w' => cases x <;> simp only [Oper.upon] at h ⊢ <;> exact h.elim
          · obtain ⟨_, _, _, h⟩ := h
            exact h.elim
        · rename_i hw
          simp only [hw] at h
          exact ih _ _ h
    exact mono _ _ _ this)

theorem cw_reg {id : Nat} {l : List Oper} (h : Sw P N av bor w0 l.toArray l st (K .normal)) : Cw P N av bor w0 (.region id l.toArray false) st K := cw_region h fun _ h => h

/-! ### One operation after another -/
theorem sw_nil {ops : Array Oper} {k : St → Prop} (h : k st) : Sw P N av bor w0 ops [] st k := fun a w ok => ⟨st, h, ok⟩

/-- In every state it yields this value and turns nothing. -/
def Yields (P : Program) (N : Nat) (av bor : List Nat) (w0 : World) (st : St) (o : Op) (ty : TypeId) (v : Value) : Prop :=
  ∀ a w, Ok N av bor w0 st a w → ∀ d pos af g, (execOp a.eval ⟨d, o, ty, pos, af, g⟩).run P w = .ok (.value v) w

/-- The Bool that the guard looks at, and the one that it asks for. -/
def gdB (ops : Array Oper) (E : Env) : Option (Nat × Bool) → Option (Bool × Bool)
  | none => some (true, true)
  | some (j, want) =>
    match (ops[j]?).bind (·.dst) with
    | some t => match look E t with
      | some (.bool b) => some (b, want)
      | _ => none
    | none => none
theorem wanted_of {ops : Array Oper} {a : Act} {w : World} (ok : Ok N av bor w0 st a w) {o : Oper} {b want : Bool} (h : gdB ops st.env o.guard = some (b, want)) : Region.wanted o (yielded ops a.tmps) = (b == want) := by
  unfold Region.wanted
  unfold gdB at h
  split at h
  · rename_i hg
    simp only [hg]
    simp at h
    obtain ⟨rfl, rfl⟩ := h
    rfl
  · rename_i j want' hg
    simp only [hg]
    split at h
    · rename_i t ht
      split at h
      · rename_i b' hb
        have := ok.env t _ hb
        simp only [yielded, ht, Option.bind_some, this]
        simp at h
        obtain ⟨rfl, rfl⟩ := h
        cases b' <;> cases want' <;> rfl
      · cases h
    · cases h
def putE (E : Env) : Option Tmp → Value → Env
  | some n, v => (n, v) :: E
  | none, _ => E
theorem put_eq {E : Env} {loc : List Res} {X : World → Prop} (d : Option Tmp) (v : Value) : (⟨E, loc, X⟩ : St).put d v = ⟨putE E d v, loc, X⟩ := by cases d <;> rfl
def isCall : Op → Bool
  | .call _ => true
  | _ => false

section
variable {E : Env} {loc : List Res} {X : World → Prop} {ops : Array Oper} {k : St → Prop} {n : Nat} {o : Op} {ty : TypeId} {pos : String} {af : Array Edge} {g : Option (Nat × Bool)} {rest : List Oper} {v : Value} {b want : Bool}
theorem sw_yield (hy : Yields P N av bor w0 ⟨E, loc, X⟩ o ty v) (hg : gdB ops E g = some (b, want) := by rfl) (hb : b = want := by (first | with_reducible rfl | with_reducible assumption | with_reducible exact Bool.not_false | with_reducible exact Bool.not_true)) (hd : Nat.blt n N = true := by rfl) (h : Sw P N av bor w0 ops rest ⟨(n, v) :: E, loc, X⟩ k) :
    Sw P N av bor w0 ops (⟨some n, o, ty, pos, af, g⟩ :: rest) ⟨E, loc, X⟩ k := fun a w ok => by
  simp only [wpList]
  rw [wanted_of ok (o := ⟨some n, o, ty, pos, af, g⟩) hg]
  subst hb
  simp only [beq_self_eq_true, if_true]
  left
  unfold Oper.wp
  rw [hy a w ok]
  exact h _ _ (ok.put (d := some n) (by have h1 : n < N := Nat.le_of_ble_eq_true hd; simpa [inB] using h1) v)
theorem sw_skip (hg : gdB ops E g = some (b, want) := by rfl) (hb : b = !want := by (first | with_reducible rfl | with_reducible assumption | with_reducible exact Bool.not_false | with_reducible exact Bool.not_true)) (hd : Nat.blt n N = true := by rfl) (h : Sw P N av bor w0 ops rest ⟨(n, undef) :: E, loc, X⟩ k) :
    Sw P N av bor w0 ops (⟨some n, o, ty, pos, af, g⟩ :: rest) ⟨E, loc, X⟩ k := fun a w ok => by
  simp only [wpList]
  rw [wanted_of ok (o := ⟨some n, o, ty, pos, af, g⟩) hg]
  subst hb
  have e : ((!want) == want) = false := by cases want <;> rfl
  rw [e]
  exact h _ _ (ok.put (d := some n) (by have h1 : n < N := Nat.le_of_ble_eq_true hd; simpa [inB] using h1) undef)
/-- A guard that is not decided: both ways. -/
theorem sw_guard (hc : isCall o = false := by rfl) (hg : gdB ops E g = some (b, want) := by rfl) (ht : b = true → Sw P N av bor w0 ops (⟨some n, o, ty, pos, af, g⟩ :: rest) ⟨E, loc, X⟩ k)
    (hf : b = false → Sw P N av bor w0 ops (⟨some n, o, ty, pos, af, g⟩ :: rest) ⟨E, loc, X⟩ k) : Sw P N av bor w0 ops (⟨some n, o, ty, pos, af, g⟩ :: rest) ⟨E, loc, X⟩ k := by
  cases b
  · exact hf rfl
  · exact ht rfl
end
/-- The resources are brought into another order, some are forgotten, slots too. -/
theorem sw_to {ops : Array Oper} {k : St → Prop} {rest : List Oper} {st' : St} (ht : ∀ a w, Ok N av bor w0 st a w → Ok N av bor w0 st' a w) (h : Sw P N av bor w0 ops rest st' k) : Sw P N av bor w0 ops rest st k :=
  fun a w ok => h a w (ht a w ok)
theorem cw_to {c : Code} {st' : St} (ht : ∀ a w, Ok N av bor w0 st a w → Ok N av bor w0 st' a w) (h : Cw P N av bor w0 c st' K) : Cw P N av bor w0 c st K :=
  fun a w ok => h a w (ht a w ok)
/-- A case split on a slot's Bool. -/
theorem sw_bool {ops : Array Oper} {k : St → Prop} {rest : List Oper} (b : Bool) (ht : b = true → Sw P N av bor w0 ops rest st k) (hf : b = false → Sw P N av bor w0 ops rest st k) : Sw P N av bor w0 ops rest st k := by
  cases b
  · exact hf rfl
  · exact ht rfl

/-- AN OPERATION THAT TURNS SOMETHING: it is handed the resources 'pre' and leaves 'R'. -/
theorem sw_does {ops : Array Oper} {k : St → Prop} {d : Option Tmp} {o : Op} {ty : TypeId} {pos : String} {af : Array Edge} {g : Option (Nat × Bool)} {rest : List Oper} {E : Env} {pre fr : List Res} {X : World → Prop} {b want : Bool}
    (hg : gdB ops E g = some (b, want) := by rfl) (hb : b = want := by (first | with_reducible rfl | with_reducible assumption | with_reducible exact Bool.not_false | with_reducible exact Bool.not_true)) (hd : inB N d = true := by rfl)
    (h : ∀ a w, Ok N av bor w0 ⟨E, pre ++ fr, X⟩ a w → ∃ v w' R X', ((execOp a.eval ⟨d, o, ty, pos, af, g⟩).run P w = .ok (.value v) w' ∨ ((execOp a.eval ⟨d, o, ty, pos, af, g⟩).run P w = .ok .skip w' ∧ v = undef)) ∧
      Gam (av ++ fps fr) (fps pre) w R X' w' ∧ Sw P N av bor w0 ops rest ⟨putE E d v, R ++ fr, fun w => X w ∧ X' w⟩ k) :
    Sw P N av bor w0 ops (⟨d, o, ty, pos, af, g⟩ :: rest) ⟨E, pre ++ fr, X⟩ k := fun a w ok => by
  simp only [wpList]
  rw [wanted_of ok (o := ⟨d, o, ty, pos, af, g⟩) hg]
  subst hb
  simp only [beq_self_eq_true, if_true]
  left
  obtain ⟨v, w', R, X', hr, G', hs⟩ := h a w ok
  have ok' : Ok N av bor w0 ⟨E, R ++ fr, fun w => X w ∧ X' w⟩ a w' := ⟨ok.defers, ok.size, ok.env, ok.gam.frame G'⟩
  unfold Oper.wp
  rcases hr with hr | ⟨hr, rfl⟩
  · rw [hr]
    exact hs _ _ (put_eq d v ▸ ok'.put hd v)
  · rw [hr]
    exact hs _ _ (put_eq d undef ▸ ok'.put hd undef)

/-- What a function's contract says: it is handed 'pre' and a predicate; it leaves a value, resources, a predicate. -/
def Ct (P : Program) (f : FuncId) (args : Array Value) (pre : List Res) (X : World → Prop) (Post : Value → List Res → (World → Prop) → Prop) : Prop :=
  ∀ (w : World) (av : List Nat), Gam av (fps pre) w pre X w → Calls P f args w fun e w' => ∃ v R X', e = .returned v ∧ Post v R X' ∧ Gam av (fps pre) w R X' w'

theorem Ct.mono {f : FuncId} {args : Array Value} {pre : List Res} {X : World → Prop} {Post Post' : Value → List Res → (World → Prop) → Prop} (h : Ct P f args pre X Post)
    (hp : ∀ v R X', Post v R X' → Post' v R X') : Ct P f args pre X Post' := fun w av G =>
  (h w av G).mono fun _ _ ⟨v, R, X', h1, h2, h3⟩ => ⟨v, R, X', h1, hp _ _ _ h2, h3⟩

/-- A call of a Go function by its contract. 'X1': what of the predicate the callee asks for. -/
theorem sw_call {ops : Array Oper} {k : St → Prop} {d : Option Tmp} {o : Op} {ty : TypeId} {pos : String} {af : Array Edge} {g : Option (Nat × Bool)} {rest : List Oper} {E : Env} {pre fr : List Res} {X X1 : World → Prop} {b want : Bool}
    {f : FuncId} {args : Array Value} {Post : Value → List Res → (World → Prop) → Prop}
    (hr : ∀ a w, Ok N av bor w0 ⟨E, pre ++ fr, X⟩ a w → (execOp a.eval ⟨d, o, ty, pos, af, g⟩).run P w = .ok (.enter f args) w)
    (hg : gdB ops E g = some (b, want) := by rfl) (hb : b = want := by (first | with_reducible rfl | with_reducible assumption | with_reducible exact Bool.not_false | with_reducible exact Bool.not_true)) (hd : inB N d = true := by rfl) (hc : Ct P f args pre X1 Post) (hx : ∀ w, X w → X1 w := by (first | exact fun _ _ => trivial | exact fun _ h => h | exact fun _ h => h.1 | exact fun _ h => h.2))
    (h : ∀ v R X', Post v R X' → Sw P N av bor w0 ops rest ⟨putE E d v, R ++ fr, fun w => X w ∧ X' w⟩ k) :
    Sw P N av bor w0 ops (⟨d, o, ty, pos, af, g⟩ :: rest) ⟨E, pre ++ fr, X⟩ k := fun a w ok => by
  simp only [wpList]
  rw [wanted_of ok (o := ⟨d, o, ty, pos, af, g⟩) hg]
  subst hb
  simp only [beq_self_eq_true, if_true]
  left
  unfold Oper.wp
  rw [hr a w ok]
  refine (hc w _ (ok.gam.start.imp hx)).mono fun e w' ⟨v, R, X', he, hp, G'⟩ => ?_
  subst he
  have ok' : Ok N av bor w0 ⟨E, R ++ fr, fun w => X w ∧ X' w⟩ a w' := ⟨ok.defers, ok.size, ok.env, ok.gam.frame G'⟩
  exact h v R X' hp _ _ (put_eq d v ▸ ok'.put hd v)
end
theorem Sw.mk {P : Program} {N : Nat} {av bor : List Nat} {w0 : World} {todo : List Oper} {os : Array Oper} {st : St} {k : St → Prop} (h : ∀ a w, Ok N av bor w0 st a w → wpList P os (post N av bor w0 (only k)) todo a w) : Sw P N av bor w0 os todo st k := h
theorem Sw.run {P : Program} {N : Nat} {av bor : List Nat} {w0 : World} {todo : List Oper} {os : Array Oper} {st : St} {k : St → Prop} (h : Sw P N av bor w0 os todo st k) : ∀ a w, Ok N av bor w0 st a w → wpList P os (post N av bor w0 (only k)) todo a w := h
theorem Cw.mk {P : Program} {N : Nat} {av bor : List Nat} {w0 : World} {c : Code} {st : St} {K : Exit → St → Prop} (h : ∀ a w, Ok N av bor w0 st a w → c.wp P (post N av bor w0 K) a w) : Cw P N av bor w0 c st K := h
theorem Cw.run {P : Program} {N : Nat} {av bor : List Nat} {w0 : World} {c : Code} {st : St} {K : Exit → St → Prop} (h : Cw P N av bor w0 c st K) : ∀ a w, Ok N av bor w0 st a w → c.wp P (post N av bor w0 K) a w := h
theorem Ct.mk {P : Program} {f : FuncId} {args : Array Value} {pre : List Res} {X : World → Prop} {Post : Value → List Res → (World → Prop) → Prop}
    (h : ∀ (w : World) (av : List Nat), Gam av (fps pre) w pre X w → Calls P f args w fun e w' => ∃ v R X', e = .returned v ∧ Post v R X' ∧ Gam av (fps pre) w R X' w') : Ct P f args pre X Post := h
theorem Ct.run {P : Program} {f : FuncId} {args : Array Value} {pre : List Res} {X : World → Prop} {Post : Value → List Res → (World → Prop) → Prop} (h : Ct P f args pre X Post) :
    ∀ (w : World) (av : List Nat), Gam av (fps pre) w pre X w → Calls P f args w fun e w' => ∃ v R X', e = .returned v ∧ Post v R X' ∧ Gam av (fps pre) w R X' w' := h
theorem Yields.mk {P : Program} {N : Nat} {av bor : List Nat} {w0 : World} {st : St} {o : Op} {ty : TypeId} {v : Value} (h : ∀ a w, Ok N av bor w0 st a w → ∀ d pos af g, (execOp a.eval ⟨d, o, ty, pos, af, g⟩).run P w = .ok (.value v) w) : Sy.Yields P N av bor w0 st o ty v := h
theorem Yields.run {P : Program} {N : Nat} {av bor : List Nat} {w0 : World} {st : St} {o : Op} {ty : TypeId} {v : Value} (h : Sy.Yields P N av bor w0 st o ty v) : ∀ a w, Ok N av bor w0 st a w → ∀ d pos af g, (execOp a.eval ⟨d, o, ty, pos, af, g⟩).run P w = .ok (.value v) w := h
attribute [irreducible] Sw Cw Ct Yields
end Go.Proofs.YtfpojkoddcdojaaGreatDoor.Sy
