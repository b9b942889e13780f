/- Regions that draw the order of their operations, for the calculus of XSy. No program in sight. -/
import Derived.Test.YtfpojkoddcdojaaGreatDoorDp
set_option linter.unusedVariables false
namespace Go.Proofs.YtfpojkoddcdojaaGreatDoor.Sy
open Go Go.RowKit

section
variable {P : Program} {N : Nat} {av bor : List Nat} {w0 : World}
theorem oper_wp_mono {o : Oper} {a : Act} {w : World} {k k' : St → Prop} {K K' : Act → World → Prop} (hK : ∀ a w, K a w → K' a w) (h : o.wp P a w K (post N av bor w0 (only k))) : o.wp P a w K' (post N av bor w0 (only k')) := by
  unfold Oper.wp at *
  generalize (execOp a.eval o).run P w = r at *
  cases r with
  | ok n w' =>
    cases n <;> simp only [Oper.upon] at h ⊢
    case value u => exact hK _ _ h
    case skip => exact hK _ _ h
    case defer d => exact hK _ _ h
    case enter f args => exact Calls.mono h fun e w'' he => by cases e with
      | returned v => exact hK _ _ he
      | panicked c => exact he.elim
      | outgrown => obtain ⟨_, _, h⟩ := he; exact h.elim
    case row row args => exact Rows.mono h fun u w'' he => hK _ _ he
  | halt x w' => cases x <;> simp only [Oper.upon] at h ⊢ <;> exact h.elim

/-- Whatever order is picked from here on; 'S' holds behind every operation. -/
structure Aw (P : Program) (N : Nat) (av bor : List Nat) (w0 : World) (loc0 : List Res) (X0 : World → Prop) (ops : Array Oper) (fuel : Nat) (listed : Array Bool) (st : St) (k : St → Prop) : Prop where
  run : ∀ a w, Ok N av bor w0 st a w → wpAnyH P .any ops (post N av bor w0 (only k)) (Gam av bor w0 loc0 X0) fuel listed a w

variable {loc0 : List Res} {X0 : World → Prop} {ops : Array Oper} {fuel : Nat} {listed : Array Bool} {E : Env} {loc : List Res} {X : World → Prop} {k : St → Prop} {K : Exit → St → Prop}
variable {n : Nat} {o : Op} {ty : TypeId} {pos : String} {af : Array Edge} {g : Option (Nat × Bool)} {v : Value} {bb want : Bool}

theorem cw_draw {id : Nat} {l : List Oper} (loc0 : List Res) (X0 : World → Prop) (hm : P.follows .mixedOrders = true) (h : Aw P N av bor w0 loc0 X0 l.toArray l.length (Array.replicate l.length false) ⟨E, loc, X⟩ (K .normal)) :
    Cw P N av bor w0 (.region id l.toArray true) ⟨E, loc, X⟩ K := Cw.mk fun a w ok => by
  have h1 := h.run a w.drew ⟨ok.defers, ok.size, ok.env, ok.gam.drew⟩
  have h2 : (Code.region id l.toArray true).wp P (post N av bor w0 (only (K .normal))) a w := wp_region_held hm (by simpa using h1)
  refine Code.wp_mono (fun e a w q => ?_) h2
  cases e with
  | normal => exact q
  | panic _ => exact q
  | outgrown => exact q
  | exit _ => obtain ⟨_, h, _⟩ := q; exact h.elim
  | goto _ => obtain ⟨_, h, _⟩ := q; exact h.elim
  | ret => obtain ⟨_, h, _⟩ := q; exact h.elim

/-- An operation that yields its value in every world of the region may be taken first. -/
theorem aw_take (i : Nat) (hi : ops[i]? = some ⟨some n, o, ty, pos, af, g⟩ := by rfl) (hs : Region.noSelect ops = true := by kernel_rfl) (hf : Region.free .any ops listed i = true := by kernel_rfl) (hr : (Region.ready .any ops listed).contains i = true := by kernel_rfl)
    (hsub : ∀ w, Gam av bor w0 loc X w → Gam av bor w0 loc0 X0 w := by (first | exact fun _ h => h | exact fun _ h => (h.drop (List.nil_sublist _)).imp (fun _ _ => trivial) | exact fun _ h => h.drop (by (first | exact List.Sublist.refl _ | exact List.Sublist.cons _ (List.Sublist.refl _) | exact List.Sublist.cons _ (List.Sublist.cons _ (List.Sublist.refl _)) | exact List.Sublist.cons _ (List.Sublist.cons _ (List.Sublist.cons _ (List.Sublist.refl _))))) | exact fun _ h => h.imp (fun _ h => h.1) | exact fun _ h => (h.drop (by (first | exact List.Sublist.refl _ | exact List.Sublist.cons _ (List.Sublist.refl _) | exact List.Sublist.cons _ (List.Sublist.cons _ (List.Sublist.refl _)) | exact List.Sublist.cons _ (List.Sublist.cons _ (List.Sublist.cons _ (List.Sublist.refl _)))))).imp (fun _ h => h.1) | exact fun _ h => (h.drop (by (first | exact List.Sublist.refl _ | exact List.Sublist.cons _ (List.Sublist.refl _) | exact List.Sublist.cons _ (List.Sublist.cons _ (List.Sublist.refl _)) | exact List.Sublist.cons _ (List.Sublist.cons _ (List.Sublist.cons _ (List.Sublist.refl _)))))).imp (fun _ h => h.1.1))) (hy : Sy.Yields P N av bor w0 ⟨E, loc0, X0⟩ o ty v := by (first | (apply y_move; rfl) | (apply y_assign; rfl) | (apply y_nilCheck; rfl) | (apply y_fld; rfl; (first | exact Nat.zero_add _ | (simp only [Nat.reduceAdd]; rfl))) | (apply y_ld; rfl; (repeat (first | exact List.mem_cons_self | apply List.mem_cons_of_mem)); rfl) | (apply y_ldAll; rfl; (repeat (first | exact List.mem_cons_self | apply List.mem_cons_of_mem)); rfl) | (apply y_pick_t; rfl; (first | with_reducible rfl | with_reducible assumption | with_reducible exact Bool.not_false | with_reducible exact Bool.not_true); rfl) | (apply y_pick_f; rfl; (first | with_reducible rfl | with_reducible assumption | with_reducible exact Bool.not_false | with_reducible exact Bool.not_true); rfl) | (apply y_not; rfl) | (apply y_eql; rfl; rfl) | (apply y_neq; rfl; rfl) | (apply y_lss; rfl; rfl) | (apply y_leq; rfl; rfl) | (apply y_gtr; rfl; rfl) | (apply y_geq; rfl; rfl) | (apply y_seql; rfl; rfl) | (apply y_sneq; rfl; rfl) | (apply y_slen; rfl) | (apply y_len; rfl) | (apply y_extract; rfl; rfl) | (apply y_add; rfl; rfl; (first | exact IntWalk.i64_in _ (by omega) | rfl)) | (apply y_sub; rfl; rfl; (first | exact IntWalk.i64_in _ (by omega) | rfl)) | (apply y_and; rfl; rfl) | (apply y_or; rfl; rfl) | (apply y_xor; rfl; rfl) | (apply y_andNot; rfl; rfl) | (apply y_xorU; rfl) | (apply y_shl; rfl; rfl; (first | decide | exact bitsV_nonneg _ _ rfl _ _ | exact k_nonneg _ rfl _ | omega)) | (apply y_shr; rfl; rfl; (first | decide | exact bitsV_nonneg _ _ rfl _ _ | exact k_nonneg _ rfl _ | omega)) | (apply y_int; rfl; rfl) | (apply y_arrA; rfl; rfl; decide; decide; rfl))) (hg : gdB ops E g = some (bb, want) := by rfl) (hb : bb = want := by (first | with_reducible rfl | with_reducible assumption | with_reducible exact Bool.not_false | with_reducible exact Bool.not_true)) (hd : Nat.blt n N = true := by rfl)
    (h : Aw P N av bor w0 loc0 X0 ops fuel (listed.setIfInBounds i true) ⟨(n, v) :: E, loc, X⟩ k) : Aw P N av bor w0 loc0 X0 ops (fuel + 1) listed ⟨E, loc, X⟩ k := ⟨fun a w ok => by
  have ok' := ok.put (d := some n) (by have h1 : n < N := Nat.le_of_ble_eq_true hd; simpa [inB] using h1) v
  refine wpAnyH_take hi hs hf hr (fun _ _ _ h => h) (Or.inl ⟨?_, fun w' hw' => ?_⟩) (hsub w ok.gam) (h.run _ _ ok')
  · rw [wanted_of ok (o := ⟨some n, o, ty, pos, af, g⟩) hg, hb]; simp
  · exact hy.run a w' ⟨ok.defers, ok.size, ok.env, hw'⟩ _ _ _ _⟩
theorem aw_skip (i : Nat) (hi : ops[i]? = some ⟨some n, o, ty, pos, af, g⟩ := by rfl) (hs : Region.noSelect ops = true := by kernel_rfl) (hf : Region.free .any ops listed i = true := by kernel_rfl) (hr : (Region.ready .any ops listed).contains i = true := by kernel_rfl)
    (hsub : ∀ w, Gam av bor w0 loc X w → Gam av bor w0 loc0 X0 w := by (first | exact fun _ h => h | exact fun _ h => (h.drop (List.nil_sublist _)).imp (fun _ _ => trivial) | exact fun _ h => h.drop (by (first | exact List.Sublist.refl _ | exact List.Sublist.cons _ (List.Sublist.refl _) | exact List.Sublist.cons _ (List.Sublist.cons _ (List.Sublist.refl _)) | exact List.Sublist.cons _ (List.Sublist.cons _ (List.Sublist.cons _ (List.Sublist.refl _))))) | exact fun _ h => h.imp (fun _ h => h.1) | exact fun _ h => (h.drop (by (first | exact List.Sublist.refl _ | exact List.Sublist.cons _ (List.Sublist.refl _) | exact List.Sublist.cons _ (List.Sublist.cons _ (List.Sublist.refl _)) | exact List.Sublist.cons _ (List.Sublist.cons _ (List.Sublist.cons _ (List.Sublist.refl _)))))).imp (fun _ h => h.1) | exact fun _ h => (h.drop (by (first | exact List.Sublist.refl _ | exact List.Sublist.cons _ (List.Sublist.refl _) | exact List.Sublist.cons _ (List.Sublist.cons _ (List.Sublist.refl _)) | exact List.Sublist.cons _ (List.Sublist.cons _ (List.Sublist.cons _ (List.Sublist.refl _)))))).imp (fun _ h => h.1.1))) (hg : gdB ops E g = some (bb, want) := by rfl) (hb : bb = !want := by (first | with_reducible rfl | with_reducible assumption | with_reducible exact Bool.not_false | with_reducible exact Bool.not_true)) (hd : Nat.blt n N = true := by rfl)
    (h : Aw P N av bor w0 loc0 X0 ops fuel (listed.setIfInBounds i true) ⟨(n, undef) :: E, loc, X⟩ k) : Aw P N av bor w0 loc0 X0 ops (fuel + 1) listed ⟨E, loc, X⟩ k := ⟨fun a w ok => by
  have ok' := ok.put (d := some n) (by have h1 : n < N := Nat.le_of_ble_eq_true hd; simpa [inB] using h1) undef
  refine wpAnyH_take hi hs hf hr (fun _ _ _ h => h) (Or.inr ⟨?_, rfl⟩) (hsub w ok.gam) (h.run _ _ ok')
  rw [wanted_of ok (o := ⟨some n, o, ty, pos, af, g⟩) hg, hb]
  cases want <;> rfl⟩

theorem aw_skipT (i : Nat) (hi : ops[i]? = some ⟨some n, o, ty, pos, af, g⟩ := by rfl) (hs : Region.noSelect ops = true := by kernel_rfl) (hf : Region.free .any ops listed i = true := by kernel_rfl) (hr : (Region.ready .any ops listed).contains i = true := by kernel_rfl)
    (hsub : ∀ w, Gam av bor w0 loc X w → Gam av bor w0 loc0 X0 w := by (first | exact fun _ h => h | exact fun _ h => (h.drop (List.nil_sublist _)).imp (fun _ _ => trivial) | exact fun _ h => h.drop (by (first | exact List.Sublist.refl _ | exact List.Sublist.cons _ (List.Sublist.refl _) | exact List.Sublist.cons _ (List.Sublist.cons _ (List.Sublist.refl _)) | exact List.Sublist.cons _ (List.Sublist.cons _ (List.Sublist.cons _ (List.Sublist.refl _))))) | exact fun _ h => h.imp (fun _ h => h.1) | exact fun _ h => (h.drop (by (first | exact List.Sublist.refl _ | exact List.Sublist.cons _ (List.Sublist.refl _) | exact List.Sublist.cons _ (List.Sublist.cons _ (List.Sublist.refl _)) | exact List.Sublist.cons _ (List.Sublist.cons _ (List.Sublist.cons _ (List.Sublist.refl _)))))).imp (fun _ h => h.1) | exact fun _ h => (h.drop (by (first | exact List.Sublist.refl _ | exact List.Sublist.cons _ (List.Sublist.refl _) | exact List.Sublist.cons _ (List.Sublist.cons _ (List.Sublist.refl _)) | exact List.Sublist.cons _ (List.Sublist.cons _ (List.Sublist.cons _ (List.Sublist.refl _)))))).imp (fun _ h => h.1.1))) (hg : gdB ops E g = some (bb, true) := by rfl) (hb : bb = false := by (first | with_reducible rfl | with_reducible assumption | with_reducible exact Bool.not_false | with_reducible exact Bool.not_true)) (hd : Nat.blt n N = true := by rfl)
    (h : Aw P N av bor w0 loc0 X0 ops fuel (listed.setIfInBounds i true) ⟨(n, undef) :: E, loc, X⟩ k) : Aw P N av bor w0 loc0 X0 ops (fuel + 1) listed ⟨E, loc, X⟩ k := aw_skip i hi hs hf hr hsub hg (by simp [hb]) hd h
theorem aw_skipF (i : Nat) (hi : ops[i]? = some ⟨some n, o, ty, pos, af, g⟩ := by rfl) (hs : Region.noSelect ops = true := by kernel_rfl) (hf : Region.free .any ops listed i = true := by kernel_rfl) (hr : (Region.ready .any ops listed).contains i = true := by kernel_rfl)
    (hsub : ∀ w, Gam av bor w0 loc X w → Gam av bor w0 loc0 X0 w := by (first | exact fun _ h => h | exact fun _ h => (h.drop (List.nil_sublist _)).imp (fun _ _ => trivial) | exact fun _ h => h.drop (by (first | exact List.Sublist.refl _ | exact List.Sublist.cons _ (List.Sublist.refl _) | exact List.Sublist.cons _ (List.Sublist.cons _ (List.Sublist.refl _)) | exact List.Sublist.cons _ (List.Sublist.cons _ (List.Sublist.cons _ (List.Sublist.refl _))))) | exact fun _ h => h.imp (fun _ h => h.1) | exact fun _ h => (h.drop (by (first | exact List.Sublist.refl _ | exact List.Sublist.cons _ (List.Sublist.refl _) | exact List.Sublist.cons _ (List.Sublist.cons _ (List.Sublist.refl _)) | exact List.Sublist.cons _ (List.Sublist.cons _ (List.Sublist.cons _ (List.Sublist.refl _)))))).imp (fun _ h => h.1) | exact fun _ h => (h.drop (by (first | exact List.Sublist.refl _ | exact List.Sublist.cons _ (List.Sublist.refl _) | exact List.Sublist.cons _ (List.Sublist.cons _ (List.Sublist.refl _)) | exact List.Sublist.cons _ (List.Sublist.cons _ (List.Sublist.cons _ (List.Sublist.refl _)))))).imp (fun _ h => h.1.1))) (hg : gdB ops E g = some (bb, false) := by rfl) (hb : bb = true := by (first | with_reducible rfl | with_reducible assumption | with_reducible exact Bool.not_false | with_reducible exact Bool.not_true)) (hd : Nat.blt n N = true := by rfl)
    (h : Aw P N av bor w0 loc0 X0 ops fuel (listed.setIfInBounds i true) ⟨(n, undef) :: E, loc, X⟩ k) : Aw P N av bor w0 loc0 X0 ops (fuel + 1) listed ⟨E, loc, X⟩ k := aw_skip i hi hs hf hr hsub hg (by simp [hb]) hd h
theorem gdU_wanted {a : Act} {w : World} {st : St} (ok : Ok N av bor w0 st a w) {o : Oper} (h : gdU ops st.env o.guard = true) : Region.wanted o (yielded ops a.tmps) = false := by
  unfold gdU at h
  unfold Region.wanted
  split at h
  · cases h
  · rename_i j want' he
    simp only [he]
    split at h
    · rename_i t ht
      split at h
      · rename_i vs hv
        have := ok.env t _ hv
        simp only [yielded, ht, Option.bind_some, this]
        rfl
      · cases h
    · cases h
theorem aw_skipU (i : Nat) (hi : ops[i]? = some ⟨some n, o, ty, pos, af, g⟩ := by rfl) (hs : Region.noSelect ops = true := by kernel_rfl) (hf : Region.free .any ops listed i = true := by kernel_rfl) (hr : (Region.ready .any ops listed).contains i = true := by kernel_rfl)
    (hsub : ∀ w, Gam av bor w0 loc X w → Gam av bor w0 loc0 X0 w := by (first | exact fun _ h => h | exact fun _ h => (h.drop (List.nil_sublist _)).imp (fun _ _ => trivial) | exact fun _ h => h.drop (by (first | exact List.Sublist.refl _ | exact List.Sublist.cons _ (List.Sublist.refl _) | exact List.Sublist.cons _ (List.Sublist.cons _ (List.Sublist.refl _)) | exact List.Sublist.cons _ (List.Sublist.cons _ (List.Sublist.cons _ (List.Sublist.refl _))))) | exact fun _ h => h.imp (fun _ h => h.1) | exact fun _ h => (h.drop (by (first | exact List.Sublist.refl _ | exact List.Sublist.cons _ (List.Sublist.refl _) | exact List.Sublist.cons _ (List.Sublist.cons _ (List.Sublist.refl _)) | exact List.Sublist.cons _ (List.Sublist.cons _ (List.Sublist.cons _ (List.Sublist.refl _)))))).imp (fun _ h => h.1) | exact fun _ h => (h.drop (by (first | exact List.Sublist.refl _ | exact List.Sublist.cons _ (List.Sublist.refl _) | exact List.Sublist.cons _ (List.Sublist.cons _ (List.Sublist.refl _)) | exact List.Sublist.cons _ (List.Sublist.cons _ (List.Sublist.cons _ (List.Sublist.refl _)))))).imp (fun _ h => h.1.1))) (hg : gdU ops E g = true := by rfl) (hd : Nat.blt n N = true := by rfl)
    (h : Aw P N av bor w0 loc0 X0 ops fuel (listed.setIfInBounds i true) ⟨(n, undef) :: E, loc, X⟩ k) : Aw P N av bor w0 loc0 X0 ops (fuel + 1) listed ⟨E, loc, X⟩ k := ⟨fun a w ok => by
  have ok' := ok.put (d := some n) (by have h1 : n < N := Nat.le_of_ble_eq_true hd; simpa [inB] using h1) undef
  exact wpAnyH_take hi hs hf hr (fun _ _ _ h => h) (Or.inr ⟨gdU_wanted ok (o := ⟨some n, o, ty, pos, af, g⟩) hg, rfl⟩) (hsub w ok.gam) (h.run _ _ ok')⟩
/-- A guard that is not decided: both ways. -/
theorem aw_guard (i : Nat) (hi : ops[i]? = some ⟨some n, o, ty, pos, af, g⟩ := by rfl) (hg : gdB ops E g = some (bb, want) := by rfl) (ht : bb = true → Aw P N av bor w0 loc0 X0 ops fuel listed ⟨E, loc, X⟩ k) (hf : bb = false → Aw P N av bor w0 loc0 X0 ops fuel listed ⟨E, loc, X⟩ k) :
    Aw P N av bor w0 loc0 X0 ops fuel listed ⟨E, loc, X⟩ k := by
  cases bb
  · exact hf rfl
  · exact ht rfl
theorem cw_draw0 {id : Nat} {l : List Oper} (hm : P.follows .mixedOrders = true) (h : Aw P N av bor w0 loc X l.toArray l.length (Array.replicate l.length false) ⟨E, loc, X⟩ (K .normal)) :
    Cw P N av bor w0 (.region id l.toArray true) ⟨E, loc, X⟩ K := cw_draw loc X hm h

theorem aw_fin {A : Prop} (h : A) (hsub : ∀ w, Gam av bor w0 loc X w → Gam av bor w0 loc0 X0 w := by (first | exact fun _ h => h | exact fun _ h => (h.drop (List.nil_sublist _)).imp (fun _ _ => trivial) | exact fun _ h => h.drop (by (first | exact List.Sublist.refl _ | exact List.Sublist.cons _ (List.Sublist.refl _) | exact List.Sublist.cons _ (List.Sublist.cons _ (List.Sublist.refl _)) | exact List.Sublist.cons _ (List.Sublist.cons _ (List.Sublist.cons _ (List.Sublist.refl _))))) | exact fun _ h => h.imp (fun _ h => h.1) | exact fun _ h => (h.drop (by (first | exact List.Sublist.refl _ | exact List.Sublist.cons _ (List.Sublist.refl _) | exact List.Sublist.cons _ (List.Sublist.cons _ (List.Sublist.refl _)) | exact List.Sublist.cons _ (List.Sublist.cons _ (List.Sublist.cons _ (List.Sublist.refl _)))))).imp (fun _ h => h.1) | exact fun _ h => (h.drop (by (first | exact List.Sublist.refl _ | exact List.Sublist.cons _ (List.Sublist.refl _) | exact List.Sublist.cons _ (List.Sublist.cons _ (List.Sublist.refl _)) | exact List.Sublist.cons _ (List.Sublist.cons _ (List.Sublist.cons _ (List.Sublist.refl _)))))).imp (fun _ h => h.1.1))) : (∀ w, Gam av bor w0 loc X w → Gam av bor w0 loc0 X0 w) ∧ A := ⟨hsub, h⟩
theorem aw_op {i : Nat} {o : Oper} (hi : ops[i]? = some o := by rfl)
    (h : Sw P N av bor w0 ops [o] ⟨E, loc, X⟩ (fun s => (∀ w, Gam av bor w0 s.loc s.ext w → Gam av bor w0 loc0 X0 w) ∧ Aw P N av bor w0 loc0 X0 ops fuel (listed.setIfInBounds i true) s k)) :
    ∀ a w, Ok N av bor w0 ⟨E, loc, X⟩ a w → wpOp P ops (post N av bor w0 (only k)) i (fun a' w' => Gam av bor w0 loc0 X0 w' ∧ wpAnyH P .any ops (post N av bor w0 (only k)) (Gam av bor w0 loc0 X0) fuel (listed.setIfInBounds i true) a' w') a w := fun a w ok => by
  have h1 := h.run a w ok
  simp only [wpList] at h1
  unfold wpOp
  simp only [hi]
  have done : ∀ a w, post N av bor w0 (only (fun s => (∀ w, Gam av bor w0 s.loc s.ext w → Gam av bor w0 loc0 X0 w) ∧ Aw P N av bor w0 loc0 X0 ops fuel (listed.setIfInBounds i true) s k)) .normal a w →
      Gam av bor w0 loc0 X0 w ∧ wpAnyH P .any ops (post N av bor w0 (only k)) (Gam av bor w0 loc0 X0) fuel (listed.setIfInBounds i true) a w := by
    rintro a w ⟨s, ⟨h2, h3⟩, ok'⟩
    exact ⟨h2 w ok'.gam, h3.run a w ok'⟩
  split
  · rename_i hw
    simp only [hw, if_true] at h1
    rcases h1 with h1 | ⟨_, _, _, h1⟩
    · exact .inl (oper_wp_mono done h1)
    · exact h1.elim
  · rename_i hw
    simp only [hw] at h1
    exact done _ _ h1
/-- Just one operation may come up. -/
theorem aw_step (i : Nat) {o : Oper} (hi : ops[i]? = some o := by rfl) (hr : Region.ready .any ops listed = [i] := by kernel_rfl)
    (h : Sw P N av bor w0 ops [o] ⟨E, loc, X⟩ (fun s => (∀ w, Gam av bor w0 s.loc s.ext w → Gam av bor w0 loc0 X0 w) ∧ Aw P N av bor w0 loc0 X0 ops fuel (listed.setIfInBounds i true) s k)) :
    Aw P N av bor w0 loc0 X0 ops (fuel + 1) listed ⟨E, loc, X⟩ k := ⟨fun a w ok => wpAnyH_all hr (by simp) fun j hj => by
  rw [List.mem_singleton] at hj
  subst hj
  exact aw_op hi h a w ok⟩
/-- One of two. -/
theorem aw_two (i j : Nat) {o o' : Oper} (hi : ops[i]? = some o := by rfl) (hj : ops[j]? = some o' := by rfl) (hr : Region.ready .any ops listed = [i, j] := by kernel_rfl)
    (h : Sw P N av bor w0 ops [o] ⟨E, loc, X⟩ (fun s => (∀ w, Gam av bor w0 s.loc s.ext w → Gam av bor w0 loc0 X0 w) ∧ Aw P N av bor w0 loc0 X0 ops fuel (listed.setIfInBounds i true) s k))
    (h' : Sw P N av bor w0 ops [o'] ⟨E, loc, X⟩ (fun s => (∀ w, Gam av bor w0 s.loc s.ext w → Gam av bor w0 loc0 X0 w) ∧ Aw P N av bor w0 loc0 X0 ops fuel (listed.setIfInBounds j true) s k)) :
    Aw P N av bor w0 loc0 X0 ops (fuel + 1) listed ⟨E, loc, X⟩ k := ⟨fun a w ok => wpAnyH_all hr (by simp) fun x hx => by
  rcases List.mem_cons.1 hx with rfl | hx
  · exact aw_op hi h a w ok
  · rw [List.mem_singleton] at hx
    subst hx
    exact aw_op hj h' a w ok⟩
theorem aw_done (hr : Region.ready .any ops listed = [] := by kernel_rfl) (h : k ⟨E, loc, X⟩) : Aw P N av bor w0 loc0 X0 ops fuel listed ⟨E, loc, X⟩ k := ⟨fun a w ok => wpAnyH_done hr ⟨_, h, ok⟩ fuel⟩
/-- Ways meet again: behind x one of the states 'M i'. -/
theorem cw_cut {ι : Type} (M : ι → St) {x y : Code} {st : St} (h1 : Cw P N av bor w0 x st (thn (fun s => ∃ i, ∀ a w, Ok N av bor w0 s a w → Ok N av bor w0 (M i) a w) K)) (h2 : ∀ i, Cw P N av bor w0 y (M i) K) :
    Cw P N av bor w0 (.seq x y) st K := cw_seq (cw_mono (fun e s h => by
  cases e with
  | normal =>
    obtain ⟨i, hi⟩ := h
    exact cw_to hi (h2 i)
  | _ => exact h) h1)
theorem meet {ι : Type} {M : ι → St} {s : St} (i : ι) (h : ∀ a w, Ok N av bor w0 s a w → Ok N av bor w0 (M i) a w) : thn (fun s => ∃ i, ∀ a w, Ok N av bor w0 s a w → Ok N av bor w0 (M i) a w) K .normal s := ⟨i, h⟩
end
end Go.Proofs.YtfpojkoddcdojaaGreatDoor.Sy
