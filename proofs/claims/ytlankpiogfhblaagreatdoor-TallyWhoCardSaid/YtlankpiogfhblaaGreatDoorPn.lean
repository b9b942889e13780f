/- Contracts of tally.Who and tally.Of. -/
import Derived.Test.YtlankpiogfhblaaGreatDoorPm
import Derived.Test.YtlankpiogfhblaaGreatDoorMa
set_option linter.unusedVariables false
set_option linter.unusedSimpArgs false
namespace Go.Proofs.YtlankpiogfhblaaGreatDoor
open Go Go.Proofs Sy
section
variable {P : Program} {N : Nat} {av bor : List Nat} {w0 : World} {ops : Array Oper} {rest : List Oper} {kk : St → Prop} {E : Env} {loc : List Res} {X : World → Prop} {x y : Operand} {t t2 : TypeId}
variable {n : Nat} {ty : TypeId} {pos : String} {af : Array Edge} {g : Option (Nat × Bool)} {bb want : Bool}
theorem sy_neqTT {k : IntKind} {a b : Int} (hx : ev E x = some (.int k a) := by rfl) (hy : ev E y = some (.int k b) := by rfl) (hab : ¬ a = b := by decide) (hg : gdB ops E g = some (bb, want) := by rfl) (hbb : bb = want := by (first | with_reducible rfl | with_reducible assumption | with_reducible exact Bool.not_false | with_reducible exact Bool.not_true)) (hd : Nat.blt n N = true := by rfl) (h : Sw P N av bor w0 ops rest ⟨(n, .bool true) :: E, loc, X⟩ kk) :
    Sw P N av bor w0 ops (⟨some n, .binOp .neq t x y t2, ty, pos, af, g⟩ :: rest) ⟨E, loc, X⟩ kk := sy_neq (hx := hx) (hy := hy) (hg := hg) (hbb := hbb) (hd := hd) (h := by
      have e : ∀ u, u = Value.bool true → Sw P N av bor w0 ops rest ⟨(n, u) :: E, loc, X⟩ kk := fun u hu => hu ▸ h
      exact e _ (by simp [hab]))
end
instance : TyAgg Tryz.prog 33 3 := ⟨by kernel_rfl⟩
theorem actB_can (l : List ChainD) (p : PostD) (kind : Int) (ks : List ByteArray) (c : ChainD) : actB l p.can kind ks c = actB l p kind ks c := rfl
theorem actF_can (l : List ChainD) (p : PostD) (kind : Int) : ∀ i, actF l p.can kind i = actF l p kind i
  | 0 => rfl
  | i + 1 => by rw [actF, actF, actF_can l p kind i, actB_can]
theorem actorsV_can (l : List ChainD) (p : PostD) (kind : Int) : actorsV l p.can kind = actorsV l p kind := by rw [actorsV, actorsV, actF_can]
theorem actorsV_len (l : List ChainD) (p : PostD) (kind : Int) : (actorsV l p kind).length ≤ l.length := by
  have h := actF_len l p kind l.length
  rw [actorsV]
  simpa [sortB] using h
/-- The post that a tally is for, where it is known and not gone. -/
def liveV (l : List ChainD) (id : ByteArray) : Option PostD := match findPV l id with
  | some p => bif p.gone then none else some p
  | none => none
theorem live_none {l : List ChainD} {id : ByteArray} (h : (!(findPV l id).isSome) = true) : liveV l id = none := by
  rw [liveV]
  cases hf : findPV l id with
  | none => rfl
  | some p => rw [hf] at h; cases h
theorem live_gone {l : List ChainD} {id : ByteArray} {p : PostD} (hp : p.can = (findPV l id).getD PostD.zero) (h : (!(findPV l id).isSome) = false) (hg : p.gone = true) : liveV l id = none := by
  rw [liveV]
  cases hf : findPV l id with
  | none => rfl
  | some q =>
    rw [hf] at hp
    obtain rfl : p.can = q := hp
    show (bif p.gone then none else some p.can) = none
    rw [hg, cond_true]
theorem live_some {l : List ChainD} {id : ByteArray} {p : PostD} (hp : p.can = (findPV l id).getD PostD.zero) (h : (!(findPV l id).isSome) = false) (hg : p.gone = false) : liveV l id = some p.can := by
  rw [liveV]
  cases hf : findPV l id with
  | none => rw [hf] at h; cases h
  | some q =>
    rw [hf] at hp
    obtain rfl : p.can = q := hp
    show (bif p.gone then none else some p.can) = some p.can
    rw [hg, cond_false]
/-- tally.Who. -/
def whoV (l : List ChainD) (id : ByteArray) (kind : Int) : List ByteArray := bif decide (kind = 5) || decide (kind = 4) then (match liveV l id with
  | some p => actorsV l p kind
  | none => []) else []
set_option maxHeartbeats 4000000 in
theorem who_mk (s : SlV) (l : List ChainD) (id : ByteArray) (kind : Int) (hok : ∀ c ∈ l, ActsOk c.actsL) (hlen : ∀ c ∈ l, c.actsL.length ≤ 1000000) (hids : ∀ c ∈ l, c.id.size ≤ maxLen) (hll : l.length ≤ 1000000) :
    Mk Tryz.prog 7 #[s.v, .string id, .int .i64 kind] (fun w => Chains w s l ∧ Glob w) fun u X' => ∃ so : SlV, u = so.v ∧ so.n = (whoV l id kind).length ∧ ∀ w, X' w → Strs w so (whoV l id kind) := by
  refine mk_of_cw2 (args := [_, _, _]) _ Tryz.func7 rfl Tryz.ntmps7 rfl fun av bor w0 => ?_
  have hnil : ∀ w, Strs w ⟨none, 0, 0⟩ [] := fun w => rowsD_nil w 1
  by_cases hk : kind = 5 ∨ kind = 4
  · have hkb : (decide (kind = 5) || decide (kind = 4)) = true := by rcases hk with h | h <;> simp [h]
    rw [whoV, hkb, cond_true]
    rcases hk with rfl | rfl
    all_goals
      repeat' (first | refine sy_neqF (hab := by omega) (h := ?_) | refine sy_neqTT (hab := by omega) (h := ?_) | apply sw_nil | apply cw_seq | apply cw_reg | refine sy_move (h := ?_) | refine sy_assign (h := ?_) | refine sy_fld (h := ?_) | refine sy_ld (h := ?_) | refine sy_ldAll (h := ?_) | refine sy_pick_t (h := ?_) | refine sy_pick_f (h := ?_) | refine sy_not (h := ?_) | refine sy_neq (h := ?_) | refine sy_sneq (h := ?_) | refine sy_extract (h := ?_) | refine sw_skipT (h := ?_) | refine sw_skipF (h := ?_) | refine sw_skipU (h := ?_) | refine sw_alloc (h := fun _ => ?_) | refine sw_st1 (h := ?_) | refine sw_stAll (h := ?_) | refine cw_cond_t (ht := ?_) | refine cw_cond_f (hf := ?_) | apply cw_skip | apply cw_block | apply cw_ret | apply cw_exit | refine sy_bneq (h := ?_) | refine sy_arrA (h := ?_) | refine sy_strI (h := ?_) | (refine sw_mk (hc := findP_mk s l id hok hlen) (hX := fun w h => h) (h := fun v1 X1 h1 => ?_); obtain ⟨p, rfl, hp⟩ := h1) | (refine sw_mk (hc := actors_mk s l p _ hok hlen hids hll) (hX := fun w h => h.1) (h := fun v2 X2 h2 => ?_); obtain ⟨so, rfl, hn, hw⟩ := h2) | ((fail_if_success (refine sw_chk (h := ?_))); refine sw_guard (ht := ?_) (hf := ?_); all_goals (intro hx_; first | have := of_decide_eq_true hx_ | have := of_decide_eq_false hx_ | skip)) | (refine cw_cond (ht := ?_) (hf := ?_); all_goals (intro hx_; first | have := of_decide_eq_true hx_ | have := of_decide_eq_false hx_ | skip)))
    all_goals first
      | (rw [live_none (by assumption)]; exact ends_ret (res_tmp rfl rfl) ⟨⟨none, 0, 0⟩, rfl, rfl, fun w _ => hnil w⟩)
      | (rw [live_gone (by assumption) (by assumption) (by assumption)]; exact ends_ret (res_tmp rfl rfl) ⟨⟨none, 0, 0⟩, rfl, rfl, fun w _ => hnil w⟩)
      | (rw [live_some (by assumption) (by assumption) (by assumption)]; exact ends_ret (res_tmp rfl rfl) ⟨so, rfl, by rw [hn, ← actorsV_can], fun w h => by simp only [actorsV_can]; exact hw w h.1.2⟩)
  · have hkb : (decide (kind = 5) || decide (kind = 4)) = false := by simp only [not_or] at hk; simp [hk]
    rw [whoV, hkb, cond_false]
    repeat' (first | refine sy_neqTT (hab := by omega) (h := ?_) | apply sw_nil | apply cw_seq | apply cw_reg | refine sy_move (h := ?_) | refine sy_assign (h := ?_) | refine sy_fld (h := ?_) | refine sy_ld (h := ?_) | refine sy_ldAll (h := ?_) | refine sy_pick_t (h := ?_) | refine sy_pick_f (h := ?_) | refine sy_not (h := ?_) | refine sy_neq (h := ?_) | refine sy_sneq (h := ?_) | refine sy_extract (h := ?_) | refine sw_skipT (h := ?_) | refine sw_skipF (h := ?_) | refine sw_skipU (h := ?_) | refine sw_alloc (h := fun _ => ?_) | refine sw_st1 (h := ?_) | refine sw_stAll (h := ?_) | refine cw_cond_t (ht := ?_) | refine cw_cond_f (hf := ?_) | apply cw_skip | apply cw_block | apply cw_ret | apply cw_exit | refine sy_bneq (h := ?_) | refine sy_arrA (h := ?_) | refine sy_strI (h := ?_) | ((fail_if_success (refine sw_chk (h := ?_))); refine sw_guard (ht := ?_) (hf := ?_); all_goals (intro hx_; first | have := of_decide_eq_true hx_ | have := of_decide_eq_false hx_ | skip)) | (refine cw_cond (ht := ?_) (hf := ?_); all_goals (intro hx_; first | have := of_decide_eq_true hx_ | have := of_decide_eq_false hx_ | skip)))
    exact ends_ret (res_tmp rfl rfl) ⟨⟨none, 0, 0⟩, rfl, rfl, fun w _ => hnil w⟩
def repB (l : List ChainD) (id au : ByteArray) (q : PostD) : Bool := decide (q.kind = 2) && seqB q.object id && !q.gone && admV l q.author au
structure TalD where
  likes : Nat
  boosts : Nat
  replies : Nat
def TalD.cells (t : TalD) : List Value := [.int .i64 (t.likes : Nat), .int .i64 (t.boosts : Nat), .int .i64 (t.replies : Nat)]
def TalD.v (t : TalD) : Value := .agg t.cells.toArray
/-- tally.Of. -/
def tallyV (l : List ChainD) (id : ByteArray) : TalD := match liveV l id with
  | some p => ⟨(actorsV l p 5).length, (actorsV l p 4).length, (l.flatMap postsV).countP (repB l id p.author)⟩
  | none => ⟨0, 0, 0⟩
structure TalI (Q : List PostD) (B : PostD → Bool) where
  k : Nat
  hk : k ≤ Q.length
  n : Nat
  hn : n = (Q.take k).countP B
set_option maxHeartbeats 8000000 in
theorem tally_pu (s : SlV) (l : List ChainD) (id : ByteArray) (hok : ∀ c ∈ l, ActsOk c.actsL) (hlen : ∀ c ∈ l, c.actsL.length ≤ 1000) (hids : ∀ c ∈ l, c.id.size ≤ maxLen) (hll : l.length ≤ 1000) :
    Pu Tryz.prog 8 #[s.v, .string id] (fun w => Chains w s l ∧ Glob w) (tallyV l id).v := by
  refine pu_of_cw (args := [_, _]) _ Tryz.func8 rfl Tryz.ntmps8 rfl fun av bor w0 => ?_
  have hlen2 : ∀ c ∈ l, c.actsL.length ≤ 1000000 := fun c hc => Nat.le_trans (hlen c hc) (by decide)
  have hll2 : l.length ≤ 1000000 := by omega
  repeat' (first | apply sw_nil | apply cw_seq | apply cw_reg | refine sy_move (h := ?_) | refine sy_assign (h := ?_) | refine sy_fld (h := ?_) | refine sy_ld (h := ?_) | refine sy_ldAll (h := ?_) | refine sy_pick_t (h := ?_) | refine sy_pick_f (h := ?_) | refine sy_not (h := ?_) | refine sy_eql (h := ?_) | refine sy_lss (h := ?_) | refine sy_seql (h := ?_) | refine sy_slen (h := ?_) | refine sy_len (h := ?_) | refine sy_extract (h := ?_) | refine sy_add (h := ?_) | refine sw_skipT (h := ?_) | refine sw_skipF (h := ?_) | refine sw_skipU (h := ?_) | refine sw_alloc (h := fun _ => ?_) | refine sw_st1 (h := ?_) | refine sw_stAll (h := ?_) | refine cw_cond_t (ht := ?_) | refine cw_cond_f (hf := ?_) | apply cw_skip | apply cw_block | apply cw_ret | apply cw_exit | refine sy_beql (h := ?_) | refine sy_arrA (h := ?_) | refine sy_strI (h := ?_) | (refine sw_mk (hc := findP_mk s l id hok hlen2) (hX := fun w h => h) (h := fun v1 X1 h1 => ?_); obtain ⟨p, rfl, hp⟩ := h1) | (refine sy_build (h := ?_)) | ((fail_if_success (refine sw_chk (h := ?_))); refine sw_guard (ht := ?_) (hf := ?_); all_goals (intro hx_; first | have := of_decide_eq_true hx_ | have := of_decide_eq_false hx_ | skip)) | (refine cw_cond (ht := ?_) (hf := ?_); all_goals (intro hx_; first | have := of_decide_eq_true hx_ | have := of_decide_eq_false hx_ | skip)))
  · rw [tallyV, live_none (by assumption)]
    exact ends_ret (res_cell rfl rfl (by (repeat (first | exact List.mem_cons_self | apply List.mem_cons_of_mem))) (by rfl)) rfl
  · rw [tallyV, live_gone hp (by assumption) (by assumption)]
    exact ends_ret (res_cell rfl rfl (by (repeat (first | exact List.mem_cons_self | apply List.mem_cons_of_mem))) (by rfl)) rfl
  rename_i b4 b5 hx1
  have hV : tallyV l id = ⟨(actorsV l p 5).length, (actorsV l p 4).length, (l.flatMap postsV).countP (repB l id p.author)⟩ := by
    rw [tallyV, live_some hp hx1 (by assumption)]
    show TalD.mk (actorsV l p.can 5).length (actorsV l p.can 4).length _ = _
    rw [actorsV_can, actorsV_can]
    rfl
  rw [hV]
  have h5 := actorsV_len l p 5
  have h4 := actorsV_len l p 4
  generalize hL : (actorsV l p 5).length = L at *
  generalize hB : (actorsV l p 4).length = Bn at *
  refine cw_meet (ι := Nat) (fun b7 => ⟨[(0, s.v), (1, .string id), (4, .pointer (some ⟨b4, 0, none⟩)), (5, .pointer (some ⟨b5, 0, none⟩)), (7, .pointer (some ⟨b7, 0, none⟩))], [cel b7 33 (TalD.cells ⟨L, Bn, 0⟩), cel b5 28 p.cells, cel b4 33 (TalD.cells ⟨0, 0, 0⟩)], fun w => Chains w s l ∧ Glob w⟩) ?_ fun b7 => ?_
  · (refine cw_draw [cel b5 28 p.cells, cel b4 33 (TalD.cells ⟨0, 0, 0⟩)] (fun w => (Chains w s l ∧ Glob w) ∧ X1 w) (by kernel_rfl) ?_)
    all_goals (refine aw_dtake 0 (h := ?_))
    all_goals (refine aw_dtake 1 (h := ?_))
    all_goals (refine aw_dtake 4 (h := ?_))
    all_goals (refine aw_dtake 5 (h := ?_))
    all_goals (refine aw_two 2 9 (h := ?_) (h' := ?_); (focus (((first | (refine sw_mk (hc := actors_mk s l p 5 hok hlen2 hids hll2) (hX := fun w h => by first | exact h.1 | exact h.1.1 | exact h.1.1.1) (h := fun v2 X2 h2 => ?_); obtain ⟨so2, rfl, hn2, hw2⟩ := h2) | (refine sw_mk (hc := actors_mk s l p 4 hok hlen2 hids hll2) (hX := fun w h => by first | exact h.1 | exact h.1.1 | exact h.1.1.1) (h := fun v3 X3 h3 => ?_); obtain ⟨so3, rfl, hn3, hw3⟩ := h3)); apply sw_nil; refine aw_dfin (h := ?_)); all_goals ((refine aw_dtake 3 (h := ?_)); all_goals (refine aw_two 6 9 (h := ?_) (h' := ?_); (focus (((first | (refine sw_mk (hc := actors_mk s l p 5 hok hlen2 hids hll2) (hX := fun w h => by first | exact h.1 | exact h.1.1 | exact h.1.1.1) (h := fun v2 X2 h2 => ?_); obtain ⟨so2, rfl, hn2, hw2⟩ := h2) | (refine sw_mk (hc := actors_mk s l p 4 hok hlen2 hids hll2) (hX := fun w h => by first | exact h.1 | exact h.1.1 | exact h.1.1.1) (h := fun v3 X3 h3 => ?_); obtain ⟨so3, rfl, hn3, hw3⟩ := h3)); apply sw_nil; refine aw_dfin (h := ?_)); all_goals ((refine aw_dtake 7 (h := ?_)); all_goals (first | refine aw_dtake 8 (h := ?_) | refine aw_dtake 8 (hy := by (first | (apply y_build; rfl; rfl))) (h := ?_)); all_goals (refine aw_step 9 (h := ?_); (first | (refine sw_alloc (h := fun _ => ?_))); apply sw_nil; refine aw_dfin (h := ?_)); all_goals (refine aw_step 10 (h := ?_); (first | (refine sw_st1 (h := ?_)) | (refine sw_stAll (h := ?_))); apply sw_nil; refine aw_dfin (h := ?_)); all_goals (refine aw_done (h := ?_))))); rotate_right; (focus (((first | (refine sw_alloc (h := fun _ => ?_))); apply sw_nil; refine aw_dfin (h := ?_)); all_goals ((refine aw_step 6 (h := ?_); (first | (refine sw_mk (hc := actors_mk s l p 5 hok hlen2 hids hll2) (hX := fun w h => by first | exact h.1 | exact h.1.1 | exact h.1.1.1) (h := fun v2 X2 h2 => ?_); obtain ⟨so2, rfl, hn2, hw2⟩ := h2) | (refine sw_mk (hc := actors_mk s l p 4 hok hlen2 hids hll2) (hX := fun w h => by first | exact h.1 | exact h.1.1 | exact h.1.1.1) (h := fun v3 X3 h3 => ?_); obtain ⟨so3, rfl, hn3, hw3⟩ := h3)); apply sw_nil; refine aw_dfin (h := ?_)); all_goals (refine aw_dtake 7 (h := ?_)); all_goals (first | refine aw_dtake 8 (h := ?_) | refine aw_dtake 8 (hy := by (first | (apply y_build; rfl; rfl))) (h := ?_)); all_goals (refine aw_step 10 (h := ?_); (first | (refine sw_st1 (h := ?_)) | (refine sw_stAll (h := ?_))); apply sw_nil; refine aw_dfin (h := ?_)); all_goals (refine aw_done (h := ?_))))))))); rotate_right; (focus (((first | (refine sw_alloc (h := fun _ => ?_))); apply sw_nil; refine aw_dfin (h := ?_)); all_goals ((refine aw_step 2 (h := ?_); (first | (refine sw_mk (hc := actors_mk s l p 5 hok hlen2 hids hll2) (hX := fun w h => by first | exact h.1 | exact h.1.1 | exact h.1.1.1) (h := fun v2 X2 h2 => ?_); obtain ⟨so2, rfl, hn2, hw2⟩ := h2) | (refine sw_mk (hc := actors_mk s l p 4 hok hlen2 hids hll2) (hX := fun w h => by first | exact h.1 | exact h.1.1 | exact h.1.1.1) (h := fun v3 X3 h3 => ?_); obtain ⟨so3, rfl, hn3, hw3⟩ := h3)); apply sw_nil; refine aw_dfin (h := ?_)); all_goals (refine aw_dtake 3 (h := ?_)); all_goals (refine aw_step 6 (h := ?_); (first | (refine sw_mk (hc := actors_mk s l p 5 hok hlen2 hids hll2) (hX := fun w h => by first | exact h.1 | exact h.1.1 | exact h.1.1.1) (h := fun v2 X2 h2 => ?_); obtain ⟨so2, rfl, hn2, hw2⟩ := h2) | (refine sw_mk (hc := actors_mk s l p 4 hok hlen2 hids hll2) (hX := fun w h => by first | exact h.1 | exact h.1.1 | exact h.1.1.1) (h := fun v3 X3 h3 => ?_); obtain ⟨so3, rfl, hn3, hw3⟩ := h3)); apply sw_nil; refine aw_dfin (h := ?_)); all_goals (refine aw_dtake 7 (h := ?_)); all_goals (first | refine aw_dtake 8 (h := ?_) | refine aw_dtake 8 (hy := by (first | (apply y_build; rfl; rfl))) (h := ?_)); all_goals (refine aw_step 10 (h := ?_); (first | (refine sw_st1 (h := ?_)) | (refine sw_stAll (h := ?_))); apply sw_nil; refine aw_dfin (h := ?_)); all_goals (refine aw_done (h := ?_))))))
    all_goals exact ⟨_, fun a w ok => ok_sub (by first | exact ⟨rfl, rfl, rfl, rfl, rfl, trivial⟩ | (subst hL hB; rw [← hn2, ← hn3]; exact ⟨rfl, rfl, rfl, rfl, rfl, trivial⟩)) (by first | exact List.Sublist.refl _ | (rw [← hL, ← hB, ← hn2, ← hn3]; exact List.Sublist.refl _) | (rw [← hL, ← hB, ← hn2, ← hn3]; exact (List.Sublist.refl _))) (fun w h => by first | exact h.1 | exact h.1.1 | exact h.1.1.1) _ _ ok⟩
  repeat' (first | apply sw_nil | apply cw_seq | apply cw_reg | refine sy_move (h := ?_) | refine sy_assign (h := ?_) | refine sy_fld (h := ?_) | refine sy_ld (h := ?_) | refine sy_ldAll (h := ?_) | refine sy_pick_t (h := ?_) | refine sy_pick_f (h := ?_) | refine sy_not (h := ?_) | refine sy_eql (h := ?_) | refine sy_lss (h := ?_) | refine sy_seql (h := ?_) | refine sy_slen (h := ?_) | refine sy_len (h := ?_) | refine sy_extract (h := ?_) | refine sy_add (h := ?_) | refine sw_skipT (h := ?_) | refine sw_skipF (h := ?_) | refine sw_skipU (h := ?_) | refine sw_alloc (h := fun _ => ?_) | refine sw_st1 (h := ?_) | refine sw_stAll (h := ?_) | refine cw_cond_t (ht := ?_) | refine cw_cond_f (hf := ?_) | apply cw_skip | apply cw_block | apply cw_ret | apply cw_exit | refine sy_beql (h := ?_) | refine sy_arrA (h := ?_) | refine sy_strI (h := ?_) | (refine sw_mk (hc := allP_mk s l hok hlen hll) (hX := fun w h => h) (h := fun v4 X4 h4 => ?_); obtain ⟨s1, Q, rfl, hQ, hQl, hw⟩ := h4))
  refine cw_know (p := s1.n = Q.length ∧ s1.n ≤ maxLen ∧ (0 < Q.length → s1.p.isSome = true)) (fun w h => ⟨by simpa using RowsD.len (hw w h.2), Nat.le_trans (RowsD.cap (hw w h.2)) (RowsD.max (hw w h.2)), fun h0 => (RowsD.row (hw w h.2) 0 Q[0].cells (by simp [List.getElem?_eq_getElem h0])).2.1⟩) fun ⟨hl1, hm1, hp1⟩ => ?_
  simp only [maxLen] at hm1
  refine cw_loop (ι := TalI Q (repB l id p.author)) (fun i => ⟨[(0, s.v), (1, .string id), (4, .pointer (some ⟨b4, 0, none⟩)), (5, .pointer (some ⟨b5, 0, none⟩)), (7, .pointer (some ⟨b7, 0, none⟩)), (33, s1.v), (34, .int .i64 (s1.n : Nat)), (35, .int .i64 (i.k : Nat))], [cel b7 33 [.int .i64 (L : Nat), .int .i64 (Bn : Nat), .int .i64 (i.n : Nat)], cel b5 28 p.cells, cel b4 33 (TalD.cells ⟨0, 0, 0⟩)], fun w => (Chains w s l ∧ Glob w) ∧ X4 w⟩) (fun i => Q.length - i.k) ⟨0, Nat.zero_le _, 0, rfl⟩ (ok_sub ⟨rfl, rfl, rfl, rfl, rfl, rfl, rfl, rfl, trivial⟩ (List.Sublist.refl _) fun _ h => h) fun i => ?_
  obtain ⟨k, hk, n, hn⟩ := i
  simp only
  have hnm : n ≤ 1000000 := by have := List.countP_le_length (p := repB l id p.author) (l := Q.take k); rw [← hn, List.length_take] at this; omega
  repeat' (first | apply sw_nil | apply cw_seq | apply cw_reg | refine sy_move (h := ?_) | refine sy_assign (h := ?_) | refine sy_fld (h := ?_) | refine sy_ld (h := ?_) | refine sy_ldAll (h := ?_) | refine sy_pick_t (h := ?_) | refine sy_pick_f (h := ?_) | refine sy_not (h := ?_) | refine sy_eql (h := ?_) | refine sy_lss (h := ?_) | refine sy_seql (h := ?_) | refine sy_slen (h := ?_) | refine sy_len (h := ?_) | refine sy_extract (h := ?_) | refine sy_add (h := ?_) | refine sw_skipT (h := ?_) | refine sw_skipF (h := ?_) | refine sw_skipU (h := ?_) | refine sw_alloc (h := fun _ => ?_) | refine sw_st1 (h := ?_) | refine sw_stAll (h := ?_) | refine cw_cond_t (ht := ?_) | refine cw_cond_f (hf := ?_) | apply cw_skip | apply cw_block | apply cw_ret | apply cw_exit | refine sy_beql (h := ?_) | refine sy_arrA (h := ?_) | refine sy_strI (h := ?_) | ((fail_if_success (refine sw_chk (h := ?_))); refine sw_guard (ht := ?_) (hf := ?_); all_goals (intro hx_; first | have := of_decide_eq_true hx_ | have := of_decide_eq_false hx_ | skip)) | (refine cw_cond (ht := ?_) (hf := ?_); all_goals (intro hx_; first | have := of_decide_eq_true hx_ | have := of_decide_eq_false hx_ | skip)))
  · have hlt : k < Q.length := by omega
    have hp' := hp1 (by omega)
    obtain ⟨q, hq⟩ : ∃ q, Q[k]? = some q := ⟨_, List.getElem?_eq_getElem hlt⟩
    have htk : (Q.take (k + 1)).countP (repB l id p.author) = n + (bif repB l id p.author q then 1 else 0) := by
      rw [List.take_add_one, hq, List.countP_append, ← hn, Option.toList_some, List.countP_cons, List.countP_nil]
      cases repB l id p.author q <;> rfl
    have had := admitted_pu s l q.author p hok
    have hno : repB l id p.author q = false → (Q.take (k + 1)).countP (repB l id p.author) = n := fun h => by rw [htk, h]; rfl
    by_cases h2 : q.kind = 2
    · cases ho : seqB q.object id with
      | false =>
        repeat' (first | refine sy_eqlT (hab := by omega) (h := ?_) | refine sy_seqlV _ (hv := ho) (h := ?_) | apply sw_nil | apply cw_seq | apply cw_reg | refine sy_move (h := ?_) | refine sy_assign (h := ?_) | refine sy_fld (h := ?_) | refine sy_ld (h := ?_) | refine sy_ldAll (h := ?_) | refine sy_pick_t (h := ?_) | refine sy_pick_f (h := ?_) | refine sy_not (h := ?_) | refine sy_eql (h := ?_) | refine sy_lss (h := ?_) | refine sy_seql (h := ?_) | refine sy_slen (h := ?_) | refine sy_len (h := ?_) | refine sy_extract (h := ?_) | refine sy_add (h := ?_) | refine sw_skipT (h := ?_) | refine sw_skipF (h := ?_) | refine sw_skipU (h := ?_) | refine sw_alloc (h := fun _ => ?_) | refine sw_st1 (h := ?_) | refine sw_stAll (h := ?_) | refine cw_cond_t (ht := ?_) | refine cw_cond_f (hf := ?_) | apply cw_skip | apply cw_block | apply cw_ret | apply cw_exit | refine sy_beql (h := ?_) | refine sy_arrA (h := ?_) | refine sy_strI (h := ?_) | (refine sy_idxX (q := k * 11) (h := ?_)) | (refine sy_ldXs (cs := q.cells) (hF := fun w h => RowsD.row (hw w h.2) k q.cells (by simp [hq])) (h := ?_)) | ((fail_if_success (refine sw_chk (h := ?_))); refine sw_guard (ht := ?_) (hf := ?_); all_goals (intro hx_; first | have := of_decide_eq_true hx_ | have := of_decide_eq_false hx_ | skip)) | (refine cw_cond (ht := ?_) (hf := ?_); all_goals (intro hx_; first | have := of_decide_eq_true hx_ | have := of_decide_eq_false hx_ | skip)))
        exact ⟨(⟨k + 1, hlt, n, (hno (by rw [repB, ho]; simp)).symm⟩ : TalI Q _), (by show Q.length - (k + 1) < Q.length - k; omega), ok_sub ⟨rfl, rfl, rfl, rfl, rfl, rfl, rfl, rfl, trivial⟩ (List.Sublist.cons _ (List.Sublist.refl _)) fun _ h => h⟩
      | true =>
        cases ha : admV l q.author p.author with
        | false =>
          rw [ha] at had
          repeat' (first | refine sy_eqlT (hab := by omega) (h := ?_) | refine sy_seqlV _ (hv := ho) (h := ?_) | apply sw_nil | apply cw_seq | apply cw_reg | refine sy_move (h := ?_) | refine sy_assign (h := ?_) | refine sy_fld (h := ?_) | refine sy_ld (h := ?_) | refine sy_ldAll (h := ?_) | refine sy_pick_t (h := ?_) | refine sy_pick_f (h := ?_) | refine sy_not (h := ?_) | refine sy_eql (h := ?_) | refine sy_lss (h := ?_) | refine sy_seql (h := ?_) | refine sy_slen (h := ?_) | refine sy_len (h := ?_) | refine sy_extract (h := ?_) | refine sy_add (h := ?_) | refine sw_skipT (h := ?_) | refine sw_skipF (h := ?_) | refine sw_skipU (h := ?_) | refine sw_alloc (h := fun _ => ?_) | refine sw_st1 (h := ?_) | refine sw_stAll (h := ?_) | refine cw_cond_t (ht := ?_) | refine cw_cond_f (hf := ?_) | apply cw_skip | apply cw_block | apply cw_ret | apply cw_exit | refine sy_beql (h := ?_) | refine sy_arrA (h := ?_) | refine sy_strI (h := ?_) | (refine sy_idxX (q := k * 11) (h := ?_)) | (refine sy_ldXs (cs := q.cells) (hF := fun w h => RowsD.row (hw w h.2) k q.cells (by simp [hq])) (h := ?_)) | (refine sw_pu (hc := had) (hX := fun w h => h.1) (h := ?_)) | ((fail_if_success (refine sw_chk (h := ?_))); refine sw_guard (ht := ?_) (hf := ?_); all_goals (intro hx_; first | have := of_decide_eq_true hx_ | have := of_decide_eq_false hx_ | skip)) | (refine cw_cond (ht := ?_) (hf := ?_); all_goals (intro hx_; first | have := of_decide_eq_true hx_ | have := of_decide_eq_false hx_ | skip)))
          all_goals exact ⟨(⟨k + 1, hlt, n, (hno (by rw [repB, ha]; simp)).symm⟩ : TalI Q _), (by show Q.length - (k + 1) < Q.length - k; omega), ok_sub ⟨rfl, rfl, rfl, rfl, rfl, rfl, rfl, rfl, trivial⟩ (List.Sublist.cons _ (List.Sublist.refl _)) fun _ h => h⟩
        | true =>
          rw [ha] at had
          repeat' (first | refine sy_eqlT (hab := by omega) (h := ?_) | refine sy_seqlV _ (hv := ho) (h := ?_) | apply sw_nil | apply cw_seq | apply cw_reg | refine sy_move (h := ?_) | refine sy_assign (h := ?_) | refine sy_fld (h := ?_) | refine sy_ld (h := ?_) | refine sy_ldAll (h := ?_) | refine sy_pick_t (h := ?_) | refine sy_pick_f (h := ?_) | refine sy_not (h := ?_) | refine sy_eql (h := ?_) | refine sy_lss (h := ?_) | refine sy_seql (h := ?_) | refine sy_slen (h := ?_) | refine sy_len (h := ?_) | refine sy_extract (h := ?_) | refine sy_add (h := ?_) | refine sw_skipT (h := ?_) | refine sw_skipF (h := ?_) | refine sw_skipU (h := ?_) | refine sw_alloc (h := fun _ => ?_) | refine sw_st1 (h := ?_) | refine sw_stAll (h := ?_) | refine cw_cond_t (ht := ?_) | refine cw_cond_f (hf := ?_) | apply cw_skip | apply cw_block | apply cw_ret | apply cw_exit | refine sy_beql (h := ?_) | refine sy_arrA (h := ?_) | refine sy_strI (h := ?_) | (refine sy_idxX (q := k * 11) (h := ?_)) | (refine sy_ldXs (cs := q.cells) (hF := fun w h => RowsD.row (hw w h.2) k q.cells (by simp [hq])) (h := ?_)) | (refine sw_pu (hc := had) (hX := fun w h => h.1) (h := ?_)) | ((fail_if_success (refine sw_chk (h := ?_))); refine sw_guard (ht := ?_) (hf := ?_); all_goals (intro hx_; first | have := of_decide_eq_true hx_ | have := of_decide_eq_false hx_ | skip)) | (refine cw_cond (ht := ?_) (hf := ?_); all_goals (intro hx_; first | have := of_decide_eq_true hx_ | have := of_decide_eq_false hx_ | skip)))
          all_goals first
            | exact ⟨(⟨k + 1, hlt, n, (hno (by rw [repB, (show q.gone = true from by simpa using hx_)]; simp)).symm⟩ : TalI Q _), (by show Q.length - (k + 1) < Q.length - k; omega), ok_sub ⟨rfl, rfl, rfl, rfl, rfl, rfl, rfl, rfl, trivial⟩ (List.Sublist.cons _ (List.Sublist.refl _)) fun _ h => h⟩
            | exact ⟨(⟨k + 1, hlt, n + 1, by rw [htk, repB, ho, ha, decide_eq_true h2, (show q.gone = false from by simpa using hx_)]; rfl⟩ : TalI Q _), (by show Q.length - (k + 1) < Q.length - k; omega), ok_sub ⟨rfl, rfl, rfl, rfl, rfl, rfl, rfl, rfl, trivial⟩ (List.Sublist.cons _ (List.Sublist.refl _)) fun _ h => h⟩
    · repeat' (first | refine sy_eqlF (hab := by omega) (h := ?_) | apply sw_nil | apply cw_seq | apply cw_reg | refine sy_move (h := ?_) | refine sy_assign (h := ?_) | refine sy_fld (h := ?_) | refine sy_ld (h := ?_) | refine sy_ldAll (h := ?_) | refine sy_pick_t (h := ?_) | refine sy_pick_f (h := ?_) | refine sy_not (h := ?_) | refine sy_eql (h := ?_) | refine sy_lss (h := ?_) | refine sy_seql (h := ?_) | refine sy_slen (h := ?_) | refine sy_len (h := ?_) | refine sy_extract (h := ?_) | refine sy_add (h := ?_) | refine sw_skipT (h := ?_) | refine sw_skipF (h := ?_) | refine sw_skipU (h := ?_) | refine sw_alloc (h := fun _ => ?_) | refine sw_st1 (h := ?_) | refine sw_stAll (h := ?_) | refine cw_cond_t (ht := ?_) | refine cw_cond_f (hf := ?_) | apply cw_skip | apply cw_block | apply cw_ret | apply cw_exit | refine sy_beql (h := ?_) | refine sy_arrA (h := ?_) | refine sy_strI (h := ?_) | (refine sy_idxX (q := k * 11) (h := ?_)) | (refine sy_ldXs (cs := q.cells) (hF := fun w h => RowsD.row (hw w h.2) k q.cells (by simp [hq])) (h := ?_)) | ((fail_if_success (refine sw_chk (h := ?_))); refine sw_guard (ht := ?_) (hf := ?_); all_goals (intro hx_; first | have := of_decide_eq_true hx_ | have := of_decide_eq_false hx_ | skip)) | (refine cw_cond (ht := ?_) (hf := ?_); all_goals (intro hx_; first | have := of_decide_eq_true hx_ | have := of_decide_eq_false hx_ | skip)))
      exact ⟨(⟨k + 1, hlt, n, (hno (by rw [repB, decide_eq_false h2]; rfl)).symm⟩ : TalI Q _), (by show Q.length - (k + 1) < Q.length - k; omega), ok_sub ⟨rfl, rfl, rfl, rfl, rfl, rfl, rfl, rfl, trivial⟩ (List.Sublist.cons _ (List.Sublist.refl _)) fun _ h => h⟩
  · have hkE : k = Q.length := by omega
    have hfin : (l.flatMap postsV).countP (repB l id p.author) = n := by
      rw [← hQ.countP_eq, List.countP_map, hn, hkE, List.take_length]
      rfl
    rw [hfin]
    exact ends_ret (res_cell rfl rfl (by (repeat (first | exact List.mem_cons_self | apply List.mem_cons_of_mem))) (by rfl)) rfl
end Go.Proofs.YtlankpiogfhblaaGreatDoor
