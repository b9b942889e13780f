/- Contract of post.Of. -/
import Derived.Test.YtlankpiogfhblaaGreatDoorPf
import Derived.Test.YtlankpiogfhblaaGreatDoorPb
set_option linter.unusedVariables false
set_option linter.unusedSimpArgs false
namespace Go.Proofs.YtlankpiogfhblaaGreatDoor
open Go Go.Proofs Sy
section
variable {P : Program} {N : Nat} {av bor : List Nat} {w0 : World} {E : Env} {loc : List Res} {X : World → Prop} {K : Exit → St → Prop} {c : Code}
theorem gam_edR {w : World} : ∀ (P : List PostD), (∀ p ∈ P, p.ed = ⟨none, 0, 0⟩ ∧ p.edL = []) → Gam av bor w0 loc X w → Gam av bor w0 (P.map edR ++ loc) X w
  | [], _, G => G
  | p :: P, h, G => by
    have h1 := h p List.mem_cons_self
    have e : edR p = orow 3 1 (.slice none 0 0) 0 [] := by rw [edR, h1.1, h1.2]; rfl
    rw [List.map_cons, e]
    exact (gam_edR P (fun q hq => h q (List.mem_cons_of_mem _ hq)) G).nilRow _ _
/-- An own row of edits for each post: none of them holds anything yet. -/
theorem cw_edR (L : List PostD) (hz : ∀ p ∈ L, p.ed = ⟨none, 0, 0⟩ ∧ p.edL = []) (h : Cw P N av bor w0 c ⟨E, L.map edR ++ loc, X⟩ K) : Cw P N av bor w0 c ⟨E, loc, X⟩ K := Cw.mk fun a w ok => h.run a w (ok.via fun M G => by
  have := gam_edR L hz G
  rwa [← List.append_assoc] at this)
theorem cw_perm {l : List Res} (hs : loc.Perm l) (h : Cw P N av bor w0 c ⟨E, l, X⟩ K) : Cw P N av bor w0 c ⟨E, loc, X⟩ K := Cw.mk fun a w ok => h.run a w (ok.via fun M G => G.perm (hs.append_right M))
theorem y_makeFunc1 {st : St} {ty : TypeId} {fn : Fn} {xs : List Operand} {vs : List Value} (hx : evs st.env xs = some vs) : Sy.Yields P N av bor w0 st (.makeFunc fn xs.toArray #[]) ty (.func fn vs.toArray #[]) := Sy.Yields.mk fun A w ok d pos af g => by
  have e := evs_eval (E := st.env) (loc := st.loc) (X := st.ext) ok xs vs hx
  have e1 : xs.toArray.map A.eval = vs.toArray := by rw [List.map_toArray, e]
  simp [execOp, Instr.makeFunc, e1, e]
theorem cw_knowAll {p : Prop} (hp : ∀ w, (∀ r ∈ loc, r.F w) → p) (h : p → Cw P N av bor w0 c ⟨E, loc, X⟩ K) : Cw P N av bor w0 c ⟨E, loc, X⟩ K := Cw.mk fun a w ok => (h (hp w fun r hr => (ok.gam.here r hr).now)).run a w ok
end
theorem PostTo.len {P Q : List PostD} (h : PostTo P Q) : Q.length = P.length := by have := congrArg List.length h.to; simpa using this
theorem PostTo.trans {P Q R : List PostD} (h : PostTo P Q) (k : PostTo Q R) : PostTo P R := ⟨k.to.trans h.to⟩
theorem PostTo.pos {P Q : List PostD} (h : PostTo P Q) (j : Nat) : posP Q j = posP P j := by
  have e : ∀ L : List PostD, posP L j = (L.map fun p => (p.to, p.toL, p.pos)).findIdx? fun t => t.2.2 == j := fun L => by rw [posP, List.findIdx?_map]; rfl
  rw [e, e, h.to]
theorem PostTo.mem {P Q : List PostD} (h : PostTo P Q) {p : PostD} (hp : p ∈ Q) : ∃ q ∈ P, q.to = p.to ∧ q.toL = p.toL := by
  have h1 : (p.to, p.toL, p.pos) ∈ Q.map fun p => (p.to, p.toL, p.pos) := List.mem_map_of_mem (f := fun p : PostD => (p.to, p.toL, p.pos)) hp
  rw [h.to] at h1
  obtain ⟨q, hq, e⟩ := List.mem_map.1 h1
  simp only [Prod.mk.injEq] at e
  exact ⟨q, hq, e.1, e.2.1⟩
theorem modP_ed {P : List PostD} {o : Option Nat} {f : PostD → PostD} {m : Nat} (h : ∀ p ∈ P, p.edL.length ≤ m) (hf : ∀ p : PostD, (f p).edL.length ≤ p.edL.length + 1) : ∀ p ∈ modP P o f, p.edL.length ≤ m + 1 := fun p hp => by
  cases o with
  | none => exact Nat.le_succ_of_le (h p hp)
  | some n =>
    rcases List.mem_or_eq_of_mem_set hp with hp | rfl
    · exact Nat.le_succ_of_le (h p hp)
    · refine Nat.le_trans (hf _) ?_
      by_cases hn : n < P.length
      · have := h (P.getD n PostD.zero) (by rw [List.getD_eq_getElem?_getD, List.getElem?_eq_getElem hn]; exact List.getElem_mem hn)
        omega
      · rw [List.getD_eq_getElem?_getD, List.getElem?_eq_none (by omega)]
        exact Nat.succ_le_succ (Nat.zero_le m)
theorem openF_ed (c : ChainD) : ∀ i, ∀ p ∈ openF c i, p.edL = []
  | 0, p, h => (List.not_mem_nil h).elim
  | i + 1, p, h => by
    rw [openF] at h
    rcases List.mem_append.1 h with h | h
    · exact openF_ed c i p h
    · revert h
      cases postK (c.actsL.getD i ActD.zero).kind with
      | true => intro h; rw [cond_true, List.mem_singleton] at h; subst h; rfl
      | false => intro h; exact (List.not_mem_nil h).elim
theorem editP_ed (a : ActD) (i : Nat) (p : PostD) : (editP a i p).edL.length ≤ p.edL.length + 1 := by
  rw [editP]
  cases editB a p with
  | true => rw [cond_true]; show (p.edL ++ [(i : Int)]).length ≤ _; rw [List.length_append]; exact Nat.le_refl _
  | false => exact Nat.le_succ _
theorem ofP_ed (c : ChainD) : ∀ i, ∀ p ∈ ofP c i, p.edL.length ≤ i
  | 0, p, h => by rw [openF_ed c _ p h]; exact Nat.le_refl 0
  | i + 1, p, h => by
    have ih := ofP_ed c i
    rw [ofP, stepP] at h
    revert h
    cases decide ((c.actsL.getD i ActD.zero).kind = 13) with
    | true => exact fun h => modP_ed (f := goneP) ih (fun p => Nat.le_succ _) p h
    | false =>
      cases decide ((c.actsL.getD i ActD.zero).kind = 14) with
      | true => exact fun h => modP_ed (f := editP _ _) ih (editP_ed _ _) p h
      | false => exact fun h => Nat.le_succ_of_le (ih p h)
theorem editP_can (a : ActD) (i : Nat) (p : PostD) : (editP a i p).can = editP a i p.can := by
  have h : editB a p.can = editB a p := rfl
  rw [editP, editP, h]
  cases editB a p <;> rfl
theorem editP_pos (a : ActD) (i : Nat) (p : PostD) : (editP a i p).pos = p.pos := by
  rw [editP]
  cases editB a p <;> rfl
theorem permD (c m2 m1 b1 po b0 : Res) (M : List Res) : (M ++ ([c, m2, m1, b1, po] ++ [b0])).Perm ((c :: m2 :: m1 :: po :: M) ++ [b1, b0]) := by
  have h1 : ([c, m2, m1, b1, po] ++ [b0]).Perm ([c, m2, m1, po] ++ [b1, b0]) := (((List.Perm.swap po b1 [b0]).cons m1).cons m2).cons c
  have h2 := (List.perm_append_comm (l₁ := M) (l₂ := [c, m2, m1, b1, po] ++ [b0])).trans (h1.append_right M)
  rw [List.append_assoc] at h2
  exact h2.trans ((List.perm_append_comm (l₁ := [b1, b0]) (l₂ := M)).append_left [c, m2, m1, po])
def PostsAt (c : ChainD) (u : Value) (X : World → Prop) : Prop := ∃ (s : SlV) (P : List PostD), u = s.v ∧ P.map PostD.can = postsV c ∧ P.length ≤ c.actsL.length ∧ ∀ w, X w → RowsD w 11 s (P.map PostD.cells)
structure OfI (c : ChainD) (P : List PostD) where
  k : Nat
  hk : k ≤ c.actsL.length
  Q : List PostD
  hQ : Q.map PostD.can = ofP c k
  hT : PostTo P Q
set_option maxHeartbeats 8000000 in
theorem of_mk (c : ChainD) (hc : ActsOk c.actsL) (hcl : c.actsL.length ≤ 1000000) : Mk Tryz.prog 15 #[c.v] (fun w => c.at_ w ∧ Glob w) (PostsAt c) := by
  refine mk_of_cw2 (args := [_]) _ Tryz.func15 rfl Tryz.ntmps15 rfl fun av bor w0 => ?_
  refine cw_know (p := c.acts.n = c.actsL.length ∧ c.acts.n ≤ maxLen ∧ (0 < c.actsL.length → c.acts.p.isSome = true)) (fun w h => ⟨h.1.len_, h.1.max_, h.1.some_⟩) fun ⟨hl, hm, hp⟩ => ?_
  simp only [maxLen] at hm
  repeat' (first | apply sw_nil | apply cw_seq | apply cw_reg | refine sy_move (h := ?_) | refine sy_assign (h := ?_) | refine sy_nilCheck (h := ?_) | refine sy_fld (h := ?_) | refine sy_ld (h := ?_) | refine sy_ldAll (h := ?_) | refine sy_eql (h := ?_) | refine sy_lss (h := ?_) | refine sy_seql (h := ?_) | refine sy_slen (h := ?_) | refine sy_len (h := ?_) | refine sy_add (h := ?_) | refine sw_alloc (h := fun _ => ?_) | refine sw_box (h := fun _ => ?_) | refine sw_st1 (h := ?_) | refine sw_stAll (h := ?_) | refine cw_cond_t (ht := ?_) | refine cw_cond_f (hf := ?_) | apply cw_skip | apply cw_block | apply cw_ret | apply cw_exit | refine sy_beql (h := ?_) | refine sy_arrA (h := ?_) | refine sy_strI (h := ?_))
  refine sw_fn0 (hc := open_ct c hc hcl) (hX := fun w h => h) (h := ?_)
  rintro _ _ X1 ⟨r, b, b1, q1, q2, hrk, rfl, rfl, hX1⟩
  repeat' (first | apply sw_nil | apply cw_seq | apply cw_reg | refine sy_move (h := ?_) | refine sy_assign (h := ?_) | refine sy_nilCheck (h := ?_) | refine sy_fld (h := ?_) | refine sy_ld (h := ?_) | refine sy_ldAll (h := ?_) | refine sy_eql (h := ?_) | refine sy_lss (h := ?_) | refine sy_seql (h := ?_) | refine sy_slen (h := ?_) | refine sy_len (h := ?_) | refine sy_add (h := ?_) | refine sw_alloc (h := fun _ => ?_) | refine sw_box (h := fun _ => ?_) | refine sw_st1 (h := ?_) | refine sw_stAll (h := ?_) | refine cw_cond_t (ht := ?_) | refine cw_cond_f (hf := ?_) | apply cw_skip | apply cw_block | apply cw_ret | apply cw_exit | refine sy_beql (h := ?_) | refine sy_arrA (h := ?_) | refine sy_strI (h := ?_))
  have hrP : r.P.map PostD.can = openF c c.actsL.length := by rw [← hrk]; exact r.hP
  have hrl : r.P.length ≤ c.actsL.length := by
    have h1 := openF_len c c.actsL.length
    rw [← hrP, List.length_map] at h1
    exact h1
  have hpl : ∀ d, mget r.pl d = (idxV c.actsL d).map fun (j : Nat) => Value.int .i64 (j : Int) := fun d => by
    rw [r.hpl d, hrk, List.take_length]
  have hsn : r.s.n = r.P.length := r.hn
  have hnum := r.hnum
  have hz := r.hz
  generalize hs : r.s = s at *
  generalize r.P = P at *
  generalize r.pl = pl at *
  generalize r.num = num at *
  rename_i b0
  refine cw_edR P hz ?_
  refine cw_perm (permD _ _ _ _ _ _ _) ?_
  refine cw_loop (ι := OfI c P) (fun i => ⟨[(3, .pointer (some ⟨b, 0, none⟩)), (9, c.acts.v), (10, .int .i64 (c.acts.n : Nat)), (11, .int .i64 (i.k : Nat))], cel b 86 (regC c s.v q1 q2) :: mapr q2 pl :: mapr q1 num :: postR s i.Q :: i.Q.map edR, fun w => (c.at_ w ∧ Glob w) ∧ ∀ p ∈ P, Strs w p.to p.toL⟩) (fun i => c.actsL.length - i.k)
    ⟨0, Nat.zero_le _, P, hrP, ⟨rfl⟩⟩ (ok_sub ⟨rfl, rfl, rfl, rfl, trivial⟩ (List.sublist_append_left _ _) fun w h => ⟨h.1, hX1 w h.2⟩) fun i => ?_
  obtain ⟨k, hk, Q, hQ, hT⟩ := i
  simp only
  have hQl := hT.len
  have hsQ : s.n = Q.length := by omega
  refine cw_knowAll (p := ∀ p ∈ Q, p.edL.length = p.ed.n) (fun w hr p hp => by
    have h1 := (hr (edR p) (List.mem_cons_of_mem _ (List.mem_cons_of_mem _ (List.mem_cons_of_mem _ (List.mem_cons_of_mem _ (List.mem_map_of_mem hp)))))).1
    simpa using h1) fun hed => ?_
  have hsto : ∀ w, (∀ p ∈ P, Strs w p.to p.toL) → ∀ p ∈ Q, Strs w p.to p.toL := fun w h p hp => by
    obtain ⟨q, hq, e1, e2⟩ := hT.mem hp
    rw [← e1, ← e2]
    exact h q hq
  have hnQ : ∀ j : Nat, mget num (j : Int) = (posP Q j).map fun (n : Nat) => Value.int .i64 (n : Int) := fun j => by rw [hT.pos j]; exact hnum j
  have hem : ∀ p ∈ Q, p.ed.n ≤ 1000000 := fun p hp => by
    have h1 := ofP_ed c k p.can (by rw [← hQ]; exact List.mem_map_of_mem hp)
    have h2 : p.edL.length ≤ k := h1
    have h3 := hed p hp
    omega
  repeat' (first | apply sw_nil | apply cw_seq | apply cw_reg | refine sy_move (h := ?_) | refine sy_assign (h := ?_) | refine sy_nilCheck (h := ?_) | refine sy_fld (h := ?_) | refine sy_ld (h := ?_) | refine sy_ldAll (h := ?_) | refine sy_eql (h := ?_) | refine sy_lss (h := ?_) | refine sy_seql (h := ?_) | refine sy_slen (h := ?_) | refine sy_len (h := ?_) | refine sy_add (h := ?_) | refine sw_alloc (h := fun _ => ?_) | refine sw_box (h := fun _ => ?_) | refine sw_st1 (h := ?_) | refine sw_stAll (h := ?_) | refine cw_cond_t (ht := ?_) | refine cw_cond_f (hf := ?_) | apply cw_skip | apply cw_block | apply cw_ret | apply cw_exit | refine sy_beql (h := ?_) | refine sy_arrA (h := ?_) | refine sy_strI (h := ?_) | (refine cw_cond (ht := ?_) (hf := ?_); all_goals (intro hx_; first | have := of_decide_eq_true hx_ | have := of_decide_eq_false hx_ | skip)))
  · have hlt : k < c.actsL.length := by omega
    have hp' := hp (by omega)
    obtain ⟨x, hx⟩ : ∃ x, c.actsL[k]? = some x := ⟨_, List.getElem?_eq_getElem hlt⟩
    have hxD : c.actsL.getD k ActD.zero = x := by rw [List.getD_eq_getElem?_getD, hx]; rfl
    by_cases h13 : x.kind = 13
    · repeat' (first | refine sy_eqlT (hab := by omega) (h := ?_) | refine sy_eqlF (hab := by omega) (h := ?_) | apply sw_nil | apply cw_seq | apply cw_reg | refine sy_move (h := ?_) | refine sy_assign (h := ?_) | refine sy_nilCheck (h := ?_) | refine sy_fld (h := ?_) | refine sy_ld (h := ?_) | refine sy_ldAll (h := ?_) | refine sy_eql (h := ?_) | refine sy_lss (h := ?_) | refine sy_seql (h := ?_) | refine sy_slen (h := ?_) | refine sy_len (h := ?_) | refine sy_add (h := ?_) | refine sw_alloc (h := fun _ => ?_) | refine sw_box (h := fun _ => ?_) | refine sw_st1 (h := ?_) | refine sw_stAll (h := ?_) | refine cw_cond_t (ht := ?_) | refine cw_cond_f (hf := ?_) | apply cw_skip | apply cw_block | apply cw_ret | apply cw_exit | refine sy_beql (h := ?_) | refine sy_arrA (h := ?_) | refine sy_strI (h := ?_) | (refine sy_idxX (q := k * 20) (h := ?_)) | (refine sy_ldXs (cs := x.cells) (hF := fun w h => Acts.get h.1.1 hx) (h := ?_)) | (refine sw_yield (y_makeFunc1 (xs := [_]) (vs := [_]) rfl) rfl rfl rfl ?_) | (refine cw_cond (ht := ?_) (hf := ?_); all_goals (intro hx_; first | have := of_decide_eq_true hx_ | have := of_decide_eq_false hx_ | skip)))
      rename_i b5
      refine sw_perm (List.perm_append_singleton _ _).symm ?_
      refine sw_fn (first := #[]) (caps := #[]) (pre := [cel b 86 (regC c s.v q1 q2), mapr q2 pl, mapr q1 num, postR s Q] ++ Q.map edR) (fr := [cel b5 47 x.cells]) (hc := refer_ct c s Q b q1 q2 k 28 inferInstance pl num x (goneP) hsQ hx (by omega) hpl hnQ hcl (by omega) (fun p => rfl) (fun p => rfl) (fun n p hn => remove_note _ s Q n p _ k hsQ hn)) (hX := fun w h => ⟨h.1, hsto w h.2⟩) (h := ?_)
      rintro _ _ X' ⟨rfl, Q', ex, hcan, hto, rfl⟩
      have HQ : Q'.map PostD.can = ofP c (k + 1) := by
        rw [hcan, ofP, stepP, hxD, decide_eq_true h13, cond_true, ← hQ, refV_can]
      repeat' (first | refine sy_eqlT (hab := by omega) (h := ?_) | refine sy_eqlF (hab := by omega) (h := ?_) | apply sw_nil | apply cw_seq | apply cw_reg | refine sy_move (h := ?_) | refine sy_assign (h := ?_) | refine sy_nilCheck (h := ?_) | refine sy_fld (h := ?_) | refine sy_ld (h := ?_) | refine sy_ldAll (h := ?_) | refine sy_eql (h := ?_) | refine sy_lss (h := ?_) | refine sy_seql (h := ?_) | refine sy_slen (h := ?_) | refine sy_len (h := ?_) | refine sy_add (h := ?_) | refine sw_alloc (h := fun _ => ?_) | refine sw_box (h := fun _ => ?_) | refine sw_st1 (h := ?_) | refine sw_stAll (h := ?_) | refine cw_cond_t (ht := ?_) | refine cw_cond_f (hf := ?_) | apply cw_skip | apply cw_block | apply cw_ret | apply cw_exit | refine sy_beql (h := ?_) | refine sy_arrA (h := ?_) | refine sy_strI (h := ?_) | (refine cw_cond (ht := ?_) (hf := ?_); all_goals (intro hx_; first | have := of_decide_eq_true hx_ | have := of_decide_eq_false hx_ | skip)))
      exact ⟨(⟨k + 1, hlt, Q', HQ, hT.trans hto⟩ : OfI c P), (by show c.actsL.length - (k + 1) < c.actsL.length - k; omega), ok_sub ⟨rfl, rfl, rfl, rfl, trivial⟩ ((List.sublist_append_right ex _).trans (List.sublist_append_left _ _)) fun w h => h.1⟩
    by_cases h14 : x.kind = 14
    · repeat' (first | refine sy_eqlT (hab := by omega) (h := ?_) | refine sy_eqlF (hab := by omega) (h := ?_) | apply sw_nil | apply cw_seq | apply cw_reg | refine sy_move (h := ?_) | refine sy_assign (h := ?_) | refine sy_nilCheck (h := ?_) | refine sy_fld (h := ?_) | refine sy_ld (h := ?_) | refine sy_ldAll (h := ?_) | refine sy_eql (h := ?_) | refine sy_lss (h := ?_) | refine sy_seql (h := ?_) | refine sy_slen (h := ?_) | refine sy_len (h := ?_) | refine sy_add (h := ?_) | refine sw_alloc (h := fun _ => ?_) | refine sw_box (h := fun _ => ?_) | refine sw_st1 (h := ?_) | refine sw_stAll (h := ?_) | refine cw_cond_t (ht := ?_) | refine cw_cond_f (hf := ?_) | apply cw_skip | apply cw_block | apply cw_ret | apply cw_exit | refine sy_beql (h := ?_) | refine sy_arrA (h := ?_) | refine sy_strI (h := ?_) | (refine sy_idxX (q := k * 20) (h := ?_)) | (refine sy_ldXs (cs := x.cells) (hF := fun w h => Acts.get h.1.1 hx) (h := ?_)) | (refine sw_yield (y_makeFunc1 (xs := [_]) (vs := [_]) rfl) rfl rfl rfl ?_) | (refine cw_cond (ht := ?_) (hf := ?_); all_goals (intro hx_; first | have := of_decide_eq_true hx_ | have := of_decide_eq_false hx_ | skip)))
      rename_i b5
      refine sw_perm (List.perm_append_singleton _ _).symm ?_
      refine sw_fn (first := #[]) (caps := #[]) (pre := [cel b 86 (regC c s.v q1 q2), mapr q2 pl, mapr q1 num, postR s Q] ++ Q.map edR) (fr := [cel b5 47 x.cells]) (hc := refer_ct c s Q b q1 q2 k 29 inferInstance pl num x (editP x k) hsQ hx (by omega) hpl hnQ hcl (by omega) (editP_can x k) (editP_pos x k) (fun n p hn => edit_note c s Q n p b q1 q2 k x hsQ hn hx (by omega) (hed p (List.mem_of_getElem? hn)).symm (hem p (List.mem_of_getElem? hn)))) (hX := fun w h => ⟨h.1, hsto w h.2⟩) (h := ?_)
      rintro _ _ X' ⟨rfl, Q', ex, hcan, hto, rfl⟩
      have HQ : Q'.map PostD.can = ofP c (k + 1) := by
        rw [hcan, ofP, stepP, hxD, decide_eq_false h13, cond_false, decide_eq_true h14, cond_true, ← hQ, refV_can]
      repeat' (first | refine sy_eqlT (hab := by omega) (h := ?_) | refine sy_eqlF (hab := by omega) (h := ?_) | apply sw_nil | apply cw_seq | apply cw_reg | refine sy_move (h := ?_) | refine sy_assign (h := ?_) | refine sy_nilCheck (h := ?_) | refine sy_fld (h := ?_) | refine sy_ld (h := ?_) | refine sy_ldAll (h := ?_) | refine sy_eql (h := ?_) | refine sy_lss (h := ?_) | refine sy_seql (h := ?_) | refine sy_slen (h := ?_) | refine sy_len (h := ?_) | refine sy_add (h := ?_) | refine sw_alloc (h := fun _ => ?_) | refine sw_box (h := fun _ => ?_) | refine sw_st1 (h := ?_) | refine sw_stAll (h := ?_) | refine cw_cond_t (ht := ?_) | refine cw_cond_f (hf := ?_) | apply cw_skip | apply cw_block | apply cw_ret | apply cw_exit | refine sy_beql (h := ?_) | refine sy_arrA (h := ?_) | refine sy_strI (h := ?_) | (refine cw_cond (ht := ?_) (hf := ?_); all_goals (intro hx_; first | have := of_decide_eq_true hx_ | have := of_decide_eq_false hx_ | skip)))
      exact ⟨(⟨k + 1, hlt, Q', HQ, hT.trans hto⟩ : OfI c P), (by show c.actsL.length - (k + 1) < c.actsL.length - k; omega), ok_sub ⟨rfl, rfl, rfl, rfl, trivial⟩ ((List.sublist_append_right ex _).trans (List.sublist_append_left _ _)) fun w h => h.1⟩
    · have HQ : Q.map PostD.can = ofP c (k + 1) := by
        rw [ofP, stepP, hxD, decide_eq_false h13, cond_false, decide_eq_false h14, cond_false]
        exact hQ
      repeat' (first | refine sy_eqlF (hab := by omega) (h := ?_) | apply sw_nil | apply cw_seq | apply cw_reg | refine sy_move (h := ?_) | refine sy_assign (h := ?_) | refine sy_nilCheck (h := ?_) | refine sy_fld (h := ?_) | refine sy_ld (h := ?_) | refine sy_ldAll (h := ?_) | refine sy_eql (h := ?_) | refine sy_lss (h := ?_) | refine sy_seql (h := ?_) | refine sy_slen (h := ?_) | refine sy_len (h := ?_) | refine sy_add (h := ?_) | refine sw_alloc (h := fun _ => ?_) | refine sw_box (h := fun _ => ?_) | refine sw_st1 (h := ?_) | refine sw_stAll (h := ?_) | refine cw_cond_t (ht := ?_) | refine cw_cond_f (hf := ?_) | apply cw_skip | apply cw_block | apply cw_ret | apply cw_exit | refine sy_beql (h := ?_) | refine sy_arrA (h := ?_) | refine sy_strI (h := ?_) | (refine sy_idxX (q := k * 20) (h := ?_)) | (refine sy_ldXs (cs := x.cells) (hF := fun w h => Acts.get h.1.1 hx) (h := ?_)) | (refine cw_cond (ht := ?_) (hf := ?_); all_goals (intro hx_; first | have := of_decide_eq_true hx_ | have := of_decide_eq_false hx_ | skip)))
      exact ⟨(⟨k + 1, hlt, Q, HQ, hT⟩ : OfI c P), (by show c.actsL.length - (k + 1) < c.actsL.length - k; omega), ok_sub ⟨rfl, rfl, rfl, rfl, trivial⟩ (List.Sublist.cons _ (List.Sublist.refl _)) fun w h => h⟩
  · have hkE : k = c.actsL.length := by omega
    exact ends_ret (res_tmp rfl rfl) ⟨s, Q, rfl, by rw [hQ, hkE]; rfl, by omega, fun w h => rows_of_orow (h.2 (postR s Q) (List.mem_cons_of_mem _ (List.mem_cons_of_mem _ (List.mem_cons_of_mem _ List.mem_cons_self)))) (by simp [hsQ]) (cells11 Q)⟩
end Go.Proofs.YtlankpiogfhblaaGreatDoor
