/- Contracts: relation.of, Follows, Blocked. -/
import Derived.Test.YtlankpiogfhblaaGreatDoorMf
set_option linter.unusedVariables false
set_option linter.unusedSimpArgs false
namespace Go.Proofs.YtlankpiogfhblaaGreatDoor
open Go Go.Proofs Sy
theorem mget_setS : ∀ (ks : List ByteArray) (k : ByteArray), mget (setM ks) k = bif hasS ks k then some (.bool true) else none
  | [], _ => rfl
  | a :: ks, k => by
    have ih := mget_setS ks k
    have e : KeyT.eqb k a = seqB k a := Bool.eq_iff_iff.2 ((KeyT.eqb_iff k a).trans seqB_iff.symm)
    simp only [setM, List.map_cons, mget, hasS, List.any_cons, e] at ih ⊢
    cases seqB k a with
    | true => rfl
    | false => simpa using ih
section
variable {N : Nat} {av bor : List Nat} {w0 : World} {ops : Array Oper} {rest : List Oper} {k : St → Prop} {E : Env} {loc : List Res} {X : World → Prop} {x : Operand} {st : St}
variable {n : Nat} {ty : TypeId} {pos : String} {af : Array Edge} {g : Option (Nat × Bool)} {bb want : Bool}
theorem sy_lookS {m x : Operand} {q : Nat} {ks : List ByteArray} {kk : ByteArray} (hm : ev E m = some (.map (some q)) := by rfl) (hx : ev E x = some (.string kk) := by rfl) (hl : mapr q (setM ks) ∈ loc := by (repeat (first | exact List.mem_cons_self | apply List.mem_cons_of_mem))) (hg : gdB ops E g = some (bb, want) := by rfl) (hb : bb = want := by (first | with_reducible rfl | with_reducible assumption | with_reducible exact Bool.not_false | with_reducible exact Bool.not_true)) (hd : Nat.blt n N = true := by rfl)
    (h : Sw Tryz.prog N av bor w0 ops rest ⟨(n, .bool (hasS ks kk)) :: E, loc, X⟩ k) : Sw Tryz.prog N av bor w0 ops (⟨some n, .lookup 67 m x false, ty, pos, af, g⟩ :: rest) ⟨E, loc, X⟩ k := by
  refine sy_lookup1 (κ := ByteArray) (kk := kk) (o := _) hm hx (map_loc hl) (mget_setS ks kk) hg hb hd ?_
  have e : (bif hasS ks kk then some (Value.bool true) else none).getD (Value.bool false) = .bool (hasS ks kk) := by cases hasS ks kk <;> rfl
  exact e ▸ h
theorem y_fieldS2 (q1 q2 q3 q4 : Nat) (hx : ev st.env x = some (setsV q1 q2 q3 q4)) : Sy.Yields Tryz.prog N av bor w0 st (.field 69 x 2) ty (.map (some q3)) := Sy.Yields.mk fun A w ok d pos af g => by
  simp only [setsV] at hx
  simp [execOp, ok.eval hx, Instr.field, run_underlying Tryz.underlying69, asAgg, part, isAgg, run_underlying Tryz.underlying67]
theorem sy_fieldS2 {q1 q2 q3 q4 : Nat} (hx : ev E x = some (setsV q1 q2 q3 q4) := by rfl) (hg : gdB ops E g = some (bb, want) := by rfl) (hbb : bb = want := by (first | with_reducible rfl | with_reducible assumption | with_reducible exact Bool.not_false | with_reducible exact Bool.not_true)) (hd : Nat.blt n N = true := by rfl) (h : Sw Tryz.prog N av bor w0 ops rest ⟨(n, .map (some q3)) :: E, loc, X⟩ k) :
    Sw Tryz.prog N av bor w0 ops (⟨some n, .field 69 x 2, ty, pos, af, g⟩ :: rest) ⟨E, loc, X⟩ k := sw_yield (y_fieldS2 q1 q2 q3 q4 hx) hg hbb hd h
end
def chainC (l : List ChainD) (id : ByteArray) : ChainD := (findC l id).getD ChainD.zero
def tieC (l : List ChainD) (id : ByteArray) : TieS := tieV (chainC l id).actsL ((chainC l id).acts.n : Int)
theorem chainC_or (l : List ChainD) (id : ByteArray) : (chainC l id ∈ l ∧ (chainC l id).id = id) ∨ chainC l id = ChainD.zero := by
  unfold chainC
  cases h : findC l id with
  | none => exact .inr rfl
  | some c =>
    rw [findC] at h
    exact .inl ⟨List.mem_of_find?_eq_some h, seqB_iff.1 (List.find?_some (p := fun c : ChainD => seqB c.id id) h)⟩
theorem chainC_at {l : List ChainD} (id : ByteArray) {w : World} {s : SlV} (h : Chains w s l) : (chainC l id).at_ w := by
  rcases chainC_or l id with ⟨hm, _⟩ | hz
  · exact h.2 _ hm
  · rw [hz]; exact ⟨rowsD_nil w 20, fun a ha => (List.not_mem_nil ha).elim⟩
theorem chainC_ok {l : List ChainD} (id : ByteArray) (h : ∀ c ∈ l, ActsOk c.actsL) : ActsOk (chainC l id).actsL := by
  rcases chainC_or l id with ⟨hm, _⟩ | hz
  · exact h _ hm
  · rw [hz]; exact ⟨fun a ha => (List.not_mem_nil ha).elim, fun a ha => (List.not_mem_nil ha).elim⟩
theorem of_ct (s : SlV) (l : List ChainD) (id : ByteArray) (hok : ∀ c ∈ l, ActsOk c.actsL) :
    Ct Tryz.prog 18 #[s.v, .string id] [] (fun w => Chains w s l ∧ Glob w) fun u R _ => ∃ q1 q2 q3 q4, u = setsV q1 q2 q3 q4 ∧ R = setsR q1 q2 q3 q4 (tieC l id) := by
  refine ct_of_cwS (args := [_, _]) (Post := fun u R => ∃ q1 q2 q3 q4, u = setsV q1 q2 q3 q4 ∧ R = setsR q1 q2 q3 q4 (tieC l id)) _ Tryz.func18 rfl Tryz.ntmps18 rfl fun av bor w0 => ?_
  have hD := chainC_ok id hok
  have hti := tie_ct (chainC l id) hD ((chainC l id).acts.n : Int)
  have hfi : Pu Tryz.prog 9 #[s.v, .string id] (fun w => Chains w s l) (.tuple #[(chainC l id).v, .bool (findC l id).isSome]) := find_pu s l id
  generalize hB : (findC l id).isSome = B at *
  repeat' (first | apply sw_nil | apply cw_seq | apply cw_reg | refine sy_move (h := ?_) | refine sy_assign (h := ?_) | refine sy_fld (h := ?_) | refine sy_ld (h := ?_) | refine sy_ldAll (h := ?_) | refine sy_slen (h := ?_) | refine sy_len (h := ?_) | refine sy_extract (h := ?_) | refine sw_alloc (h := fun _ => ?_) | refine sw_st1 (h := ?_) | refine sw_stAll (h := ?_) | refine cw_cond_t (ht := ?_) | refine cw_cond_f (hf := ?_) | apply cw_skip | apply cw_block | apply cw_ret | apply cw_exit | refine sy_arrA (h := ?_) | refine sy_strI (h := ?_) | (refine sw_pu (hc := hfi) (hX := fun _ h => h.1) (h := ?_)) | (refine cw_cond (ht := ?_) (hf := ?_); all_goals (intro hx_; first | have := of_decide_eq_true hx_ | have := of_decide_eq_false hx_ | skip)))
  refine sw_fn0 (hc := hti) (hX := fun w h => ⟨chainC_at id h.1, h.2⟩) (h := ?_)
  rintro _ _ X' ⟨q1, q2, q3, q4, rfl, rfl⟩
  repeat' (first | apply sw_nil | apply cw_seq | apply cw_reg | refine sy_move (h := ?_) | refine sy_assign (h := ?_) | refine sy_fld (h := ?_) | refine sy_ld (h := ?_) | refine sy_ldAll (h := ?_) | refine sy_slen (h := ?_) | refine sy_len (h := ?_) | refine sy_extract (h := ?_) | refine sw_alloc (h := fun _ => ?_) | refine sw_st1 (h := ?_) | refine sw_stAll (h := ?_) | refine cw_cond_t (ht := ?_) | refine cw_cond_f (hf := ?_) | apply cw_skip | apply cw_block | apply cw_ret | apply cw_exit | refine sy_arrA (h := ?_) | refine sy_strI (h := ?_) | (refine cw_cond (ht := ?_) (hf := ?_); all_goals (intro hx_; first | have := of_decide_eq_true hx_ | have := of_decide_eq_false hx_ | skip)))
  exact ends_ret (res_cell rfl rfl (by (repeat (first | exact List.mem_cons_self | apply List.mem_cons_of_mem))) (by rfl)) ⟨_, List.sublist_append_left _ _, q1, q2, q3, q4, rfl, rfl⟩
def blockedV (l : List ChainD) (a b : ByteArray) : Bool := hasS (tieC l a).b b || hasS (tieC l b).b a
theorem blocked_pu (s : SlV) (l : List ChainD) (a b : ByteArray) (hok : ∀ c ∈ l, ActsOk c.actsL) : Pu Tryz.prog 10 #[s.v, .string a, .string b] (fun w => Chains w s l ∧ Glob w) (.bool (blockedV l a b)) := by
  refine pu_of_cw (args := [_, _, _]) _ Tryz.func10 rfl Tryz.ntmps10 rfl fun av bor w0 => ?_
  have h1 := of_ct s l a hok
  have h2 := of_ct s l b hok
  unfold blockedV
  generalize tieC l a = ta at *
  generalize tieC l b = tb at *
  repeat' (first | apply sw_nil | apply cw_seq | apply cw_reg | refine sy_move (h := ?_) | refine sy_assign (h := ?_) | refine sy_pick_t (h := ?_) | refine sy_pick_f (h := ?_) | refine sw_skipT (h := ?_) | refine sw_skipF (h := ?_) | refine sw_skipU (h := ?_) | refine cw_cond_t (ht := ?_) | refine cw_cond_f (hf := ?_) | apply cw_skip | apply cw_block | apply cw_ret | apply cw_exit | refine sy_arrA (h := ?_) | refine sy_strI (h := ?_) | ((fail_if_success (refine sw_chk (h := ?_))); refine sw_guard (ht := ?_) (hf := ?_); all_goals (intro hx_; first | have := of_decide_eq_true hx_ | have := of_decide_eq_false hx_ | skip)) | (refine cw_cond (ht := ?_) (hf := ?_); all_goals (intro hx_; first | have := of_decide_eq_true hx_ | have := of_decide_eq_false hx_ | skip)))
  refine sw_fn0 (hc := h1) (hX := fun w h => h) (h := ?_)
  rintro _ _ X1 ⟨q1, q2, q3, q4, rfl, rfl⟩
  unfold setsR
  repeat' (first | apply sw_nil | apply cw_seq | apply cw_reg | refine sy_move (h := ?_) | refine sy_assign (h := ?_) | refine sy_pick_t (h := ?_) | refine sy_pick_f (h := ?_) | refine sw_skipT (h := ?_) | refine sw_skipF (h := ?_) | refine sw_skipU (h := ?_) | refine cw_cond_t (ht := ?_) | refine cw_cond_f (hf := ?_) | apply cw_skip | apply cw_block | apply cw_ret | apply cw_exit | refine sy_arrA (h := ?_) | refine sy_strI (h := ?_) | (refine sy_fieldS2 (h := ?_)) | (refine sy_lookS (h := ?_)) | ((fail_if_success (refine sw_chk (h := ?_))); refine sw_guard (ht := ?_) (hf := ?_); all_goals (intro hx_; first | have := of_decide_eq_true hx_ | have := of_decide_eq_false hx_ | skip)) | (refine cw_cond (ht := ?_) (hf := ?_); all_goals (intro hx_; first | have := of_decide_eq_true hx_ | have := of_decide_eq_false hx_ | skip)))
  · (all_goals (apply ends_ret; apply res_tmp; rfl; rfl)); all_goals first | rfl | (simp only [*, decide_true, decide_false, cond_true, cond_false, Bool.and_true, Bool.true_and, Bool.and_false, Bool.false_and, Bool.not_true, Bool.not_false, Bool.or_true, Bool.true_or, Bool.or_false, Bool.false_or]; done) | (simp_all []; done)
  · refine sw_fn0 (hc := h2) (hX := fun w h => h.1) (h := ?_)
    rintro _ _ X2 ⟨p1, p2, p3, p4, rfl, rfl⟩
    unfold setsR
    repeat' (first | apply sw_nil | apply cw_seq | apply cw_reg | refine sy_move (h := ?_) | refine sy_assign (h := ?_) | refine sy_pick_t (h := ?_) | refine sy_pick_f (h := ?_) | refine sw_skipT (h := ?_) | refine sw_skipF (h := ?_) | refine sw_skipU (h := ?_) | refine cw_cond_t (ht := ?_) | refine cw_cond_f (hf := ?_) | apply cw_skip | apply cw_block | apply cw_ret | apply cw_exit | refine sy_arrA (h := ?_) | refine sy_strI (h := ?_) | (refine sy_fieldS2 (h := ?_)) | (refine sy_lookS (h := ?_)) | ((fail_if_success (refine sw_chk (h := ?_))); refine sw_guard (ht := ?_) (hf := ?_); all_goals (intro hx_; first | have := of_decide_eq_true hx_ | have := of_decide_eq_false hx_ | skip)) | (refine cw_cond (ht := ?_) (hf := ?_); all_goals (intro hx_; first | have := of_decide_eq_true hx_ | have := of_decide_eq_false hx_ | skip)))
    (all_goals (apply ends_ret; apply res_tmp; rfl; rfl)); all_goals first | rfl | (simp only [*, decide_true, decide_false, cond_true, cond_false, Bool.and_true, Bool.true_and, Bool.and_false, Bool.false_and, Bool.not_true, Bool.not_false, Bool.or_true, Bool.true_or, Bool.or_false, Bool.false_or]; done) | (simp_all []; done)
end Go.Proofs.YtlankpiogfhblaaGreatDoor
