/- Contracts: relation.Of; slices.Index, Contains, Equal over strings; agoraref21's. -/
import Derived.Test.YtfpojkoddcdojaaGreatDoorRe
set_option linter.unusedVariables false
set_option linter.unusedSimpArgs false
namespace Go.Proofs.YtfpojkoddcdojaaGreatDoor
open Go Go.Proofs Sy
structure LBnd (k : Nat) (l : List ByteArray) : Prop where
  len : l.length ≤ k
  size : ∀ x ∈ l, x.size ≤ maxLen
theorem LBnd.mono {k k' : Nat} {l : List ByteArray} (h : LBnd k l) (hk : k ≤ k') : LBnd k' l := ⟨Nat.le_trans h.len hk, h.size⟩
theorem sput_bnd {k : Nat} {x : ByteArray} (hx : x.size ≤ maxLen) : ∀ {l : List ByteArray}, LBnd k l → LBnd (k + 1) (sput l x)
  | [], _ => ⟨by simp [sput], by simp [sput, hx]⟩
  | a :: r, h => by
    simp only [sput]
    cases KeyT.eqb x a with
    | true => exact ⟨by have := h.len; simp at this ⊢; omega, fun y hy => by rcases List.mem_cons.1 hy with rfl | hy; exact hx; exact h.size y (List.mem_cons_of_mem _ hy)⟩
    | false =>
      cases k with
      | zero => have := h.len; simp at this
      | succ k =>
        have ih := sput_bnd (k := k) hx (l := r) ⟨by have := h.len; simp at this; omega, fun y hy => h.size y (List.mem_cons_of_mem _ hy)⟩
        exact ⟨by have := ih.len; simp; omega, fun y hy => by rcases List.mem_cons.1 hy with rfl | hy; exact h.size _ List.mem_cons_self; exact ih.size y hy⟩
theorem sdel_bnd {k : Nat} {x : ByteArray} : ∀ {l : List ByteArray}, LBnd k l → LBnd k (sdel l x)
  | [], h => h
  | a :: r, h => by
    simp only [sdel]
    cases KeyT.eqb x a with
    | true => exact (show LBnd k r from ⟨by have := h.len; simp at this; omega, fun y hy => h.size y (List.mem_cons_of_mem _ hy)⟩)
    | false =>
      cases k with
      | zero => have := h.len; simp at this
      | succ k =>
        have ih := sdel_bnd (k := k) (x := x) (l := r) ⟨by have := h.len; simp at this; omega, fun y hy => h.size y (List.mem_cons_of_mem _ hy)⟩
        exact ⟨by have := ih.len; simp; omega, fun y hy => by rcases List.mem_cons.1 hy with rfl | hy; exact h.size _ List.mem_cons_self; exact ih.size y hy⟩
structure TBnd (k : Nat) (t : TieS) : Prop where
  f : LBnd k t.f
  a : LBnd k t.a
  b : LBnd k t.b
  m : LBnd k t.m
theorem TBnd.mono {k k' : Nat} {t : TieS} (h : TBnd k t) (hk : k ≤ k') : TBnd k' t := ⟨h.f.mono hk, h.a.mono hk, h.b.mono hk, h.m.mono hk⟩
theorem undoT_bnd {k : Nat} {t : TieS} (h : TBnd k t) (x : ActD) : TBnd k (undoT t x) := by
  unfold undoT
  cases decide (x.kind = 7) <;> cases decide (x.kind = 8) <;> cases decide (x.kind = 10) <;> cases decide (x.kind = 11)
  all_goals first
    | exact ⟨sdel_bnd h.f, h.a, h.b, h.m⟩
    | exact ⟨h.f, sdel_bnd h.a, h.b, h.m⟩
    | exact ⟨h.f, h.a, sdel_bnd h.b, h.m⟩
    | exact ⟨h.f, h.a, h.b, sdel_bnd h.m⟩
    | exact h
theorem stepT_bnd {k i : Nat} {l : List ActD} {t : TieS} (h : TBnd k t) {x : ActD} (hx : x.target.size ≤ maxLen) : TBnd (k + 1) (stepT l i t x) := by
  have h' := h.mono (Nat.le_succ k)
  unfold stepT
  cases decide (x.kind = 7) <;> cases decide (x.kind = 8) <;> cases decide (x.kind = 9) <;> cases decide (x.kind = 10) <;> cases decide (x.kind = 11) <;> cases decide (x.kind = 6)
  all_goals first
    | exact ⟨sput_bnd hx h.f, h'.a, h'.b, h'.m⟩
    | exact ⟨h'.f, sput_bnd hx h.a, h'.b, h'.m⟩
    | exact ⟨h'.f, sdel_bnd h'.a, h'.b, h'.m⟩
    | exact ⟨sdel_bnd h'.f, sdel_bnd h'.a, sput_bnd hx h.b, h'.m⟩
    | exact ⟨h'.f, h'.a, h'.b, sput_bnd hx h.m⟩
    | exact h'
    | (simp only [cond_true, cond_false]
       split
       · rename_i j hj
         cases decide ((j : Int) < (i : Int)) with
         | true => exact undoT_bnd h' _
         | false => exact h'
       · exact h')
theorem zero_target : ActD.zero.target.size ≤ maxLen := by decide
theorem tieF_bnd {l : List ActD} (hs : ∀ a ∈ l, a.Sm) : ∀ k, TBnd k (tieF l k)
  | 0 => ⟨⟨by simp [tieF], by simp [tieF]⟩, ⟨by simp [tieF], by simp [tieF]⟩, ⟨by simp [tieF], by simp [tieF]⟩, ⟨by simp [tieF], by simp [tieF]⟩⟩
  | k + 1 => by
    refine stepT_bnd (tieF_bnd hs k) ?_
    rcases Nat.lt_or_ge k l.length with h | h
    · rw [List.getD_eq_getElem?_getD, List.getElem?_eq_getElem h]
      exact (hs _ (List.getElem_mem h)).target
    · rw [List.getD_eq_getElem?_getD, List.getElem?_eq_none h]
      exact zero_target
theorem tieV_bnd {l : List ActD} (hs : ActsOk l) (n : Int) : TBnd l.length (tieV l n) := (tieF_bnd hs.sm _).mono (by rw [limN_eq]; omega)
def TiesAt (t : TieS) (u : Value) (X : World → Prop) : Prop := ∃ s1 s2 s3 s4 : SlV, u = .agg #[s1.v, s2.v, s3.v, s4.v] ∧ ∀ w, X w → Strs w s1 (sortB t.f) ∧ Strs w s2 (sortB t.a) ∧ Strs w s3 (sortB t.b) ∧ Strs w s4 (sortB t.m)
theorem strs_given {w : World} {e n c : Nat} {A : Option Addr} {l : List ByteArray} (h : (orow e 1 (.slice A n c) n ((sortB l).map encB)).F w) (hn : n = l.length) : Strs w ⟨A, n, c⟩ (sortB l) := strs_of_orow h (by rw [sortB_len, hn])
theorem relOf_mk (c : ChainD) (hc : ActsOk c.actsL) (hl : c.actsL.length ≤ 1000000) (n : Int) : Mk Tryz.prog 35 #[c.v, .int .i64 n] (fun w => c.at_ w ∧ Glob w) (TiesAt (tieV c.actsL n)) := by
  refine mk_of_cw (args := [_, _]) _ Tryz.func35 rfl Tryz.ntmps35 rfl fun av bor w0 => ?_
  have hB := tieV_bnd hc n
  repeat' (first | apply sw_nil | apply cw_seq | apply cw_reg | refine sy_move (h := ?_) | refine sy_assign (h := ?_) | refine sy_nilCheck (h := ?_) | refine sy_fld (h := ?_) | refine sy_ld (h := ?_) | refine sy_ldAll (h := ?_) | refine sy_pick_t (h := ?_) | refine sy_pick_f (h := ?_) | refine sy_not (h := ?_) | refine sy_eql (h := ?_) | refine sy_neq (h := ?_) | refine sy_lss (h := ?_) | refine sy_leq (h := ?_) | refine sy_gtr (h := ?_) | refine sy_geq (h := ?_) | refine sy_seql (h := ?_) | refine sy_sneq (h := ?_) | refine sy_slen (h := ?_) | refine sy_len (h := ?_) | refine sy_extract (h := ?_) | refine sy_add (h := ?_) | refine sy_sub (h := ?_) | refine sw_skipT (h := ?_) | refine sw_skipF (h := ?_) | refine sw_skipU (h := ?_) | refine sw_alloc (h := fun _ => ?_) | refine sw_box (h := fun _ => ?_) | refine sw_rangeS (h := fun _ => ?_) | refine sw_nextS (h1 := fun _ => ?_) (h2 := fun _ => ?_) | refine sw_bsl (h := fun _ => ?_) | refine sw_st1 (h := ?_) | refine sw_stAll (h := ?_) | refine cw_cond_t (ht := ?_) | refine cw_cond_f (hf := ?_) | apply cw_skip | apply cw_block | apply cw_ret | apply cw_exit | refine sy_and (h := ?_) | refine sy_or (h := ?_) | refine sy_xor (h := ?_) | refine sy_andNot (h := ?_) | refine sy_xorU (h := ?_) | refine sy_shl (h := ?_) | refine sy_shr (h := ?_) | refine sy_mul (h := ?_) | refine sy_int (h := ?_) | refine sy_beql (h := ?_) | refine sy_bneq (h := ?_) | refine sy_min (h := ?_) | refine sy_max (h := ?_) | refine sy_arrA (h := ?_) | refine sy_strI (h := ?_))
  rename_i b2 b4
  refine sw_fn (pre := []) (fr := [cel b4 72 [.slice none 0 0, .slice none 0 0, .slice none 0 0, .slice none 0 0], cel b2 40 c.cells]) (hc := tie_ct c hc n) (hX := fun _ h => h) (h := ?_)
  rintro _ _ X' ⟨q1, q2, q3, q4, rfl, rfl⟩
  generalize tieV c.actsL n = t at *
  repeat' (first | apply sw_nil | apply cw_seq | apply cw_reg | refine sy_move (h := ?_) | refine sy_assign (h := ?_) | refine sy_nilCheck (h := ?_) | refine sy_fld (h := ?_) | refine sy_ld (h := ?_) | refine sy_ldAll (h := ?_) | refine sy_pick_t (h := ?_) | refine sy_pick_f (h := ?_) | refine sy_not (h := ?_) | refine sy_eql (h := ?_) | refine sy_neq (h := ?_) | refine sy_lss (h := ?_) | refine sy_leq (h := ?_) | refine sy_gtr (h := ?_) | refine sy_geq (h := ?_) | refine sy_seql (h := ?_) | refine sy_sneq (h := ?_) | refine sy_slen (h := ?_) | refine sy_len (h := ?_) | refine sy_extract (h := ?_) | refine sy_add (h := ?_) | refine sy_sub (h := ?_) | refine sw_skipT (h := ?_) | refine sw_skipF (h := ?_) | refine sw_skipU (h := ?_) | refine sw_alloc (h := fun _ => ?_) | refine sw_box (h := fun _ => ?_) | refine sw_rangeS (h := fun _ => ?_) | refine sw_nextS (h1 := fun _ => ?_) (h2 := fun _ => ?_) | refine sw_bsl (h := fun _ => ?_) | refine sw_st1 (h := ?_) | refine sw_stAll (h := ?_) | refine cw_cond_t (ht := ?_) | refine cw_cond_f (hf := ?_) | apply cw_skip | apply cw_block | apply cw_ret | apply cw_exit | refine sy_and (h := ?_) | refine sy_or (h := ?_) | refine sy_xor (h := ?_) | refine sy_andNot (h := ?_) | refine sy_xorU (h := ?_) | refine sy_shl (h := ?_) | refine sy_shr (h := ?_) | refine sy_mul (h := ?_) | refine sy_int (h := ?_) | refine sy_beql (h := ?_) | refine sy_bneq (h := ?_) | refine sy_min (h := ?_) | refine sy_max (h := ?_) | refine sy_arrA (h := ?_) | refine sy_strI (h := ?_))
  rename_i b5
  unfold setsR
  (refine cw_draw [cel b5 99 (setsV q1 q2 q3 q4).cells.toList] (fun _ => True) (by kernel_rfl) ?_)
  all_goals (refine aw_take 0 (hsub := by (exact fun _ h => (h.drop (by repeat (first | exact List.Sublist.refl _ | exact List.Sublist.cons_cons _ (List.nil_sublist _) | apply List.Sublist.cons))).imp (fun _ _ => trivial))) (h := ?_))
  all_goals (refine aw_take 1 (hsub := by (exact fun _ h => (h.drop (by repeat (first | exact List.Sublist.refl _ | exact List.Sublist.cons_cons _ (List.nil_sublist _) | apply List.Sublist.cons))).imp (fun _ _ => trivial))) (h := ?_))
  all_goals (refine aw_take 3 (hsub := by (exact fun _ h => (h.drop (by repeat (first | exact List.Sublist.refl _ | exact List.Sublist.cons_cons _ (List.nil_sublist _) | apply List.Sublist.cons))).imp (fun _ _ => trivial))) (h := ?_))
  all_goals (refine aw_take 4 (hsub := by (exact fun _ h => (h.drop (by repeat (first | exact List.Sublist.refl _ | exact List.Sublist.cons_cons _ (List.nil_sublist _) | apply List.Sublist.cons))).imp (fun _ _ => trivial))) (h := ?_))
  all_goals (refine aw_take 6 (hsub := by (exact fun _ h => (h.drop (by repeat (first | exact List.Sublist.refl _ | exact List.Sublist.cons_cons _ (List.nil_sublist _) | apply List.Sublist.cons))).imp (fun _ _ => trivial))) (h := ?_))
  all_goals (refine aw_take 7 (hsub := by (exact fun _ h => (h.drop (by repeat (first | exact List.Sublist.refl _ | exact List.Sublist.cons_cons _ (List.nil_sublist _) | apply List.Sublist.cons))).imp (fun _ _ => trivial))) (h := ?_))
  all_goals (refine aw_take 9 (hsub := by (exact fun _ h => (h.drop (by repeat (first | exact List.Sublist.refl _ | exact List.Sublist.cons_cons _ (List.nil_sublist _) | apply List.Sublist.cons))).imp (fun _ _ => trivial))) (h := ?_))
  all_goals (refine aw_take 10 (hsub := by (exact fun _ h => (h.drop (by repeat (first | exact List.Sublist.refl _ | exact List.Sublist.cons_cons _ (List.nil_sublist _) | apply List.Sublist.cons))).imp (fun _ _ => trivial))) (h := ?_))
  all_goals (refine aw_step 2 (h := ?_); (first | (refine sw_fnAt (hc := setList_ct q1 t.f hB.f.size (Nat.le_trans hB.f.len hl)) (hX := fun _ _ => trivial) (h := ?_); rintro _ _ X1 ⟨A1, c1, rfl, rfl⟩; refine sw_give ?_) | (refine sw_fnAt (hc := setList_ct q2 t.a hB.a.size (Nat.le_trans hB.a.len hl)) (hX := fun _ _ => trivial) (h := ?_); rintro _ _ X2 ⟨A2, c2, rfl, rfl⟩; refine sw_give ?_) | (refine sw_fnAt (hc := setList_ct q3 t.b hB.b.size (Nat.le_trans hB.b.len hl)) (hX := fun _ _ => trivial) (h := ?_); rintro _ _ X3 ⟨A3, c3, rfl, rfl⟩; refine sw_give ?_) | (refine sw_fnAt (hc := setList_ct q4 t.m hB.m.size (Nat.le_trans hB.m.len hl)) (hX := fun _ _ => trivial) (h := ?_); rintro _ _ X4 ⟨A4, c4, rfl, rfl⟩; refine sw_give ?_)); apply sw_nil; refine aw_fin (hsub := by (exact fun _ h => (h.drop (by repeat (first | exact List.Sublist.refl _ | exact List.Sublist.cons_cons _ (List.nil_sublist _) | apply List.Sublist.cons))).imp (fun _ _ => trivial))) (h := ?_))
  all_goals (refine aw_step 5 (h := ?_); (first | (refine sw_fnAt (hc := setList_ct q1 t.f hB.f.size (Nat.le_trans hB.f.len hl)) (hX := fun _ _ => trivial) (h := ?_); rintro _ _ X1 ⟨A1, c1, rfl, rfl⟩; refine sw_give ?_) | (refine sw_fnAt (hc := setList_ct q2 t.a hB.a.size (Nat.le_trans hB.a.len hl)) (hX := fun _ _ => trivial) (h := ?_); rintro _ _ X2 ⟨A2, c2, rfl, rfl⟩; refine sw_give ?_) | (refine sw_fnAt (hc := setList_ct q3 t.b hB.b.size (Nat.le_trans hB.b.len hl)) (hX := fun _ _ => trivial) (h := ?_); rintro _ _ X3 ⟨A3, c3, rfl, rfl⟩; refine sw_give ?_) | (refine sw_fnAt (hc := setList_ct q4 t.m hB.m.size (Nat.le_trans hB.m.len hl)) (hX := fun _ _ => trivial) (h := ?_); rintro _ _ X4 ⟨A4, c4, rfl, rfl⟩; refine sw_give ?_)); apply sw_nil; refine aw_fin (hsub := by (exact fun _ h => (h.drop (by repeat (first | exact List.Sublist.refl _ | exact List.Sublist.cons_cons _ (List.nil_sublist _) | apply List.Sublist.cons))).imp (fun _ _ => trivial))) (h := ?_))
  all_goals (refine aw_step 8 (h := ?_); (first | (refine sw_fnAt (hc := setList_ct q1 t.f hB.f.size (Nat.le_trans hB.f.len hl)) (hX := fun _ _ => trivial) (h := ?_); rintro _ _ X1 ⟨A1, c1, rfl, rfl⟩; refine sw_give ?_) | (refine sw_fnAt (hc := setList_ct q2 t.a hB.a.size (Nat.le_trans hB.a.len hl)) (hX := fun _ _ => trivial) (h := ?_); rintro _ _ X2 ⟨A2, c2, rfl, rfl⟩; refine sw_give ?_) | (refine sw_fnAt (hc := setList_ct q3 t.b hB.b.size (Nat.le_trans hB.b.len hl)) (hX := fun _ _ => trivial) (h := ?_); rintro _ _ X3 ⟨A3, c3, rfl, rfl⟩; refine sw_give ?_) | (refine sw_fnAt (hc := setList_ct q4 t.m hB.m.size (Nat.le_trans hB.m.len hl)) (hX := fun _ _ => trivial) (h := ?_); rintro _ _ X4 ⟨A4, c4, rfl, rfl⟩; refine sw_give ?_)); apply sw_nil; refine aw_fin (hsub := by (exact fun _ h => (h.drop (by repeat (first | exact List.Sublist.refl _ | exact List.Sublist.cons_cons _ (List.nil_sublist _) | apply List.Sublist.cons))).imp (fun _ _ => trivial))) (h := ?_))
  all_goals (refine aw_step 11 (h := ?_); (first | (refine sw_fnAt (hc := setList_ct q1 t.f hB.f.size (Nat.le_trans hB.f.len hl)) (hX := fun _ _ => trivial) (h := ?_); rintro _ _ X1 ⟨A1, c1, rfl, rfl⟩; refine sw_give ?_) | (refine sw_fnAt (hc := setList_ct q2 t.a hB.a.size (Nat.le_trans hB.a.len hl)) (hX := fun _ _ => trivial) (h := ?_); rintro _ _ X2 ⟨A2, c2, rfl, rfl⟩; refine sw_give ?_) | (refine sw_fnAt (hc := setList_ct q3 t.b hB.b.size (Nat.le_trans hB.b.len hl)) (hX := fun _ _ => trivial) (h := ?_); rintro _ _ X3 ⟨A3, c3, rfl, rfl⟩; refine sw_give ?_) | (refine sw_fnAt (hc := setList_ct q4 t.m hB.m.size (Nat.le_trans hB.m.len hl)) (hX := fun _ _ => trivial) (h := ?_); rintro _ _ X4 ⟨A4, c4, rfl, rfl⟩; refine sw_give ?_)); apply sw_nil; refine aw_fin (hsub := by (exact fun _ h => (h.drop (by repeat (first | exact List.Sublist.refl _ | exact List.Sublist.cons_cons _ (List.nil_sublist _) | apply List.Sublist.cons))).imp (fun _ _ => trivial))) (h := ?_))
  all_goals (first | refine aw_take 12 (hsub := by (exact fun _ h => (h.drop (by repeat (first | exact List.Sublist.refl _ | exact List.Sublist.cons_cons _ (List.nil_sublist _) | apply List.Sublist.cons))).imp (fun _ _ => trivial))) (h := ?_) | refine aw_take 12 (hsub := by (exact fun _ h => (h.drop (by repeat (first | exact List.Sublist.refl _ | exact List.Sublist.cons_cons _ (List.nil_sublist _) | apply List.Sublist.cons))).imp (fun _ _ => trivial))) (hy := by (first | (apply y_build; rfl; rfl))) (h := ?_))
  all_goals (refine aw_step 13 (h := ?_); (first | (refine sw_st1 (h := ?_)) | (refine sw_stAll (h := ?_))); apply sw_nil; refine aw_fin (hsub := by (exact fun _ h => (h.drop (by repeat (first | exact List.Sublist.refl _ | exact List.Sublist.cons_cons _ (List.nil_sublist _) | apply List.Sublist.cons))).imp (fun _ _ => trivial))) (h := ?_))
  all_goals (refine aw_done (h := ?_))
  repeat' (first | apply sw_nil | apply cw_seq | apply cw_reg | refine sy_move (h := ?_) | refine sy_assign (h := ?_) | refine sy_nilCheck (h := ?_) | refine sy_fld (h := ?_) | refine sy_ld (h := ?_) | refine sy_ldAll (h := ?_) | refine sy_pick_t (h := ?_) | refine sy_pick_f (h := ?_) | refine sy_not (h := ?_) | refine sy_eql (h := ?_) | refine sy_neq (h := ?_) | refine sy_lss (h := ?_) | refine sy_leq (h := ?_) | refine sy_gtr (h := ?_) | refine sy_geq (h := ?_) | refine sy_seql (h := ?_) | refine sy_sneq (h := ?_) | refine sy_slen (h := ?_) | refine sy_len (h := ?_) | refine sy_extract (h := ?_) | refine sy_add (h := ?_) | refine sy_sub (h := ?_) | refine sw_skipT (h := ?_) | refine sw_skipF (h := ?_) | refine sw_skipU (h := ?_) | refine sw_alloc (h := fun _ => ?_) | refine sw_box (h := fun _ => ?_) | refine sw_rangeS (h := fun _ => ?_) | refine sw_nextS (h1 := fun _ => ?_) (h2 := fun _ => ?_) | refine sw_bsl (h := fun _ => ?_) | refine sw_st1 (h := ?_) | refine sw_stAll (h := ?_) | refine cw_cond_t (ht := ?_) | refine cw_cond_f (hf := ?_) | apply cw_skip | apply cw_block | apply cw_ret | apply cw_exit | refine sy_and (h := ?_) | refine sy_or (h := ?_) | refine sy_xor (h := ?_) | refine sy_andNot (h := ?_) | refine sy_xorU (h := ?_) | refine sy_shl (h := ?_) | refine sy_shr (h := ?_) | refine sy_mul (h := ?_) | refine sy_int (h := ?_) | refine sy_beql (h := ?_) | refine sy_bneq (h := ?_) | refine sy_min (h := ?_) | refine sy_max (h := ?_) | refine sy_arrA (h := ?_) | refine sy_strI (h := ?_))
  refine ends_ret (res_cell rfl rfl (by (repeat (first | exact List.mem_cons_self | apply List.mem_cons_of_mem))) (by rfl)) ⟨⟨A1, t.f.length, c1⟩, ⟨A2, t.a.length, c2⟩, ⟨A3, t.b.length, c3⟩, ⟨A4, t.m.length, c4⟩, rfl, fun w h => ⟨strs_given h.1.1.1.1.1.1.2 rfl, strs_given h.1.1.1.1.2 rfl, strs_given h.1.1.2 rfl, strs_given h.2 rfl⟩⟩

/-! strings in slices: whether one is there; whether two lists are alike -/
def hasS (l : List ByteArray) (x : ByteArray) : Bool := l.any fun y => seqB x y
theorem hasS_found {l : List ByteArray} {x : ByteArray} {k : Nat} (hk : k < l.length) (h : seqB x (l.getD k .empty) = true) : hasS l x = true := by
  rw [hasS, List.any_eq_true]
  refine ⟨l[k], List.getElem_mem hk, ?_⟩
  simpa [hk] using h
theorem hasS_none {l : List ByteArray} {x : ByteArray} (h : ∀ k, k < l.length → seqB x (l.getD k .empty) = false) : hasS l x = false := by
  rw [hasS, List.any_eq_false]
  intro y hy
  obtain ⟨k, hk, rfl⟩ := List.getElem_of_mem hy
  have := h k hk
  simp [hk] at this
  simp [this]
def idxS (l : List ByteArray) (x : ByteArray) : Int := match l.findIdx? (fun y => seqB x y) with | some k => (k : Int) | none => -1
theorem idxS_found {l : List ByteArray} {x : ByteArray} (i : Upto l.length (fun k => seqB x (l.getD k .empty))) (hlt : i.k < l.length) (hb : seqB x (l.getD i.k .empty) = true) : idxS l x = i.k := by
  have : l.findIdx? (fun y => seqB x y) = some i.k := by
    rw [List.findIdx?_eq_some_iff_getElem]
    refine ⟨hlt, by simpa [hlt] using hb, fun j hj => ?_⟩
    have h1 := i.ok j hj
    have hj' : j < l.length := by omega
    simp [hj'] at h1
    simp [h1]
  simp only [idxS, this]
theorem idxS_none {l : List ByteArray} {x : ByteArray} (i : Upto l.length (fun k => seqB x (l.getD k .empty))) (h : ¬ i.k < l.length) : idxS l x = -1 := by
  have : l.findIdx? (fun y => seqB x y) = none := by
    rw [List.findIdx?_eq_none_iff]
    intro y hy
    obtain ⟨k, hk, rfl⟩ := List.getElem_of_mem hy
    have h1 := i.ok k (by omega)
    simpa [hk] using h1
  simp only [idxS, this]
theorem indexS_pu (s : SlV) (l : List ByteArray) (x : ByteArray) : Pu Tryz.prog 65 #[s.v, .string x] (fun w => Strs w s l) (.int .i64 (idxS l x)) := by
  refine pu_of_cw (args := [_, _]) _ Tryz.func65 rfl Tryz.ntmps65 rfl fun av bor w0 => ?_
  refine cw_know (p := s.n = l.length ∧ s.n ≤ maxLen ∧ (0 < l.length → s.p.isSome = true)) (fun w h => ⟨h.len_, Nat.le_trans (RowsD.cap h) (RowsD.max h), h.some_⟩) fun ⟨hl, hm, hp⟩ => ?_
  simp only [maxLen] at hm
  repeat' (first | apply sw_nil | apply cw_seq | apply cw_reg | refine sy_move (h := ?_) | refine sy_assign (h := ?_) | refine sy_nilCheck (h := ?_) | refine sy_fld (h := ?_) | refine sy_ld (h := ?_) | refine sy_ldAll (h := ?_) | refine sy_pick_t (h := ?_) | refine sy_pick_f (h := ?_) | refine sy_not (h := ?_) | refine sy_eql (h := ?_) | refine sy_neq (h := ?_) | refine sy_lss (h := ?_) | refine sy_leq (h := ?_) | refine sy_gtr (h := ?_) | refine sy_geq (h := ?_) | refine sy_seql (h := ?_) | refine sy_sneq (h := ?_) | refine sy_slen (h := ?_) | refine sy_len (h := ?_) | refine sy_extract (h := ?_) | refine sy_add (h := ?_) | refine sy_sub (h := ?_) | refine sw_skipT (h := ?_) | refine sw_skipF (h := ?_) | refine sw_skipU (h := ?_) | refine sw_alloc (h := fun _ => ?_) | refine sw_box (h := fun _ => ?_) | refine sw_rangeS (h := fun _ => ?_) | refine sw_nextS (h1 := fun _ => ?_) (h2 := fun _ => ?_) | refine sw_bsl (h := fun _ => ?_) | refine sw_st1 (h := ?_) | refine sw_stAll (h := ?_) | refine cw_cond_t (ht := ?_) | refine cw_cond_f (hf := ?_) | apply cw_skip | apply cw_block | apply cw_ret | apply cw_exit | refine sy_and (h := ?_) | refine sy_or (h := ?_) | refine sy_xor (h := ?_) | refine sy_andNot (h := ?_) | refine sy_xorU (h := ?_) | refine sy_shl (h := ?_) | refine sy_shr (h := ?_) | refine sy_mul (h := ?_) | refine sy_int (h := ?_) | refine sy_beql (h := ?_) | refine sy_bneq (h := ?_) | refine sy_min (h := ?_) | refine sy_max (h := ?_) | refine sy_arrA (h := ?_) | refine sy_strI (h := ?_))
  refine cw_loop (ι := Upto l.length (fun k => seqB x (l.getD k .empty))) (fun i => ⟨[(0, s.v), (1, .string x), (7, .int .i64 s.n), (8, .int .i64 i.k)], [], fun w => Strs w s l⟩) (fun i => l.length - i.k) (Upto.zero _ _) (ok_sub ⟨rfl, rfl, rfl, rfl, trivial⟩ (List.Sublist.refl _) fun _ h => h) fun i => ?_
  have hik := i.hk
  repeat' (first | apply sw_nil | apply cw_seq | apply cw_reg | refine sy_move (h := ?_) | refine sy_assign (h := ?_) | refine sy_nilCheck (h := ?_) | refine sy_fld (h := ?_) | refine sy_ld (h := ?_) | refine sy_ldAll (h := ?_) | refine sy_pick_t (h := ?_) | refine sy_pick_f (h := ?_) | refine sy_not (h := ?_) | refine sy_eql (h := ?_) | refine sy_neq (h := ?_) | refine sy_lss (h := ?_) | refine sy_leq (h := ?_) | refine sy_gtr (h := ?_) | refine sy_geq (h := ?_) | refine sy_seql (h := ?_) | refine sy_sneq (h := ?_) | refine sy_slen (h := ?_) | refine sy_len (h := ?_) | refine sy_extract (h := ?_) | refine sy_add (h := ?_) | refine sy_sub (h := ?_) | refine sw_skipT (h := ?_) | refine sw_skipF (h := ?_) | refine sw_skipU (h := ?_) | refine sw_alloc (h := fun _ => ?_) | refine sw_box (h := fun _ => ?_) | refine sw_rangeS (h := fun _ => ?_) | refine sw_nextS (h1 := fun _ => ?_) (h2 := fun _ => ?_) | refine sw_bsl (h := fun _ => ?_) | refine sw_st1 (h := ?_) | refine sw_stAll (h := ?_) | refine cw_cond_t (ht := ?_) | refine cw_cond_f (hf := ?_) | apply cw_skip | apply cw_block | apply cw_ret | apply cw_exit | refine sy_and (h := ?_) | refine sy_or (h := ?_) | refine sy_xor (h := ?_) | refine sy_andNot (h := ?_) | refine sy_xorU (h := ?_) | refine sy_shl (h := ?_) | refine sy_shr (h := ?_) | refine sy_mul (h := ?_) | refine sy_int (h := ?_) | refine sy_beql (h := ?_) | refine sy_bneq (h := ?_) | refine sy_min (h := ?_) | refine sy_max (h := ?_) | refine sy_arrA (h := ?_) | refine sy_strI (h := ?_) | ((fail_if_success (refine sw_chk (h := ?_))); refine sw_guard (ht := ?_) (hf := ?_); all_goals (intro hx_; first | have := of_decide_eq_true hx_ | have := of_decide_eq_false hx_ | skip)) | (refine cw_cond (ht := ?_) (hf := ?_); all_goals (intro hx_; first | have := of_decide_eq_true hx_ | have := of_decide_eq_false hx_ | skip)))
  · have hlt : i.k < l.length := by omega
    have hp' := hp (by omega)
    repeat' (first | apply sw_nil | apply cw_seq | apply cw_reg | refine sy_move (h := ?_) | refine sy_assign (h := ?_) | refine sy_nilCheck (h := ?_) | refine sy_fld (h := ?_) | refine sy_ld (h := ?_) | refine sy_ldAll (h := ?_) | refine sy_pick_t (h := ?_) | refine sy_pick_f (h := ?_) | refine sy_not (h := ?_) | refine sy_eql (h := ?_) | refine sy_neq (h := ?_) | refine sy_lss (h := ?_) | refine sy_leq (h := ?_) | refine sy_gtr (h := ?_) | refine sy_geq (h := ?_) | refine sy_seql (h := ?_) | refine sy_sneq (h := ?_) | refine sy_slen (h := ?_) | refine sy_len (h := ?_) | refine sy_extract (h := ?_) | refine sy_add (h := ?_) | refine sy_sub (h := ?_) | refine sw_skipT (h := ?_) | refine sw_skipF (h := ?_) | refine sw_skipU (h := ?_) | refine sw_alloc (h := fun _ => ?_) | refine sw_box (h := fun _ => ?_) | refine sw_rangeS (h := fun _ => ?_) | refine sw_nextS (h1 := fun _ => ?_) (h2 := fun _ => ?_) | refine sw_bsl (h := fun _ => ?_) | refine sw_st1 (h := ?_) | refine sw_stAll (h := ?_) | refine cw_cond_t (ht := ?_) | refine cw_cond_f (hf := ?_) | apply cw_skip | apply cw_block | apply cw_ret | apply cw_exit | refine sy_and (h := ?_) | refine sy_or (h := ?_) | refine sy_xor (h := ?_) | refine sy_andNot (h := ?_) | refine sy_xorU (h := ?_) | refine sy_shl (h := ?_) | refine sy_shr (h := ?_) | refine sy_mul (h := ?_) | refine sy_int (h := ?_) | refine sy_beql (h := ?_) | refine sy_bneq (h := ?_) | refine sy_min (h := ?_) | refine sy_max (h := ?_) | refine sy_arrA (h := ?_) | refine sy_strI (h := ?_) | (refine sy_idxX (q := i.k) (h := ?_)) | (refine sy_ldX (hF := fun w h => Strs.get h hlt) (h := ?_)) | ((fail_if_success (refine sw_chk (h := ?_))); refine sw_guard (ht := ?_) (hf := ?_); all_goals (intro hx_; first | have := of_decide_eq_true hx_ | have := of_decide_eq_false hx_ | skip)) | (refine cw_cond (ht := ?_) (hf := ?_); all_goals (intro hx_; first | have := of_decide_eq_true hx_ | have := of_decide_eq_false hx_ | skip)))
    · apply ends_ret; apply res_tmp; rfl; rfl
      rw [idxS_found i hlt (by assumption)]
    · exact ⟨i.next hlt (by assumption), (by show l.length - (i.k + 1) < l.length - i.k; omega), ok_sub ⟨rfl, rfl, rfl, rfl, trivial⟩ (List.Sublist.refl _) fun _ h => h⟩
  · apply ends_ret; apply res_tmp; rfl; rfl
    rw [idxS_none i (by omega)]
theorem idxS_has (l : List ByteArray) (x : ByteArray) : decide (0 ≤ idxS l x) = hasS l x := by
  unfold idxS hasS
  cases h : l.findIdx? (fun y => seqB x y) with
  | some k =>
    rw [List.findIdx?_eq_some_iff_getElem] at h
    obtain ⟨h1, h2, _⟩ := h
    have : l.any (fun y => seqB x y) = true := List.any_eq_true.2 ⟨l[k], List.getElem_mem h1, h2⟩
    rw [this]
    exact decide_eq_true (show (0 : Int) ≤ (k : Int) by omega)
  | none =>
    rw [List.findIdx?_eq_none_iff] at h
    have : l.any (fun y => seqB x y) = false := List.any_eq_false.2 fun y hy => by simp [h y hy]
    rw [this]
    rfl
theorem containsS_pu (s : SlV) (l : List ByteArray) (x : ByteArray) : Pu Tryz.prog 52 #[s.v, .string x] (fun w => Strs w s l) (.bool (hasS l x)) := by
  refine pu_of_cw (args := [_, _]) _ Tryz.func52 rfl Tryz.ntmps52 rfl fun av bor w0 => ?_
  repeat' (first | apply sw_nil | apply cw_seq | apply cw_reg | refine sy_move (h := ?_) | refine sy_assign (h := ?_) | refine sy_nilCheck (h := ?_) | refine sy_fld (h := ?_) | refine sy_ld (h := ?_) | refine sy_ldAll (h := ?_) | refine sy_pick_t (h := ?_) | refine sy_pick_f (h := ?_) | refine sy_not (h := ?_) | refine sy_eql (h := ?_) | refine sy_neq (h := ?_) | refine sy_lss (h := ?_) | refine sy_leq (h := ?_) | refine sy_gtr (h := ?_) | refine sy_geq (h := ?_) | refine sy_seql (h := ?_) | refine sy_sneq (h := ?_) | refine sy_slen (h := ?_) | refine sy_len (h := ?_) | refine sy_extract (h := ?_) | refine sy_add (h := ?_) | refine sy_sub (h := ?_) | refine sw_skipT (h := ?_) | refine sw_skipF (h := ?_) | refine sw_skipU (h := ?_) | refine sw_alloc (h := fun _ => ?_) | refine sw_box (h := fun _ => ?_) | refine sw_rangeS (h := fun _ => ?_) | refine sw_nextS (h1 := fun _ => ?_) (h2 := fun _ => ?_) | refine sw_bsl (h := fun _ => ?_) | refine sw_st1 (h := ?_) | refine sw_stAll (h := ?_) | refine cw_cond_t (ht := ?_) | refine cw_cond_f (hf := ?_) | apply cw_skip | apply cw_block | apply cw_ret | apply cw_exit | refine sy_and (h := ?_) | refine sy_or (h := ?_) | refine sy_xor (h := ?_) | refine sy_andNot (h := ?_) | refine sy_xorU (h := ?_) | refine sy_shl (h := ?_) | refine sy_shr (h := ?_) | refine sy_mul (h := ?_) | refine sy_int (h := ?_) | refine sy_beql (h := ?_) | refine sy_bneq (h := ?_) | refine sy_min (h := ?_) | refine sy_max (h := ?_) | refine sy_arrA (h := ?_) | refine sy_strI (h := ?_) | refine sw_pu (hc := indexS_pu s l x) (h := ?_))
  apply ends_ret; apply res_tmp; rfl; rfl
  rw [idxS_has]
def eqBad (l m : List ByteArray) (k : Nat) : Bool := !seqB (l.getD k .empty) (m.getD k .empty)
def eqL (l m : List ByteArray) : Bool := decide (l.length = m.length) && allB l.length (eqBad l m)
theorem equalL_pu (s r : SlV) (l m : List ByteArray) : Pu Tryz.prog 46 #[s.v, r.v] (fun w => Strs w s l ∧ Strs w r m) (.bool (eqL l m)) := by
  refine pu_of_cw (args := [_, _]) _ Tryz.func46 rfl Tryz.ntmps46 rfl fun av bor w0 => ?_
  refine cw_know (p := (s.n = l.length ∧ s.n ≤ maxLen ∧ (0 < l.length → s.p.isSome = true)) ∧ (r.n = m.length ∧ r.n ≤ maxLen ∧ (0 < m.length → r.p.isSome = true))) (fun w h => ⟨⟨h.1.len_, Nat.le_trans (RowsD.cap h.1) (RowsD.max h.1), h.1.some_⟩, ⟨h.2.len_, Nat.le_trans (RowsD.cap h.2) (RowsD.max h.2), h.2.some_⟩⟩) fun ⟨⟨hl, hm, hp⟩, ⟨hl', hm', hp'⟩⟩ => ?_
  simp only [maxLen] at hm hm'
  repeat' (first | apply sw_nil | apply cw_seq | apply cw_reg | refine sy_move (h := ?_) | refine sy_assign (h := ?_) | refine sy_nilCheck (h := ?_) | refine sy_fld (h := ?_) | refine sy_ld (h := ?_) | refine sy_ldAll (h := ?_) | refine sy_pick_t (h := ?_) | refine sy_pick_f (h := ?_) | refine sy_not (h := ?_) | refine sy_eql (h := ?_) | refine sy_neq (h := ?_) | refine sy_lss (h := ?_) | refine sy_leq (h := ?_) | refine sy_gtr (h := ?_) | refine sy_geq (h := ?_) | refine sy_seql (h := ?_) | refine sy_sneq (h := ?_) | refine sy_slen (h := ?_) | refine sy_len (h := ?_) | refine sy_extract (h := ?_) | refine sy_add (h := ?_) | refine sy_sub (h := ?_) | refine sw_skipT (h := ?_) | refine sw_skipF (h := ?_) | refine sw_skipU (h := ?_) | refine sw_alloc (h := fun _ => ?_) | refine sw_box (h := fun _ => ?_) | refine sw_rangeS (h := fun _ => ?_) | refine sw_nextS (h1 := fun _ => ?_) (h2 := fun _ => ?_) | refine sw_bsl (h := fun _ => ?_) | refine sw_st1 (h := ?_) | refine sw_stAll (h := ?_) | refine cw_cond_t (ht := ?_) | refine cw_cond_f (hf := ?_) | apply cw_skip | apply cw_block | apply cw_ret | apply cw_exit | refine sy_and (h := ?_) | refine sy_or (h := ?_) | refine sy_xor (h := ?_) | refine sy_andNot (h := ?_) | refine sy_xorU (h := ?_) | refine sy_shl (h := ?_) | refine sy_shr (h := ?_) | refine sy_mul (h := ?_) | refine sy_int (h := ?_) | refine sy_beql (h := ?_) | refine sy_bneq (h := ?_) | refine sy_min (h := ?_) | refine sy_max (h := ?_) | refine sy_arrA (h := ?_) | refine sy_strI (h := ?_) | ((fail_if_success (refine sw_chk (h := ?_))); refine sw_guard (ht := ?_) (hf := ?_); all_goals (intro hx_; first | have := of_decide_eq_true hx_ | have := of_decide_eq_false hx_ | skip)) | (refine cw_cond (ht := ?_) (hf := ?_); all_goals (intro hx_; first | have := of_decide_eq_true hx_ | have := of_decide_eq_false hx_ | skip)))
  · apply ends_ret; apply res_tmp; rfl; rfl
    have : ¬ l.length = m.length := by
      have h1 : ¬ (s.n : Int) = (r.n : Int) := by simpa using hx_
      omega
    simp only [eqL, decide_eq_false this, Bool.false_and]
  have hlm : l.length = m.length := by
    have h1 : (s.n : Int) = (r.n : Int) := by simpa using hx_
    omega
  refine cw_loop (ι := Upto l.length (eqBad l m)) (fun i => ⟨[(0, s.v), (1, r.v), (12, .int .i64 s.n), (13, .int .i64 i.k)], [], fun w => Strs w s l ∧ Strs w r m⟩) (fun i => l.length - i.k) (Upto.zero _ _) (ok_sub (by repeat (first | exact trivial | refine ⟨rfl, ?_⟩)) (List.Sublist.refl _) fun _ h => h) fun i => ?_
  have hik := i.hk
  repeat' (first | apply sw_nil | apply cw_seq | apply cw_reg | refine sy_move (h := ?_) | refine sy_assign (h := ?_) | refine sy_nilCheck (h := ?_) | refine sy_fld (h := ?_) | refine sy_ld (h := ?_) | refine sy_ldAll (h := ?_) | refine sy_pick_t (h := ?_) | refine sy_pick_f (h := ?_) | refine sy_not (h := ?_) | refine sy_eql (h := ?_) | refine sy_neq (h := ?_) | refine sy_lss (h := ?_) | refine sy_leq (h := ?_) | refine sy_gtr (h := ?_) | refine sy_geq (h := ?_) | refine sy_seql (h := ?_) | refine sy_sneq (h := ?_) | refine sy_slen (h := ?_) | refine sy_len (h := ?_) | refine sy_extract (h := ?_) | refine sy_add (h := ?_) | refine sy_sub (h := ?_) | refine sw_skipT (h := ?_) | refine sw_skipF (h := ?_) | refine sw_skipU (h := ?_) | refine sw_alloc (h := fun _ => ?_) | refine sw_box (h := fun _ => ?_) | refine sw_rangeS (h := fun _ => ?_) | refine sw_nextS (h1 := fun _ => ?_) (h2 := fun _ => ?_) | refine sw_bsl (h := fun _ => ?_) | refine sw_st1 (h := ?_) | refine sw_stAll (h := ?_) | refine cw_cond_t (ht := ?_) | refine cw_cond_f (hf := ?_) | apply cw_skip | apply cw_block | apply cw_ret | apply cw_exit | refine sy_and (h := ?_) | refine sy_or (h := ?_) | refine sy_xor (h := ?_) | refine sy_andNot (h := ?_) | refine sy_xorU (h := ?_) | refine sy_shl (h := ?_) | refine sy_shr (h := ?_) | refine sy_mul (h := ?_) | refine sy_int (h := ?_) | refine sy_beql (h := ?_) | refine sy_bneq (h := ?_) | refine sy_min (h := ?_) | refine sy_max (h := ?_) | refine sy_arrA (h := ?_) | refine sy_strI (h := ?_) | ((fail_if_success (refine sw_chk (h := ?_))); refine sw_guard (ht := ?_) (hf := ?_); all_goals (intro hx_; first | have := of_decide_eq_true hx_ | have := of_decide_eq_false hx_ | skip)) | (refine cw_cond (ht := ?_) (hf := ?_); all_goals (intro hx_; first | have := of_decide_eq_true hx_ | have := of_decide_eq_false hx_ | skip)))
  · have hlt : i.k < l.length := by omega
    have hlt' : i.k < m.length := by omega
    have hp1 := hp (by omega)
    have hp2 := hp' (by omega)
    (apply cw_draw0; kernel_rfl)
    all_goals (refine aw_take 0 (h := ?_))
    all_goals (refine aw_take 1 (h := ?_))
    all_goals (first | refine aw_take 2 (h := ?_) | refine aw_take 2 (hy := by (first | (apply y_idxX (q := i.k); rfl; rfl; omega; omega; assumption; omega))) (h := ?_))
    all_goals (first | refine aw_take 3 (h := ?_) | refine aw_take 3 (hy := by (first | (apply y_ldX; rfl; exact fun w h => Strs.get h.1 hlt) | (apply y_ldX; rfl; exact fun w h => Strs.get h.2 hlt'))) (h := ?_))
    all_goals (refine aw_take 4 (h := ?_))
    all_goals (refine aw_take 5 (h := ?_))
    all_goals (first | refine aw_take 6 (h := ?_) | refine aw_take 6 (hy := by (first | (apply y_idxX (q := i.k); rfl; rfl; omega; omega; assumption; omega))) (h := ?_))
    all_goals (first | refine aw_take 7 (h := ?_) | refine aw_take 7 (hy := by (first | (apply y_ldX; rfl; exact fun w h => Strs.get h.1 hlt) | (apply y_ldX; rfl; exact fun w h => Strs.get h.2 hlt'))) (h := ?_))
    all_goals (refine aw_take 8 (h := ?_))
    all_goals (refine aw_done (h := ?_))
    repeat' (first | apply sw_nil | apply cw_seq | apply cw_reg | refine sy_move (h := ?_) | refine sy_assign (h := ?_) | refine sy_nilCheck (h := ?_) | refine sy_fld (h := ?_) | refine sy_ld (h := ?_) | refine sy_ldAll (h := ?_) | refine sy_pick_t (h := ?_) | refine sy_pick_f (h := ?_) | refine sy_not (h := ?_) | refine sy_eql (h := ?_) | refine sy_neq (h := ?_) | refine sy_lss (h := ?_) | refine sy_leq (h := ?_) | refine sy_gtr (h := ?_) | refine sy_geq (h := ?_) | refine sy_seql (h := ?_) | refine sy_sneq (h := ?_) | refine sy_slen (h := ?_) | refine sy_len (h := ?_) | refine sy_extract (h := ?_) | refine sy_add (h := ?_) | refine sy_sub (h := ?_) | refine sw_skipT (h := ?_) | refine sw_skipF (h := ?_) | refine sw_skipU (h := ?_) | refine sw_alloc (h := fun _ => ?_) | refine sw_box (h := fun _ => ?_) | refine sw_rangeS (h := fun _ => ?_) | refine sw_nextS (h1 := fun _ => ?_) (h2 := fun _ => ?_) | refine sw_bsl (h := fun _ => ?_) | refine sw_st1 (h := ?_) | refine sw_stAll (h := ?_) | refine cw_cond_t (ht := ?_) | refine cw_cond_f (hf := ?_) | apply cw_skip | apply cw_block | apply cw_ret | apply cw_exit | refine sy_and (h := ?_) | refine sy_or (h := ?_) | refine sy_xor (h := ?_) | refine sy_andNot (h := ?_) | refine sy_xorU (h := ?_) | refine sy_shl (h := ?_) | refine sy_shr (h := ?_) | refine sy_mul (h := ?_) | refine sy_int (h := ?_) | refine sy_beql (h := ?_) | refine sy_bneq (h := ?_) | refine sy_min (h := ?_) | refine sy_max (h := ?_) | refine sy_arrA (h := ?_) | refine sy_strI (h := ?_) | ((fail_if_success (refine sw_chk (h := ?_))); refine sw_guard (ht := ?_) (hf := ?_); all_goals (intro hx_; first | have := of_decide_eq_true hx_ | have := of_decide_eq_false hx_ | skip)) | (refine cw_cond (ht := ?_) (hf := ?_); all_goals (intro hx_; first | have := of_decide_eq_true hx_ | have := of_decide_eq_false hx_ | skip)))
    · apply ends_ret; apply res_tmp; rfl; rfl
      rw [eqL, allB_false hlt (by assumption), Bool.and_false]
    · exact ⟨i.next hlt (by assumption), (by show l.length - (i.k + 1) < l.length - i.k; omega), ok_sub (by repeat (first | exact trivial | refine ⟨rfl, ?_⟩)) (List.Sublist.refl _) fun _ h => h⟩
  · apply ends_ret; apply res_tmp; rfl; rfl
    rw [eqL, i.all (by omega), decide_eq_true hlm]
    rfl
theorem same21_pu (s r : SlV) (l m : List ByteArray) : Pu Tryz.prog 30 #[s.v, r.v] (fun w => Strs w s l ∧ Strs w r m) (.bool (eqL l m)) := by
  refine pu_of_cw (args := [_, _]) _ Tryz.func30 rfl Tryz.ntmps30 rfl fun av bor w0 => ?_
  refine cw_know (p := (s.n = l.length ∧ s.n ≤ maxLen ∧ (0 < l.length → s.p.isSome = true)) ∧ (r.n = m.length ∧ r.n ≤ maxLen ∧ (0 < m.length → r.p.isSome = true))) (fun w h => ⟨⟨h.1.len_, Nat.le_trans (RowsD.cap h.1) (RowsD.max h.1), h.1.some_⟩, ⟨h.2.len_, Nat.le_trans (RowsD.cap h.2) (RowsD.max h.2), h.2.some_⟩⟩) fun ⟨⟨hl, hm, hp⟩, ⟨hl', hm', hp'⟩⟩ => ?_
  simp only [maxLen] at hm hm'
  repeat' (first | apply sw_nil | apply cw_seq | apply cw_reg | refine sy_move (h := ?_) | refine sy_assign (h := ?_) | refine sy_nilCheck (h := ?_) | refine sy_fld (h := ?_) | refine sy_ld (h := ?_) | refine sy_ldAll (h := ?_) | refine sy_pick_t (h := ?_) | refine sy_pick_f (h := ?_) | refine sy_not (h := ?_) | refine sy_eql (h := ?_) | refine sy_neq (h := ?_) | refine sy_lss (h := ?_) | refine sy_leq (h := ?_) | refine sy_gtr (h := ?_) | refine sy_geq (h := ?_) | refine sy_seql (h := ?_) | refine sy_sneq (h := ?_) | refine sy_slen (h := ?_) | refine sy_len (h := ?_) | refine sy_extract (h := ?_) | refine sy_add (h := ?_) | refine sy_sub (h := ?_) | refine sw_skipT (h := ?_) | refine sw_skipF (h := ?_) | refine sw_skipU (h := ?_) | refine sw_alloc (h := fun _ => ?_) | refine sw_box (h := fun _ => ?_) | refine sw_rangeS (h := fun _ => ?_) | refine sw_nextS (h1 := fun _ => ?_) (h2 := fun _ => ?_) | refine sw_bsl (h := fun _ => ?_) | refine sw_st1 (h := ?_) | refine sw_stAll (h := ?_) | refine cw_cond_t (ht := ?_) | refine cw_cond_f (hf := ?_) | apply cw_skip | apply cw_block | apply cw_ret | apply cw_exit | refine sy_and (h := ?_) | refine sy_or (h := ?_) | refine sy_xor (h := ?_) | refine sy_andNot (h := ?_) | refine sy_xorU (h := ?_) | refine sy_shl (h := ?_) | refine sy_shr (h := ?_) | refine sy_mul (h := ?_) | refine sy_int (h := ?_) | refine sy_beql (h := ?_) | refine sy_bneq (h := ?_) | refine sy_min (h := ?_) | refine sy_max (h := ?_) | refine sy_arrA (h := ?_) | refine sy_strI (h := ?_) | ((fail_if_success (refine sw_chk (h := ?_))); refine sw_guard (ht := ?_) (hf := ?_); all_goals (intro hx_; first | have := of_decide_eq_true hx_ | have := of_decide_eq_false hx_ | skip)) | (refine cw_cond (ht := ?_) (hf := ?_); all_goals (intro hx_; first | have := of_decide_eq_true hx_ | have := of_decide_eq_false hx_ | skip)))
  · apply ends_ret; apply res_tmp; rfl; rfl
    have : ¬ l.length = m.length := by
      have h1 : ¬ (s.n : Int) = (r.n : Int) := by simpa using hx_
      omega
    simp only [eqL, decide_eq_false this, Bool.false_and]
  have hlm : l.length = m.length := by
    have h1 : (s.n : Int) = (r.n : Int) := by simpa using hx_
    omega
  refine cw_loop (ι := Upto l.length (eqBad l m)) (fun i => ⟨[(0, s.v), (1, r.v), (5, .int .i64 i.k)], [], fun w => Strs w s l ∧ Strs w r m⟩) (fun i => l.length - i.k) (Upto.zero _ _) (ok_sub (by repeat (first | exact trivial | refine ⟨rfl, ?_⟩)) (List.Sublist.refl _) fun _ h => h) fun i => ?_
  have hik := i.hk
  repeat' (first | apply sw_nil | apply cw_seq | apply cw_reg | refine sy_move (h := ?_) | refine sy_assign (h := ?_) | refine sy_nilCheck (h := ?_) | refine sy_fld (h := ?_) | refine sy_ld (h := ?_) | refine sy_ldAll (h := ?_) | refine sy_pick_t (h := ?_) | refine sy_pick_f (h := ?_) | refine sy_not (h := ?_) | refine sy_eql (h := ?_) | refine sy_neq (h := ?_) | refine sy_lss (h := ?_) | refine sy_leq (h := ?_) | refine sy_gtr (h := ?_) | refine sy_geq (h := ?_) | refine sy_seql (h := ?_) | refine sy_sneq (h := ?_) | refine sy_slen (h := ?_) | refine sy_len (h := ?_) | refine sy_extract (h := ?_) | refine sy_add (h := ?_) | refine sy_sub (h := ?_) | refine sw_skipT (h := ?_) | refine sw_skipF (h := ?_) | refine sw_skipU (h := ?_) | refine sw_alloc (h := fun _ => ?_) | refine sw_box (h := fun _ => ?_) | refine sw_rangeS (h := fun _ => ?_) | refine sw_nextS (h1 := fun _ => ?_) (h2 := fun _ => ?_) | refine sw_bsl (h := fun _ => ?_) | refine sw_st1 (h := ?_) | refine sw_stAll (h := ?_) | refine cw_cond_t (ht := ?_) | refine cw_cond_f (hf := ?_) | apply cw_skip | apply cw_block | apply cw_ret | apply cw_exit | refine sy_and (h := ?_) | refine sy_or (h := ?_) | refine sy_xor (h := ?_) | refine sy_andNot (h := ?_) | refine sy_xorU (h := ?_) | refine sy_shl (h := ?_) | refine sy_shr (h := ?_) | refine sy_mul (h := ?_) | refine sy_int (h := ?_) | refine sy_beql (h := ?_) | refine sy_bneq (h := ?_) | refine sy_min (h := ?_) | refine sy_max (h := ?_) | refine sy_arrA (h := ?_) | refine sy_strI (h := ?_) | ((fail_if_success (refine sw_chk (h := ?_))); refine sw_guard (ht := ?_) (hf := ?_); all_goals (intro hx_; first | have := of_decide_eq_true hx_ | have := of_decide_eq_false hx_ | skip)) | (refine cw_cond (ht := ?_) (hf := ?_); all_goals (intro hx_; first | have := of_decide_eq_true hx_ | have := of_decide_eq_false hx_ | skip)))
  · have hlt : i.k < l.length := by omega
    have hlt' : i.k < m.length := by omega
    have hp1 := hp (by omega)
    have hp2 := hp' (by omega)
    (apply cw_draw0; kernel_rfl)
    all_goals (refine aw_take 0 (h := ?_))
    all_goals (refine aw_take 1 (h := ?_))
    all_goals (first | refine aw_take 2 (h := ?_) | refine aw_take 2 (hy := by (first | (apply y_idxX (q := i.k); rfl; rfl; omega; omega; assumption; omega))) (h := ?_))
    all_goals (first | refine aw_take 3 (h := ?_) | refine aw_take 3 (hy := by (first | (apply y_ldX; rfl; exact fun w h => Strs.get h.1 hlt) | (apply y_ldX; rfl; exact fun w h => Strs.get h.2 hlt'))) (h := ?_))
    all_goals (refine aw_take 4 (h := ?_))
    all_goals (refine aw_take 5 (h := ?_))
    all_goals (first | refine aw_take 6 (h := ?_) | refine aw_take 6 (hy := by (first | (apply y_idxX (q := i.k); rfl; rfl; omega; omega; assumption; omega))) (h := ?_))
    all_goals (first | refine aw_take 7 (h := ?_) | refine aw_take 7 (hy := by (first | (apply y_ldX; rfl; exact fun w h => Strs.get h.1 hlt) | (apply y_ldX; rfl; exact fun w h => Strs.get h.2 hlt'))) (h := ?_))
    all_goals (refine aw_take 8 (h := ?_))
    all_goals (refine aw_done (h := ?_))
    repeat' (first | apply sw_nil | apply cw_seq | apply cw_reg | refine sy_move (h := ?_) | refine sy_assign (h := ?_) | refine sy_nilCheck (h := ?_) | refine sy_fld (h := ?_) | refine sy_ld (h := ?_) | refine sy_ldAll (h := ?_) | refine sy_pick_t (h := ?_) | refine sy_pick_f (h := ?_) | refine sy_not (h := ?_) | refine sy_eql (h := ?_) | refine sy_neq (h := ?_) | refine sy_lss (h := ?_) | refine sy_leq (h := ?_) | refine sy_gtr (h := ?_) | refine sy_geq (h := ?_) | refine sy_seql (h := ?_) | refine sy_sneq (h := ?_) | refine sy_slen (h := ?_) | refine sy_len (h := ?_) | refine sy_extract (h := ?_) | refine sy_add (h := ?_) | refine sy_sub (h := ?_) | refine sw_skipT (h := ?_) | refine sw_skipF (h := ?_) | refine sw_skipU (h := ?_) | refine sw_alloc (h := fun _ => ?_) | refine sw_box (h := fun _ => ?_) | refine sw_rangeS (h := fun _ => ?_) | refine sw_nextS (h1 := fun _ => ?_) (h2 := fun _ => ?_) | refine sw_bsl (h := fun _ => ?_) | refine sw_st1 (h := ?_) | refine sw_stAll (h := ?_) | refine cw_cond_t (ht := ?_) | refine cw_cond_f (hf := ?_) | apply cw_skip | apply cw_block | apply cw_ret | apply cw_exit | refine sy_and (h := ?_) | refine sy_or (h := ?_) | refine sy_xor (h := ?_) | refine sy_andNot (h := ?_) | refine sy_xorU (h := ?_) | refine sy_shl (h := ?_) | refine sy_shr (h := ?_) | refine sy_mul (h := ?_) | refine sy_int (h := ?_) | refine sy_beql (h := ?_) | refine sy_bneq (h := ?_) | refine sy_min (h := ?_) | refine sy_max (h := ?_) | refine sy_arrA (h := ?_) | refine sy_strI (h := ?_) | ((fail_if_success (refine sw_chk (h := ?_))); refine sw_guard (ht := ?_) (hf := ?_); all_goals (intro hx_; first | have := of_decide_eq_true hx_ | have := of_decide_eq_false hx_ | skip)) | (refine cw_cond (ht := ?_) (hf := ?_); all_goals (intro hx_; first | have := of_decide_eq_true hx_ | have := of_decide_eq_false hx_ | skip)))
    · apply ends_ret; apply res_tmp; rfl; rfl
      rw [eqL, allB_false hlt (by assumption), Bool.and_false]
    · exact ⟨i.next hlt (by assumption), (by show l.length - (i.k + 1) < l.length - i.k; omega), ok_sub (by repeat (first | exact trivial | refine ⟨rfl, ?_⟩)) (List.Sublist.refl _) fun _ h => h⟩
  · apply ends_ret; apply res_tmp; rfl; rfl
    rw [eqL, i.all (by omega), decide_eq_true hlm]
    rfl
def has21V (l : List ByteArray) (x : ByteArray) : Bool := l.any fun y => seqB y x
theorem has21_found {l : List ByteArray} {x : ByteArray} {k : Nat} (hk : k < l.length) (h : seqB (l.getD k .empty) x = true) : has21V l x = true := by
  rw [has21V, List.any_eq_true]
  refine ⟨l[k], List.getElem_mem hk, ?_⟩
  simpa [hk] using h
theorem has21_none {l : List ByteArray} {x : ByteArray} (h : ∀ k, k < l.length → seqB (l.getD k .empty) x = false) : has21V l x = false := by
  rw [has21V, List.any_eq_false]
  intro y hy
  obtain ⟨k, hk, rfl⟩ := List.getElem_of_mem hy
  have := h k hk
  simp [hk] at this
  simp [this]
theorem has21_pu (s : SlV) (l : List ByteArray) (x : ByteArray) : Pu Tryz.prog 16 #[s.v, .string x] (fun w => Strs w s l) (.bool (has21V l x)) := by
  refine pu_of_cw (args := [_, _]) _ Tryz.func16 rfl Tryz.ntmps16 rfl fun av bor w0 => ?_
  refine cw_know (p := s.n = l.length ∧ s.n ≤ maxLen ∧ (0 < l.length → s.p.isSome = true)) (fun w h => ⟨h.len_, Nat.le_trans (RowsD.cap h) (RowsD.max h), h.some_⟩) fun ⟨hl, hm, hp⟩ => ?_
  simp only [maxLen] at hm
  repeat' (first | apply sw_nil | apply cw_seq | apply cw_reg | refine sy_move (h := ?_) | refine sy_assign (h := ?_) | refine sy_nilCheck (h := ?_) | refine sy_fld (h := ?_) | refine sy_ld (h := ?_) | refine sy_ldAll (h := ?_) | refine sy_pick_t (h := ?_) | refine sy_pick_f (h := ?_) | refine sy_not (h := ?_) | refine sy_eql (h := ?_) | refine sy_neq (h := ?_) | refine sy_lss (h := ?_) | refine sy_leq (h := ?_) | refine sy_gtr (h := ?_) | refine sy_geq (h := ?_) | refine sy_seql (h := ?_) | refine sy_sneq (h := ?_) | refine sy_slen (h := ?_) | refine sy_len (h := ?_) | refine sy_extract (h := ?_) | refine sy_add (h := ?_) | refine sy_sub (h := ?_) | refine sw_skipT (h := ?_) | refine sw_skipF (h := ?_) | refine sw_skipU (h := ?_) | refine sw_alloc (h := fun _ => ?_) | refine sw_box (h := fun _ => ?_) | refine sw_rangeS (h := fun _ => ?_) | refine sw_nextS (h1 := fun _ => ?_) (h2 := fun _ => ?_) | refine sw_bsl (h := fun _ => ?_) | refine sw_st1 (h := ?_) | refine sw_stAll (h := ?_) | refine cw_cond_t (ht := ?_) | refine cw_cond_f (hf := ?_) | apply cw_skip | apply cw_block | apply cw_ret | apply cw_exit | refine sy_and (h := ?_) | refine sy_or (h := ?_) | refine sy_xor (h := ?_) | refine sy_andNot (h := ?_) | refine sy_xorU (h := ?_) | refine sy_shl (h := ?_) | refine sy_shr (h := ?_) | refine sy_mul (h := ?_) | refine sy_int (h := ?_) | refine sy_beql (h := ?_) | refine sy_bneq (h := ?_) | refine sy_min (h := ?_) | refine sy_max (h := ?_) | refine sy_arrA (h := ?_) | refine sy_strI (h := ?_))
  refine cw_loop (ι := Upto l.length (fun k => seqB (l.getD k .empty) x)) (fun i => ⟨[(0, s.v), (1, .string x), (5, .int .i64 i.k)], [], fun w => Strs w s l⟩) (fun i => l.length - i.k) (Upto.zero _ _) (ok_sub ⟨rfl, rfl, rfl, trivial⟩ (List.Sublist.refl _) fun _ h => h) fun i => ?_
  have hik := i.hk
  repeat' (first | apply sw_nil | apply cw_seq | apply cw_reg | refine sy_move (h := ?_) | refine sy_assign (h := ?_) | refine sy_nilCheck (h := ?_) | refine sy_fld (h := ?_) | refine sy_ld (h := ?_) | refine sy_ldAll (h := ?_) | refine sy_pick_t (h := ?_) | refine sy_pick_f (h := ?_) | refine sy_not (h := ?_) | refine sy_eql (h := ?_) | refine sy_neq (h := ?_) | refine sy_lss (h := ?_) | refine sy_leq (h := ?_) | refine sy_gtr (h := ?_) | refine sy_geq (h := ?_) | refine sy_seql (h := ?_) | refine sy_sneq (h := ?_) | refine sy_slen (h := ?_) | refine sy_len (h := ?_) | refine sy_extract (h := ?_) | refine sy_add (h := ?_) | refine sy_sub (h := ?_) | refine sw_skipT (h := ?_) | refine sw_skipF (h := ?_) | refine sw_skipU (h := ?_) | refine sw_alloc (h := fun _ => ?_) | refine sw_box (h := fun _ => ?_) | refine sw_rangeS (h := fun _ => ?_) | refine sw_nextS (h1 := fun _ => ?_) (h2 := fun _ => ?_) | refine sw_bsl (h := fun _ => ?_) | refine sw_st1 (h := ?_) | refine sw_stAll (h := ?_) | refine cw_cond_t (ht := ?_) | refine cw_cond_f (hf := ?_) | apply cw_skip | apply cw_block | apply cw_ret | apply cw_exit | refine sy_and (h := ?_) | refine sy_or (h := ?_) | refine sy_xor (h := ?_) | refine sy_andNot (h := ?_) | refine sy_xorU (h := ?_) | refine sy_shl (h := ?_) | refine sy_shr (h := ?_) | refine sy_mul (h := ?_) | refine sy_int (h := ?_) | refine sy_beql (h := ?_) | refine sy_bneq (h := ?_) | refine sy_min (h := ?_) | refine sy_max (h := ?_) | refine sy_arrA (h := ?_) | refine sy_strI (h := ?_) | ((fail_if_success (refine sw_chk (h := ?_))); refine sw_guard (ht := ?_) (hf := ?_); all_goals (intro hx_; first | have := of_decide_eq_true hx_ | have := of_decide_eq_false hx_ | skip)) | (refine cw_cond (ht := ?_) (hf := ?_); all_goals (intro hx_; first | have := of_decide_eq_true hx_ | have := of_decide_eq_false hx_ | skip)))
  · have hlt : i.k < l.length := by omega
    have hp' := hp (by omega)
    repeat' (first | apply sw_nil | apply cw_seq | apply cw_reg | refine sy_move (h := ?_) | refine sy_assign (h := ?_) | refine sy_nilCheck (h := ?_) | refine sy_fld (h := ?_) | refine sy_ld (h := ?_) | refine sy_ldAll (h := ?_) | refine sy_pick_t (h := ?_) | refine sy_pick_f (h := ?_) | refine sy_not (h := ?_) | refine sy_eql (h := ?_) | refine sy_neq (h := ?_) | refine sy_lss (h := ?_) | refine sy_leq (h := ?_) | refine sy_gtr (h := ?_) | refine sy_geq (h := ?_) | refine sy_seql (h := ?_) | refine sy_sneq (h := ?_) | refine sy_slen (h := ?_) | refine sy_len (h := ?_) | refine sy_extract (h := ?_) | refine sy_add (h := ?_) | refine sy_sub (h := ?_) | refine sw_skipT (h := ?_) | refine sw_skipF (h := ?_) | refine sw_skipU (h := ?_) | refine sw_alloc (h := fun _ => ?_) | refine sw_box (h := fun _ => ?_) | refine sw_rangeS (h := fun _ => ?_) | refine sw_nextS (h1 := fun _ => ?_) (h2 := fun _ => ?_) | refine sw_bsl (h := fun _ => ?_) | refine sw_st1 (h := ?_) | refine sw_stAll (h := ?_) | refine cw_cond_t (ht := ?_) | refine cw_cond_f (hf := ?_) | apply cw_skip | apply cw_block | apply cw_ret | apply cw_exit | refine sy_and (h := ?_) | refine sy_or (h := ?_) | refine sy_xor (h := ?_) | refine sy_andNot (h := ?_) | refine sy_xorU (h := ?_) | refine sy_shl (h := ?_) | refine sy_shr (h := ?_) | refine sy_mul (h := ?_) | refine sy_int (h := ?_) | refine sy_beql (h := ?_) | refine sy_bneq (h := ?_) | refine sy_min (h := ?_) | refine sy_max (h := ?_) | refine sy_arrA (h := ?_) | refine sy_strI (h := ?_) | (refine sy_idxX (q := i.k) (h := ?_)) | (refine sy_ldX (hF := fun w h => Strs.get h hlt) (h := ?_)) | ((fail_if_success (refine sw_chk (h := ?_))); refine sw_guard (ht := ?_) (hf := ?_); all_goals (intro hx_; first | have := of_decide_eq_true hx_ | have := of_decide_eq_false hx_ | skip)) | (refine cw_cond (ht := ?_) (hf := ?_); all_goals (intro hx_; first | have := of_decide_eq_true hx_ | have := of_decide_eq_false hx_ | skip)))
    · apply ends_ret; apply res_tmp; rfl; rfl
      rw [has21_found hlt (by assumption)]
    · exact ⟨i.next hlt (by assumption), (by show l.length - (i.k + 1) < l.length - i.k; omega), ok_sub ⟨rfl, rfl, rfl, trivial⟩ (List.Sublist.refl _) fun _ h => h⟩
  · apply ends_ret; apply res_tmp; rfl; rfl
    rw [has21_none fun k hk => i.ok k (by omega)]
end Go.Proofs.YtfpojkoddcdojaaGreatDoor
