/- Contracts: relation.Followers, Following. -/
import Derived.Test.YtepckpofhegmiaaGreatDoorRq
import Derived.Test.YtepckpofhegmiaaGreatDoorMb
set_option linter.unusedVariables false
set_option linter.unusedSimpArgs false
namespace Go.Proofs.YtepckpofhegmiaaGreatDoor
open Go Go.Proofs Sy
def fersF (l : List ChainD) (id : ByteArray) : Nat → List ByteArray
  | 0 => []
  | i + 1 => bif followsV l (l.getD i ChainD.zero).id id then sput (fersF l id i) (l.getD i ChainD.zero).id else fersF l id i
def fersV (l : List ChainD) (id : ByteArray) : List ByteArray := sortB (fersF l id l.length)
theorem fersF_bnd {l : List ChainD} (id : ByteArray) (hs : ∀ c ∈ l, c.id.size ≤ maxLen) : ∀ i, i ≤ l.length → LBnd i (fersF l id i)
  | 0, _ => ⟨Nat.le_refl _, fun k hk => (List.not_mem_nil hk).elim⟩
  | i + 1, h => by
    have ih := fersF_bnd id hs i (by omega)
    have hx : (l.getD i ChainD.zero).id.size ≤ maxLen := by
      rw [List.getD_eq_getElem?_getD, List.getElem?_eq_getElem (by omega)]
      exact hs _ (List.getElem_mem _)
    rw [fersF]
    cases followsV l (l.getD i ChainD.zero).id id with
    | true => exact sput_bnd hx ih
    | false => exact ih.mono (by omega)
theorem followers_mk (s : SlV) (l : List ChainD) (id : ByteArray) (hok : ∀ c ∈ l, ActsOk c.actsL) (hs : ∀ c ∈ l, c.id.size ≤ maxLen) (hl6 : l.length ≤ 1000000) :
    Mk Tryz.prog 7 #[s.v, .string id] (fun w => Chains w s l ∧ Glob w) fun u X' => ∃ so : SlV, u = so.v ∧ ∀ w, X' w → Strs w so (fersV l id) := by
  refine mk_of_cw2 (args := [_, _]) _ Tryz.func7 rfl Tryz.ntmps7 rfl fun av bor w0 => ?_
  refine cw_know (p := s.n = l.length ∧ s.n ≤ maxLen ∧ (0 < l.length → s.p.isSome = true)) (fun w h => ⟨h.1.len_, h.1.max_, h.1.some_⟩) fun ⟨hl, hm, hp⟩ => ?_
  simp only [maxLen] at hm
  have hS : ∀ i, fersF l id (i + 1) = _ := fun i => fersF.eq_2 l id i
  have hB := fersF_bnd id hs
  unfold fersV
  generalize hF : fersF l id = F at *
  repeat' (first | apply sw_nil | apply cw_seq | apply cw_reg | refine sy_move (h := ?_) | refine sy_assign (h := ?_) | refine sy_fld (h := ?_) | refine sy_ld (h := ?_) | refine sy_ldAll (h := ?_) | refine sy_lss (h := ?_) | refine sy_slen (h := ?_) | refine sy_len (h := ?_) | refine sy_add (h := ?_) | refine sw_alloc (h := fun _ => ?_) | refine sw_st1 (h := ?_) | refine sw_stAll (h := ?_) | refine cw_cond_t (ht := ?_) | refine cw_cond_f (hf := ?_) | apply cw_skip | apply cw_block | apply cw_ret | apply cw_exit | refine sy_arrA (h := ?_) | refine sy_strI (h := ?_) | (refine sw_makeMap ByteArray (h := fun q => ?_)) | (refine cw_cond (ht := ?_) (hf := ?_); all_goals (intro hx_; first | have := of_decide_eq_true hx_ | have := of_decide_eq_false hx_ | skip)))
  rename_i q
  refine cw_loop (ι := Kth l.length) (fun i => ⟨[(0, s.v), (1, .string id), (5, .map (some q)), (9, s.v), (10, .int .i64 s.n), (11, .int .i64 i.k)], [mapr q (setM (F i.k))], fun w => Chains w s l ∧ Glob w⟩) (fun i => l.length - i.k) ⟨0, Nat.zero_le _⟩
    (ok_sub ⟨rfl, rfl, rfl, rfl, rfl, rfl, trivial⟩ (by subst hF; exact List.Sublist.refl _) fun _ h => h) fun i => ?_
  have hik := i.hk
  repeat' (first | apply sw_nil | apply cw_seq | apply cw_reg | refine sy_move (h := ?_) | refine sy_assign (h := ?_) | refine sy_fld (h := ?_) | refine sy_ld (h := ?_) | refine sy_ldAll (h := ?_) | refine sy_lss (h := ?_) | refine sy_slen (h := ?_) | refine sy_len (h := ?_) | refine sy_add (h := ?_) | refine sw_alloc (h := fun _ => ?_) | refine sw_st1 (h := ?_) | refine sw_stAll (h := ?_) | refine cw_cond_t (ht := ?_) | refine cw_cond_f (hf := ?_) | apply cw_skip | apply cw_block | apply cw_ret | apply cw_exit | refine sy_arrA (h := ?_) | refine sy_strI (h := ?_) | (refine cw_cond (ht := ?_) (hf := ?_); all_goals (intro hx_; first | have := of_decide_eq_true hx_ | have := of_decide_eq_false hx_ | skip)))
  · have hlt : i.k < l.length := by omega
    have hp' := hp (by omega)
    obtain ⟨c, hc⟩ : ∃ c, l[i.k]? = some c := ⟨_, List.getElem?_eq_getElem hlt⟩
    have hcm := List.mem_of_getElem? hc
    have hSx := hS i.k
    rw [show l.getD i.k ChainD.zero = c from by rw [List.getD_eq_getElem?_getD, hc]; rfl] at hSx
    have hfo := follows_pu s l c.id id hok
    cases hv : followsV l c.id id with
    | true =>
      rw [hv] at hfo hSx
      have hS1 : F (i.k + 1) = sput (F i.k) c.id := hSx
      repeat' (first | apply sw_nil | apply cw_seq | apply cw_reg | refine sy_move (h := ?_) | refine sy_assign (h := ?_) | refine sy_fld (h := ?_) | refine sy_ld (h := ?_) | refine sy_ldAll (h := ?_) | refine sy_lss (h := ?_) | refine sy_slen (h := ?_) | refine sy_len (h := ?_) | refine sy_add (h := ?_) | refine sw_alloc (h := fun _ => ?_) | refine sw_st1 (h := ?_) | refine sw_stAll (h := ?_) | refine cw_cond_t (ht := ?_) | refine cw_cond_f (hf := ?_) | apply cw_skip | apply cw_block | apply cw_ret | apply cw_exit | refine sy_arrA (h := ?_) | refine sy_strI (h := ?_) | (refine sy_idxX (q := i.k * 6) (h := ?_)) | (refine sy_ldXs (cs := c.cells) (hF := fun w h => Chains.get h.1 hc) (h := ?_)) | (refine sw_pu (hc := hfo) (hX := fun _ h => h) (h := ?_)) | (refine sw_turn (hc := setAdd_ct _ _ _) (hX := fun _ _ => trivial) (h := ?_)) | (refine cw_cond (ht := ?_) (hf := ?_); all_goals (intro hx_; first | have := of_decide_eq_true hx_ | have := of_decide_eq_false hx_ | skip)))
      exact ⟨⟨i.k + 1, hlt⟩, (by show l.length - (i.k + 1) < l.length - i.k; omega), ok_sub ⟨rfl, rfl, rfl, rfl, rfl, rfl, trivial⟩ (by show List.Sublist [mapr q (setM (F (i.k + 1)))] _; rw [hS1]; exact List.sublist_cons_self _ _) fun _ h => h⟩
    | false =>
      rw [hv] at hfo hSx
      have hS1 : F (i.k + 1) = F i.k := hSx
      repeat' (first | apply sw_nil | apply cw_seq | apply cw_reg | refine sy_move (h := ?_) | refine sy_assign (h := ?_) | refine sy_fld (h := ?_) | refine sy_ld (h := ?_) | refine sy_ldAll (h := ?_) | refine sy_lss (h := ?_) | refine sy_slen (h := ?_) | refine sy_len (h := ?_) | refine sy_add (h := ?_) | refine sw_alloc (h := fun _ => ?_) | refine sw_st1 (h := ?_) | refine sw_stAll (h := ?_) | refine cw_cond_t (ht := ?_) | refine cw_cond_f (hf := ?_) | apply cw_skip | apply cw_block | apply cw_ret | apply cw_exit | refine sy_arrA (h := ?_) | refine sy_strI (h := ?_) | (refine sy_idxX (q := i.k * 6) (h := ?_)) | (refine sy_ldXs (cs := c.cells) (hF := fun w h => Chains.get h.1 hc) (h := ?_)) | (refine sw_pu (hc := hfo) (hX := fun _ h => h) (h := ?_)) | (refine cw_cond (ht := ?_) (hf := ?_); all_goals (intro hx_; first | have := of_decide_eq_true hx_ | have := of_decide_eq_false hx_ | skip)))
      exact ⟨⟨i.k + 1, hlt⟩, (by show l.length - (i.k + 1) < l.length - i.k; omega), ok_sub ⟨rfl, rfl, rfl, rfl, rfl, rfl, trivial⟩ (by show List.Sublist [mapr q (setM (F (i.k + 1)))] _; rw [hS1]; exact List.sublist_cons_self _ _) fun _ h => h⟩
  · have hk : i.k = l.length := by omega
    have hb := hB i.k hik
    refine sw_fnAt (hc := setList_ct q (F i.k) hb.size (Nat.le_trans hb.len (by omega))) (hX := fun _ _ => trivial) (h := ?_)
    rintro _ _ X1 ⟨A1, c1, rfl, rfl⟩
    repeat' (first | apply sw_nil | apply cw_seq | apply cw_reg | refine sy_move (h := ?_) | refine sy_assign (h := ?_) | refine sy_fld (h := ?_) | refine sy_ld (h := ?_) | refine sy_ldAll (h := ?_) | refine sy_lss (h := ?_) | refine sy_slen (h := ?_) | refine sy_len (h := ?_) | refine sy_add (h := ?_) | refine sw_alloc (h := fun _ => ?_) | refine sw_st1 (h := ?_) | refine sw_stAll (h := ?_) | refine cw_cond_t (ht := ?_) | refine cw_cond_f (hf := ?_) | apply cw_skip | apply cw_block | apply cw_ret | apply cw_exit | refine sy_arrA (h := ?_) | refine sy_strI (h := ?_) | (refine cw_cond (ht := ?_) (hf := ?_); all_goals (intro hx_; first | have := of_decide_eq_true hx_ | have := of_decide_eq_false hx_ | skip)))
    exact ends_ret (res_tmp rfl rfl) ⟨⟨A1, (F i.k).length, c1⟩, rfl, fun w h => by
      have e : sortB (F l.length) = sortB (F i.k) := by rw [hk]
      rw [e]
      exact strs_given (l := F i.k) (h.2 _ List.mem_cons_self) rfl⟩
def fingF (l : List ChainD) (id : ByteArray) (ks : List ByteArray) : Nat → List ByteArray
  | 0 => []
  | i + 1 => bif followsV l id (ks.getD i .empty) then sput (fingF l id ks i) (ks.getD i .empty) else fingF l id ks i
def fingV (l : List ChainD) (id : ByteArray) : List ByteArray := sortB (fingF l id (sortB (tieC l id).f) (sortB (tieC l id).f).length)
theorem fingF_bnd {l : List ChainD} (id : ByteArray) {ks : List ByteArray} (hs : ∀ k ∈ ks, k.size ≤ maxLen) : ∀ i, i ≤ ks.length → LBnd i (fingF l id ks i)
  | 0, _ => ⟨Nat.le_refl _, fun k hk => (List.not_mem_nil hk).elim⟩
  | i + 1, h => by
    have ih := fingF_bnd (l := l) id hs i (by omega)
    have hx : (ks.getD i .empty).size ≤ maxLen := by
      rw [List.getD_eq_getElem?_getD, List.getElem?_eq_getElem (by omega)]
      exact hs _ (List.getElem_mem _)
    rw [fingF]
    cases followsV l id (ks.getD i .empty) with
    | true => exact sput_bnd hx ih
    | false => exact ih.mono (by omega)
theorem tieC_bnd {l : List ChainD} (id : ByteArray) (hok : ∀ c ∈ l, ActsOk c.actsL) (hl : ∀ c ∈ l, c.actsL.length ≤ 1000000) : TBnd 1000000 (tieC l id) := by
  refine (tieV_bnd (chainC_ok id hok) _).mono ?_
  rcases chainC_or l id with ⟨hm, _⟩ | hz
  · exact hl _ hm
  · rw [hz]; exact Nat.zero_le _
theorem following_mk (s : SlV) (l : List ChainD) (id : ByteArray) (hok : ∀ c ∈ l, ActsOk c.actsL) (hlen : ∀ c ∈ l, c.actsL.length ≤ 1000000) :
    Mk Tryz.prog 8 #[s.v, .string id] (fun w => Chains w s l ∧ Glob w) fun u X' => ∃ so : SlV, u = so.v ∧ ∀ w, X' w → Strs w so (fingV l id) := by
  refine mk_of_cw2 (args := [_, _]) _ Tryz.func8 rfl Tryz.ntmps8 rfl fun av bor w0 => ?_
  have hof := of_ct s l id hok
  have hT := tieC_bnd id hok hlen
  unfold fingV
  generalize tieC l id = t at *
  have hks : ∀ k ∈ sortB t.f, k.size ≤ maxLen := fun k hk => hT.f.size k (mem_sortB.1 hk)
  have hkl : (sortB t.f).length ≤ 1000000 := by rw [sortB_len]; exact hT.f.len
  have hS : ∀ i, fingF l id (sortB t.f) (i + 1) = _ := fun i => fingF.eq_2 l id (sortB t.f) i
  have hB := fingF_bnd (l := l) id hks
  generalize hF : fingF l id (sortB t.f) = F at *
  repeat' (first | apply sw_nil | apply cw_seq | apply cw_reg | refine sy_move (h := ?_) | refine sy_assign (h := ?_) | refine sy_ld (h := ?_) | refine sy_ldAll (h := ?_) | refine sy_lss (h := ?_) | refine sy_slen (h := ?_) | refine sy_len (h := ?_) | refine sy_add (h := ?_) | refine cw_cond_t (ht := ?_) | refine cw_cond_f (hf := ?_) | apply cw_skip | apply cw_block | apply cw_ret | apply cw_exit | refine sy_arrA (h := ?_) | refine sy_strI (h := ?_) | (refine sw_makeMap ByteArray (h := fun q => ?_)) | (refine cw_cond (ht := ?_) (hf := ?_); all_goals (intro hx_; first | have := of_decide_eq_true hx_ | have := of_decide_eq_false hx_ | skip)))
  refine sw_fn0 (hc := hof) (hX := fun w h => h) (h := ?_)
  rintro _ _ X1 ⟨q1, q2, q3, q4, rfl, rfl⟩
  unfold setsR
  repeat' (first | apply sw_nil | apply cw_seq | apply cw_reg | refine sy_move (h := ?_) | refine sy_assign (h := ?_) | refine sy_ld (h := ?_) | refine sy_ldAll (h := ?_) | refine sy_lss (h := ?_) | refine sy_slen (h := ?_) | refine sy_len (h := ?_) | refine sy_add (h := ?_) | refine cw_cond_t (ht := ?_) | refine cw_cond_f (hf := ?_) | apply cw_skip | apply cw_block | apply cw_ret | apply cw_exit | refine sy_arrA (h := ?_) | refine sy_strI (h := ?_) | (refine sy_fieldS0 (h := ?_)) | (refine cw_cond (ht := ?_) (hf := ?_); all_goals (intro hx_; first | have := of_decide_eq_true hx_ | have := of_decide_eq_false hx_ | skip)))
  refine sw_fnAt (hc := setList_ct q1 t.f hT.f.size hT.f.len) (hX := fun _ _ => trivial) (h := ?_)
  rintro _ _ X2 ⟨A1, c1, rfl, rfl⟩
  refine sw_give ?_
  generalize hK : sortB t.f = K at *
  have hKl : t.f.length = K.length := by rw [← hK, sortB_len]
  refine sw_imp (X' := fun w => (Chains w s l ∧ Glob w) ∧ Strs w ⟨A1, K.length, c1⟩ K) (fun w h => ⟨h.1.1.1, by have := strs_of_orow (l := K) h.2 hKl; rw [hKl] at this; exact this⟩) ?_
  rw [hKl]
  repeat' (first | apply sw_nil | apply cw_seq | apply cw_reg | refine sy_move (h := ?_) | refine sy_assign (h := ?_) | refine sy_ld (h := ?_) | refine sy_ldAll (h := ?_) | refine sy_lss (h := ?_) | refine sy_slen (h := ?_) | refine sy_len (h := ?_) | refine sy_add (h := ?_) | refine cw_cond_t (ht := ?_) | refine cw_cond_f (hf := ?_) | apply cw_skip | apply cw_block | apply cw_ret | apply cw_exit | refine sy_arrA (h := ?_) | refine sy_strI (h := ?_) | (refine cw_cond (ht := ?_) (hf := ?_); all_goals (intro hx_; first | have := of_decide_eq_true hx_ | have := of_decide_eq_false hx_ | skip)))
  refine cw_loop (ι := Kth K.length) (fun i => ⟨[(0, s.v), (1, .string id), (5, .map (some q)), (13, .slice A1 K.length c1), (14, .int .i64 (K.length : Nat)), (15, .int .i64 i.k)], [mapr q (setM (F i.k))], fun w => (Chains w s l ∧ Glob w) ∧ Strs w ⟨A1, K.length, c1⟩ K⟩) (fun i => K.length - i.k) ⟨0, Nat.zero_le _⟩
    (ok_sub ⟨rfl, rfl, rfl, rfl, rfl, rfl, trivial⟩ (by subst hF; repeat (first | exact List.Sublist.refl _ | exact List.Sublist.cons_cons _ (List.nil_sublist _) | apply List.Sublist.cons)) fun _ h => h) fun i => ?_
  have hik := i.hk
  refine cw_know (p := 0 < K.length → A1.isSome = true) (fun w h hlt => h.2.some_ hlt) fun hp => ?_
  repeat' (first | apply sw_nil | apply cw_seq | apply cw_reg | refine sy_move (h := ?_) | refine sy_assign (h := ?_) | refine sy_ld (h := ?_) | refine sy_ldAll (h := ?_) | refine sy_lss (h := ?_) | refine sy_slen (h := ?_) | refine sy_len (h := ?_) | refine sy_add (h := ?_) | refine cw_cond_t (ht := ?_) | refine cw_cond_f (hf := ?_) | apply cw_skip | apply cw_block | apply cw_ret | apply cw_exit | refine sy_arrA (h := ?_) | refine sy_strI (h := ?_) | (refine cw_cond (ht := ?_) (hf := ?_); all_goals (intro hx_; first | have := of_decide_eq_true hx_ | have := of_decide_eq_false hx_ | skip)))
  · have hlt : i.k < K.length := by omega
    have hp' := hp (by omega)
    obtain ⟨x, hx⟩ : ∃ x, K[i.k]? = some x := ⟨_, List.getElem?_eq_getElem hlt⟩
    have hSx := hS i.k
    rw [show K.getD i.k .empty = x from by rw [List.getD_eq_getElem?_getD, hx]; rfl] at hSx
    have hfo := follows_pu s l id x hok
    cases hv : followsV l id x with
    | true =>
      rw [hv] at hfo hSx
      have hS1 : F (i.k + 1) = sput (F i.k) x := hSx
      repeat' (first | apply sw_nil | apply cw_seq | apply cw_reg | refine sy_move (h := ?_) | refine sy_assign (h := ?_) | refine sy_ld (h := ?_) | refine sy_ldAll (h := ?_) | refine sy_lss (h := ?_) | refine sy_slen (h := ?_) | refine sy_len (h := ?_) | refine sy_add (h := ?_) | refine cw_cond_t (ht := ?_) | refine cw_cond_f (hf := ?_) | apply cw_skip | apply cw_block | apply cw_ret | apply cw_exit | refine sy_arrA (h := ?_) | refine sy_strI (h := ?_) | (refine sy_idxX (q := i.k) (h := ?_)) | (refine sy_ldX (q := i.k) (u := .string x) (hF := fun w h => h.2.at_ hx) (h := ?_)) | (refine sw_pu (hc := hfo) (hX := fun _ h => h.1) (h := ?_)) | (refine sw_turn (hc := setAdd_ct _ _ _) (hX := fun _ _ => trivial) (h := ?_)) | (refine cw_cond (ht := ?_) (hf := ?_); all_goals (intro hx_; first | have := of_decide_eq_true hx_ | have := of_decide_eq_false hx_ | skip)))
      exact ⟨⟨i.k + 1, hlt⟩, (by show K.length - (i.k + 1) < K.length - i.k; omega), ok_sub ⟨rfl, rfl, rfl, rfl, rfl, rfl, trivial⟩ (by show List.Sublist [mapr q (setM (F (i.k + 1)))] _; rw [hS1]; exact List.Sublist.refl _) fun _ h => h⟩
    | false =>
      rw [hv] at hfo hSx
      have hS1 : F (i.k + 1) = F i.k := hSx
      repeat' (first | apply sw_nil | apply cw_seq | apply cw_reg | refine sy_move (h := ?_) | refine sy_assign (h := ?_) | refine sy_ld (h := ?_) | refine sy_ldAll (h := ?_) | refine sy_lss (h := ?_) | refine sy_slen (h := ?_) | refine sy_len (h := ?_) | refine sy_add (h := ?_) | refine cw_cond_t (ht := ?_) | refine cw_cond_f (hf := ?_) | apply cw_skip | apply cw_block | apply cw_ret | apply cw_exit | refine sy_arrA (h := ?_) | refine sy_strI (h := ?_) | (refine sy_idxX (q := i.k) (h := ?_)) | (refine sy_ldX (q := i.k) (u := .string x) (hF := fun w h => h.2.at_ hx) (h := ?_)) | (refine sw_pu (hc := hfo) (hX := fun _ h => h.1) (h := ?_)) | (refine cw_cond (ht := ?_) (hf := ?_); all_goals (intro hx_; first | have := of_decide_eq_true hx_ | have := of_decide_eq_false hx_ | skip)))
      exact ⟨⟨i.k + 1, hlt⟩, (by show K.length - (i.k + 1) < K.length - i.k; omega), ok_sub ⟨rfl, rfl, rfl, rfl, rfl, rfl, trivial⟩ (by show List.Sublist [mapr q (setM (F (i.k + 1)))] _; rw [hS1]; exact List.Sublist.refl _) fun _ h => h⟩
  · have hk : i.k = K.length := by omega
    have hb := hB i.k hik
    refine sw_fnAt (hc := setList_ct q (F i.k) hb.size (Nat.le_trans hb.len (by omega))) (hX := fun _ _ => trivial) (h := ?_)
    rintro _ _ X3 ⟨A2, c2, rfl, rfl⟩
    repeat' (first | apply sw_nil | apply cw_seq | apply cw_reg | refine sy_move (h := ?_) | refine sy_assign (h := ?_) | refine sy_ld (h := ?_) | refine sy_ldAll (h := ?_) | refine sy_lss (h := ?_) | refine sy_slen (h := ?_) | refine sy_len (h := ?_) | refine sy_add (h := ?_) | refine cw_cond_t (ht := ?_) | refine cw_cond_f (hf := ?_) | apply cw_skip | apply cw_block | apply cw_ret | apply cw_exit | refine sy_arrA (h := ?_) | refine sy_strI (h := ?_) | (refine cw_cond (ht := ?_) (hf := ?_); all_goals (intro hx_; first | have := of_decide_eq_true hx_ | have := of_decide_eq_false hx_ | skip)))
    exact ends_ret (res_tmp rfl rfl) ⟨⟨A2, (F i.k).length, c2⟩, rfl, fun w h => by
      have e : sortB (F K.length) = sortB (F i.k) := by rw [hk]
      rw [e]
      exact strs_given (l := F i.k) (h.2 _ List.mem_cons_self) rfl⟩
end Go.Proofs.YtepckpofhegmiaaGreatDoor
