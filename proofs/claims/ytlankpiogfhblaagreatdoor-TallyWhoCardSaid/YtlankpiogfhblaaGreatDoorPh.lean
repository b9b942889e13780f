/- Contract of post.Find. -/
import Derived.Test.YtlankpiogfhblaaGreatDoorPg
import Derived.Test.YtlankpiogfhblaaGreatDoorRq
set_option linter.unusedVariables false
set_option linter.unusedSimpArgs false
namespace Go.Proofs.YtlankpiogfhblaaGreatDoor
open Go Go.Proofs Sy
instance : TyAgg Tryz.prog 28 11 := ⟨by kernel_rfl⟩
def isPost (id : ByteArray) (p : PostD) : Bool := seqB p.id id
/-- post.Find, told without headers. -/
def findPV (l : List ChainD) (id : ByteArray) : Option PostD := (l.flatMap postsV).find? (isPost id)
theorem findPV_none {l : List ChainD} {id : ByteArray} (h : ∀ c ∈ l, ∀ p ∈ postsV c, isPost id p = false) : findPV l id = none := by
  rw [findPV, List.find?_eq_none]
  intro p hp
  obtain ⟨c, hc, h1⟩ := List.mem_flatMap.1 hp
  rw [h c hc p h1]
  decide
theorem findPV_at {l : List ChainD} {id : ByteArray} {k j : Nat} {c : ChainD} {P : List PostD} {p : PostD} (hc : l[k]? = some c) (hP : P.map PostD.can = postsV c) (hp : P[j]? = some p) (h1 : ∀ i x, i < k → l[i]? = some x → ∀ q ∈ postsV x, isPost id q = false) (h2 : ∀ i q, i < j → P[i]? = some q → isPost id q = false) (h3 : isPost id p = true) :
    findPV l id = some p.can := by
  obtain ⟨hk, rfl⟩ := List.getElem?_eq_some_iff.1 hc
  have e : l = l.take k ++ l[k] :: l.drop (k + 1) := by rw [← List.drop_eq_getElem_cons hk, List.take_append_drop]
  rw [findPV, e, List.flatMap_append, List.flatMap_cons, List.find?_append, List.find?_append, List.find?_eq_none.2 (fun q hq => by
    obtain ⟨x, hx, hq⟩ := List.mem_flatMap.1 hq
    obtain ⟨i, hi⟩ := List.mem_iff_getElem?.1 hx
    rw [List.getElem?_take] at hi
    split at hi
    · rename_i hik
      rw [h1 i x hik hi q hq]
      decide
    · cases hi), Option.none_or]
  have e2 : (postsV l[k]).find? (isPost id) = some p.can := by
    rw [← hP, List.find?_map]
    have e3 : (isPost id ∘ PostD.can) = isPost id := rfl
    rw [e3]
    obtain ⟨hj, rfl⟩ := List.getElem?_eq_some_iff.1 hp
    have e4 : P.find? (isPost id) = some P[j] := by
      rw [List.find?_eq_some_iff_getElem]
      refine ⟨h3, j, hj, rfl, fun i hi => ?_⟩
      rw [h2 i P[i] hi (List.getElem?_eq_getElem (by omega))]
      decide
    rw [e4]
    rfl
  rw [e2]
  rfl
def FoundAt (l : List ChainD) (id : ByteArray) (u : Value) (X : World → Prop) : Prop := ∃ p : PostD, u = .tuple #[p.v, .bool (findPV l id).isSome] ∧ p.can = (findPV l id).getD PostD.zero
structure FinI (l : List ChainD) (id : ByteArray) where
  k : Nat
  hk : k ≤ l.length
  no : ∀ i x, i < k → l[i]? = some x → ∀ q ∈ postsV x, isPost id q = false
structure FinJ (P : List PostD) (id : ByteArray) where
  j : Nat
  hj : j ≤ P.length
  no : ∀ i q, i < j → P[i]? = some q → isPost id q = false
set_option maxHeartbeats 4000000 in
theorem findP_mk (s : SlV) (l : List ChainD) (id : ByteArray) (hok : ∀ c ∈ l, ActsOk c.actsL) (hlen : ∀ c ∈ l, c.actsL.length ≤ 1000000) : Mk Tryz.prog 6 #[s.v, .string id] (fun w => Chains w s l ∧ Glob w) (FoundAt l id) := by
  refine mk_of_cw2 (args := [_, _]) _ Tryz.func6 rfl Tryz.ntmps6 rfl fun av bor w0 => ?_
  refine cw_know (p := s.n = l.length ∧ s.n ≤ maxLen ∧ (0 < l.length → s.p.isSome = true)) (fun w h => ⟨h.1.len_, h.1.max_, h.1.some_⟩) fun ⟨hl, hm, hp⟩ => ?_
  simp only [maxLen] at hm
  repeat' (first | apply sw_nil | apply cw_seq | apply cw_reg | refine sy_move (h := ?_) | refine sy_assign (h := ?_) | refine sy_fld (h := ?_) | refine sy_ld (h := ?_) | refine sy_ldAll (h := ?_) | refine sy_eql (h := ?_) | refine sy_lss (h := ?_) | refine sy_seql (h := ?_) | refine sy_slen (h := ?_) | refine sy_len (h := ?_) | refine sy_add (h := ?_) | refine sw_alloc (h := fun _ => ?_) | refine sw_st1 (h := ?_) | refine sw_stAll (h := ?_) | refine cw_cond_t (ht := ?_) | refine cw_cond_f (hf := ?_) | apply cw_skip | apply cw_block | apply cw_ret | apply cw_exit | refine sy_beql (h := ?_) | refine sy_arrA (h := ?_) | refine sy_strI (h := ?_))
  rename_i b
  refine cw_loop (ι := FinI l id) (fun i => ⟨[(1, .string id), (4, .pointer (some ⟨b, 0, none⟩)), (10, s.v), (11, .int .i64 (s.n : Nat)), (12, .int .i64 (i.k : Nat))], [cel b 28 PostD.zero.cells], fun w => Chains w s l ∧ Glob w⟩) (fun i => l.length - i.k) ⟨0, Nat.zero_le _, fun i x h => absurd h (Nat.not_lt_zero _)⟩ (ok_sub ⟨rfl, rfl, rfl, rfl, rfl, trivial⟩ (List.Sublist.refl _) fun _ h => h) fun i => ?_
  obtain ⟨k, hk, hno⟩ := i
  simp only
  repeat' (first | apply sw_nil | apply cw_seq | apply cw_reg | refine sy_move (h := ?_) | refine sy_assign (h := ?_) | refine sy_fld (h := ?_) | refine sy_ld (h := ?_) | refine sy_ldAll (h := ?_) | refine sy_eql (h := ?_) | refine sy_lss (h := ?_) | refine sy_seql (h := ?_) | refine sy_slen (h := ?_) | refine sy_len (h := ?_) | refine sy_add (h := ?_) | refine sw_alloc (h := fun _ => ?_) | refine sw_st1 (h := ?_) | refine sw_stAll (h := ?_) | refine cw_cond_t (ht := ?_) | refine cw_cond_f (hf := ?_) | apply cw_skip | apply cw_block | apply cw_ret | apply cw_exit | refine sy_beql (h := ?_) | refine sy_arrA (h := ?_) | refine sy_strI (h := ?_) | (refine cw_cond (ht := ?_) (hf := ?_); all_goals (intro hx_; first | have := of_decide_eq_true hx_ | have := of_decide_eq_false hx_ | skip)))
  · have hlt : k < l.length := by omega
    have hp' := hp (by omega)
    obtain ⟨c, hc⟩ : ∃ c, l[k]? = some c := ⟨_, List.getElem?_eq_getElem hlt⟩
    have hcm := List.mem_of_getElem? hc
    have hof := of_mk c (hok c hcm) (hlen c hcm)
    repeat' (first | apply sw_nil | apply cw_seq | apply cw_reg | refine sy_move (h := ?_) | refine sy_assign (h := ?_) | refine sy_fld (h := ?_) | refine sy_ld (h := ?_) | refine sy_ldAll (h := ?_) | refine sy_eql (h := ?_) | refine sy_lss (h := ?_) | refine sy_seql (h := ?_) | refine sy_slen (h := ?_) | refine sy_len (h := ?_) | refine sy_add (h := ?_) | refine sw_alloc (h := fun _ => ?_) | refine sw_st1 (h := ?_) | refine sw_stAll (h := ?_) | refine cw_cond_t (ht := ?_) | refine cw_cond_f (hf := ?_) | apply cw_skip | apply cw_block | apply cw_ret | apply cw_exit | refine sy_beql (h := ?_) | refine sy_arrA (h := ?_) | refine sy_strI (h := ?_) | (refine sy_idxX (q := k * 6) (h := ?_)) | (refine sy_ldXs (cs := c.cells) (hF := fun w h => Chains.get h.1 hc) (h := ?_)) | (refine sw_mk (hc := hof) (hX := fun w h => ⟨h.1.2 c hcm, h.2⟩) (h := fun v1 X1 h1 => ?_); obtain ⟨s1, P, rfl, hP, hPl, hw⟩ := h1) | (refine cw_cond (ht := ?_) (hf := ?_); all_goals (intro hx_; first | have := of_decide_eq_true hx_ | have := of_decide_eq_false hx_ | skip)))
    refine cw_know (p := s1.n = P.length ∧ s1.n ≤ maxLen ∧ (0 < P.length → s1.p.isSome = true)) (fun w h => ⟨by simpa using RowsD.len (hw w h.2), Nat.le_trans (RowsD.cap (hw w h.2)) (RowsD.max (hw w h.2)), fun h0 => (RowsD.row (hw w h.2) 0 P[0].cells (by simp [List.getElem?_eq_getElem h0])).2.1⟩) fun ⟨hl1, hm1, hp1⟩ => ?_
    simp only [maxLen] at hm1
    refine cw_loop (ι := FinJ P id) (fun i => ⟨[(1, .string id), (4, .pointer (some ⟨b, 0, none⟩)), (10, s.v), (11, .int .i64 (s.n : Nat)), (12, .int .i64 (k : Nat)), (17, s1.v), (18, .int .i64 (s1.n : Nat)), (19, .int .i64 (i.j : Nat))], [cel b 28 PostD.zero.cells], fun w => (Chains w s l ∧ Glob w) ∧ X1 w⟩) (fun i => P.length - i.j) ⟨0, Nat.zero_le _, fun i x h => absurd h (Nat.not_lt_zero _)⟩ (ok_sub ⟨rfl, rfl, rfl, rfl, rfl, rfl, rfl, rfl, trivial⟩ (List.Sublist.cons _ (List.Sublist.refl _)) fun _ h => h) fun i => ?_
    obtain ⟨j, hj, hno2⟩ := i
    simp only
    repeat' (first | apply sw_nil | apply cw_seq | apply cw_reg | refine sy_move (h := ?_) | refine sy_assign (h := ?_) | refine sy_fld (h := ?_) | refine sy_ld (h := ?_) | refine sy_ldAll (h := ?_) | refine sy_eql (h := ?_) | refine sy_lss (h := ?_) | refine sy_seql (h := ?_) | refine sy_slen (h := ?_) | refine sy_len (h := ?_) | refine sy_add (h := ?_) | refine sw_alloc (h := fun _ => ?_) | refine sw_st1 (h := ?_) | refine sw_stAll (h := ?_) | refine cw_cond_t (ht := ?_) | refine cw_cond_f (hf := ?_) | apply cw_skip | apply cw_block | apply cw_ret | apply cw_exit | refine sy_beql (h := ?_) | refine sy_arrA (h := ?_) | refine sy_strI (h := ?_) | (refine cw_cond (ht := ?_) (hf := ?_); all_goals (intro hx_; first | have := of_decide_eq_true hx_ | have := of_decide_eq_false hx_ | skip)))
    · have hjl : j < P.length := by omega
      have hp2 := hp1 (by omega)
      obtain ⟨p, hpj⟩ : ∃ p, P[j]? = some p := ⟨_, List.getElem?_eq_getElem hjl⟩
      repeat' (first | apply sw_nil | apply cw_seq | apply cw_reg | refine sy_move (h := ?_) | refine sy_assign (h := ?_) | refine sy_fld (h := ?_) | refine sy_ld (h := ?_) | refine sy_ldAll (h := ?_) | refine sy_eql (h := ?_) | refine sy_lss (h := ?_) | refine sy_seql (h := ?_) | refine sy_slen (h := ?_) | refine sy_len (h := ?_) | refine sy_add (h := ?_) | refine sw_alloc (h := fun _ => ?_) | refine sw_st1 (h := ?_) | refine sw_stAll (h := ?_) | refine cw_cond_t (ht := ?_) | refine cw_cond_f (hf := ?_) | apply cw_skip | apply cw_block | apply cw_ret | apply cw_exit | refine sy_beql (h := ?_) | refine sy_arrA (h := ?_) | refine sy_strI (h := ?_) | (refine sy_idxX (q := j * 11) (h := ?_)) | (refine sy_ldXs (cs := p.cells) (hF := fun w h => RowsD.row (hw w h.2) j p.cells (by simp [hpj])) (h := ?_)) | (refine cw_cond (ht := ?_) (hf := ?_); all_goals (intro hx_; first | have := of_decide_eq_true hx_ | have := of_decide_eq_false hx_ | skip)))
      · have hf := findPV_at hc hP hpj hno hno2 (by assumption)
        apply ends_ret; refine res_cellTmp rfl rfl rfl (by (repeat (first | exact List.mem_cons_self | apply List.mem_cons_of_mem))) ?_
        · rfl
        exact ⟨p, by rw [hf]; rfl, by rw [hf]; rfl⟩
      · exact ⟨(⟨j + 1, hjl, fun i q hi hq => by
          by_cases e : i = j
          · subst e
            obtain rfl := Option.some.inj (hpj.symm.trans hq)
            assumption
          · exact hno2 i q (by omega) hq⟩ : FinJ P id), (by show P.length - (j + 1) < P.length - j; omega), ok_sub ⟨rfl, rfl, rfl, rfl, rfl, rfl, rfl, rfl, trivial⟩ (List.Sublist.cons _ (List.Sublist.refl _)) fun _ h => h⟩
    · exact ⟨(⟨k + 1, hlt, fun i x hi hx q hq => by
        by_cases e : i = k
        · subst e
          obtain rfl := Option.some.inj (hc.symm.trans hx)
          rw [← hP] at hq
          obtain ⟨p, hpm, rfl⟩ := List.mem_map.1 hq
          obtain ⟨j2, hj2⟩ := List.mem_iff_getElem?.1 hpm
          exact hno2 j2 p (by have := (List.getElem?_eq_some_iff.1 hj2).1; omega) hj2
        · exact hno i x (by omega) hx q hq⟩ : FinI l id), (by show l.length - (k + 1) < l.length - k; omega), ok_sub ⟨rfl, rfl, rfl, rfl, rfl, trivial⟩ (List.Sublist.refl _) fun _ h => h.1⟩
  · have hf : findPV l id = none := findPV_none fun c hc q hq => by
      obtain ⟨i, hi⟩ := List.mem_iff_getElem?.1 hc
      exact hno i c (by have := (List.getElem?_eq_some_iff.1 hi).1; omega) hi q hq
    repeat' (first | apply sw_nil | apply cw_seq | apply cw_reg | refine sy_move (h := ?_) | refine sy_assign (h := ?_) | refine sy_fld (h := ?_) | refine sy_ld (h := ?_) | refine sy_ldAll (h := ?_) | refine sy_eql (h := ?_) | refine sy_lss (h := ?_) | refine sy_seql (h := ?_) | refine sy_slen (h := ?_) | refine sy_len (h := ?_) | refine sy_add (h := ?_) | refine sw_alloc (h := fun _ => ?_) | refine sw_st1 (h := ?_) | refine sw_stAll (h := ?_) | refine cw_cond_t (ht := ?_) | refine cw_cond_f (hf := ?_) | apply cw_skip | apply cw_block | apply cw_ret | apply cw_exit | refine sy_beql (h := ?_) | refine sy_arrA (h := ?_) | refine sy_strI (h := ?_) | (refine sy_build (h := ?_)))
    apply ends_ret; refine res_cellTmp rfl rfl rfl (by (repeat (first | exact List.mem_cons_self | apply List.mem_cons_of_mem))) ?_
    · rfl
    exact ⟨PostD.zero, by rw [hf]; rfl, by rw [hf]; rfl⟩
end Go.Proofs.YtlankpiogfhblaaGreatDoor
