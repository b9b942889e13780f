/- Contract of post.All: the posts of the chains, in some order. -/
import Derived.Test.YtlankpiogfhblaaGreatDoorPh
import Derived.Test.YtlankpiogfhblaaGreatDoorSz
set_option linter.unusedVariables false
set_option linter.unusedSimpArgs false
namespace Go.Proofs.YtlankpiogfhblaaGreatDoor
open Go Go.Proofs Sy
theorem postCells_ones (L : List PostD) : ∀ cs ∈ L.map PostD.cells, cs.all (·.oneCell') = true := by
  intro r hr
  obtain ⟨a, _, rfl⟩ := List.mem_map.1 hr
  rfl
def AllAt (l : List ChainD) (u : Value) (X : World → Prop) : Prop := ∃ (s : SlV) (P : List PostD), u = s.v ∧ (P.map PostD.can).Perm (l.flatMap postsV) ∧ P.length ≤ 1000000 ∧ ∀ w, X w → RowsD w 11 s (P.map PostD.cells)
structure AllI (l : List ChainD) where
  k : Nat
  hk : k ≤ l.length
  P : List PostD
  hP : P.map PostD.can = (l.take k).flatMap postsV
  hm : P.length ≤ k * 1000
  n : Nat
  hn : n = P.length
  xs : List Value
  hxs : xs = (P.map PostD.cells).flatten
  A : Option Addr
  c : Nat
set_option maxHeartbeats 4000000 in
theorem allP_mk (s : SlV) (l : List ChainD) (hok : ∀ c ∈ l, ActsOk c.actsL) (hlen : ∀ c ∈ l, c.actsL.length ≤ 1000) (hll : l.length ≤ 1000) : Mk Tryz.prog 11 #[s.v] (fun w => Chains w s l ∧ Glob w) (AllAt l) := by
  refine mk_of_cw2 (args := [_]) _ Tryz.func11 rfl Tryz.ntmps11 rfl fun av bor w0 => ?_
  refine cw_know (p := s.n = l.length ∧ s.n ≤ maxLen ∧ (0 < l.length → s.p.isSome = true)) (fun w h => ⟨h.1.len_, h.1.max_, h.1.some_⟩) fun ⟨hl, hm, hp⟩ => ?_
  simp only [maxLen] at hm
  refine cw_nilRow 28 11 ?_
  repeat' (first | apply sw_nil | apply cw_seq | apply cw_reg | refine sy_move (h := ?_) | refine sy_assign (h := ?_) | refine sy_ld (h := ?_) | refine sy_ldAll (h := ?_) | refine sy_lss (h := ?_) | refine sy_slen (h := ?_) | refine sy_len (h := ?_) | refine sy_add (h := ?_) | refine sw_alloc (h := fun _ => ?_) | refine sw_st1 (h := ?_) | refine sw_stAll (h := ?_) | refine cw_cond_t (ht := ?_) | refine cw_cond_f (hf := ?_) | apply cw_skip | apply cw_block | apply cw_ret | apply cw_exit | refine sy_arrA (h := ?_) | refine sy_strI (h := ?_))
  refine cw_loop (ι := AllI l) (fun i => ⟨[(3, .slice i.A i.n i.c), (6, s.v), (7, .int .i64 (s.n : Nat)), (8, .int .i64 (i.k : Nat))], [orow 28 11 (.slice i.A i.n i.c) i.n i.xs], fun w => Chains w s l ∧ Glob w⟩) (fun i => l.length - i.k) ⟨0, Nat.zero_le _, [], rfl, Nat.zero_le _, 0, rfl, [], rfl, none, 0⟩ (ok_sub ⟨rfl, rfl, rfl, rfl, trivial⟩ (List.Sublist.refl _) fun _ h => h) fun i => ?_
  obtain ⟨k, hk, P, hP, hPm, n, hn, xs, hxs, A, cp⟩ := i
  simp only
  repeat' (first | apply sw_nil | apply cw_seq | apply cw_reg | refine sy_move (h := ?_) | refine sy_assign (h := ?_) | refine sy_ld (h := ?_) | refine sy_ldAll (h := ?_) | refine sy_lss (h := ?_) | refine sy_slen (h := ?_) | refine sy_len (h := ?_) | refine sy_add (h := ?_) | refine sw_alloc (h := fun _ => ?_) | refine sw_st1 (h := ?_) | refine sw_stAll (h := ?_) | refine cw_cond_t (ht := ?_) | refine cw_cond_f (hf := ?_) | apply cw_skip | apply cw_block | apply cw_ret | apply cw_exit | refine sy_arrA (h := ?_) | refine sy_strI (h := ?_) | (refine cw_cond (ht := ?_) (hf := ?_); all_goals (intro hx_; first | have := of_decide_eq_true hx_ | have := of_decide_eq_false hx_ | skip)))
  · have hlt : k < l.length := by omega
    have hp' := hp (by omega)
    obtain ⟨c, hc⟩ : ∃ c, l[k]? = some c := ⟨_, List.getElem?_eq_getElem hlt⟩
    have hcm := List.mem_of_getElem? hc
    have hcl := hlen c hcm
    have hof := of_mk c (hok c hcm) (by omega)
    repeat' (first | apply sw_nil | apply cw_seq | apply cw_reg | refine sy_move (h := ?_) | refine sy_assign (h := ?_) | refine sy_ld (h := ?_) | refine sy_ldAll (h := ?_) | refine sy_lss (h := ?_) | refine sy_slen (h := ?_) | refine sy_len (h := ?_) | refine sy_add (h := ?_) | refine sw_alloc (h := fun _ => ?_) | refine sw_st1 (h := ?_) | refine sw_stAll (h := ?_) | refine cw_cond_t (ht := ?_) | refine cw_cond_f (hf := ?_) | apply cw_skip | apply cw_block | apply cw_ret | apply cw_exit | refine sy_arrA (h := ?_) | refine sy_strI (h := ?_) | (refine sy_idxX (q := k * 6) (h := ?_)) | (refine sy_ldXs (cs := c.cells) (hF := fun w h => Chains.get h.1 hc) (h := ?_)) | (refine cw_cond (ht := ?_) (hf := ?_); all_goals (intro hx_; first | have := of_decide_eq_true hx_ | have := of_decide_eq_false hx_ | skip)))
    refine sw_mk (hc := hof) (hX := fun w h => ⟨h.1.2 c hcm, h.2⟩) (h := fun v1 X1 h1 => ?_)
    obtain ⟨s1, Q, rfl, hQ, hQl, hw⟩ := h1
    refine sw_know (p := s1.n = Q.length) (fun w h => by simpa using RowsD.len (hw w h.2)) fun hl1 => ?_
    have hnl : n + s1.n ≤ 1000000 := by omega
    refine sw_append (size := 11) (news := (Q.map PostD.cells).flatten) (q := s1.n) rfl rfl rfl rfl (fun _ => At.there _ (At.here _)) (fun w G => src_rows (hw w G.keep.now.2) (postCells_ones Q)) (by omega) (by simp only [maxLen]; omega) rfl ?_ rfl ?_
    · (first | with_reducible rfl | with_reducible assumption | with_reducible exact Bool.not_false | with_reducible exact Bool.not_true)
    intro A2 c2
    repeat' (first | apply sw_nil | apply cw_seq | apply cw_reg | refine sy_move (h := ?_) | refine sy_assign (h := ?_) | refine sy_ld (h := ?_) | refine sy_ldAll (h := ?_) | refine sy_lss (h := ?_) | refine sy_slen (h := ?_) | refine sy_len (h := ?_) | refine sy_add (h := ?_) | refine sw_alloc (h := fun _ => ?_) | refine sw_st1 (h := ?_) | refine sw_stAll (h := ?_) | refine cw_cond_t (ht := ?_) | refine cw_cond_f (hf := ?_) | apply cw_skip | apply cw_block | apply cw_ret | apply cw_exit | refine sy_arrA (h := ?_) | refine sy_strI (h := ?_) | (refine cw_cond (ht := ?_) (hf := ?_); all_goals (intro hx_; first | have := of_decide_eq_true hx_ | have := of_decide_eq_false hx_ | skip)))
    exact ⟨(⟨k + 1, hlt, P ++ Q, by rw [List.map_append, hP, hQ, List.take_add_one, hc, Option.toList_some, List.flatMap_append, List.flatMap_cons, List.flatMap_nil, List.append_nil], by rw [List.length_append]; omega, n + s1.n, by rw [List.length_append, hn, hl1], xs ++ (Q.map PostD.cells).flatten, by rw [hxs, List.map_append, List.flatten_append], A2, c2⟩ : AllI l), (by show l.length - (k + 1) < l.length - k; omega), ok_sub ⟨rfl, rfl, rfl, rfl, trivial⟩ (List.Sublist.cons _ (List.Sublist.refl _)) fun w h => h.1⟩
  · have hkE : k = l.length := by omega
    subst hn hxs
    have hPb : P.length ≤ 1000000 := by omega
    have hst := sortStable_ct ⟨A, P.length, cp⟩ P rfl hPb
    repeat' (first | apply sw_nil | apply cw_seq | apply cw_reg | refine sy_move (h := ?_) | refine sy_assign (h := ?_) | refine sy_ld (h := ?_) | refine sy_ldAll (h := ?_) | refine sy_lss (h := ?_) | refine sy_slen (h := ?_) | refine sy_len (h := ?_) | refine sy_add (h := ?_) | refine sw_alloc (h := fun _ => ?_) | refine sw_st1 (h := ?_) | refine sw_stAll (h := ?_) | refine cw_cond_t (ht := ?_) | refine cw_cond_f (hf := ?_) | apply cw_skip | apply cw_block | apply cw_ret | apply cw_exit | refine sy_arrA (h := ?_) | refine sy_strI (h := ?_) | (refine sw_permAt (hc := hst) (h := fun Q hQ => ?_)) | (refine cw_cond (ht := ?_) (hf := ?_); all_goals (intro hx_; first | have := of_decide_eq_true hx_ | have := of_decide_eq_false hx_ | skip)))
    exact ends_ret (res_tmp rfl rfl) ⟨⟨A, P.length, cp⟩, Q, rfl, by
      have h1 := hQ.map PostD.can
      rw [hP, hkE, List.take_length] at h1
      exact h1, by rw [hQ.length_eq]; exact hPb, fun w h => rows_of_orow (h.2 _ List.mem_cons_self) (by rw [List.length_map]; exact hQ.length_eq.symm) (cells11 Q)⟩
end Go.Proofs.YtlankpiogfhblaaGreatDoor
