/- Plain law of ReachSpots; package agoralaw25: few. -/
import Derived.Test.YtcdcfimlikojeaaGreatDoorSp
import Derived.Test.YtcdcfimlikojeaaGreatDoorMj
import Derived.Test.YtcdcfimlikojeaaGreatDoorMf
set_option linter.unusedVariables false
set_option linter.unusedSimpArgs false
namespace Go.Proofs.YtcdcfimlikojeaaGreatDoor
open Go Go.Proofs Sy
theorem may_own (c : ChainD) (i : Int) : mayV c i c.id = rtextV c i := by
  rw [mayV, seqB_self, Bool.true_or, Bool.true_or, Bool.and_true]
theorem may_pub {c : ChainD} {i : Int} (r : ByteArray) (h : rtextV c i = true) (hp : pubV c i = true) : mayV c i r = true := by
  rw [mayV, h, hp, Bool.or_true, Bool.true_or, Bool.and_true]
theorem spotN_t {c : ChainD} {r : ByteArray} {n : Nat} (h : mayV c (n : Int) r = true) : spotN c r (n + 1) = spotN c r n ++ [n] := by
  rw [spotN, List.range_succ, List.filter_append, List.filter_cons, h]
  rfl
theorem spotN_f {c : ChainD} {r : ByteArray} {n : Nat} (h : mayV c (n : Int) r = false) : spotN c r (n + 1) = spotN c r n := by
  rw [spotN, List.range_succ, List.filter_append, List.filter_cons, h]
  simp [spotN]
theorem spotN_split {c : ChainD} {r : ByteArray} {n m : Nat} (h : n < m) (ht : mayV c (n : Int) r = true) : ∃ suf, spotN c r m = spotN c r n ++ n :: suf := by
  obtain ⟨k, rfl⟩ : ∃ k, m = n + 1 + k := ⟨m - (n + 1), by omega⟩
  clear h
  induction k with
  | zero => exact ⟨[], spotN_t ht⟩
  | succ k ih =>
    obtain ⟨suf, hs⟩ := ih
    cases hk : mayV c ((n + 1 + k : Nat) : Int) r with
    | true => exact ⟨suf ++ [n + 1 + k], by rw [show n + 1 + (k + 1) = (n + 1 + k) + 1 from rfl, spotN_t hk, hs]; simp⟩
    | false => exact ⟨suf, by rw [show n + 1 + (k + 1) = (n + 1 + k) + 1 from rfl, spotN_f hk, hs]⟩
theorem spotN_le (c : ChainD) (r : ByteArray) (n : Nat) : (spotN c r n).length ≤ n := by
  have := List.length_filter_le (fun i : Nat => mayV c (i : Int) r) (List.range n)
  rw [List.length_range] at this
  exact this
theorem textN_le (c : ChainD) (n : Nat) : (textN c n).length ≤ n := by
  have := List.length_filter_le (fun i : Nat => rtextV c (i : Int)) (List.range n)
  rw [List.length_range] at this
  exact this
theorem spotN_own (c : ChainD) (n : Nat) : spotN c c.id n = textN c n := by
  rw [spotN, textN]
  congr 1
  funext i
  exact may_own c i
/-- The spots of the chains ahead of the k-th. -/
def spotB (l : List ChainD) (r : ByteArray) (k : Nat) : Nat := (spotsV (l.take k) r).length
theorem spotB_zero (l : List ChainD) (r : ByteArray) : spotB l r 0 = 0 := by simp [spotB, spotsV]
theorem spotB_next {l : List ChainD} {r : ByteArray} {k : Nat} {c : ChainD} (hc : l[k]? = some c) : spotB l r (k + 1) = spotB l r k + (spotN c r c.actsL.length).length := by
  rw [spotB, spotB, List.take_add_one, hc]
  simp [spotsV, spotL]
theorem spotB_end {l : List ChainD} {r : ByteArray} {k : Nat} (h : l.length ≤ k) : spotB l r k = (spotsV l r).length := by rw [spotB, List.take_of_length_le h]
theorem spotB_le {l : List ChainD} {r : ByteArray} (hl : ∀ c ∈ l, c.actsL.length ≤ 24) : ∀ k, spotB l r k ≤ 24 * k
  | 0 => by rw [spotB_zero]; omega
  | k + 1 => by
    have ih := spotB_le (r := r) hl k
    cases hc : l[k]? with
    | none =>
      have hge := List.getElem?_eq_none_iff.1 hc
      rw [spotB_end (k := k) hge] at ih
      rw [spotB_end (k := k + 1) (by omega)]
      omega
    | some c =>
      rw [spotB_next hc]
      have h1 := spotN_le c r c.actsL.length
      have h2 := hl c (List.mem_of_getElem? hc)
      omega
theorem spot_at {l : List ChainD} {r : ByteArray} {k i : Nat} {c : ChainD} (hc : l[k]? = some c) (hi : i < c.actsL.length) (hm : mayV c (i : Int) r = true) :
    (spotsV l r)[spotB l r k + (spotN c r i).length]? = some ⟨c.id, i⟩ := by
  have hlt : k < l.length := by
    rcases Nat.lt_or_ge k l.length with h | h
    · exact h
    · rw [List.getElem?_eq_none h] at hc; cases hc
  have hs : l = l.take k ++ c :: l.drop (k + 1) := by
    conv => lhs; rw [← List.take_append_drop k l]
    congr 1
    rw [List.drop_eq_getElem_cons hlt]
    congr 1
    rw [List.getElem?_eq_getElem hlt] at hc
    exact Option.some.inj hc
  obtain ⟨suf, hsp⟩ := spotN_split hi hm
  have e : spotsV l r = spotsV (l.take k) r ++ ((spotN c r i).map (SpotD.mk c.id) ++ ⟨c.id, i⟩ :: (suf.map (SpotD.mk c.id) ++ spotsV (l.drop (k + 1)) r)) := by
    conv => lhs; rw [hs]
    simp only [spotsV, List.flatMap_append, List.flatMap_cons, spotL, hsp, List.map_append, List.map_cons, List.append_assoc, List.cons_append]
  rw [e, spotB, List.getElem?_append_right (by omega), List.getElem?_append_right (by simp)]
  simp
theorem spots_one (c : ChainD) : (spotsV [c] c.id).length = (textN c c.actsL.length).length := by
  simp [spotsV, spotL, spotN_own]

def fewBad (l : List ChainD) (k : Nat) : Bool := !shortV (l.getD k ChainD.zero)
def fewV (l : List ChainD) : Bool := decide (l.length ≤ 6) && allB l.length (fewBad l)
theorem few_ok {l : List ChainD} (hr : ∀ c ∈ l, ∀ a ∈ c.actsL, a.Rng ∧ a.target.size ≤ maxLen) (h : fewV l = true) : l.length ≤ 6 ∧ ∀ c ∈ l, ActsOk c.actsL ∧ c.actsL.length ≤ 24 := by
  simp only [fewV, Bool.and_eq_true, decide_eq_true_eq] at h
  refine ⟨h.1, fun c hc => ?_⟩
  obtain ⟨i, hi, rfl⟩ := List.getElem_of_mem hc
  have h1 := allB_at h.2 hi
  simp only [fewBad, List.getD_eq_getElem?_getD, List.getElem?_eq_getElem hi, Option.getD_some, Bool.not_eq_false'] at h1
  exact actsOk_of (fun a ha => (hr _ (List.getElem_mem hi) a ha).1) (fun a ha => (hr _ (List.getElem_mem hi) a ha).2) h1
theorem few25_pu (s : SlV) (l : List ChainD) : Pu Tryz.prog 13 #[s.v] (fun w => Chains w s l ∧ Glob w) (.bool (fewV l)) := by
  refine pu_of_cw (args := [_]) _ Tryz.func13 rfl Tryz.ntmps13 rfl fun av bor w0 => ?_
  refine cw_know (p := s.n = l.length ∧ s.n ≤ maxLen ∧ (0 < l.length → s.p.isSome = true)) (fun w h => ⟨h.1.len_, h.1.max_, h.1.some_⟩) fun ⟨hl, hm, hp⟩ => ?_
  simp only [maxLen] at hm
  repeat' (first | apply sw_nil | apply cw_seq | apply cw_reg | refine sy_move (h := ?_) | refine sy_assign (h := ?_) | refine sy_nilCheck (h := ?_) | refine sy_fld (h := ?_) | refine sy_ld (h := ?_) | refine sy_ldAll (h := ?_) | refine sy_pick_t (h := ?_) | refine sy_pick_f (h := ?_) | refine sy_not (h := ?_) | refine sy_eql (h := ?_) | refine sy_neq (h := ?_) | refine sy_lss (h := ?_) | refine sy_leq (h := ?_) | refine sy_gtr (h := ?_) | refine sy_geq (h := ?_) | refine sy_seql (h := ?_) | refine sy_sneq (h := ?_) | refine sy_slen (h := ?_) | refine sy_len (h := ?_) | refine sy_extract (h := ?_) | refine sy_add (h := ?_) | refine sy_sub (h := ?_) | refine sw_skipT (h := ?_) | refine sw_skipF (h := ?_) | refine sw_skipU (h := ?_) | refine sw_alloc (h := fun _ => ?_) | refine sw_box (h := fun _ => ?_) | refine sw_rangeS (h := fun _ => ?_) | refine sw_nextS (h1 := fun _ => ?_) (h2 := fun _ => ?_) | refine sw_bsl (h := fun _ => ?_) | refine sw_st1 (h := ?_) | refine sw_stAll (h := ?_) | refine cw_cond_t (ht := ?_) | refine cw_cond_f (hf := ?_) | apply cw_skip | apply cw_block | apply cw_ret | apply cw_exit | refine sy_and (h := ?_) | refine sy_or (h := ?_) | refine sy_xor (h := ?_) | refine sy_andNot (h := ?_) | refine sy_xorU (h := ?_) | refine sy_shl (h := ?_) | refine sy_shr (h := ?_) | refine sy_mul (h := ?_) | refine sy_int (h := ?_) | refine sy_beql (h := ?_) | refine sy_bneq (h := ?_) | refine sy_min (h := ?_) | refine sy_max (h := ?_) | refine sy_arrA (h := ?_) | refine sy_strI (h := ?_) | ((fail_if_success (refine sw_chk (h := ?_))); refine sw_guard (ht := ?_) (hf := ?_); all_goals (intro hx_; first | have := of_decide_eq_true hx_ | have := of_decide_eq_false hx_ | skip)) | (refine cw_cond (ht := ?_) (hf := ?_); all_goals (intro hx_; first | have := of_decide_eq_true hx_ | have := of_decide_eq_false hx_ | skip)))
  · apply ends_ret; apply res_tmp; rfl; rfl
    rw [fewV, decide_eq_false (by omega), Bool.false_and]
  refine cw_loop (ι := Upto l.length (fewBad l)) (fun i => ⟨[(0, s.v), (3, .int .i64 i.k)], [], fun w => Chains w s l ∧ Glob w⟩) (fun i => l.length - i.k) (Upto.zero _ _) (ok_sub ⟨rfl, rfl, trivial⟩ (List.Sublist.refl _) fun _ h => h) fun i => ?_
  have hik := i.hk
  repeat' (first | apply sw_nil | apply cw_seq | apply cw_reg | refine sy_move (h := ?_) | refine sy_assign (h := ?_) | refine sy_nilCheck (h := ?_) | refine sy_fld (h := ?_) | refine sy_ld (h := ?_) | refine sy_ldAll (h := ?_) | refine sy_pick_t (h := ?_) | refine sy_pick_f (h := ?_) | refine sy_not (h := ?_) | refine sy_eql (h := ?_) | refine sy_neq (h := ?_) | refine sy_lss (h := ?_) | refine sy_leq (h := ?_) | refine sy_gtr (h := ?_) | refine sy_geq (h := ?_) | refine sy_seql (h := ?_) | refine sy_sneq (h := ?_) | refine sy_slen (h := ?_) | refine sy_len (h := ?_) | refine sy_extract (h := ?_) | refine sy_add (h := ?_) | refine sy_sub (h := ?_) | refine sw_skipT (h := ?_) | refine sw_skipF (h := ?_) | refine sw_skipU (h := ?_) | refine sw_alloc (h := fun _ => ?_) | refine sw_box (h := fun _ => ?_) | refine sw_rangeS (h := fun _ => ?_) | refine sw_nextS (h1 := fun _ => ?_) (h2 := fun _ => ?_) | refine sw_bsl (h := fun _ => ?_) | refine sw_st1 (h := ?_) | refine sw_stAll (h := ?_) | refine cw_cond_t (ht := ?_) | refine cw_cond_f (hf := ?_) | apply cw_skip | apply cw_block | apply cw_ret | apply cw_exit | refine sy_and (h := ?_) | refine sy_or (h := ?_) | refine sy_xor (h := ?_) | refine sy_andNot (h := ?_) | refine sy_xorU (h := ?_) | refine sy_shl (h := ?_) | refine sy_shr (h := ?_) | refine sy_mul (h := ?_) | refine sy_int (h := ?_) | refine sy_beql (h := ?_) | refine sy_bneq (h := ?_) | refine sy_min (h := ?_) | refine sy_max (h := ?_) | refine sy_arrA (h := ?_) | refine sy_strI (h := ?_) | ((fail_if_success (refine sw_chk (h := ?_))); refine sw_guard (ht := ?_) (hf := ?_); all_goals (intro hx_; first | have := of_decide_eq_true hx_ | have := of_decide_eq_false hx_ | skip)) | (refine cw_cond (ht := ?_) (hf := ?_); all_goals (intro hx_; first | have := of_decide_eq_true hx_ | have := of_decide_eq_false hx_ | skip)))
  · have hlt : i.k < l.length := by omega
    have hp' := hp (by omega)
    obtain ⟨c, hc⟩ : ∃ c, l[i.k]? = some c := ⟨_, List.getElem?_eq_getElem hlt⟩
    have hcm := List.mem_of_getElem? hc
    have hfb : fewBad l i.k = !shortV c := by simp only [fewBad, List.getD_eq_getElem?_getD, hc, Option.getD_some]
    repeat' (first | apply sw_nil | apply cw_seq | apply cw_reg | refine sy_move (h := ?_) | refine sy_assign (h := ?_) | refine sy_nilCheck (h := ?_) | refine sy_fld (h := ?_) | refine sy_ld (h := ?_) | refine sy_ldAll (h := ?_) | refine sy_pick_t (h := ?_) | refine sy_pick_f (h := ?_) | refine sy_not (h := ?_) | refine sy_eql (h := ?_) | refine sy_neq (h := ?_) | refine sy_lss (h := ?_) | refine sy_leq (h := ?_) | refine sy_gtr (h := ?_) | refine sy_geq (h := ?_) | refine sy_seql (h := ?_) | refine sy_sneq (h := ?_) | refine sy_slen (h := ?_) | refine sy_len (h := ?_) | refine sy_extract (h := ?_) | refine sy_add (h := ?_) | refine sy_sub (h := ?_) | refine sw_skipT (h := ?_) | refine sw_skipF (h := ?_) | refine sw_skipU (h := ?_) | refine sw_alloc (h := fun _ => ?_) | refine sw_box (h := fun _ => ?_) | refine sw_rangeS (h := fun _ => ?_) | refine sw_nextS (h1 := fun _ => ?_) (h2 := fun _ => ?_) | refine sw_bsl (h := fun _ => ?_) | refine sw_st1 (h := ?_) | refine sw_stAll (h := ?_) | refine cw_cond_t (ht := ?_) | refine cw_cond_f (hf := ?_) | apply cw_skip | apply cw_block | apply cw_ret | apply cw_exit | refine sy_and (h := ?_) | refine sy_or (h := ?_) | refine sy_xor (h := ?_) | refine sy_andNot (h := ?_) | refine sy_xorU (h := ?_) | refine sy_shl (h := ?_) | refine sy_shr (h := ?_) | refine sy_mul (h := ?_) | refine sy_int (h := ?_) | refine sy_beql (h := ?_) | refine sy_bneq (h := ?_) | refine sy_min (h := ?_) | refine sy_max (h := ?_) | refine sy_arrA (h := ?_) | refine sy_strI (h := ?_) | (refine sy_idxX (q := i.k * 6) (h := ?_)) | (refine sy_ldXs (cs := c.cells) (hF := fun w h => Chains.get h.1 hc) (h := ?_)) | (refine sw_pu (hc := short25_pu c) (hX := fun w h => ⟨h.1.2 c hcm, h.2⟩) (h := ?_)) | ((fail_if_success (refine sw_chk (h := ?_))); refine sw_guard (ht := ?_) (hf := ?_); all_goals (intro hx_; first | have := of_decide_eq_true hx_ | have := of_decide_eq_false hx_ | skip)) | (refine cw_cond (ht := ?_) (hf := ?_); all_goals (intro hx_; first | have := of_decide_eq_true hx_ | have := of_decide_eq_false hx_ | skip)))
    · apply ends_ret; apply res_tmp; rfl; rfl
      rw [fewV, allB_false hlt (by rw [hfb]; assumption), Bool.and_false]
    · exact ⟨i.next hlt (by rw [hfb]; assumption), (by show l.length - (i.k + 1) < l.length - i.k; omega), ok_sub ⟨rfl, rfl, trivial⟩ (List.Sublist.refl _) fun _ h => h⟩
  · apply ends_ret; apply res_tmp; rfl; rfl
    rw [fewV, i.all (by omega), decide_eq_true (by omega)]
    rfl
end Go.Proofs.YtcdcfimlikojeaaGreatDoor
