/- Joined by program (wip/dev/merge.py) out of: Rc Sb. -/
import Derived.Test.YtcdcfimlikojeaaGreatDoorMf
/- Contracts: package reach. -/
set_option linter.unusedVariables false
set_option linter.unusedSimpArgs false
namespace Go.Proofs.YtcdcfimlikojeaaGreatDoor
open Go Go.Proofs Sy
theorem rtext_pu (c : ChainD) (i : Int) : Pu Tryz.prog 63 #[c.v, .int .i64 i] (XC c) (.bool (rtextV c i)) := by
  refine pu_of_cw (args := [_, _]) _ Tryz.func63 rfl Tryz.ntmps63 rfl fun av bor w0 => ?_
  refine cw_know XC.know fun ⟨hl, hm, hp, hcap⟩ => ?_
  simp only [maxLen] at hm
  by_cases hi : 0 ≤ i ∧ i < c.actsL.length
  · obtain ⟨hi0, hi1⟩ := hi
    have hlt : i.toNat < c.actsL.length := by omega
    have hp' := hp (by omega)
    obtain ⟨x, hx⟩ : ∃ x, c.actsL[i.toNat]? = some x := ⟨_, List.getElem?_eq_getElem hlt⟩
    have hT : rtextV c i = (postK x.kind || decide (x.kind = 14)) := by
      rw [rtextV, decide_eq_true (by omega), Bool.true_and, hx]
    repeat' (first | apply sw_nil | apply cw_seq | apply cw_reg | refine sy_move (h := ?_) | refine sy_assign (h := ?_) | refine sy_nilCheck (h := ?_) | refine sy_fld (h := ?_) | refine sy_ld (h := ?_) | refine sy_ldAll (h := ?_) | refine sy_pick_t (h := ?_) | refine sy_pick_f (h := ?_) | refine sy_not (h := ?_) | refine sy_eql (h := ?_) | refine sy_neq (h := ?_) | refine sy_lss (h := ?_) | refine sy_leq (h := ?_) | refine sy_gtr (h := ?_) | refine sy_geq (h := ?_) | refine sy_seql (h := ?_) | refine sy_sneq (h := ?_) | refine sy_slen (h := ?_) | refine sy_len (h := ?_) | refine sy_extract (h := ?_) | refine sy_add (h := ?_) | refine sy_sub (h := ?_) | refine sw_skipT (h := ?_) | refine sw_skipF (h := ?_) | refine sw_skipU (h := ?_) | refine sw_alloc (h := fun _ => ?_) | refine sw_box (h := fun _ => ?_) | refine sw_rangeS (h := fun _ => ?_) | refine sw_nextS (h1 := fun _ => ?_) (h2 := fun _ => ?_) | refine sw_bsl (h := fun _ => ?_) | refine sw_st1 (h := ?_) | refine sw_stAll (h := ?_) | refine cw_cond_t (ht := ?_) | refine cw_cond_f (hf := ?_) | apply cw_skip | apply cw_block | apply cw_ret | apply cw_exit | refine sy_and (h := ?_) | refine sy_or (h := ?_) | refine sy_xor (h := ?_) | refine sy_andNot (h := ?_) | refine sy_xorU (h := ?_) | refine sy_shl (h := ?_) | refine sy_shr (h := ?_) | refine sy_mul (h := ?_) | refine sy_int (h := ?_) | refine sy_beql (h := ?_) | refine sy_bneq (h := ?_) | refine sy_min (h := ?_) | refine sy_max (h := ?_) | refine sy_arrA (h := ?_) | refine sy_strI (h := ?_) | (refine sy_idxX (q := i.toNat * 20) (h := ?_)) | (refine sy_fldX (h := ?_)) | (refine sy_ldX (q := i.toNat * 20 + 3) (u := .int .i64 x.kind) (hF := fun w h => (Acts.get h.1 hx).2.2 3 _ rfl) (h := ?_)) | refine sw_pu (hc := posting_pu x.kind) (h := ?_) | ((fail_if_success (refine sw_chk (h := ?_))); refine sw_guard (ht := ?_) (hf := ?_); all_goals (intro hx_; first | have := of_decide_eq_true hx_ | have := of_decide_eq_false hx_ | skip)) | (refine cw_cond (ht := ?_) (hf := ?_); all_goals (intro hx_; first | have := of_decide_eq_true hx_ | have := of_decide_eq_false hx_ | skip)))
    all_goals first
      | (exfalso; omega)
      | (apply ends_ret; apply res_tmp; rfl; rfl
         simp only [hT, *, decide_true, decide_false, cond_true, cond_false, Bool.and_true, Bool.true_and, Bool.and_false, Bool.false_and, Bool.not_true, Bool.not_false, Bool.or_true, Bool.true_or, Bool.or_false, Bool.false_or])
  · have hT : rtextV c i = false := by
      rw [rtextV]
      by_cases h0 : 0 ≤ i
      · rw [List.getElem?_eq_none (by omega), Bool.and_false]
      · rw [decide_eq_false h0, Bool.false_and]
    repeat' (first | apply sw_nil | apply cw_seq | apply cw_reg | refine sy_move (h := ?_) | refine sy_assign (h := ?_) | refine sy_nilCheck (h := ?_) | refine sy_fld (h := ?_) | refine sy_ld (h := ?_) | refine sy_ldAll (h := ?_) | refine sy_pick_t (h := ?_) | refine sy_pick_f (h := ?_) | refine sy_not (h := ?_) | refine sy_eql (h := ?_) | refine sy_neq (h := ?_) | refine sy_lss (h := ?_) | refine sy_leq (h := ?_) | refine sy_gtr (h := ?_) | refine sy_geq (h := ?_) | refine sy_seql (h := ?_) | refine sy_sneq (h := ?_) | refine sy_slen (h := ?_) | refine sy_len (h := ?_) | refine sy_extract (h := ?_) | refine sy_add (h := ?_) | refine sy_sub (h := ?_) | refine sw_skipT (h := ?_) | refine sw_skipF (h := ?_) | refine sw_skipU (h := ?_) | refine sw_alloc (h := fun _ => ?_) | refine sw_box (h := fun _ => ?_) | refine sw_rangeS (h := fun _ => ?_) | refine sw_nextS (h1 := fun _ => ?_) (h2 := fun _ => ?_) | refine sw_bsl (h := fun _ => ?_) | refine sw_st1 (h := ?_) | refine sw_stAll (h := ?_) | refine cw_cond_t (ht := ?_) | refine cw_cond_f (hf := ?_) | apply cw_skip | apply cw_block | apply cw_ret | apply cw_exit | refine sy_and (h := ?_) | refine sy_or (h := ?_) | refine sy_xor (h := ?_) | refine sy_andNot (h := ?_) | refine sy_xorU (h := ?_) | refine sy_shl (h := ?_) | refine sy_shr (h := ?_) | refine sy_mul (h := ?_) | refine sy_int (h := ?_) | refine sy_beql (h := ?_) | refine sy_bneq (h := ?_) | refine sy_min (h := ?_) | refine sy_max (h := ?_) | refine sy_arrA (h := ?_) | refine sy_strI (h := ?_) | ((fail_if_success (refine sw_chk (h := ?_))); refine sw_guard (ht := ?_) (hf := ?_); all_goals (intro hx_; first | have := of_decide_eq_true hx_ | have := of_decide_eq_false hx_ | skip)) | (refine cw_cond (ht := ?_) (hf := ?_); all_goals (intro hx_; first | have := of_decide_eq_true hx_ | have := of_decide_eq_false hx_ | skip)))
    all_goals first
      | (exfalso; omega)
      | (apply ends_ret; apply res_tmp; rfl; rfl
         simp only [hT, *, decide_true, decide_false, cond_true, cond_false, Bool.and_true, Bool.true_and, Bool.and_false, Bool.false_and, Bool.not_true, Bool.not_false, Bool.or_true, Bool.true_or, Bool.or_false, Bool.false_or])
theorem rtext_some {c : ChainD} {i : Int} (h : rtextV c i = true) : ∃ q x, i = (q : Nat) ∧ c.actsL[q]? = some x := by
  simp only [rtextV, Bool.and_eq_true, decide_eq_true_eq] at h
  obtain ⟨q, rfl⟩ := Int.eq_ofNat_of_zero_le h.1
  have h2 := h.2
  rw [Int.toNat_natCast] at h2
  cases hx : c.actsL[q]? with
  | none => rw [hx] at h2; cases h2
  | some x => exact ⟨q, x, rfl, hx⟩
theorem compB_len (l : List ByteArray) : (compB l).length ≤ l.length := by
  have := Lib.compact_length_le (l.map bl)
  simpa [compB] using this
theorem members_len {c : ChainD} (hc : ActsOk c.actsL) (hcl : c.actsL.length ≤ 1000000) (n sc : Int) (g : ByteArray) {toL : List ByteArray} (htl : toL.length ≤ 1000000) : (membersV c n sc g toL).length ≤ 1000000 := by
  have h1 := compB_len (sortB ((listOf c n sc g toL).filter (keepM c (sortB (tieV c.actsL n).b))))
  rw [sortB_len] at h1
  have h2 := List.length_filter_le (keepM c (sortB (tieV c.actsL n).b)) (listOf c n sc g toL)
  have h3 : (listOf c n sc g toL).length ≤ 1000000 := by
    unfold listOf
    cases decide (sc = 1) with
    | true => simp only [cond_true]; rw [sortB_len]; have := (tieV_bnd hc n).a.len; omega
    | false =>
      simp only [cond_false]
      cases decide (sc = 2) with
      | true =>
        simp only [cond_true]
        cases ho : circF c.actsL g (limN n c.actsL.length) with
        | none => simp
        | some x =>
          have hx := circF_mem (by rw [limN_eq]; omega) ho
          have h4 := (hc.rng x hx).to_len
          have h5 := (hc.sm x hx).to
          show x.toL.length ≤ _
          omega
      | false =>
        simp only [cond_false]
        cases decide (sc = 3) with
        | true => exact htl
        | false => simp
  show (compB _).length ≤ _
  omega
theorem rmem_len {c : ChainD} (hc : ActsOk c.actsL) (hcl : c.actsL.length ≤ 1000000) (i : Int) : (rmemV c i).length ≤ 1000000 := by
  unfold rmemV
  cases wellV c i with
  | false => simp
  | true =>
    simp only [cond_true]
    cases hx : c.actsL[i.toNat]? with
    | none => simp
    | some a =>
      have hm := List.mem_of_getElem? hx
      have h1 := (hc.rng a hm).to_len
      have h2 := (hc.sm a hm).to
      exact members_len hc hcl i a.scope a.group (by omega)
theorem well_some {c : ChainD} {i : Int} (h : wellV c i = true) : ∃ q x, i = (q : Nat) ∧ c.actsL[q]? = some x := by
  simp only [wellV, Bool.and_eq_true, decide_eq_true_eq] at h
  obtain ⟨q, rfl⟩ := Int.eq_ofNat_of_zero_le h.1
  have h2 := h.2
  rw [Int.toNat_natCast] at h2
  cases hx : c.actsL[q]? with
  | none => rw [hx] at h2; cases h2
  | some x => exact ⟨q, x, rfl, hx⟩
theorem rmembers_ct (c : ChainD) (hc : ActsOk c.actsL) (hcl : c.actsL.length ≤ 1000000) (i : Int) : Ct Tryz.prog 65 #[c.v, .int .i64 i] [] (XC c) (fun u R _ => OwnStrs (rmemV c i) u R) := by
  refine ct_of_cwS (args := [_, _]) (Post := OwnStrs (rmemV c i)) _ Tryz.func65 rfl Tryz.ntmps65 rfl fun av bor w0 => ?_
  refine cw_know XC.know fun ⟨hl, hm, hp, hcap⟩ => ?_
  simp only [maxLen] at hm
  have hwe := well_pu c hc hcl i
  cases hw : wellV c i with
  | false =>
    rw [hw] at hwe
    refine cw_nilRow 9 1 ?_
    repeat' (first | apply sw_nil | apply cw_seq | apply cw_reg | refine sy_move (h := ?_) | refine sy_assign (h := ?_) | refine sy_nilCheck (h := ?_) | refine sy_fld (h := ?_) | refine sy_ld (h := ?_) | refine sy_ldAll (h := ?_) | refine sy_pick_t (h := ?_) | refine sy_pick_f (h := ?_) | refine sy_not (h := ?_) | refine sy_eql (h := ?_) | refine sy_neq (h := ?_) | refine sy_lss (h := ?_) | refine sy_leq (h := ?_) | refine sy_gtr (h := ?_) | refine sy_geq (h := ?_) | refine sy_seql (h := ?_) | refine sy_sneq (h := ?_) | refine sy_slen (h := ?_) | refine sy_len (h := ?_) | refine sy_extract (h := ?_) | refine sy_add (h := ?_) | refine sy_sub (h := ?_) | refine sw_skipT (h := ?_) | refine sw_skipF (h := ?_) | refine sw_skipU (h := ?_) | refine sw_alloc (h := fun _ => ?_) | refine sw_box (h := fun _ => ?_) | refine sw_rangeS (h := fun _ => ?_) | refine sw_nextS (h1 := fun _ => ?_) (h2 := fun _ => ?_) | refine sw_bsl (h := fun _ => ?_) | refine sw_st1 (h := ?_) | refine sw_stAll (h := ?_) | refine cw_cond_t (ht := ?_) | refine cw_cond_f (hf := ?_) | apply cw_skip | apply cw_block | apply cw_ret | apply cw_exit | refine sy_and (h := ?_) | refine sy_or (h := ?_) | refine sy_xor (h := ?_) | refine sy_andNot (h := ?_) | refine sy_xorU (h := ?_) | refine sy_shl (h := ?_) | refine sy_shr (h := ?_) | refine sy_mul (h := ?_) | refine sy_int (h := ?_) | refine sy_beql (h := ?_) | refine sy_bneq (h := ?_) | refine sy_min (h := ?_) | refine sy_max (h := ?_) | refine sy_arrA (h := ?_) | refine sy_strI (h := ?_) | (refine sw_pu (hc := hwe) (hX := fun w h => h) (h := ?_)) | ((fail_if_success (refine sw_chk (h := ?_))); refine sw_guard (ht := ?_) (hf := ?_); all_goals (intro hx_; first | have := of_decide_eq_true hx_ | have := of_decide_eq_false hx_ | skip)) | (refine cw_cond (ht := ?_) (hf := ?_); all_goals (intro hx_; first | have := of_decide_eq_true hx_ | have := of_decide_eq_false hx_ | skip)))
    have e : rmemV c i = [] := by rw [rmemV, hw]; rfl
    rw [e]
    exact ends_ret (res_tmp rfl rfl) ⟨_, List.Sublist.cons _ (List.Sublist.refl _), none, 0, rfl, rfl⟩
  | true =>
    rw [hw] at hwe
    obtain ⟨q, x, rfl, hx⟩ := well_some hw
    have hlt := (List.getElem?_eq_some_iff.1 hx).1
    have hp' := hp (by omega)
    have hxm := List.mem_of_getElem? hx
    have h1 := (hc.rng x hxm).to_len
    have h2 := (hc.sm x hxm).to
    have e : rmemV c (q : Nat) = membersV c (q : Nat) x.scope x.group x.toL := by rw [rmem_some (a := x) (by rw [Int.toNat_natCast]; exact hx), hw]; rfl
    rw [e]
    have hme := members_ct c hc hcl (q : Nat) x.scope x.group x.to x.toL (by omega)
    generalize membersV c (q : Nat) x.scope x.group x.toL = M at *
    repeat' (first | apply sw_nil | apply cw_seq | apply cw_reg | refine sy_move (h := ?_) | refine sy_assign (h := ?_) | refine sy_nilCheck (h := ?_) | refine sy_fld (h := ?_) | refine sy_ld (h := ?_) | refine sy_ldAll (h := ?_) | refine sy_pick_t (h := ?_) | refine sy_pick_f (h := ?_) | refine sy_not (h := ?_) | refine sy_eql (h := ?_) | refine sy_neq (h := ?_) | refine sy_lss (h := ?_) | refine sy_leq (h := ?_) | refine sy_gtr (h := ?_) | refine sy_geq (h := ?_) | refine sy_seql (h := ?_) | refine sy_sneq (h := ?_) | refine sy_slen (h := ?_) | refine sy_len (h := ?_) | refine sy_extract (h := ?_) | refine sy_add (h := ?_) | refine sy_sub (h := ?_) | refine sw_skipT (h := ?_) | refine sw_skipF (h := ?_) | refine sw_skipU (h := ?_) | refine sw_alloc (h := fun _ => ?_) | refine sw_box (h := fun _ => ?_) | refine sw_rangeS (h := fun _ => ?_) | refine sw_nextS (h1 := fun _ => ?_) (h2 := fun _ => ?_) | refine sw_bsl (h := fun _ => ?_) | refine sw_st1 (h := ?_) | refine sw_stAll (h := ?_) | refine cw_cond_t (ht := ?_) | refine cw_cond_f (hf := ?_) | apply cw_skip | apply cw_block | apply cw_ret | apply cw_exit | refine sy_and (h := ?_) | refine sy_or (h := ?_) | refine sy_xor (h := ?_) | refine sy_andNot (h := ?_) | refine sy_xorU (h := ?_) | refine sy_shl (h := ?_) | refine sy_shr (h := ?_) | refine sy_mul (h := ?_) | refine sy_int (h := ?_) | refine sy_beql (h := ?_) | refine sy_bneq (h := ?_) | refine sy_min (h := ?_) | refine sy_max (h := ?_) | refine sy_arrA (h := ?_) | refine sy_strI (h := ?_) | (refine sw_pu (hc := hwe) (hX := fun w h => h) (h := ?_)) | (refine sy_idxX (q := q * 20) (h := ?_)) | (refine sy_ldXs (cs := x.cells) (hF := fun w h => Acts.get h.1 hx) (h := ?_)) | (refine sw_fn0 (hc := hme) (hX := fun w h => ⟨h, (h.1.2 x hxm).1⟩) (h := ?_); rintro v R X' ⟨A, c2, rfl, rfl⟩) | ((fail_if_success (refine sw_chk (h := ?_))); refine sw_guard (ht := ?_) (hf := ?_); all_goals (intro hx_; first | have := of_decide_eq_true hx_ | have := of_decide_eq_false hx_ | skip)) | (refine cw_cond (ht := ?_) (hf := ?_); all_goals (intro hx_; first | have := of_decide_eq_true hx_ | have := of_decide_eq_false hx_ | skip)))
    exact ends_ret (res_tmp rfl rfl) ⟨_, List.Sublist.cons_cons _ (List.nil_sublist _), A, c2, rfl, rfl⟩
theorem read_mk (c : ChainD) (hc : ActsOk c.actsL) (hcl : c.actsL.length ≤ 1000000) (i : Int) : Mk Tryz.prog 59 #[c.v, .int .i64 i] (XC c) fun u X => ∃ s : SlV, u = .tuple #[s.v, .bool (readB c i)] ∧ ∀ w, X w → Strs w s (readL c i) := by
  refine mk_of_cw2 (args := [_, _]) _ Tryz.func59 rfl Tryz.ntmps59 rfl fun av bor w0 => ?_
  refine cw_know XC.know fun ⟨hl, hm, hp, hcap⟩ => ?_
  simp only [maxLen] at hm
  have hte := rtext_pu c i
  cases ht : rtextV c i with
  | false =>
    rw [ht] at hte
    repeat' (first | apply sw_nil | apply cw_seq | apply cw_reg | refine sy_move (h := ?_) | refine sy_assign (h := ?_) | refine sy_nilCheck (h := ?_) | refine sy_fld (h := ?_) | refine sy_ld (h := ?_) | refine sy_ldAll (h := ?_) | refine sy_pick_t (h := ?_) | refine sy_pick_f (h := ?_) | refine sy_not (h := ?_) | refine sy_eql (h := ?_) | refine sy_neq (h := ?_) | refine sy_lss (h := ?_) | refine sy_leq (h := ?_) | refine sy_gtr (h := ?_) | refine sy_geq (h := ?_) | refine sy_seql (h := ?_) | refine sy_sneq (h := ?_) | refine sy_slen (h := ?_) | refine sy_len (h := ?_) | refine sy_extract (h := ?_) | refine sy_add (h := ?_) | refine sy_sub (h := ?_) | refine sw_skipT (h := ?_) | refine sw_skipF (h := ?_) | refine sw_skipU (h := ?_) | refine sw_alloc (h := fun _ => ?_) | refine sw_box (h := fun _ => ?_) | refine sw_rangeS (h := fun _ => ?_) | refine sw_nextS (h1 := fun _ => ?_) (h2 := fun _ => ?_) | refine sw_bsl (h := fun _ => ?_) | refine sw_st1 (h := ?_) | refine sw_stAll (h := ?_) | refine cw_cond_t (ht := ?_) | refine cw_cond_f (hf := ?_) | apply cw_skip | apply cw_block | apply cw_ret | apply cw_exit | refine sy_and (h := ?_) | refine sy_or (h := ?_) | refine sy_xor (h := ?_) | refine sy_andNot (h := ?_) | refine sy_xorU (h := ?_) | refine sy_shl (h := ?_) | refine sy_shr (h := ?_) | refine sy_mul (h := ?_) | refine sy_int (h := ?_) | refine sy_beql (h := ?_) | refine sy_bneq (h := ?_) | refine sy_min (h := ?_) | refine sy_max (h := ?_) | refine sy_arrA (h := ?_) | refine sy_strI (h := ?_) | (refine sw_pu (hc := hte) (hX := fun w h => h) (h := ?_)) | ((fail_if_success (refine sw_chk (h := ?_))); refine sw_guard (ht := ?_) (hf := ?_); all_goals (intro hx_; first | have := of_decide_eq_true hx_ | have := of_decide_eq_false hx_ | skip)) | (refine cw_cond (ht := ?_) (hf := ?_); all_goals (intro hx_; first | have := of_decide_eq_true hx_ | have := of_decide_eq_false hx_ | skip)))
    have e1 : readB c i = true := by rw [readB, ht]; rfl
    have e2 : readL c i = [] := by rw [readL, ht]; rfl
    rw [e1, e2]
    exact ends_ret (res_tmp2 rfl rfl rfl) ⟨⟨none, 0, 0⟩, rfl, fun w _ => rowsD_nil w 1⟩
  | true =>
    rw [ht] at hte
    obtain ⟨q, x, rfl, hx⟩ := rtext_some ht
    have hlt := (List.getElem?_eq_some_iff.1 hx).1
    have hp' := hp (by omega)
    have hpb : pubV c (q : Nat) = decide (x.scope = 0) := by rw [pubV, Int.toNat_natCast, hx]
    have e1 : readB c (q : Nat) = !decide (x.scope = 0) := by rw [readB, ht, hpb]; rfl
    have e2 : readL c (q : Nat) = bif !decide (x.scope = 0) then compB (sortB (rmemV c (q : Nat) ++ [c.id])) else [] := by rw [readL, ht, hpb]; rfl
    repeat' (first | apply sw_nil | apply cw_seq | apply cw_reg | refine sy_move (h := ?_) | refine sy_assign (h := ?_) | refine sy_nilCheck (h := ?_) | refine sy_fld (h := ?_) | refine sy_ld (h := ?_) | refine sy_ldAll (h := ?_) | refine sy_pick_t (h := ?_) | refine sy_pick_f (h := ?_) | refine sy_not (h := ?_) | refine sy_eql (h := ?_) | refine sy_neq (h := ?_) | refine sy_lss (h := ?_) | refine sy_leq (h := ?_) | refine sy_gtr (h := ?_) | refine sy_geq (h := ?_) | refine sy_seql (h := ?_) | refine sy_sneq (h := ?_) | refine sy_slen (h := ?_) | refine sy_len (h := ?_) | refine sy_extract (h := ?_) | refine sy_add (h := ?_) | refine sy_sub (h := ?_) | refine sw_skipT (h := ?_) | refine sw_skipF (h := ?_) | refine sw_skipU (h := ?_) | refine sw_alloc (h := fun _ => ?_) | refine sw_box (h := fun _ => ?_) | refine sw_rangeS (h := fun _ => ?_) | refine sw_nextS (h1 := fun _ => ?_) (h2 := fun _ => ?_) | refine sw_bsl (h := fun _ => ?_) | refine sw_st1 (h := ?_) | refine sw_stAll (h := ?_) | refine cw_cond_t (ht := ?_) | refine cw_cond_f (hf := ?_) | apply cw_skip | apply cw_block | apply cw_ret | apply cw_exit | refine sy_and (h := ?_) | refine sy_or (h := ?_) | refine sy_xor (h := ?_) | refine sy_andNot (h := ?_) | refine sy_xorU (h := ?_) | refine sy_shl (h := ?_) | refine sy_shr (h := ?_) | refine sy_mul (h := ?_) | refine sy_int (h := ?_) | refine sy_beql (h := ?_) | refine sy_bneq (h := ?_) | refine sy_min (h := ?_) | refine sy_max (h := ?_) | refine sy_arrA (h := ?_) | refine sy_strI (h := ?_) | (refine sw_pu (hc := hte) (hX := fun w h => h) (h := ?_)) | (refine sy_idxX (q := q * 20) (h := ?_)) | (refine sy_fldX (h := ?_)) | (refine sy_ldX (q := q * 20 + 7) (u := .int .i64 x.scope) (hF := fun w h => (Acts.get h.1 hx).2.2 7 _ rfl) (h := ?_)) | ((fail_if_success (refine sw_chk (h := ?_))); refine sw_guard (ht := ?_) (hf := ?_); all_goals (intro hx_; first | have := of_decide_eq_true hx_ | have := of_decide_eq_false hx_ | skip)) | (refine cw_cond (ht := ?_) (hf := ?_); all_goals (intro hx_; first | have := of_decide_eq_true hx_ | have := of_decide_eq_false hx_ | skip)))
    · rw [e1, e2, hx_]
      exact ends_ret (res_tmp2 rfl rfl rfl) ⟨⟨none, 0, 0⟩, rfl, fun w _ => rowsD_nil w 1⟩
    · rename_i b2
      rw [hx_] at e1 e2
      simp only [Bool.not_false, cond_true] at e1 e2
      rw [e1, e2]
      have hrm := rmembers_ct c hc hcl (q : Nat)
      have hrl := rmem_len hc hcl (q : Nat)
      generalize rmemV c (q : Nat) = M at *
      refine cw_meet (ι := RowI) (fun i => ⟨[(6, .slice i.A (M.length + 1) i.c)], [orow 9 1 (.slice i.A (M.length + 1) i.c) (M.length + 1) (M.map encB ++ [encB c.id])], XC c⟩) ?_ fun i => ?_
      · (refine cw_draw [cel b2 30 c.v.cells.toList] (fun w => XC c w) (by kernel_rfl) ?_)
        all_goals (refine aw_take 0 (h := ?_))
        all_goals (refine aw_take 1 (h := ?_))
        all_goals (refine aw_take 3 (h := ?_))
        all_goals (refine aw_take 4 (h := ?_))
        all_goals (refine aw_two 2 5 (h := ?_) (h' := ?_); (focus (((first | refine sw_fn0 (hc := hrm) (hX := fun w h => h) (h := ?_); rintro v R X' ⟨A, c2, rfl, rfl⟩); apply sw_nil; refine aw_fin (h := ?_)); all_goals ((refine aw_step 5 (h := ?_); (first | refine sw_bsl (len := 1) (vs := [encB c.id]) (h := fun _ => ?_)); apply sw_nil; refine aw_fin (h := ?_)); all_goals (refine aw_step 6 (h := ?_); (first | refine sw_append (size := 1) (z := .string ⟨#[]⟩) (news := [encB c.id]) (q := 1) rfl rfl rfl rfl (fun _ => by (repeat (first | exact At.here _ | apply At.there))) (fun w G => src_cel G (by (repeat (first | exact List.mem_cons_self | apply List.mem_cons_of_mem))) rfl rfl 1) (by omega) (by simp only [maxLen]; omega) rfl ?_ rfl ?_; (first | with_reducible rfl | with_reducible assumption | with_reducible exact Bool.not_false | with_reducible exact Bool.not_true); intro A2 c2); apply sw_nil; refine aw_fin (h := ?_)); all_goals (refine aw_take 7 (h := ?_)); all_goals (refine aw_done (h := ?_))))); rotate_right; (focus (((first | refine sw_bsl (len := 1) (vs := [encB c.id]) (h := fun _ => ?_)); apply sw_nil; refine aw_fin (h := ?_)); all_goals ((refine aw_step 2 (h := ?_); (first | refine sw_fn0 (hc := hrm) (hX := fun w h => h) (h := ?_); rintro v R X' ⟨A, c2, rfl, rfl⟩); apply sw_nil; refine aw_fin (h := ?_)); all_goals (refine aw_step 6 (h := ?_); (first | refine sw_append (size := 1) (z := .string ⟨#[]⟩) (news := [encB c.id]) (q := 1) rfl rfl rfl rfl (fun _ => by (repeat (first | exact At.here _ | apply At.there))) (fun w G => src_cel G (by (repeat (first | exact List.mem_cons_self | apply List.mem_cons_of_mem))) rfl rfl 1) (by omega) (by simp only [maxLen]; omega) rfl ?_ rfl ?_; (first | with_reducible rfl | with_reducible assumption | with_reducible exact Bool.not_false | with_reducible exact Bool.not_true); intro A2 c2); apply sw_nil; refine aw_fin (h := ?_)); all_goals (refine aw_take 7 (h := ?_)); all_goals (refine aw_done (h := ?_))))))
        all_goals first
          | exact ⟨⟨A2, c2⟩, ok_sub ⟨rfl, trivial⟩ (List.Sublist.cons_cons _ (List.nil_sublist _)) fun _ h => h.1⟩
          | exact ⟨⟨A2, c2⟩, ok_sub ⟨rfl, trivial⟩ (List.Sublist.cons _ (List.Sublist.cons_cons _ (List.nil_sublist _))) fun _ h => h.1⟩
      · have hsp : M.map encB ++ [encB c.id] = (M ++ [c.id]).map encB := by simp
        rw [hsp]
        have hfl : M.length + 1 ≤ 1000000000 := by omega
        repeat' (first | apply sw_nil | apply cw_seq | apply cw_reg | refine sy_move (h := ?_) | refine sy_assign (h := ?_) | refine sy_nilCheck (h := ?_) | refine sy_fld (h := ?_) | refine sy_ld (h := ?_) | refine sy_ldAll (h := ?_) | refine sy_pick_t (h := ?_) | refine sy_pick_f (h := ?_) | refine sy_not (h := ?_) | refine sy_eql (h := ?_) | refine sy_neq (h := ?_) | refine sy_lss (h := ?_) | refine sy_leq (h := ?_) | refine sy_gtr (h := ?_) | refine sy_geq (h := ?_) | refine sy_seql (h := ?_) | refine sy_sneq (h := ?_) | refine sy_slen (h := ?_) | refine sy_len (h := ?_) | refine sy_extract (h := ?_) | refine sy_add (h := ?_) | refine sy_sub (h := ?_) | refine sw_skipT (h := ?_) | refine sw_skipF (h := ?_) | refine sw_skipU (h := ?_) | refine sw_alloc (h := fun _ => ?_) | refine sw_box (h := fun _ => ?_) | refine sw_rangeS (h := fun _ => ?_) | refine sw_nextS (h1 := fun _ => ?_) (h2 := fun _ => ?_) | refine sw_bsl (h := fun _ => ?_) | refine sw_st1 (h := ?_) | refine sw_stAll (h := ?_) | refine cw_cond_t (ht := ?_) | refine cw_cond_f (hf := ?_) | apply cw_skip | apply cw_block | apply cw_ret | apply cw_exit | refine sy_and (h := ?_) | refine sy_or (h := ?_) | refine sy_xor (h := ?_) | refine sy_andNot (h := ?_) | refine sy_xorU (h := ?_) | refine sy_shl (h := ?_) | refine sy_shr (h := ?_) | refine sy_mul (h := ?_) | refine sy_int (h := ?_) | refine sy_beql (h := ?_) | refine sy_bneq (h := ?_) | refine sy_min (h := ?_) | refine sy_max (h := ?_) | refine sy_arrA (h := ?_) | refine sy_strI (h := ?_))
        refine sw_turn (hc := sortB_ct hfl) (hX := fun _ _ => trivial) (h := ?_)
        repeat' (first | apply sw_nil | apply cw_seq | apply cw_reg | refine sy_move (h := ?_) | refine sy_assign (h := ?_) | refine sy_nilCheck (h := ?_) | refine sy_fld (h := ?_) | refine sy_ld (h := ?_) | refine sy_ldAll (h := ?_) | refine sy_pick_t (h := ?_) | refine sy_pick_f (h := ?_) | refine sy_not (h := ?_) | refine sy_eql (h := ?_) | refine sy_neq (h := ?_) | refine sy_lss (h := ?_) | refine sy_leq (h := ?_) | refine sy_gtr (h := ?_) | refine sy_geq (h := ?_) | refine sy_seql (h := ?_) | refine sy_sneq (h := ?_) | refine sy_slen (h := ?_) | refine sy_len (h := ?_) | refine sy_extract (h := ?_) | refine sy_add (h := ?_) | refine sy_sub (h := ?_) | refine sw_skipT (h := ?_) | refine sw_skipF (h := ?_) | refine sw_skipU (h := ?_) | refine sw_alloc (h := fun _ => ?_) | refine sw_box (h := fun _ => ?_) | refine sw_rangeS (h := fun _ => ?_) | refine sw_nextS (h1 := fun _ => ?_) (h2 := fun _ => ?_) | refine sw_bsl (h := fun _ => ?_) | refine sw_st1 (h := ?_) | refine sw_stAll (h := ?_) | refine cw_cond_t (ht := ?_) | refine cw_cond_f (hf := ?_) | apply cw_skip | apply cw_block | apply cw_ret | apply cw_exit | refine sy_and (h := ?_) | refine sy_or (h := ?_) | refine sy_xor (h := ?_) | refine sy_andNot (h := ?_) | refine sy_xorU (h := ?_) | refine sy_shl (h := ?_) | refine sy_shr (h := ?_) | refine sy_mul (h := ?_) | refine sy_int (h := ?_) | refine sy_beql (h := ?_) | refine sy_bneq (h := ?_) | refine sy_min (h := ?_) | refine sy_max (h := ?_) | refine sy_arrA (h := ?_) | refine sy_strI (h := ?_))
        refine sw_fnAt (hc := compB_ct) (hX := fun _ _ => trivial) (h := ?_)
        rintro _ _ X2 ⟨A3, c3, rfl, rfl⟩
        repeat' (first | apply sw_nil | apply cw_seq | apply cw_reg | refine sy_move (h := ?_) | refine sy_assign (h := ?_) | refine sy_nilCheck (h := ?_) | refine sy_fld (h := ?_) | refine sy_ld (h := ?_) | refine sy_ldAll (h := ?_) | refine sy_pick_t (h := ?_) | refine sy_pick_f (h := ?_) | refine sy_not (h := ?_) | refine sy_eql (h := ?_) | refine sy_neq (h := ?_) | refine sy_lss (h := ?_) | refine sy_leq (h := ?_) | refine sy_gtr (h := ?_) | refine sy_geq (h := ?_) | refine sy_seql (h := ?_) | refine sy_sneq (h := ?_) | refine sy_slen (h := ?_) | refine sy_len (h := ?_) | refine sy_extract (h := ?_) | refine sy_add (h := ?_) | refine sy_sub (h := ?_) | refine sw_skipT (h := ?_) | refine sw_skipF (h := ?_) | refine sw_skipU (h := ?_) | refine sw_alloc (h := fun _ => ?_) | refine sw_box (h := fun _ => ?_) | refine sw_rangeS (h := fun _ => ?_) | refine sw_nextS (h1 := fun _ => ?_) (h2 := fun _ => ?_) | refine sw_bsl (h := fun _ => ?_) | refine sw_st1 (h := ?_) | refine sw_stAll (h := ?_) | refine cw_cond_t (ht := ?_) | refine cw_cond_f (hf := ?_) | apply cw_skip | apply cw_block | apply cw_ret | apply cw_exit | refine sy_and (h := ?_) | refine sy_or (h := ?_) | refine sy_xor (h := ?_) | refine sy_andNot (h := ?_) | refine sy_xorU (h := ?_) | refine sy_shl (h := ?_) | refine sy_shr (h := ?_) | refine sy_mul (h := ?_) | refine sy_int (h := ?_) | refine sy_beql (h := ?_) | refine sy_bneq (h := ?_) | refine sy_min (h := ?_) | refine sy_max (h := ?_) | refine sy_arrA (h := ?_) | refine sy_strI (h := ?_))
        exact ends_ret (res_tmp2 rfl rfl rfl) ⟨⟨A3, _, c3⟩, rfl, fun w h => strs_of_orow (h.2 _ List.mem_cons_self) rfl⟩
theorem may_pu (c : ChainD) (hc : ActsOk c.actsL) (hcl : c.actsL.length ≤ 1000000) (i : Int) (r : ByteArray) : Pu Tryz.prog 16 #[c.v, .int .i64 i, .string r] (XC c) (.bool (mayV c i r)) := by
  refine pu_of_cw (args := [_, _, _]) _ Tryz.func16 rfl Tryz.ntmps16 rfl fun av bor w0 => ?_
  refine cw_know XC.know fun ⟨hl, hm, hp, hcap⟩ => ?_
  simp only [maxLen] at hm
  have hte := rtext_pu c i
  cases ht : rtextV c i with
  | false =>
    rw [ht] at hte
    repeat' (first | apply sw_nil | apply cw_seq | apply cw_reg | refine sy_move (h := ?_) | refine sy_assign (h := ?_) | refine sy_nilCheck (h := ?_) | refine sy_fld (h := ?_) | refine sy_ld (h := ?_) | refine sy_ldAll (h := ?_) | refine sy_pick_t (h := ?_) | refine sy_pick_f (h := ?_) | refine sy_not (h := ?_) | refine sy_eql (h := ?_) | refine sy_neq (h := ?_) | refine sy_lss (h := ?_) | refine sy_leq (h := ?_) | refine sy_gtr (h := ?_) | refine sy_geq (h := ?_) | refine sy_seql (h := ?_) | refine sy_sneq (h := ?_) | refine sy_slen (h := ?_) | refine sy_len (h := ?_) | refine sy_extract (h := ?_) | refine sy_add (h := ?_) | refine sy_sub (h := ?_) | refine sw_skipT (h := ?_) | refine sw_skipF (h := ?_) | refine sw_skipU (h := ?_) | refine sw_alloc (h := fun _ => ?_) | refine sw_box (h := fun _ => ?_) | refine sw_rangeS (h := fun _ => ?_) | refine sw_nextS (h1 := fun _ => ?_) (h2 := fun _ => ?_) | refine sw_bsl (h := fun _ => ?_) | refine sw_st1 (h := ?_) | refine sw_stAll (h := ?_) | refine cw_cond_t (ht := ?_) | refine cw_cond_f (hf := ?_) | apply cw_skip | apply cw_block | apply cw_ret | apply cw_exit | refine sy_and (h := ?_) | refine sy_or (h := ?_) | refine sy_xor (h := ?_) | refine sy_andNot (h := ?_) | refine sy_xorU (h := ?_) | refine sy_shl (h := ?_) | refine sy_shr (h := ?_) | refine sy_mul (h := ?_) | refine sy_int (h := ?_) | refine sy_beql (h := ?_) | refine sy_bneq (h := ?_) | refine sy_min (h := ?_) | refine sy_max (h := ?_) | refine sy_arrA (h := ?_) | refine sy_strI (h := ?_) | (refine sw_pu (hc := hte) (hX := fun w h => h) (h := ?_)) | ((fail_if_success (refine sw_chk (h := ?_))); refine sw_guard (ht := ?_) (hf := ?_); all_goals (intro hx_; first | have := of_decide_eq_true hx_ | have := of_decide_eq_false hx_ | skip)) | (refine cw_cond (ht := ?_) (hf := ?_); all_goals (intro hx_; first | have := of_decide_eq_true hx_ | have := of_decide_eq_false hx_ | skip)))
    apply ends_ret; apply res_tmp; rfl; rfl
    rw [mayV, ht]
    rfl
  | true =>
    rw [ht] at hte
    obtain ⟨q, x, rfl, hx⟩ := rtext_some ht
    have hlt := (List.getElem?_eq_some_iff.1 hx).1
    have hp' := hp (by omega)
    have hpb : pubV c (q : Nat) = decide (x.scope = 0) := by rw [pubV, Int.toNat_natCast, hx]
    have hM : mayV c (q : Nat) r = (seqB r c.id || decide (x.scope = 0) || hasS (rmemV c (q : Nat)) r) := by rw [mayV, ht, hpb]; rfl
    rw [hM]
    have hrm := mk_of_own (rmembers_ct c hc hcl (q : Nat))
    generalize rmemV c (q : Nat) = M at *
    repeat' (first | apply sw_nil | apply cw_seq | apply cw_reg | refine sy_move (h := ?_) | refine sy_assign (h := ?_) | refine sy_nilCheck (h := ?_) | refine sy_fld (h := ?_) | refine sy_ld (h := ?_) | refine sy_ldAll (h := ?_) | refine sy_pick_t (h := ?_) | refine sy_pick_f (h := ?_) | refine sy_not (h := ?_) | refine sy_eql (h := ?_) | refine sy_neq (h := ?_) | refine sy_lss (h := ?_) | refine sy_leq (h := ?_) | refine sy_gtr (h := ?_) | refine sy_geq (h := ?_) | refine sy_seql (h := ?_) | refine sy_sneq (h := ?_) | refine sy_slen (h := ?_) | refine sy_len (h := ?_) | refine sy_extract (h := ?_) | refine sy_add (h := ?_) | refine sy_sub (h := ?_) | refine sw_skipT (h := ?_) | refine sw_skipF (h := ?_) | refine sw_skipU (h := ?_) | refine sw_alloc (h := fun _ => ?_) | refine sw_box (h := fun _ => ?_) | refine sw_rangeS (h := fun _ => ?_) | refine sw_nextS (h1 := fun _ => ?_) (h2 := fun _ => ?_) | refine sw_bsl (h := fun _ => ?_) | refine sw_st1 (h := ?_) | refine sw_stAll (h := ?_) | refine cw_cond_t (ht := ?_) | refine cw_cond_f (hf := ?_) | apply cw_skip | apply cw_block | apply cw_ret | apply cw_exit | refine sy_and (h := ?_) | refine sy_or (h := ?_) | refine sy_xor (h := ?_) | refine sy_andNot (h := ?_) | refine sy_xorU (h := ?_) | refine sy_shl (h := ?_) | refine sy_shr (h := ?_) | refine sy_mul (h := ?_) | refine sy_int (h := ?_) | refine sy_beql (h := ?_) | refine sy_bneq (h := ?_) | refine sy_min (h := ?_) | refine sy_max (h := ?_) | refine sy_arrA (h := ?_) | refine sy_strI (h := ?_) | (refine sw_pu (hc := hte) (hX := fun w h => h) (h := ?_)) | (refine sy_idxX (q := q * 20) (h := ?_)) | (refine sy_fldX (h := ?_)) | (refine sy_ldX (q := q * 20 + 7) (u := .int .i64 x.scope) (hF := fun w h => (Acts.get h.1 hx).2.2 7 _ rfl) (h := ?_)) | (refine sw_mk (hc := hrm) (hX := fun w h => h) (h := fun v1 X1 h1 => ?_); obtain ⟨s1, rfl, hs1⟩ := h1) | (refine sw_pu (hc := containsS_pu s1 M r) (hX := fun w h => hs1 w h.2) (h := ?_)) | ((fail_if_success (refine sw_chk (h := ?_))); refine sw_guard (ht := ?_) (hf := ?_); all_goals (intro hx_; first | have := of_decide_eq_true hx_ | have := of_decide_eq_false hx_ | skip)) | (refine cw_cond (ht := ?_) (hf := ?_); all_goals (intro hx_; first | have := of_decide_eq_true hx_ | have := of_decide_eq_false hx_ | skip)))
    all_goals
      apply ends_ret; apply res_tmp; rfl; rfl
      simp only [*, decide_true, decide_false, cond_true, cond_false, Bool.and_true, Bool.true_and, Bool.and_false, Bool.false_and, Bool.not_true, Bool.not_false, Bool.or_true, Bool.true_or, Bool.or_false, Bool.false_or]
theorem short25_pu (c : ChainD) : Pu Tryz.prog 61 #[c.v] (XC c) (.bool (shortV c)) := by
  refine pu_of_cw (args := [_]) _ Tryz.func61 rfl Tryz.ntmps61 rfl fun av bor w0 => ?_
  refine cw_know XC.know fun ⟨hl, hm, hp, hcap⟩ => ?_
  simp only [maxLen] at hm
  repeat' (first | apply sw_nil | apply cw_seq | apply cw_reg | refine sy_move (h := ?_) | refine sy_assign (h := ?_) | refine sy_nilCheck (h := ?_) | refine sy_fld (h := ?_) | refine sy_ld (h := ?_) | refine sy_ldAll (h := ?_) | refine sy_pick_t (h := ?_) | refine sy_pick_f (h := ?_) | refine sy_not (h := ?_) | refine sy_eql (h := ?_) | refine sy_neq (h := ?_) | refine sy_lss (h := ?_) | refine sy_leq (h := ?_) | refine sy_gtr (h := ?_) | refine sy_geq (h := ?_) | refine sy_seql (h := ?_) | refine sy_sneq (h := ?_) | refine sy_slen (h := ?_) | refine sy_len (h := ?_) | refine sy_extract (h := ?_) | refine sy_add (h := ?_) | refine sy_sub (h := ?_) | refine sw_skipT (h := ?_) | refine sw_skipF (h := ?_) | refine sw_skipU (h := ?_) | refine sw_alloc (h := fun _ => ?_) | refine sw_box (h := fun _ => ?_) | refine sw_rangeS (h := fun _ => ?_) | refine sw_nextS (h1 := fun _ => ?_) (h2 := fun _ => ?_) | refine sw_bsl (h := fun _ => ?_) | refine sw_st1 (h := ?_) | refine sw_stAll (h := ?_) | refine cw_cond_t (ht := ?_) | refine cw_cond_f (hf := ?_) | apply cw_skip | apply cw_block | apply cw_ret | apply cw_exit | refine sy_and (h := ?_) | refine sy_or (h := ?_) | refine sy_xor (h := ?_) | refine sy_andNot (h := ?_) | refine sy_xorU (h := ?_) | refine sy_shl (h := ?_) | refine sy_shr (h := ?_) | refine sy_mul (h := ?_) | refine sy_int (h := ?_) | refine sy_beql (h := ?_) | refine sy_bneq (h := ?_) | refine sy_min (h := ?_) | refine sy_max (h := ?_) | refine sy_arrA (h := ?_) | refine sy_strI (h := ?_))
  rename_i b1
  repeat' (first | apply sw_nil | apply cw_seq | apply cw_reg | refine sy_move (h := ?_) | refine sy_assign (h := ?_) | refine sy_nilCheck (h := ?_) | refine sy_fld (h := ?_) | refine sy_ld (h := ?_) | refine sy_ldAll (h := ?_) | refine sy_pick_t (h := ?_) | refine sy_pick_f (h := ?_) | refine sy_not (h := ?_) | refine sy_eql (h := ?_) | refine sy_neq (h := ?_) | refine sy_lss (h := ?_) | refine sy_leq (h := ?_) | refine sy_gtr (h := ?_) | refine sy_geq (h := ?_) | refine sy_seql (h := ?_) | refine sy_sneq (h := ?_) | refine sy_slen (h := ?_) | refine sy_len (h := ?_) | refine sy_extract (h := ?_) | refine sy_add (h := ?_) | refine sy_sub (h := ?_) | refine sw_skipT (h := ?_) | refine sw_skipF (h := ?_) | refine sw_skipU (h := ?_) | refine sw_alloc (h := fun _ => ?_) | refine sw_box (h := fun _ => ?_) | refine sw_rangeS (h := fun _ => ?_) | refine sw_nextS (h1 := fun _ => ?_) (h2 := fun _ => ?_) | refine sw_bsl (h := fun _ => ?_) | refine sw_st1 (h := ?_) | refine sw_stAll (h := ?_) | refine cw_cond_t (ht := ?_) | refine cw_cond_f (hf := ?_) | apply cw_skip | apply cw_block | apply cw_ret | apply cw_exit | refine sy_and (h := ?_) | refine sy_or (h := ?_) | refine sy_xor (h := ?_) | refine sy_andNot (h := ?_) | refine sy_xorU (h := ?_) | refine sy_shl (h := ?_) | refine sy_shr (h := ?_) | refine sy_mul (h := ?_) | refine sy_int (h := ?_) | refine sy_beql (h := ?_) | refine sy_bneq (h := ?_) | refine sy_min (h := ?_) | refine sy_max (h := ?_) | refine sy_arrA (h := ?_) | refine sy_strI (h := ?_) | ((fail_if_success (refine sw_chk (h := ?_))); refine sw_guard (ht := ?_) (hf := ?_); all_goals (intro hx_; first | have := of_decide_eq_true hx_ | have := of_decide_eq_false hx_ | skip)) | (refine cw_cond (ht := ?_) (hf := ?_); all_goals (intro hx_; first | have := of_decide_eq_true hx_ | have := of_decide_eq_false hx_ | skip)))
  · apply ends_ret; apply res_tmp; rfl; rfl
    rw [shortV, decide_eq_false (by omega), Bool.false_and]
  refine cw_loop (ι := Upto c.actsL.length (shortBad c.actsL)) (fun i => ⟨[(1, .pointer (some ⟨b1, 0, none⟩)), (3, .int .i64 i.k)], [cel b1 30 c.cells], XC c⟩) (fun i => c.actsL.length - i.k) (Upto.zero _ _) (ok_sub (by repeat (first | exact trivial | refine ⟨rfl, ?_⟩)) (List.Sublist.refl _) fun _ h => h) fun i => ?_
  have hik := i.hk
  repeat' (first | apply sw_nil | apply cw_seq | apply cw_reg | refine sy_move (h := ?_) | refine sy_assign (h := ?_) | refine sy_nilCheck (h := ?_) | refine sy_fld (h := ?_) | refine sy_ld (h := ?_) | refine sy_ldAll (h := ?_) | refine sy_pick_t (h := ?_) | refine sy_pick_f (h := ?_) | refine sy_not (h := ?_) | refine sy_eql (h := ?_) | refine sy_neq (h := ?_) | refine sy_lss (h := ?_) | refine sy_leq (h := ?_) | refine sy_gtr (h := ?_) | refine sy_geq (h := ?_) | refine sy_seql (h := ?_) | refine sy_sneq (h := ?_) | refine sy_slen (h := ?_) | refine sy_len (h := ?_) | refine sy_extract (h := ?_) | refine sy_add (h := ?_) | refine sy_sub (h := ?_) | refine sw_skipT (h := ?_) | refine sw_skipF (h := ?_) | refine sw_skipU (h := ?_) | refine sw_alloc (h := fun _ => ?_) | refine sw_box (h := fun _ => ?_) | refine sw_rangeS (h := fun _ => ?_) | refine sw_nextS (h1 := fun _ => ?_) (h2 := fun _ => ?_) | refine sw_bsl (h := fun _ => ?_) | refine sw_st1 (h := ?_) | refine sw_stAll (h := ?_) | refine cw_cond_t (ht := ?_) | refine cw_cond_f (hf := ?_) | apply cw_skip | apply cw_block | apply cw_ret | apply cw_exit | refine sy_and (h := ?_) | refine sy_or (h := ?_) | refine sy_xor (h := ?_) | refine sy_andNot (h := ?_) | refine sy_xorU (h := ?_) | refine sy_shl (h := ?_) | refine sy_shr (h := ?_) | refine sy_mul (h := ?_) | refine sy_int (h := ?_) | refine sy_beql (h := ?_) | refine sy_bneq (h := ?_) | refine sy_min (h := ?_) | refine sy_max (h := ?_) | refine sy_arrA (h := ?_) | refine sy_strI (h := ?_) | ((fail_if_success (refine sw_chk (h := ?_))); refine sw_guard (ht := ?_) (hf := ?_); all_goals (intro hx_; first | have := of_decide_eq_true hx_ | have := of_decide_eq_false hx_ | skip)) | (refine cw_cond (ht := ?_) (hf := ?_); all_goals (intro hx_; first | have := of_decide_eq_true hx_ | have := of_decide_eq_false hx_ | skip)))
  · have hlt : i.k < c.actsL.length := by omega
    have hp' := hp (by omega)
    obtain ⟨x, hx⟩ : ∃ x, c.actsL[i.k]? = some x := ⟨_, List.getElem?_eq_getElem hlt⟩
    have hB : shortBad c.actsL i.k = (decide (8 < x.to.n) || decide (8 < x.wraps.n) || decide (600 < x.text.size) || decide (600 < x.body.data.size)) := by simp only [shortBad, List.getD_eq_getElem?_getD, hx, Option.getD_some]
    repeat' (first | apply sw_nil | apply cw_seq | apply cw_reg | refine sy_move (h := ?_) | refine sy_assign (h := ?_) | refine sy_nilCheck (h := ?_) | refine sy_fld (h := ?_) | refine sy_ld (h := ?_) | refine sy_ldAll (h := ?_) | refine sy_pick_t (h := ?_) | refine sy_pick_f (h := ?_) | refine sy_not (h := ?_) | refine sy_eql (h := ?_) | refine sy_neq (h := ?_) | refine sy_lss (h := ?_) | refine sy_leq (h := ?_) | refine sy_gtr (h := ?_) | refine sy_geq (h := ?_) | refine sy_seql (h := ?_) | refine sy_sneq (h := ?_) | refine sy_slen (h := ?_) | refine sy_len (h := ?_) | refine sy_extract (h := ?_) | refine sy_add (h := ?_) | refine sy_sub (h := ?_) | refine sw_skipT (h := ?_) | refine sw_skipF (h := ?_) | refine sw_skipU (h := ?_) | refine sw_alloc (h := fun _ => ?_) | refine sw_box (h := fun _ => ?_) | refine sw_rangeS (h := fun _ => ?_) | refine sw_nextS (h1 := fun _ => ?_) (h2 := fun _ => ?_) | refine sw_bsl (h := fun _ => ?_) | refine sw_st1 (h := ?_) | refine sw_stAll (h := ?_) | refine cw_cond_t (ht := ?_) | refine cw_cond_f (hf := ?_) | apply cw_skip | apply cw_block | apply cw_ret | apply cw_exit | refine sy_and (h := ?_) | refine sy_or (h := ?_) | refine sy_xor (h := ?_) | refine sy_andNot (h := ?_) | refine sy_xorU (h := ?_) | refine sy_shl (h := ?_) | refine sy_shr (h := ?_) | refine sy_mul (h := ?_) | refine sy_int (h := ?_) | refine sy_beql (h := ?_) | refine sy_bneq (h := ?_) | refine sy_min (h := ?_) | refine sy_max (h := ?_) | refine sy_arrA (h := ?_) | refine sy_strI (h := ?_) | (refine sy_idxX (q := i.k * 20) (h := ?_)) | (refine sy_ldXs (cs := x.cells) (hF := fun w h => Acts.get h.1 hx) (h := ?_)) | ((fail_if_success (refine sw_chk (h := ?_))); refine sw_guard (ht := ?_) (hf := ?_); all_goals (intro hx_; first | have := of_decide_eq_true hx_ | have := of_decide_eq_false hx_ | skip)) | (refine cw_cond (ht := ?_) (hf := ?_); all_goals (intro hx_; first | have := of_decide_eq_true hx_ | have := of_decide_eq_false hx_ | skip)))
    all_goals first
      | (apply ends_ret; apply res_tmp; rfl; rfl
         have hb : shortBad c.actsL i.k = true := by
           rw [hB]; simp only [Bool.or_eq_true, decide_eq_true_eq]; simp only [decide_eq_true_eq, decide_eq_false_iff_not] at *; omega
         rw [shortV, allB_false hlt hb, Bool.and_false])
      | (have hb : shortBad c.actsL i.k = false := by
           rw [hB]; simp only [Bool.or_eq_false_iff, decide_eq_false_iff_not]; simp only [decide_eq_true_eq, decide_eq_false_iff_not] at *; omega
         exact ⟨i.next hlt hb, (by show c.actsL.length - (i.k + 1) < c.actsL.length - i.k; omega), ok_sub (by repeat (first | exact trivial | refine ⟨rfl, ?_⟩)) (List.Sublist.cons _ (List.Sublist.refl _)) fun _ h => h⟩)
  · apply ends_ret; apply res_tmp; rfl; rfl
    rw [shortV, i.all (by omega), decide_eq_true (by omega)]
    rfl

end Go.Proofs.YtcdcfimlikojeaaGreatDoor

/- Package agoralaw25: the examples. -/
set_option linter.unusedVariables false
set_option linter.unusedSimpArgs false
namespace Go.Proofs.YtcdcfimlikojeaaGreatDoor
open Go Go.Proofs Sy
def exP1 : ActD := { ActD.zero with kind := 1 }
def exP2 : ActD := { ActD.zero with kind := 1, scope := 1 }
def exP3 : ActD := { ActD.zero with kind := 5 }
def exL : List ActD := [exP1, exP2, exP3]
def chainR (b : Nat) : ChainD := ⟨idA, ⟨some ⟨b, 0, none⟩, 3, 3⟩, ⟨none, 0, 0⟩, ⟨#[]⟩, 0, false, exL⟩
theorem exL_mem {P : ActD → Prop} (h1 : P exP1) (h2 : P exP2) (h3 : P exP3) : ∀ a ∈ exL, P a := by
  intro a ha
  simp only [exL, List.mem_cons, List.not_mem_nil, or_false] at ha
  rcases ha with rfl | rfl | rfl
  · exact h1
  · exact h2
  · exact h3
theorem exL_ok : ActsOk exL := ⟨exL_mem ⟨by decide, fun w hw => absurd hw (by show ¬ w ∈ []; simp), rfl, rfl⟩ ⟨by decide, fun w hw => absurd hw (by show ¬ w ∈ []; simp), rfl, rfl⟩ ⟨by decide, fun w hw => absurd hw (by show ¬ w ∈ []; simp), rfl, rfl⟩,
  exL_mem ⟨by decide, by decide, by decide⟩ ⟨by decide, by decide, by decide⟩ ⟨by decide, by decide, by decide⟩⟩
theorem chainR_at {b : Nat} {w : World} (h : Glob w) (hc : (cel b 38 (exL.map ActD.cells).flatten).F w) : XC (chainR b) w :=
  ⟨⟨rows_of_cel hc rfl (by decide) (cells_len exL), exL_mem ⟨rowsD_nil w 1, rowsD_nil w 5⟩ ⟨rowsD_nil w 1, rowsD_nil w 5⟩ ⟨rowsD_nil w 1, rowsD_nil w 5⟩⟩, h⟩
theorem small25_pu : Pu Tryz.prog 12 #[] Glob (.bool true) := by
  refine pu_of_cw (args := []) _ Tryz.func12 rfl Tryz.ntmps12 rfl fun av bor w0 => ?_
  repeat' (first | refine sy_build (cs := exP1.cells) (hf := by rfl) (h := ?_) | refine sy_build (cs := exP2.cells) (hf := by rfl) (h := ?_) | refine sy_build (cs := exP3.cells) (hf := by rfl) (h := ?_) | apply sw_nil | apply cw_seq | apply cw_reg | refine sy_move (h := ?_) | refine sy_assign (h := ?_) | refine sy_nilCheck (h := ?_) | refine sy_fld (h := ?_) | refine sy_ld (h := ?_) | refine sy_ldAll (h := ?_) | refine sy_pick_t (h := ?_) | refine sy_pick_f (h := ?_) | refine sy_not (h := ?_) | refine sy_eql (h := ?_) | refine sy_neq (h := ?_) | refine sy_lss (h := ?_) | refine sy_leq (h := ?_) | refine sy_gtr (h := ?_) | refine sy_geq (h := ?_) | refine sy_seql (h := ?_) | refine sy_sneq (h := ?_) | refine sy_slen (h := ?_) | refine sy_len (h := ?_) | refine sy_extract (h := ?_) | refine sy_add (h := ?_) | refine sy_sub (h := ?_) | refine sw_skipT (h := ?_) | refine sw_skipF (h := ?_) | refine sw_skipU (h := ?_) | refine sw_alloc (h := fun _ => ?_) | refine sw_box (h := fun _ => ?_) | refine sw_rangeS (h := fun _ => ?_) | refine sw_nextS (h1 := fun _ => ?_) (h2 := fun _ => ?_) | refine sw_bsl (h := fun _ => ?_) | refine sw_st1 (h := ?_) | refine sw_stAll (h := ?_) | refine cw_cond_t (ht := ?_) | refine cw_cond_f (hf := ?_) | apply cw_skip | apply cw_block | apply cw_ret | apply cw_exit | refine sy_and (h := ?_) | refine sy_or (h := ?_) | refine sy_xor (h := ?_) | refine sy_andNot (h := ?_) | refine sy_xorU (h := ?_) | refine sy_shl (h := ?_) | refine sy_shr (h := ?_) | refine sy_mul (h := ?_) | refine sy_int (h := ?_) | refine sy_beql (h := ?_) | refine sy_bneq (h := ?_) | refine sy_min (h := ?_) | refine sy_max (h := ?_) | refine sy_arrA (h := ?_) | refine sy_strI (h := ?_) | refine sw_bslS (vs := [.agg exP1.cells.toArray, .agg exP2.cells.toArray, .agg exP3.cells.toArray]) (css := (exL.map ActD.cells).flatten) (hsz := by rfl) (hcs := by rfl) (h := fun bR => ?_); refine sw_give ?_ | refine sy_build (h := ?_) | ((fail_if_success (refine sw_chk (h := ?_))); refine sw_guard (ht := ?_) (hf := ?_); all_goals (intro hx_; first | have := of_decide_eq_true hx_ | have := of_decide_eq_false hx_ | skip)) | (refine cw_cond (ht := ?_) (hf := ?_); all_goals (intro hx_; first | have := of_decide_eq_true hx_ | have := of_decide_eq_false hx_ | skip)))
  rename_i b2
  have r0 := read_mk (chainR bR) exL_ok (by show 3 ≤ _; omega) 0
  have r1 := read_mk (chainR bR) exL_ok (by show 3 ≤ _; omega) 1
  have r2 := read_mk (chainR bR) exL_ok (by show 3 ≤ _; omega) 2
  rw [show readB (chainR bR) 0 = false from by kernel_rfl, show readL (chainR bR) 0 = [] from by kernel_rfl] at r0
  rw [show readB (chainR bR) 1 = true from by kernel_rfl, show readL (chainR bR) 1 = [idA] from by kernel_rfl] at r1
  rw [show readB (chainR bR) 2 = true from by kernel_rfl, show readL (chainR bR) 2 = [] from by kernel_rfl] at r2
  refine sw_mk (hc := r0) (hX := fun w h => chainR_at h.1 h.2) (h := fun v1 X1 h1 => ?_)
  obtain ⟨s1, rfl, hs1⟩ := h1
  refine sw_know (p := s1.n = 0) (fun w h => RowsD.len (hs1 w h.2)) fun hn1 => ?_
  repeat' (first | apply sw_nil | apply cw_seq | apply cw_reg | refine sy_move (h := ?_) | refine sy_assign (h := ?_) | refine sy_nilCheck (h := ?_) | refine sy_fld (h := ?_) | refine sy_ld (h := ?_) | refine sy_ldAll (h := ?_) | refine sy_pick_t (h := ?_) | refine sy_pick_f (h := ?_) | refine sy_not (h := ?_) | refine sy_eql (h := ?_) | refine sy_neq (h := ?_) | refine sy_lss (h := ?_) | refine sy_leq (h := ?_) | refine sy_gtr (h := ?_) | refine sy_geq (h := ?_) | refine sy_seql (h := ?_) | refine sy_sneq (h := ?_) | refine sy_slen (h := ?_) | refine sy_len (h := ?_) | refine sy_extract (h := ?_) | refine sy_add (h := ?_) | refine sy_sub (h := ?_) | refine sw_skipT (h := ?_) | refine sw_skipF (h := ?_) | refine sw_skipU (h := ?_) | refine sw_alloc (h := fun _ => ?_) | refine sw_box (h := fun _ => ?_) | refine sw_rangeS (h := fun _ => ?_) | refine sw_nextS (h1 := fun _ => ?_) (h2 := fun _ => ?_) | refine sw_bsl (h := fun _ => ?_) | refine sw_st1 (h := ?_) | refine sw_stAll (h := ?_) | refine cw_cond_t (ht := ?_) | refine cw_cond_f (hf := ?_) | apply cw_skip | apply cw_block | apply cw_ret | apply cw_exit | refine sy_and (h := ?_) | refine sy_or (h := ?_) | refine sy_xor (h := ?_) | refine sy_andNot (h := ?_) | refine sy_xorU (h := ?_) | refine sy_shl (h := ?_) | refine sy_shr (h := ?_) | refine sy_mul (h := ?_) | refine sy_int (h := ?_) | refine sy_beql (h := ?_) | refine sy_bneq (h := ?_) | refine sy_min (h := ?_) | refine sy_max (h := ?_) | refine sy_arrA (h := ?_) | refine sy_strI (h := ?_))
  refine sw_mk (hc := r1) (hX := fun w h => chainR_at h.1.1 h.1.2) (h := fun v2 X2 h2 => ?_)
  obtain ⟨s2, rfl, hs2⟩ := h2
  repeat' (first | apply sw_nil | apply cw_seq | apply cw_reg | refine sy_move (h := ?_) | refine sy_assign (h := ?_) | refine sy_nilCheck (h := ?_) | refine sy_fld (h := ?_) | refine sy_ld (h := ?_) | refine sy_ldAll (h := ?_) | refine sy_pick_t (h := ?_) | refine sy_pick_f (h := ?_) | refine sy_not (h := ?_) | refine sy_eql (h := ?_) | refine sy_neq (h := ?_) | refine sy_lss (h := ?_) | refine sy_leq (h := ?_) | refine sy_gtr (h := ?_) | refine sy_geq (h := ?_) | refine sy_seql (h := ?_) | refine sy_sneq (h := ?_) | refine sy_slen (h := ?_) | refine sy_len (h := ?_) | refine sy_extract (h := ?_) | refine sy_add (h := ?_) | refine sy_sub (h := ?_) | refine sw_skipT (h := ?_) | refine sw_skipF (h := ?_) | refine sw_skipU (h := ?_) | refine sw_alloc (h := fun _ => ?_) | refine sw_box (h := fun _ => ?_) | refine sw_rangeS (h := fun _ => ?_) | refine sw_nextS (h1 := fun _ => ?_) (h2 := fun _ => ?_) | refine sw_bsl (h := fun _ => ?_) | refine sw_st1 (h := ?_) | refine sw_stAll (h := ?_) | refine cw_cond_t (ht := ?_) | refine cw_cond_f (hf := ?_) | apply cw_skip | apply cw_block | apply cw_ret | apply cw_exit | refine sy_and (h := ?_) | refine sy_or (h := ?_) | refine sy_xor (h := ?_) | refine sy_andNot (h := ?_) | refine sy_xorU (h := ?_) | refine sy_shl (h := ?_) | refine sy_shr (h := ?_) | refine sy_mul (h := ?_) | refine sy_int (h := ?_) | refine sy_beql (h := ?_) | refine sy_bneq (h := ?_) | refine sy_min (h := ?_) | refine sy_max (h := ?_) | refine sy_arrA (h := ?_) | refine sy_strI (h := ?_))
  refine sw_mk (hc := r2) (hX := fun w h => chainR_at h.1.1.1 h.1.1.2) (h := fun v3 X3 h3 => ?_)
  obtain ⟨s3, rfl, hs3⟩ := h3
  refine sw_know (p := s3.n = 0) (fun w h => RowsD.len (hs3 w h.2)) fun hn3 => ?_
  have hsa : ∀ r : SlV, Pu Tryz.prog 60 #[s2.v, r.v] (fun w => Strs w s2 [idA] ∧ Strs w r [idA]) (.bool true) := fun r => by
    have := same21_pu s2 r [idA] [idA]
    rw [show eqL [idA] [idA] = true from by decide +kernel] at this
    exact this
  have m0 := may_pu (chainR bR) exL_ok (by show 3 ≤ _; omega) 0 ⟨#[]⟩
  have m1 := may_pu (chainR bR) exL_ok (by show 3 ≤ _; omega) 1 ⟨#[]⟩
  have m2 := may_pu (chainR bR) exL_ok (by show 3 ≤ _; omega) 1 idA
  have m3 := may_pu (chainR bR) exL_ok (by show 3 ≤ _; omega) 2 idA
  have m4 := may_pu (chainR bR) exL_ok (by show 3 ≤ _; omega) 3 idA
  have m5 := may_pu (chainR bR) exL_ok (by show 3 ≤ _; omega) (-1) idA
  rw [show mayV (chainR bR) 0 ⟨#[]⟩ = true from by kernel_rfl] at m0
  rw [show mayV (chainR bR) 1 ⟨#[]⟩ = false from by kernel_rfl] at m1
  rw [show mayV (chainR bR) 1 idA = true from by kernel_rfl] at m2
  rw [show mayV (chainR bR) 2 idA = false from by kernel_rfl] at m3
  rw [show mayV (chainR bR) 3 idA = false from by kernel_rfl] at m4
  rw [show mayV (chainR bR) (-1) idA = false from by kernel_rfl] at m5
  repeat' (first | refine sy_eqlT (hab := by omega) (h := ?_) | (refine sw_bsl (len := 1) (vs := [encB idA]) (h := fun b3 => ?_); refine sw_give ?_; refine sw_pu (hc := hsa ⟨some ⟨b3, 0, none⟩, 1, 1⟩) (hX := fun w h => ⟨hs2 w h.1.1.2, strs_of_cel (l := [idA]) h.2 (by decide)⟩) (h := ?_)) | apply sw_nil | apply cw_seq | apply cw_reg | refine sy_move (h := ?_) | refine sy_assign (h := ?_) | refine sy_nilCheck (h := ?_) | refine sy_fld (h := ?_) | refine sy_ld (h := ?_) | refine sy_ldAll (h := ?_) | refine sy_pick_t (h := ?_) | refine sy_pick_f (h := ?_) | refine sy_not (h := ?_) | refine sy_eql (h := ?_) | refine sy_neq (h := ?_) | refine sy_lss (h := ?_) | refine sy_leq (h := ?_) | refine sy_gtr (h := ?_) | refine sy_geq (h := ?_) | refine sy_seql (h := ?_) | refine sy_sneq (h := ?_) | refine sy_slen (h := ?_) | refine sy_len (h := ?_) | refine sy_extract (h := ?_) | refine sy_add (h := ?_) | refine sy_sub (h := ?_) | refine sw_skipT (h := ?_) | refine sw_skipF (h := ?_) | refine sw_skipU (h := ?_) | refine sw_alloc (h := fun _ => ?_) | refine sw_box (h := fun _ => ?_) | refine sw_rangeS (h := fun _ => ?_) | refine sw_nextS (h1 := fun _ => ?_) (h2 := fun _ => ?_) | refine sw_bsl (h := fun _ => ?_) | refine sw_st1 (h := ?_) | refine sw_stAll (h := ?_) | refine cw_cond_t (ht := ?_) | refine cw_cond_f (hf := ?_) | apply cw_skip | apply cw_block | apply cw_ret | apply cw_exit | refine sy_and (h := ?_) | refine sy_or (h := ?_) | refine sy_xor (h := ?_) | refine sy_andNot (h := ?_) | refine sy_xorU (h := ?_) | refine sy_shl (h := ?_) | refine sy_shr (h := ?_) | refine sy_mul (h := ?_) | refine sy_int (h := ?_) | refine sy_beql (h := ?_) | refine sy_bneq (h := ?_) | refine sy_min (h := ?_) | refine sy_max (h := ?_) | refine sy_arrA (h := ?_) | refine sy_strI (h := ?_) | (refine sw_pu (hc := m0) (hX := fun w h => chainR_at h.1.1.1.1.1 h.1.1.1.1.2) (h := ?_)) | (refine sw_pu (hc := m1) (hX := fun w h => chainR_at h.1.1.1.1.1 h.1.1.1.1.2) (h := ?_)) | (refine sw_pu (hc := m2) (hX := fun w h => chainR_at h.1.1.1.1.1 h.1.1.1.1.2) (h := ?_)) | (refine sw_pu (hc := m3) (hX := fun w h => chainR_at h.1.1.1.1.1 h.1.1.1.1.2) (h := ?_)) | (refine sw_pu (hc := m4) (hX := fun w h => chainR_at h.1.1.1.1.1 h.1.1.1.1.2) (h := ?_)) | (refine sw_pu (hc := m5) (hX := fun w h => chainR_at h.1.1.1.1.1 h.1.1.1.1.2) (h := ?_)) | ((fail_if_success (refine sw_chk (h := ?_))); refine sw_guard (ht := ?_) (hf := ?_); all_goals (intro hx_; first | have := of_decide_eq_true hx_ | have := of_decide_eq_false hx_ | skip)) | (refine cw_cond (ht := ?_) (hf := ?_); all_goals (intro hx_; first | have := of_decide_eq_true hx_ | have := of_decide_eq_false hx_ | skip)))
  · apply ends_ret; apply res_tmp; rfl; rfl
    rfl
end Go.Proofs.YtcdcfimlikojeaaGreatDoor
