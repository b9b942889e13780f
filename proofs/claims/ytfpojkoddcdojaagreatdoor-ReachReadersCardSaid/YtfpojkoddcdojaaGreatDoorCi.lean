/- Contracts: package circle. -/
import Derived.Test.YtfpojkoddcdojaaGreatDoorRf
set_option linter.unusedVariables false
set_option linter.unusedSimpArgs false
namespace Go.Proofs.YtfpojkoddcdojaaGreatDoor
open Go Go.Proofs Sy
def XC (c : ChainD) (w : World) : Prop := c.at_ w ∧ Glob w
theorem XC.know {c : ChainD} : ∀ w, XC c w → c.acts.n = c.actsL.length ∧ c.acts.n ≤ maxLen ∧ (0 < c.actsL.length → c.acts.p.isSome = true) ∧ c.acts.n ≤ c.acts.c := fun w h => ⟨h.1.len_, h.1.max_, h.1.some_, h.1.cap_⟩
theorem climit_pu (c : ChainD) (n : Int) : Pu Tryz.prog 48 #[c.v, .int .i64 n] (fun _ => True) (.int .i64 (limN n c.acts.n)) := by
  refine pu_of_cw (args := [_, _]) _ Tryz.func48 rfl Tryz.ntmps48 rfl fun av bor w0 => ?_
  repeat' (first | apply sw_nil | apply cw_seq | apply cw_reg | refine sy_move (h := ?_) | refine sy_assign (h := ?_) | refine sy_nilCheck (h := ?_) | refine sy_fld (h := ?_) | refine sy_ld (h := ?_) | refine sy_ldAll (h := ?_) | refine sy_pick_t (h := ?_) | refine sy_pick_f (h := ?_) | refine sy_not (h := ?_) | refine sy_eql (h := ?_) | refine sy_neq (h := ?_) | refine sy_lss (h := ?_) | refine sy_leq (h := ?_) | refine sy_gtr (h := ?_) | refine sy_geq (h := ?_) | refine sy_seql (h := ?_) | refine sy_sneq (h := ?_) | refine sy_slen (h := ?_) | refine sy_len (h := ?_) | refine sy_extract (h := ?_) | refine sy_add (h := ?_) | refine sy_sub (h := ?_) | refine sw_skipT (h := ?_) | refine sw_skipF (h := ?_) | refine sw_skipU (h := ?_) | refine sw_alloc (h := fun _ => ?_) | refine sw_box (h := fun _ => ?_) | refine sw_rangeS (h := fun _ => ?_) | refine sw_nextS (h1 := fun _ => ?_) (h2 := fun _ => ?_) | refine sw_bsl (h := fun _ => ?_) | refine sw_st1 (h := ?_) | refine sw_stAll (h := ?_) | refine cw_cond_t (ht := ?_) | refine cw_cond_f (hf := ?_) | apply cw_skip | apply cw_block | apply cw_ret | apply cw_exit | refine sy_and (h := ?_) | refine sy_or (h := ?_) | refine sy_xor (h := ?_) | refine sy_andNot (h := ?_) | refine sy_xorU (h := ?_) | refine sy_shl (h := ?_) | refine sy_shr (h := ?_) | refine sy_mul (h := ?_) | refine sy_int (h := ?_) | refine sy_beql (h := ?_) | refine sy_bneq (h := ?_) | refine sy_min (h := ?_) | refine sy_max (h := ?_) | refine sy_arrA (h := ?_) | refine sy_strI (h := ?_))
  apply ends_ret; apply res_tmp; rfl; rfl
  congr 1
  unfold limN
  split <;> split <;> omega
def gOk (a : ActD) (sc : Int) (g : ByteArray) (nx : Nat) : Bool := decide (a.kind = 16) && decide (a.scope = sc) && seqB a.group g && decide (a.epoch = (nx : Int))
def grantF (l : List ActD) (sc : Int) (g : ByteArray) : Nat → Nat × Nat
  | 0 => (0, 0)
  | i + 1 => bif gOk (l.getD i ActD.zero) sc g (grantF l sc g i).2 then (i, (grantF l sc g i).2 + 1) else grantF l sc g i
theorem grantF_le (l : List ActD) (sc : Int) (g : ByteArray) : ∀ k, (grantF l sc g k).2 ≤ k ∧ (0 < (grantF l sc g k).2 → (grantF l sc g k).1 < k)
  | 0 => ⟨Nat.le_refl _, fun h => absurd h (Nat.lt_irrefl _)⟩
  | k + 1 => by
    have ih := grantF_le l sc g k
    simp only [grantF]
    cases gOk (l.getD k ActD.zero) sc g (grantF l sc g k).2 with
    | true => exact ⟨by simp only [cond_true]; omega, fun _ => by simp only [cond_true]; omega⟩
    | false => exact ⟨by simp only [cond_false]; omega, fun h => by simp only [cond_false] at h ⊢; have := ih.2 h; omega⟩
def grantV (l : List ActD) (n sc : Int) (g : ByteArray) : Nat × Nat := grantF l sc g (limN n l.length)
theorem cgrant_pu (c : ChainD) (n sc : Int) (g : ByteArray) : Pu Tryz.prog 29 #[c.v, .int .i64 n, .int .i64 sc, .string g] (XC c) (.tuple #[.int .i64 ((grantV c.actsL n sc g).1 : Nat), .bool (decide ((0 : Int) < ((grantV c.actsL n sc g).2 : Nat)))]) := by
  refine pu_of_cw (args := [_, _, _, _]) _ Tryz.func29 rfl Tryz.ntmps29 rfl fun av bor w0 => ?_
  refine cw_know XC.know fun ⟨hl, hm, hp, hcap⟩ => ?_
  simp only [maxLen] at hm
  have hlim := limN_eq n c.acts.n
  repeat' (first | apply sw_nil | apply cw_seq | apply cw_reg | refine sy_move (h := ?_) | refine sy_assign (h := ?_) | refine sy_nilCheck (h := ?_) | refine sy_fld (h := ?_) | refine sy_ld (h := ?_) | refine sy_ldAll (h := ?_) | refine sy_pick_t (h := ?_) | refine sy_pick_f (h := ?_) | refine sy_not (h := ?_) | refine sy_eql (h := ?_) | refine sy_neq (h := ?_) | refine sy_lss (h := ?_) | refine sy_leq (h := ?_) | refine sy_gtr (h := ?_) | refine sy_geq (h := ?_) | refine sy_seql (h := ?_) | refine sy_sneq (h := ?_) | refine sy_slen (h := ?_) | refine sy_len (h := ?_) | refine sy_extract (h := ?_) | refine sy_add (h := ?_) | refine sy_sub (h := ?_) | refine sw_skipT (h := ?_) | refine sw_skipF (h := ?_) | refine sw_skipU (h := ?_) | refine sw_alloc (h := fun _ => ?_) | refine sw_box (h := fun _ => ?_) | refine sw_rangeS (h := fun _ => ?_) | refine sw_nextS (h1 := fun _ => ?_) (h2 := fun _ => ?_) | refine sw_bsl (h := fun _ => ?_) | refine sw_st1 (h := ?_) | refine sw_stAll (h := ?_) | refine cw_cond_t (ht := ?_) | refine cw_cond_f (hf := ?_) | apply cw_skip | apply cw_block | apply cw_ret | apply cw_exit | refine sy_and (h := ?_) | refine sy_or (h := ?_) | refine sy_xor (h := ?_) | refine sy_andNot (h := ?_) | refine sy_xorU (h := ?_) | refine sy_shl (h := ?_) | refine sy_shr (h := ?_) | refine sy_mul (h := ?_) | refine sy_int (h := ?_) | refine sy_beql (h := ?_) | refine sy_bneq (h := ?_) | refine sy_min (h := ?_) | refine sy_max (h := ?_) | refine sy_arrA (h := ?_) | refine sy_strI (h := ?_) | refine sw_pu (hc := climit_pu c n) (h := ?_))
  rename_i b4
  refine cw_loop (ι := Kth (limN n c.acts.n)) (fun i => ⟨[(2, .int .i64 sc), (3, .string g), (4, .pointer (some ⟨b4, 0, none⟩)), (10, .int .i64 ((grantF c.actsL sc g i.k).1 : Nat)), (11, .int .i64 ((grantF c.actsL sc g i.k).2 : Nat)), (16, .int .i64 (limN n c.acts.n)), (17, .int .i64 i.k)], [cel b4 40 c.cells], XC c⟩) (fun i => limN n c.acts.n - i.k) ⟨0, Nat.zero_le _⟩
    (ok_sub ⟨rfl, rfl, rfl, rfl, rfl, rfl, rfl, trivial⟩ (List.Sublist.refl _) fun _ h => h) fun i => ?_
  have hik := i.hk
  have hg := (grantF_le c.actsL sc g i.k).1
  repeat' (first | apply sw_nil | apply cw_seq | apply cw_reg | refine sy_move (h := ?_) | refine sy_assign (h := ?_) | refine sy_nilCheck (h := ?_) | refine sy_fld (h := ?_) | refine sy_ld (h := ?_) | refine sy_ldAll (h := ?_) | refine sy_pick_t (h := ?_) | refine sy_pick_f (h := ?_) | refine sy_not (h := ?_) | refine sy_eql (h := ?_) | refine sy_neq (h := ?_) | refine sy_lss (h := ?_) | refine sy_leq (h := ?_) | refine sy_gtr (h := ?_) | refine sy_geq (h := ?_) | refine sy_seql (h := ?_) | refine sy_sneq (h := ?_) | refine sy_slen (h := ?_) | refine sy_len (h := ?_) | refine sy_extract (h := ?_) | refine sy_add (h := ?_) | refine sy_sub (h := ?_) | refine sw_skipT (h := ?_) | refine sw_skipF (h := ?_) | refine sw_skipU (h := ?_) | refine sw_alloc (h := fun _ => ?_) | refine sw_box (h := fun _ => ?_) | refine sw_rangeS (h := fun _ => ?_) | refine sw_nextS (h1 := fun _ => ?_) (h2 := fun _ => ?_) | refine sw_bsl (h := fun _ => ?_) | refine sw_st1 (h := ?_) | refine sw_stAll (h := ?_) | refine cw_cond_t (ht := ?_) | refine cw_cond_f (hf := ?_) | apply cw_skip | apply cw_block | apply cw_ret | apply cw_exit | refine sy_and (h := ?_) | refine sy_or (h := ?_) | refine sy_xor (h := ?_) | refine sy_andNot (h := ?_) | refine sy_xorU (h := ?_) | refine sy_shl (h := ?_) | refine sy_shr (h := ?_) | refine sy_mul (h := ?_) | refine sy_int (h := ?_) | refine sy_beql (h := ?_) | refine sy_bneq (h := ?_) | refine sy_min (h := ?_) | refine sy_max (h := ?_) | refine sy_arrA (h := ?_) | refine sy_strI (h := ?_) | ((fail_if_success (refine sw_chk (h := ?_))); refine sw_guard (ht := ?_) (hf := ?_); all_goals (intro hx_; first | have := of_decide_eq_true hx_ | have := of_decide_eq_false hx_ | skip)) | (refine cw_cond (ht := ?_) (hf := ?_); all_goals (intro hx_; first | have := of_decide_eq_true hx_ | have := of_decide_eq_false hx_ | skip)))
  · have hlt : i.k < limN n c.acts.n := by omega
    have hltL : i.k < c.actsL.length := by omega
    have hp' := hp (by omega)
    obtain ⟨x, hx⟩ : ∃ x, c.actsL[i.k]? = some x := ⟨_, List.getElem?_eq_getElem hltL⟩
    have hstep : grantF c.actsL sc g (i.k + 1) = bif gOk x sc g (grantF c.actsL sc g i.k).2 then (i.k, (grantF c.actsL sc g i.k).2 + 1) else grantF c.actsL sc g i.k := by simp only [grantF, List.getD_eq_getElem?_getD, hx, Option.getD_some]
    repeat' (first | apply sw_nil | apply cw_seq | apply cw_reg | refine sy_move (h := ?_) | refine sy_assign (h := ?_) | refine sy_nilCheck (h := ?_) | refine sy_fld (h := ?_) | refine sy_ld (h := ?_) | refine sy_ldAll (h := ?_) | refine sy_pick_t (h := ?_) | refine sy_pick_f (h := ?_) | refine sy_not (h := ?_) | refine sy_eql (h := ?_) | refine sy_neq (h := ?_) | refine sy_lss (h := ?_) | refine sy_leq (h := ?_) | refine sy_gtr (h := ?_) | refine sy_geq (h := ?_) | refine sy_seql (h := ?_) | refine sy_sneq (h := ?_) | refine sy_slen (h := ?_) | refine sy_len (h := ?_) | refine sy_extract (h := ?_) | refine sy_add (h := ?_) | refine sy_sub (h := ?_) | refine sw_skipT (h := ?_) | refine sw_skipF (h := ?_) | refine sw_skipU (h := ?_) | refine sw_alloc (h := fun _ => ?_) | refine sw_box (h := fun _ => ?_) | refine sw_rangeS (h := fun _ => ?_) | refine sw_nextS (h1 := fun _ => ?_) (h2 := fun _ => ?_) | refine sw_bsl (h := fun _ => ?_) | refine sw_st1 (h := ?_) | refine sw_stAll (h := ?_) | refine cw_cond_t (ht := ?_) | refine cw_cond_f (hf := ?_) | apply cw_skip | apply cw_block | apply cw_ret | apply cw_exit | refine sy_and (h := ?_) | refine sy_or (h := ?_) | refine sy_xor (h := ?_) | refine sy_andNot (h := ?_) | refine sy_xorU (h := ?_) | refine sy_shl (h := ?_) | refine sy_shr (h := ?_) | refine sy_mul (h := ?_) | refine sy_int (h := ?_) | refine sy_beql (h := ?_) | refine sy_bneq (h := ?_) | refine sy_min (h := ?_) | refine sy_max (h := ?_) | refine sy_arrA (h := ?_) | refine sy_strI (h := ?_) | (refine sy_idxX (q := i.k * 20) (h := ?_)) | (refine sy_ldXs (cs := x.cells) (hF := fun w h => Acts.get h.1 hx) (h := ?_)) | ((fail_if_success (refine sw_chk (h := ?_))); refine sw_guard (ht := ?_) (hf := ?_); all_goals (intro hx_; first | have := of_decide_eq_true hx_ | have := of_decide_eq_false hx_ | skip)) | (refine cw_cond (ht := ?_) (hf := ?_); all_goals (intro hx_; first | have := of_decide_eq_true hx_ | have := of_decide_eq_false hx_ | skip)))
    all_goals exact ⟨(⟨i.k + 1, hlt⟩ : Kth (limN n c.acts.n)), (by show limN n c.acts.n - (i.k + 1) < limN n c.acts.n - i.k; omega), ok_sub (by
      simp only [hstep, gOk, *, decide_true, decide_false, cond_true, cond_false, Bool.and_true, Bool.true_and, Bool.and_false, Bool.false_and, Bool.not_true, Bool.not_false, Bool.or_true, Bool.true_or, Bool.or_false, Bool.false_or]
      exact ⟨rfl, rfl, rfl, rfl, rfl, rfl, rfl, trivial⟩) (List.Sublist.cons _ (List.Sublist.refl _)) fun _ h => h⟩
  have hk : i.k = limN n c.acts.n := by omega
  apply ends_ret; apply res_tmp2; rfl; rfl; rfl
  simp only [grantV, ← hl]
  rw [hk]
def epochO (l : List ActD) (n sc : Int) (g : ByteArray) : Option ActD := bif decide ((0 : Int) < ((grantV l n sc g).2 : Nat)) then l[(grantV l n sc g).1]? else none
def EpochAt (o : Option ActD) (u : Value) (X : World → Prop) : Prop := ∃ s : SlV, u = .tuple #[.int .i64 ((o.map (·.epoch)).getD 0), s.v, .bool o.isSome] ∧ ∀ w, X w → Strs w s ((o.map (·.toL)).getD [])
theorem res_tmp3 {P : Program} {fn : Func} {N t u r : Nat} {s : St} {v x y : Value} (hr : fn.results = #[.tmp t, .tmp u, .tmp r]) (h : Sy.look s.env t = some v) (h' : Sy.look s.env u = some x) (h2 : Sy.look s.env r = some y) : Res1 P fn N s (.tuple #[v, x, y]) := fun av bor w0 a w ok => by
  have h3 := ok.env t v h
  have h4 := ok.env u x h'
  have h5 := ok.env r y h2
  simp [results, hr, h3, h4, h5]
theorem strs_ones (l : List ByteArray) : ∀ cs ∈ strs l, cs.all (·.oneCell') = true := fun cs hcs => by simp only [strs, List.mem_map] at hcs; obtain ⟨x, _, rfl⟩ := hcs; rfl
theorem epoch_mk (c : ChainD) (hc : ActsOk c.actsL) (n sc : Int) (g : ByteArray) : Mk Tryz.prog 26 #[c.v, .int .i64 n, .int .i64 sc, .string g] (XC c) (EpochAt (epochO c.actsL n sc g)) := by
  refine mk_of_cw2 (args := [_, _, _, _]) _ Tryz.func26 rfl Tryz.ntmps26 rfl fun av bor w0 => ?_
  refine cw_know XC.know fun ⟨hl, hm, hp, hcap⟩ => ?_
  simp only [maxLen] at hm
  have hgl := grantF_le c.actsL sc g (limN n c.actsL.length)
  have hlim := limN_eq n c.actsL.length
  have hO : epochO c.actsL n sc g = bif decide ((0 : Int) < ((grantV c.actsL n sc g).2 : Nat)) then c.actsL[(grantV c.actsL n sc g).1]? else none := rfl
  have hgp := cgrant_pu c n sc g
  change (grantV c.actsL n sc g).2 ≤ _ ∧ (0 < (grantV c.actsL n sc g).2 → (grantV c.actsL n sc g).1 < _) at hgl
  generalize grantV c.actsL n sc g = gv at *
  obtain ⟨k, nx⟩ := gv
  simp only at hgl hgp hO
  repeat' (first | apply sw_nil | apply cw_seq | apply cw_reg | refine sy_move (h := ?_) | refine sy_assign (h := ?_) | refine sy_nilCheck (h := ?_) | refine sy_fld (h := ?_) | refine sy_ld (h := ?_) | refine sy_ldAll (h := ?_) | refine sy_pick_t (h := ?_) | refine sy_pick_f (h := ?_) | refine sy_not (h := ?_) | refine sy_eql (h := ?_) | refine sy_neq (h := ?_) | refine sy_lss (h := ?_) | refine sy_leq (h := ?_) | refine sy_gtr (h := ?_) | refine sy_geq (h := ?_) | refine sy_seql (h := ?_) | refine sy_sneq (h := ?_) | refine sy_slen (h := ?_) | refine sy_len (h := ?_) | refine sy_extract (h := ?_) | refine sy_add (h := ?_) | refine sy_sub (h := ?_) | refine sw_skipT (h := ?_) | refine sw_skipF (h := ?_) | refine sw_skipU (h := ?_) | refine sw_alloc (h := fun _ => ?_) | refine sw_box (h := fun _ => ?_) | refine sw_rangeS (h := fun _ => ?_) | refine sw_nextS (h1 := fun _ => ?_) (h2 := fun _ => ?_) | refine sw_bsl (h := fun _ => ?_) | refine sw_st1 (h := ?_) | refine sw_stAll (h := ?_) | refine cw_cond_t (ht := ?_) | refine cw_cond_f (hf := ?_) | apply cw_skip | apply cw_block | apply cw_ret | apply cw_exit | refine sy_and (h := ?_) | refine sy_or (h := ?_) | refine sy_xor (h := ?_) | refine sy_andNot (h := ?_) | refine sy_xorU (h := ?_) | refine sy_shl (h := ?_) | refine sy_shr (h := ?_) | refine sy_mul (h := ?_) | refine sy_int (h := ?_) | refine sy_beql (h := ?_) | refine sy_bneq (h := ?_) | refine sy_min (h := ?_) | refine sy_max (h := ?_) | refine sy_arrA (h := ?_) | refine sy_strI (h := ?_) | refine sw_pu (hc := hgp) (h := ?_) | ((fail_if_success (refine sw_chk (h := ?_))); refine sw_guard (ht := ?_) (hf := ?_); all_goals (intro hx_; first | have := of_decide_eq_true hx_ | have := of_decide_eq_false hx_ | skip)) | (refine cw_cond (ht := ?_) (hf := ?_); all_goals (intro hx_; first | have := of_decide_eq_true hx_ | have := of_decide_eq_false hx_ | skip)))
  · have hz : decide ((0 : Int) < (nx : Nat)) = false := by simpa using hx_
    apply ends_ret
    · apply res_tmp3; rfl; rfl; rfl; rfl
    · rw [hO, hz]
      exact ⟨⟨none, 0, 0⟩, rfl, fun w _ => rowsD_nil w 1⟩
  · have hz : decide ((0 : Int) < (nx : Nat)) = true := by simpa using hx_
    have hnx := of_decide_eq_true hz
    have hkl : k < c.actsL.length := by have := hgl.2 (by omega); omega
    have hp' := hp (by omega)
    obtain ⟨x, hx⟩ : ∃ x, c.actsL[k]? = some x := ⟨_, List.getElem?_eq_getElem hkl⟩
    have hxm : x ∈ c.actsL := List.mem_of_getElem? hx
    (apply cw_draw0; kernel_rfl)
    all_goals (first | refine aw_take 0 (h := ?_) | refine aw_take 0 (hy := by (first | (apply y_fldX; rfl; assumption; rfl))) (h := ?_))
    all_goals (first | refine aw_take 1 (h := ?_) | refine aw_take 1 (hy := by (first | (apply y_ldX; rfl; exact fun w h => (Acts.get h.1 hx).2.2 14 _ rfl) | (apply y_ldX; rfl; exact fun w h => (Acts.get h.1 hx).2.2 9 _ rfl))) (h := ?_))
    all_goals (refine aw_take 2 (h := ?_))
    all_goals (first | refine aw_take 3 (h := ?_) | refine aw_take 3 (hy := by (first | (apply y_idxX (q := k * 20); rfl; rfl; omega; omega; assumption; omega))) (h := ?_))
    all_goals (first | refine aw_take 4 (h := ?_) | refine aw_take 4 (hy := by (first | (apply y_fldX; rfl; assumption; rfl))) (h := ?_))
    all_goals (first | refine aw_take 5 (h := ?_) | refine aw_take 5 (hy := by (first | (apply y_ldX; rfl; exact fun w h => (Acts.get h.1 hx).2.2 14 _ rfl) | (apply y_ldX; rfl; exact fun w h => (Acts.get h.1 hx).2.2 9 _ rfl))) (h := ?_))
    all_goals (first | refine aw_take 6 (h := ?_) | refine aw_take 6 (hy := by (first | (apply y_fldX; rfl; assumption; rfl))) (h := ?_))
    all_goals (first | refine aw_take 7 (h := ?_) | refine aw_take 7 (hy := by (first | (apply y_ldX; rfl; exact fun w h => (Acts.get h.1 hx).2.2 14 _ rfl) | (apply y_ldX; rfl; exact fun w h => (Acts.get h.1 hx).2.2 9 _ rfl))) (h := ?_))
    all_goals (refine aw_take 8 (h := ?_))
    all_goals (first | refine aw_take 9 (h := ?_) | refine aw_take 9 (hy := by (first | (apply y_idxX (q := k * 20); rfl; rfl; omega; omega; assumption; omega))) (h := ?_))
    all_goals (first | refine aw_take 10 (h := ?_) | refine aw_take 10 (hy := by (first | (apply y_fldX; rfl; assumption; rfl))) (h := ?_))
    all_goals (first | refine aw_take 11 (h := ?_) | refine aw_take 11 (hy := by (first | (apply y_ldX; rfl; exact fun w h => (Acts.get h.1 hx).2.2 14 _ rfl) | (apply y_ldX; rfl; exact fun w h => (Acts.get h.1 hx).2.2 9 _ rfl))) (h := ?_))
    all_goals (refine aw_step 12 (h := ?_); (first | (refine sw_mk (hc := cloneS_mk x.to (strs x.toL) (hc.sm x hxm).to (strs_ones _)) (hX := fun w h => (h.1.2 x hxm).1) (h := fun v1 X1 h1 => ?_); obtain ⟨s1, rfl, hn1, hw1⟩ := h1)); apply sw_nil; refine aw_fin (h := ?_))
    all_goals (refine aw_take 13 (h := ?_))
    all_goals (refine aw_take 14 (h := ?_))
    all_goals (refine aw_take 15 (h := ?_))
    all_goals (refine aw_done (h := ?_))
    repeat' (first | apply sw_nil | apply cw_seq | apply cw_reg | refine sy_move (h := ?_) | refine sy_assign (h := ?_) | refine sy_nilCheck (h := ?_) | refine sy_fld (h := ?_) | refine sy_ld (h := ?_) | refine sy_ldAll (h := ?_) | refine sy_pick_t (h := ?_) | refine sy_pick_f (h := ?_) | refine sy_not (h := ?_) | refine sy_eql (h := ?_) | refine sy_neq (h := ?_) | refine sy_lss (h := ?_) | refine sy_leq (h := ?_) | refine sy_gtr (h := ?_) | refine sy_geq (h := ?_) | refine sy_seql (h := ?_) | refine sy_sneq (h := ?_) | refine sy_slen (h := ?_) | refine sy_len (h := ?_) | refine sy_extract (h := ?_) | refine sy_add (h := ?_) | refine sy_sub (h := ?_) | refine sw_skipT (h := ?_) | refine sw_skipF (h := ?_) | refine sw_skipU (h := ?_) | refine sw_alloc (h := fun _ => ?_) | refine sw_box (h := fun _ => ?_) | refine sw_rangeS (h := fun _ => ?_) | refine sw_nextS (h1 := fun _ => ?_) (h2 := fun _ => ?_) | refine sw_bsl (h := fun _ => ?_) | refine sw_st1 (h := ?_) | refine sw_stAll (h := ?_) | refine cw_cond_t (ht := ?_) | refine cw_cond_f (hf := ?_) | apply cw_skip | apply cw_block | apply cw_ret | apply cw_exit | refine sy_and (h := ?_) | refine sy_or (h := ?_) | refine sy_xor (h := ?_) | refine sy_andNot (h := ?_) | refine sy_xorU (h := ?_) | refine sy_shl (h := ?_) | refine sy_shr (h := ?_) | refine sy_mul (h := ?_) | refine sy_int (h := ?_) | refine sy_beql (h := ?_) | refine sy_bneq (h := ?_) | refine sy_min (h := ?_) | refine sy_max (h := ?_) | refine sy_arrA (h := ?_) | refine sy_strI (h := ?_) | ((fail_if_success (refine sw_chk (h := ?_))); refine sw_guard (ht := ?_) (hf := ?_); all_goals (intro hx_; first | have := of_decide_eq_true hx_ | have := of_decide_eq_false hx_ | skip)) | (refine cw_cond (ht := ?_) (hf := ?_); all_goals (intro hx_; first | have := of_decide_eq_true hx_ | have := of_decide_eq_false hx_ | skip)))
    apply ends_ret
    · apply res_tmp3; rfl; rfl; rfl; rfl
    · rw [hO, hz, cond_true, hx]
      exact ⟨s1, rfl, fun w h => hw1 w h.1.2⟩
theorem sortB_ct {e n : Nat} {v : Value} {ss : List ByteArray} (hn : n ≤ 1000000000) : Ct Tryz.prog 51 #[v] [orow e 1 v n (ss.map encB)] (fun _ => True) fun u R _ => u = .tuple #[] ∧ R = [orow e 1 v n ((sortB ss).map encB)] := by
  have h := sortS_c.ct (e := e) (n := n) (v := v) (ss := ss.map bl) hn
  rw [map_encB ss]
  refine h.mono fun u R X' ⟨h1, h2⟩ => ⟨h1, ?_⟩
  rw [h2, map_encStr, sortB]
theorem compB_ct {e n : Nat} {v : Value} {ss : List ByteArray} : Ct Tryz.prog 44 #[v] [orow e 1 v n (ss.map encB)] (fun _ => True) fun u R _ => ∃ A c, u = .slice A (compB ss).length c ∧ R = [orow e 1 u (compB ss).length ((compB ss).map encB)] := by
  have h := compS_c.ct (e := e) (n := n) (v := v) (ss := ss.map bl)
  rw [map_encB ss]
  refine h.mono fun u R X' ⟨A, c, h1, h2⟩ => ⟨A, c, ?_, ?_⟩
  · rw [h1]; simp [compB]
  · rw [h2, map_encStr, compB]; simp
def circF (l : List ActD) (g : ByteArray) : Nat → Option ActD
  | 0 => none
  | i + 1 => bif decide ((l.getD i ActD.zero).kind = 15) && seqB (l.getD i ActD.zero).group g then some (l.getD i ActD.zero) else circF l g i
theorem circF_mem {l : List ActD} {g : ByteArray} : ∀ {k : Nat} {x : ActD}, k ≤ l.length → circF l g k = some x → x ∈ l
  | 0, x, _, h => by cases h
  | k + 1, x, hk, h => by
    simp only [circF] at h
    have h0 : l.getD k ActD.zero ∈ l := by
      rw [List.getD_eq_getElem?_getD, List.getElem?_eq_getElem (by omega)]
      exact List.getElem_mem (by omega)
    cases hb : (decide ((l.getD k ActD.zero).kind = 15) && seqB (l.getD k ActD.zero).group g) with
    | true => rw [hb] at h; simp only [cond_true, Option.some.injEq] at h; exact h ▸ h0
    | false => rw [hb] at h; exact circF_mem (by omega) h
def listOf (c : ChainD) (n sc : Int) (g : ByteArray) (toL : List ByteArray) : List ByteArray :=
  bif decide (sc = 1) then sortB (tieV c.actsL n).a else bif decide (sc = 2) then ((circF c.actsL g (limN n c.actsL.length)).map (·.toL)).getD [] else bif decide (sc = 3) then toL else []
def keepM (c : ChainD) (bs : List ByteArray) (x : ByteArray) : Bool := !seqB x c.id && !hasS bs x
def membersV (c : ChainD) (n sc : Int) (g : ByteArray) (toL : List ByteArray) : List ByteArray := compB (sortB ((listOf c n sc g toL).filter (keepM c (sortB (tieV c.actsL n).b))))
def StrsAt (l : List ByteArray) (u : Value) (X : World → Prop) : Prop := ∃ s : SlV, u = s.v ∧ ∀ w, X w → Strs w s l
structure FilS (m : Nat) where
  k : Nat
  hk : k ≤ m
  A : Option Addr
  c : Nat
theorem filter_succ {p : ByteArray → Bool} (L : List ByteArray) {k : Nat} (h : k < L.length) : (L.take (k + 1)).filter p = (L.take k).filter p ++ (bif p (L.getD k .empty) then [L.getD k .empty] else []) := by
  rw [List.take_add_one, List.filter_append, List.getElem?_eq_getElem h, List.getD_eq_getElem?_getD, List.getElem?_eq_getElem h]
  simp only [Option.toList_some, Option.getD_some, List.filter_cons, List.filter_nil]
  cases p L[k] <;> rfl
end Go.Proofs.YtfpojkoddcdojaaGreatDoor
