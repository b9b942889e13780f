/- Contracts: reach.texts and its closure; reach.Spots. -/
import Derived.Test.YtcdcfimlikojeaaGreatDoorMj
import Derived.Test.YtcdcfimlikojeaaGreatDoorRg
import Derived.Test.YtcdcfimlikojeaaGreatDoorMg
set_option linter.unusedVariables false
set_option linter.unusedSimpArgs false
namespace Go.Proofs.YtcdcfimlikojeaaGreatDoor
open Go Go.Proofs Sy
/-- The indices of the texts of a chain, below n. -/
def textN (c : ChainD) (n : Nat) : List Nat := (List.range n).filter fun i => rtextV c (i : Int)
theorem textN_t {c : ChainD} {n : Nat} (h : rtextV c (n : Int) = true) : textN c (n + 1) = textN c n ++ [n] := by
  rw [textN, List.range_succ, List.filter_append, List.filter_cons, h]
  rfl
theorem textN_f {c : ChainD} {n : Nat} (h : rtextV c (n : Int) = false) : textN c (n + 1) = textN c n := by
  rw [textN, List.range_succ, List.filter_append, List.filter_cons, h]
  simp [textN]
theorem textN_split {c : ChainD} {n m : Nat} (h : n < m) (ht : rtextV c (n : Int) = true) : ∃ suf, textN c m = textN c n ++ n :: suf := by
  obtain ⟨k, rfl⟩ : ∃ k, m = n + 1 + k := ⟨m - (n + 1), by omega⟩
  clear h
  induction k with
  | zero => exact ⟨[], textN_t ht⟩
  | succ k ih =>
    obtain ⟨suf, hs⟩ := ih
    cases hk : rtextV c ((n + 1 + k : Nat) : Int) with
    | true => exact ⟨suf ++ [n + 1 + k], by rw [show n + 1 + (k + 1) = (n + 1 + k) + 1 from rfl, textN_t hk, hs]; simp⟩
    | false => exact ⟨suf, by rw [show n + 1 + (k + 1) = (n + 1 + k) + 1 from rfl, textN_f hk, hs]⟩
def encI (i : Nat) : List Value := [.int .i64 (i : Int)]
/-- The chain's box: it is data. -/
def ChBox (c : ChainD) (b : Nat) (w : World) : Prop := w.heap[b]? = some (.cells c.cells.toArray 30 (0, 0))
theorem ChBox.cell {c : ChainD} {b : Nat} {w : World} (h : ChBox c b w) : ∀ j v, c.cells[j]? = some v → w.cell? ⟨b, j, none⟩ = some v := fun j v hj => by
  simp [World.cell?, show w.heap[b]? = _ from h, hj]
structure TxI (c : ChainD) (Rs : List Nat → List Res → Prop) where
  k : Nat
  hk : k ≤ c.actsL.length
  R : List Res
  hR : Rs (textN c k) R
theorem texts1_it (c : ChainD) (b : Nat) : It Tryz.prog 115 [.pointer (some ⟨b, 0, none⟩)] (fun w => XC c w ∧ ChBox c b w) encI (textN c c.actsL.length) := by
  intro l X Rs hX hY R0 h0
  refine ct_of_cw (args := [_, _]) _ Tryz.func115 rfl Tryz.ntmps115 rfl fun av bor w0 => ?_
  refine cw_know (fun w h => XC.know w (hX w h).1) fun ⟨hl, hm, hp, hcap⟩ => ?_
  simp only [maxLen] at hm
  refine cw_to (st' := ⟨[(1, .pointer (some ⟨b, 0, none⟩)), (0, .func (.yield l) #[] #[])], R0 ++ [], X⟩) (by rw [List.append_nil]; exact ok_sub ⟨rfl, rfl, trivial⟩ (List.Sublist.refl _) fun _ h => h) ?_
  repeat' (first | apply sw_nil | apply cw_seq | apply cw_reg | refine sy_move (h := ?_) | refine sy_assign (h := ?_) | refine sy_nilCheck (h := ?_) | refine sy_fld (h := ?_) | refine sy_ld (h := ?_) | refine sy_ldAll (h := ?_) | refine sy_pick_t (h := ?_) | refine sy_pick_f (h := ?_) | refine sy_not (h := ?_) | refine sy_eql (h := ?_) | refine sy_neq (h := ?_) | refine sy_lss (h := ?_) | refine sy_leq (h := ?_) | refine sy_gtr (h := ?_) | refine sy_geq (h := ?_) | refine sy_seql (h := ?_) | refine sy_sneq (h := ?_) | refine sy_slen (h := ?_) | refine sy_len (h := ?_) | refine sy_extract (h := ?_) | refine sy_add (h := ?_) | refine sy_sub (h := ?_) | refine sw_skipT (h := ?_) | refine sw_skipF (h := ?_) | refine sw_skipU (h := ?_) | refine sw_alloc (h := fun _ => ?_) | refine sw_box (h := fun _ => ?_) | refine sw_rangeS (h := fun _ => ?_) | refine sw_nextS (h1 := fun _ => ?_) (h2 := fun _ => ?_) | refine sw_bsl (h := fun _ => ?_) | refine sw_st1 (h := ?_) | refine sw_stAll (h := ?_) | refine cw_cond_t (ht := ?_) | refine cw_cond_f (hf := ?_) | apply cw_skip | apply cw_block | apply cw_ret | apply cw_exit | refine sy_and (h := ?_) | refine sy_or (h := ?_) | refine sy_xor (h := ?_) | refine sy_andNot (h := ?_) | refine sy_xorU (h := ?_) | refine sy_shl (h := ?_) | refine sy_shr (h := ?_) | refine sy_mul (h := ?_) | refine sy_int (h := ?_) | refine sy_beql (h := ?_) | refine sy_bneq (h := ?_) | refine sy_min (h := ?_) | refine sy_max (h := ?_) | refine sy_arrA (h := ?_) | refine sy_strI (h := ?_) | (refine sy_ldC (v := c.acts.v) (hF := fun w h => (hX w h).2.cell 1 _ rfl) (h := ?_)) | ((fail_if_success (refine sw_chk (h := ?_))); refine sw_guard (ht := ?_) (hf := ?_); all_goals (intro hx_; first | have := of_decide_eq_true hx_ | have := of_decide_eq_false hx_ | skip)) | (refine cw_cond (ht := ?_) (hf := ?_); all_goals (intro hx_; first | have := of_decide_eq_true hx_ | have := of_decide_eq_false hx_ | skip)))
  refine cw_loop (ι := TxI c Rs) (fun i => ⟨[(0, .func (.yield l) #[] #[]), (1, .pointer (some ⟨b, 0, none⟩)), (6, .int .i64 c.acts.n), (7, .int .i64 i.k)], i.R ++ [], X⟩) (fun i => c.actsL.length - i.k) ⟨0, Nat.zero_le _, R0, h0⟩
    (ok_sub ⟨rfl, rfl, rfl, rfl, trivial⟩ (List.Sublist.refl _) fun _ h => h) fun i => ?_
  have hik := i.hk
  have hte := rtext_pu c (i.k : Int)
  cases ht : rtextV c (i.k : Int) with
  | false =>
    rw [ht] at hte
    repeat' (first | (refine cw_regv ?_; refine sv_pre (pre := [_, _, _, _, _, _]) (rest := [_, _, _]) rfl ?_) | apply sw_nil | apply cw_seq | apply cw_reg | refine sy_move (h := ?_) | refine sy_assign (h := ?_) | refine sy_nilCheck (h := ?_) | refine sy_fld (h := ?_) | refine sy_ld (h := ?_) | refine sy_ldAll (h := ?_) | refine sy_pick_t (h := ?_) | refine sy_pick_f (h := ?_) | refine sy_not (h := ?_) | refine sy_eql (h := ?_) | refine sy_neq (h := ?_) | refine sy_lss (h := ?_) | refine sy_leq (h := ?_) | refine sy_gtr (h := ?_) | refine sy_geq (h := ?_) | refine sy_seql (h := ?_) | refine sy_sneq (h := ?_) | refine sy_slen (h := ?_) | refine sy_len (h := ?_) | refine sy_extract (h := ?_) | refine sy_add (h := ?_) | refine sy_sub (h := ?_) | refine sw_skipT (h := ?_) | refine sw_skipF (h := ?_) | refine sw_skipU (h := ?_) | refine sw_alloc (h := fun _ => ?_) | refine sw_box (h := fun _ => ?_) | refine sw_rangeS (h := fun _ => ?_) | refine sw_nextS (h1 := fun _ => ?_) (h2 := fun _ => ?_) | refine sw_bsl (h := fun _ => ?_) | refine sw_st1 (h := ?_) | refine sw_stAll (h := ?_) | refine cw_cond_t (ht := ?_) | refine cw_cond_f (hf := ?_) | apply cw_skip | apply cw_block | apply cw_ret | apply cw_exit | refine sy_and (h := ?_) | refine sy_or (h := ?_) | refine sy_xor (h := ?_) | refine sy_andNot (h := ?_) | refine sy_xorU (h := ?_) | refine sy_shl (h := ?_) | refine sy_shr (h := ?_) | refine sy_mul (h := ?_) | refine sy_int (h := ?_) | refine sy_beql (h := ?_) | refine sy_bneq (h := ?_) | refine sy_min (h := ?_) | refine sy_max (h := ?_) | refine sy_arrA (h := ?_) | refine sy_strI (h := ?_) | (refine sy_ldCs (cs := c.cells) (hF := fun w h => (hX w h).2.cell) (hl := rfl) (h := ?_)) | (refine sw_pu (hc := hte) (hX := fun w h => (hX w h).1) (h := ?_)) | (refine sv_of_sw rfl ?_) | ((fail_if_success (refine sw_chk (h := ?_))); refine sw_guard (ht := ?_) (hf := ?_); all_goals (intro hx_; first | have := of_decide_eq_true hx_ | have := of_decide_eq_false hx_ | skip)) | (refine cw_cond (ht := ?_) (hf := ?_); all_goals (intro hx_; first | have := of_decide_eq_true hx_ | have := of_decide_eq_false hx_ | skip)))
    · have hlt : i.k < c.actsL.length := by omega
      exact ⟨⟨i.k + 1, hlt, i.R, by rw [textN_f ht]; exact i.hR⟩, (by show c.actsL.length - (i.k + 1) < c.actsL.length - i.k; omega), ok_sub ⟨rfl, rfl, rfl, rfl, trivial⟩ (List.Sublist.refl _) fun _ h => h⟩
    · have hk : i.k = c.actsL.length := by omega
      refine ends_end (res_none rfl) ?_
      rw [← hk]
      simpa using i.hR
  | true =>
    rw [ht] at hte
    repeat' (first | (refine cw_regv ?_; refine sv_pre (pre := [_, _, _, _, _, _]) (rest := [_, _, _]) rfl ?_) | apply sw_nil | apply cw_seq | apply cw_reg | refine sy_move (h := ?_) | refine sy_assign (h := ?_) | refine sy_nilCheck (h := ?_) | refine sy_fld (h := ?_) | refine sy_ld (h := ?_) | refine sy_ldAll (h := ?_) | refine sy_pick_t (h := ?_) | refine sy_pick_f (h := ?_) | refine sy_not (h := ?_) | refine sy_eql (h := ?_) | refine sy_neq (h := ?_) | refine sy_lss (h := ?_) | refine sy_leq (h := ?_) | refine sy_gtr (h := ?_) | refine sy_geq (h := ?_) | refine sy_seql (h := ?_) | refine sy_sneq (h := ?_) | refine sy_slen (h := ?_) | refine sy_len (h := ?_) | refine sy_extract (h := ?_) | refine sy_add (h := ?_) | refine sy_sub (h := ?_) | refine sw_skipT (h := ?_) | refine sw_skipF (h := ?_) | refine sw_skipU (h := ?_) | refine sw_alloc (h := fun _ => ?_) | refine sw_box (h := fun _ => ?_) | refine sw_rangeS (h := fun _ => ?_) | refine sw_nextS (h1 := fun _ => ?_) (h2 := fun _ => ?_) | refine sw_bsl (h := fun _ => ?_) | refine sw_st1 (h := ?_) | refine sw_stAll (h := ?_) | refine cw_cond_t (ht := ?_) | refine cw_cond_f (hf := ?_) | apply cw_skip | apply cw_block | apply cw_ret | apply cw_exit | refine sy_and (h := ?_) | refine sy_or (h := ?_) | refine sy_xor (h := ?_) | refine sy_andNot (h := ?_) | refine sy_xorU (h := ?_) | refine sy_shl (h := ?_) | refine sy_shr (h := ?_) | refine sy_mul (h := ?_) | refine sy_int (h := ?_) | refine sy_beql (h := ?_) | refine sy_bneq (h := ?_) | refine sy_min (h := ?_) | refine sy_max (h := ?_) | refine sy_arrA (h := ?_) | refine sy_strI (h := ?_) | (refine sy_ldCs (cs := c.cells) (hF := fun w h => (hX w h).2.cell) (hl := rfl) (h := ?_)) | (refine sw_pu (hc := hte) (hX := fun w h => (hX w h).1) (h := ?_)) | ((fail_if_success (refine sw_chk (h := ?_))); refine sw_guard (ht := ?_) (hf := ?_); all_goals (intro hx_; first | have := of_decide_eq_true hx_ | have := of_decide_eq_false hx_ | skip)) | (refine cw_cond (ht := ?_) (hf := ?_); all_goals (intro hx_; first | have := of_decide_eq_true hx_ | have := of_decide_eq_false hx_ | skip)))
    · have hlt : i.k < c.actsL.length := by omega
      obtain ⟨suf, hsuf⟩ := textN_split hlt ht
      refine sv_call (pre := i.R) (fr := []) rfl rfl rfl rfl rfl (hY _ _ _ _ hsuf i.hR) (fun _ h => h) fun v R' X' hv => ?_
      obtain ⟨rfl, hR'⟩ := hv
      refine sv_of_sw rfl ?_
      repeat' (first | apply sw_nil | apply cw_seq | apply cw_reg | refine sy_move (h := ?_) | refine sy_assign (h := ?_) | refine sy_nilCheck (h := ?_) | refine sy_fld (h := ?_) | refine sy_ld (h := ?_) | refine sy_ldAll (h := ?_) | refine sy_pick_t (h := ?_) | refine sy_pick_f (h := ?_) | refine sy_not (h := ?_) | refine sy_eql (h := ?_) | refine sy_neq (h := ?_) | refine sy_lss (h := ?_) | refine sy_leq (h := ?_) | refine sy_gtr (h := ?_) | refine sy_geq (h := ?_) | refine sy_seql (h := ?_) | refine sy_sneq (h := ?_) | refine sy_slen (h := ?_) | refine sy_len (h := ?_) | refine sy_extract (h := ?_) | refine sy_add (h := ?_) | refine sy_sub (h := ?_) | refine sw_skipT (h := ?_) | refine sw_skipF (h := ?_) | refine sw_skipU (h := ?_) | refine sw_alloc (h := fun _ => ?_) | refine sw_box (h := fun _ => ?_) | refine sw_rangeS (h := fun _ => ?_) | refine sw_nextS (h1 := fun _ => ?_) (h2 := fun _ => ?_) | refine sw_bsl (h := fun _ => ?_) | refine sw_st1 (h := ?_) | refine sw_stAll (h := ?_) | refine cw_cond_t (ht := ?_) | refine cw_cond_f (hf := ?_) | apply cw_skip | apply cw_block | apply cw_ret | apply cw_exit | refine sy_and (h := ?_) | refine sy_or (h := ?_) | refine sy_xor (h := ?_) | refine sy_andNot (h := ?_) | refine sy_xorU (h := ?_) | refine sy_shl (h := ?_) | refine sy_shr (h := ?_) | refine sy_mul (h := ?_) | refine sy_int (h := ?_) | refine sy_beql (h := ?_) | refine sy_bneq (h := ?_) | refine sy_min (h := ?_) | refine sy_max (h := ?_) | refine sy_arrA (h := ?_) | refine sy_strI (h := ?_) | ((fail_if_success (refine sw_chk (h := ?_))); refine sw_guard (ht := ?_) (hf := ?_); all_goals (intro hx_; first | have := of_decide_eq_true hx_ | have := of_decide_eq_false hx_ | skip)) | (refine cw_cond (ht := ?_) (hf := ?_); all_goals (intro hx_; first | have := of_decide_eq_true hx_ | have := of_decide_eq_false hx_ | skip)))
      exact ⟨⟨i.k + 1, hlt, R', by rw [textN_t ht]; exact hR'⟩, (by show c.actsL.length - (i.k + 1) < c.actsL.length - i.k; omega), ok_sub ⟨rfl, rfl, rfl, rfl, trivial⟩ (List.Sublist.refl _) fun _ h => h.1⟩
    · have hk : i.k = c.actsL.length := by omega
      refine ends_end (res_none rfl) ?_
      rw [← hk]
      simpa using i.hR

/-! ### Spots -/
structure SpotD where
  id : ByteArray
  n : Nat
def SpotD.cells (x : SpotD) : List Value := [.string x.id, .int .i64 (x.n : Int)]
def SpotD.v (x : SpotD) : Value := .agg x.cells.toArray
def Spots (w : World) (s : SlV) (l : List SpotD) : Prop := RowsD w 2 s (l.map SpotD.cells)
def spotN (c : ChainD) (r : ByteArray) (n : Nat) : List Nat := (List.range n).filter fun i => mayV c (i : Int) r
def spotL (c : ChainD) (r : ByteArray) : List SpotD := (spotN c r c.actsL.length).map (SpotD.mk c.id)
def spotsV (l : List ChainD) (r : ByteArray) : List SpotD := l.flatMap fun c => spotL c r
def spotF (c : ChainD) (r : ByteArray) (pre : List Nat) : List SpotD := (pre.filter fun (i : Nat) => mayV c (i : Int) r).map (SpotD.mk c.id)
theorem spotF_all (c : ChainD) (r : ByteArray) : spotF c r (textN c c.actsL.length) = spotL c r := by
  rw [spotF, textN, List.filter_filter, spotL, spotN]
  congr 2
  funext i
  cases h : mayV c (i : Int) r with
  | false => rfl
  | true =>
    rw [mayV, Bool.and_eq_true] at h
    rw [h.1]
    rfl
def spotCs (l : List SpotD) : List Value := (l.map SpotD.cells).flatten
theorem texts_mk (c : ChainD) : Mk Tryz.prog 62 #[c.v] (fun _ => True) fun u X' => ∃ b, u = .func (.func 115) #[] #[.pointer (some ⟨b, 0, none⟩)] ∧ ∀ w, X' w → ChBox c b w := by
  refine mk_of_cw2 (args := [_]) _ Tryz.func62 rfl Tryz.ntmps62 rfl fun av bor w0 => ?_
  repeat' (first | apply sw_nil | apply cw_seq | apply cw_reg | refine sy_move (h := ?_) | refine sy_assign (h := ?_) | refine sy_nilCheck (h := ?_) | refine sy_fld (h := ?_) | refine sy_ld (h := ?_) | refine sy_ldAll (h := ?_) | refine sy_pick_t (h := ?_) | refine sy_pick_f (h := ?_) | refine sy_not (h := ?_) | refine sy_eql (h := ?_) | refine sy_neq (h := ?_) | refine sy_lss (h := ?_) | refine sy_leq (h := ?_) | refine sy_gtr (h := ?_) | refine sy_geq (h := ?_) | refine sy_seql (h := ?_) | refine sy_sneq (h := ?_) | refine sy_slen (h := ?_) | refine sy_len (h := ?_) | refine sy_extract (h := ?_) | refine sy_add (h := ?_) | refine sy_sub (h := ?_) | refine sw_skipT (h := ?_) | refine sw_skipF (h := ?_) | refine sw_skipU (h := ?_) | refine sw_alloc (h := fun _ => ?_) | refine sw_box (h := fun _ => ?_) | refine sw_rangeS (h := fun _ => ?_) | refine sw_nextS (h1 := fun _ => ?_) (h2 := fun _ => ?_) | refine sw_bsl (h := fun _ => ?_) | refine sw_st1 (h := ?_) | refine sw_stAll (h := ?_) | refine cw_cond_t (ht := ?_) | refine cw_cond_f (hf := ?_) | apply cw_skip | apply cw_block | apply cw_ret | apply cw_exit | refine sy_and (h := ?_) | refine sy_or (h := ?_) | refine sy_xor (h := ?_) | refine sy_andNot (h := ?_) | refine sy_xorU (h := ?_) | refine sy_shl (h := ?_) | refine sy_shr (h := ?_) | refine sy_mul (h := ?_) | refine sy_int (h := ?_) | refine sy_beql (h := ?_) | refine sy_bneq (h := ?_) | refine sy_min (h := ?_) | refine sy_max (h := ?_) | refine sy_arrA (h := ?_) | refine sy_strI (h := ?_) | (refine sy_makeFunc (h := ?_)) | ((fail_if_success (refine sw_chk (h := ?_))); refine sw_guard (ht := ?_) (hf := ?_); all_goals (intro hx_; first | have := of_decide_eq_true hx_ | have := of_decide_eq_false hx_ | skip)) | (refine cw_cond (ht := ?_) (hf := ?_); all_goals (intro hx_; first | have := of_decide_eq_true hx_ | have := of_decide_eq_false hx_ | skip)))
  exact ends_ret (res_tmp rfl rfl) ⟨_, rfl, fun w h => h.2 _ List.mem_cons_self⟩
theorem spotF_t {c : ChainD} {r : ByteArray} {pre : List Nat} {x : Nat} (h : mayV c (x : Int) r = true) : spotF c r (pre ++ [x]) = spotF c r pre ++ [⟨c.id, x⟩] := by
  simp [spotF, List.filter_append, List.filter_cons, h]
theorem spotF_f {c : ChainD} {r : ByteArray} {pre : List Nat} {x : Nat} (h : mayV c (x : Int) r = false) : spotF c r (pre ++ [x]) = spotF c r pre := by
  simp [spotF, List.filter_append, List.filter_cons, h]
theorem spotF_le (c : ChainD) (r : ByteArray) (pre : List Nat) : (spotF c r pre).length ≤ pre.length := by
  rw [spotF, List.length_map]
  exact List.length_filter_le _ _
theorem textN_pre {c : ChainD} {pre suf : List Nat} {x n : Nat} (h : textN c n = pre ++ x :: suf) : pre.length < n := by
  have h1 := List.length_filter_le (fun i : Nat => rtextV c (i : Int)) (List.range n)
  rw [List.length_range] at h1
  have h2 : (textN c n).length = pre.length + (suf.length + 1) := by rw [h]; simp
  rw [textN] at h2
  omega
structure SpI (l : List ChainD) (r : ByteArray) where
  k : Nat
  hk : k ≤ l.length
  xs : List SpotD
  hxs : xs = spotsV (l.take k) r
  hx : xs.length ≤ 1000 * k
  A : Option Addr
  c : Nat
set_option maxHeartbeats 4000000 in
theorem spots_mk (s : SlV) (l : List ChainD) (r : ByteArray) (hl : l.length ≤ 1000) (hok : ∀ c ∈ l, ActsOk c.actsL ∧ c.actsL.length ≤ 1000) :
    Mk Tryz.prog 14 #[s.v, .string r] (fun w => Chains w s l ∧ Glob w) fun u X' => ∃ so : SlV, u = so.v ∧ ∀ w, X' w → Spots w so (spotsV l r) := by
  refine mk_of_cw2 (args := [_, _]) _ Tryz.func14 rfl Tryz.ntmps14 rfl fun av bor w0 => ?_
  refine cw_know (p := s.n = l.length ∧ s.n ≤ maxLen ∧ (0 < l.length → s.p.isSome = true)) (fun w h => ⟨h.1.len_, h.1.max_, h.1.some_⟩) fun ⟨hsl, hm, hp⟩ => ?_
  simp only [maxLen] at hm
  refine cw_nilRow 42 2 ?_
  repeat' (first | apply sw_nil | apply cw_seq | apply cw_reg | refine sy_move (h := ?_) | refine sy_assign (h := ?_) | refine sy_nilCheck (h := ?_) | refine sy_fld (h := ?_) | refine sy_ld (h := ?_) | refine sy_ldAll (h := ?_) | refine sy_pick_t (h := ?_) | refine sy_pick_f (h := ?_) | refine sy_not (h := ?_) | refine sy_eql (h := ?_) | refine sy_neq (h := ?_) | refine sy_lss (h := ?_) | refine sy_leq (h := ?_) | refine sy_gtr (h := ?_) | refine sy_geq (h := ?_) | refine sy_seql (h := ?_) | refine sy_sneq (h := ?_) | refine sy_slen (h := ?_) | refine sy_len (h := ?_) | refine sy_extract (h := ?_) | refine sy_add (h := ?_) | refine sy_sub (h := ?_) | refine sw_skipT (h := ?_) | refine sw_skipF (h := ?_) | refine sw_skipU (h := ?_) | refine sw_alloc (h := fun _ => ?_) | refine sw_box (h := fun _ => ?_) | refine sw_rangeS (h := fun _ => ?_) | refine sw_nextS (h1 := fun _ => ?_) (h2 := fun _ => ?_) | refine sw_bsl (h := fun _ => ?_) | refine sw_st1 (h := ?_) | refine sw_stAll (h := ?_) | refine cw_cond_t (ht := ?_) | refine cw_cond_f (hf := ?_) | apply cw_skip | apply cw_block | apply cw_ret | apply cw_exit | refine sy_and (h := ?_) | refine sy_or (h := ?_) | refine sy_xor (h := ?_) | refine sy_andNot (h := ?_) | refine sy_xorU (h := ?_) | refine sy_shl (h := ?_) | refine sy_shr (h := ?_) | refine sy_mul (h := ?_) | refine sy_int (h := ?_) | refine sy_beql (h := ?_) | refine sy_bneq (h := ?_) | refine sy_min (h := ?_) | refine sy_max (h := ?_) | refine sy_arrA (h := ?_) | refine sy_strI (h := ?_) | ((fail_if_success (refine sw_chk (h := ?_))); refine sw_guard (ht := ?_) (hf := ?_); all_goals (intro hx_; first | have := of_decide_eq_true hx_ | have := of_decide_eq_false hx_ | skip)) | (refine cw_cond (ht := ?_) (hf := ?_); all_goals (intro hx_; first | have := of_decide_eq_true hx_ | have := of_decide_eq_false hx_ | skip)))
  rename_i b3 b5
  refine cw_loop (ι := SpI l r) (fun i => ⟨[(3, .pointer (some ⟨b3, 0, none⟩)), (5, .pointer (some ⟨b5, 0, none⟩)), (9, s.v), (10, .int .i64 s.n), (11, .int .i64 i.k)],
    [cel b5 25 [.slice i.A i.xs.length i.c], cel b3 9 [.string r], orow 42 2 (.slice i.A i.xs.length i.c) i.xs.length (spotCs i.xs)], fun w => Chains w s l ∧ Glob w⟩) (fun i => l.length - i.k) ⟨0, Nat.zero_le _, [], by simp [spotsV], by simp, none, 0⟩
    (ok_sub ⟨rfl, rfl, rfl, rfl, rfl, trivial⟩ (List.Sublist.refl _) fun _ h => h) fun i => ?_
  have hik := i.hk
  have hix := i.hx
  repeat' (first | apply sw_nil | apply cw_seq | apply cw_reg | refine sy_move (h := ?_) | refine sy_assign (h := ?_) | refine sy_nilCheck (h := ?_) | refine sy_fld (h := ?_) | refine sy_ld (h := ?_) | refine sy_ldAll (h := ?_) | refine sy_pick_t (h := ?_) | refine sy_pick_f (h := ?_) | refine sy_not (h := ?_) | refine sy_eql (h := ?_) | refine sy_neq (h := ?_) | refine sy_lss (h := ?_) | refine sy_leq (h := ?_) | refine sy_gtr (h := ?_) | refine sy_geq (h := ?_) | refine sy_seql (h := ?_) | refine sy_sneq (h := ?_) | refine sy_slen (h := ?_) | refine sy_len (h := ?_) | refine sy_extract (h := ?_) | refine sy_add (h := ?_) | refine sy_sub (h := ?_) | refine sw_skipT (h := ?_) | refine sw_skipF (h := ?_) | refine sw_skipU (h := ?_) | refine sw_alloc (h := fun _ => ?_) | refine sw_box (h := fun _ => ?_) | refine sw_rangeS (h := fun _ => ?_) | refine sw_nextS (h1 := fun _ => ?_) (h2 := fun _ => ?_) | refine sw_bsl (h := fun _ => ?_) | refine sw_st1 (h := ?_) | refine sw_stAll (h := ?_) | refine cw_cond_t (ht := ?_) | refine cw_cond_f (hf := ?_) | apply cw_skip | apply cw_block | apply cw_ret | apply cw_exit | refine sy_and (h := ?_) | refine sy_or (h := ?_) | refine sy_xor (h := ?_) | refine sy_andNot (h := ?_) | refine sy_xorU (h := ?_) | refine sy_shl (h := ?_) | refine sy_shr (h := ?_) | refine sy_mul (h := ?_) | refine sy_int (h := ?_) | refine sy_beql (h := ?_) | refine sy_bneq (h := ?_) | refine sy_min (h := ?_) | refine sy_max (h := ?_) | refine sy_arrA (h := ?_) | refine sy_strI (h := ?_) | ((fail_if_success (refine sw_chk (h := ?_))); refine sw_guard (ht := ?_) (hf := ?_); all_goals (intro hx_; first | have := of_decide_eq_true hx_ | have := of_decide_eq_false hx_ | skip)) | (refine cw_cond (ht := ?_) (hf := ?_); all_goals (intro hx_; first | have := of_decide_eq_true hx_ | have := of_decide_eq_false hx_ | skip)))
  · have hlt : i.k < l.length := by omega
    have hp' := hp (by omega)
    obtain ⟨c, hc⟩ : ∃ c, l[i.k]? = some c := ⟨_, List.getElem?_eq_getElem hlt⟩
    have hcm := List.mem_of_getElem? hc
    obtain ⟨hca, hcl⟩ := hok c hcm
    repeat' (first | apply sw_nil | apply cw_seq | apply cw_reg | refine sy_move (h := ?_) | refine sy_assign (h := ?_) | refine sy_nilCheck (h := ?_) | refine sy_fld (h := ?_) | refine sy_ld (h := ?_) | refine sy_ldAll (h := ?_) | refine sy_pick_t (h := ?_) | refine sy_pick_f (h := ?_) | refine sy_not (h := ?_) | refine sy_eql (h := ?_) | refine sy_neq (h := ?_) | refine sy_lss (h := ?_) | refine sy_leq (h := ?_) | refine sy_gtr (h := ?_) | refine sy_geq (h := ?_) | refine sy_seql (h := ?_) | refine sy_sneq (h := ?_) | refine sy_slen (h := ?_) | refine sy_len (h := ?_) | refine sy_extract (h := ?_) | refine sy_add (h := ?_) | refine sy_sub (h := ?_) | refine sw_skipT (h := ?_) | refine sw_skipF (h := ?_) | refine sw_skipU (h := ?_) | refine sw_alloc (h := fun _ => ?_) | refine sw_box (h := fun _ => ?_) | refine sw_rangeS (h := fun _ => ?_) | refine sw_nextS (h1 := fun _ => ?_) (h2 := fun _ => ?_) | refine sw_bsl (h := fun _ => ?_) | refine sw_st1 (h := ?_) | refine sw_stAll (h := ?_) | refine cw_cond_t (ht := ?_) | refine cw_cond_f (hf := ?_) | apply cw_skip | apply cw_block | apply cw_ret | apply cw_exit | refine sy_and (h := ?_) | refine sy_or (h := ?_) | refine sy_xor (h := ?_) | refine sy_andNot (h := ?_) | refine sy_xorU (h := ?_) | refine sy_shl (h := ?_) | refine sy_shr (h := ?_) | refine sy_mul (h := ?_) | refine sy_int (h := ?_) | refine sy_beql (h := ?_) | refine sy_bneq (h := ?_) | refine sy_min (h := ?_) | refine sy_max (h := ?_) | refine sy_arrA (h := ?_) | refine sy_strI (h := ?_) | (refine sy_idxX (q := i.k * 6) (h := ?_)) | (refine sy_ldXs (cs := c.cells) (hF := fun w h => Chains.get h.1 hc) (h := ?_)) | (refine sw_mk (hc := texts_mk c) (hX := fun w h => trivial) (h := fun v1 X1 h1 => ?_); obtain ⟨b, rfl, hb⟩ := h1) | ((fail_if_success (refine sw_chk (h := ?_))); refine sw_guard (ht := ?_) (hf := ?_); all_goals (intro hx_; first | have := of_decide_eq_true hx_ | have := of_decide_eq_false hx_ | skip)) | (refine cw_cond (ht := ?_) (hf := ?_); all_goals (intro hx_; first | have := of_decide_eq_true hx_ | have := of_decide_eq_false hx_ | skip)))
    rename_i b7
    refine cw_range (ps := [17]) (xs := textN c c.actsL.length) (enc := encI) (X1 := fun w => XC c w ∧ ChBox c b w) rfl inferInstance (texts1_it c b) (fun w h => ⟨⟨h.1.1.2 c hcm, h.1.2⟩, hb w h.2⟩) (fun _ => rfl) rfl
      (fun pre loc1 => ∃ A q, loc1 = [cel b7 30 c.cells, cel b5 25 [.slice A (i.xs ++ spotF c r pre).length q], cel b3 9 [.string r], orow 42 2 (.slice A (i.xs ++ spotF c r pre).length q) (i.xs ++ spotF c r pre).length (spotCs (i.xs ++ spotF c r pre))])
      ⟨i.A, i.c, by simp [spotF]⟩ ?_ ?_
    · rintro lo pre x suf loc1 hsp ⟨A, q, rfl⟩ av bor w0
      have hpx := textN_pre hsp
      have hfl := spotF_le c r pre
      have hma := may_pu c hca (by omega) (x : Int) r
      have hlen : (i.xs ++ spotF c r pre).length = i.xs.length + (spotF c r pre).length := List.length_append
      repeat' (first | apply sw_nil | apply Rd.cw_seq | refine Rd.cw_reg (h := ?_) | refine sy_move (h := ?_) | refine sy_assign (h := ?_) | refine sy_nilCheck (h := ?_) | refine sy_fld (h := ?_) | refine sy_ld (h := ?_) | refine sy_ldAll (h := ?_) | refine sy_pick_t (h := ?_) | refine sy_pick_f (h := ?_) | refine sy_not (h := ?_) | refine sy_eql (h := ?_) | refine sy_neq (h := ?_) | refine sy_lss (h := ?_) | refine sy_leq (h := ?_) | refine sy_gtr (h := ?_) | refine sy_geq (h := ?_) | refine sy_seql (h := ?_) | refine sy_sneq (h := ?_) | refine sy_slen (h := ?_) | refine sy_len (h := ?_) | refine sy_extract (h := ?_) | refine sy_add (h := ?_) | refine sy_sub (h := ?_) | refine sw_skipT (h := ?_) | refine sw_skipF (h := ?_) | refine sw_skipU (h := ?_) | refine sw_alloc (h := fun _ => ?_) | refine sw_box (h := fun _ => ?_) | refine sw_rangeS (h := fun _ => ?_) | refine sw_nextS (h1 := fun _ => ?_) (h2 := fun _ => ?_) | refine sw_bsl (h := fun _ => ?_) | refine sw_st1 (h := ?_) | refine sw_stAll (h := ?_) | refine Rd.cw_cond_t (ht := ?_) | refine Rd.cw_cond_f (hf := ?_) | apply Rd.cw_skip | apply Rd.cw_block | apply Rd.cw_ret | apply Rd.cw_exit | refine sy_and (h := ?_) | refine sy_or (h := ?_) | refine sy_xor (h := ?_) | refine sy_andNot (h := ?_) | refine sy_xorU (h := ?_) | refine sy_shl (h := ?_) | refine sy_shr (h := ?_) | refine sy_mul (h := ?_) | refine sy_int (h := ?_) | refine sy_beql (h := ?_) | refine sy_bneq (h := ?_) | refine sy_min (h := ?_) | refine sy_max (h := ?_) | refine sy_arrA (h := ?_) | refine sy_strI (h := ?_))
      intro av bor w0
      cases hmv : mayV c (x : Int) r with
      | true =>
        rw [hmv] at hma
        rw [spotF_t hmv]
        generalize hys : i.xs ++ spotF c r pre = ys at *
        repeat' (first | refine sw_bslS (size := 2) (vs := [SpotD.v ⟨c.id, x⟩]) (css := SpotD.cells ⟨c.id, x⟩) (hsz := by rfl) (hcs := by rfl) (h := fun _ => ?_) | apply sw_nil | apply Rd.cw_seq | refine Rd.cw_reg (h := ?_) | refine sy_move (h := ?_) | refine sy_assign (h := ?_) | refine sy_nilCheck (h := ?_) | refine sy_fld (h := ?_) | refine sy_ld (h := ?_) | refine sy_ldAll (h := ?_) | refine sy_pick_t (h := ?_) | refine sy_pick_f (h := ?_) | refine sy_not (h := ?_) | refine sy_eql (h := ?_) | refine sy_neq (h := ?_) | refine sy_lss (h := ?_) | refine sy_leq (h := ?_) | refine sy_gtr (h := ?_) | refine sy_geq (h := ?_) | refine sy_seql (h := ?_) | refine sy_sneq (h := ?_) | refine sy_slen (h := ?_) | refine sy_len (h := ?_) | refine sy_extract (h := ?_) | refine sy_add (h := ?_) | refine sy_sub (h := ?_) | refine sw_skipT (h := ?_) | refine sw_skipF (h := ?_) | refine sw_skipU (h := ?_) | refine sw_alloc (h := fun _ => ?_) | refine sw_box (h := fun _ => ?_) | refine sw_rangeS (h := fun _ => ?_) | refine sw_nextS (h1 := fun _ => ?_) (h2 := fun _ => ?_) | refine sw_bsl (h := fun _ => ?_) | refine sw_st1 (h := ?_) | refine sw_stAll (h := ?_) | refine Rd.cw_cond_t (ht := ?_) | refine Rd.cw_cond_f (hf := ?_) | apply Rd.cw_skip | apply Rd.cw_block | apply Rd.cw_ret | apply Rd.cw_exit | refine sy_and (h := ?_) | refine sy_or (h := ?_) | refine sy_xor (h := ?_) | refine sy_andNot (h := ?_) | refine sy_xorU (h := ?_) | refine sy_shl (h := ?_) | refine sy_shr (h := ?_) | refine sy_mul (h := ?_) | refine sy_int (h := ?_) | refine sy_beql (h := ?_) | refine sy_bneq (h := ?_) | refine sy_min (h := ?_) | refine sy_max (h := ?_) | refine sy_arrA (h := ?_) | refine sy_strI (h := ?_) | (refine sw_pu (hc := hma) (hX := fun w h => ⟨h.1.1.2 c hcm, h.1.2⟩) (h := ?_)) | (refine sy_build (cs := SpotD.cells ⟨c.id, x⟩) (hf := by rfl) (h := ?_)) | (refine sw_append (size := 2) (news := SpotD.cells ⟨c.id, x⟩) (q := 1) rfl rfl rfl rfl (fun _ => At.there _ (At.there _ (At.there _ (At.there _ (At.here _))))) (fun w G => src_cel G List.mem_cons_self rfl rfl 1) (by omega) (by simp only [maxLen]; omega) rfl ?_ rfl ?_; (first | with_reducible rfl | with_reducible assumption); intro A3 c3) | ((fail_if_success (refine sw_chk (h := ?_))); refine sw_guard (ht := ?_) (hf := ?_); all_goals (intro hx_; first | have := of_decide_eq_true hx_ | have := of_decide_eq_false hx_ | skip)) | (refine Rd.cw_cond (ht := ?_) (hf := ?_); all_goals (intro hx_; first | have := of_decide_eq_true hx_ | have := of_decide_eq_false hx_ | skip)))
        have e1 : i.xs ++ (spotF c r pre ++ [⟨c.id, x⟩]) = ys ++ [⟨c.id, x⟩] := by rw [← hys, List.append_assoc]
        have e2 : spotCs (ys ++ [⟨c.id, x⟩]) = spotCs ys ++ SpotD.cells ⟨c.id, x⟩ := by simp [spotCs]
        rw [e1, e2, List.length_append]
        exact ⟨_, List.sublist_cons_self _ _, A3, c3, rfl⟩
      | false =>
        rw [hmv] at hma
        rw [spotF_f hmv]
        generalize hys : i.xs ++ spotF c r pre = ys at *
        repeat' (first | apply sw_nil | apply Rd.cw_seq | refine Rd.cw_reg (h := ?_) | refine sy_move (h := ?_) | refine sy_assign (h := ?_) | refine sy_nilCheck (h := ?_) | refine sy_fld (h := ?_) | refine sy_ld (h := ?_) | refine sy_ldAll (h := ?_) | refine sy_pick_t (h := ?_) | refine sy_pick_f (h := ?_) | refine sy_not (h := ?_) | refine sy_eql (h := ?_) | refine sy_neq (h := ?_) | refine sy_lss (h := ?_) | refine sy_leq (h := ?_) | refine sy_gtr (h := ?_) | refine sy_geq (h := ?_) | refine sy_seql (h := ?_) | refine sy_sneq (h := ?_) | refine sy_slen (h := ?_) | refine sy_len (h := ?_) | refine sy_extract (h := ?_) | refine sy_add (h := ?_) | refine sy_sub (h := ?_) | refine sw_skipT (h := ?_) | refine sw_skipF (h := ?_) | refine sw_skipU (h := ?_) | refine sw_alloc (h := fun _ => ?_) | refine sw_box (h := fun _ => ?_) | refine sw_rangeS (h := fun _ => ?_) | refine sw_nextS (h1 := fun _ => ?_) (h2 := fun _ => ?_) | refine sw_bsl (h := fun _ => ?_) | refine sw_st1 (h := ?_) | refine sw_stAll (h := ?_) | refine Rd.cw_cond_t (ht := ?_) | refine Rd.cw_cond_f (hf := ?_) | apply Rd.cw_skip | apply Rd.cw_block | apply Rd.cw_ret | apply Rd.cw_exit | refine sy_and (h := ?_) | refine sy_or (h := ?_) | refine sy_xor (h := ?_) | refine sy_andNot (h := ?_) | refine sy_xorU (h := ?_) | refine sy_shl (h := ?_) | refine sy_shr (h := ?_) | refine sy_mul (h := ?_) | refine sy_int (h := ?_) | refine sy_beql (h := ?_) | refine sy_bneq (h := ?_) | refine sy_min (h := ?_) | refine sy_max (h := ?_) | refine sy_arrA (h := ?_) | refine sy_strI (h := ?_) | (refine sw_pu (hc := hma) (hX := fun w h => ⟨h.1.1.2 c hcm, h.1.2⟩) (h := ?_)) | ((fail_if_success (refine sw_chk (h := ?_))); refine sw_guard (ht := ?_) (hf := ?_); all_goals (intro hx_; first | have := of_decide_eq_true hx_ | have := of_decide_eq_false hx_ | skip)) | (refine Rd.cw_cond (ht := ?_) (hf := ?_); all_goals (intro hx_; first | have := of_decide_eq_true hx_ | have := of_decide_eq_false hx_ | skip)))
        exact ⟨_, List.Sublist.refl _, A, q, rfl⟩
    · rintro loc1 ⟨A, q, rfl⟩
      rw [spotF_all]
      have hnx : spotsV (l.take (i.k + 1)) r = i.xs ++ spotL c r := by
        rw [List.take_add_one, hc, i.hxs]
        simp [spotsV]
      have hle : (spotL c r).length ≤ c.actsL.length := by
        rw [← spotF_all]
        refine Nat.le_trans (spotF_le _ _ _) ?_
        have h1 := List.length_filter_le (fun i : Nat => rtextV c (i : Int)) (List.range c.actsL.length)
        rw [List.length_range] at h1
        exact h1
      repeat' (first | apply sw_nil | apply cw_seq | apply cw_reg | refine sy_move (h := ?_) | refine sy_assign (h := ?_) | refine sy_nilCheck (h := ?_) | refine sy_fld (h := ?_) | refine sy_ld (h := ?_) | refine sy_ldAll (h := ?_) | refine sy_pick_t (h := ?_) | refine sy_pick_f (h := ?_) | refine sy_not (h := ?_) | refine sy_eql (h := ?_) | refine sy_neq (h := ?_) | refine sy_lss (h := ?_) | refine sy_leq (h := ?_) | refine sy_gtr (h := ?_) | refine sy_geq (h := ?_) | refine sy_seql (h := ?_) | refine sy_sneq (h := ?_) | refine sy_slen (h := ?_) | refine sy_len (h := ?_) | refine sy_extract (h := ?_) | refine sy_add (h := ?_) | refine sy_sub (h := ?_) | refine sw_skipT (h := ?_) | refine sw_skipF (h := ?_) | refine sw_skipU (h := ?_) | refine sw_alloc (h := fun _ => ?_) | refine sw_box (h := fun _ => ?_) | refine sw_rangeS (h := fun _ => ?_) | refine sw_nextS (h1 := fun _ => ?_) (h2 := fun _ => ?_) | refine sw_bsl (h := fun _ => ?_) | refine sw_st1 (h := ?_) | refine sw_stAll (h := ?_) | refine cw_cond_t (ht := ?_) | refine cw_cond_f (hf := ?_) | apply cw_skip | apply cw_block | apply cw_ret | apply cw_exit | refine sy_and (h := ?_) | refine sy_or (h := ?_) | refine sy_xor (h := ?_) | refine sy_andNot (h := ?_) | refine sy_xorU (h := ?_) | refine sy_shl (h := ?_) | refine sy_shr (h := ?_) | refine sy_mul (h := ?_) | refine sy_int (h := ?_) | refine sy_beql (h := ?_) | refine sy_bneq (h := ?_) | refine sy_min (h := ?_) | refine sy_max (h := ?_) | refine sy_arrA (h := ?_) | refine sy_strI (h := ?_) | ((fail_if_success (refine sw_chk (h := ?_))); refine sw_guard (ht := ?_) (hf := ?_); all_goals (intro hx_; first | have := of_decide_eq_true hx_ | have := of_decide_eq_false hx_ | skip)) | (refine cw_cond (ht := ?_) (hf := ?_); all_goals (intro hx_; first | have := of_decide_eq_true hx_ | have := of_decide_eq_false hx_ | skip)))
      exact ⟨⟨i.k + 1, hlt, i.xs ++ spotL c r, hnx.symm, by rw [List.length_append]; omega, A, q⟩, (by show l.length - (i.k + 1) < l.length - i.k; omega), ok_sub ⟨rfl, rfl, rfl, rfl, rfl, trivial⟩ (List.Sublist.cons _ (List.Sublist.refl _)) fun _ h => h.1⟩
  · have hk : l.length ≤ i.k := by omega
    refine ends_ret (res_tmp rfl rfl) ⟨⟨i.A, i.xs.length, i.c⟩, rfl, fun w h => ?_⟩
    have h1 := h.2 _ (List.mem_cons_of_mem _ (List.mem_cons_of_mem _ List.mem_cons_self))
    rw [show spotsV l r = i.xs from by rw [i.hxs, List.take_of_length_le hk]]
    exact rows_of_orow h1 (by simp) (by
      intro cs hcs
      obtain ⟨y, _, rfl⟩ := List.mem_map.1 hcs
      rfl)
end Go.Proofs.YtcdcfimlikojeaaGreatDoor
