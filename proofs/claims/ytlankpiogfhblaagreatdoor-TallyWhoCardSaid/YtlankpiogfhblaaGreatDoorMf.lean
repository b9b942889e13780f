/- Joined by program (wip/dev/merge.py) out of: Re Rf Cj Ax Pk Wo. -/
import Derived.Test.YtlankpiogfhblaaGreatDoorMe1
import Derived.Test.YtlankpiogfhblaaGreatDoorMb
/- Contracts: package relation; slices.Contains. -/
set_option linter.unusedVariables false
set_option linter.unusedSimpArgs false
namespace Go.Proofs.YtlankpiogfhblaaGreatDoor
open Go Go.Proofs Sy
instance : TyMap Tryz.prog 67 4 (keyD ByteArray) := ⟨by kernel_rfl⟩
/-! sets -/
def setM (ks : List ByteArray) : List (ByteArray × Value) := ks.map fun k => (k, .bool true)
def sput : List ByteArray → ByteArray → List ByteArray
  | [], k => [k]
  | k' :: r, k => bif KeyT.eqb k k' then k :: r else k' :: sput r k
def sdel : List ByteArray → ByteArray → List ByteArray
  | [], _ => []
  | k' :: r, k => bif KeyT.eqb k k' then r else k' :: sdel r k
theorem mput_set : ∀ (ks : List ByteArray) (k : ByteArray), mput (setM ks) k (.bool true) = setM (sput ks k)
  | [], k => rfl
  | k' :: r, k => by
    have ih := mput_set r k
    simp only [setM] at ih
    simp only [setM, List.map_cons, mput, sput]
    cases KeyT.eqb k k' with
    | true => rfl
    | false => simp only [cond_false, ih, List.map_cons]
theorem mdel_set : ∀ (ks : List ByteArray) (k : ByteArray), mdel (setM ks) k = setM (sdel ks k)
  | [], k => rfl
  | k' :: r, k => by
    have ih := mdel_set r k
    simp only [setM] at ih
    simp only [setM, List.map_cons, mdel, sdel]
    cases KeyT.eqb k k' with
    | true => rfl
    | false => simp only [cond_false, ih, List.map_cons]
theorem setAdd_ct (q : Nat) (ks : List ByteArray) (k : ByteArray) : Ct Tryz.prog 48 #[.map (some q), .string k] [mapr q (setM ks)] (fun _ => True) fun u R _ => u = .tuple #[] ∧ R = [mapr q (setM (sput ks k))] := by
  refine ct_of_cw (args := [_, _]) _ Tryz.func48 rfl Tryz.ntmps48 rfl fun av bor w0 => ?_
  repeat' (first | apply sw_nil | apply cw_seq | apply cw_reg | refine sy_move (h := ?_) | refine sy_assign (h := ?_) | refine cw_cond_t (ht := ?_) | refine cw_cond_f (hf := ?_) | apply cw_skip | apply cw_block | apply cw_ret | apply cw_exit | refine sy_arrA (h := ?_) | refine sy_strI (h := ?_) | (refine sw_update (κ := ByteArray) (kk := k) (l := setM ks) (hA := At.here _) (h := ?_)))
  rw [mput_set]
  repeat' (first | apply sw_nil | apply cw_seq | apply cw_reg | refine sy_move (h := ?_) | refine sy_assign (h := ?_) | refine cw_cond_t (ht := ?_) | refine cw_cond_f (hf := ?_) | apply cw_skip | apply cw_block | apply cw_ret | apply cw_exit | refine sy_arrA (h := ?_) | refine sy_strI (h := ?_))
  exact ends_end (res_none rfl) ⟨rfl, rfl⟩
theorem setDel_ct (q : Nat) (ks : List ByteArray) (k : ByteArray) : Ct Tryz.prog 49 #[.map (some q), .string k] [mapr q (setM ks)] (fun _ => True) fun u R _ => u = .tuple #[] ∧ R = [mapr q (setM (sdel ks k))] := by
  refine ct_of_cw (args := [_, _]) _ Tryz.func49 rfl Tryz.ntmps49 rfl fun av bor w0 => ?_
  repeat' (first | apply sw_nil | apply cw_seq | apply cw_reg | refine sy_move (h := ?_) | refine sy_assign (h := ?_) | refine cw_cond_t (ht := ?_) | refine cw_cond_f (hf := ?_) | apply cw_skip | apply cw_block | apply cw_ret | apply cw_exit | refine sy_arrA (h := ?_) | refine sy_strI (h := ?_) | (refine sw_delete (κ := ByteArray) (kk := k) (l := setM ks) (hA := At.here _) (h := ?_)))
  rw [mdel_set]
  repeat' (first | apply sw_nil | apply cw_seq | apply cw_reg | refine sy_move (h := ?_) | refine sy_assign (h := ?_) | refine cw_cond_t (ht := ?_) | refine cw_cond_f (hf := ?_) | apply cw_skip | apply cw_block | apply cw_ret | apply cw_exit | refine sy_arrA (h := ?_) | refine sy_strI (h := ?_))
  exact ends_end (res_none rfl) ⟨rfl, rfl⟩
theorem strs_flat (l : List ByteArray) : l.map encB = (strs l).flatten := by
  induction l with
  | nil => rfl
  | cons a l ih =>
    simp only [strs, List.map_cons, List.flatten_cons] at ih ⊢
    rw [ih]
    rfl
theorem strs_one (l : List ByteArray) : ∀ r ∈ strs l, r.length = 1 := by
  intro r hr
  simp only [strs, List.mem_map] at hr
  obtain ⟨x, _, rfl⟩ := hr
  rfl
/-- A row of strings of the call's own, as data. -/
theorem strs_of_orow {w : World} {e n c : Nat} {A : Option Addr} {l : List ByteArray} (h : ORow w e 1 (.slice A n c) n (l.map encB)) (hn : n = l.length) : Strs w ⟨A, n, c⟩ l := by
  rw [strs_flat] at h
  exact rows_of_orow h (by simpa [strs] using hn) (strs_one l)
/-! ties -/
structure TieS where
  f : List ByteArray
  a : List ByteArray
  b : List ByteArray
  m : List ByteArray
def setsV (q1 q2 q3 q4 : Nat) : Value := .agg #[.map (some q1), .map (some q2), .map (some q3), .map (some q4)]
def setsR (q1 q2 q3 q4 : Nat) (t : TieS) : List Res := [mapr q4 (setM t.m), mapr q3 (setM t.b), mapr q2 (setM t.a), mapr q1 (setM t.f)]
def undoT (t : TieS) (x : ActD) : TieS :=
  bif decide (x.kind = 7) then { t with f := sdel t.f x.target } else bif decide (x.kind = 8) then { t with a := sdel t.a x.target } else bif decide (x.kind = 10) then { t with b := sdel t.b x.target } else bif decide (x.kind = 11) then { t with m := sdel t.m x.target } else t
theorem undo_ct (q1 q2 q3 q4 : Nat) (t : TieS) (x : ActD) : Ct Tryz.prog 50 #[setsV q1 q2 q3 q4, x.v] (setsR q1 q2 q3 q4 t) (fun _ => True) fun u R _ => u = .tuple #[] ∧ R = setsR q1 q2 q3 q4 (undoT t x) := by
  refine ct_of_cwS (args := [_, _]) (Post := fun u R => u = .tuple #[] ∧ R = setsR q1 q2 q3 q4 (undoT t x)) _ Tryz.func50 rfl Tryz.ntmps50 rfl fun av bor w0 => ?_
  unfold setsR
  repeat' (first | apply sw_nil | apply cw_seq | apply cw_reg | refine sy_move (h := ?_) | refine sy_assign (h := ?_) | refine sy_fld (h := ?_) | refine sy_ld (h := ?_) | refine sy_ldAll (h := ?_) | refine sy_eql (h := ?_) | refine sy_seql (h := ?_) | refine sw_box (h := fun _ => ?_) | refine cw_cond_t (ht := ?_) | refine cw_cond_f (hf := ?_) | apply cw_skip | apply cw_block | apply cw_ret | apply cw_exit | refine sy_beql (h := ?_) | refine sy_arrA (h := ?_) | refine sy_strI (h := ?_) | (refine sw_turn (hc := setDel_ct _ _ _) (hX := fun _ _ => trivial) (h := ?_)) | (refine cw_cond (ht := ?_) (hf := ?_); all_goals (intro hx_; first | have := of_decide_eq_true hx_ | have := of_decide_eq_false hx_ | skip)))
  all_goals (
    refine ends_end (res_none rfl) ⟨_, List.Sublist.cons _ (List.Sublist.cons _ (List.Sublist.refl _)), rfl, ?_⟩
    simp only [undoT, *, Int.reduceEq, decide_true, decide_false, cond_true, cond_false, Bool.and_true, Bool.true_and, Bool.and_false, Bool.false_and, Bool.not_true, Bool.not_false, Bool.or_true, Bool.true_or, Bool.or_false, Bool.false_or])
def limN (n : Int) (len : Nat) : Nat := (if (len : Int) < (if n < 0 then 0 else n) then (len : Int) else (if n < 0 then 0 else n)).toNat
theorem limN_eq (n : Int) (len : Nat) : limN n len = min n.toNat len := by
  unfold limN
  split <;> split <;> omega
def stepT (l : List ActD) (i : Nat) (t : TieS) (x : ActD) : TieS :=
  bif decide (x.kind = 7) then { t with f := sput t.f x.target } else bif decide (x.kind = 8) then { t with a := sput t.a x.target } else bif decide (x.kind = 9) then { t with a := sdel t.a x.target }
  else bif decide (x.kind = 10) then { t with b := sput t.b x.target, f := sdel t.f x.target, a := sdel t.a x.target } else bif decide (x.kind = 11) then { t with m := sput t.m x.target }
  else bif decide (x.kind = 6) then (match idxV l x.object with | some j => bif decide ((j : Int) < (i : Int)) then undoT t (l.getD j ActD.zero) else t | none => t) else t
def tieF (l : List ActD) : Nat → TieS
  | 0 => ⟨[], [], [], []⟩
  | i + 1 => stepT l i (tieF l i) (l.getD i ActD.zero)
def tieV (l : List ActD) (n : Int) : TieS := tieF l (limN n l.length)
theorem idxV_lt {l : List ActD} {d : ByteArray} {j : Nat} (h : idxV l d = some j) : j < l.length := by
  rw [idxV, List.findIdx?_eq_some_iff_getElem] at h
  exact h.1
theorem Acts.cap_ {w : World} {s : SlV} {l : List ActD} (h : Acts w s l) : s.n ≤ s.c := RowsD.cap h.1
theorem tie_ct (c : ChainD) (hc : ActsOk c.actsL) (n : Int) : Ct Tryz.prog 33 #[c.v, .int .i64 n] [] (fun w => c.at_ w ∧ Glob w) fun u R _ => ∃ q1 q2 q3 q4, u = setsV q1 q2 q3 q4 ∧ R = setsR q1 q2 q3 q4 (tieV c.actsL n) := by
  refine ct_of_cwS (args := [_, _]) (Post := fun u R => ∃ q1 q2 q3 q4, u = setsV q1 q2 q3 q4 ∧ R = setsR q1 q2 q3 q4 (tieV c.actsL n)) _ Tryz.func33 rfl Tryz.ntmps33 rfl fun av bor w0 => ?_
  refine cw_know (p := c.acts.n = c.actsL.length ∧ c.acts.n ≤ maxLen ∧ (0 < c.actsL.length → c.acts.p.isSome = true) ∧ c.acts.n ≤ c.acts.c) (fun w h => ⟨h.1.len_, h.1.max_, h.1.some_, h.1.cap_⟩) fun ⟨hl, hm, hp, hcap⟩ => ?_
  simp only [maxLen] at hm
  have hlim := limN_eq n c.acts.n
  have hlN : limN n c.acts.n ≤ c.acts.n := by omega
  repeat' (first | apply sw_nil | apply cw_seq | apply cw_reg | refine sy_move (h := ?_) | refine sy_assign (h := ?_) | refine sy_fld (h := ?_) | refine sy_ld (h := ?_) | refine sy_ldAll (h := ?_) | refine sy_pick_t (h := ?_) | refine sy_pick_f (h := ?_) | refine sy_eql (h := ?_) | refine sy_lss (h := ?_) | refine sy_seql (h := ?_) | refine sy_slen (h := ?_) | refine sy_len (h := ?_) | refine sy_extract (h := ?_) | refine sy_add (h := ?_) | refine sw_skipT (h := ?_) | refine sw_skipF (h := ?_) | refine sw_skipU (h := ?_) | refine sw_alloc (h := fun _ => ?_) | refine sw_box (h := fun _ => ?_) | refine sw_st1 (h := ?_) | refine sw_stAll (h := ?_) | refine cw_cond_t (ht := ?_) | refine cw_cond_f (hf := ?_) | apply cw_skip | apply cw_block | apply cw_ret | apply cw_exit | refine sy_beql (h := ?_) | refine sy_min (h := ?_) | refine sy_max (h := ?_) | refine sy_arrA (h := ?_) | refine sy_strI (h := ?_) | (refine sw_makeMap ByteArray (h := fun _ => ?_)) | (refine sy_build (h := ?_)))
  refine sy_slcH (h0 := by split <;> split <;> omega) (h1 := by split <;> split <;> omega) (h := ?_)
  repeat' (first | apply sw_nil | apply cw_seq | apply cw_reg | refine sy_move (h := ?_) | refine sy_assign (h := ?_) | refine sy_fld (h := ?_) | refine sy_ld (h := ?_) | refine sy_ldAll (h := ?_) | refine sy_pick_t (h := ?_) | refine sy_pick_f (h := ?_) | refine sy_eql (h := ?_) | refine sy_lss (h := ?_) | refine sy_seql (h := ?_) | refine sy_slen (h := ?_) | refine sy_len (h := ?_) | refine sy_extract (h := ?_) | refine sy_add (h := ?_) | refine sw_skipT (h := ?_) | refine sw_skipF (h := ?_) | refine sw_skipU (h := ?_) | refine sw_alloc (h := fun _ => ?_) | refine sw_box (h := fun _ => ?_) | refine sw_st1 (h := ?_) | refine sw_stAll (h := ?_) | refine cw_cond_t (ht := ?_) | refine cw_cond_f (hf := ?_) | apply cw_skip | apply cw_block | apply cw_ret | apply cw_exit | refine sy_beql (h := ?_) | refine sy_min (h := ?_) | refine sy_max (h := ?_) | refine sy_arrA (h := ?_) | refine sy_strI (h := ?_))
  rename_i b2 b4 q1 q2 q3 q4 b5
  refine cw_loop (ι := Kth (limN n c.acts.n)) (fun i => ⟨[(2, .pointer (some ⟨b2, 0, none⟩)), (4, .pointer (some ⟨b4, 0, none⟩)), (5, .pointer (some ⟨b5, 0, none⟩)), (24, .slice c.acts.p (limN n c.acts.n) c.acts.c), (25, .int .i64 (limN n c.acts.n)), (26, .int .i64 i.k)],
    setsR q1 q2 q3 q4 (tieF c.actsL i.k) ++ [cel b5 69 (setsV q1 q2 q3 q4).cells.toList, cel b4 69 [.map none, .map none, .map none, .map none], cel b2 38 c.cells], fun w => c.at_ w ∧ Glob w⟩) (fun i => limN n c.acts.n - i.k) ⟨0, Nat.zero_le _⟩
    (ok_perm ⟨rfl, rfl, rfl, rfl, rfl, rfl, trivial⟩ (List.perm_middle (l₁ := setsR q1 q2 q3 q4 ⟨[], [], [], []⟩) (a := cel b5 69 (setsV q1 q2 q3 q4).cells.toList) (l₂ := [cel b4 69 [.map none, .map none, .map none, .map none], cel b2 38 c.cells])).symm fun _ h => h) fun i => ?_
  have hik := i.hk
  repeat' (first | apply sw_nil | apply cw_seq | apply cw_reg | refine sy_move (h := ?_) | refine sy_assign (h := ?_) | refine sy_fld (h := ?_) | refine sy_ld (h := ?_) | refine sy_ldAll (h := ?_) | refine sy_pick_t (h := ?_) | refine sy_pick_f (h := ?_) | refine sy_eql (h := ?_) | refine sy_lss (h := ?_) | refine sy_seql (h := ?_) | refine sy_slen (h := ?_) | refine sy_len (h := ?_) | refine sy_extract (h := ?_) | refine sy_add (h := ?_) | refine sw_skipT (h := ?_) | refine sw_skipF (h := ?_) | refine sw_skipU (h := ?_) | refine sw_alloc (h := fun _ => ?_) | refine sw_box (h := fun _ => ?_) | refine sw_st1 (h := ?_) | refine sw_stAll (h := ?_) | refine cw_cond_t (ht := ?_) | refine cw_cond_f (hf := ?_) | apply cw_skip | apply cw_block | apply cw_ret | apply cw_exit | refine sy_beql (h := ?_) | refine sy_min (h := ?_) | refine sy_max (h := ?_) | refine sy_arrA (h := ?_) | refine sy_strI (h := ?_) | ((fail_if_success (refine sw_chk (h := ?_))); refine sw_guard (ht := ?_) (hf := ?_); all_goals (intro hx_; first | have := of_decide_eq_true hx_ | have := of_decide_eq_false hx_ | skip)) | (refine cw_cond (ht := ?_) (hf := ?_); all_goals (intro hx_; first | have := of_decide_eq_true hx_ | have := of_decide_eq_false hx_ | skip)))
  · have hlt : i.k < limN n c.acts.n := by omega
    have hltL : i.k < c.actsL.length := by omega
    have hp' := hp (by omega)
    obtain ⟨x, hx⟩ : ∃ x, c.actsL[i.k]? = some x := ⟨_, List.getElem?_eq_getElem hltL⟩
    have hstep : tieF c.actsL (i.k + 1) = stepT c.actsL i.k (tieF c.actsL i.k) x := by simp only [tieF, List.getD_eq_getElem?_getD, hx, Option.getD_some]
    generalize ht : tieF c.actsL i.k = t at *
    unfold setsR
    repeat' (first | apply sw_nil | apply cw_seq | apply cw_reg | refine sy_move (h := ?_) | refine sy_assign (h := ?_) | refine sy_fld (h := ?_) | refine sy_ld (h := ?_) | refine sy_ldAll (h := ?_) | refine sy_pick_t (h := ?_) | refine sy_pick_f (h := ?_) | refine sy_eql (h := ?_) | refine sy_lss (h := ?_) | refine sy_seql (h := ?_) | refine sy_slen (h := ?_) | refine sy_len (h := ?_) | refine sy_extract (h := ?_) | refine sy_add (h := ?_) | refine sw_skipT (h := ?_) | refine sw_skipF (h := ?_) | refine sw_skipU (h := ?_) | refine sw_alloc (h := fun _ => ?_) | refine sw_box (h := fun _ => ?_) | refine sw_st1 (h := ?_) | refine sw_stAll (h := ?_) | refine cw_cond_t (ht := ?_) | refine cw_cond_f (hf := ?_) | apply cw_skip | apply cw_block | apply cw_ret | apply cw_exit | refine sy_beql (h := ?_) | refine sy_min (h := ?_) | refine sy_max (h := ?_) | refine sy_arrA (h := ?_) | refine sy_strI (h := ?_) | (refine sy_idxX (q := i.k * 20) (h := ?_)) | (refine sy_ldXs (cs := x.cells) (hF := fun w h => Acts.get h.1 hx) (h := ?_)) | (refine sw_turn (hc := setAdd_ct _ _ _) (hX := fun _ _ => trivial) (h := ?_)) | (refine sw_turn (hc := setDel_ct _ _ _) (hX := fun _ _ => trivial) (h := ?_)) | ((fail_if_success (refine sw_chk (h := ?_))); refine sw_guard (ht := ?_) (hf := ?_); all_goals (intro hx_; first | have := of_decide_eq_true hx_ | have := of_decide_eq_false hx_ | skip)) | (refine cw_cond (ht := ?_) (hf := ?_); all_goals (intro hx_; first | have := of_decide_eq_true hx_ | have := of_decide_eq_false hx_ | skip)))
    all_goals first
      | exact ⟨(⟨i.k + 1, hlt⟩ : Kth (limN n c.acts.n)), (by show limN n c.acts.n - (i.k + 1) < limN n c.acts.n - i.k; omega), ok_sub ⟨rfl, rfl, rfl, rfl, rfl, rfl, trivial⟩ (List.Sublist.cons _ (by
          rw [hstep]
          simp only [stepT, setsR, *, decide_true, decide_false, cond_true, cond_false, Bool.and_true, Bool.true_and, Bool.and_false, Bool.false_and, Bool.not_true, Bool.not_false, Bool.or_true, Bool.true_or, Bool.or_false, Bool.false_or]
          exact List.Sublist.refl _)) fun _ h => h⟩
      | skip
    rcases ho : idxV c.actsL x.object with _ | j
    · have hip : Pu Tryz.prog 44 #[c.v, .string x.object] (fun w => c.at_ w ∧ Glob w) (.tuple #[.int .i64 0, .bool false]) := by have := index_pu c hc x.object; rwa [ho] at this
      repeat' (first | apply sw_nil | apply cw_seq | apply cw_reg | refine sy_move (h := ?_) | refine sy_assign (h := ?_) | refine sy_fld (h := ?_) | refine sy_ld (h := ?_) | refine sy_ldAll (h := ?_) | refine sy_pick_t (h := ?_) | refine sy_pick_f (h := ?_) | refine sy_eql (h := ?_) | refine sy_lss (h := ?_) | refine sy_seql (h := ?_) | refine sy_slen (h := ?_) | refine sy_len (h := ?_) | refine sy_extract (h := ?_) | refine sy_add (h := ?_) | refine sw_skipT (h := ?_) | refine sw_skipF (h := ?_) | refine sw_skipU (h := ?_) | refine sw_alloc (h := fun _ => ?_) | refine sw_box (h := fun _ => ?_) | refine sw_st1 (h := ?_) | refine sw_stAll (h := ?_) | refine cw_cond_t (ht := ?_) | refine cw_cond_f (hf := ?_) | apply cw_skip | apply cw_block | apply cw_ret | apply cw_exit | refine sy_beql (h := ?_) | refine sy_min (h := ?_) | refine sy_max (h := ?_) | refine sy_arrA (h := ?_) | refine sy_strI (h := ?_) | refine sw_pu (hc := hip) (h := ?_) | ((fail_if_success (refine sw_chk (h := ?_))); refine sw_guard (ht := ?_) (hf := ?_); all_goals (intro hx_; first | have := of_decide_eq_true hx_ | have := of_decide_eq_false hx_ | skip)) | (refine cw_cond (ht := ?_) (hf := ?_); all_goals (intro hx_; first | have := of_decide_eq_true hx_ | have := of_decide_eq_false hx_ | skip)))
      exact ⟨(⟨i.k + 1, hlt⟩ : Kth (limN n c.acts.n)), (by show limN n c.acts.n - (i.k + 1) < limN n c.acts.n - i.k; omega), ok_sub ⟨rfl, rfl, rfl, rfl, rfl, rfl, trivial⟩ (List.Sublist.cons _ (by
          rw [hstep]
          simp only [stepT, setsR, *, decide_true, decide_false, cond_true, cond_false, Bool.and_true, Bool.true_and, Bool.and_false, Bool.false_and, Bool.not_true, Bool.not_false, Bool.or_true, Bool.true_or, Bool.or_false, Bool.false_or]
          exact List.Sublist.refl _)) fun _ h => h⟩
    · have hip : Pu Tryz.prog 44 #[c.v, .string x.object] (fun w => c.at_ w ∧ Glob w) (.tuple #[.int .i64 (j : Int), .bool true]) := by have := index_pu c hc x.object; rwa [ho] at this
      have hjl := idxV_lt ho
      obtain ⟨y, hy⟩ : ∃ y, c.actsL[j]? = some y := ⟨_, List.getElem?_eq_getElem hjl⟩
      have hgy : c.actsL.getD j ActD.zero = y := by simp [hy]
      repeat' (first | apply sw_nil | apply cw_seq | apply cw_reg | refine sy_move (h := ?_) | refine sy_assign (h := ?_) | refine sy_fld (h := ?_) | refine sy_ld (h := ?_) | refine sy_ldAll (h := ?_) | refine sy_pick_t (h := ?_) | refine sy_pick_f (h := ?_) | refine sy_eql (h := ?_) | refine sy_lss (h := ?_) | refine sy_seql (h := ?_) | refine sy_slen (h := ?_) | refine sy_len (h := ?_) | refine sy_extract (h := ?_) | refine sy_add (h := ?_) | refine sw_skipT (h := ?_) | refine sw_skipF (h := ?_) | refine sw_skipU (h := ?_) | refine sw_alloc (h := fun _ => ?_) | refine sw_box (h := fun _ => ?_) | refine sw_st1 (h := ?_) | refine sw_stAll (h := ?_) | refine cw_cond_t (ht := ?_) | refine cw_cond_f (hf := ?_) | apply cw_skip | apply cw_block | apply cw_ret | apply cw_exit | refine sy_beql (h := ?_) | refine sy_min (h := ?_) | refine sy_max (h := ?_) | refine sy_arrA (h := ?_) | refine sy_strI (h := ?_) | refine sw_pu (hc := hip) (h := ?_) | ((fail_if_success (refine sw_chk (h := ?_))); refine sw_guard (ht := ?_) (hf := ?_); all_goals (intro hx_; first | have := of_decide_eq_true hx_ | have := of_decide_eq_false hx_ | skip)) | (refine cw_cond (ht := ?_) (hf := ?_); all_goals (intro hx_; first | have := of_decide_eq_true hx_ | have := of_decide_eq_false hx_ | skip)))
      · refine cw_drop (List.Sublist.cons _ (List.Sublist.refl _)) ?_
        (refine cw_draw [] (fun _ => True) (by kernel_rfl) ?_)
        all_goals (refine aw_take 1 (h := ?_))
        all_goals (refine aw_take 3 (h := ?_))
        all_goals (refine aw_two 0 2 (h := ?_) (h' := ?_); (focus (((first | (refine sy_ld (h := ?_)) | (refine sy_ldAll (h := ?_)) | (refine sy_ldXs (cs := y.cells) (hF := fun w h => Acts.get h.1 hy) (h := ?_))); apply sw_nil; refine aw_fin (h := ?_)); all_goals ((refine aw_step 2 (h := ?_); (first | (refine sy_ld (h := ?_)) | (refine sy_ldAll (h := ?_)) | (refine sy_ldXs (cs := y.cells) (hF := fun w h => Acts.get h.1 hy) (h := ?_))); apply sw_nil; refine aw_fin (h := ?_)); all_goals (first | refine aw_take 4 (h := ?_) | refine aw_take 4 (hy := by (first | (apply y_idxX (q := j * 20); rfl; rfl; omega; omega; assumption; omega))) (h := ?_)); all_goals (refine aw_step 5 (h := ?_); (first | (refine sy_ld (h := ?_)) | (refine sy_ldAll (h := ?_)) | (refine sy_ldXs (cs := y.cells) (hF := fun w h => Acts.get h.1 hy) (h := ?_))); apply sw_nil; refine aw_fin (h := ?_)); all_goals (refine aw_step 6 (h := ?_); (first | (refine sw_fn (pre := setsR q1 q2 q3 q4 t) (fr := [cel b5 69 (setsV q1 q2 q3 q4).cells.toList, cel b4 69 [.map none, .map none, .map none, .map none], cel b2 38 c.cells]) (hc := undo_ct q1 q2 q3 q4 t y) (hX := fun _ _ => trivial) (h := ?_); rintro _ _ X' ⟨rfl, rfl⟩)); apply sw_nil; refine aw_fin (h := ?_)); all_goals (refine aw_done (h := ?_))))); rotate_right; (focus (((first | (refine sy_ld (h := ?_)) | (refine sy_ldAll (h := ?_)) | (refine sy_ldXs (cs := y.cells) (hF := fun w h => Acts.get h.1 hy) (h := ?_))); apply sw_nil; refine aw_fin (h := ?_)); all_goals ((first | refine aw_take 4 (h := ?_) | refine aw_take 4 (hy := by (first | (apply y_idxX (q := j * 20); rfl; rfl; omega; omega; assumption; omega))) (h := ?_)); all_goals (refine aw_two 0 5 (h := ?_) (h' := ?_); (focus (((first | (refine sy_ld (h := ?_)) | (refine sy_ldAll (h := ?_)) | (refine sy_ldXs (cs := y.cells) (hF := fun w h => Acts.get h.1 hy) (h := ?_))); apply sw_nil; refine aw_fin (h := ?_)); all_goals ((refine aw_step 5 (h := ?_); (first | (refine sy_ld (h := ?_)) | (refine sy_ldAll (h := ?_)) | (refine sy_ldXs (cs := y.cells) (hF := fun w h => Acts.get h.1 hy) (h := ?_))); apply sw_nil; refine aw_fin (h := ?_)); all_goals (refine aw_step 6 (h := ?_); (first | (refine sw_fn (pre := setsR q1 q2 q3 q4 t) (fr := [cel b5 69 (setsV q1 q2 q3 q4).cells.toList, cel b4 69 [.map none, .map none, .map none, .map none], cel b2 38 c.cells]) (hc := undo_ct q1 q2 q3 q4 t y) (hX := fun _ _ => trivial) (h := ?_); rintro _ _ X' ⟨rfl, rfl⟩)); apply sw_nil; refine aw_fin (h := ?_)); all_goals (refine aw_done (h := ?_))))); rotate_right; (focus (((first | (refine sy_ld (h := ?_)) | (refine sy_ldAll (h := ?_)) | (refine sy_ldXs (cs := y.cells) (hF := fun w h => Acts.get h.1 hy) (h := ?_))); apply sw_nil; refine aw_fin (h := ?_)); all_goals ((refine aw_step 0 (h := ?_); (first | (refine sy_ld (h := ?_)) | (refine sy_ldAll (h := ?_)) | (refine sy_ldXs (cs := y.cells) (hF := fun w h => Acts.get h.1 hy) (h := ?_))); apply sw_nil; refine aw_fin (h := ?_)); all_goals (refine aw_step 6 (h := ?_); (first | (refine sw_fn (pre := setsR q1 q2 q3 q4 t) (fr := [cel b5 69 (setsV q1 q2 q3 q4).cells.toList, cel b4 69 [.map none, .map none, .map none, .map none], cel b2 38 c.cells]) (hc := undo_ct q1 q2 q3 q4 t y) (hX := fun _ _ => trivial) (h := ?_); rintro _ _ X' ⟨rfl, rfl⟩)); apply sw_nil; refine aw_fin (h := ?_)); all_goals (refine aw_done (h := ?_))))))))))
        all_goals (repeat' (first | apply sw_nil | apply cw_seq | apply cw_reg | refine sy_move (h := ?_) | refine sy_assign (h := ?_) | refine sy_fld (h := ?_) | refine sy_ld (h := ?_) | refine sy_ldAll (h := ?_) | refine sy_pick_t (h := ?_) | refine sy_pick_f (h := ?_) | refine sy_eql (h := ?_) | refine sy_lss (h := ?_) | refine sy_seql (h := ?_) | refine sy_slen (h := ?_) | refine sy_len (h := ?_) | refine sy_extract (h := ?_) | refine sy_add (h := ?_) | refine sw_skipT (h := ?_) | refine sw_skipF (h := ?_) | refine sw_skipU (h := ?_) | refine sw_alloc (h := fun _ => ?_) | refine sw_box (h := fun _ => ?_) | refine sw_st1 (h := ?_) | refine sw_stAll (h := ?_) | refine cw_cond_t (ht := ?_) | refine cw_cond_f (hf := ?_) | apply cw_skip | apply cw_block | apply cw_ret | apply cw_exit | refine sy_beql (h := ?_) | refine sy_min (h := ?_) | refine sy_max (h := ?_) | refine sy_arrA (h := ?_) | refine sy_strI (h := ?_) | ((fail_if_success (refine sw_chk (h := ?_))); refine sw_guard (ht := ?_) (hf := ?_); all_goals (intro hx_; first | have := of_decide_eq_true hx_ | have := of_decide_eq_false hx_ | skip)) | (refine cw_cond (ht := ?_) (hf := ?_); all_goals (intro hx_; first | have := of_decide_eq_true hx_ | have := of_decide_eq_false hx_ | skip))))
        all_goals exact ⟨(⟨i.k + 1, hlt⟩ : Kth (limN n c.acts.n)), (by show limN n c.acts.n - (i.k + 1) < limN n c.acts.n - i.k; omega), ok_sub ⟨rfl, rfl, rfl, rfl, rfl, rfl, trivial⟩ (by
          rw [hstep]
          simp only [stepT, *, decide_true, decide_false, cond_true, cond_false, Bool.and_true, Bool.true_and, Bool.and_false, Bool.false_and, Bool.not_true, Bool.not_false, Bool.or_true, Bool.true_or, Bool.or_false, Bool.false_or]
          exact List.Sublist.refl _) fun _ h => h.1⟩
      · exact ⟨(⟨i.k + 1, hlt⟩ : Kth (limN n c.acts.n)), (by show limN n c.acts.n - (i.k + 1) < limN n c.acts.n - i.k; omega), ok_sub ⟨rfl, rfl, rfl, rfl, rfl, rfl, trivial⟩ (List.Sublist.cons _ (by
          rw [hstep]
          simp only [stepT, setsR, *, decide_true, decide_false, cond_true, cond_false, Bool.and_true, Bool.true_and, Bool.and_false, Bool.false_and, Bool.not_true, Bool.not_false, Bool.or_true, Bool.true_or, Bool.or_false, Bool.false_or]
          exact List.Sublist.refl _)) fun _ h => h⟩
  have hk : i.k = limN n c.acts.n := by omega
  refine ends_ret (res_cell rfl rfl (by (repeat (first | exact List.mem_cons_self | apply List.mem_cons_of_mem))) (by rfl)) ⟨setsR q1 q2 q3 q4 (tieF c.actsL i.k), List.Sublist.cons_cons _ (List.Sublist.cons_cons _ (List.Sublist.cons_cons _ (List.Sublist.cons_cons _ (List.nil_sublist _)))), q1, q2, q3, q4, rfl, ?_⟩
  rw [tieV, ← hl, hk]
end Go.Proofs.YtlankpiogfhblaaGreatDoor

/- Contracts: relation.Of; slices.Index, Contains, Equal over strings; agoraref21's. -/
set_option linter.unusedVariables false
set_option linter.unusedSimpArgs false
namespace Go.Proofs.YtlankpiogfhblaaGreatDoor
open Go Go.Proofs Sy
structure LBnd (k : Nat) (l : List ByteArray) : Prop where
  len : l.length ≤ k
  size : ∀ x ∈ l, x.size ≤ maxLen
theorem LBnd.mono {k k' : Nat} {l : List ByteArray} (h : LBnd k l) (hk : k ≤ k') : LBnd k' l := ⟨Nat.le_trans h.len hk, h.size⟩
structure TBnd (k : Nat) (t : TieS) : Prop where
  f : LBnd k t.f
  a : LBnd k t.a
  b : LBnd k t.b
  m : LBnd k t.m
theorem TBnd.mono {k k' : Nat} {t : TieS} (h : TBnd k t) (hk : k ≤ k') : TBnd k' t := ⟨h.f.mono hk, h.a.mono hk, h.b.mono hk, h.m.mono hk⟩
theorem strs_given {w : World} {e n c : Nat} {A : Option Addr} {l : List ByteArray} (h : (orow e 1 (.slice A n c) n ((sortB l).map encB)).F w) (hn : n = l.length) : Strs w ⟨A, n, c⟩ (sortB l) := strs_of_orow h (by rw [sortB_len, hn])
/-! strings in slices: whether one is there; whether two lists are alike -/
def hasS (l : List ByteArray) (x : ByteArray) : Bool := l.any fun y => seqB x y
def eqBad (l m : List ByteArray) (k : Nat) : Bool := !seqB (l.getD k .empty) (m.getD k .empty)
def eqL (l m : List ByteArray) : Bool := decide (l.length = m.length) && allB l.length (eqBad l m)
theorem equalL_pu (s r : SlV) (l m : List ByteArray) : Pu Tryz.prog 43 #[s.v, r.v] (fun w => Strs w s l ∧ Strs w r m) (.bool (eqL l m)) := by
  refine pu_of_cw (args := [_, _]) _ Tryz.func43 rfl Tryz.ntmps43 rfl fun av bor w0 => ?_
  refine cw_know (p := (s.n = l.length ∧ s.n ≤ maxLen ∧ (0 < l.length → s.p.isSome = true)) ∧ (r.n = m.length ∧ r.n ≤ maxLen ∧ (0 < m.length → r.p.isSome = true))) (fun w h => ⟨⟨h.1.len_, Nat.le_trans (RowsD.cap h.1) (RowsD.max h.1), h.1.some_⟩, ⟨h.2.len_, Nat.le_trans (RowsD.cap h.2) (RowsD.max h.2), h.2.some_⟩⟩) fun ⟨⟨hl, hm, hp⟩, ⟨hl', hm', hp'⟩⟩ => ?_
  simp only [maxLen] at hm hm'
  repeat' (first | apply sw_nil | apply cw_seq | apply cw_reg | refine sy_move (h := ?_) | refine sy_assign (h := ?_) | refine sy_ld (h := ?_) | refine sy_ldAll (h := ?_) | refine sy_neq (h := ?_) | refine sy_lss (h := ?_) | refine sy_sneq (h := ?_) | refine sy_slen (h := ?_) | refine sy_len (h := ?_) | refine sy_add (h := ?_) | refine cw_cond_t (ht := ?_) | refine cw_cond_f (hf := ?_) | apply cw_skip | apply cw_block | apply cw_ret | apply cw_exit | refine sy_bneq (h := ?_) | refine sy_arrA (h := ?_) | refine sy_strI (h := ?_) | (refine cw_cond (ht := ?_) (hf := ?_); all_goals (intro hx_; first | have := of_decide_eq_true hx_ | have := of_decide_eq_false hx_ | skip)))
  · apply ends_ret; apply res_tmp; rfl; rfl
    have : ¬ l.length = m.length := by
      have h1 : ¬ (s.n : Int) = (r.n : Int) := by simpa using hx_
      omega
    simp only [eqL, decide_eq_false this, Bool.false_and]
  have hlm : l.length = m.length := by
    have h1 : (s.n : Int) = (r.n : Int) := by simpa using hx_
    omega
  refine cw_loop (ι := Upto l.length (eqBad l m)) (fun i => ⟨[(0, s.v), (1, r.v), (12, .int .i64 s.n), (13, .int .i64 i.k)], [], fun w => Strs w s l ∧ Strs w r m⟩) (fun i => l.length - i.k) (Upto.zero _ _) (ok_sub (by repeat (first | exact trivial | refine ⟨rfl, ?_⟩)) (List.Sublist.refl _) fun _ h => h) fun i => ?_
  have hik := i.hk
  repeat' (first | apply sw_nil | apply cw_seq | apply cw_reg | refine sy_move (h := ?_) | refine sy_assign (h := ?_) | refine sy_ld (h := ?_) | refine sy_ldAll (h := ?_) | refine sy_neq (h := ?_) | refine sy_lss (h := ?_) | refine sy_sneq (h := ?_) | refine sy_slen (h := ?_) | refine sy_len (h := ?_) | refine sy_add (h := ?_) | refine cw_cond_t (ht := ?_) | refine cw_cond_f (hf := ?_) | apply cw_skip | apply cw_block | apply cw_ret | apply cw_exit | refine sy_bneq (h := ?_) | refine sy_arrA (h := ?_) | refine sy_strI (h := ?_) | (refine cw_cond (ht := ?_) (hf := ?_); all_goals (intro hx_; first | have := of_decide_eq_true hx_ | have := of_decide_eq_false hx_ | skip)))
  · have hlt : i.k < l.length := by omega
    have hlt' : i.k < m.length := by omega
    have hp1 := hp (by omega)
    have hp2 := hp' (by omega)
    (apply cw_draw0; kernel_rfl)
    all_goals (refine aw_take 0 (h := ?_))
    all_goals (refine aw_take 1 (h := ?_))
    all_goals (first | refine aw_take 2 (h := ?_) | refine aw_take 2 (hy := by (first | (apply y_idxX (q := i.k); rfl; rfl; omega; omega; assumption; omega))) (h := ?_))
    all_goals (first | refine aw_take 3 (h := ?_) | refine aw_take 3 (hy := by (first | (apply y_ldX; rfl; exact fun w h => Strs.get h.1 hlt) | (apply y_ldX; rfl; exact fun w h => Strs.get h.2 hlt'))) (h := ?_))
    all_goals (refine aw_take 4 (h := ?_))
    all_goals (refine aw_take 5 (h := ?_))
    all_goals (first | refine aw_take 6 (h := ?_) | refine aw_take 6 (hy := by (first | (apply y_idxX (q := i.k); rfl; rfl; omega; omega; assumption; omega))) (h := ?_))
    all_goals (first | refine aw_take 7 (h := ?_) | refine aw_take 7 (hy := by (first | (apply y_ldX; rfl; exact fun w h => Strs.get h.1 hlt) | (apply y_ldX; rfl; exact fun w h => Strs.get h.2 hlt'))) (h := ?_))
    all_goals (refine aw_take 8 (h := ?_))
    all_goals (refine aw_done (h := ?_))
    repeat' (first | apply sw_nil | apply cw_seq | apply cw_reg | refine sy_move (h := ?_) | refine sy_assign (h := ?_) | refine sy_ld (h := ?_) | refine sy_ldAll (h := ?_) | refine sy_neq (h := ?_) | refine sy_lss (h := ?_) | refine sy_sneq (h := ?_) | refine sy_slen (h := ?_) | refine sy_len (h := ?_) | refine sy_add (h := ?_) | refine cw_cond_t (ht := ?_) | refine cw_cond_f (hf := ?_) | apply cw_skip | apply cw_block | apply cw_ret | apply cw_exit | refine sy_bneq (h := ?_) | refine sy_arrA (h := ?_) | refine sy_strI (h := ?_) | (refine cw_cond (ht := ?_) (hf := ?_); all_goals (intro hx_; first | have := of_decide_eq_true hx_ | have := of_decide_eq_false hx_ | skip)))
    · apply ends_ret; apply res_tmp; rfl; rfl
      rw [eqL, allB_false hlt (by assumption), Bool.and_false]
    · exact ⟨i.next hlt (by assumption), (by show l.length - (i.k + 1) < l.length - i.k; omega), ok_sub (by repeat (first | exact trivial | refine ⟨rfl, ?_⟩)) (List.Sublist.refl _) fun _ h => h⟩
  · apply ends_ret; apply res_tmp; rfl; rfl
    rw [eqL, i.all (by omega), decide_eq_true hlm]
    rfl
end Go.Proofs.YtlankpiogfhblaaGreatDoor

/- What the walks over one chain share. -/
set_option linter.unusedVariables false
set_option linter.unusedSimpArgs false
namespace Go.Proofs.YtlankpiogfhblaaGreatDoor
open Go Go.Proofs Sy
def XC (c : ChainD) (w : World) : Prop := c.at_ w ∧ Glob w
theorem strs_ones (l : List ByteArray) : ∀ cs ∈ strs l, cs.all (·.oneCell') = true := fun cs hcs => by simp only [strs, List.mem_map] at hcs; obtain ⟨x, _, rfl⟩ := hcs; rfl
end Go.Proofs.YtlankpiogfhblaaGreatDoor

/- Laws and data that the walks of the laws share: bounds, rows of activities, decided comparisons. -/
set_option linter.unusedVariables false
set_option linter.unusedSimpArgs false
namespace Go.Proofs.YtlankpiogfhblaaGreatDoor
open Go Go.Proofs Sy
section
variable {P : Program} {N : Nat} {av bor : List Nat} {w0 : World} {ops : Array Oper} {rest : List Oper} {k : St → Prop} {E : Env} {loc : List Res} {X : World → Prop}
theorem sw_give {r : Res} (h : Sw P N av bor w0 ops rest ⟨E, loc, fun w => X w ∧ r.F w⟩ k) : Sw P N av bor w0 ops rest ⟨E, r :: loc, X⟩ k := Sw.mk fun a w ok => h.run a w (ok.via fun M G => G.give)
end
def shortBad (l : List ActD) (k : Nat) : Bool := decide (8 < (l.getD k ActD.zero).to.n) || decide (8 < (l.getD k ActD.zero).wraps.n) || decide (600 < (l.getD k ActD.zero).text.size) || decide (600 < (l.getD k ActD.zero).body.data.size)
def shortV (c : ChainD) : Bool := decide (c.actsL.length ≤ 24) && allB c.actsL.length (shortBad c.actsL)
def idA : ByteArray := ⟨#[48, 48, 48, 48, 48, 48, 48, 48, 48, 48, 48, 48, 48, 48, 97, 49]⟩
def idB : ByteArray := ⟨#[48, 48, 48, 48, 48, 48, 48, 48, 48, 48, 48, 48, 48, 48, 98, 50]⟩
theorem strs_of_cel {w : World} {b e : Nat} {l : List ByteArray} (h : (cel b e (l.map encB)).F w) (hm : l.length ≤ maxLen) : Strs w ⟨some ⟨b, 0, none⟩, l.length, l.length⟩ l := by
  have h1 : (l.map encB) = (strs l).flatten := strs_flat l
  rw [h1] at h
  exact rows_of_cel h (by simp [strs]) hm (strs_one l)
theorem actsOk_of {c : ChainD} (hr : ∀ a ∈ c.actsL, a.Rng) (ht : ∀ a ∈ c.actsL, a.target.size ≤ maxLen) (h : shortV c = true) : ActsOk c.actsL ∧ c.actsL.length ≤ 24 := by
  simp only [shortV, Bool.and_eq_true, decide_eq_true_eq] at h
  refine ⟨⟨hr, fun a ha => ?_⟩, h.1⟩
  obtain ⟨i, hi, rfl⟩ := List.getElem_of_mem ha
  have h1 := List.all_eq_true.1 h.2 i (List.mem_range.2 hi)
  simp only [shortBad, List.getD_eq_getElem?_getD, List.getElem?_eq_getElem hi, Option.getD_some, Bool.not_eq_true', Bool.or_eq_false_iff, decide_eq_false_iff_not] at h1
  exact ⟨by omega, by omega, ht _ ha⟩
theorem eqL_refl (l : List ByteArray) : eqL l l = true := by
  rw [eqL, decide_eq_true rfl, Bool.true_and]
  refine allB_true fun j hj => ?_
  simp [eqBad, seqB]
section
variable {P : Program} {N : Nat} {av bor : List Nat} {w0 : World} {ops : Array Oper} {rest : List Oper} {kk : St → Prop} {E : Env} {loc : List Res} {X : World → Prop} {x y : Operand} {t t2 : TypeId}
variable {n : Nat} {ty : TypeId} {pos : String} {af : Array Edge} {g : Option (Nat × Bool)} {bb want : Bool}
theorem sy_neqF {k : IntKind} {a b : Int} (hx : ev E x = some (.int k a) := by rfl) (hy : ev E y = some (.int k b) := by rfl) (hab : a = b := by decide) (hg : gdB ops E g = some (bb, want) := by rfl) (hbb : bb = want := by (first | with_reducible rfl | with_reducible assumption | with_reducible exact Bool.not_false | with_reducible exact Bool.not_true)) (hd : Nat.blt n N = true := by rfl) (h : Sw P N av bor w0 ops rest ⟨(n, .bool false) :: E, loc, X⟩ kk) :
    Sw P N av bor w0 ops (⟨some n, .binOp .neq t x y t2, ty, pos, af, g⟩ :: rest) ⟨E, loc, X⟩ kk := sy_neq (hx := hx) (hy := hy) (hg := hg) (hbb := hbb) (hd := hd) (h := by
      have e : ∀ u, u = Value.bool false → Sw P N av bor w0 ops rest ⟨(n, u) :: E, loc, X⟩ kk := fun u hu => hu ▸ h
      exact e _ (by simp [hab]))
theorem sy_geqF {k : IntKind} {a b : Int} (hx : ev E x = some (.int k a) := by rfl) (hy : ev E y = some (.int k b) := by rfl) (hab : ¬ b ≤ a) (hg : gdB ops E g = some (bb, want) := by rfl) (hbb : bb = want := by (first | with_reducible rfl | with_reducible assumption | with_reducible exact Bool.not_false | with_reducible exact Bool.not_true)) (hd : Nat.blt n N = true := by rfl) (h : Sw P N av bor w0 ops rest ⟨(n, .bool false) :: E, loc, X⟩ kk) :
    Sw P N av bor w0 ops (⟨some n, .binOp .geq t x y t2, ty, pos, af, g⟩ :: rest) ⟨E, loc, X⟩ kk := sy_geq (hx := hx) (hy := hy) (hg := hg) (hbb := hbb) (hd := hd) (h := by
      have e : ∀ u, u = Value.bool false → Sw P N av bor w0 ops rest ⟨(n, u) :: E, loc, X⟩ kk := fun u hu => hu ▸ h
      exact e _ (by simp only [decide_eq_false hab]))
theorem sy_gtrT {k : IntKind} {a b : Int} (hx : ev E x = some (.int k a) := by rfl) (hy : ev E y = some (.int k b) := by rfl) (hab : b < a := by (first | decide | omega)) (hg : gdB ops E g = some (bb, want) := by rfl) (hbb : bb = want := by (first | with_reducible rfl | with_reducible assumption | with_reducible exact Bool.not_false | with_reducible exact Bool.not_true)) (hd : Nat.blt n N = true := by rfl) (h : Sw P N av bor w0 ops rest ⟨(n, .bool true) :: E, loc, X⟩ kk) :
    Sw P N av bor w0 ops (⟨some n, .binOp .gtr t x y t2, ty, pos, af, g⟩ :: rest) ⟨E, loc, X⟩ kk := sy_gtr (hx := hx) (hy := hy) (hg := hg) (hbb := hbb) (hd := hd) (h := by
      have e : ∀ u, u = Value.bool true → Sw P N av bor w0 ops rest ⟨(n, u) :: E, loc, X⟩ kk := fun u hu => hu ▸ h
      exact e _ (by simp [hab]))
theorem sy_gtrF {k : IntKind} {a b : Int} (hx : ev E x = some (.int k a) := by rfl) (hy : ev E y = some (.int k b) := by rfl) (hab : ¬ b < a) (hg : gdB ops E g = some (bb, want) := by rfl) (hbb : bb = want := by (first | with_reducible rfl | with_reducible assumption | with_reducible exact Bool.not_false | with_reducible exact Bool.not_true)) (hd : Nat.blt n N = true := by rfl) (h : Sw P N av bor w0 ops rest ⟨(n, .bool false) :: E, loc, X⟩ kk) :
    Sw P N av bor w0 ops (⟨some n, .binOp .gtr t x y t2, ty, pos, af, g⟩ :: rest) ⟨E, loc, X⟩ kk := sy_gtr (hx := hx) (hy := hy) (hg := hg) (hbb := hbb) (hd := hd) (h := by
      have e : ∀ u, u = Value.bool false → Sw P N av bor w0 ops rest ⟨(n, u) :: E, loc, X⟩ kk := fun u hu => hu ▸ h
      exact e _ (by simp [hab]))
end
structure RowI where
  A : Option Addr
  c : Nat
/-- The chain with another row of activities. -/
def ChainD.with (c : ChainD) (s : SlV) (l : List ActD) : ChainD := { c with acts := s, actsL := l }
theorem cells_len (l : List ActD) : ∀ r ∈ l.map ActD.cells, r.length = 20 := by
  intro r hr
  obtain ⟨a, _, rfl⟩ := List.mem_map.1 hr
  rfl
section
variable {P : Program} {N : Nat} {av bor : List Nat} {w0 : World} {ops : Array Oper} {rest : List Oper} {kk : St → Prop} {E : Env} {loc : List Res} {X : World → Prop} {x y : Operand} {t t2 : TypeId}
variable {n : Nat} {ty : TypeId} {pos : String} {af : Array Edge} {g : Option (Nat × Bool)} {bb want : Bool}
end
section
variable {P : Program} {N : Nat} {av bor : List Nat} {w0 : World} {ops : Array Oper} {rest : List Oper} {k : St → Prop} {E : Env} {loc : List Res} {X : World → Prop}
variable {d : Option Tmp} {ty : TypeId} {pos : String} {af : Array Edge} {g : Option (Nat × Bool)} {bb want : Bool}
/-- A call that is handed no resource and may hand some back. -/
theorem sw_fn0 {x : Operand} {xs : List Operand} {ats : Array TypeId} {f : FuncId} {first caps : Array Value} {args all : List Value} {X1 : World → Prop} {Post : Value → List Res → (World → Prop) → Prop}
    (hx : ev E x = some (.func (.func f) first caps) := by rfl) (ha : evs E xs = some args := by rfl) (hall : first.toList ++ args ++ caps.toList = all := by rfl) (hg : gdB ops E g = some (bb, want) := by rfl) (hb : bb = want := by (first | with_reducible rfl | with_reducible assumption | with_reducible exact Bool.not_false | with_reducible exact Bool.not_true)) (hd : inB N d = true := by rfl) (hf : FnBody P f := by infer_instance)
    (hc : Ct P f all.toArray [] X1 Post) (hX : ∀ w, X w → X1 w := by (first | exact fun _ _ => trivial | exact fun _ h => h | exact fun _ h => h.1 | exact fun _ h => h.2))
    (h : ∀ v R X', Post v R X' → Sw P N av bor w0 ops rest ⟨putE E d v, R ++ loc, fun w => X w ∧ X' w⟩ k) :
    Sw P N av bor w0 ops (⟨d, .call ⟨.value x, xs.toArray, ats⟩, ty, pos, af, g⟩ :: rest) ⟨E, loc, X⟩ k := sw_fn (pre := []) (fr := loc) hx ha hall hg hb hd hf hc hX h
end
section
variable {P : Program} {N : Nat} {av bor : List Nat} {w0 : World} {st : St} {x y : Operand} {t t2 : TypeId} {ty : TypeId}
theorem y_sgeqF {a b : ByteArray} (hx : ev st.env x = some (.string a)) (hy : ev st.env y = some (.string b)) (hab : ltB a b = true) : Sy.Yields P N av bor w0 st (.binOp .geq t x y t2) ty (.bool false) := by
  have h := y_sgeq (P := P) (N := N) (av := av) (bor := bor) (w0 := w0) (t := t) (t2 := t2) (ty := ty) hx hy
  have e : (!Op.bytesLess a.toList b.toList) = false := by rw [show Op.bytesLess a.toList b.toList = true from hab]; rfl
  rwa [e] at h
end
end Go.Proofs.YtlankpiogfhblaaGreatDoor

/- Laws that several seats share: who posts, membership in a list. -/
set_option linter.unusedVariables false
set_option linter.unusedSimpArgs false
namespace Go.Proofs.YtlankpiogfhblaaGreatDoor
open Go Go.Proofs Sy
def postK (k : Int) : Bool := decide (k = 1) || decide (k = 2) || decide (k = 3)
theorem posting_pu (k : Int) : Pu Tryz.prog 42 #[.int .i64 k] (fun _ => True) (.bool (postK k)) := by
  refine pu_of_cw (args := [_]) _ Tryz.func42 rfl Tryz.ntmps42 rfl fun av bor w0 => ?_
  repeat' (first | apply sw_nil | apply cw_seq | apply cw_reg | refine sy_move (h := ?_) | refine sy_assign (h := ?_) | refine sy_pick_t (h := ?_) | refine sy_pick_f (h := ?_) | refine sy_eql (h := ?_) | refine sy_seql (h := ?_) | refine sw_skipT (h := ?_) | refine sw_skipF (h := ?_) | refine sw_skipU (h := ?_) | refine cw_cond_t (ht := ?_) | refine cw_cond_f (hf := ?_) | apply cw_skip | apply cw_block | apply cw_ret | apply cw_exit | refine sy_beql (h := ?_) | refine sy_arrA (h := ?_) | refine sy_strI (h := ?_) | ((fail_if_success (refine sw_chk (h := ?_))); refine sw_guard (ht := ?_) (hf := ?_); all_goals (intro hx_; first | have := of_decide_eq_true hx_ | have := of_decide_eq_false hx_ | skip)) | (refine cw_cond (ht := ?_) (hf := ?_); all_goals (intro hx_; first | have := of_decide_eq_true hx_ | have := of_decide_eq_false hx_ | skip)))
  all_goals
    apply ends_ret; apply res_tmp; rfl; rfl
    simp only [postK, *, decide_true, decide_false, cond_true, cond_false, Bool.and_true, Bool.true_and, Bool.and_false, Bool.false_and, Bool.not_true, Bool.not_false, Bool.or_true, Bool.true_or, Bool.or_false, Bool.false_or]
/-- The chain's box: it is data. -/
def ChBox (c : ChainD) (b : Nat) (w : World) : Prop := w.heap[b]? = some (.cells c.cells.toArray 38 (0, 0))
theorem ChBox.cell {c : ChainD} {b : Nat} {w : World} (h : ChBox c b w) : ∀ j v, c.cells[j]? = some v → w.cell? ⟨b, j, none⟩ = some v := fun j v hj => by
  simp [World.cell?, show w.heap[b]? = _ from h, hj]
end Go.Proofs.YtlankpiogfhblaaGreatDoor

/- An own cell becomes an own growing row. -/
set_option linter.unusedVariables false
set_option linter.unusedSimpArgs false
namespace Go.Proofs.YtlankpiogfhblaaGreatDoor
open Go Go.Proofs Sy
namespace Sy
section
variable {P : Program} {N : Nat} {av bor : List Nat} {w0 : World} {ops : Array Oper} {rest : List Oper} {E : Env} {loc : List Res} {X : World → Prop} {k : St → Prop}
/-- A cell of m whole elements is a row of the call's own. -/
theorem orow_of_cell {w : World} {b e size m : Nat} {cs : List Value} (h : w.heap[b]? = some (.cells cs.toArray e (0, 0))) (hl : cs.length = m * size) (hm : m ≤ maxLen) : ORow w e size (.slice (some ⟨b, 0, none⟩) m m) m cs :=
  ⟨hl, .inr ⟨b, m, cs.toArray, (0, 0), rfl, h, Nat.le_refl _, hm, by simpa using hl, by rw [← hl]; simp, .inl rfl⟩⟩
theorem Gam.orow {w : World} {b e size m : Nat} {cs : List Value} (hl : cs.length = m * size) (hm : m ≤ maxLen) (G : Gam av bor w0 (cel b e cs :: loc) X w) : Gam av bor w0 (orow e size (.slice (some ⟨b, 0, none⟩) m m) m cs :: loc) X w := by
  have e1 : fps (Sy.orow e size (.slice (some ⟨b, 0, none⟩) m m) m cs :: loc) = fps (cel b e cs :: loc) := by simp [fps, Sy.orow, cel, Value.ownBlock]
  refine ⟨G.fr, G.avb, by rw [e1]; exact G.nodup, by rw [e1]; exact G.own, fun r hr => ?_, by rw [e1]; exact G.keep⟩
  rcases List.mem_cons.1 hr with rfl | hr
  · exact orow_holds (orow_of_cell (G.here _ List.mem_cons_self).now hl hm)
  · exact G.here r (List.mem_cons_of_mem _ hr)
end
end Sy
end Go.Proofs.YtlankpiogfhblaaGreatDoor
