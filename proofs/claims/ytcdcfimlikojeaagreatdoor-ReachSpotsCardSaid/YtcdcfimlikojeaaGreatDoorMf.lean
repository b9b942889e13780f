/- Joined by program (wip/dev/merge.py) out of: Re Rf Ci Me We Fs Rp Ax. -/
import Derived.Test.YtcdcfimlikojeaaGreatDoorMe1
import Derived.Test.YtcdcfimlikojeaaGreatDoorMb
/- Contracts: package relation; slices.Contains. -/
set_option linter.unusedVariables false
set_option linter.unusedSimpArgs false
namespace Go.Proofs.YtcdcfimlikojeaaGreatDoor
open Go Go.Proofs Sy
instance : TyMap Tryz.prog 128 4 (keyD ByteArray) := ⟨by kernel_rfl⟩
/-! sets -/
def setM (ks : List ByteArray) : List (ByteArray × Value) := ks.map fun k => (k, .bool true)
def sput : List ByteArray → ByteArray → List ByteArray
  | [], k => [k]
  | k' :: r, k => bif KeyT.eqb k k' then k :: r else k' :: sput r k
def sdel : List ByteArray → ByteArray → List ByteArray
  | [], _ => []
  | k' :: r, k => bif KeyT.eqb k k' then r else k' :: sdel r k
theorem mput_set : ∀ (ks : List ByteArray) (k : ByteArray), mput (setM ks) k (.bool true) = setM (sput ks k)
  | [], k => rfl
  | k' :: r, k => by
    have ih := mput_set r k
    simp only [setM] at ih
    simp only [setM, List.map_cons, mput, sput]
    cases KeyT.eqb k k' with
    | true => rfl
    | false => simp only [cond_false, ih, List.map_cons]
theorem mdel_set : ∀ (ks : List ByteArray) (k : ByteArray), mdel (setM ks) k = setM (sdel ks k)
  | [], k => rfl
  | k' :: r, k => by
    have ih := mdel_set r k
    simp only [setM] at ih
    simp only [setM, List.map_cons, mdel, sdel]
    cases KeyT.eqb k k' with
    | true => rfl
    | false => simp only [cond_false, ih, List.map_cons]
theorem setAdd_ct (q : Nat) (ks : List ByteArray) (k : ByteArray) : Ct Tryz.prog 73 #[.map (some q), .string k] [mapr q (setM ks)] (fun _ => True) fun u R _ => u = .tuple #[] ∧ R = [mapr q (setM (sput ks k))] := by
  refine ct_of_cw (args := [_, _]) _ Tryz.func73 rfl Tryz.ntmps73 rfl fun av bor w0 => ?_
  repeat' (first | apply sw_nil | apply cw_seq | apply cw_reg | refine sy_move (h := ?_) | refine sy_assign (h := ?_) | refine sy_nilCheck (h := ?_) | refine sy_fld (h := ?_) | refine sy_ld (h := ?_) | refine sy_ldAll (h := ?_) | refine sy_pick_t (h := ?_) | refine sy_pick_f (h := ?_) | refine sy_not (h := ?_) | refine sy_eql (h := ?_) | refine sy_neq (h := ?_) | refine sy_lss (h := ?_) | refine sy_leq (h := ?_) | refine sy_gtr (h := ?_) | refine sy_geq (h := ?_) | refine sy_seql (h := ?_) | refine sy_sneq (h := ?_) | refine sy_slen (h := ?_) | refine sy_len (h := ?_) | refine sy_extract (h := ?_) | refine sy_add (h := ?_) | refine sy_sub (h := ?_) | refine sw_skipT (h := ?_) | refine sw_skipF (h := ?_) | refine sw_skipU (h := ?_) | refine sw_alloc (h := fun _ => ?_) | refine sw_box (h := fun _ => ?_) | refine sw_rangeS (h := fun _ => ?_) | refine sw_nextS (h1 := fun _ => ?_) (h2 := fun _ => ?_) | refine sw_bsl (h := fun _ => ?_) | refine sw_st1 (h := ?_) | refine sw_stAll (h := ?_) | refine cw_cond_t (ht := ?_) | refine cw_cond_f (hf := ?_) | apply cw_skip | apply cw_block | apply cw_ret | apply cw_exit | refine sy_and (h := ?_) | refine sy_or (h := ?_) | refine sy_xor (h := ?_) | refine sy_andNot (h := ?_) | refine sy_xorU (h := ?_) | refine sy_shl (h := ?_) | refine sy_shr (h := ?_) | refine sy_mul (h := ?_) | refine sy_int (h := ?_) | refine sy_beql (h := ?_) | refine sy_bneq (h := ?_) | refine sy_min (h := ?_) | refine sy_max (h := ?_) | refine sy_arrA (h := ?_) | refine sy_strI (h := ?_) | (refine sw_update (κ := ByteArray) (kk := k) (l := setM ks) (hA := At.here _) (h := ?_)))
  rw [mput_set]
  repeat' (first | apply sw_nil | apply cw_seq | apply cw_reg | refine sy_move (h := ?_) | refine sy_assign (h := ?_) | refine sy_nilCheck (h := ?_) | refine sy_fld (h := ?_) | refine sy_ld (h := ?_) | refine sy_ldAll (h := ?_) | refine sy_pick_t (h := ?_) | refine sy_pick_f (h := ?_) | refine sy_not (h := ?_) | refine sy_eql (h := ?_) | refine sy_neq (h := ?_) | refine sy_lss (h := ?_) | refine sy_leq (h := ?_) | refine sy_gtr (h := ?_) | refine sy_geq (h := ?_) | refine sy_seql (h := ?_) | refine sy_sneq (h := ?_) | refine sy_slen (h := ?_) | refine sy_len (h := ?_) | refine sy_extract (h := ?_) | refine sy_add (h := ?_) | refine sy_sub (h := ?_) | refine sw_skipT (h := ?_) | refine sw_skipF (h := ?_) | refine sw_skipU (h := ?_) | refine sw_alloc (h := fun _ => ?_) | refine sw_box (h := fun _ => ?_) | refine sw_rangeS (h := fun _ => ?_) | refine sw_nextS (h1 := fun _ => ?_) (h2 := fun _ => ?_) | refine sw_bsl (h := fun _ => ?_) | refine sw_st1 (h := ?_) | refine sw_stAll (h := ?_) | refine cw_cond_t (ht := ?_) | refine cw_cond_f (hf := ?_) | apply cw_skip | apply cw_block | apply cw_ret | apply cw_exit | refine sy_and (h := ?_) | refine sy_or (h := ?_) | refine sy_xor (h := ?_) | refine sy_andNot (h := ?_) | refine sy_xorU (h := ?_) | refine sy_shl (h := ?_) | refine sy_shr (h := ?_) | refine sy_mul (h := ?_) | refine sy_int (h := ?_) | refine sy_beql (h := ?_) | refine sy_bneq (h := ?_) | refine sy_min (h := ?_) | refine sy_max (h := ?_) | refine sy_arrA (h := ?_) | refine sy_strI (h := ?_))
  exact ends_end (res_none rfl) ⟨rfl, rfl⟩
theorem setDel_ct (q : Nat) (ks : List ByteArray) (k : ByteArray) : Ct Tryz.prog 129 #[.map (some q), .string k] [mapr q (setM ks)] (fun _ => True) fun u R _ => u = .tuple #[] ∧ R = [mapr q (setM (sdel ks k))] := by
  refine ct_of_cw (args := [_, _]) _ Tryz.func129 rfl Tryz.ntmps129 rfl fun av bor w0 => ?_
  repeat' (first | apply sw_nil | apply cw_seq | apply cw_reg | refine sy_move (h := ?_) | refine sy_assign (h := ?_) | refine sy_nilCheck (h := ?_) | refine sy_fld (h := ?_) | refine sy_ld (h := ?_) | refine sy_ldAll (h := ?_) | refine sy_pick_t (h := ?_) | refine sy_pick_f (h := ?_) | refine sy_not (h := ?_) | refine sy_eql (h := ?_) | refine sy_neq (h := ?_) | refine sy_lss (h := ?_) | refine sy_leq (h := ?_) | refine sy_gtr (h := ?_) | refine sy_geq (h := ?_) | refine sy_seql (h := ?_) | refine sy_sneq (h := ?_) | refine sy_slen (h := ?_) | refine sy_len (h := ?_) | refine sy_extract (h := ?_) | refine sy_add (h := ?_) | refine sy_sub (h := ?_) | refine sw_skipT (h := ?_) | refine sw_skipF (h := ?_) | refine sw_skipU (h := ?_) | refine sw_alloc (h := fun _ => ?_) | refine sw_box (h := fun _ => ?_) | refine sw_rangeS (h := fun _ => ?_) | refine sw_nextS (h1 := fun _ => ?_) (h2 := fun _ => ?_) | refine sw_bsl (h := fun _ => ?_) | refine sw_st1 (h := ?_) | refine sw_stAll (h := ?_) | refine cw_cond_t (ht := ?_) | refine cw_cond_f (hf := ?_) | apply cw_skip | apply cw_block | apply cw_ret | apply cw_exit | refine sy_and (h := ?_) | refine sy_or (h := ?_) | refine sy_xor (h := ?_) | refine sy_andNot (h := ?_) | refine sy_xorU (h := ?_) | refine sy_shl (h := ?_) | refine sy_shr (h := ?_) | refine sy_mul (h := ?_) | refine sy_int (h := ?_) | refine sy_beql (h := ?_) | refine sy_bneq (h := ?_) | refine sy_min (h := ?_) | refine sy_max (h := ?_) | refine sy_arrA (h := ?_) | refine sy_strI (h := ?_) | (refine sw_delete (κ := ByteArray) (kk := k) (l := setM ks) (hA := At.here _) (h := ?_)))
  rw [mdel_set]
  repeat' (first | apply sw_nil | apply cw_seq | apply cw_reg | refine sy_move (h := ?_) | refine sy_assign (h := ?_) | refine sy_nilCheck (h := ?_) | refine sy_fld (h := ?_) | refine sy_ld (h := ?_) | refine sy_ldAll (h := ?_) | refine sy_pick_t (h := ?_) | refine sy_pick_f (h := ?_) | refine sy_not (h := ?_) | refine sy_eql (h := ?_) | refine sy_neq (h := ?_) | refine sy_lss (h := ?_) | refine sy_leq (h := ?_) | refine sy_gtr (h := ?_) | refine sy_geq (h := ?_) | refine sy_seql (h := ?_) | refine sy_sneq (h := ?_) | refine sy_slen (h := ?_) | refine sy_len (h := ?_) | refine sy_extract (h := ?_) | refine sy_add (h := ?_) | refine sy_sub (h := ?_) | refine sw_skipT (h := ?_) | refine sw_skipF (h := ?_) | refine sw_skipU (h := ?_) | refine sw_alloc (h := fun _ => ?_) | refine sw_box (h := fun _ => ?_) | refine sw_rangeS (h := fun _ => ?_) | refine sw_nextS (h1 := fun _ => ?_) (h2 := fun _ => ?_) | refine sw_bsl (h := fun _ => ?_) | refine sw_st1 (h := ?_) | refine sw_stAll (h := ?_) | refine cw_cond_t (ht := ?_) | refine cw_cond_f (hf := ?_) | apply cw_skip | apply cw_block | apply cw_ret | apply cw_exit | refine sy_and (h := ?_) | refine sy_or (h := ?_) | refine sy_xor (h := ?_) | refine sy_andNot (h := ?_) | refine sy_xorU (h := ?_) | refine sy_shl (h := ?_) | refine sy_shr (h := ?_) | refine sy_mul (h := ?_) | refine sy_int (h := ?_) | refine sy_beql (h := ?_) | refine sy_bneq (h := ?_) | refine sy_min (h := ?_) | refine sy_max (h := ?_) | refine sy_arrA (h := ?_) | refine sy_strI (h := ?_))
  exact ends_end (res_none rfl) ⟨rfl, rfl⟩
theorem strs_flat (l : List ByteArray) : l.map encB = (strs l).flatten := by
  induction l with
  | nil => rfl
  | cons a l ih =>
    simp only [strs, List.map_cons, List.flatten_cons] at ih ⊢
    rw [ih]
    rfl
theorem strs_one (l : List ByteArray) : ∀ r ∈ strs l, r.length = 1 := by
  intro r hr
  simp only [strs, List.mem_map] at hr
  obtain ⟨x, _, rfl⟩ := hr
  rfl
/-- A row of strings of the call's own, as data. -/
theorem strs_of_orow {w : World} {e n c : Nat} {A : Option Addr} {l : List ByteArray} (h : ORow w e 1 (.slice A n c) n (l.map encB)) (hn : n = l.length) : Strs w ⟨A, n, c⟩ l := by
  rw [strs_flat] at h
  exact rows_of_orow h (by simpa [strs] using hn) (strs_one l)
theorem setList_ct (q : Nat) (ks : List ByteArray) (hs : ∀ k ∈ ks, k.size ≤ maxLen) (hl : ks.length ≤ 1000000) :
    Ct Tryz.prog 74 #[.map (some q)] [mapr q (setM ks)] (fun _ => True) fun u R _ => ∃ A c, u = .slice A ks.length c ∧ R = [orow 9 1 u ks.length ((sortB ks).map encB), mapr q (setM ks)] := by
  refine ct_of_cwS (args := [_]) (Post := fun u R => ∃ A c, u = .slice A ks.length c ∧ R = [orow 9 1 u ks.length ((sortB ks).map encB), mapr q (setM ks)]) _ Tryz.func74 rfl Tryz.ntmps74 rfl fun av bor w0 => ?_
  have hsl : (setM ks).length = ks.length := by simp [setM]
  have hsm : (setM ks).map (·.1) = ks := by simp [setM, Function.comp_def]
  have hsk := sortedSet_c.ct (M := 128)
  repeat' (first | apply sw_nil | apply cw_seq | apply cw_reg | refine sy_move (h := ?_) | refine sy_assign (h := ?_) | refine sy_nilCheck (h := ?_) | refine sy_fld (h := ?_) | refine sy_ld (h := ?_) | refine sy_ldAll (h := ?_) | refine sy_pick_t (h := ?_) | refine sy_pick_f (h := ?_) | refine sy_not (h := ?_) | refine sy_eql (h := ?_) | refine sy_neq (h := ?_) | refine sy_lss (h := ?_) | refine sy_leq (h := ?_) | refine sy_gtr (h := ?_) | refine sy_geq (h := ?_) | refine sy_seql (h := ?_) | refine sy_sneq (h := ?_) | refine sy_slen (h := ?_) | refine sy_len (h := ?_) | refine sy_extract (h := ?_) | refine sy_add (h := ?_) | refine sy_sub (h := ?_) | refine sw_skipT (h := ?_) | refine sw_skipF (h := ?_) | refine sw_skipU (h := ?_) | refine sw_alloc (h := fun _ => ?_) | refine sw_box (h := fun _ => ?_) | refine sw_rangeS (h := fun _ => ?_) | refine sw_nextS (h1 := fun _ => ?_) (h2 := fun _ => ?_) | refine sw_bsl (h := fun _ => ?_) | refine sw_st1 (h := ?_) | refine sw_stAll (h := ?_) | refine cw_cond_t (ht := ?_) | refine cw_cond_f (hf := ?_) | apply cw_skip | apply cw_block | apply cw_ret | apply cw_exit | refine sy_and (h := ?_) | refine sy_or (h := ?_) | refine sy_xor (h := ?_) | refine sy_andNot (h := ?_) | refine sy_xorU (h := ?_) | refine sy_shl (h := ?_) | refine sy_shr (h := ?_) | refine sy_mul (h := ?_) | refine sy_int (h := ?_) | refine sy_beql (h := ?_) | refine sy_bneq (h := ?_) | refine sy_min (h := ?_) | refine sy_max (h := ?_) | refine sy_arrA (h := ?_) | refine sy_strI (h := ?_))
  refine sw_fn (pre := []) (fr := [mapr q (setM ks)]) (hc := keysSet_c.ct (some q)) (hX := fun _ _ => trivial) (h := ?_)
  rintro v R X' ⟨b, rfl, rfl⟩
  refine sw_fn (pre := [cel b 128 [.map (some q)], mapr q (setM ks)]) (fr := []) (hc := sortedSet_c.ct b q (setM ks) (fun p hp => by simp only [setM, List.mem_map] at hp; obtain ⟨k, hk, rfl⟩ := hp; exact hs k hk) (by rw [hsl]; exact hl)) (hX := fun _ _ => trivial) (h := ?_)
  rintro v R X' ⟨A, c, rfl, rfl⟩
  rw [hsl, hsm]
  repeat' (first | apply sw_nil | apply cw_seq | apply cw_reg | refine sy_move (h := ?_) | refine sy_assign (h := ?_) | refine sy_nilCheck (h := ?_) | refine sy_fld (h := ?_) | refine sy_ld (h := ?_) | refine sy_ldAll (h := ?_) | refine sy_pick_t (h := ?_) | refine sy_pick_f (h := ?_) | refine sy_not (h := ?_) | refine sy_eql (h := ?_) | refine sy_neq (h := ?_) | refine sy_lss (h := ?_) | refine sy_leq (h := ?_) | refine sy_gtr (h := ?_) | refine sy_geq (h := ?_) | refine sy_seql (h := ?_) | refine sy_sneq (h := ?_) | refine sy_slen (h := ?_) | refine sy_len (h := ?_) | refine sy_extract (h := ?_) | refine sy_add (h := ?_) | refine sy_sub (h := ?_) | refine sw_skipT (h := ?_) | refine sw_skipF (h := ?_) | refine sw_skipU (h := ?_) | refine sw_alloc (h := fun _ => ?_) | refine sw_box (h := fun _ => ?_) | refine sw_rangeS (h := fun _ => ?_) | refine sw_nextS (h1 := fun _ => ?_) (h2 := fun _ => ?_) | refine sw_bsl (h := fun _ => ?_) | refine sw_st1 (h := ?_) | refine sw_stAll (h := ?_) | refine cw_cond_t (ht := ?_) | refine cw_cond_f (hf := ?_) | apply cw_skip | apply cw_block | apply cw_ret | apply cw_exit | refine sy_and (h := ?_) | refine sy_or (h := ?_) | refine sy_xor (h := ?_) | refine sy_andNot (h := ?_) | refine sy_xorU (h := ?_) | refine sy_shl (h := ?_) | refine sy_shr (h := ?_) | refine sy_mul (h := ?_) | refine sy_int (h := ?_) | refine sy_beql (h := ?_) | refine sy_bneq (h := ?_) | refine sy_min (h := ?_) | refine sy_max (h := ?_) | refine sy_arrA (h := ?_) | refine sy_strI (h := ?_))
  exact ends_ret (res_tmp rfl rfl) ⟨_, List.Sublist.cons_cons _ (List.Sublist.cons _ (List.Sublist.refl _)), A, c, rfl, rfl⟩

/-! ties -/
structure TieS where
  f : List ByteArray
  a : List ByteArray
  b : List ByteArray
  m : List ByteArray
def setsV (q1 q2 q3 q4 : Nat) : Value := .agg #[.map (some q1), .map (some q2), .map (some q3), .map (some q4)]
def setsR (q1 q2 q3 q4 : Nat) (t : TieS) : List Res := [mapr q4 (setM t.m), mapr q3 (setM t.b), mapr q2 (setM t.a), mapr q1 (setM t.f)]
def undoT (t : TieS) (x : ActD) : TieS :=
  bif decide (x.kind = 7) then { t with f := sdel t.f x.target } else bif decide (x.kind = 8) then { t with a := sdel t.a x.target } else bif decide (x.kind = 10) then { t with b := sdel t.b x.target } else bif decide (x.kind = 11) then { t with m := sdel t.m x.target } else t
theorem undo_ct (q1 q2 q3 q4 : Nat) (t : TieS) (x : ActD) : Ct Tryz.prog 130 #[setsV q1 q2 q3 q4, x.v] (setsR q1 q2 q3 q4 t) (fun _ => True) fun u R _ => u = .tuple #[] ∧ R = setsR q1 q2 q3 q4 (undoT t x) := by
  refine ct_of_cwS (args := [_, _]) (Post := fun u R => u = .tuple #[] ∧ R = setsR q1 q2 q3 q4 (undoT t x)) _ Tryz.func130 rfl Tryz.ntmps130 rfl fun av bor w0 => ?_
  unfold setsR
  repeat' (first | apply sw_nil | apply cw_seq | apply cw_reg | refine sy_move (h := ?_) | refine sy_assign (h := ?_) | refine sy_nilCheck (h := ?_) | refine sy_fld (h := ?_) | refine sy_ld (h := ?_) | refine sy_ldAll (h := ?_) | refine sy_pick_t (h := ?_) | refine sy_pick_f (h := ?_) | refine sy_not (h := ?_) | refine sy_eql (h := ?_) | refine sy_neq (h := ?_) | refine sy_lss (h := ?_) | refine sy_leq (h := ?_) | refine sy_gtr (h := ?_) | refine sy_geq (h := ?_) | refine sy_seql (h := ?_) | refine sy_sneq (h := ?_) | refine sy_slen (h := ?_) | refine sy_len (h := ?_) | refine sy_extract (h := ?_) | refine sy_add (h := ?_) | refine sy_sub (h := ?_) | refine sw_skipT (h := ?_) | refine sw_skipF (h := ?_) | refine sw_skipU (h := ?_) | refine sw_alloc (h := fun _ => ?_) | refine sw_box (h := fun _ => ?_) | refine sw_rangeS (h := fun _ => ?_) | refine sw_nextS (h1 := fun _ => ?_) (h2 := fun _ => ?_) | refine sw_bsl (h := fun _ => ?_) | refine sw_st1 (h := ?_) | refine sw_stAll (h := ?_) | refine cw_cond_t (ht := ?_) | refine cw_cond_f (hf := ?_) | apply cw_skip | apply cw_block | apply cw_ret | apply cw_exit | refine sy_and (h := ?_) | refine sy_or (h := ?_) | refine sy_xor (h := ?_) | refine sy_andNot (h := ?_) | refine sy_xorU (h := ?_) | refine sy_shl (h := ?_) | refine sy_shr (h := ?_) | refine sy_mul (h := ?_) | refine sy_int (h := ?_) | refine sy_beql (h := ?_) | refine sy_bneq (h := ?_) | refine sy_min (h := ?_) | refine sy_max (h := ?_) | refine sy_arrA (h := ?_) | refine sy_strI (h := ?_) | (refine sw_turn (hc := setDel_ct _ _ _) (hX := fun _ _ => trivial) (h := ?_)) | ((fail_if_success (refine sw_chk (h := ?_))); refine sw_guard (ht := ?_) (hf := ?_); all_goals (intro hx_; first | have := of_decide_eq_true hx_ | have := of_decide_eq_false hx_ | skip)) | (refine cw_cond (ht := ?_) (hf := ?_); all_goals (intro hx_; first | have := of_decide_eq_true hx_ | have := of_decide_eq_false hx_ | skip)))
  all_goals (
    refine ends_end (res_none rfl) ⟨_, List.Sublist.cons _ (List.Sublist.cons _ (List.Sublist.refl _)), rfl, ?_⟩
    simp only [undoT, *, Int.reduceEq, decide_true, decide_false, cond_true, cond_false, Bool.and_true, Bool.true_and, Bool.and_false, Bool.false_and, Bool.not_true, Bool.not_false, Bool.or_true, Bool.true_or, Bool.or_false, Bool.false_or])
def limN (n : Int) (len : Nat) : Nat := (if (len : Int) < (if n < 0 then 0 else n) then (len : Int) else (if n < 0 then 0 else n)).toNat
theorem limN_eq (n : Int) (len : Nat) : limN n len = min n.toNat len := by
  unfold limN
  split <;> split <;> omega
def stepT (l : List ActD) (i : Nat) (t : TieS) (x : ActD) : TieS :=
  bif decide (x.kind = 7) then { t with f := sput t.f x.target } else bif decide (x.kind = 8) then { t with a := sput t.a x.target } else bif decide (x.kind = 9) then { t with a := sdel t.a x.target }
  else bif decide (x.kind = 10) then { t with b := sput t.b x.target, f := sdel t.f x.target, a := sdel t.a x.target } else bif decide (x.kind = 11) then { t with m := sput t.m x.target }
  else bif decide (x.kind = 6) then (match idxV l x.object with | some j => bif decide ((j : Int) < (i : Int)) then undoT t (l.getD j ActD.zero) else t | none => t) else t
def tieF (l : List ActD) : Nat → TieS
  | 0 => ⟨[], [], [], []⟩
  | i + 1 => stepT l i (tieF l i) (l.getD i ActD.zero)
def tieV (l : List ActD) (n : Int) : TieS := tieF l (limN n l.length)
theorem idxV_lt {l : List ActD} {d : ByteArray} {j : Nat} (h : idxV l d = some j) : j < l.length := by
  rw [idxV, List.findIdx?_eq_some_iff_getElem] at h
  exact h.1
theorem Acts.cap_ {w : World} {s : SlV} {l : List ActD} (h : Acts w s l) : s.n ≤ s.c := RowsD.cap h.1
theorem tie_ct (c : ChainD) (hc : ActsOk c.actsL) (n : Int) : Ct Tryz.prog 75 #[c.v, .int .i64 n] [] (fun w => c.at_ w ∧ Glob w) fun u R _ => ∃ q1 q2 q3 q4, u = setsV q1 q2 q3 q4 ∧ R = setsR q1 q2 q3 q4 (tieV c.actsL n) := by
  refine ct_of_cwS (args := [_, _]) (Post := fun u R => ∃ q1 q2 q3 q4, u = setsV q1 q2 q3 q4 ∧ R = setsR q1 q2 q3 q4 (tieV c.actsL n)) _ Tryz.func75 rfl Tryz.ntmps75 rfl fun av bor w0 => ?_
  refine cw_know (p := c.acts.n = c.actsL.length ∧ c.acts.n ≤ maxLen ∧ (0 < c.actsL.length → c.acts.p.isSome = true) ∧ c.acts.n ≤ c.acts.c) (fun w h => ⟨h.1.len_, h.1.max_, h.1.some_, h.1.cap_⟩) fun ⟨hl, hm, hp, hcap⟩ => ?_
  simp only [maxLen] at hm
  have hlim := limN_eq n c.acts.n
  have hlN : limN n c.acts.n ≤ c.acts.n := by omega
  repeat' (first | apply sw_nil | apply cw_seq | apply cw_reg | refine sy_move (h := ?_) | refine sy_assign (h := ?_) | refine sy_nilCheck (h := ?_) | refine sy_fld (h := ?_) | refine sy_ld (h := ?_) | refine sy_ldAll (h := ?_) | refine sy_pick_t (h := ?_) | refine sy_pick_f (h := ?_) | refine sy_not (h := ?_) | refine sy_eql (h := ?_) | refine sy_neq (h := ?_) | refine sy_lss (h := ?_) | refine sy_leq (h := ?_) | refine sy_gtr (h := ?_) | refine sy_geq (h := ?_) | refine sy_seql (h := ?_) | refine sy_sneq (h := ?_) | refine sy_slen (h := ?_) | refine sy_len (h := ?_) | refine sy_extract (h := ?_) | refine sy_add (h := ?_) | refine sy_sub (h := ?_) | refine sw_skipT (h := ?_) | refine sw_skipF (h := ?_) | refine sw_skipU (h := ?_) | refine sw_alloc (h := fun _ => ?_) | refine sw_box (h := fun _ => ?_) | refine sw_rangeS (h := fun _ => ?_) | refine sw_nextS (h1 := fun _ => ?_) (h2 := fun _ => ?_) | refine sw_bsl (h := fun _ => ?_) | refine sw_st1 (h := ?_) | refine sw_stAll (h := ?_) | refine cw_cond_t (ht := ?_) | refine cw_cond_f (hf := ?_) | apply cw_skip | apply cw_block | apply cw_ret | apply cw_exit | refine sy_and (h := ?_) | refine sy_or (h := ?_) | refine sy_xor (h := ?_) | refine sy_andNot (h := ?_) | refine sy_xorU (h := ?_) | refine sy_shl (h := ?_) | refine sy_shr (h := ?_) | refine sy_mul (h := ?_) | refine sy_int (h := ?_) | refine sy_beql (h := ?_) | refine sy_bneq (h := ?_) | refine sy_min (h := ?_) | refine sy_max (h := ?_) | refine sy_arrA (h := ?_) | refine sy_strI (h := ?_) | (refine sw_makeMap ByteArray (h := fun _ => ?_)) | (refine sy_build (h := ?_)))
  refine sy_slcH (h0 := by split <;> split <;> omega) (h1 := by split <;> split <;> omega) (h := ?_)
  repeat' (first | apply sw_nil | apply cw_seq | apply cw_reg | refine sy_move (h := ?_) | refine sy_assign (h := ?_) | refine sy_nilCheck (h := ?_) | refine sy_fld (h := ?_) | refine sy_ld (h := ?_) | refine sy_ldAll (h := ?_) | refine sy_pick_t (h := ?_) | refine sy_pick_f (h := ?_) | refine sy_not (h := ?_) | refine sy_eql (h := ?_) | refine sy_neq (h := ?_) | refine sy_lss (h := ?_) | refine sy_leq (h := ?_) | refine sy_gtr (h := ?_) | refine sy_geq (h := ?_) | refine sy_seql (h := ?_) | refine sy_sneq (h := ?_) | refine sy_slen (h := ?_) | refine sy_len (h := ?_) | refine sy_extract (h := ?_) | refine sy_add (h := ?_) | refine sy_sub (h := ?_) | refine sw_skipT (h := ?_) | refine sw_skipF (h := ?_) | refine sw_skipU (h := ?_) | refine sw_alloc (h := fun _ => ?_) | refine sw_box (h := fun _ => ?_) | refine sw_rangeS (h := fun _ => ?_) | refine sw_nextS (h1 := fun _ => ?_) (h2 := fun _ => ?_) | refine sw_bsl (h := fun _ => ?_) | refine sw_st1 (h := ?_) | refine sw_stAll (h := ?_) | refine cw_cond_t (ht := ?_) | refine cw_cond_f (hf := ?_) | apply cw_skip | apply cw_block | apply cw_ret | apply cw_exit | refine sy_and (h := ?_) | refine sy_or (h := ?_) | refine sy_xor (h := ?_) | refine sy_andNot (h := ?_) | refine sy_xorU (h := ?_) | refine sy_shl (h := ?_) | refine sy_shr (h := ?_) | refine sy_mul (h := ?_) | refine sy_int (h := ?_) | refine sy_beql (h := ?_) | refine sy_bneq (h := ?_) | refine sy_min (h := ?_) | refine sy_max (h := ?_) | refine sy_arrA (h := ?_) | refine sy_strI (h := ?_))
  rename_i b2 b4 q1 q2 q3 q4 b5
  refine cw_loop (ι := Kth (limN n c.acts.n)) (fun i => ⟨[(2, .pointer (some ⟨b2, 0, none⟩)), (4, .pointer (some ⟨b4, 0, none⟩)), (5, .pointer (some ⟨b5, 0, none⟩)), (24, .slice c.acts.p (limN n c.acts.n) c.acts.c), (25, .int .i64 (limN n c.acts.n)), (26, .int .i64 i.k)],
    setsR q1 q2 q3 q4 (tieF c.actsL i.k) ++ [cel b5 130 (setsV q1 q2 q3 q4).cells.toList, cel b4 130 [.map none, .map none, .map none, .map none], cel b2 30 c.cells], fun w => c.at_ w ∧ Glob w⟩) (fun i => limN n c.acts.n - i.k) ⟨0, Nat.zero_le _⟩
    (ok_perm ⟨rfl, rfl, rfl, rfl, rfl, rfl, trivial⟩ (List.perm_middle (l₁ := setsR q1 q2 q3 q4 ⟨[], [], [], []⟩) (a := cel b5 130 (setsV q1 q2 q3 q4).cells.toList) (l₂ := [cel b4 130 [.map none, .map none, .map none, .map none], cel b2 30 c.cells])).symm fun _ h => h) fun i => ?_
  have hik := i.hk
  repeat' (first | apply sw_nil | apply cw_seq | apply cw_reg | refine sy_move (h := ?_) | refine sy_assign (h := ?_) | refine sy_nilCheck (h := ?_) | refine sy_fld (h := ?_) | refine sy_ld (h := ?_) | refine sy_ldAll (h := ?_) | refine sy_pick_t (h := ?_) | refine sy_pick_f (h := ?_) | refine sy_not (h := ?_) | refine sy_eql (h := ?_) | refine sy_neq (h := ?_) | refine sy_lss (h := ?_) | refine sy_leq (h := ?_) | refine sy_gtr (h := ?_) | refine sy_geq (h := ?_) | refine sy_seql (h := ?_) | refine sy_sneq (h := ?_) | refine sy_slen (h := ?_) | refine sy_len (h := ?_) | refine sy_extract (h := ?_) | refine sy_add (h := ?_) | refine sy_sub (h := ?_) | refine sw_skipT (h := ?_) | refine sw_skipF (h := ?_) | refine sw_skipU (h := ?_) | refine sw_alloc (h := fun _ => ?_) | refine sw_box (h := fun _ => ?_) | refine sw_rangeS (h := fun _ => ?_) | refine sw_nextS (h1 := fun _ => ?_) (h2 := fun _ => ?_) | refine sw_bsl (h := fun _ => ?_) | refine sw_st1 (h := ?_) | refine sw_stAll (h := ?_) | refine cw_cond_t (ht := ?_) | refine cw_cond_f (hf := ?_) | apply cw_skip | apply cw_block | apply cw_ret | apply cw_exit | refine sy_and (h := ?_) | refine sy_or (h := ?_) | refine sy_xor (h := ?_) | refine sy_andNot (h := ?_) | refine sy_xorU (h := ?_) | refine sy_shl (h := ?_) | refine sy_shr (h := ?_) | refine sy_mul (h := ?_) | refine sy_int (h := ?_) | refine sy_beql (h := ?_) | refine sy_bneq (h := ?_) | refine sy_min (h := ?_) | refine sy_max (h := ?_) | refine sy_arrA (h := ?_) | refine sy_strI (h := ?_) | ((fail_if_success (refine sw_chk (h := ?_))); refine sw_guard (ht := ?_) (hf := ?_); all_goals (intro hx_; first | have := of_decide_eq_true hx_ | have := of_decide_eq_false hx_ | skip)) | (refine cw_cond (ht := ?_) (hf := ?_); all_goals (intro hx_; first | have := of_decide_eq_true hx_ | have := of_decide_eq_false hx_ | skip)))
  · have hlt : i.k < limN n c.acts.n := by omega
    have hltL : i.k < c.actsL.length := by omega
    have hp' := hp (by omega)
    obtain ⟨x, hx⟩ : ∃ x, c.actsL[i.k]? = some x := ⟨_, List.getElem?_eq_getElem hltL⟩
    have hstep : tieF c.actsL (i.k + 1) = stepT c.actsL i.k (tieF c.actsL i.k) x := by simp only [tieF, List.getD_eq_getElem?_getD, hx, Option.getD_some]
    generalize ht : tieF c.actsL i.k = t at *
    unfold setsR
    repeat' (first | apply sw_nil | apply cw_seq | apply cw_reg | refine sy_move (h := ?_) | refine sy_assign (h := ?_) | refine sy_nilCheck (h := ?_) | refine sy_fld (h := ?_) | refine sy_ld (h := ?_) | refine sy_ldAll (h := ?_) | refine sy_pick_t (h := ?_) | refine sy_pick_f (h := ?_) | refine sy_not (h := ?_) | refine sy_eql (h := ?_) | refine sy_neq (h := ?_) | refine sy_lss (h := ?_) | refine sy_leq (h := ?_) | refine sy_gtr (h := ?_) | refine sy_geq (h := ?_) | refine sy_seql (h := ?_) | refine sy_sneq (h := ?_) | refine sy_slen (h := ?_) | refine sy_len (h := ?_) | refine sy_extract (h := ?_) | refine sy_add (h := ?_) | refine sy_sub (h := ?_) | refine sw_skipT (h := ?_) | refine sw_skipF (h := ?_) | refine sw_skipU (h := ?_) | refine sw_alloc (h := fun _ => ?_) | refine sw_box (h := fun _ => ?_) | refine sw_rangeS (h := fun _ => ?_) | refine sw_nextS (h1 := fun _ => ?_) (h2 := fun _ => ?_) | refine sw_bsl (h := fun _ => ?_) | refine sw_st1 (h := ?_) | refine sw_stAll (h := ?_) | refine cw_cond_t (ht := ?_) | refine cw_cond_f (hf := ?_) | apply cw_skip | apply cw_block | apply cw_ret | apply cw_exit | refine sy_and (h := ?_) | refine sy_or (h := ?_) | refine sy_xor (h := ?_) | refine sy_andNot (h := ?_) | refine sy_xorU (h := ?_) | refine sy_shl (h := ?_) | refine sy_shr (h := ?_) | refine sy_mul (h := ?_) | refine sy_int (h := ?_) | refine sy_beql (h := ?_) | refine sy_bneq (h := ?_) | refine sy_min (h := ?_) | refine sy_max (h := ?_) | refine sy_arrA (h := ?_) | refine sy_strI (h := ?_) | (refine sy_idxX (q := i.k * 20) (h := ?_)) | (refine sy_ldXs (cs := x.cells) (hF := fun w h => Acts.get h.1 hx) (h := ?_)) | (refine sw_turn (hc := setAdd_ct _ _ _) (hX := fun _ _ => trivial) (h := ?_)) | (refine sw_turn (hc := setDel_ct _ _ _) (hX := fun _ _ => trivial) (h := ?_)) | ((fail_if_success (refine sw_chk (h := ?_))); refine sw_guard (ht := ?_) (hf := ?_); all_goals (intro hx_; first | have := of_decide_eq_true hx_ | have := of_decide_eq_false hx_ | skip)) | (refine cw_cond (ht := ?_) (hf := ?_); all_goals (intro hx_; first | have := of_decide_eq_true hx_ | have := of_decide_eq_false hx_ | skip)))
    all_goals first
      | exact ⟨(⟨i.k + 1, hlt⟩ : Kth (limN n c.acts.n)), (by show limN n c.acts.n - (i.k + 1) < limN n c.acts.n - i.k; omega), ok_sub ⟨rfl, rfl, rfl, rfl, rfl, rfl, trivial⟩ (List.Sublist.cons _ (by
          rw [hstep]
          simp only [stepT, setsR, *, decide_true, decide_false, cond_true, cond_false, Bool.and_true, Bool.true_and, Bool.and_false, Bool.false_and, Bool.not_true, Bool.not_false, Bool.or_true, Bool.true_or, Bool.or_false, Bool.false_or]
          exact List.Sublist.refl _)) fun _ h => h⟩
      | skip
    rcases ho : idxV c.actsL x.object with _ | j
    · have hip : Pu Tryz.prog 32 #[c.v, .string x.object] (fun w => c.at_ w ∧ Glob w) (.tuple #[.int .i64 0, .bool false]) := by have := index_pu c hc x.object; rwa [ho] at this
      repeat' (first | apply sw_nil | apply cw_seq | apply cw_reg | refine sy_move (h := ?_) | refine sy_assign (h := ?_) | refine sy_nilCheck (h := ?_) | refine sy_fld (h := ?_) | refine sy_ld (h := ?_) | refine sy_ldAll (h := ?_) | refine sy_pick_t (h := ?_) | refine sy_pick_f (h := ?_) | refine sy_not (h := ?_) | refine sy_eql (h := ?_) | refine sy_neq (h := ?_) | refine sy_lss (h := ?_) | refine sy_leq (h := ?_) | refine sy_gtr (h := ?_) | refine sy_geq (h := ?_) | refine sy_seql (h := ?_) | refine sy_sneq (h := ?_) | refine sy_slen (h := ?_) | refine sy_len (h := ?_) | refine sy_extract (h := ?_) | refine sy_add (h := ?_) | refine sy_sub (h := ?_) | refine sw_skipT (h := ?_) | refine sw_skipF (h := ?_) | refine sw_skipU (h := ?_) | refine sw_alloc (h := fun _ => ?_) | refine sw_box (h := fun _ => ?_) | refine sw_rangeS (h := fun _ => ?_) | refine sw_nextS (h1 := fun _ => ?_) (h2 := fun _ => ?_) | refine sw_bsl (h := fun _ => ?_) | refine sw_st1 (h := ?_) | refine sw_stAll (h := ?_) | refine cw_cond_t (ht := ?_) | refine cw_cond_f (hf := ?_) | apply cw_skip | apply cw_block | apply cw_ret | apply cw_exit | refine sy_and (h := ?_) | refine sy_or (h := ?_) | refine sy_xor (h := ?_) | refine sy_andNot (h := ?_) | refine sy_xorU (h := ?_) | refine sy_shl (h := ?_) | refine sy_shr (h := ?_) | refine sy_mul (h := ?_) | refine sy_int (h := ?_) | refine sy_beql (h := ?_) | refine sy_bneq (h := ?_) | refine sy_min (h := ?_) | refine sy_max (h := ?_) | refine sy_arrA (h := ?_) | refine sy_strI (h := ?_) | refine sw_pu (hc := hip) (h := ?_) | ((fail_if_success (refine sw_chk (h := ?_))); refine sw_guard (ht := ?_) (hf := ?_); all_goals (intro hx_; first | have := of_decide_eq_true hx_ | have := of_decide_eq_false hx_ | skip)) | (refine cw_cond (ht := ?_) (hf := ?_); all_goals (intro hx_; first | have := of_decide_eq_true hx_ | have := of_decide_eq_false hx_ | skip)))
      exact ⟨(⟨i.k + 1, hlt⟩ : Kth (limN n c.acts.n)), (by show limN n c.acts.n - (i.k + 1) < limN n c.acts.n - i.k; omega), ok_sub ⟨rfl, rfl, rfl, rfl, rfl, rfl, trivial⟩ (List.Sublist.cons _ (by
          rw [hstep]
          simp only [stepT, setsR, *, decide_true, decide_false, cond_true, cond_false, Bool.and_true, Bool.true_and, Bool.and_false, Bool.false_and, Bool.not_true, Bool.not_false, Bool.or_true, Bool.true_or, Bool.or_false, Bool.false_or]
          exact List.Sublist.refl _)) fun _ h => h⟩
    · have hip : Pu Tryz.prog 32 #[c.v, .string x.object] (fun w => c.at_ w ∧ Glob w) (.tuple #[.int .i64 (j : Int), .bool true]) := by have := index_pu c hc x.object; rwa [ho] at this
      have hjl := idxV_lt ho
      obtain ⟨y, hy⟩ : ∃ y, c.actsL[j]? = some y := ⟨_, List.getElem?_eq_getElem hjl⟩
      have hgy : c.actsL.getD j ActD.zero = y := by simp [hy]
      repeat' (first | apply sw_nil | apply cw_seq | apply cw_reg | refine sy_move (h := ?_) | refine sy_assign (h := ?_) | refine sy_nilCheck (h := ?_) | refine sy_fld (h := ?_) | refine sy_ld (h := ?_) | refine sy_ldAll (h := ?_) | refine sy_pick_t (h := ?_) | refine sy_pick_f (h := ?_) | refine sy_not (h := ?_) | refine sy_eql (h := ?_) | refine sy_neq (h := ?_) | refine sy_lss (h := ?_) | refine sy_leq (h := ?_) | refine sy_gtr (h := ?_) | refine sy_geq (h := ?_) | refine sy_seql (h := ?_) | refine sy_sneq (h := ?_) | refine sy_slen (h := ?_) | refine sy_len (h := ?_) | refine sy_extract (h := ?_) | refine sy_add (h := ?_) | refine sy_sub (h := ?_) | refine sw_skipT (h := ?_) | refine sw_skipF (h := ?_) | refine sw_skipU (h := ?_) | refine sw_alloc (h := fun _ => ?_) | refine sw_box (h := fun _ => ?_) | refine sw_rangeS (h := fun _ => ?_) | refine sw_nextS (h1 := fun _ => ?_) (h2 := fun _ => ?_) | refine sw_bsl (h := fun _ => ?_) | refine sw_st1 (h := ?_) | refine sw_stAll (h := ?_) | refine cw_cond_t (ht := ?_) | refine cw_cond_f (hf := ?_) | apply cw_skip | apply cw_block | apply cw_ret | apply cw_exit | refine sy_and (h := ?_) | refine sy_or (h := ?_) | refine sy_xor (h := ?_) | refine sy_andNot (h := ?_) | refine sy_xorU (h := ?_) | refine sy_shl (h := ?_) | refine sy_shr (h := ?_) | refine sy_mul (h := ?_) | refine sy_int (h := ?_) | refine sy_beql (h := ?_) | refine sy_bneq (h := ?_) | refine sy_min (h := ?_) | refine sy_max (h := ?_) | refine sy_arrA (h := ?_) | refine sy_strI (h := ?_) | refine sw_pu (hc := hip) (h := ?_) | ((fail_if_success (refine sw_chk (h := ?_))); refine sw_guard (ht := ?_) (hf := ?_); all_goals (intro hx_; first | have := of_decide_eq_true hx_ | have := of_decide_eq_false hx_ | skip)) | (refine cw_cond (ht := ?_) (hf := ?_); all_goals (intro hx_; first | have := of_decide_eq_true hx_ | have := of_decide_eq_false hx_ | skip)))
      · refine cw_drop (List.Sublist.cons _ (List.Sublist.refl _)) ?_
        (refine cw_draw [] (fun _ => True) (by kernel_rfl) ?_)
        all_goals (refine aw_take 1 (h := ?_))
        all_goals (refine aw_take 3 (h := ?_))
        all_goals (refine aw_two 0 2 (h := ?_) (h' := ?_); (focus (((first | (refine sy_ld (h := ?_)) | (refine sy_ldAll (h := ?_)) | (refine sy_ldXs (cs := y.cells) (hF := fun w h => Acts.get h.1 hy) (h := ?_))); apply sw_nil; refine aw_fin (h := ?_)); all_goals ((refine aw_step 2 (h := ?_); (first | (refine sy_ld (h := ?_)) | (refine sy_ldAll (h := ?_)) | (refine sy_ldXs (cs := y.cells) (hF := fun w h => Acts.get h.1 hy) (h := ?_))); apply sw_nil; refine aw_fin (h := ?_)); all_goals (first | refine aw_take 4 (h := ?_) | refine aw_take 4 (hy := by (first | (apply y_idxX (q := j * 20); rfl; rfl; omega; omega; assumption; omega))) (h := ?_)); all_goals (refine aw_step 5 (h := ?_); (first | (refine sy_ld (h := ?_)) | (refine sy_ldAll (h := ?_)) | (refine sy_ldXs (cs := y.cells) (hF := fun w h => Acts.get h.1 hy) (h := ?_))); apply sw_nil; refine aw_fin (h := ?_)); all_goals (refine aw_step 6 (h := ?_); (first | (refine sw_fn (pre := setsR q1 q2 q3 q4 t) (fr := [cel b5 130 (setsV q1 q2 q3 q4).cells.toList, cel b4 130 [.map none, .map none, .map none, .map none], cel b2 30 c.cells]) (hc := undo_ct q1 q2 q3 q4 t y) (hX := fun _ _ => trivial) (h := ?_); rintro _ _ X' ⟨rfl, rfl⟩)); apply sw_nil; refine aw_fin (h := ?_)); all_goals (refine aw_done (h := ?_))))); rotate_right; (focus (((first | (refine sy_ld (h := ?_)) | (refine sy_ldAll (h := ?_)) | (refine sy_ldXs (cs := y.cells) (hF := fun w h => Acts.get h.1 hy) (h := ?_))); apply sw_nil; refine aw_fin (h := ?_)); all_goals ((first | refine aw_take 4 (h := ?_) | refine aw_take 4 (hy := by (first | (apply y_idxX (q := j * 20); rfl; rfl; omega; omega; assumption; omega))) (h := ?_)); all_goals (refine aw_two 0 5 (h := ?_) (h' := ?_); (focus (((first | (refine sy_ld (h := ?_)) | (refine sy_ldAll (h := ?_)) | (refine sy_ldXs (cs := y.cells) (hF := fun w h => Acts.get h.1 hy) (h := ?_))); apply sw_nil; refine aw_fin (h := ?_)); all_goals ((refine aw_step 5 (h := ?_); (first | (refine sy_ld (h := ?_)) | (refine sy_ldAll (h := ?_)) | (refine sy_ldXs (cs := y.cells) (hF := fun w h => Acts.get h.1 hy) (h := ?_))); apply sw_nil; refine aw_fin (h := ?_)); all_goals (refine aw_step 6 (h := ?_); (first | (refine sw_fn (pre := setsR q1 q2 q3 q4 t) (fr := [cel b5 130 (setsV q1 q2 q3 q4).cells.toList, cel b4 130 [.map none, .map none, .map none, .map none], cel b2 30 c.cells]) (hc := undo_ct q1 q2 q3 q4 t y) (hX := fun _ _ => trivial) (h := ?_); rintro _ _ X' ⟨rfl, rfl⟩)); apply sw_nil; refine aw_fin (h := ?_)); all_goals (refine aw_done (h := ?_))))); rotate_right; (focus (((first | (refine sy_ld (h := ?_)) | (refine sy_ldAll (h := ?_)) | (refine sy_ldXs (cs := y.cells) (hF := fun w h => Acts.get h.1 hy) (h := ?_))); apply sw_nil; refine aw_fin (h := ?_)); all_goals ((refine aw_step 0 (h := ?_); (first | (refine sy_ld (h := ?_)) | (refine sy_ldAll (h := ?_)) | (refine sy_ldXs (cs := y.cells) (hF := fun w h => Acts.get h.1 hy) (h := ?_))); apply sw_nil; refine aw_fin (h := ?_)); all_goals (refine aw_step 6 (h := ?_); (first | (refine sw_fn (pre := setsR q1 q2 q3 q4 t) (fr := [cel b5 130 (setsV q1 q2 q3 q4).cells.toList, cel b4 130 [.map none, .map none, .map none, .map none], cel b2 30 c.cells]) (hc := undo_ct q1 q2 q3 q4 t y) (hX := fun _ _ => trivial) (h := ?_); rintro _ _ X' ⟨rfl, rfl⟩)); apply sw_nil; refine aw_fin (h := ?_)); all_goals (refine aw_done (h := ?_))))))))))
        all_goals (repeat' (first | apply sw_nil | apply cw_seq | apply cw_reg | refine sy_move (h := ?_) | refine sy_assign (h := ?_) | refine sy_nilCheck (h := ?_) | refine sy_fld (h := ?_) | refine sy_ld (h := ?_) | refine sy_ldAll (h := ?_) | refine sy_pick_t (h := ?_) | refine sy_pick_f (h := ?_) | refine sy_not (h := ?_) | refine sy_eql (h := ?_) | refine sy_neq (h := ?_) | refine sy_lss (h := ?_) | refine sy_leq (h := ?_) | refine sy_gtr (h := ?_) | refine sy_geq (h := ?_) | refine sy_seql (h := ?_) | refine sy_sneq (h := ?_) | refine sy_slen (h := ?_) | refine sy_len (h := ?_) | refine sy_extract (h := ?_) | refine sy_add (h := ?_) | refine sy_sub (h := ?_) | refine sw_skipT (h := ?_) | refine sw_skipF (h := ?_) | refine sw_skipU (h := ?_) | refine sw_alloc (h := fun _ => ?_) | refine sw_box (h := fun _ => ?_) | refine sw_rangeS (h := fun _ => ?_) | refine sw_nextS (h1 := fun _ => ?_) (h2 := fun _ => ?_) | refine sw_bsl (h := fun _ => ?_) | refine sw_st1 (h := ?_) | refine sw_stAll (h := ?_) | refine cw_cond_t (ht := ?_) | refine cw_cond_f (hf := ?_) | apply cw_skip | apply cw_block | apply cw_ret | apply cw_exit | refine sy_and (h := ?_) | refine sy_or (h := ?_) | refine sy_xor (h := ?_) | refine sy_andNot (h := ?_) | refine sy_xorU (h := ?_) | refine sy_shl (h := ?_) | refine sy_shr (h := ?_) | refine sy_mul (h := ?_) | refine sy_int (h := ?_) | refine sy_beql (h := ?_) | refine sy_bneq (h := ?_) | refine sy_min (h := ?_) | refine sy_max (h := ?_) | refine sy_arrA (h := ?_) | refine sy_strI (h := ?_) | ((fail_if_success (refine sw_chk (h := ?_))); refine sw_guard (ht := ?_) (hf := ?_); all_goals (intro hx_; first | have := of_decide_eq_true hx_ | have := of_decide_eq_false hx_ | skip)) | (refine cw_cond (ht := ?_) (hf := ?_); all_goals (intro hx_; first | have := of_decide_eq_true hx_ | have := of_decide_eq_false hx_ | skip))))
        all_goals exact ⟨(⟨i.k + 1, hlt⟩ : Kth (limN n c.acts.n)), (by show limN n c.acts.n - (i.k + 1) < limN n c.acts.n - i.k; omega), ok_sub ⟨rfl, rfl, rfl, rfl, rfl, rfl, trivial⟩ (by
          rw [hstep]
          simp only [stepT, *, decide_true, decide_false, cond_true, cond_false, Bool.and_true, Bool.true_and, Bool.and_false, Bool.false_and, Bool.not_true, Bool.not_false, Bool.or_true, Bool.true_or, Bool.or_false, Bool.false_or]
          exact List.Sublist.refl _) fun _ h => h.1⟩
      · exact ⟨(⟨i.k + 1, hlt⟩ : Kth (limN n c.acts.n)), (by show limN n c.acts.n - (i.k + 1) < limN n c.acts.n - i.k; omega), ok_sub ⟨rfl, rfl, rfl, rfl, rfl, rfl, trivial⟩ (List.Sublist.cons _ (by
          rw [hstep]
          simp only [stepT, setsR, *, decide_true, decide_false, cond_true, cond_false, Bool.and_true, Bool.true_and, Bool.and_false, Bool.false_and, Bool.not_true, Bool.not_false, Bool.or_true, Bool.true_or, Bool.or_false, Bool.false_or]
          exact List.Sublist.refl _)) fun _ h => h⟩
  have hk : i.k = limN n c.acts.n := by omega
  refine ends_ret (res_cell rfl rfl (by (repeat (first | exact List.mem_cons_self | apply List.mem_cons_of_mem))) (by rfl)) ⟨setsR q1 q2 q3 q4 (tieF c.actsL i.k), List.Sublist.cons_cons _ (List.Sublist.cons_cons _ (List.Sublist.cons_cons _ (List.Sublist.cons_cons _ (List.nil_sublist _)))), q1, q2, q3, q4, rfl, ?_⟩
  rw [tieV, ← hl, hk]
end Go.Proofs.YtcdcfimlikojeaaGreatDoor

/- Contracts: relation.Of; slices.Index, Contains, Equal over strings; agoraref21's. -/
set_option linter.unusedVariables false
set_option linter.unusedSimpArgs false
namespace Go.Proofs.YtcdcfimlikojeaaGreatDoor
open Go Go.Proofs Sy
structure LBnd (k : Nat) (l : List ByteArray) : Prop where
  len : l.length ≤ k
  size : ∀ x ∈ l, x.size ≤ maxLen
theorem LBnd.mono {k k' : Nat} {l : List ByteArray} (h : LBnd k l) (hk : k ≤ k') : LBnd k' l := ⟨Nat.le_trans h.len hk, h.size⟩
theorem sput_bnd {k : Nat} {x : ByteArray} (hx : x.size ≤ maxLen) : ∀ {l : List ByteArray}, LBnd k l → LBnd (k + 1) (sput l x)
  | [], _ => ⟨by simp [sput], by simp [sput, hx]⟩
  | a :: r, h => by
    simp only [sput]
    cases KeyT.eqb x a with
    | true => exact ⟨by have := h.len; simp at this ⊢; omega, fun y hy => by rcases List.mem_cons.1 hy with rfl | hy; exact hx; exact h.size y (List.mem_cons_of_mem _ hy)⟩
    | false =>
      cases k with
      | zero => have := h.len; simp at this
      | succ k =>
        have ih := sput_bnd (k := k) hx (l := r) ⟨by have := h.len; simp at this; omega, fun y hy => h.size y (List.mem_cons_of_mem _ hy)⟩
        exact ⟨by have := ih.len; simp; omega, fun y hy => by rcases List.mem_cons.1 hy with rfl | hy; exact h.size _ List.mem_cons_self; exact ih.size y hy⟩
theorem sdel_bnd {k : Nat} {x : ByteArray} : ∀ {l : List ByteArray}, LBnd k l → LBnd k (sdel l x)
  | [], h => h
  | a :: r, h => by
    simp only [sdel]
    cases KeyT.eqb x a with
    | true => exact (show LBnd k r from ⟨by have := h.len; simp at this; omega, fun y hy => h.size y (List.mem_cons_of_mem _ hy)⟩)
    | false =>
      cases k with
      | zero => have := h.len; simp at this
      | succ k =>
        have ih := sdel_bnd (k := k) (x := x) (l := r) ⟨by have := h.len; simp at this; omega, fun y hy => h.size y (List.mem_cons_of_mem _ hy)⟩
        exact ⟨by have := ih.len; simp; omega, fun y hy => by rcases List.mem_cons.1 hy with rfl | hy; exact h.size _ List.mem_cons_self; exact ih.size y hy⟩
structure TBnd (k : Nat) (t : TieS) : Prop where
  f : LBnd k t.f
  a : LBnd k t.a
  b : LBnd k t.b
  m : LBnd k t.m
theorem TBnd.mono {k k' : Nat} {t : TieS} (h : TBnd k t) (hk : k ≤ k') : TBnd k' t := ⟨h.f.mono hk, h.a.mono hk, h.b.mono hk, h.m.mono hk⟩
theorem undoT_bnd {k : Nat} {t : TieS} (h : TBnd k t) (x : ActD) : TBnd k (undoT t x) := by
  unfold undoT
  cases decide (x.kind = 7) <;> cases decide (x.kind = 8) <;> cases decide (x.kind = 10) <;> cases decide (x.kind = 11)
  all_goals first
    | exact ⟨sdel_bnd h.f, h.a, h.b, h.m⟩
    | exact ⟨h.f, sdel_bnd h.a, h.b, h.m⟩
    | exact ⟨h.f, h.a, sdel_bnd h.b, h.m⟩
    | exact ⟨h.f, h.a, h.b, sdel_bnd h.m⟩
    | exact h
theorem stepT_bnd {k i : Nat} {l : List ActD} {t : TieS} (h : TBnd k t) {x : ActD} (hx : x.target.size ≤ maxLen) : TBnd (k + 1) (stepT l i t x) := by
  have h' := h.mono (Nat.le_succ k)
  unfold stepT
  cases decide (x.kind = 7) <;> cases decide (x.kind = 8) <;> cases decide (x.kind = 9) <;> cases decide (x.kind = 10) <;> cases decide (x.kind = 11) <;> cases decide (x.kind = 6)
  all_goals first
    | exact ⟨sput_bnd hx h.f, h'.a, h'.b, h'.m⟩
    | exact ⟨h'.f, sput_bnd hx h.a, h'.b, h'.m⟩
    | exact ⟨h'.f, sdel_bnd h'.a, h'.b, h'.m⟩
    | exact ⟨sdel_bnd h'.f, sdel_bnd h'.a, sput_bnd hx h.b, h'.m⟩
    | exact ⟨h'.f, h'.a, h'.b, sput_bnd hx h.m⟩
    | exact h'
    | (simp only [cond_true, cond_false]
       split
       · rename_i j hj
         cases decide ((j : Int) < (i : Int)) with
         | true => exact undoT_bnd h' _
         | false => exact h'
       · exact h')
theorem zero_target : ActD.zero.target.size ≤ maxLen := by decide
theorem tieF_bnd {l : List ActD} (hs : ∀ a ∈ l, a.Sm) : ∀ k, TBnd k (tieF l k)
  | 0 => ⟨⟨by simp [tieF], by simp [tieF]⟩, ⟨by simp [tieF], by simp [tieF]⟩, ⟨by simp [tieF], by simp [tieF]⟩, ⟨by simp [tieF], by simp [tieF]⟩⟩
  | k + 1 => by
    refine stepT_bnd (tieF_bnd hs k) ?_
    rcases Nat.lt_or_ge k l.length with h | h
    · rw [List.getD_eq_getElem?_getD, List.getElem?_eq_getElem h]
      exact (hs _ (List.getElem_mem h)).target
    · rw [List.getD_eq_getElem?_getD, List.getElem?_eq_none h]
      exact zero_target
theorem tieV_bnd {l : List ActD} (hs : ActsOk l) (n : Int) : TBnd l.length (tieV l n) := (tieF_bnd hs.sm _).mono (by rw [limN_eq]; omega)
def TiesAt (t : TieS) (u : Value) (X : World → Prop) : Prop := ∃ s1 s2 s3 s4 : SlV, u = .agg #[s1.v, s2.v, s3.v, s4.v] ∧ ∀ w, X w → Strs w s1 (sortB t.f) ∧ Strs w s2 (sortB t.a) ∧ Strs w s3 (sortB t.b) ∧ Strs w s4 (sortB t.m)
theorem strs_given {w : World} {e n c : Nat} {A : Option Addr} {l : List ByteArray} (h : (orow e 1 (.slice A n c) n ((sortB l).map encB)).F w) (hn : n = l.length) : Strs w ⟨A, n, c⟩ (sortB l) := strs_of_orow h (by rw [sortB_len, hn])
theorem relOf_mk (c : ChainD) (hc : ActsOk c.actsL) (hl : c.actsL.length ≤ 1000000) (n : Int) : Mk Tryz.prog 31 #[c.v, .int .i64 n] (fun w => c.at_ w ∧ Glob w) (TiesAt (tieV c.actsL n)) := by
  refine mk_of_cw (args := [_, _]) _ Tryz.func31 rfl Tryz.ntmps31 rfl fun av bor w0 => ?_
  have hB := tieV_bnd hc n
  repeat' (first | apply sw_nil | apply cw_seq | apply cw_reg | refine sy_move (h := ?_) | refine sy_assign (h := ?_) | refine sy_nilCheck (h := ?_) | refine sy_fld (h := ?_) | refine sy_ld (h := ?_) | refine sy_ldAll (h := ?_) | refine sy_pick_t (h := ?_) | refine sy_pick_f (h := ?_) | refine sy_not (h := ?_) | refine sy_eql (h := ?_) | refine sy_neq (h := ?_) | refine sy_lss (h := ?_) | refine sy_leq (h := ?_) | refine sy_gtr (h := ?_) | refine sy_geq (h := ?_) | refine sy_seql (h := ?_) | refine sy_sneq (h := ?_) | refine sy_slen (h := ?_) | refine sy_len (h := ?_) | refine sy_extract (h := ?_) | refine sy_add (h := ?_) | refine sy_sub (h := ?_) | refine sw_skipT (h := ?_) | refine sw_skipF (h := ?_) | refine sw_skipU (h := ?_) | refine sw_alloc (h := fun _ => ?_) | refine sw_box (h := fun _ => ?_) | refine sw_rangeS (h := fun _ => ?_) | refine sw_nextS (h1 := fun _ => ?_) (h2 := fun _ => ?_) | refine sw_bsl (h := fun _ => ?_) | refine sw_st1 (h := ?_) | refine sw_stAll (h := ?_) | refine cw_cond_t (ht := ?_) | refine cw_cond_f (hf := ?_) | apply cw_skip | apply cw_block | apply cw_ret | apply cw_exit | refine sy_and (h := ?_) | refine sy_or (h := ?_) | refine sy_xor (h := ?_) | refine sy_andNot (h := ?_) | refine sy_xorU (h := ?_) | refine sy_shl (h := ?_) | refine sy_shr (h := ?_) | refine sy_mul (h := ?_) | refine sy_int (h := ?_) | refine sy_beql (h := ?_) | refine sy_bneq (h := ?_) | refine sy_min (h := ?_) | refine sy_max (h := ?_) | refine sy_arrA (h := ?_) | refine sy_strI (h := ?_))
  rename_i b2 b4
  refine sw_fn (pre := []) (fr := [cel b4 62 [.slice none 0 0, .slice none 0 0, .slice none 0 0, .slice none 0 0], cel b2 30 c.cells]) (hc := tie_ct c hc n) (hX := fun _ h => h) (h := ?_)
  rintro _ _ X' ⟨q1, q2, q3, q4, rfl, rfl⟩
  generalize tieV c.actsL n = t at *
  repeat' (first | apply sw_nil | apply cw_seq | apply cw_reg | refine sy_move (h := ?_) | refine sy_assign (h := ?_) | refine sy_nilCheck (h := ?_) | refine sy_fld (h := ?_) | refine sy_ld (h := ?_) | refine sy_ldAll (h := ?_) | refine sy_pick_t (h := ?_) | refine sy_pick_f (h := ?_) | refine sy_not (h := ?_) | refine sy_eql (h := ?_) | refine sy_neq (h := ?_) | refine sy_lss (h := ?_) | refine sy_leq (h := ?_) | refine sy_gtr (h := ?_) | refine sy_geq (h := ?_) | refine sy_seql (h := ?_) | refine sy_sneq (h := ?_) | refine sy_slen (h := ?_) | refine sy_len (h := ?_) | refine sy_extract (h := ?_) | refine sy_add (h := ?_) | refine sy_sub (h := ?_) | refine sw_skipT (h := ?_) | refine sw_skipF (h := ?_) | refine sw_skipU (h := ?_) | refine sw_alloc (h := fun _ => ?_) | refine sw_box (h := fun _ => ?_) | refine sw_rangeS (h := fun _ => ?_) | refine sw_nextS (h1 := fun _ => ?_) (h2 := fun _ => ?_) | refine sw_bsl (h := fun _ => ?_) | refine sw_st1 (h := ?_) | refine sw_stAll (h := ?_) | refine cw_cond_t (ht := ?_) | refine cw_cond_f (hf := ?_) | apply cw_skip | apply cw_block | apply cw_ret | apply cw_exit | refine sy_and (h := ?_) | refine sy_or (h := ?_) | refine sy_xor (h := ?_) | refine sy_andNot (h := ?_) | refine sy_xorU (h := ?_) | refine sy_shl (h := ?_) | refine sy_shr (h := ?_) | refine sy_mul (h := ?_) | refine sy_int (h := ?_) | refine sy_beql (h := ?_) | refine sy_bneq (h := ?_) | refine sy_min (h := ?_) | refine sy_max (h := ?_) | refine sy_arrA (h := ?_) | refine sy_strI (h := ?_))
  rename_i b5
  unfold setsR
  (refine cw_draw [cel b5 130 (setsV q1 q2 q3 q4).cells.toList] (fun _ => True) (by kernel_rfl) ?_)
  all_goals (refine aw_take 0 (hsub := by (exact fun _ h => (h.drop (by repeat (first | exact List.Sublist.refl _ | exact List.Sublist.cons_cons _ (List.nil_sublist _) | apply List.Sublist.cons))).imp (fun _ _ => trivial))) (h := ?_))
  all_goals (refine aw_take 1 (hsub := by (exact fun _ h => (h.drop (by repeat (first | exact List.Sublist.refl _ | exact List.Sublist.cons_cons _ (List.nil_sublist _) | apply List.Sublist.cons))).imp (fun _ _ => trivial))) (h := ?_))
  all_goals (refine aw_take 3 (hsub := by (exact fun _ h => (h.drop (by repeat (first | exact List.Sublist.refl _ | exact List.Sublist.cons_cons _ (List.nil_sublist _) | apply List.Sublist.cons))).imp (fun _ _ => trivial))) (h := ?_))
  all_goals (refine aw_take 4 (hsub := by (exact fun _ h => (h.drop (by repeat (first | exact List.Sublist.refl _ | exact List.Sublist.cons_cons _ (List.nil_sublist _) | apply List.Sublist.cons))).imp (fun _ _ => trivial))) (h := ?_))
  all_goals (refine aw_take 6 (hsub := by (exact fun _ h => (h.drop (by repeat (first | exact List.Sublist.refl _ | exact List.Sublist.cons_cons _ (List.nil_sublist _) | apply List.Sublist.cons))).imp (fun _ _ => trivial))) (h := ?_))
  all_goals (refine aw_take 7 (hsub := by (exact fun _ h => (h.drop (by repeat (first | exact List.Sublist.refl _ | exact List.Sublist.cons_cons _ (List.nil_sublist _) | apply List.Sublist.cons))).imp (fun _ _ => trivial))) (h := ?_))
  all_goals (refine aw_take 9 (hsub := by (exact fun _ h => (h.drop (by repeat (first | exact List.Sublist.refl _ | exact List.Sublist.cons_cons _ (List.nil_sublist _) | apply List.Sublist.cons))).imp (fun _ _ => trivial))) (h := ?_))
  all_goals (refine aw_take 10 (hsub := by (exact fun _ h => (h.drop (by repeat (first | exact List.Sublist.refl _ | exact List.Sublist.cons_cons _ (List.nil_sublist _) | apply List.Sublist.cons))).imp (fun _ _ => trivial))) (h := ?_))
  all_goals (refine aw_step 2 (h := ?_); (first | (refine sw_fnAt (hc := setList_ct q1 t.f hB.f.size (Nat.le_trans hB.f.len hl)) (hX := fun _ _ => trivial) (h := ?_); rintro _ _ X1 ⟨A1, c1, rfl, rfl⟩; refine sw_give ?_) | (refine sw_fnAt (hc := setList_ct q2 t.a hB.a.size (Nat.le_trans hB.a.len hl)) (hX := fun _ _ => trivial) (h := ?_); rintro _ _ X2 ⟨A2, c2, rfl, rfl⟩; refine sw_give ?_) | (refine sw_fnAt (hc := setList_ct q3 t.b hB.b.size (Nat.le_trans hB.b.len hl)) (hX := fun _ _ => trivial) (h := ?_); rintro _ _ X3 ⟨A3, c3, rfl, rfl⟩; refine sw_give ?_) | (refine sw_fnAt (hc := setList_ct q4 t.m hB.m.size (Nat.le_trans hB.m.len hl)) (hX := fun _ _ => trivial) (h := ?_); rintro _ _ X4 ⟨A4, c4, rfl, rfl⟩; refine sw_give ?_)); apply sw_nil; refine aw_fin (hsub := by (exact fun _ h => (h.drop (by repeat (first | exact List.Sublist.refl _ | exact List.Sublist.cons_cons _ (List.nil_sublist _) | apply List.Sublist.cons))).imp (fun _ _ => trivial))) (h := ?_))
  all_goals (refine aw_step 5 (h := ?_); (first | (refine sw_fnAt (hc := setList_ct q1 t.f hB.f.size (Nat.le_trans hB.f.len hl)) (hX := fun _ _ => trivial) (h := ?_); rintro _ _ X1 ⟨A1, c1, rfl, rfl⟩; refine sw_give ?_) | (refine sw_fnAt (hc := setList_ct q2 t.a hB.a.size (Nat.le_trans hB.a.len hl)) (hX := fun _ _ => trivial) (h := ?_); rintro _ _ X2 ⟨A2, c2, rfl, rfl⟩; refine sw_give ?_) | (refine sw_fnAt (hc := setList_ct q3 t.b hB.b.size (Nat.le_trans hB.b.len hl)) (hX := fun _ _ => trivial) (h := ?_); rintro _ _ X3 ⟨A3, c3, rfl, rfl⟩; refine sw_give ?_) | (refine sw_fnAt (hc := setList_ct q4 t.m hB.m.size (Nat.le_trans hB.m.len hl)) (hX := fun _ _ => trivial) (h := ?_); rintro _ _ X4 ⟨A4, c4, rfl, rfl⟩; refine sw_give ?_)); apply sw_nil; refine aw_fin (hsub := by (exact fun _ h => (h.drop (by repeat (first | exact List.Sublist.refl _ | exact List.Sublist.cons_cons _ (List.nil_sublist _) | apply List.Sublist.cons))).imp (fun _ _ => trivial))) (h := ?_))
  all_goals (refine aw_step 8 (h := ?_); (first | (refine sw_fnAt (hc := setList_ct q1 t.f hB.f.size (Nat.le_trans hB.f.len hl)) (hX := fun _ _ => trivial) (h := ?_); rintro _ _ X1 ⟨A1, c1, rfl, rfl⟩; refine sw_give ?_) | (refine sw_fnAt (hc := setList_ct q2 t.a hB.a.size (Nat.le_trans hB.a.len hl)) (hX := fun _ _ => trivial) (h := ?_); rintro _ _ X2 ⟨A2, c2, rfl, rfl⟩; refine sw_give ?_) | (refine sw_fnAt (hc := setList_ct q3 t.b hB.b.size (Nat.le_trans hB.b.len hl)) (hX := fun _ _ => trivial) (h := ?_); rintro _ _ X3 ⟨A3, c3, rfl, rfl⟩; refine sw_give ?_) | (refine sw_fnAt (hc := setList_ct q4 t.m hB.m.size (Nat.le_trans hB.m.len hl)) (hX := fun _ _ => trivial) (h := ?_); rintro _ _ X4 ⟨A4, c4, rfl, rfl⟩; refine sw_give ?_)); apply sw_nil; refine aw_fin (hsub := by (exact fun _ h => (h.drop (by repeat (first | exact List.Sublist.refl _ | exact List.Sublist.cons_cons _ (List.nil_sublist _) | apply List.Sublist.cons))).imp (fun _ _ => trivial))) (h := ?_))
  all_goals (refine aw_step 11 (h := ?_); (first | (refine sw_fnAt (hc := setList_ct q1 t.f hB.f.size (Nat.le_trans hB.f.len hl)) (hX := fun _ _ => trivial) (h := ?_); rintro _ _ X1 ⟨A1, c1, rfl, rfl⟩; refine sw_give ?_) | (refine sw_fnAt (hc := setList_ct q2 t.a hB.a.size (Nat.le_trans hB.a.len hl)) (hX := fun _ _ => trivial) (h := ?_); rintro _ _ X2 ⟨A2, c2, rfl, rfl⟩; refine sw_give ?_) | (refine sw_fnAt (hc := setList_ct q3 t.b hB.b.size (Nat.le_trans hB.b.len hl)) (hX := fun _ _ => trivial) (h := ?_); rintro _ _ X3 ⟨A3, c3, rfl, rfl⟩; refine sw_give ?_) | (refine sw_fnAt (hc := setList_ct q4 t.m hB.m.size (Nat.le_trans hB.m.len hl)) (hX := fun _ _ => trivial) (h := ?_); rintro _ _ X4 ⟨A4, c4, rfl, rfl⟩; refine sw_give ?_)); apply sw_nil; refine aw_fin (hsub := by (exact fun _ h => (h.drop (by repeat (first | exact List.Sublist.refl _ | exact List.Sublist.cons_cons _ (List.nil_sublist _) | apply List.Sublist.cons))).imp (fun _ _ => trivial))) (h := ?_))
  all_goals (first | refine aw_take 12 (hsub := by (exact fun _ h => (h.drop (by repeat (first | exact List.Sublist.refl _ | exact List.Sublist.cons_cons _ (List.nil_sublist _) | apply List.Sublist.cons))).imp (fun _ _ => trivial))) (h := ?_) | refine aw_take 12 (hsub := by (exact fun _ h => (h.drop (by repeat (first | exact List.Sublist.refl _ | exact List.Sublist.cons_cons _ (List.nil_sublist _) | apply List.Sublist.cons))).imp (fun _ _ => trivial))) (hy := by (first | (apply y_build; rfl; rfl))) (h := ?_))
  all_goals (refine aw_step 13 (h := ?_); (first | (refine sw_st1 (h := ?_)) | (refine sw_stAll (h := ?_))); apply sw_nil; refine aw_fin (hsub := by (exact fun _ h => (h.drop (by repeat (first | exact List.Sublist.refl _ | exact List.Sublist.cons_cons _ (List.nil_sublist _) | apply List.Sublist.cons))).imp (fun _ _ => trivial))) (h := ?_))
  all_goals (refine aw_done (h := ?_))
  repeat' (first | apply sw_nil | apply cw_seq | apply cw_reg | refine sy_move (h := ?_) | refine sy_assign (h := ?_) | refine sy_nilCheck (h := ?_) | refine sy_fld (h := ?_) | refine sy_ld (h := ?_) | refine sy_ldAll (h := ?_) | refine sy_pick_t (h := ?_) | refine sy_pick_f (h := ?_) | refine sy_not (h := ?_) | refine sy_eql (h := ?_) | refine sy_neq (h := ?_) | refine sy_lss (h := ?_) | refine sy_leq (h := ?_) | refine sy_gtr (h := ?_) | refine sy_geq (h := ?_) | refine sy_seql (h := ?_) | refine sy_sneq (h := ?_) | refine sy_slen (h := ?_) | refine sy_len (h := ?_) | refine sy_extract (h := ?_) | refine sy_add (h := ?_) | refine sy_sub (h := ?_) | refine sw_skipT (h := ?_) | refine sw_skipF (h := ?_) | refine sw_skipU (h := ?_) | refine sw_alloc (h := fun _ => ?_) | refine sw_box (h := fun _ => ?_) | refine sw_rangeS (h := fun _ => ?_) | refine sw_nextS (h1 := fun _ => ?_) (h2 := fun _ => ?_) | refine sw_bsl (h := fun _ => ?_) | refine sw_st1 (h := ?_) | refine sw_stAll (h := ?_) | refine cw_cond_t (ht := ?_) | refine cw_cond_f (hf := ?_) | apply cw_skip | apply cw_block | apply cw_ret | apply cw_exit | refine sy_and (h := ?_) | refine sy_or (h := ?_) | refine sy_xor (h := ?_) | refine sy_andNot (h := ?_) | refine sy_xorU (h := ?_) | refine sy_shl (h := ?_) | refine sy_shr (h := ?_) | refine sy_mul (h := ?_) | refine sy_int (h := ?_) | refine sy_beql (h := ?_) | refine sy_bneq (h := ?_) | refine sy_min (h := ?_) | refine sy_max (h := ?_) | refine sy_arrA (h := ?_) | refine sy_strI (h := ?_))
  refine ends_ret (res_cell rfl rfl (by (repeat (first | exact List.mem_cons_self | apply List.mem_cons_of_mem))) (by rfl)) ⟨⟨A1, t.f.length, c1⟩, ⟨A2, t.a.length, c2⟩, ⟨A3, t.b.length, c3⟩, ⟨A4, t.m.length, c4⟩, rfl, fun w h => ⟨strs_given h.1.1.1.1.1.1.2 rfl, strs_given h.1.1.1.1.2 rfl, strs_given h.1.1.2 rfl, strs_given h.2 rfl⟩⟩

/-! strings in slices: whether one is there; whether two lists are alike -/
def hasS (l : List ByteArray) (x : ByteArray) : Bool := l.any fun y => seqB x y
def idxS (l : List ByteArray) (x : ByteArray) : Int := match l.findIdx? (fun y => seqB x y) with | some k => (k : Int) | none => -1
theorem idxS_found {l : List ByteArray} {x : ByteArray} (i : Upto l.length (fun k => seqB x (l.getD k .empty))) (hlt : i.k < l.length) (hb : seqB x (l.getD i.k .empty) = true) : idxS l x = i.k := by
  have : l.findIdx? (fun y => seqB x y) = some i.k := by
    rw [List.findIdx?_eq_some_iff_getElem]
    refine ⟨hlt, by simpa [hlt] using hb, fun j hj => ?_⟩
    have h1 := i.ok j hj
    have hj' : j < l.length := by omega
    simp [hj'] at h1
    simp [h1]
  simp only [idxS, this]
theorem idxS_none {l : List ByteArray} {x : ByteArray} (i : Upto l.length (fun k => seqB x (l.getD k .empty))) (h : ¬ i.k < l.length) : idxS l x = -1 := by
  have : l.findIdx? (fun y => seqB x y) = none := by
    rw [List.findIdx?_eq_none_iff]
    intro y hy
    obtain ⟨k, hk, rfl⟩ := List.getElem_of_mem hy
    have h1 := i.ok k (by omega)
    simpa [hk] using h1
  simp only [idxS, this]
theorem indexS_pu (s : SlV) (l : List ByteArray) (x : ByteArray) : Pu Tryz.prog 116 #[s.v, .string x] (fun w => Strs w s l) (.int .i64 (idxS l x)) := by
  refine pu_of_cw (args := [_, _]) _ Tryz.func116 rfl Tryz.ntmps116 rfl fun av bor w0 => ?_
  refine cw_know (p := s.n = l.length ∧ s.n ≤ maxLen ∧ (0 < l.length → s.p.isSome = true)) (fun w h => ⟨h.len_, Nat.le_trans (RowsD.cap h) (RowsD.max h), h.some_⟩) fun ⟨hl, hm, hp⟩ => ?_
  simp only [maxLen] at hm
  repeat' (first | apply sw_nil | apply cw_seq | apply cw_reg | refine sy_move (h := ?_) | refine sy_assign (h := ?_) | refine sy_nilCheck (h := ?_) | refine sy_fld (h := ?_) | refine sy_ld (h := ?_) | refine sy_ldAll (h := ?_) | refine sy_pick_t (h := ?_) | refine sy_pick_f (h := ?_) | refine sy_not (h := ?_) | refine sy_eql (h := ?_) | refine sy_neq (h := ?_) | refine sy_lss (h := ?_) | refine sy_leq (h := ?_) | refine sy_gtr (h := ?_) | refine sy_geq (h := ?_) | refine sy_seql (h := ?_) | refine sy_sneq (h := ?_) | refine sy_slen (h := ?_) | refine sy_len (h := ?_) | refine sy_extract (h := ?_) | refine sy_add (h := ?_) | refine sy_sub (h := ?_) | refine sw_skipT (h := ?_) | refine sw_skipF (h := ?_) | refine sw_skipU (h := ?_) | refine sw_alloc (h := fun _ => ?_) | refine sw_box (h := fun _ => ?_) | refine sw_rangeS (h := fun _ => ?_) | refine sw_nextS (h1 := fun _ => ?_) (h2 := fun _ => ?_) | refine sw_bsl (h := fun _ => ?_) | refine sw_st1 (h := ?_) | refine sw_stAll (h := ?_) | refine cw_cond_t (ht := ?_) | refine cw_cond_f (hf := ?_) | apply cw_skip | apply cw_block | apply cw_ret | apply cw_exit | refine sy_and (h := ?_) | refine sy_or (h := ?_) | refine sy_xor (h := ?_) | refine sy_andNot (h := ?_) | refine sy_xorU (h := ?_) | refine sy_shl (h := ?_) | refine sy_shr (h := ?_) | refine sy_mul (h := ?_) | refine sy_int (h := ?_) | refine sy_beql (h := ?_) | refine sy_bneq (h := ?_) | refine sy_min (h := ?_) | refine sy_max (h := ?_) | refine sy_arrA (h := ?_) | refine sy_strI (h := ?_))
  refine cw_loop (ι := Upto l.length (fun k => seqB x (l.getD k .empty))) (fun i => ⟨[(0, s.v), (1, .string x), (7, .int .i64 s.n), (8, .int .i64 i.k)], [], fun w => Strs w s l⟩) (fun i => l.length - i.k) (Upto.zero _ _) (ok_sub ⟨rfl, rfl, rfl, rfl, trivial⟩ (List.Sublist.refl _) fun _ h => h) fun i => ?_
  have hik := i.hk
  repeat' (first | apply sw_nil | apply cw_seq | apply cw_reg | refine sy_move (h := ?_) | refine sy_assign (h := ?_) | refine sy_nilCheck (h := ?_) | refine sy_fld (h := ?_) | refine sy_ld (h := ?_) | refine sy_ldAll (h := ?_) | refine sy_pick_t (h := ?_) | refine sy_pick_f (h := ?_) | refine sy_not (h := ?_) | refine sy_eql (h := ?_) | refine sy_neq (h := ?_) | refine sy_lss (h := ?_) | refine sy_leq (h := ?_) | refine sy_gtr (h := ?_) | refine sy_geq (h := ?_) | refine sy_seql (h := ?_) | refine sy_sneq (h := ?_) | refine sy_slen (h := ?_) | refine sy_len (h := ?_) | refine sy_extract (h := ?_) | refine sy_add (h := ?_) | refine sy_sub (h := ?_) | refine sw_skipT (h := ?_) | refine sw_skipF (h := ?_) | refine sw_skipU (h := ?_) | refine sw_alloc (h := fun _ => ?_) | refine sw_box (h := fun _ => ?_) | refine sw_rangeS (h := fun _ => ?_) | refine sw_nextS (h1 := fun _ => ?_) (h2 := fun _ => ?_) | refine sw_bsl (h := fun _ => ?_) | refine sw_st1 (h := ?_) | refine sw_stAll (h := ?_) | refine cw_cond_t (ht := ?_) | refine cw_cond_f (hf := ?_) | apply cw_skip | apply cw_block | apply cw_ret | apply cw_exit | refine sy_and (h := ?_) | refine sy_or (h := ?_) | refine sy_xor (h := ?_) | refine sy_andNot (h := ?_) | refine sy_xorU (h := ?_) | refine sy_shl (h := ?_) | refine sy_shr (h := ?_) | refine sy_mul (h := ?_) | refine sy_int (h := ?_) | refine sy_beql (h := ?_) | refine sy_bneq (h := ?_) | refine sy_min (h := ?_) | refine sy_max (h := ?_) | refine sy_arrA (h := ?_) | refine sy_strI (h := ?_) | ((fail_if_success (refine sw_chk (h := ?_))); refine sw_guard (ht := ?_) (hf := ?_); all_goals (intro hx_; first | have := of_decide_eq_true hx_ | have := of_decide_eq_false hx_ | skip)) | (refine cw_cond (ht := ?_) (hf := ?_); all_goals (intro hx_; first | have := of_decide_eq_true hx_ | have := of_decide_eq_false hx_ | skip)))
  · have hlt : i.k < l.length := by omega
    have hp' := hp (by omega)
    repeat' (first | apply sw_nil | apply cw_seq | apply cw_reg | refine sy_move (h := ?_) | refine sy_assign (h := ?_) | refine sy_nilCheck (h := ?_) | refine sy_fld (h := ?_) | refine sy_ld (h := ?_) | refine sy_ldAll (h := ?_) | refine sy_pick_t (h := ?_) | refine sy_pick_f (h := ?_) | refine sy_not (h := ?_) | refine sy_eql (h := ?_) | refine sy_neq (h := ?_) | refine sy_lss (h := ?_) | refine sy_leq (h := ?_) | refine sy_gtr (h := ?_) | refine sy_geq (h := ?_) | refine sy_seql (h := ?_) | refine sy_sneq (h := ?_) | refine sy_slen (h := ?_) | refine sy_len (h := ?_) | refine sy_extract (h := ?_) | refine sy_add (h := ?_) | refine sy_sub (h := ?_) | refine sw_skipT (h := ?_) | refine sw_skipF (h := ?_) | refine sw_skipU (h := ?_) | refine sw_alloc (h := fun _ => ?_) | refine sw_box (h := fun _ => ?_) | refine sw_rangeS (h := fun _ => ?_) | refine sw_nextS (h1 := fun _ => ?_) (h2 := fun _ => ?_) | refine sw_bsl (h := fun _ => ?_) | refine sw_st1 (h := ?_) | refine sw_stAll (h := ?_) | refine cw_cond_t (ht := ?_) | refine cw_cond_f (hf := ?_) | apply cw_skip | apply cw_block | apply cw_ret | apply cw_exit | refine sy_and (h := ?_) | refine sy_or (h := ?_) | refine sy_xor (h := ?_) | refine sy_andNot (h := ?_) | refine sy_xorU (h := ?_) | refine sy_shl (h := ?_) | refine sy_shr (h := ?_) | refine sy_mul (h := ?_) | refine sy_int (h := ?_) | refine sy_beql (h := ?_) | refine sy_bneq (h := ?_) | refine sy_min (h := ?_) | refine sy_max (h := ?_) | refine sy_arrA (h := ?_) | refine sy_strI (h := ?_) | (refine sy_idxX (q := i.k) (h := ?_)) | (refine sy_ldX (hF := fun w h => Strs.get h hlt) (h := ?_)) | ((fail_if_success (refine sw_chk (h := ?_))); refine sw_guard (ht := ?_) (hf := ?_); all_goals (intro hx_; first | have := of_decide_eq_true hx_ | have := of_decide_eq_false hx_ | skip)) | (refine cw_cond (ht := ?_) (hf := ?_); all_goals (intro hx_; first | have := of_decide_eq_true hx_ | have := of_decide_eq_false hx_ | skip)))
    · apply ends_ret; apply res_tmp; rfl; rfl
      rw [idxS_found i hlt (by assumption)]
    · exact ⟨i.next hlt (by assumption), (by show l.length - (i.k + 1) < l.length - i.k; omega), ok_sub ⟨rfl, rfl, rfl, rfl, trivial⟩ (List.Sublist.refl _) fun _ h => h⟩
  · apply ends_ret; apply res_tmp; rfl; rfl
    rw [idxS_none i (by omega)]
theorem idxS_has (l : List ByteArray) (x : ByteArray) : decide (0 ≤ idxS l x) = hasS l x := by
  unfold idxS hasS
  cases h : l.findIdx? (fun y => seqB x y) with
  | some k =>
    rw [List.findIdx?_eq_some_iff_getElem] at h
    obtain ⟨h1, h2, _⟩ := h
    have : l.any (fun y => seqB x y) = true := List.any_eq_true.2 ⟨l[k], List.getElem_mem h1, h2⟩
    rw [this]
    exact decide_eq_true (show (0 : Int) ≤ (k : Int) by omega)
  | none =>
    rw [List.findIdx?_eq_none_iff] at h
    have : l.any (fun y => seqB x y) = false := List.any_eq_false.2 fun y hy => by simp [h y hy]
    rw [this]
    rfl
theorem containsS_pu (s : SlV) (l : List ByteArray) (x : ByteArray) : Pu Tryz.prog 64 #[s.v, .string x] (fun w => Strs w s l) (.bool (hasS l x)) := by
  refine pu_of_cw (args := [_, _]) _ Tryz.func64 rfl Tryz.ntmps64 rfl fun av bor w0 => ?_
  repeat' (first | apply sw_nil | apply cw_seq | apply cw_reg | refine sy_move (h := ?_) | refine sy_assign (h := ?_) | refine sy_nilCheck (h := ?_) | refine sy_fld (h := ?_) | refine sy_ld (h := ?_) | refine sy_ldAll (h := ?_) | refine sy_pick_t (h := ?_) | refine sy_pick_f (h := ?_) | refine sy_not (h := ?_) | refine sy_eql (h := ?_) | refine sy_neq (h := ?_) | refine sy_lss (h := ?_) | refine sy_leq (h := ?_) | refine sy_gtr (h := ?_) | refine sy_geq (h := ?_) | refine sy_seql (h := ?_) | refine sy_sneq (h := ?_) | refine sy_slen (h := ?_) | refine sy_len (h := ?_) | refine sy_extract (h := ?_) | refine sy_add (h := ?_) | refine sy_sub (h := ?_) | refine sw_skipT (h := ?_) | refine sw_skipF (h := ?_) | refine sw_skipU (h := ?_) | refine sw_alloc (h := fun _ => ?_) | refine sw_box (h := fun _ => ?_) | refine sw_rangeS (h := fun _ => ?_) | refine sw_nextS (h1 := fun _ => ?_) (h2 := fun _ => ?_) | refine sw_bsl (h := fun _ => ?_) | refine sw_st1 (h := ?_) | refine sw_stAll (h := ?_) | refine cw_cond_t (ht := ?_) | refine cw_cond_f (hf := ?_) | apply cw_skip | apply cw_block | apply cw_ret | apply cw_exit | refine sy_and (h := ?_) | refine sy_or (h := ?_) | refine sy_xor (h := ?_) | refine sy_andNot (h := ?_) | refine sy_xorU (h := ?_) | refine sy_shl (h := ?_) | refine sy_shr (h := ?_) | refine sy_mul (h := ?_) | refine sy_int (h := ?_) | refine sy_beql (h := ?_) | refine sy_bneq (h := ?_) | refine sy_min (h := ?_) | refine sy_max (h := ?_) | refine sy_arrA (h := ?_) | refine sy_strI (h := ?_) | refine sw_pu (hc := indexS_pu s l x) (h := ?_))
  apply ends_ret; apply res_tmp; rfl; rfl
  rw [idxS_has]
def eqBad (l m : List ByteArray) (k : Nat) : Bool := !seqB (l.getD k .empty) (m.getD k .empty)
def eqL (l m : List ByteArray) : Bool := decide (l.length = m.length) && allB l.length (eqBad l m)
theorem equalL_pu (s r : SlV) (l m : List ByteArray) : Pu Tryz.prog 113 #[s.v, r.v] (fun w => Strs w s l ∧ Strs w r m) (.bool (eqL l m)) := by
  refine pu_of_cw (args := [_, _]) _ Tryz.func113 rfl Tryz.ntmps113 rfl fun av bor w0 => ?_
  refine cw_know (p := (s.n = l.length ∧ s.n ≤ maxLen ∧ (0 < l.length → s.p.isSome = true)) ∧ (r.n = m.length ∧ r.n ≤ maxLen ∧ (0 < m.length → r.p.isSome = true))) (fun w h => ⟨⟨h.1.len_, Nat.le_trans (RowsD.cap h.1) (RowsD.max h.1), h.1.some_⟩, ⟨h.2.len_, Nat.le_trans (RowsD.cap h.2) (RowsD.max h.2), h.2.some_⟩⟩) fun ⟨⟨hl, hm, hp⟩, ⟨hl', hm', hp'⟩⟩ => ?_
  simp only [maxLen] at hm hm'
  repeat' (first | apply sw_nil | apply cw_seq | apply cw_reg | refine sy_move (h := ?_) | refine sy_assign (h := ?_) | refine sy_nilCheck (h := ?_) | refine sy_fld (h := ?_) | refine sy_ld (h := ?_) | refine sy_ldAll (h := ?_) | refine sy_pick_t (h := ?_) | refine sy_pick_f (h := ?_) | refine sy_not (h := ?_) | refine sy_eql (h := ?_) | refine sy_neq (h := ?_) | refine sy_lss (h := ?_) | refine sy_leq (h := ?_) | refine sy_gtr (h := ?_) | refine sy_geq (h := ?_) | refine sy_seql (h := ?_) | refine sy_sneq (h := ?_) | refine sy_slen (h := ?_) | refine sy_len (h := ?_) | refine sy_extract (h := ?_) | refine sy_add (h := ?_) | refine sy_sub (h := ?_) | refine sw_skipT (h := ?_) | refine sw_skipF (h := ?_) | refine sw_skipU (h := ?_) | refine sw_alloc (h := fun _ => ?_) | refine sw_box (h := fun _ => ?_) | refine sw_rangeS (h := fun _ => ?_) | refine sw_nextS (h1 := fun _ => ?_) (h2 := fun _ => ?_) | refine sw_bsl (h := fun _ => ?_) | refine sw_st1 (h := ?_) | refine sw_stAll (h := ?_) | refine cw_cond_t (ht := ?_) | refine cw_cond_f (hf := ?_) | apply cw_skip | apply cw_block | apply cw_ret | apply cw_exit | refine sy_and (h := ?_) | refine sy_or (h := ?_) | refine sy_xor (h := ?_) | refine sy_andNot (h := ?_) | refine sy_xorU (h := ?_) | refine sy_shl (h := ?_) | refine sy_shr (h := ?_) | refine sy_mul (h := ?_) | refine sy_int (h := ?_) | refine sy_beql (h := ?_) | refine sy_bneq (h := ?_) | refine sy_min (h := ?_) | refine sy_max (h := ?_) | refine sy_arrA (h := ?_) | refine sy_strI (h := ?_) | ((fail_if_success (refine sw_chk (h := ?_))); refine sw_guard (ht := ?_) (hf := ?_); all_goals (intro hx_; first | have := of_decide_eq_true hx_ | have := of_decide_eq_false hx_ | skip)) | (refine cw_cond (ht := ?_) (hf := ?_); all_goals (intro hx_; first | have := of_decide_eq_true hx_ | have := of_decide_eq_false hx_ | skip)))
  · apply ends_ret; apply res_tmp; rfl; rfl
    have : ¬ l.length = m.length := by
      have h1 : ¬ (s.n : Int) = (r.n : Int) := by simpa using hx_
      omega
    simp only [eqL, decide_eq_false this, Bool.false_and]
  have hlm : l.length = m.length := by
    have h1 : (s.n : Int) = (r.n : Int) := by simpa using hx_
    omega
  refine cw_loop (ι := Upto l.length (eqBad l m)) (fun i => ⟨[(0, s.v), (1, r.v), (12, .int .i64 s.n), (13, .int .i64 i.k)], [], fun w => Strs w s l ∧ Strs w r m⟩) (fun i => l.length - i.k) (Upto.zero _ _) (ok_sub (by repeat (first | exact trivial | refine ⟨rfl, ?_⟩)) (List.Sublist.refl _) fun _ h => h) fun i => ?_
  have hik := i.hk
  repeat' (first | apply sw_nil | apply cw_seq | apply cw_reg | refine sy_move (h := ?_) | refine sy_assign (h := ?_) | refine sy_nilCheck (h := ?_) | refine sy_fld (h := ?_) | refine sy_ld (h := ?_) | refine sy_ldAll (h := ?_) | refine sy_pick_t (h := ?_) | refine sy_pick_f (h := ?_) | refine sy_not (h := ?_) | refine sy_eql (h := ?_) | refine sy_neq (h := ?_) | refine sy_lss (h := ?_) | refine sy_leq (h := ?_) | refine sy_gtr (h := ?_) | refine sy_geq (h := ?_) | refine sy_seql (h := ?_) | refine sy_sneq (h := ?_) | refine sy_slen (h := ?_) | refine sy_len (h := ?_) | refine sy_extract (h := ?_) | refine sy_add (h := ?_) | refine sy_sub (h := ?_) | refine sw_skipT (h := ?_) | refine sw_skipF (h := ?_) | refine sw_skipU (h := ?_) | refine sw_alloc (h := fun _ => ?_) | refine sw_box (h := fun _ => ?_) | refine sw_rangeS (h := fun _ => ?_) | refine sw_nextS (h1 := fun _ => ?_) (h2 := fun _ => ?_) | refine sw_bsl (h := fun _ => ?_) | refine sw_st1 (h := ?_) | refine sw_stAll (h := ?_) | refine cw_cond_t (ht := ?_) | refine cw_cond_f (hf := ?_) | apply cw_skip | apply cw_block | apply cw_ret | apply cw_exit | refine sy_and (h := ?_) | refine sy_or (h := ?_) | refine sy_xor (h := ?_) | refine sy_andNot (h := ?_) | refine sy_xorU (h := ?_) | refine sy_shl (h := ?_) | refine sy_shr (h := ?_) | refine sy_mul (h := ?_) | refine sy_int (h := ?_) | refine sy_beql (h := ?_) | refine sy_bneq (h := ?_) | refine sy_min (h := ?_) | refine sy_max (h := ?_) | refine sy_arrA (h := ?_) | refine sy_strI (h := ?_) | ((fail_if_success (refine sw_chk (h := ?_))); refine sw_guard (ht := ?_) (hf := ?_); all_goals (intro hx_; first | have := of_decide_eq_true hx_ | have := of_decide_eq_false hx_ | skip)) | (refine cw_cond (ht := ?_) (hf := ?_); all_goals (intro hx_; first | have := of_decide_eq_true hx_ | have := of_decide_eq_false hx_ | skip)))
  · have hlt : i.k < l.length := by omega
    have hlt' : i.k < m.length := by omega
    have hp1 := hp (by omega)
    have hp2 := hp' (by omega)
    (apply cw_draw0; kernel_rfl)
    all_goals (refine aw_take 0 (h := ?_))
    all_goals (refine aw_take 1 (h := ?_))
    all_goals (first | refine aw_take 2 (h := ?_) | refine aw_take 2 (hy := by (first | (apply y_idxX (q := i.k); rfl; rfl; omega; omega; assumption; omega))) (h := ?_))
    all_goals (first | refine aw_take 3 (h := ?_) | refine aw_take 3 (hy := by (first | (apply y_ldX; rfl; exact fun w h => Strs.get h.1 hlt) | (apply y_ldX; rfl; exact fun w h => Strs.get h.2 hlt'))) (h := ?_))
    all_goals (refine aw_take 4 (h := ?_))
    all_goals (refine aw_take 5 (h := ?_))
    all_goals (first | refine aw_take 6 (h := ?_) | refine aw_take 6 (hy := by (first | (apply y_idxX (q := i.k); rfl; rfl; omega; omega; assumption; omega))) (h := ?_))
    all_goals (first | refine aw_take 7 (h := ?_) | refine aw_take 7 (hy := by (first | (apply y_ldX; rfl; exact fun w h => Strs.get h.1 hlt) | (apply y_ldX; rfl; exact fun w h => Strs.get h.2 hlt'))) (h := ?_))
    all_goals (refine aw_take 8 (h := ?_))
    all_goals (refine aw_done (h := ?_))
    repeat' (first | apply sw_nil | apply cw_seq | apply cw_reg | refine sy_move (h := ?_) | refine sy_assign (h := ?_) | refine sy_nilCheck (h := ?_) | refine sy_fld (h := ?_) | refine sy_ld (h := ?_) | refine sy_ldAll (h := ?_) | refine sy_pick_t (h := ?_) | refine sy_pick_f (h := ?_) | refine sy_not (h := ?_) | refine sy_eql (h := ?_) | refine sy_neq (h := ?_) | refine sy_lss (h := ?_) | refine sy_leq (h := ?_) | refine sy_gtr (h := ?_) | refine sy_geq (h := ?_) | refine sy_seql (h := ?_) | refine sy_sneq (h := ?_) | refine sy_slen (h := ?_) | refine sy_len (h := ?_) | refine sy_extract (h := ?_) | refine sy_add (h := ?_) | refine sy_sub (h := ?_) | refine sw_skipT (h := ?_) | refine sw_skipF (h := ?_) | refine sw_skipU (h := ?_) | refine sw_alloc (h := fun _ => ?_) | refine sw_box (h := fun _ => ?_) | refine sw_rangeS (h := fun _ => ?_) | refine sw_nextS (h1 := fun _ => ?_) (h2 := fun _ => ?_) | refine sw_bsl (h := fun _ => ?_) | refine sw_st1 (h := ?_) | refine sw_stAll (h := ?_) | refine cw_cond_t (ht := ?_) | refine cw_cond_f (hf := ?_) | apply cw_skip | apply cw_block | apply cw_ret | apply cw_exit | refine sy_and (h := ?_) | refine sy_or (h := ?_) | refine sy_xor (h := ?_) | refine sy_andNot (h := ?_) | refine sy_xorU (h := ?_) | refine sy_shl (h := ?_) | refine sy_shr (h := ?_) | refine sy_mul (h := ?_) | refine sy_int (h := ?_) | refine sy_beql (h := ?_) | refine sy_bneq (h := ?_) | refine sy_min (h := ?_) | refine sy_max (h := ?_) | refine sy_arrA (h := ?_) | refine sy_strI (h := ?_) | ((fail_if_success (refine sw_chk (h := ?_))); refine sw_guard (ht := ?_) (hf := ?_); all_goals (intro hx_; first | have := of_decide_eq_true hx_ | have := of_decide_eq_false hx_ | skip)) | (refine cw_cond (ht := ?_) (hf := ?_); all_goals (intro hx_; first | have := of_decide_eq_true hx_ | have := of_decide_eq_false hx_ | skip)))
    · apply ends_ret; apply res_tmp; rfl; rfl
      rw [eqL, allB_false hlt (by assumption), Bool.and_false]
    · exact ⟨i.next hlt (by assumption), (by show l.length - (i.k + 1) < l.length - i.k; omega), ok_sub (by repeat (first | exact trivial | refine ⟨rfl, ?_⟩)) (List.Sublist.refl _) fun _ h => h⟩
  · apply ends_ret; apply res_tmp; rfl; rfl
    rw [eqL, i.all (by omega), decide_eq_true hlm]
    rfl
theorem same21_pu (s r : SlV) (l m : List ByteArray) : Pu Tryz.prog 60 #[s.v, r.v] (fun w => Strs w s l ∧ Strs w r m) (.bool (eqL l m)) := by
  refine pu_of_cw (args := [_, _]) _ Tryz.func60 rfl Tryz.ntmps60 rfl fun av bor w0 => ?_
  refine cw_know (p := (s.n = l.length ∧ s.n ≤ maxLen ∧ (0 < l.length → s.p.isSome = true)) ∧ (r.n = m.length ∧ r.n ≤ maxLen ∧ (0 < m.length → r.p.isSome = true))) (fun w h => ⟨⟨h.1.len_, Nat.le_trans (RowsD.cap h.1) (RowsD.max h.1), h.1.some_⟩, ⟨h.2.len_, Nat.le_trans (RowsD.cap h.2) (RowsD.max h.2), h.2.some_⟩⟩) fun ⟨⟨hl, hm, hp⟩, ⟨hl', hm', hp'⟩⟩ => ?_
  simp only [maxLen] at hm hm'
  repeat' (first | apply sw_nil | apply cw_seq | apply cw_reg | refine sy_move (h := ?_) | refine sy_assign (h := ?_) | refine sy_nilCheck (h := ?_) | refine sy_fld (h := ?_) | refine sy_ld (h := ?_) | refine sy_ldAll (h := ?_) | refine sy_pick_t (h := ?_) | refine sy_pick_f (h := ?_) | refine sy_not (h := ?_) | refine sy_eql (h := ?_) | refine sy_neq (h := ?_) | refine sy_lss (h := ?_) | refine sy_leq (h := ?_) | refine sy_gtr (h := ?_) | refine sy_geq (h := ?_) | refine sy_seql (h := ?_) | refine sy_sneq (h := ?_) | refine sy_slen (h := ?_) | refine sy_len (h := ?_) | refine sy_extract (h := ?_) | refine sy_add (h := ?_) | refine sy_sub (h := ?_) | refine sw_skipT (h := ?_) | refine sw_skipF (h := ?_) | refine sw_skipU (h := ?_) | refine sw_alloc (h := fun _ => ?_) | refine sw_box (h := fun _ => ?_) | refine sw_rangeS (h := fun _ => ?_) | refine sw_nextS (h1 := fun _ => ?_) (h2 := fun _ => ?_) | refine sw_bsl (h := fun _ => ?_) | refine sw_st1 (h := ?_) | refine sw_stAll (h := ?_) | refine cw_cond_t (ht := ?_) | refine cw_cond_f (hf := ?_) | apply cw_skip | apply cw_block | apply cw_ret | apply cw_exit | refine sy_and (h := ?_) | refine sy_or (h := ?_) | refine sy_xor (h := ?_) | refine sy_andNot (h := ?_) | refine sy_xorU (h := ?_) | refine sy_shl (h := ?_) | refine sy_shr (h := ?_) | refine sy_mul (h := ?_) | refine sy_int (h := ?_) | refine sy_beql (h := ?_) | refine sy_bneq (h := ?_) | refine sy_min (h := ?_) | refine sy_max (h := ?_) | refine sy_arrA (h := ?_) | refine sy_strI (h := ?_) | ((fail_if_success (refine sw_chk (h := ?_))); refine sw_guard (ht := ?_) (hf := ?_); all_goals (intro hx_; first | have := of_decide_eq_true hx_ | have := of_decide_eq_false hx_ | skip)) | (refine cw_cond (ht := ?_) (hf := ?_); all_goals (intro hx_; first | have := of_decide_eq_true hx_ | have := of_decide_eq_false hx_ | skip)))
  · apply ends_ret; apply res_tmp; rfl; rfl
    have : ¬ l.length = m.length := by
      have h1 : ¬ (s.n : Int) = (r.n : Int) := by simpa using hx_
      omega
    simp only [eqL, decide_eq_false this, Bool.false_and]
  have hlm : l.length = m.length := by
    have h1 : (s.n : Int) = (r.n : Int) := by simpa using hx_
    omega
  refine cw_loop (ι := Upto l.length (eqBad l m)) (fun i => ⟨[(0, s.v), (1, r.v), (5, .int .i64 i.k)], [], fun w => Strs w s l ∧ Strs w r m⟩) (fun i => l.length - i.k) (Upto.zero _ _) (ok_sub (by repeat (first | exact trivial | refine ⟨rfl, ?_⟩)) (List.Sublist.refl _) fun _ h => h) fun i => ?_
  have hik := i.hk
  repeat' (first | apply sw_nil | apply cw_seq | apply cw_reg | refine sy_move (h := ?_) | refine sy_assign (h := ?_) | refine sy_nilCheck (h := ?_) | refine sy_fld (h := ?_) | refine sy_ld (h := ?_) | refine sy_ldAll (h := ?_) | refine sy_pick_t (h := ?_) | refine sy_pick_f (h := ?_) | refine sy_not (h := ?_) | refine sy_eql (h := ?_) | refine sy_neq (h := ?_) | refine sy_lss (h := ?_) | refine sy_leq (h := ?_) | refine sy_gtr (h := ?_) | refine sy_geq (h := ?_) | refine sy_seql (h := ?_) | refine sy_sneq (h := ?_) | refine sy_slen (h := ?_) | refine sy_len (h := ?_) | refine sy_extract (h := ?_) | refine sy_add (h := ?_) | refine sy_sub (h := ?_) | refine sw_skipT (h := ?_) | refine sw_skipF (h := ?_) | refine sw_skipU (h := ?_) | refine sw_alloc (h := fun _ => ?_) | refine sw_box (h := fun _ => ?_) | refine sw_rangeS (h := fun _ => ?_) | refine sw_nextS (h1 := fun _ => ?_) (h2 := fun _ => ?_) | refine sw_bsl (h := fun _ => ?_) | refine sw_st1 (h := ?_) | refine sw_stAll (h := ?_) | refine cw_cond_t (ht := ?_) | refine cw_cond_f (hf := ?_) | apply cw_skip | apply cw_block | apply cw_ret | apply cw_exit | refine sy_and (h := ?_) | refine sy_or (h := ?_) | refine sy_xor (h := ?_) | refine sy_andNot (h := ?_) | refine sy_xorU (h := ?_) | refine sy_shl (h := ?_) | refine sy_shr (h := ?_) | refine sy_mul (h := ?_) | refine sy_int (h := ?_) | refine sy_beql (h := ?_) | refine sy_bneq (h := ?_) | refine sy_min (h := ?_) | refine sy_max (h := ?_) | refine sy_arrA (h := ?_) | refine sy_strI (h := ?_) | ((fail_if_success (refine sw_chk (h := ?_))); refine sw_guard (ht := ?_) (hf := ?_); all_goals (intro hx_; first | have := of_decide_eq_true hx_ | have := of_decide_eq_false hx_ | skip)) | (refine cw_cond (ht := ?_) (hf := ?_); all_goals (intro hx_; first | have := of_decide_eq_true hx_ | have := of_decide_eq_false hx_ | skip)))
  · have hlt : i.k < l.length := by omega
    have hlt' : i.k < m.length := by omega
    have hp1 := hp (by omega)
    have hp2 := hp' (by omega)
    (apply cw_draw0; kernel_rfl)
    all_goals (refine aw_take 0 (h := ?_))
    all_goals (refine aw_take 1 (h := ?_))
    all_goals (first | refine aw_take 2 (h := ?_) | refine aw_take 2 (hy := by (first | (apply y_idxX (q := i.k); rfl; rfl; omega; omega; assumption; omega))) (h := ?_))
    all_goals (first | refine aw_take 3 (h := ?_) | refine aw_take 3 (hy := by (first | (apply y_ldX; rfl; exact fun w h => Strs.get h.1 hlt) | (apply y_ldX; rfl; exact fun w h => Strs.get h.2 hlt'))) (h := ?_))
    all_goals (refine aw_take 4 (h := ?_))
    all_goals (refine aw_take 5 (h := ?_))
    all_goals (first | refine aw_take 6 (h := ?_) | refine aw_take 6 (hy := by (first | (apply y_idxX (q := i.k); rfl; rfl; omega; omega; assumption; omega))) (h := ?_))
    all_goals (first | refine aw_take 7 (h := ?_) | refine aw_take 7 (hy := by (first | (apply y_ldX; rfl; exact fun w h => Strs.get h.1 hlt) | (apply y_ldX; rfl; exact fun w h => Strs.get h.2 hlt'))) (h := ?_))
    all_goals (refine aw_take 8 (h := ?_))
    all_goals (refine aw_done (h := ?_))
    repeat' (first | apply sw_nil | apply cw_seq | apply cw_reg | refine sy_move (h := ?_) | refine sy_assign (h := ?_) | refine sy_nilCheck (h := ?_) | refine sy_fld (h := ?_) | refine sy_ld (h := ?_) | refine sy_ldAll (h := ?_) | refine sy_pick_t (h := ?_) | refine sy_pick_f (h := ?_) | refine sy_not (h := ?_) | refine sy_eql (h := ?_) | refine sy_neq (h := ?_) | refine sy_lss (h := ?_) | refine sy_leq (h := ?_) | refine sy_gtr (h := ?_) | refine sy_geq (h := ?_) | refine sy_seql (h := ?_) | refine sy_sneq (h := ?_) | refine sy_slen (h := ?_) | refine sy_len (h := ?_) | refine sy_extract (h := ?_) | refine sy_add (h := ?_) | refine sy_sub (h := ?_) | refine sw_skipT (h := ?_) | refine sw_skipF (h := ?_) | refine sw_skipU (h := ?_) | refine sw_alloc (h := fun _ => ?_) | refine sw_box (h := fun _ => ?_) | refine sw_rangeS (h := fun _ => ?_) | refine sw_nextS (h1 := fun _ => ?_) (h2 := fun _ => ?_) | refine sw_bsl (h := fun _ => ?_) | refine sw_st1 (h := ?_) | refine sw_stAll (h := ?_) | refine cw_cond_t (ht := ?_) | refine cw_cond_f (hf := ?_) | apply cw_skip | apply cw_block | apply cw_ret | apply cw_exit | refine sy_and (h := ?_) | refine sy_or (h := ?_) | refine sy_xor (h := ?_) | refine sy_andNot (h := ?_) | refine sy_xorU (h := ?_) | refine sy_shl (h := ?_) | refine sy_shr (h := ?_) | refine sy_mul (h := ?_) | refine sy_int (h := ?_) | refine sy_beql (h := ?_) | refine sy_bneq (h := ?_) | refine sy_min (h := ?_) | refine sy_max (h := ?_) | refine sy_arrA (h := ?_) | refine sy_strI (h := ?_) | ((fail_if_success (refine sw_chk (h := ?_))); refine sw_guard (ht := ?_) (hf := ?_); all_goals (intro hx_; first | have := of_decide_eq_true hx_ | have := of_decide_eq_false hx_ | skip)) | (refine cw_cond (ht := ?_) (hf := ?_); all_goals (intro hx_; first | have := of_decide_eq_true hx_ | have := of_decide_eq_false hx_ | skip)))
    · apply ends_ret; apply res_tmp; rfl; rfl
      rw [eqL, allB_false hlt (by assumption), Bool.and_false]
    · exact ⟨i.next hlt (by assumption), (by show l.length - (i.k + 1) < l.length - i.k; omega), ok_sub (by repeat (first | exact trivial | refine ⟨rfl, ?_⟩)) (List.Sublist.refl _) fun _ h => h⟩
  · apply ends_ret; apply res_tmp; rfl; rfl
    rw [eqL, i.all (by omega), decide_eq_true hlm]
    rfl
end Go.Proofs.YtcdcfimlikojeaaGreatDoor

/- Contracts: package circle. -/
set_option linter.unusedVariables false
set_option linter.unusedSimpArgs false
namespace Go.Proofs.YtcdcfimlikojeaaGreatDoor
open Go Go.Proofs Sy
def XC (c : ChainD) (w : World) : Prop := c.at_ w ∧ Glob w
theorem XC.know {c : ChainD} : ∀ w, XC c w → c.acts.n = c.actsL.length ∧ c.acts.n ≤ maxLen ∧ (0 < c.actsL.length → c.acts.p.isSome = true) ∧ c.acts.n ≤ c.acts.c := fun w h => ⟨h.1.len_, h.1.max_, h.1.some_, h.1.cap_⟩
theorem climit_pu (c : ChainD) (n : Int) : Pu Tryz.prog 171 #[c.v, .int .i64 n] (fun _ => True) (.int .i64 (limN n c.acts.n)) := by
  refine pu_of_cw (args := [_, _]) _ Tryz.func171 rfl Tryz.ntmps171 rfl fun av bor w0 => ?_
  repeat' (first | apply sw_nil | apply cw_seq | apply cw_reg | refine sy_move (h := ?_) | refine sy_assign (h := ?_) | refine sy_nilCheck (h := ?_) | refine sy_fld (h := ?_) | refine sy_ld (h := ?_) | refine sy_ldAll (h := ?_) | refine sy_pick_t (h := ?_) | refine sy_pick_f (h := ?_) | refine sy_not (h := ?_) | refine sy_eql (h := ?_) | refine sy_neq (h := ?_) | refine sy_lss (h := ?_) | refine sy_leq (h := ?_) | refine sy_gtr (h := ?_) | refine sy_geq (h := ?_) | refine sy_seql (h := ?_) | refine sy_sneq (h := ?_) | refine sy_slen (h := ?_) | refine sy_len (h := ?_) | refine sy_extract (h := ?_) | refine sy_add (h := ?_) | refine sy_sub (h := ?_) | refine sw_skipT (h := ?_) | refine sw_skipF (h := ?_) | refine sw_skipU (h := ?_) | refine sw_alloc (h := fun _ => ?_) | refine sw_box (h := fun _ => ?_) | refine sw_rangeS (h := fun _ => ?_) | refine sw_nextS (h1 := fun _ => ?_) (h2 := fun _ => ?_) | refine sw_bsl (h := fun _ => ?_) | refine sw_st1 (h := ?_) | refine sw_stAll (h := ?_) | refine cw_cond_t (ht := ?_) | refine cw_cond_f (hf := ?_) | apply cw_skip | apply cw_block | apply cw_ret | apply cw_exit | refine sy_and (h := ?_) | refine sy_or (h := ?_) | refine sy_xor (h := ?_) | refine sy_andNot (h := ?_) | refine sy_xorU (h := ?_) | refine sy_shl (h := ?_) | refine sy_shr (h := ?_) | refine sy_mul (h := ?_) | refine sy_int (h := ?_) | refine sy_beql (h := ?_) | refine sy_bneq (h := ?_) | refine sy_min (h := ?_) | refine sy_max (h := ?_) | refine sy_arrA (h := ?_) | refine sy_strI (h := ?_))
  apply ends_ret; apply res_tmp; rfl; rfl
  congr 1
  unfold limN
  split <;> split <;> omega
def gOk (a : ActD) (sc : Int) (g : ByteArray) (nx : Nat) : Bool := decide (a.kind = 16) && decide (a.scope = sc) && seqB a.group g && decide (a.epoch = (nx : Int))
def grantF (l : List ActD) (sc : Int) (g : ByteArray) : Nat → Nat × Nat
  | 0 => (0, 0)
  | i + 1 => bif gOk (l.getD i ActD.zero) sc g (grantF l sc g i).2 then (i, (grantF l sc g i).2 + 1) else grantF l sc g i
theorem grantF_le (l : List ActD) (sc : Int) (g : ByteArray) : ∀ k, (grantF l sc g k).2 ≤ k ∧ (0 < (grantF l sc g k).2 → (grantF l sc g k).1 < k)
  | 0 => ⟨Nat.le_refl _, fun h => absurd h (Nat.lt_irrefl _)⟩
  | k + 1 => by
    have ih := grantF_le l sc g k
    simp only [grantF]
    cases gOk (l.getD k ActD.zero) sc g (grantF l sc g k).2 with
    | true => exact ⟨by simp only [cond_true]; omega, fun _ => by simp only [cond_true]; omega⟩
    | false => exact ⟨by simp only [cond_false]; omega, fun h => by simp only [cond_false] at h ⊢; have := ih.2 h; omega⟩
def grantV (l : List ActD) (n sc : Int) (g : ByteArray) : Nat × Nat := grantF l sc g (limN n l.length)
theorem cgrant_pu (c : ChainD) (n sc : Int) (g : ByteArray) : Pu Tryz.prog 239 #[c.v, .int .i64 n, .int .i64 sc, .string g] (XC c) (.tuple #[.int .i64 ((grantV c.actsL n sc g).1 : Nat), .bool (decide ((0 : Int) < ((grantV c.actsL n sc g).2 : Nat)))]) := by
  refine pu_of_cw (args := [_, _, _, _]) _ Tryz.func239 rfl Tryz.ntmps239 rfl fun av bor w0 => ?_
  refine cw_know XC.know fun ⟨hl, hm, hp, hcap⟩ => ?_
  simp only [maxLen] at hm
  have hlim := limN_eq n c.acts.n
  repeat' (first | apply sw_nil | apply cw_seq | apply cw_reg | refine sy_move (h := ?_) | refine sy_assign (h := ?_) | refine sy_nilCheck (h := ?_) | refine sy_fld (h := ?_) | refine sy_ld (h := ?_) | refine sy_ldAll (h := ?_) | refine sy_pick_t (h := ?_) | refine sy_pick_f (h := ?_) | refine sy_not (h := ?_) | refine sy_eql (h := ?_) | refine sy_neq (h := ?_) | refine sy_lss (h := ?_) | refine sy_leq (h := ?_) | refine sy_gtr (h := ?_) | refine sy_geq (h := ?_) | refine sy_seql (h := ?_) | refine sy_sneq (h := ?_) | refine sy_slen (h := ?_) | refine sy_len (h := ?_) | refine sy_extract (h := ?_) | refine sy_add (h := ?_) | refine sy_sub (h := ?_) | refine sw_skipT (h := ?_) | refine sw_skipF (h := ?_) | refine sw_skipU (h := ?_) | refine sw_alloc (h := fun _ => ?_) | refine sw_box (h := fun _ => ?_) | refine sw_rangeS (h := fun _ => ?_) | refine sw_nextS (h1 := fun _ => ?_) (h2 := fun _ => ?_) | refine sw_bsl (h := fun _ => ?_) | refine sw_st1 (h := ?_) | refine sw_stAll (h := ?_) | refine cw_cond_t (ht := ?_) | refine cw_cond_f (hf := ?_) | apply cw_skip | apply cw_block | apply cw_ret | apply cw_exit | refine sy_and (h := ?_) | refine sy_or (h := ?_) | refine sy_xor (h := ?_) | refine sy_andNot (h := ?_) | refine sy_xorU (h := ?_) | refine sy_shl (h := ?_) | refine sy_shr (h := ?_) | refine sy_mul (h := ?_) | refine sy_int (h := ?_) | refine sy_beql (h := ?_) | refine sy_bneq (h := ?_) | refine sy_min (h := ?_) | refine sy_max (h := ?_) | refine sy_arrA (h := ?_) | refine sy_strI (h := ?_) | refine sw_pu (hc := climit_pu c n) (h := ?_))
  rename_i b4
  refine cw_loop (ι := Kth (limN n c.acts.n)) (fun i => ⟨[(2, .int .i64 sc), (3, .string g), (4, .pointer (some ⟨b4, 0, none⟩)), (10, .int .i64 ((grantF c.actsL sc g i.k).1 : Nat)), (11, .int .i64 ((grantF c.actsL sc g i.k).2 : Nat)), (16, .int .i64 (limN n c.acts.n)), (17, .int .i64 i.k)], [cel b4 30 c.cells], XC c⟩) (fun i => limN n c.acts.n - i.k) ⟨0, Nat.zero_le _⟩
    (ok_sub ⟨rfl, rfl, rfl, rfl, rfl, rfl, rfl, trivial⟩ (List.Sublist.refl _) fun _ h => h) fun i => ?_
  have hik := i.hk
  have hg := (grantF_le c.actsL sc g i.k).1
  repeat' (first | apply sw_nil | apply cw_seq | apply cw_reg | refine sy_move (h := ?_) | refine sy_assign (h := ?_) | refine sy_nilCheck (h := ?_) | refine sy_fld (h := ?_) | refine sy_ld (h := ?_) | refine sy_ldAll (h := ?_) | refine sy_pick_t (h := ?_) | refine sy_pick_f (h := ?_) | refine sy_not (h := ?_) | refine sy_eql (h := ?_) | refine sy_neq (h := ?_) | refine sy_lss (h := ?_) | refine sy_leq (h := ?_) | refine sy_gtr (h := ?_) | refine sy_geq (h := ?_) | refine sy_seql (h := ?_) | refine sy_sneq (h := ?_) | refine sy_slen (h := ?_) | refine sy_len (h := ?_) | refine sy_extract (h := ?_) | refine sy_add (h := ?_) | refine sy_sub (h := ?_) | refine sw_skipT (h := ?_) | refine sw_skipF (h := ?_) | refine sw_skipU (h := ?_) | refine sw_alloc (h := fun _ => ?_) | refine sw_box (h := fun _ => ?_) | refine sw_rangeS (h := fun _ => ?_) | refine sw_nextS (h1 := fun _ => ?_) (h2 := fun _ => ?_) | refine sw_bsl (h := fun _ => ?_) | refine sw_st1 (h := ?_) | refine sw_stAll (h := ?_) | refine cw_cond_t (ht := ?_) | refine cw_cond_f (hf := ?_) | apply cw_skip | apply cw_block | apply cw_ret | apply cw_exit | refine sy_and (h := ?_) | refine sy_or (h := ?_) | refine sy_xor (h := ?_) | refine sy_andNot (h := ?_) | refine sy_xorU (h := ?_) | refine sy_shl (h := ?_) | refine sy_shr (h := ?_) | refine sy_mul (h := ?_) | refine sy_int (h := ?_) | refine sy_beql (h := ?_) | refine sy_bneq (h := ?_) | refine sy_min (h := ?_) | refine sy_max (h := ?_) | refine sy_arrA (h := ?_) | refine sy_strI (h := ?_) | ((fail_if_success (refine sw_chk (h := ?_))); refine sw_guard (ht := ?_) (hf := ?_); all_goals (intro hx_; first | have := of_decide_eq_true hx_ | have := of_decide_eq_false hx_ | skip)) | (refine cw_cond (ht := ?_) (hf := ?_); all_goals (intro hx_; first | have := of_decide_eq_true hx_ | have := of_decide_eq_false hx_ | skip)))
  · have hlt : i.k < limN n c.acts.n := by omega
    have hltL : i.k < c.actsL.length := by omega
    have hp' := hp (by omega)
    obtain ⟨x, hx⟩ : ∃ x, c.actsL[i.k]? = some x := ⟨_, List.getElem?_eq_getElem hltL⟩
    have hstep : grantF c.actsL sc g (i.k + 1) = bif gOk x sc g (grantF c.actsL sc g i.k).2 then (i.k, (grantF c.actsL sc g i.k).2 + 1) else grantF c.actsL sc g i.k := by simp only [grantF, List.getD_eq_getElem?_getD, hx, Option.getD_some]
    repeat' (first | apply sw_nil | apply cw_seq | apply cw_reg | refine sy_move (h := ?_) | refine sy_assign (h := ?_) | refine sy_nilCheck (h := ?_) | refine sy_fld (h := ?_) | refine sy_ld (h := ?_) | refine sy_ldAll (h := ?_) | refine sy_pick_t (h := ?_) | refine sy_pick_f (h := ?_) | refine sy_not (h := ?_) | refine sy_eql (h := ?_) | refine sy_neq (h := ?_) | refine sy_lss (h := ?_) | refine sy_leq (h := ?_) | refine sy_gtr (h := ?_) | refine sy_geq (h := ?_) | refine sy_seql (h := ?_) | refine sy_sneq (h := ?_) | refine sy_slen (h := ?_) | refine sy_len (h := ?_) | refine sy_extract (h := ?_) | refine sy_add (h := ?_) | refine sy_sub (h := ?_) | refine sw_skipT (h := ?_) | refine sw_skipF (h := ?_) | refine sw_skipU (h := ?_) | refine sw_alloc (h := fun _ => ?_) | refine sw_box (h := fun _ => ?_) | refine sw_rangeS (h := fun _ => ?_) | refine sw_nextS (h1 := fun _ => ?_) (h2 := fun _ => ?_) | refine sw_bsl (h := fun _ => ?_) | refine sw_st1 (h := ?_) | refine sw_stAll (h := ?_) | refine cw_cond_t (ht := ?_) | refine cw_cond_f (hf := ?_) | apply cw_skip | apply cw_block | apply cw_ret | apply cw_exit | refine sy_and (h := ?_) | refine sy_or (h := ?_) | refine sy_xor (h := ?_) | refine sy_andNot (h := ?_) | refine sy_xorU (h := ?_) | refine sy_shl (h := ?_) | refine sy_shr (h := ?_) | refine sy_mul (h := ?_) | refine sy_int (h := ?_) | refine sy_beql (h := ?_) | refine sy_bneq (h := ?_) | refine sy_min (h := ?_) | refine sy_max (h := ?_) | refine sy_arrA (h := ?_) | refine sy_strI (h := ?_) | (refine sy_idxX (q := i.k * 20) (h := ?_)) | (refine sy_ldXs (cs := x.cells) (hF := fun w h => Acts.get h.1 hx) (h := ?_)) | ((fail_if_success (refine sw_chk (h := ?_))); refine sw_guard (ht := ?_) (hf := ?_); all_goals (intro hx_; first | have := of_decide_eq_true hx_ | have := of_decide_eq_false hx_ | skip)) | (refine cw_cond (ht := ?_) (hf := ?_); all_goals (intro hx_; first | have := of_decide_eq_true hx_ | have := of_decide_eq_false hx_ | skip)))
    all_goals exact ⟨(⟨i.k + 1, hlt⟩ : Kth (limN n c.acts.n)), (by show limN n c.acts.n - (i.k + 1) < limN n c.acts.n - i.k; omega), ok_sub (by
      simp only [hstep, gOk, *, decide_true, decide_false, cond_true, cond_false, Bool.and_true, Bool.true_and, Bool.and_false, Bool.false_and, Bool.not_true, Bool.not_false, Bool.or_true, Bool.true_or, Bool.or_false, Bool.false_or]
      exact ⟨rfl, rfl, rfl, rfl, rfl, rfl, rfl, trivial⟩) (List.Sublist.cons _ (List.Sublist.refl _)) fun _ h => h⟩
  have hk : i.k = limN n c.acts.n := by omega
  apply ends_ret; apply res_tmp2; rfl; rfl; rfl
  simp only [grantV, ← hl]
  rw [hk]
def epochO (l : List ActD) (n sc : Int) (g : ByteArray) : Option ActD := bif decide ((0 : Int) < ((grantV l n sc g).2 : Nat)) then l[(grantV l n sc g).1]? else none
def EpochAt (o : Option ActD) (u : Value) (X : World → Prop) : Prop := ∃ s : SlV, u = .tuple #[.int .i64 ((o.map (·.epoch)).getD 0), s.v, .bool o.isSome] ∧ ∀ w, X w → Strs w s ((o.map (·.toL)).getD [])
theorem res_tmp3 {P : Program} {fn : Func} {N t u r : Nat} {s : St} {v x y : Value} (hr : fn.results = #[.tmp t, .tmp u, .tmp r]) (h : Sy.look s.env t = some v) (h' : Sy.look s.env u = some x) (h2 : Sy.look s.env r = some y) : Res1 P fn N s (.tuple #[v, x, y]) := fun av bor w0 a w ok => by
  have h3 := ok.env t v h
  have h4 := ok.env u x h'
  have h5 := ok.env r y h2
  simp [results, hr, h3, h4, h5]
theorem strs_ones (l : List ByteArray) : ∀ cs ∈ strs l, cs.all (·.oneCell') = true := fun cs hcs => by simp only [strs, List.mem_map] at hcs; obtain ⟨x, _, rfl⟩ := hcs; rfl
theorem epoch_mk (c : ChainD) (hc : ActsOk c.actsL) (n sc : Int) (g : ByteArray) : Mk Tryz.prog 170 #[c.v, .int .i64 n, .int .i64 sc, .string g] (XC c) (EpochAt (epochO c.actsL n sc g)) := by
  refine mk_of_cw2 (args := [_, _, _, _]) _ Tryz.func170 rfl Tryz.ntmps170 rfl fun av bor w0 => ?_
  refine cw_know XC.know fun ⟨hl, hm, hp, hcap⟩ => ?_
  simp only [maxLen] at hm
  have hgl := grantF_le c.actsL sc g (limN n c.actsL.length)
  have hlim := limN_eq n c.actsL.length
  have hO : epochO c.actsL n sc g = bif decide ((0 : Int) < ((grantV c.actsL n sc g).2 : Nat)) then c.actsL[(grantV c.actsL n sc g).1]? else none := rfl
  have hgp := cgrant_pu c n sc g
  change (grantV c.actsL n sc g).2 ≤ _ ∧ (0 < (grantV c.actsL n sc g).2 → (grantV c.actsL n sc g).1 < _) at hgl
  generalize grantV c.actsL n sc g = gv at *
  obtain ⟨k, nx⟩ := gv
  simp only at hgl hgp hO
  repeat' (first | apply sw_nil | apply cw_seq | apply cw_reg | refine sy_move (h := ?_) | refine sy_assign (h := ?_) | refine sy_nilCheck (h := ?_) | refine sy_fld (h := ?_) | refine sy_ld (h := ?_) | refine sy_ldAll (h := ?_) | refine sy_pick_t (h := ?_) | refine sy_pick_f (h := ?_) | refine sy_not (h := ?_) | refine sy_eql (h := ?_) | refine sy_neq (h := ?_) | refine sy_lss (h := ?_) | refine sy_leq (h := ?_) | refine sy_gtr (h := ?_) | refine sy_geq (h := ?_) | refine sy_seql (h := ?_) | refine sy_sneq (h := ?_) | refine sy_slen (h := ?_) | refine sy_len (h := ?_) | refine sy_extract (h := ?_) | refine sy_add (h := ?_) | refine sy_sub (h := ?_) | refine sw_skipT (h := ?_) | refine sw_skipF (h := ?_) | refine sw_skipU (h := ?_) | refine sw_alloc (h := fun _ => ?_) | refine sw_box (h := fun _ => ?_) | refine sw_rangeS (h := fun _ => ?_) | refine sw_nextS (h1 := fun _ => ?_) (h2 := fun _ => ?_) | refine sw_bsl (h := fun _ => ?_) | refine sw_st1 (h := ?_) | refine sw_stAll (h := ?_) | refine cw_cond_t (ht := ?_) | refine cw_cond_f (hf := ?_) | apply cw_skip | apply cw_block | apply cw_ret | apply cw_exit | refine sy_and (h := ?_) | refine sy_or (h := ?_) | refine sy_xor (h := ?_) | refine sy_andNot (h := ?_) | refine sy_xorU (h := ?_) | refine sy_shl (h := ?_) | refine sy_shr (h := ?_) | refine sy_mul (h := ?_) | refine sy_int (h := ?_) | refine sy_beql (h := ?_) | refine sy_bneq (h := ?_) | refine sy_min (h := ?_) | refine sy_max (h := ?_) | refine sy_arrA (h := ?_) | refine sy_strI (h := ?_) | refine sw_pu (hc := hgp) (h := ?_) | ((fail_if_success (refine sw_chk (h := ?_))); refine sw_guard (ht := ?_) (hf := ?_); all_goals (intro hx_; first | have := of_decide_eq_true hx_ | have := of_decide_eq_false hx_ | skip)) | (refine cw_cond (ht := ?_) (hf := ?_); all_goals (intro hx_; first | have := of_decide_eq_true hx_ | have := of_decide_eq_false hx_ | skip)))
  · have hz : decide ((0 : Int) < (nx : Nat)) = false := by simpa using hx_
    apply ends_ret
    · apply res_tmp3; rfl; rfl; rfl; rfl
    · rw [hO, hz]
      exact ⟨⟨none, 0, 0⟩, rfl, fun w _ => rowsD_nil w 1⟩
  · have hz : decide ((0 : Int) < (nx : Nat)) = true := by simpa using hx_
    have hnx := of_decide_eq_true hz
    have hkl : k < c.actsL.length := by have := hgl.2 (by omega); omega
    have hp' := hp (by omega)
    obtain ⟨x, hx⟩ : ∃ x, c.actsL[k]? = some x := ⟨_, List.getElem?_eq_getElem hkl⟩
    have hxm : x ∈ c.actsL := List.mem_of_getElem? hx
    (apply cw_draw0; kernel_rfl)
    all_goals (first | refine aw_take 0 (h := ?_) | refine aw_take 0 (hy := by (first | (apply y_fldX; rfl; assumption; rfl))) (h := ?_))
    all_goals (first | refine aw_take 1 (h := ?_) | refine aw_take 1 (hy := by (first | (apply y_ldX; rfl; exact fun w h => (Acts.get h.1 hx).2.2 14 _ rfl) | (apply y_ldX; rfl; exact fun w h => (Acts.get h.1 hx).2.2 9 _ rfl))) (h := ?_))
    all_goals (refine aw_take 2 (h := ?_))
    all_goals (first | refine aw_take 3 (h := ?_) | refine aw_take 3 (hy := by (first | (apply y_idxX (q := k * 20); rfl; rfl; omega; omega; assumption; omega))) (h := ?_))
    all_goals (first | refine aw_take 4 (h := ?_) | refine aw_take 4 (hy := by (first | (apply y_fldX; rfl; assumption; rfl))) (h := ?_))
    all_goals (first | refine aw_take 5 (h := ?_) | refine aw_take 5 (hy := by (first | (apply y_ldX; rfl; exact fun w h => (Acts.get h.1 hx).2.2 14 _ rfl) | (apply y_ldX; rfl; exact fun w h => (Acts.get h.1 hx).2.2 9 _ rfl))) (h := ?_))
    all_goals (first | refine aw_take 6 (h := ?_) | refine aw_take 6 (hy := by (first | (apply y_fldX; rfl; assumption; rfl))) (h := ?_))
    all_goals (first | refine aw_take 7 (h := ?_) | refine aw_take 7 (hy := by (first | (apply y_ldX; rfl; exact fun w h => (Acts.get h.1 hx).2.2 14 _ rfl) | (apply y_ldX; rfl; exact fun w h => (Acts.get h.1 hx).2.2 9 _ rfl))) (h := ?_))
    all_goals (refine aw_take 8 (h := ?_))
    all_goals (first | refine aw_take 9 (h := ?_) | refine aw_take 9 (hy := by (first | (apply y_idxX (q := k * 20); rfl; rfl; omega; omega; assumption; omega))) (h := ?_))
    all_goals (first | refine aw_take 10 (h := ?_) | refine aw_take 10 (hy := by (first | (apply y_fldX; rfl; assumption; rfl))) (h := ?_))
    all_goals (first | refine aw_take 11 (h := ?_) | refine aw_take 11 (hy := by (first | (apply y_ldX; rfl; exact fun w h => (Acts.get h.1 hx).2.2 14 _ rfl) | (apply y_ldX; rfl; exact fun w h => (Acts.get h.1 hx).2.2 9 _ rfl))) (h := ?_))
    all_goals (refine aw_step 12 (h := ?_); (first | (refine sw_mk (hc := cloneS_mk x.to (strs x.toL) (hc.sm x hxm).to (strs_ones _)) (hX := fun w h => (h.1.2 x hxm).1) (h := fun v1 X1 h1 => ?_); obtain ⟨s1, rfl, hn1, hw1⟩ := h1)); apply sw_nil; refine aw_fin (h := ?_))
    all_goals (refine aw_take 13 (h := ?_))
    all_goals (refine aw_take 14 (h := ?_))
    all_goals (refine aw_take 15 (h := ?_))
    all_goals (refine aw_done (h := ?_))
    repeat' (first | apply sw_nil | apply cw_seq | apply cw_reg | refine sy_move (h := ?_) | refine sy_assign (h := ?_) | refine sy_nilCheck (h := ?_) | refine sy_fld (h := ?_) | refine sy_ld (h := ?_) | refine sy_ldAll (h := ?_) | refine sy_pick_t (h := ?_) | refine sy_pick_f (h := ?_) | refine sy_not (h := ?_) | refine sy_eql (h := ?_) | refine sy_neq (h := ?_) | refine sy_lss (h := ?_) | refine sy_leq (h := ?_) | refine sy_gtr (h := ?_) | refine sy_geq (h := ?_) | refine sy_seql (h := ?_) | refine sy_sneq (h := ?_) | refine sy_slen (h := ?_) | refine sy_len (h := ?_) | refine sy_extract (h := ?_) | refine sy_add (h := ?_) | refine sy_sub (h := ?_) | refine sw_skipT (h := ?_) | refine sw_skipF (h := ?_) | refine sw_skipU (h := ?_) | refine sw_alloc (h := fun _ => ?_) | refine sw_box (h := fun _ => ?_) | refine sw_rangeS (h := fun _ => ?_) | refine sw_nextS (h1 := fun _ => ?_) (h2 := fun _ => ?_) | refine sw_bsl (h := fun _ => ?_) | refine sw_st1 (h := ?_) | refine sw_stAll (h := ?_) | refine cw_cond_t (ht := ?_) | refine cw_cond_f (hf := ?_) | apply cw_skip | apply cw_block | apply cw_ret | apply cw_exit | refine sy_and (h := ?_) | refine sy_or (h := ?_) | refine sy_xor (h := ?_) | refine sy_andNot (h := ?_) | refine sy_xorU (h := ?_) | refine sy_shl (h := ?_) | refine sy_shr (h := ?_) | refine sy_mul (h := ?_) | refine sy_int (h := ?_) | refine sy_beql (h := ?_) | refine sy_bneq (h := ?_) | refine sy_min (h := ?_) | refine sy_max (h := ?_) | refine sy_arrA (h := ?_) | refine sy_strI (h := ?_) | ((fail_if_success (refine sw_chk (h := ?_))); refine sw_guard (ht := ?_) (hf := ?_); all_goals (intro hx_; first | have := of_decide_eq_true hx_ | have := of_decide_eq_false hx_ | skip)) | (refine cw_cond (ht := ?_) (hf := ?_); all_goals (intro hx_; first | have := of_decide_eq_true hx_ | have := of_decide_eq_false hx_ | skip)))
    apply ends_ret
    · apply res_tmp3; rfl; rfl; rfl; rfl
    · rw [hO, hz, cond_true, hx]
      exact ⟨s1, rfl, fun w h => hw1 w h.1.2⟩
theorem sortB_ct {e n : Nat} {v : Value} {ss : List ByteArray} (hn : n ≤ 1000000000) : Ct Tryz.prog 97 #[v] [orow e 1 v n (ss.map encB)] (fun _ => True) fun u R _ => u = .tuple #[] ∧ R = [orow e 1 v n ((sortB ss).map encB)] := by
  have h := sortS_c.ct (e := e) (n := n) (v := v) (ss := ss.map bl) hn
  rw [map_encB ss]
  refine h.mono fun u R X' ⟨h1, h2⟩ => ⟨h1, ?_⟩
  rw [h2, map_encStr, sortB]
theorem compB_ct {e n : Nat} {v : Value} {ss : List ByteArray} : Ct Tryz.prog 98 #[v] [orow e 1 v n (ss.map encB)] (fun _ => True) fun u R _ => ∃ A c, u = .slice A (compB ss).length c ∧ R = [orow e 1 u (compB ss).length ((compB ss).map encB)] := by
  have h := compS_c.ct (e := e) (n := n) (v := v) (ss := ss.map bl)
  rw [map_encB ss]
  refine h.mono fun u R X' ⟨A, c, h1, h2⟩ => ⟨A, c, ?_, ?_⟩
  · rw [h1]; simp [compB]
  · rw [h2, map_encStr, compB]; simp
def circF (l : List ActD) (g : ByteArray) : Nat → Option ActD
  | 0 => none
  | i + 1 => bif decide ((l.getD i ActD.zero).kind = 15) && seqB (l.getD i ActD.zero).group g then some (l.getD i ActD.zero) else circF l g i
theorem circF_mem {l : List ActD} {g : ByteArray} : ∀ {k : Nat} {x : ActD}, k ≤ l.length → circF l g k = some x → x ∈ l
  | 0, x, _, h => by cases h
  | k + 1, x, hk, h => by
    simp only [circF] at h
    have h0 : l.getD k ActD.zero ∈ l := by
      rw [List.getD_eq_getElem?_getD, List.getElem?_eq_getElem (by omega)]
      exact List.getElem_mem (by omega)
    cases hb : (decide ((l.getD k ActD.zero).kind = 15) && seqB (l.getD k ActD.zero).group g) with
    | true => rw [hb] at h; simp only [cond_true, Option.some.injEq] at h; exact h ▸ h0
    | false => rw [hb] at h; exact circF_mem (by omega) h
def listOf (c : ChainD) (n sc : Int) (g : ByteArray) (toL : List ByteArray) : List ByteArray :=
  bif decide (sc = 1) then sortB (tieV c.actsL n).a else bif decide (sc = 2) then ((circF c.actsL g (limN n c.actsL.length)).map (·.toL)).getD [] else bif decide (sc = 3) then toL else []
def keepM (c : ChainD) (bs : List ByteArray) (x : ByteArray) : Bool := !seqB x c.id && !hasS bs x
def membersV (c : ChainD) (n sc : Int) (g : ByteArray) (toL : List ByteArray) : List ByteArray := compB (sortB ((listOf c n sc g toL).filter (keepM c (sortB (tieV c.actsL n).b))))
def StrsAt (l : List ByteArray) (u : Value) (X : World → Prop) : Prop := ∃ s : SlV, u = s.v ∧ ∀ w, X w → Strs w s l
structure FilS (m : Nat) where
  k : Nat
  hk : k ≤ m
  A : Option Addr
  c : Nat
theorem filter_succ {p : ByteArray → Bool} (L : List ByteArray) {k : Nat} (h : k < L.length) : (L.take (k + 1)).filter p = (L.take k).filter p ++ (bif p (L.getD k .empty) then [L.getD k .empty] else []) := by
  rw [List.take_add_one, List.filter_append, List.getElem?_eq_getElem h, List.getD_eq_getElem?_getD, List.getElem?_eq_getElem h]
  simp only [Option.toList_some, Option.getD_some, List.filter_cons, List.filter_nil]
  cases p L[k] <;> rfl
end Go.Proofs.YtcdcfimlikojeaaGreatDoor

/- Contracts: circle.Members. -/
set_option linter.unusedVariables false
set_option linter.unusedSimpArgs false
namespace Go.Proofs.YtcdcfimlikojeaaGreatDoor
open Go Go.Proofs Sy
/-- A row of strings of the call's own is handed back. -/
def OwnStrs (l : List ByteArray) (u : Value) (R : List Res) : Prop := ∃ A c, u = .slice A l.length c ∧ R = [orow 9 1 u l.length (l.map encB)]
theorem mk_of_own {f : FuncId} {args : Array Value} {X : World → Prop} {l : List ByteArray} (h : Ct Tryz.prog f args [] X (fun u R _ => OwnStrs l u R)) : Mk Tryz.prog f args X (StrsAt l) := by
  unfold Mk
  exact Ct.mk fun w av G => (Ct.run h w av G).mono fun e w' ⟨u, R, X', he, hu, G'⟩ => ⟨u, [], _, he, ⟨by
    obtain ⟨A, c, rfl, rfl⟩ := hu
    exact ⟨⟨A, _, c⟩, rfl, fun w h => strs_of_orow (h.2 _ List.mem_cons_self) rfl⟩, rfl⟩, G'.giveAll⟩
set_option maxHeartbeats 2000000 in
theorem members_ct (c : ChainD) (hc : ActsOk c.actsL) (hcl : c.actsL.length ≤ 1000000) (n sc : Int) (g : ByteArray) (st : SlV) (toL : List ByteArray) (htl : toL.length ≤ 1000000) :
    Ct Tryz.prog 118 #[c.v, .int .i64 n, .int .i64 sc, .string g, st.v] [] (fun w => XC c w ∧ Strs w st toL) (fun u R _ => OwnStrs (membersV c n sc g toL) u R) := by
  refine ct_of_cwS (args := [_, _, _, _, _]) (Post := OwnStrs (membersV c n sc g toL)) _ Tryz.func118 rfl Tryz.ntmps118 rfl fun av bor w0 => ?_
  refine cw_know (fun w h => XC.know w h.1) fun ⟨hl, hm, hp, hcap⟩ => ?_
  simp only [maxLen] at hm
  have hB := tieV_bnd hc n
  have hM : membersV c n sc g toL = compB (sortB ((listOf c n sc g toL).filter (keepM c (sortB (tieV c.actsL n).b)))) := rfl
  repeat' (first | apply sw_nil | apply cw_seq | apply cw_reg | refine sy_move (h := ?_) | refine sy_assign (h := ?_) | refine sy_nilCheck (h := ?_) | refine sy_fld (h := ?_) | refine sy_ld (h := ?_) | refine sy_ldAll (h := ?_) | refine sy_pick_t (h := ?_) | refine sy_pick_f (h := ?_) | refine sy_not (h := ?_) | refine sy_eql (h := ?_) | refine sy_neq (h := ?_) | refine sy_lss (h := ?_) | refine sy_leq (h := ?_) | refine sy_gtr (h := ?_) | refine sy_geq (h := ?_) | refine sy_seql (h := ?_) | refine sy_sneq (h := ?_) | refine sy_slen (h := ?_) | refine sy_len (h := ?_) | refine sy_extract (h := ?_) | refine sy_add (h := ?_) | refine sy_sub (h := ?_) | refine sw_skipT (h := ?_) | refine sw_skipF (h := ?_) | refine sw_skipU (h := ?_) | refine sw_alloc (h := fun _ => ?_) | refine sw_box (h := fun _ => ?_) | refine sw_rangeS (h := fun _ => ?_) | refine sw_nextS (h1 := fun _ => ?_) (h2 := fun _ => ?_) | refine sw_bsl (h := fun _ => ?_) | refine sw_st1 (h := ?_) | refine sw_stAll (h := ?_) | refine cw_cond_t (ht := ?_) | refine cw_cond_f (hf := ?_) | apply cw_skip | apply cw_block | apply cw_ret | apply cw_exit | refine sy_and (h := ?_) | refine sy_or (h := ?_) | refine sy_xor (h := ?_) | refine sy_andNot (h := ?_) | refine sy_xorU (h := ?_) | refine sy_shl (h := ?_) | refine sy_shr (h := ?_) | refine sy_mul (h := ?_) | refine sy_int (h := ?_) | refine sy_beql (h := ?_) | refine sy_bneq (h := ?_) | refine sy_min (h := ?_) | refine sy_max (h := ?_) | refine sy_arrA (h := ?_) | refine sy_strI (h := ?_))
  refine sw_mk (hc := relOf_mk c hc hcl n) (hX := fun w h => h.1) (h := fun v1 X1 h1 => ?_)
  obtain ⟨s1, s2, s3, s4, rfl, hties⟩ := h1
  have hLo : listOf c n sc g toL = bif decide (sc = 1) then sortB (tieV c.actsL n).a else bif decide (sc = 2) then ((circF c.actsL g (limN n c.actsL.length)).map (·.toL)).getD [] else bif decide (sc = 3) then toL else [] := rfl
  generalize tieV c.actsL n = t at *
  have hlim := limN_eq n c.acts.n
  repeat' (first | apply sw_nil | apply cw_seq | apply cw_reg | refine sy_move (h := ?_) | refine sy_assign (h := ?_) | refine sy_nilCheck (h := ?_) | refine sy_fld (h := ?_) | refine sy_ld (h := ?_) | refine sy_ldAll (h := ?_) | refine sy_pick_t (h := ?_) | refine sy_pick_f (h := ?_) | refine sy_not (h := ?_) | refine sy_eql (h := ?_) | refine sy_neq (h := ?_) | refine sy_lss (h := ?_) | refine sy_leq (h := ?_) | refine sy_gtr (h := ?_) | refine sy_geq (h := ?_) | refine sy_seql (h := ?_) | refine sy_sneq (h := ?_) | refine sy_slen (h := ?_) | refine sy_len (h := ?_) | refine sy_extract (h := ?_) | refine sy_add (h := ?_) | refine sy_sub (h := ?_) | refine sw_skipT (h := ?_) | refine sw_skipF (h := ?_) | refine sw_skipU (h := ?_) | refine sw_alloc (h := fun _ => ?_) | refine sw_box (h := fun _ => ?_) | refine sw_rangeS (h := fun _ => ?_) | refine sw_nextS (h1 := fun _ => ?_) (h2 := fun _ => ?_) | refine sw_bsl (h := fun _ => ?_) | refine sw_st1 (h := ?_) | refine sw_stAll (h := ?_) | refine cw_cond_t (ht := ?_) | refine cw_cond_f (hf := ?_) | apply cw_skip | apply cw_block | apply cw_ret | apply cw_exit | refine sy_and (h := ?_) | refine sy_or (h := ?_) | refine sy_xor (h := ?_) | refine sy_andNot (h := ?_) | refine sy_xorU (h := ?_) | refine sy_shl (h := ?_) | refine sy_shr (h := ?_) | refine sy_mul (h := ?_) | refine sy_int (h := ?_) | refine sy_beql (h := ?_) | refine sy_bneq (h := ?_) | refine sy_min (h := ?_) | refine sy_max (h := ?_) | refine sy_arrA (h := ?_) | refine sy_strI (h := ?_))
  rename_i b5 b11
  repeat' (first | apply sw_nil | apply cw_seq | apply cw_reg | refine sy_move (h := ?_) | refine sy_assign (h := ?_) | refine sy_nilCheck (h := ?_) | refine sy_fld (h := ?_) | refine sy_ld (h := ?_) | refine sy_ldAll (h := ?_) | refine sy_pick_t (h := ?_) | refine sy_pick_f (h := ?_) | refine sy_not (h := ?_) | refine sy_eql (h := ?_) | refine sy_neq (h := ?_) | refine sy_lss (h := ?_) | refine sy_leq (h := ?_) | refine sy_gtr (h := ?_) | refine sy_geq (h := ?_) | refine sy_seql (h := ?_) | refine sy_sneq (h := ?_) | refine sy_slen (h := ?_) | refine sy_len (h := ?_) | refine sy_extract (h := ?_) | refine sy_add (h := ?_) | refine sy_sub (h := ?_) | refine sw_skipT (h := ?_) | refine sw_skipF (h := ?_) | refine sw_skipU (h := ?_) | refine sw_alloc (h := fun _ => ?_) | refine sw_box (h := fun _ => ?_) | refine sw_rangeS (h := fun _ => ?_) | refine sw_nextS (h1 := fun _ => ?_) (h2 := fun _ => ?_) | refine sw_bsl (h := fun _ => ?_) | refine sw_st1 (h := ?_) | refine sw_stAll (h := ?_) | refine cw_cond_t (ht := ?_) | refine cw_cond_f (hf := ?_) | apply cw_skip | apply cw_block | apply cw_ret | apply cw_exit | refine sy_and (h := ?_) | refine sy_or (h := ?_) | refine sy_xor (h := ?_) | refine sy_andNot (h := ?_) | refine sy_xorU (h := ?_) | refine sy_shl (h := ?_) | refine sy_shr (h := ?_) | refine sy_mul (h := ?_) | refine sy_int (h := ?_) | refine sy_beql (h := ?_) | refine sy_bneq (h := ?_) | refine sy_min (h := ?_) | refine sy_max (h := ?_) | refine sy_arrA (h := ?_) | refine sy_strI (h := ?_) | refine sw_pu (hc := climit_pu c n) (h := ?_) | ((fail_if_success (refine sw_chk (h := ?_))); refine sw_guard (ht := ?_) (hf := ?_); all_goals (intro hx_; first | have := of_decide_eq_true hx_ | have := of_decide_eq_false hx_ | skip)) | (refine cw_cond (ht := ?_) (hf := ?_); all_goals (intro hx_; first | have := of_decide_eq_true hx_ | have := of_decide_eq_false hx_ | skip)))
  case refine_1 =>
    have hLe : listOf c n sc g toL = sortB t.a := by rw [hLo, hx_]; rfl
    have hSL : ∀ w, (XC c w ∧ Strs w st toL) ∧ X1 w → Strs w s2 (sortB t.a) := fun w h => (hties w h.2).2.1
    have hLl : (sortB t.a).length ≤ 1000000 := by rw [sortB_len]; have := hB.a.len; omega
    generalize hLL : sortB t.a = L at *
    refine cw_know (p := (s2).n = (L).length ∧ (s2).n ≤ maxLen ∧ (0 < (L).length → (s2).p.isSome = true)) (fun w h => ⟨(hSL w h).len_, Nat.le_trans (RowsD.cap (hSL w h)) (RowsD.max (hSL w h)), (hSL w h).some_⟩) fun ⟨hSl, hSm, hSp⟩ => ?_
    simp only [maxLen] at hSm
    refine cw_nilRow 9 1 ?_
    refine cw_loop (ι := FilS (L).length) (fun i => ⟨[(5, .pointer (some ⟨b5, 0, none⟩)), (11, .pointer (some ⟨b11, 0, none⟩)), (15, .slice i.A (((L).take i.k).filter (keepM c (sortB t.b))).length i.c), (54, (s2).v), (55, .int .i64 (s2).n), (56, .int .i64 i.k)],
      [orow 9 1 (.slice i.A (((L).take i.k).filter (keepM c (sortB t.b))).length i.c) (((L).take i.k).filter (keepM c (sortB t.b))).length ((((L).take i.k).filter (keepM c (sortB t.b))).map encB), cel b11 62 [s1.v, s2.v, s3.v, s4.v], cel b5 30 c.cells], fun w => (XC c w ∧ Strs w st toL) ∧ X1 w⟩) (fun i => (L).length - i.k) ⟨0, Nat.zero_le _, none, 0⟩ (ok_sub ⟨rfl, rfl, rfl, rfl, rfl, rfl, trivial⟩ (List.Sublist.refl _) fun _ h => h) fun i => ?_
    have hik := i.hk
    repeat' (first | apply sw_nil | apply cw_seq | apply cw_reg | refine sy_move (h := ?_) | refine sy_assign (h := ?_) | refine sy_nilCheck (h := ?_) | refine sy_fld (h := ?_) | refine sy_ld (h := ?_) | refine sy_ldAll (h := ?_) | refine sy_pick_t (h := ?_) | refine sy_pick_f (h := ?_) | refine sy_not (h := ?_) | refine sy_eql (h := ?_) | refine sy_neq (h := ?_) | refine sy_lss (h := ?_) | refine sy_leq (h := ?_) | refine sy_gtr (h := ?_) | refine sy_geq (h := ?_) | refine sy_seql (h := ?_) | refine sy_sneq (h := ?_) | refine sy_slen (h := ?_) | refine sy_len (h := ?_) | refine sy_extract (h := ?_) | refine sy_add (h := ?_) | refine sy_sub (h := ?_) | refine sw_skipT (h := ?_) | refine sw_skipF (h := ?_) | refine sw_skipU (h := ?_) | refine sw_alloc (h := fun _ => ?_) | refine sw_box (h := fun _ => ?_) | refine sw_rangeS (h := fun _ => ?_) | refine sw_nextS (h1 := fun _ => ?_) (h2 := fun _ => ?_) | refine sw_bsl (h := fun _ => ?_) | refine sw_st1 (h := ?_) | refine sw_stAll (h := ?_) | refine cw_cond_t (ht := ?_) | refine cw_cond_f (hf := ?_) | apply cw_skip | apply cw_block | apply cw_ret | apply cw_exit | refine sy_and (h := ?_) | refine sy_or (h := ?_) | refine sy_xor (h := ?_) | refine sy_andNot (h := ?_) | refine sy_xorU (h := ?_) | refine sy_shl (h := ?_) | refine sy_shr (h := ?_) | refine sy_mul (h := ?_) | refine sy_int (h := ?_) | refine sy_beql (h := ?_) | refine sy_bneq (h := ?_) | refine sy_min (h := ?_) | refine sy_max (h := ?_) | refine sy_arrA (h := ?_) | refine sy_strI (h := ?_) | ((fail_if_success (refine sw_chk (h := ?_))); refine sw_guard (ht := ?_) (hf := ?_); all_goals (intro hx_; first | have := of_decide_eq_true hx_ | have := of_decide_eq_false hx_ | skip)) | (refine cw_cond (ht := ?_) (hf := ?_); all_goals (intro hx_; first | have := of_decide_eq_true hx_ | have := of_decide_eq_false hx_ | skip)))
    · have hlt : i.k < (L).length := by omega
      have hp2 := hSp (by omega)
      have hfs := filter_succ (p := (keepM c (sortB t.b))) (L) hlt
      have hfl : (((L).take i.k).filter (keepM c (sortB t.b))).length ≤ 1000000 := by
        have h1 := List.length_filter_le (keepM c (sortB t.b)) ((L).take i.k)
        have h2 := List.length_take_le i.k (L)
        omega
      generalize hacc : ((L).take i.k).filter (keepM c (sortB t.b)) = acc at *
      generalize hxe : (L).getD i.k .empty = x at *
      repeat' (first | apply sw_nil | apply cw_seq | apply cw_reg | refine sy_move (h := ?_) | refine sy_assign (h := ?_) | refine sy_nilCheck (h := ?_) | refine sy_fld (h := ?_) | refine sy_ld (h := ?_) | refine sy_ldAll (h := ?_) | refine sy_pick_t (h := ?_) | refine sy_pick_f (h := ?_) | refine sy_not (h := ?_) | refine sy_eql (h := ?_) | refine sy_neq (h := ?_) | refine sy_lss (h := ?_) | refine sy_leq (h := ?_) | refine sy_gtr (h := ?_) | refine sy_geq (h := ?_) | refine sy_seql (h := ?_) | refine sy_sneq (h := ?_) | refine sy_slen (h := ?_) | refine sy_len (h := ?_) | refine sy_extract (h := ?_) | refine sy_add (h := ?_) | refine sy_sub (h := ?_) | refine sw_skipT (h := ?_) | refine sw_skipF (h := ?_) | refine sw_skipU (h := ?_) | refine sw_alloc (h := fun _ => ?_) | refine sw_box (h := fun _ => ?_) | refine sw_rangeS (h := fun _ => ?_) | refine sw_nextS (h1 := fun _ => ?_) (h2 := fun _ => ?_) | refine sw_bsl (h := fun _ => ?_) | refine sw_st1 (h := ?_) | refine sw_stAll (h := ?_) | refine cw_cond_t (ht := ?_) | refine cw_cond_f (hf := ?_) | apply cw_skip | apply cw_block | apply cw_ret | apply cw_exit | refine sy_and (h := ?_) | refine sy_or (h := ?_) | refine sy_xor (h := ?_) | refine sy_andNot (h := ?_) | refine sy_xorU (h := ?_) | refine sy_shl (h := ?_) | refine sy_shr (h := ?_) | refine sy_mul (h := ?_) | refine sy_int (h := ?_) | refine sy_beql (h := ?_) | refine sy_bneq (h := ?_) | refine sy_min (h := ?_) | refine sy_max (h := ?_) | refine sy_arrA (h := ?_) | refine sy_strI (h := ?_) | (refine sy_idxX (q := i.k) (h := ?_)) | (refine sy_ldX (u := .string x) (hF := fun w h => hxe ▸ Strs.get (hSL w h) hlt) (h := ?_)) | (refine sw_pu (hc := containsS_pu s3 (sortB t.b) x) (hX := fun w h => (hties w h.2).2.2.1) (h := ?_)) | (refine sw_append (size := 1) (z := .string ⟨#[]⟩) (news := [encB x]) (q := 1) rfl rfl rfl rfl (fun _ => At.there _ (At.here _)) (fun w G => src_cel G List.mem_cons_self rfl rfl 1) (by omega) (by simp only [maxLen]; omega) rfl ?_ rfl ?_; (first | with_reducible rfl | with_reducible assumption | with_reducible exact Bool.not_false | with_reducible exact Bool.not_true); intro A2 c2) | ((fail_if_success (refine sw_chk (h := ?_))); refine sw_guard (ht := ?_) (hf := ?_); all_goals (intro hx_; first | have := of_decide_eq_true hx_ | have := of_decide_eq_false hx_ | skip)) | (refine cw_cond (ht := ?_) (hf := ?_); all_goals (intro hx_; first | have := of_decide_eq_true hx_ | have := of_decide_eq_false hx_ | skip)))
      all_goals first
        | (have e : ((L).take (i.k + 1)).filter (keepM c (sortB t.b)) = acc ++ [x] := by rw [hfs]; simp only [keepM, *, decide_true, decide_false, cond_true, cond_false, Bool.and_true, Bool.true_and, Bool.and_false, Bool.false_and, Bool.not_true, Bool.not_false, Bool.or_true, Bool.true_or, Bool.or_false, Bool.false_or]
           refine ⟨(⟨i.k + 1, hlt, A2, c2⟩ : FilS (L).length), (by show (L).length - (i.k + 1) < (L).length - i.k; omega), ok_sub ?_ ?_ fun _ h => h⟩
           · simp only [e, List.length_append, List.length_cons, List.length_nil, Nat.zero_add]; exact ⟨rfl, rfl, rfl, rfl, rfl, rfl, trivial⟩
           · simp only [e, List.length_append, List.length_cons, List.length_nil, Nat.zero_add, List.map_append, List.map_cons, List.map_nil]; exact List.Sublist.cons _ (List.Sublist.refl _))
        | (have e : ((L).take (i.k + 1)).filter (keepM c (sortB t.b)) = acc := by rw [hfs]; simp only [keepM, *, decide_true, decide_false, cond_true, cond_false, Bool.and_true, Bool.true_and, Bool.and_false, Bool.false_and, Bool.not_true, Bool.not_false, Bool.or_true, Bool.true_or, Bool.or_false, Bool.false_or, List.append_nil]
           refine ⟨(⟨i.k + 1, hlt, i.A, i.c⟩ : FilS (L).length), (by show (L).length - (i.k + 1) < (L).length - i.k; omega), ok_sub ?_ ?_ fun _ h => h⟩
           · simp only [e]; exact ⟨rfl, rfl, rfl, rfl, rfl, rfl, trivial⟩
           · simp only [e]; exact List.Sublist.refl _)
    have hfl : (((L).take i.k).filter (keepM c (sortB t.b))).length ≤ 1000000000 := by
      have h1 := List.length_filter_le (keepM c (sortB t.b)) ((L).take i.k)
      have h2 := List.length_take_le i.k (L)
      omega
    have hk : i.k = (L).length := by omega
    have hfin : membersV c n sc g toL = compB (sortB (((L).take i.k).filter (keepM c (sortB t.b)))) := by rw [hM, hLe, hk, List.take_length]
    refine sw_turn (hc := sortB_ct hfl) (hX := fun _ _ => trivial) (h := ?_)
    repeat' (first | apply sw_nil | apply cw_seq | apply cw_reg | refine sy_move (h := ?_) | refine sy_assign (h := ?_) | refine sy_nilCheck (h := ?_) | refine sy_fld (h := ?_) | refine sy_ld (h := ?_) | refine sy_ldAll (h := ?_) | refine sy_pick_t (h := ?_) | refine sy_pick_f (h := ?_) | refine sy_not (h := ?_) | refine sy_eql (h := ?_) | refine sy_neq (h := ?_) | refine sy_lss (h := ?_) | refine sy_leq (h := ?_) | refine sy_gtr (h := ?_) | refine sy_geq (h := ?_) | refine sy_seql (h := ?_) | refine sy_sneq (h := ?_) | refine sy_slen (h := ?_) | refine sy_len (h := ?_) | refine sy_extract (h := ?_) | refine sy_add (h := ?_) | refine sy_sub (h := ?_) | refine sw_skipT (h := ?_) | refine sw_skipF (h := ?_) | refine sw_skipU (h := ?_) | refine sw_alloc (h := fun _ => ?_) | refine sw_box (h := fun _ => ?_) | refine sw_rangeS (h := fun _ => ?_) | refine sw_nextS (h1 := fun _ => ?_) (h2 := fun _ => ?_) | refine sw_bsl (h := fun _ => ?_) | refine sw_st1 (h := ?_) | refine sw_stAll (h := ?_) | refine cw_cond_t (ht := ?_) | refine cw_cond_f (hf := ?_) | apply cw_skip | apply cw_block | apply cw_ret | apply cw_exit | refine sy_and (h := ?_) | refine sy_or (h := ?_) | refine sy_xor (h := ?_) | refine sy_andNot (h := ?_) | refine sy_xorU (h := ?_) | refine sy_shl (h := ?_) | refine sy_shr (h := ?_) | refine sy_mul (h := ?_) | refine sy_int (h := ?_) | refine sy_beql (h := ?_) | refine sy_bneq (h := ?_) | refine sy_min (h := ?_) | refine sy_max (h := ?_) | refine sy_arrA (h := ?_) | refine sy_strI (h := ?_))
    refine sw_fnAt (hc := compB_ct) (hX := fun _ _ => trivial) (h := ?_)
    rintro _ _ X2 ⟨A3, c3, rfl, rfl⟩
    repeat' (first | apply sw_nil | apply cw_seq | apply cw_reg | refine sy_move (h := ?_) | refine sy_assign (h := ?_) | refine sy_nilCheck (h := ?_) | refine sy_fld (h := ?_) | refine sy_ld (h := ?_) | refine sy_ldAll (h := ?_) | refine sy_pick_t (h := ?_) | refine sy_pick_f (h := ?_) | refine sy_not (h := ?_) | refine sy_eql (h := ?_) | refine sy_neq (h := ?_) | refine sy_lss (h := ?_) | refine sy_leq (h := ?_) | refine sy_gtr (h := ?_) | refine sy_geq (h := ?_) | refine sy_seql (h := ?_) | refine sy_sneq (h := ?_) | refine sy_slen (h := ?_) | refine sy_len (h := ?_) | refine sy_extract (h := ?_) | refine sy_add (h := ?_) | refine sy_sub (h := ?_) | refine sw_skipT (h := ?_) | refine sw_skipF (h := ?_) | refine sw_skipU (h := ?_) | refine sw_alloc (h := fun _ => ?_) | refine sw_box (h := fun _ => ?_) | refine sw_rangeS (h := fun _ => ?_) | refine sw_nextS (h1 := fun _ => ?_) (h2 := fun _ => ?_) | refine sw_bsl (h := fun _ => ?_) | refine sw_st1 (h := ?_) | refine sw_stAll (h := ?_) | refine cw_cond_t (ht := ?_) | refine cw_cond_f (hf := ?_) | apply cw_skip | apply cw_block | apply cw_ret | apply cw_exit | refine sy_and (h := ?_) | refine sy_or (h := ?_) | refine sy_xor (h := ?_) | refine sy_andNot (h := ?_) | refine sy_xorU (h := ?_) | refine sy_shl (h := ?_) | refine sy_shr (h := ?_) | refine sy_mul (h := ?_) | refine sy_int (h := ?_) | refine sy_beql (h := ?_) | refine sy_bneq (h := ?_) | refine sy_min (h := ?_) | refine sy_max (h := ?_) | refine sy_arrA (h := ?_) | refine sy_strI (h := ?_))
    rw [hfin]
    exact ends_ret (res_tmp rfl rfl) ⟨_, List.Sublist.cons_cons _ (List.nil_sublist _), A3, c3, rfl, rfl⟩

  case refine_2.refine_1 =>
    refine cw_loop (ι := Kth (limN n c.acts.n)) (fun i => ⟨[(3, .string g), (5, .pointer (some ⟨b5, 0, none⟩)), (11, .pointer (some ⟨b11, 0, none⟩)), (12, ((((circF c.actsL g i.k).map (fun x : ActD => x.to)).getD (⟨none, 0, 0⟩ : SlV)) : SlV).v), (21, .int .i64 sc), (30, .int .i64 (limN n c.acts.n)), (31, .int .i64 i.k)],
      [cel b11 62 [s1.v, s2.v, s3.v, s4.v], cel b5 30 c.cells], fun w => (XC c w ∧ Strs w st toL) ∧ X1 w⟩) (fun i => limN n c.acts.n - i.k) ⟨0, Nat.zero_le _⟩ (ok_sub ⟨rfl, rfl, rfl, rfl, rfl, rfl, rfl, trivial⟩ (List.Sublist.refl _) fun _ h => h) fun i => ?_
    have hik := i.hk
    repeat' (first | apply sw_nil | apply cw_seq | apply cw_reg | refine sy_move (h := ?_) | refine sy_assign (h := ?_) | refine sy_nilCheck (h := ?_) | refine sy_fld (h := ?_) | refine sy_ld (h := ?_) | refine sy_ldAll (h := ?_) | refine sy_pick_t (h := ?_) | refine sy_pick_f (h := ?_) | refine sy_not (h := ?_) | refine sy_eql (h := ?_) | refine sy_neq (h := ?_) | refine sy_lss (h := ?_) | refine sy_leq (h := ?_) | refine sy_gtr (h := ?_) | refine sy_geq (h := ?_) | refine sy_seql (h := ?_) | refine sy_sneq (h := ?_) | refine sy_slen (h := ?_) | refine sy_len (h := ?_) | refine sy_extract (h := ?_) | refine sy_add (h := ?_) | refine sy_sub (h := ?_) | refine sw_skipT (h := ?_) | refine sw_skipF (h := ?_) | refine sw_skipU (h := ?_) | refine sw_alloc (h := fun _ => ?_) | refine sw_box (h := fun _ => ?_) | refine sw_rangeS (h := fun _ => ?_) | refine sw_nextS (h1 := fun _ => ?_) (h2 := fun _ => ?_) | refine sw_bsl (h := fun _ => ?_) | refine sw_st1 (h := ?_) | refine sw_stAll (h := ?_) | refine cw_cond_t (ht := ?_) | refine cw_cond_f (hf := ?_) | apply cw_skip | apply cw_block | apply cw_ret | apply cw_exit | refine sy_and (h := ?_) | refine sy_or (h := ?_) | refine sy_xor (h := ?_) | refine sy_andNot (h := ?_) | refine sy_xorU (h := ?_) | refine sy_shl (h := ?_) | refine sy_shr (h := ?_) | refine sy_mul (h := ?_) | refine sy_int (h := ?_) | refine sy_beql (h := ?_) | refine sy_bneq (h := ?_) | refine sy_min (h := ?_) | refine sy_max (h := ?_) | refine sy_arrA (h := ?_) | refine sy_strI (h := ?_) | ((fail_if_success (refine sw_chk (h := ?_))); refine sw_guard (ht := ?_) (hf := ?_); all_goals (intro hx_; first | have := of_decide_eq_true hx_ | have := of_decide_eq_false hx_ | skip)) | (refine cw_cond (ht := ?_) (hf := ?_); all_goals (intro hx_; first | have := of_decide_eq_true hx_ | have := of_decide_eq_false hx_ | skip)))
    · have hlt : i.k < limN n c.acts.n := by omega
      have hltL : i.k < c.actsL.length := by omega
      have hp' := hp (by omega)
      obtain ⟨x, hx⟩ : ∃ x, c.actsL[i.k]? = some x := ⟨_, List.getElem?_eq_getElem hltL⟩
      have hstep : circF c.actsL g (i.k + 1) = bif decide (x.kind = 15) && seqB x.group g then some x else circF c.actsL g i.k := by simp only [circF, List.getD_eq_getElem?_getD, hx, Option.getD_some]
      repeat' (first | apply sw_nil | apply cw_seq | apply cw_reg | refine sy_move (h := ?_) | refine sy_assign (h := ?_) | refine sy_nilCheck (h := ?_) | refine sy_fld (h := ?_) | refine sy_ld (h := ?_) | refine sy_ldAll (h := ?_) | refine sy_pick_t (h := ?_) | refine sy_pick_f (h := ?_) | refine sy_not (h := ?_) | refine sy_eql (h := ?_) | refine sy_neq (h := ?_) | refine sy_lss (h := ?_) | refine sy_leq (h := ?_) | refine sy_gtr (h := ?_) | refine sy_geq (h := ?_) | refine sy_seql (h := ?_) | refine sy_sneq (h := ?_) | refine sy_slen (h := ?_) | refine sy_len (h := ?_) | refine sy_extract (h := ?_) | refine sy_add (h := ?_) | refine sy_sub (h := ?_) | refine sw_skipT (h := ?_) | refine sw_skipF (h := ?_) | refine sw_skipU (h := ?_) | refine sw_alloc (h := fun _ => ?_) | refine sw_box (h := fun _ => ?_) | refine sw_rangeS (h := fun _ => ?_) | refine sw_nextS (h1 := fun _ => ?_) (h2 := fun _ => ?_) | refine sw_bsl (h := fun _ => ?_) | refine sw_st1 (h := ?_) | refine sw_stAll (h := ?_) | refine cw_cond_t (ht := ?_) | refine cw_cond_f (hf := ?_) | apply cw_skip | apply cw_block | apply cw_ret | apply cw_exit | refine sy_and (h := ?_) | refine sy_or (h := ?_) | refine sy_xor (h := ?_) | refine sy_andNot (h := ?_) | refine sy_xorU (h := ?_) | refine sy_shl (h := ?_) | refine sy_shr (h := ?_) | refine sy_mul (h := ?_) | refine sy_int (h := ?_) | refine sy_beql (h := ?_) | refine sy_bneq (h := ?_) | refine sy_min (h := ?_) | refine sy_max (h := ?_) | refine sy_arrA (h := ?_) | refine sy_strI (h := ?_) | (refine sy_idxX (q := i.k * 20) (h := ?_)) | (refine sy_ldXs (cs := x.cells) (hF := fun w h => Acts.get h.1.1.1 hx) (h := ?_)) | ((fail_if_success (refine sw_chk (h := ?_))); refine sw_guard (ht := ?_) (hf := ?_); all_goals (intro hx_; first | have := of_decide_eq_true hx_ | have := of_decide_eq_false hx_ | skip)) | (refine cw_cond (ht := ?_) (hf := ?_); all_goals (intro hx_; first | have := of_decide_eq_true hx_ | have := of_decide_eq_false hx_ | skip)))
      all_goals exact ⟨(⟨i.k + 1, hlt⟩ : Kth (limN n c.acts.n)), (by show limN n c.acts.n - (i.k + 1) < limN n c.acts.n - i.k; omega), ok_sub (by
        have e : circF c.actsL g (i.k + 1) = _ := hstep.trans (by simp only [*, Int.reduceEq, decide_true, decide_false, cond_true, cond_false, Bool.and_true, Bool.true_and, Bool.and_false, Bool.false_and, Bool.not_true, Bool.not_false, Bool.or_true, Bool.true_or, Bool.or_false, Bool.false_or]; rfl)
        simp only [e]
        exact ⟨rfl, rfl, rfl, rfl, rfl, rfl, rfl, trivial⟩) (List.Sublist.cons _ (List.Sublist.refl _)) fun _ h => h⟩
    have hk : i.k = limN n c.acts.n := by omega
    have hLe : listOf c n sc g toL = ((circF c.actsL g i.k).map (·.toL)).getD [] := by
      rw [hLo, ‹decide (sc = 1) = false›, ‹decide (sc = 2) = true›, hk, hl]
      rfl
    have hmem : ∀ x, circF c.actsL g i.k = some x → x ∈ c.actsL := fun x hx => circF_mem (by omega) hx
    repeat' (first | apply sw_nil | apply cw_seq | apply cw_reg | refine sy_move (h := ?_) | refine sy_assign (h := ?_) | refine sy_nilCheck (h := ?_) | refine sy_fld (h := ?_) | refine sy_ld (h := ?_) | refine sy_ldAll (h := ?_) | refine sy_pick_t (h := ?_) | refine sy_pick_f (h := ?_) | refine sy_not (h := ?_) | refine sy_eql (h := ?_) | refine sy_neq (h := ?_) | refine sy_lss (h := ?_) | refine sy_leq (h := ?_) | refine sy_gtr (h := ?_) | refine sy_geq (h := ?_) | refine sy_seql (h := ?_) | refine sy_sneq (h := ?_) | refine sy_slen (h := ?_) | refine sy_len (h := ?_) | refine sy_extract (h := ?_) | refine sy_add (h := ?_) | refine sy_sub (h := ?_) | refine sw_skipT (h := ?_) | refine sw_skipF (h := ?_) | refine sw_skipU (h := ?_) | refine sw_alloc (h := fun _ => ?_) | refine sw_box (h := fun _ => ?_) | refine sw_rangeS (h := fun _ => ?_) | refine sw_nextS (h1 := fun _ => ?_) (h2 := fun _ => ?_) | refine sw_bsl (h := fun _ => ?_) | refine sw_st1 (h := ?_) | refine sw_stAll (h := ?_) | refine cw_cond_t (ht := ?_) | refine cw_cond_f (hf := ?_) | apply cw_skip | apply cw_block | apply cw_ret | apply cw_exit | refine sy_and (h := ?_) | refine sy_or (h := ?_) | refine sy_xor (h := ?_) | refine sy_andNot (h := ?_) | refine sy_xorU (h := ?_) | refine sy_shl (h := ?_) | refine sy_shr (h := ?_) | refine sy_mul (h := ?_) | refine sy_int (h := ?_) | refine sy_beql (h := ?_) | refine sy_bneq (h := ?_) | refine sy_min (h := ?_) | refine sy_max (h := ?_) | refine sy_arrA (h := ?_) | refine sy_strI (h := ?_) | refine sw_pu (hc := climit_pu c n) (h := ?_) | ((fail_if_success (refine sw_chk (h := ?_))); refine sw_guard (ht := ?_) (hf := ?_); all_goals (intro hx_; first | have := of_decide_eq_true hx_ | have := of_decide_eq_false hx_ | skip)) | (refine cw_cond (ht := ?_) (hf := ?_); all_goals (intro hx_; first | have := of_decide_eq_true hx_ | have := of_decide_eq_false hx_ | skip)))
    generalize circF c.actsL g i.k = o at *
    obtain ⟨S, L, hS1, hL1, hSL, hLl⟩ : ∃ (S : SlV) (L : List ByteArray), (o.map (fun x : ActD => x.to)).getD (⟨none, 0, 0⟩ : SlV) = S ∧ (o.map (fun x : ActD => x.toL)).getD [] = L ∧ (∀ w, (XC c w ∧ Strs w st toL) ∧ X1 w → Strs w S L) ∧ L.length ≤ 1000000 := by
      cases o with
      | none => exact ⟨_, _, rfl, rfl, fun w _ => rowsD_nil w 1, by simp⟩
      | some x => exact ⟨_, _, rfl, rfl, fun w h => (h.1.1.1.2 x (hmem x rfl)).1, by have h1 := (hc.rng x (hmem x rfl)).to_len; have h2 := (hc.sm x (hmem x rfl)).to; show x.toL.length ≤ 1000000; omega⟩
    rw [hL1] at hLe
    rw [hS1]
    refine cw_know (p := (S).n = (L).length ∧ (S).n ≤ maxLen ∧ (0 < (L).length → (S).p.isSome = true)) (fun w h => ⟨(hSL w h).len_, Nat.le_trans (RowsD.cap (hSL w h)) (RowsD.max (hSL w h)), (hSL w h).some_⟩) fun ⟨hSl, hSm, hSp⟩ => ?_
    simp only [maxLen] at hSm
    refine cw_nilRow 9 1 ?_
    refine cw_loop (ι := FilS (L).length) (fun i => ⟨[(5, .pointer (some ⟨b5, 0, none⟩)), (11, .pointer (some ⟨b11, 0, none⟩)), (15, .slice i.A (((L).take i.k).filter (keepM c (sortB t.b))).length i.c), (54, (S).v), (55, .int .i64 (S).n), (56, .int .i64 i.k)],
      [orow 9 1 (.slice i.A (((L).take i.k).filter (keepM c (sortB t.b))).length i.c) (((L).take i.k).filter (keepM c (sortB t.b))).length ((((L).take i.k).filter (keepM c (sortB t.b))).map encB), cel b11 62 [s1.v, s2.v, s3.v, s4.v], cel b5 30 c.cells], fun w => (XC c w ∧ Strs w st toL) ∧ X1 w⟩) (fun i => (L).length - i.k) ⟨0, Nat.zero_le _, none, 0⟩ (ok_sub ⟨rfl, rfl, rfl, rfl, rfl, rfl, trivial⟩ (List.Sublist.refl _) fun _ h => h) fun i => ?_
    have hik := i.hk
    repeat' (first | apply sw_nil | apply cw_seq | apply cw_reg | refine sy_move (h := ?_) | refine sy_assign (h := ?_) | refine sy_nilCheck (h := ?_) | refine sy_fld (h := ?_) | refine sy_ld (h := ?_) | refine sy_ldAll (h := ?_) | refine sy_pick_t (h := ?_) | refine sy_pick_f (h := ?_) | refine sy_not (h := ?_) | refine sy_eql (h := ?_) | refine sy_neq (h := ?_) | refine sy_lss (h := ?_) | refine sy_leq (h := ?_) | refine sy_gtr (h := ?_) | refine sy_geq (h := ?_) | refine sy_seql (h := ?_) | refine sy_sneq (h := ?_) | refine sy_slen (h := ?_) | refine sy_len (h := ?_) | refine sy_extract (h := ?_) | refine sy_add (h := ?_) | refine sy_sub (h := ?_) | refine sw_skipT (h := ?_) | refine sw_skipF (h := ?_) | refine sw_skipU (h := ?_) | refine sw_alloc (h := fun _ => ?_) | refine sw_box (h := fun _ => ?_) | refine sw_rangeS (h := fun _ => ?_) | refine sw_nextS (h1 := fun _ => ?_) (h2 := fun _ => ?_) | refine sw_bsl (h := fun _ => ?_) | refine sw_st1 (h := ?_) | refine sw_stAll (h := ?_) | refine cw_cond_t (ht := ?_) | refine cw_cond_f (hf := ?_) | apply cw_skip | apply cw_block | apply cw_ret | apply cw_exit | refine sy_and (h := ?_) | refine sy_or (h := ?_) | refine sy_xor (h := ?_) | refine sy_andNot (h := ?_) | refine sy_xorU (h := ?_) | refine sy_shl (h := ?_) | refine sy_shr (h := ?_) | refine sy_mul (h := ?_) | refine sy_int (h := ?_) | refine sy_beql (h := ?_) | refine sy_bneq (h := ?_) | refine sy_min (h := ?_) | refine sy_max (h := ?_) | refine sy_arrA (h := ?_) | refine sy_strI (h := ?_) | ((fail_if_success (refine sw_chk (h := ?_))); refine sw_guard (ht := ?_) (hf := ?_); all_goals (intro hx_; first | have := of_decide_eq_true hx_ | have := of_decide_eq_false hx_ | skip)) | (refine cw_cond (ht := ?_) (hf := ?_); all_goals (intro hx_; first | have := of_decide_eq_true hx_ | have := of_decide_eq_false hx_ | skip)))
    · have hlt : i.k < (L).length := by omega
      have hp2 := hSp (by omega)
      have hfs := filter_succ (p := (keepM c (sortB t.b))) (L) hlt
      have hfl : (((L).take i.k).filter (keepM c (sortB t.b))).length ≤ 1000000 := by
        have h1 := List.length_filter_le (keepM c (sortB t.b)) ((L).take i.k)
        have h2 := List.length_take_le i.k (L)
        omega
      generalize hacc : ((L).take i.k).filter (keepM c (sortB t.b)) = acc at *
      generalize hxe : (L).getD i.k .empty = x at *
      repeat' (first | apply sw_nil | apply cw_seq | apply cw_reg | refine sy_move (h := ?_) | refine sy_assign (h := ?_) | refine sy_nilCheck (h := ?_) | refine sy_fld (h := ?_) | refine sy_ld (h := ?_) | refine sy_ldAll (h := ?_) | refine sy_pick_t (h := ?_) | refine sy_pick_f (h := ?_) | refine sy_not (h := ?_) | refine sy_eql (h := ?_) | refine sy_neq (h := ?_) | refine sy_lss (h := ?_) | refine sy_leq (h := ?_) | refine sy_gtr (h := ?_) | refine sy_geq (h := ?_) | refine sy_seql (h := ?_) | refine sy_sneq (h := ?_) | refine sy_slen (h := ?_) | refine sy_len (h := ?_) | refine sy_extract (h := ?_) | refine sy_add (h := ?_) | refine sy_sub (h := ?_) | refine sw_skipT (h := ?_) | refine sw_skipF (h := ?_) | refine sw_skipU (h := ?_) | refine sw_alloc (h := fun _ => ?_) | refine sw_box (h := fun _ => ?_) | refine sw_rangeS (h := fun _ => ?_) | refine sw_nextS (h1 := fun _ => ?_) (h2 := fun _ => ?_) | refine sw_bsl (h := fun _ => ?_) | refine sw_st1 (h := ?_) | refine sw_stAll (h := ?_) | refine cw_cond_t (ht := ?_) | refine cw_cond_f (hf := ?_) | apply cw_skip | apply cw_block | apply cw_ret | apply cw_exit | refine sy_and (h := ?_) | refine sy_or (h := ?_) | refine sy_xor (h := ?_) | refine sy_andNot (h := ?_) | refine sy_xorU (h := ?_) | refine sy_shl (h := ?_) | refine sy_shr (h := ?_) | refine sy_mul (h := ?_) | refine sy_int (h := ?_) | refine sy_beql (h := ?_) | refine sy_bneq (h := ?_) | refine sy_min (h := ?_) | refine sy_max (h := ?_) | refine sy_arrA (h := ?_) | refine sy_strI (h := ?_) | (refine sy_idxX (q := i.k) (h := ?_)) | (refine sy_ldX (u := .string x) (hF := fun w h => hxe ▸ Strs.get (hSL w h) hlt) (h := ?_)) | (refine sw_pu (hc := containsS_pu s3 (sortB t.b) x) (hX := fun w h => (hties w h.2).2.2.1) (h := ?_)) | (refine sw_append (size := 1) (z := .string ⟨#[]⟩) (news := [encB x]) (q := 1) rfl rfl rfl rfl (fun _ => At.there _ (At.here _)) (fun w G => src_cel G List.mem_cons_self rfl rfl 1) (by omega) (by simp only [maxLen]; omega) rfl ?_ rfl ?_; (first | with_reducible rfl | with_reducible assumption | with_reducible exact Bool.not_false | with_reducible exact Bool.not_true); intro A2 c2) | ((fail_if_success (refine sw_chk (h := ?_))); refine sw_guard (ht := ?_) (hf := ?_); all_goals (intro hx_; first | have := of_decide_eq_true hx_ | have := of_decide_eq_false hx_ | skip)) | (refine cw_cond (ht := ?_) (hf := ?_); all_goals (intro hx_; first | have := of_decide_eq_true hx_ | have := of_decide_eq_false hx_ | skip)))
      all_goals first
        | (have e : ((L).take (i.k + 1)).filter (keepM c (sortB t.b)) = acc ++ [x] := by rw [hfs]; simp only [keepM, *, decide_true, decide_false, cond_true, cond_false, Bool.and_true, Bool.true_and, Bool.and_false, Bool.false_and, Bool.not_true, Bool.not_false, Bool.or_true, Bool.true_or, Bool.or_false, Bool.false_or]
           refine ⟨(⟨i.k + 1, hlt, A2, c2⟩ : FilS (L).length), (by show (L).length - (i.k + 1) < (L).length - i.k; omega), ok_sub ?_ ?_ fun _ h => h⟩
           · simp only [e, List.length_append, List.length_cons, List.length_nil, Nat.zero_add]; exact ⟨rfl, rfl, rfl, rfl, rfl, rfl, trivial⟩
           · simp only [e, List.length_append, List.length_cons, List.length_nil, Nat.zero_add, List.map_append, List.map_cons, List.map_nil]; exact List.Sublist.cons _ (List.Sublist.refl _))
        | (have e : ((L).take (i.k + 1)).filter (keepM c (sortB t.b)) = acc := by rw [hfs]; simp only [keepM, *, decide_true, decide_false, cond_true, cond_false, Bool.and_true, Bool.true_and, Bool.and_false, Bool.false_and, Bool.not_true, Bool.not_false, Bool.or_true, Bool.true_or, Bool.or_false, Bool.false_or, List.append_nil]
           refine ⟨(⟨i.k + 1, hlt, i.A, i.c⟩ : FilS (L).length), (by show (L).length - (i.k + 1) < (L).length - i.k; omega), ok_sub ?_ ?_ fun _ h => h⟩
           · simp only [e]; exact ⟨rfl, rfl, rfl, rfl, rfl, rfl, trivial⟩
           · simp only [e]; exact List.Sublist.refl _)
    have hfl : (((L).take i.k).filter (keepM c (sortB t.b))).length ≤ 1000000000 := by
      have h1 := List.length_filter_le (keepM c (sortB t.b)) ((L).take i.k)
      have h2 := List.length_take_le i.k (L)
      omega
    have hk : i.k = (L).length := by omega
    have hfin : membersV c n sc g toL = compB (sortB (((L).take i.k).filter (keepM c (sortB t.b)))) := by rw [hM, hLe, hk, List.take_length]
    refine sw_turn (hc := sortB_ct hfl) (hX := fun _ _ => trivial) (h := ?_)
    repeat' (first | apply sw_nil | apply cw_seq | apply cw_reg | refine sy_move (h := ?_) | refine sy_assign (h := ?_) | refine sy_nilCheck (h := ?_) | refine sy_fld (h := ?_) | refine sy_ld (h := ?_) | refine sy_ldAll (h := ?_) | refine sy_pick_t (h := ?_) | refine sy_pick_f (h := ?_) | refine sy_not (h := ?_) | refine sy_eql (h := ?_) | refine sy_neq (h := ?_) | refine sy_lss (h := ?_) | refine sy_leq (h := ?_) | refine sy_gtr (h := ?_) | refine sy_geq (h := ?_) | refine sy_seql (h := ?_) | refine sy_sneq (h := ?_) | refine sy_slen (h := ?_) | refine sy_len (h := ?_) | refine sy_extract (h := ?_) | refine sy_add (h := ?_) | refine sy_sub (h := ?_) | refine sw_skipT (h := ?_) | refine sw_skipF (h := ?_) | refine sw_skipU (h := ?_) | refine sw_alloc (h := fun _ => ?_) | refine sw_box (h := fun _ => ?_) | refine sw_rangeS (h := fun _ => ?_) | refine sw_nextS (h1 := fun _ => ?_) (h2 := fun _ => ?_) | refine sw_bsl (h := fun _ => ?_) | refine sw_st1 (h := ?_) | refine sw_stAll (h := ?_) | refine cw_cond_t (ht := ?_) | refine cw_cond_f (hf := ?_) | apply cw_skip | apply cw_block | apply cw_ret | apply cw_exit | refine sy_and (h := ?_) | refine sy_or (h := ?_) | refine sy_xor (h := ?_) | refine sy_andNot (h := ?_) | refine sy_xorU (h := ?_) | refine sy_shl (h := ?_) | refine sy_shr (h := ?_) | refine sy_mul (h := ?_) | refine sy_int (h := ?_) | refine sy_beql (h := ?_) | refine sy_bneq (h := ?_) | refine sy_min (h := ?_) | refine sy_max (h := ?_) | refine sy_arrA (h := ?_) | refine sy_strI (h := ?_))
    refine sw_fnAt (hc := compB_ct) (hX := fun _ _ => trivial) (h := ?_)
    rintro _ _ X2 ⟨A3, c3, rfl, rfl⟩
    repeat' (first | apply sw_nil | apply cw_seq | apply cw_reg | refine sy_move (h := ?_) | refine sy_assign (h := ?_) | refine sy_nilCheck (h := ?_) | refine sy_fld (h := ?_) | refine sy_ld (h := ?_) | refine sy_ldAll (h := ?_) | refine sy_pick_t (h := ?_) | refine sy_pick_f (h := ?_) | refine sy_not (h := ?_) | refine sy_eql (h := ?_) | refine sy_neq (h := ?_) | refine sy_lss (h := ?_) | refine sy_leq (h := ?_) | refine sy_gtr (h := ?_) | refine sy_geq (h := ?_) | refine sy_seql (h := ?_) | refine sy_sneq (h := ?_) | refine sy_slen (h := ?_) | refine sy_len (h := ?_) | refine sy_extract (h := ?_) | refine sy_add (h := ?_) | refine sy_sub (h := ?_) | refine sw_skipT (h := ?_) | refine sw_skipF (h := ?_) | refine sw_skipU (h := ?_) | refine sw_alloc (h := fun _ => ?_) | refine sw_box (h := fun _ => ?_) | refine sw_rangeS (h := fun _ => ?_) | refine sw_nextS (h1 := fun _ => ?_) (h2 := fun _ => ?_) | refine sw_bsl (h := fun _ => ?_) | refine sw_st1 (h := ?_) | refine sw_stAll (h := ?_) | refine cw_cond_t (ht := ?_) | refine cw_cond_f (hf := ?_) | apply cw_skip | apply cw_block | apply cw_ret | apply cw_exit | refine sy_and (h := ?_) | refine sy_or (h := ?_) | refine sy_xor (h := ?_) | refine sy_andNot (h := ?_) | refine sy_xorU (h := ?_) | refine sy_shl (h := ?_) | refine sy_shr (h := ?_) | refine sy_mul (h := ?_) | refine sy_int (h := ?_) | refine sy_beql (h := ?_) | refine sy_bneq (h := ?_) | refine sy_min (h := ?_) | refine sy_max (h := ?_) | refine sy_arrA (h := ?_) | refine sy_strI (h := ?_))
    rw [hfin]
    exact ends_ret (res_tmp rfl rfl) ⟨_, List.Sublist.cons_cons _ (List.nil_sublist _), A3, c3, rfl, rfl⟩

  case refine_2.refine_2.refine_1 =>
    have hLe : listOf c n sc g toL = toL := by
      rw [hLo, ‹decide (sc = 1) = false›, ‹decide (sc = 2) = false›, ‹decide (sc = 3) = true›]
      rfl
    have hSL : ∀ w, (XC c w ∧ Strs w st toL) ∧ X1 w → Strs w st toL := fun w h => h.1.2
    have hLl := htl
    refine cw_know (p := (st).n = (toL).length ∧ (st).n ≤ maxLen ∧ (0 < (toL).length → (st).p.isSome = true)) (fun w h => ⟨(hSL w h).len_, Nat.le_trans (RowsD.cap (hSL w h)) (RowsD.max (hSL w h)), (hSL w h).some_⟩) fun ⟨hSl, hSm, hSp⟩ => ?_
    simp only [maxLen] at hSm
    refine cw_nilRow 9 1 ?_
    refine cw_loop (ι := FilS (toL).length) (fun i => ⟨[(5, .pointer (some ⟨b5, 0, none⟩)), (11, .pointer (some ⟨b11, 0, none⟩)), (15, .slice i.A (((toL).take i.k).filter (keepM c (sortB t.b))).length i.c), (54, (st).v), (55, .int .i64 (st).n), (56, .int .i64 i.k)],
      [orow 9 1 (.slice i.A (((toL).take i.k).filter (keepM c (sortB t.b))).length i.c) (((toL).take i.k).filter (keepM c (sortB t.b))).length ((((toL).take i.k).filter (keepM c (sortB t.b))).map encB), cel b11 62 [s1.v, s2.v, s3.v, s4.v], cel b5 30 c.cells], fun w => (XC c w ∧ Strs w st toL) ∧ X1 w⟩) (fun i => (toL).length - i.k) ⟨0, Nat.zero_le _, none, 0⟩ (ok_sub ⟨rfl, rfl, rfl, rfl, rfl, rfl, trivial⟩ (List.Sublist.refl _) fun _ h => h) fun i => ?_
    have hik := i.hk
    repeat' (first | apply sw_nil | apply cw_seq | apply cw_reg | refine sy_move (h := ?_) | refine sy_assign (h := ?_) | refine sy_nilCheck (h := ?_) | refine sy_fld (h := ?_) | refine sy_ld (h := ?_) | refine sy_ldAll (h := ?_) | refine sy_pick_t (h := ?_) | refine sy_pick_f (h := ?_) | refine sy_not (h := ?_) | refine sy_eql (h := ?_) | refine sy_neq (h := ?_) | refine sy_lss (h := ?_) | refine sy_leq (h := ?_) | refine sy_gtr (h := ?_) | refine sy_geq (h := ?_) | refine sy_seql (h := ?_) | refine sy_sneq (h := ?_) | refine sy_slen (h := ?_) | refine sy_len (h := ?_) | refine sy_extract (h := ?_) | refine sy_add (h := ?_) | refine sy_sub (h := ?_) | refine sw_skipT (h := ?_) | refine sw_skipF (h := ?_) | refine sw_skipU (h := ?_) | refine sw_alloc (h := fun _ => ?_) | refine sw_box (h := fun _ => ?_) | refine sw_rangeS (h := fun _ => ?_) | refine sw_nextS (h1 := fun _ => ?_) (h2 := fun _ => ?_) | refine sw_bsl (h := fun _ => ?_) | refine sw_st1 (h := ?_) | refine sw_stAll (h := ?_) | refine cw_cond_t (ht := ?_) | refine cw_cond_f (hf := ?_) | apply cw_skip | apply cw_block | apply cw_ret | apply cw_exit | refine sy_and (h := ?_) | refine sy_or (h := ?_) | refine sy_xor (h := ?_) | refine sy_andNot (h := ?_) | refine sy_xorU (h := ?_) | refine sy_shl (h := ?_) | refine sy_shr (h := ?_) | refine sy_mul (h := ?_) | refine sy_int (h := ?_) | refine sy_beql (h := ?_) | refine sy_bneq (h := ?_) | refine sy_min (h := ?_) | refine sy_max (h := ?_) | refine sy_arrA (h := ?_) | refine sy_strI (h := ?_) | ((fail_if_success (refine sw_chk (h := ?_))); refine sw_guard (ht := ?_) (hf := ?_); all_goals (intro hx_; first | have := of_decide_eq_true hx_ | have := of_decide_eq_false hx_ | skip)) | (refine cw_cond (ht := ?_) (hf := ?_); all_goals (intro hx_; first | have := of_decide_eq_true hx_ | have := of_decide_eq_false hx_ | skip)))
    · have hlt : i.k < (toL).length := by omega
      have hp2 := hSp (by omega)
      have hfs := filter_succ (p := (keepM c (sortB t.b))) (toL) hlt
      have hfl : (((toL).take i.k).filter (keepM c (sortB t.b))).length ≤ 1000000 := by
        have h1 := List.length_filter_le (keepM c (sortB t.b)) ((toL).take i.k)
        have h2 := List.length_take_le i.k (toL)
        omega
      generalize hacc : ((toL).take i.k).filter (keepM c (sortB t.b)) = acc at *
      generalize hxe : (toL).getD i.k .empty = x at *
      repeat' (first | apply sw_nil | apply cw_seq | apply cw_reg | refine sy_move (h := ?_) | refine sy_assign (h := ?_) | refine sy_nilCheck (h := ?_) | refine sy_fld (h := ?_) | refine sy_ld (h := ?_) | refine sy_ldAll (h := ?_) | refine sy_pick_t (h := ?_) | refine sy_pick_f (h := ?_) | refine sy_not (h := ?_) | refine sy_eql (h := ?_) | refine sy_neq (h := ?_) | refine sy_lss (h := ?_) | refine sy_leq (h := ?_) | refine sy_gtr (h := ?_) | refine sy_geq (h := ?_) | refine sy_seql (h := ?_) | refine sy_sneq (h := ?_) | refine sy_slen (h := ?_) | refine sy_len (h := ?_) | refine sy_extract (h := ?_) | refine sy_add (h := ?_) | refine sy_sub (h := ?_) | refine sw_skipT (h := ?_) | refine sw_skipF (h := ?_) | refine sw_skipU (h := ?_) | refine sw_alloc (h := fun _ => ?_) | refine sw_box (h := fun _ => ?_) | refine sw_rangeS (h := fun _ => ?_) | refine sw_nextS (h1 := fun _ => ?_) (h2 := fun _ => ?_) | refine sw_bsl (h := fun _ => ?_) | refine sw_st1 (h := ?_) | refine sw_stAll (h := ?_) | refine cw_cond_t (ht := ?_) | refine cw_cond_f (hf := ?_) | apply cw_skip | apply cw_block | apply cw_ret | apply cw_exit | refine sy_and (h := ?_) | refine sy_or (h := ?_) | refine sy_xor (h := ?_) | refine sy_andNot (h := ?_) | refine sy_xorU (h := ?_) | refine sy_shl (h := ?_) | refine sy_shr (h := ?_) | refine sy_mul (h := ?_) | refine sy_int (h := ?_) | refine sy_beql (h := ?_) | refine sy_bneq (h := ?_) | refine sy_min (h := ?_) | refine sy_max (h := ?_) | refine sy_arrA (h := ?_) | refine sy_strI (h := ?_) | (refine sy_idxX (q := i.k) (h := ?_)) | (refine sy_ldX (u := .string x) (hF := fun w h => hxe ▸ Strs.get (hSL w h) hlt) (h := ?_)) | (refine sw_pu (hc := containsS_pu s3 (sortB t.b) x) (hX := fun w h => (hties w h.2).2.2.1) (h := ?_)) | (refine sw_append (size := 1) (z := .string ⟨#[]⟩) (news := [encB x]) (q := 1) rfl rfl rfl rfl (fun _ => At.there _ (At.here _)) (fun w G => src_cel G List.mem_cons_self rfl rfl 1) (by omega) (by simp only [maxLen]; omega) rfl ?_ rfl ?_; (first | with_reducible rfl | with_reducible assumption | with_reducible exact Bool.not_false | with_reducible exact Bool.not_true); intro A2 c2) | ((fail_if_success (refine sw_chk (h := ?_))); refine sw_guard (ht := ?_) (hf := ?_); all_goals (intro hx_; first | have := of_decide_eq_true hx_ | have := of_decide_eq_false hx_ | skip)) | (refine cw_cond (ht := ?_) (hf := ?_); all_goals (intro hx_; first | have := of_decide_eq_true hx_ | have := of_decide_eq_false hx_ | skip)))
      all_goals first
        | (have e : ((toL).take (i.k + 1)).filter (keepM c (sortB t.b)) = acc ++ [x] := by rw [hfs]; simp only [keepM, *, decide_true, decide_false, cond_true, cond_false, Bool.and_true, Bool.true_and, Bool.and_false, Bool.false_and, Bool.not_true, Bool.not_false, Bool.or_true, Bool.true_or, Bool.or_false, Bool.false_or]
           refine ⟨(⟨i.k + 1, hlt, A2, c2⟩ : FilS (toL).length), (by show (toL).length - (i.k + 1) < (toL).length - i.k; omega), ok_sub ?_ ?_ fun _ h => h⟩
           · simp only [e, List.length_append, List.length_cons, List.length_nil, Nat.zero_add]; exact ⟨rfl, rfl, rfl, rfl, rfl, rfl, trivial⟩
           · simp only [e, List.length_append, List.length_cons, List.length_nil, Nat.zero_add, List.map_append, List.map_cons, List.map_nil]; exact List.Sublist.cons _ (List.Sublist.refl _))
        | (have e : ((toL).take (i.k + 1)).filter (keepM c (sortB t.b)) = acc := by rw [hfs]; simp only [keepM, *, decide_true, decide_false, cond_true, cond_false, Bool.and_true, Bool.true_and, Bool.and_false, Bool.false_and, Bool.not_true, Bool.not_false, Bool.or_true, Bool.true_or, Bool.or_false, Bool.false_or, List.append_nil]
           refine ⟨(⟨i.k + 1, hlt, i.A, i.c⟩ : FilS (toL).length), (by show (toL).length - (i.k + 1) < (toL).length - i.k; omega), ok_sub ?_ ?_ fun _ h => h⟩
           · simp only [e]; exact ⟨rfl, rfl, rfl, rfl, rfl, rfl, trivial⟩
           · simp only [e]; exact List.Sublist.refl _)
    have hfl : (((toL).take i.k).filter (keepM c (sortB t.b))).length ≤ 1000000000 := by
      have h1 := List.length_filter_le (keepM c (sortB t.b)) ((toL).take i.k)
      have h2 := List.length_take_le i.k (toL)
      omega
    have hk : i.k = (toL).length := by omega
    have hfin : membersV c n sc g toL = compB (sortB (((toL).take i.k).filter (keepM c (sortB t.b)))) := by rw [hM, hLe, hk, List.take_length]
    refine sw_turn (hc := sortB_ct hfl) (hX := fun _ _ => trivial) (h := ?_)
    repeat' (first | apply sw_nil | apply cw_seq | apply cw_reg | refine sy_move (h := ?_) | refine sy_assign (h := ?_) | refine sy_nilCheck (h := ?_) | refine sy_fld (h := ?_) | refine sy_ld (h := ?_) | refine sy_ldAll (h := ?_) | refine sy_pick_t (h := ?_) | refine sy_pick_f (h := ?_) | refine sy_not (h := ?_) | refine sy_eql (h := ?_) | refine sy_neq (h := ?_) | refine sy_lss (h := ?_) | refine sy_leq (h := ?_) | refine sy_gtr (h := ?_) | refine sy_geq (h := ?_) | refine sy_seql (h := ?_) | refine sy_sneq (h := ?_) | refine sy_slen (h := ?_) | refine sy_len (h := ?_) | refine sy_extract (h := ?_) | refine sy_add (h := ?_) | refine sy_sub (h := ?_) | refine sw_skipT (h := ?_) | refine sw_skipF (h := ?_) | refine sw_skipU (h := ?_) | refine sw_alloc (h := fun _ => ?_) | refine sw_box (h := fun _ => ?_) | refine sw_rangeS (h := fun _ => ?_) | refine sw_nextS (h1 := fun _ => ?_) (h2 := fun _ => ?_) | refine sw_bsl (h := fun _ => ?_) | refine sw_st1 (h := ?_) | refine sw_stAll (h := ?_) | refine cw_cond_t (ht := ?_) | refine cw_cond_f (hf := ?_) | apply cw_skip | apply cw_block | apply cw_ret | apply cw_exit | refine sy_and (h := ?_) | refine sy_or (h := ?_) | refine sy_xor (h := ?_) | refine sy_andNot (h := ?_) | refine sy_xorU (h := ?_) | refine sy_shl (h := ?_) | refine sy_shr (h := ?_) | refine sy_mul (h := ?_) | refine sy_int (h := ?_) | refine sy_beql (h := ?_) | refine sy_bneq (h := ?_) | refine sy_min (h := ?_) | refine sy_max (h := ?_) | refine sy_arrA (h := ?_) | refine sy_strI (h := ?_))
    refine sw_fnAt (hc := compB_ct) (hX := fun _ _ => trivial) (h := ?_)
    rintro _ _ X2 ⟨A3, c3, rfl, rfl⟩
    repeat' (first | apply sw_nil | apply cw_seq | apply cw_reg | refine sy_move (h := ?_) | refine sy_assign (h := ?_) | refine sy_nilCheck (h := ?_) | refine sy_fld (h := ?_) | refine sy_ld (h := ?_) | refine sy_ldAll (h := ?_) | refine sy_pick_t (h := ?_) | refine sy_pick_f (h := ?_) | refine sy_not (h := ?_) | refine sy_eql (h := ?_) | refine sy_neq (h := ?_) | refine sy_lss (h := ?_) | refine sy_leq (h := ?_) | refine sy_gtr (h := ?_) | refine sy_geq (h := ?_) | refine sy_seql (h := ?_) | refine sy_sneq (h := ?_) | refine sy_slen (h := ?_) | refine sy_len (h := ?_) | refine sy_extract (h := ?_) | refine sy_add (h := ?_) | refine sy_sub (h := ?_) | refine sw_skipT (h := ?_) | refine sw_skipF (h := ?_) | refine sw_skipU (h := ?_) | refine sw_alloc (h := fun _ => ?_) | refine sw_box (h := fun _ => ?_) | refine sw_rangeS (h := fun _ => ?_) | refine sw_nextS (h1 := fun _ => ?_) (h2 := fun _ => ?_) | refine sw_bsl (h := fun _ => ?_) | refine sw_st1 (h := ?_) | refine sw_stAll (h := ?_) | refine cw_cond_t (ht := ?_) | refine cw_cond_f (hf := ?_) | apply cw_skip | apply cw_block | apply cw_ret | apply cw_exit | refine sy_and (h := ?_) | refine sy_or (h := ?_) | refine sy_xor (h := ?_) | refine sy_andNot (h := ?_) | refine sy_xorU (h := ?_) | refine sy_shl (h := ?_) | refine sy_shr (h := ?_) | refine sy_mul (h := ?_) | refine sy_int (h := ?_) | refine sy_beql (h := ?_) | refine sy_bneq (h := ?_) | refine sy_min (h := ?_) | refine sy_max (h := ?_) | refine sy_arrA (h := ?_) | refine sy_strI (h := ?_))
    rw [hfin]
    exact ends_ret (res_tmp rfl rfl) ⟨_, List.Sublist.cons_cons _ (List.nil_sublist _), A3, c3, rfl, rfl⟩

  case refine_2.refine_2.refine_2 =>
    have hLe : listOf c n sc g toL = [] := by
      rw [hLo, ‹decide (sc = 1) = false›, ‹decide (sc = 2) = false›, ‹decide (sc = 3) = false›]
      rfl
    have hSL : ∀ w, (XC c w ∧ Strs w st toL) ∧ X1 w → Strs w ⟨none, 0, 0⟩ [] := fun w _ => rowsD_nil w 1
    have hLl : ([] : List ByteArray).length ≤ 1000000 := by simp
    refine cw_know (p := ((⟨none, 0, 0⟩ : SlV)).n = (([] : List ByteArray)).length ∧ ((⟨none, 0, 0⟩ : SlV)).n ≤ maxLen ∧ (0 < (([] : List ByteArray)).length → ((⟨none, 0, 0⟩ : SlV)).p.isSome = true)) (fun w h => ⟨((show Strs w ⟨none, 0, 0⟩ [] from rowsD_nil w 1)).len_, Nat.le_trans (RowsD.cap ((show Strs w ⟨none, 0, 0⟩ [] from rowsD_nil w 1))) (RowsD.max ((show Strs w ⟨none, 0, 0⟩ [] from rowsD_nil w 1))), ((show Strs w ⟨none, 0, 0⟩ [] from rowsD_nil w 1)).some_⟩) fun ⟨hSl, hSm, hSp⟩ => ?_
    simp only [maxLen] at hSm
    refine cw_nilRow 9 1 ?_
    refine cw_loop (ι := FilS (([] : List ByteArray)).length) (fun i => ⟨[(5, .pointer (some ⟨b5, 0, none⟩)), (11, .pointer (some ⟨b11, 0, none⟩)), (15, .slice i.A (((([] : List ByteArray)).take i.k).filter (keepM c (sortB t.b))).length i.c), (54, ((⟨none, 0, 0⟩ : SlV)).v), (55, .int .i64 ((⟨none, 0, 0⟩ : SlV)).n), (56, .int .i64 i.k)],
      [orow 9 1 (.slice i.A (((([] : List ByteArray)).take i.k).filter (keepM c (sortB t.b))).length i.c) (((([] : List ByteArray)).take i.k).filter (keepM c (sortB t.b))).length ((((([] : List ByteArray)).take i.k).filter (keepM c (sortB t.b))).map encB), cel b11 62 [s1.v, s2.v, s3.v, s4.v], cel b5 30 c.cells], fun w => (XC c w ∧ Strs w st toL) ∧ X1 w⟩) (fun i => (([] : List ByteArray)).length - i.k) ⟨0, Nat.zero_le _, none, 0⟩ (ok_sub ⟨rfl, rfl, rfl, rfl, rfl, rfl, trivial⟩ (List.Sublist.refl _) fun _ h => h) fun i => ?_
    have hik := i.hk
    repeat' (first | apply sw_nil | apply cw_seq | apply cw_reg | refine sy_move (h := ?_) | refine sy_assign (h := ?_) | refine sy_nilCheck (h := ?_) | refine sy_fld (h := ?_) | refine sy_ld (h := ?_) | refine sy_ldAll (h := ?_) | refine sy_pick_t (h := ?_) | refine sy_pick_f (h := ?_) | refine sy_not (h := ?_) | refine sy_eql (h := ?_) | refine sy_neq (h := ?_) | refine sy_lss (h := ?_) | refine sy_leq (h := ?_) | refine sy_gtr (h := ?_) | refine sy_geq (h := ?_) | refine sy_seql (h := ?_) | refine sy_sneq (h := ?_) | refine sy_slen (h := ?_) | refine sy_len (h := ?_) | refine sy_extract (h := ?_) | refine sy_add (h := ?_) | refine sy_sub (h := ?_) | refine sw_skipT (h := ?_) | refine sw_skipF (h := ?_) | refine sw_skipU (h := ?_) | refine sw_alloc (h := fun _ => ?_) | refine sw_box (h := fun _ => ?_) | refine sw_rangeS (h := fun _ => ?_) | refine sw_nextS (h1 := fun _ => ?_) (h2 := fun _ => ?_) | refine sw_bsl (h := fun _ => ?_) | refine sw_st1 (h := ?_) | refine sw_stAll (h := ?_) | refine cw_cond_t (ht := ?_) | refine cw_cond_f (hf := ?_) | apply cw_skip | apply cw_block | apply cw_ret | apply cw_exit | refine sy_and (h := ?_) | refine sy_or (h := ?_) | refine sy_xor (h := ?_) | refine sy_andNot (h := ?_) | refine sy_xorU (h := ?_) | refine sy_shl (h := ?_) | refine sy_shr (h := ?_) | refine sy_mul (h := ?_) | refine sy_int (h := ?_) | refine sy_beql (h := ?_) | refine sy_bneq (h := ?_) | refine sy_min (h := ?_) | refine sy_max (h := ?_) | refine sy_arrA (h := ?_) | refine sy_strI (h := ?_) | ((fail_if_success (refine sw_chk (h := ?_))); refine sw_guard (ht := ?_) (hf := ?_); all_goals (intro hx_; first | have := of_decide_eq_true hx_ | have := of_decide_eq_false hx_ | skip)) | (refine cw_cond (ht := ?_) (hf := ?_); all_goals (intro hx_; first | have := of_decide_eq_true hx_ | have := of_decide_eq_false hx_ | skip)))
    · have hlt : i.k < (([] : List ByteArray)).length := by omega
      have hp2 := hSp (by omega)
      have hfs := filter_succ (p := (keepM c (sortB t.b))) (([] : List ByteArray)) hlt
      have hfl : (((([] : List ByteArray)).take i.k).filter (keepM c (sortB t.b))).length ≤ 1000000 := by
        have h1 := List.length_filter_le (keepM c (sortB t.b)) ((([] : List ByteArray)).take i.k)
        have h2 := List.length_take_le i.k (([] : List ByteArray))
        omega
      generalize hacc : ((([] : List ByteArray)).take i.k).filter (keepM c (sortB t.b)) = acc at *
      generalize hxe : (([] : List ByteArray)).getD i.k .empty = x at *
      repeat' (first | apply sw_nil | apply cw_seq | apply cw_reg | refine sy_move (h := ?_) | refine sy_assign (h := ?_) | refine sy_nilCheck (h := ?_) | refine sy_fld (h := ?_) | refine sy_ld (h := ?_) | refine sy_ldAll (h := ?_) | refine sy_pick_t (h := ?_) | refine sy_pick_f (h := ?_) | refine sy_not (h := ?_) | refine sy_eql (h := ?_) | refine sy_neq (h := ?_) | refine sy_lss (h := ?_) | refine sy_leq (h := ?_) | refine sy_gtr (h := ?_) | refine sy_geq (h := ?_) | refine sy_seql (h := ?_) | refine sy_sneq (h := ?_) | refine sy_slen (h := ?_) | refine sy_len (h := ?_) | refine sy_extract (h := ?_) | refine sy_add (h := ?_) | refine sy_sub (h := ?_) | refine sw_skipT (h := ?_) | refine sw_skipF (h := ?_) | refine sw_skipU (h := ?_) | refine sw_alloc (h := fun _ => ?_) | refine sw_box (h := fun _ => ?_) | refine sw_rangeS (h := fun _ => ?_) | refine sw_nextS (h1 := fun _ => ?_) (h2 := fun _ => ?_) | refine sw_bsl (h := fun _ => ?_) | refine sw_st1 (h := ?_) | refine sw_stAll (h := ?_) | refine cw_cond_t (ht := ?_) | refine cw_cond_f (hf := ?_) | apply cw_skip | apply cw_block | apply cw_ret | apply cw_exit | refine sy_and (h := ?_) | refine sy_or (h := ?_) | refine sy_xor (h := ?_) | refine sy_andNot (h := ?_) | refine sy_xorU (h := ?_) | refine sy_shl (h := ?_) | refine sy_shr (h := ?_) | refine sy_mul (h := ?_) | refine sy_int (h := ?_) | refine sy_beql (h := ?_) | refine sy_bneq (h := ?_) | refine sy_min (h := ?_) | refine sy_max (h := ?_) | refine sy_arrA (h := ?_) | refine sy_strI (h := ?_) | (refine sy_idxX (q := i.k) (h := ?_)) | (refine sy_ldX (u := .string x) (hF := fun w h => hxe ▸ Strs.get ((show Strs w ⟨none, 0, 0⟩ [] from rowsD_nil w 1)) hlt) (h := ?_)) | (refine sw_pu (hc := containsS_pu s3 (sortB t.b) x) (hX := fun w h => (hties w h.2).2.2.1) (h := ?_)) | (refine sw_append (size := 1) (z := .string ⟨#[]⟩) (news := [encB x]) (q := 1) rfl rfl rfl rfl (fun _ => At.there _ (At.here _)) (fun w G => src_cel G List.mem_cons_self rfl rfl 1) (by omega) (by simp only [maxLen]; omega) rfl ?_ rfl ?_; (first | with_reducible rfl | with_reducible assumption | with_reducible exact Bool.not_false | with_reducible exact Bool.not_true); intro A2 c2) | ((fail_if_success (refine sw_chk (h := ?_))); refine sw_guard (ht := ?_) (hf := ?_); all_goals (intro hx_; first | have := of_decide_eq_true hx_ | have := of_decide_eq_false hx_ | skip)) | (refine cw_cond (ht := ?_) (hf := ?_); all_goals (intro hx_; first | have := of_decide_eq_true hx_ | have := of_decide_eq_false hx_ | skip)))
      all_goals first
        | (have e : ((([] : List ByteArray)).take (i.k + 1)).filter (keepM c (sortB t.b)) = acc ++ [x] := by rw [hfs]; simp only [keepM, *, decide_true, decide_false, cond_true, cond_false, Bool.and_true, Bool.true_and, Bool.and_false, Bool.false_and, Bool.not_true, Bool.not_false, Bool.or_true, Bool.true_or, Bool.or_false, Bool.false_or]
           refine ⟨(⟨i.k + 1, hlt, A2, c2⟩ : FilS (([] : List ByteArray)).length), (by show (([] : List ByteArray)).length - (i.k + 1) < (([] : List ByteArray)).length - i.k; omega), ok_sub ?_ ?_ fun _ h => h⟩
           · simp only [e, List.length_append, List.length_cons, List.length_nil, Nat.zero_add]; exact ⟨rfl, rfl, rfl, rfl, rfl, rfl, trivial⟩
           · simp only [e, List.length_append, List.length_cons, List.length_nil, Nat.zero_add, List.map_append, List.map_cons, List.map_nil]; exact List.Sublist.cons _ (List.Sublist.refl _))
        | (have e : ((([] : List ByteArray)).take (i.k + 1)).filter (keepM c (sortB t.b)) = acc := by rw [hfs]; simp only [keepM, *, decide_true, decide_false, cond_true, cond_false, Bool.and_true, Bool.true_and, Bool.and_false, Bool.false_and, Bool.not_true, Bool.not_false, Bool.or_true, Bool.true_or, Bool.or_false, Bool.false_or, List.append_nil]
           refine ⟨(⟨i.k + 1, hlt, i.A, i.c⟩ : FilS (([] : List ByteArray)).length), (by show (([] : List ByteArray)).length - (i.k + 1) < (([] : List ByteArray)).length - i.k; omega), ok_sub ?_ ?_ fun _ h => h⟩
           · simp only [e]; exact ⟨rfl, rfl, rfl, rfl, rfl, rfl, trivial⟩
           · simp only [e]; exact List.Sublist.refl _)
    have hfl : (((([] : List ByteArray)).take i.k).filter (keepM c (sortB t.b))).length ≤ 1000000000 := by
      have h1 := List.length_filter_le (keepM c (sortB t.b)) ((([] : List ByteArray)).take i.k)
      have h2 := List.length_take_le i.k (([] : List ByteArray))
      omega
    have hk : i.k = (([] : List ByteArray)).length := by omega
    have hfin : membersV c n sc g toL = compB (sortB (((([] : List ByteArray)).take i.k).filter (keepM c (sortB t.b)))) := by rw [hM, hLe, hk, List.take_length]
    refine sw_turn (hc := sortB_ct hfl) (hX := fun _ _ => trivial) (h := ?_)
    repeat' (first | apply sw_nil | apply cw_seq | apply cw_reg | refine sy_move (h := ?_) | refine sy_assign (h := ?_) | refine sy_nilCheck (h := ?_) | refine sy_fld (h := ?_) | refine sy_ld (h := ?_) | refine sy_ldAll (h := ?_) | refine sy_pick_t (h := ?_) | refine sy_pick_f (h := ?_) | refine sy_not (h := ?_) | refine sy_eql (h := ?_) | refine sy_neq (h := ?_) | refine sy_lss (h := ?_) | refine sy_leq (h := ?_) | refine sy_gtr (h := ?_) | refine sy_geq (h := ?_) | refine sy_seql (h := ?_) | refine sy_sneq (h := ?_) | refine sy_slen (h := ?_) | refine sy_len (h := ?_) | refine sy_extract (h := ?_) | refine sy_add (h := ?_) | refine sy_sub (h := ?_) | refine sw_skipT (h := ?_) | refine sw_skipF (h := ?_) | refine sw_skipU (h := ?_) | refine sw_alloc (h := fun _ => ?_) | refine sw_box (h := fun _ => ?_) | refine sw_rangeS (h := fun _ => ?_) | refine sw_nextS (h1 := fun _ => ?_) (h2 := fun _ => ?_) | refine sw_bsl (h := fun _ => ?_) | refine sw_st1 (h := ?_) | refine sw_stAll (h := ?_) | refine cw_cond_t (ht := ?_) | refine cw_cond_f (hf := ?_) | apply cw_skip | apply cw_block | apply cw_ret | apply cw_exit | refine sy_and (h := ?_) | refine sy_or (h := ?_) | refine sy_xor (h := ?_) | refine sy_andNot (h := ?_) | refine sy_xorU (h := ?_) | refine sy_shl (h := ?_) | refine sy_shr (h := ?_) | refine sy_mul (h := ?_) | refine sy_int (h := ?_) | refine sy_beql (h := ?_) | refine sy_bneq (h := ?_) | refine sy_min (h := ?_) | refine sy_max (h := ?_) | refine sy_arrA (h := ?_) | refine sy_strI (h := ?_))
    refine sw_fnAt (hc := compB_ct) (hX := fun _ _ => trivial) (h := ?_)
    rintro _ _ X2 ⟨A3, c3, rfl, rfl⟩
    repeat' (first | apply sw_nil | apply cw_seq | apply cw_reg | refine sy_move (h := ?_) | refine sy_assign (h := ?_) | refine sy_nilCheck (h := ?_) | refine sy_fld (h := ?_) | refine sy_ld (h := ?_) | refine sy_ldAll (h := ?_) | refine sy_pick_t (h := ?_) | refine sy_pick_f (h := ?_) | refine sy_not (h := ?_) | refine sy_eql (h := ?_) | refine sy_neq (h := ?_) | refine sy_lss (h := ?_) | refine sy_leq (h := ?_) | refine sy_gtr (h := ?_) | refine sy_geq (h := ?_) | refine sy_seql (h := ?_) | refine sy_sneq (h := ?_) | refine sy_slen (h := ?_) | refine sy_len (h := ?_) | refine sy_extract (h := ?_) | refine sy_add (h := ?_) | refine sy_sub (h := ?_) | refine sw_skipT (h := ?_) | refine sw_skipF (h := ?_) | refine sw_skipU (h := ?_) | refine sw_alloc (h := fun _ => ?_) | refine sw_box (h := fun _ => ?_) | refine sw_rangeS (h := fun _ => ?_) | refine sw_nextS (h1 := fun _ => ?_) (h2 := fun _ => ?_) | refine sw_bsl (h := fun _ => ?_) | refine sw_st1 (h := ?_) | refine sw_stAll (h := ?_) | refine cw_cond_t (ht := ?_) | refine cw_cond_f (hf := ?_) | apply cw_skip | apply cw_block | apply cw_ret | apply cw_exit | refine sy_and (h := ?_) | refine sy_or (h := ?_) | refine sy_xor (h := ?_) | refine sy_andNot (h := ?_) | refine sy_xorU (h := ?_) | refine sy_shl (h := ?_) | refine sy_shr (h := ?_) | refine sy_mul (h := ?_) | refine sy_int (h := ?_) | refine sy_beql (h := ?_) | refine sy_bneq (h := ?_) | refine sy_min (h := ?_) | refine sy_max (h := ?_) | refine sy_arrA (h := ?_) | refine sy_strI (h := ?_))
    rw [hfin]
    exact ends_ret (res_tmp rfl rfl) ⟨_, List.Sublist.cons_cons _ (List.nil_sublist _), A3, c3, rfl, rfl⟩

theorem members_mk (c : ChainD) (hc : ActsOk c.actsL) (hcl : c.actsL.length ≤ 1000000) (n sc : Int) (g : ByteArray) (st : SlV) (toL : List ByteArray) (htl : toL.length ≤ 1000000) :
    Mk Tryz.prog 118 #[c.v, .int .i64 n, .int .i64 sc, .string g, st.v] (fun w => XC c w ∧ Strs w st toL) (StrsAt (membersV c n sc g toL)) := mk_of_own (members_ct c hc hcl n sc g st toL htl)
end Go.Proofs.YtcdcfimlikojeaaGreatDoor

/- Contracts: circle.Fresh and circle.Well. -/
set_option linter.unusedVariables false
set_option linter.unusedSimpArgs false
namespace Go.Proofs.YtcdcfimlikojeaaGreatDoor
open Go Go.Proofs Sy
def postK (k : Int) : Bool := decide (k = 1) || decide (k = 2) || decide (k = 3)
theorem posting_pu (k : Int) : Pu Tryz.prog 15 #[.int .i64 k] (fun _ => True) (.bool (postK k)) := by
  refine pu_of_cw (args := [_]) _ Tryz.func15 rfl Tryz.ntmps15 rfl fun av bor w0 => ?_
  repeat' (first | apply sw_nil | apply cw_seq | apply cw_reg | refine sy_move (h := ?_) | refine sy_assign (h := ?_) | refine sy_nilCheck (h := ?_) | refine sy_fld (h := ?_) | refine sy_ld (h := ?_) | refine sy_ldAll (h := ?_) | refine sy_pick_t (h := ?_) | refine sy_pick_f (h := ?_) | refine sy_not (h := ?_) | refine sy_eql (h := ?_) | refine sy_neq (h := ?_) | refine sy_lss (h := ?_) | refine sy_leq (h := ?_) | refine sy_gtr (h := ?_) | refine sy_geq (h := ?_) | refine sy_seql (h := ?_) | refine sy_sneq (h := ?_) | refine sy_slen (h := ?_) | refine sy_len (h := ?_) | refine sy_extract (h := ?_) | refine sy_add (h := ?_) | refine sy_sub (h := ?_) | refine sw_skipT (h := ?_) | refine sw_skipF (h := ?_) | refine sw_skipU (h := ?_) | refine sw_alloc (h := fun _ => ?_) | refine sw_box (h := fun _ => ?_) | refine sw_rangeS (h := fun _ => ?_) | refine sw_nextS (h1 := fun _ => ?_) (h2 := fun _ => ?_) | refine sw_bsl (h := fun _ => ?_) | refine sw_st1 (h := ?_) | refine sw_stAll (h := ?_) | refine cw_cond_t (ht := ?_) | refine cw_cond_f (hf := ?_) | apply cw_skip | apply cw_block | apply cw_ret | apply cw_exit | refine sy_and (h := ?_) | refine sy_or (h := ?_) | refine sy_xor (h := ?_) | refine sy_andNot (h := ?_) | refine sy_xorU (h := ?_) | refine sy_shl (h := ?_) | refine sy_shr (h := ?_) | refine sy_mul (h := ?_) | refine sy_int (h := ?_) | refine sy_beql (h := ?_) | refine sy_bneq (h := ?_) | refine sy_min (h := ?_) | refine sy_max (h := ?_) | refine sy_arrA (h := ?_) | refine sy_strI (h := ?_) | ((fail_if_success (refine sw_chk (h := ?_))); refine sw_guard (ht := ?_) (hf := ?_); all_goals (intro hx_; first | have := of_decide_eq_true hx_ | have := of_decide_eq_false hx_ | skip)) | (refine cw_cond (ht := ?_) (hf := ?_); all_goals (intro hx_; first | have := of_decide_eq_true hx_ | have := of_decide_eq_false hx_ | skip)))
  all_goals
    apply ends_ret; apply res_tmp; rfl; rfl
    simp only [postK, *, decide_true, decide_false, cond_true, cond_false, Bool.and_true, Bool.true_and, Bool.and_false, Bool.false_and, Bool.not_true, Bool.not_false, Bool.or_true, Bool.true_or, Bool.or_false, Bool.false_or]
def wellA (c : ChainD) (i : Int) (a : ActD) : Bool := (postK a.kind || decide (a.kind = 14)) && (decide (a.scope = 1) || decide (a.scope = 2) || decide (a.scope = 3)) && (match epochO c.actsL i a.scope a.group with
  | some e => decide (e.epoch = a.epoch) && eqL e.toL (membersV c i a.scope a.group a.toL)
  | none => false)
def wellV (c : ChainD) (i : Int) : Bool := decide (0 ≤ i) && (match c.actsL[i.toNat]? with
  | some a => wellA c i a
  | none => false)
set_option maxHeartbeats 2000000 in
theorem well_pu (c : ChainD) (hc : ActsOk c.actsL) (hcl : c.actsL.length ≤ 1000000) (i : Int) : Pu Tryz.prog 117 #[c.v, .int .i64 i] (XC c) (.bool (wellV c i)) := by
  refine pu_of_cw (args := [_, _]) _ Tryz.func117 rfl Tryz.ntmps117 rfl fun av bor w0 => ?_
  refine cw_know XC.know fun ⟨hl, hm, hp, hcap⟩ => ?_
  simp only [maxLen] at hm
  repeat' (first | apply sw_nil | apply cw_seq | apply cw_reg | refine sy_move (h := ?_) | refine sy_assign (h := ?_) | refine sy_nilCheck (h := ?_) | refine sy_fld (h := ?_) | refine sy_ld (h := ?_) | refine sy_ldAll (h := ?_) | refine sy_pick_t (h := ?_) | refine sy_pick_f (h := ?_) | refine sy_not (h := ?_) | refine sy_eql (h := ?_) | refine sy_neq (h := ?_) | refine sy_lss (h := ?_) | refine sy_leq (h := ?_) | refine sy_gtr (h := ?_) | refine sy_geq (h := ?_) | refine sy_seql (h := ?_) | refine sy_sneq (h := ?_) | refine sy_slen (h := ?_) | refine sy_len (h := ?_) | refine sy_extract (h := ?_) | refine sy_add (h := ?_) | refine sy_sub (h := ?_) | refine sw_skipT (h := ?_) | refine sw_skipF (h := ?_) | refine sw_skipU (h := ?_) | refine sw_alloc (h := fun _ => ?_) | refine sw_box (h := fun _ => ?_) | refine sw_rangeS (h := fun _ => ?_) | refine sw_nextS (h1 := fun _ => ?_) (h2 := fun _ => ?_) | refine sw_bsl (h := fun _ => ?_) | refine sw_st1 (h := ?_) | refine sw_stAll (h := ?_) | refine cw_cond_t (ht := ?_) | refine cw_cond_f (hf := ?_) | apply cw_skip | apply cw_block | apply cw_ret | apply cw_exit | refine sy_and (h := ?_) | refine sy_or (h := ?_) | refine sy_xor (h := ?_) | refine sy_andNot (h := ?_) | refine sy_xorU (h := ?_) | refine sy_shl (h := ?_) | refine sy_shr (h := ?_) | refine sy_mul (h := ?_) | refine sy_int (h := ?_) | refine sy_beql (h := ?_) | refine sy_bneq (h := ?_) | refine sy_min (h := ?_) | refine sy_max (h := ?_) | refine sy_arrA (h := ?_) | refine sy_strI (h := ?_) | ((fail_if_success (refine sw_chk (h := ?_))); refine sw_guard (ht := ?_) (hf := ?_); all_goals (intro hx_; first | have := of_decide_eq_true hx_ | have := of_decide_eq_false hx_ | skip)) | (refine cw_cond (ht := ?_) (hf := ?_); all_goals (intro hx_; first | have := of_decide_eq_true hx_ | have := of_decide_eq_false hx_ | skip)))
  · apply ends_ret; apply res_tmp; rfl; rfl
    rw [wellV, decide_eq_false (by omega), Bool.false_and]
  · apply ends_ret; apply res_tmp; rfl; rfl
    rw [wellV, List.getElem?_eq_none (by omega), Bool.and_false]
  have hi0 : 0 ≤ i := by omega
  obtain ⟨q, rfl⟩ := Int.eq_ofNat_of_zero_le hi0
  have hlt : q < c.actsL.length := by omega
  have hp' := hp (by omega)
  obtain ⟨x, hx⟩ : ∃ x, c.actsL[q]? = some x := ⟨_, List.getElem?_eq_getElem hlt⟩
  have hxm : x ∈ c.actsL := List.mem_of_getElem? hx
  have hW : wellV c (q : Int) = wellA c q x := by
    rw [wellV, decide_eq_true (by omega), Bool.true_and]
    show (match c.actsL[q]? with | some a => wellA c q a | none => false) = _
    rw [hx]
  have hA : wellA c q x = ((postK x.kind || decide (x.kind = 14)) && (decide (x.scope = 1) || decide (x.scope = 2) || decide (x.scope = 3)) && (match epochO c.actsL q x.scope x.group with
    | some e => decide (e.epoch = x.epoch) && eqL e.toL (membersV c q x.scope x.group x.toL)
    | none => false)) := rfl
  have hxr := (hc.rng x hxm).to_len
  have hxs := (hc.sm x hxm).to
  have hep := epoch_mk c hc q x.scope x.group
  have hme := members_mk c hc hcl q x.scope x.group x.to x.toL (by omega)
  generalize epochO c.actsL q x.scope x.group = o at *
  generalize membersV c q x.scope x.group x.toL = M at *
  rw [hW, hA]
  repeat' (first | apply sw_nil | apply cw_seq | apply cw_reg | refine sy_move (h := ?_) | refine sy_assign (h := ?_) | refine sy_nilCheck (h := ?_) | refine sy_fld (h := ?_) | refine sy_ld (h := ?_) | refine sy_ldAll (h := ?_) | refine sy_pick_t (h := ?_) | refine sy_pick_f (h := ?_) | refine sy_not (h := ?_) | refine sy_eql (h := ?_) | refine sy_neq (h := ?_) | refine sy_lss (h := ?_) | refine sy_leq (h := ?_) | refine sy_gtr (h := ?_) | refine sy_geq (h := ?_) | refine sy_seql (h := ?_) | refine sy_sneq (h := ?_) | refine sy_slen (h := ?_) | refine sy_len (h := ?_) | refine sy_extract (h := ?_) | refine sy_add (h := ?_) | refine sy_sub (h := ?_) | refine sw_skipT (h := ?_) | refine sw_skipF (h := ?_) | refine sw_skipU (h := ?_) | refine sw_alloc (h := fun _ => ?_) | refine sw_box (h := fun _ => ?_) | refine sw_rangeS (h := fun _ => ?_) | refine sw_nextS (h1 := fun _ => ?_) (h2 := fun _ => ?_) | refine sw_bsl (h := fun _ => ?_) | refine sw_st1 (h := ?_) | refine sw_stAll (h := ?_) | refine cw_cond_t (ht := ?_) | refine cw_cond_f (hf := ?_) | apply cw_skip | apply cw_block | apply cw_ret | apply cw_exit | refine sy_and (h := ?_) | refine sy_or (h := ?_) | refine sy_xor (h := ?_) | refine sy_andNot (h := ?_) | refine sy_xorU (h := ?_) | refine sy_shl (h := ?_) | refine sy_shr (h := ?_) | refine sy_mul (h := ?_) | refine sy_int (h := ?_) | refine sy_beql (h := ?_) | refine sy_bneq (h := ?_) | refine sy_min (h := ?_) | refine sy_max (h := ?_) | refine sy_arrA (h := ?_) | refine sy_strI (h := ?_) | (refine sy_idxX (q := q * 20) (h := ?_)) | (refine sy_ldXs (cs := x.cells) (hF := fun w h => Acts.get h.1 hx) (h := ?_)) | refine sw_pu (hc := posting_pu x.kind) (h := ?_) | (refine sw_mk (hc := hep) (hX := fun w h => h) (h := fun v1 X1 h1 => ?_); obtain ⟨s1, rfl, hs1⟩ := h1) | (refine sw_mk (hc := hme) (hX := fun w h => ⟨h.1, (h.1.1.2 x hxm).1⟩) (h := fun v2 X2 h2 => ?_); obtain ⟨s2, rfl, hs2⟩ := h2) | (refine sw_pu (hc := equalL_pu s1 s2 _ _) (hX := fun w h => ⟨hs1 w h.1.2, hs2 w h.2⟩) (h := ?_)) | ((fail_if_success (refine sw_chk (h := ?_))); refine sw_guard (ht := ?_) (hf := ?_); all_goals (intro hx_; first | have := of_decide_eq_true hx_ | have := of_decide_eq_false hx_ | skip)) | (refine cw_cond (ht := ?_) (hf := ?_); all_goals (intro hx_; first | have := of_decide_eq_true hx_ | have := of_decide_eq_false hx_ | skip)))
  all_goals
    apply ends_ret; apply res_tmp; rfl; rfl
    cases o <;> simp only [*, decide_true, decide_false, cond_true, cond_false, Bool.and_true, Bool.true_and, Bool.and_false, Bool.false_and, Bool.not_true, Bool.not_false, Bool.or_true, Bool.true_or, Bool.or_false, Bool.false_or, Option.isSome_some, Option.isSome_none, Option.map_some, Option.map_none, Option.getD_some, Option.getD_none] <;> simp_all
end Go.Proofs.YtcdcfimlikojeaaGreatDoor

/- Plain laws: what a chain of which only the first activities are read answers, whatever follows in it. No program in sight. -/
set_option linter.unusedVariables false
set_option linter.unusedSimpArgs false
namespace Go.Proofs.YtcdcfimlikojeaaGreatDoor
open Go Go.Proofs Sy
structure Agree (n : Nat) (l l' : List ActD) : Prop where
  at_ : ∀ k, k < n → l[k]? = l'[k]?
  left : n ≤ l.length
  right : n ≤ l'.length
theorem Agree.getD {n : Nat} {l l' : List ActD} (h : Agree n l l') {k : Nat} (hk : k < n) : l.getD k ActD.zero = l'.getD k ActD.zero := by
  rw [List.getD_eq_getElem?_getD, List.getD_eq_getElem?_getD, h.at_ k hk]
theorem Agree.symm {n : Nat} {l l' : List ActD} (h : Agree n l l') : Agree n l' l := ⟨fun k hk => (h.at_ k hk).symm, h.right, h.left⟩
end Go.Proofs.YtcdcfimlikojeaaGreatDoor

/- Plain laws of who may read (package reach), and of a posting that is written next (CircleFresh). No program in sight. -/
set_option linter.unusedVariables false
set_option linter.unusedSimpArgs false
namespace Go.Proofs.YtcdcfimlikojeaaGreatDoor
open Go Go.Proofs Sy
def rtextV (c : ChainD) (i : Int) : Bool := decide (0 ≤ i) && (match c.actsL[i.toNat]? with
  | some a => postK a.kind || decide (a.kind = 14)
  | none => false)
def rmemV (c : ChainD) (i : Int) : List ByteArray := bif wellV c i then (match c.actsL[i.toNat]? with
  | some a => membersV c i a.scope a.group a.toL
  | none => []) else []
def pubV (c : ChainD) (i : Int) : Bool := match c.actsL[i.toNat]? with
  | some a => decide (a.scope = 0)
  | none => false
def readL (c : ChainD) (i : Int) : List ByteArray := bif rtextV c i && !pubV c i then compB (sortB (rmemV c i ++ [c.id])) else []
def readB (c : ChainD) (i : Int) : Bool := !rtextV c i || !pubV c i
def mayV (c : ChainD) (i : Int) (r : ByteArray) : Bool := rtextV c i && (seqB r c.id || pubV c i || hasS (rmemV c i) r)
theorem rmem_some {c : ChainD} {i : Int} {a : ActD} (h : c.actsL[i.toNat]? = some a) : rmemV c i = bif wellV c i then membersV c i a.scope a.group a.toL else [] := by
  rw [rmemV, h]
structure ReadF (c : ChainD) (i : Int) (a : ActD) (l : List ByteArray) : Prop where
  asc : Asc l
  own : c.id ∈ l
  mem : ∀ x ∈ l, x ≠ c.id → x ∈ membersV c i a.scope a.group a.toL
  len : l.length = 1 + (bif wellV c i then (membersV c i a.scope a.group a.toL).length else 0)

/-! a posting that is written after the first n activities -/
end Go.Proofs.YtcdcfimlikojeaaGreatDoor

/- Laws and data that the walks of the laws share: bounds, rows of activities, decided comparisons. -/
set_option linter.unusedVariables false
set_option linter.unusedSimpArgs false
namespace Go.Proofs.YtcdcfimlikojeaaGreatDoor
open Go Go.Proofs Sy
section
variable {P : Program} {N : Nat} {av bor : List Nat} {w0 : World} {ops : Array Oper} {rest : List Oper} {k : St → Prop} {E : Env} {loc : List Res} {X : World → Prop}
theorem sw_give {r : Res} (h : Sw P N av bor w0 ops rest ⟨E, loc, fun w => X w ∧ r.F w⟩ k) : Sw P N av bor w0 ops rest ⟨E, r :: loc, X⟩ k := Sw.mk fun a w ok => h.run a w (ok.via fun M G => G.give)
end
def shortBad (l : List ActD) (k : Nat) : Bool := decide (8 < (l.getD k ActD.zero).to.n) || decide (8 < (l.getD k ActD.zero).wraps.n) || decide (600 < (l.getD k ActD.zero).text.size) || decide (600 < (l.getD k ActD.zero).body.data.size)
def shortV (c : ChainD) : Bool := decide (c.actsL.length ≤ 24) && allB c.actsL.length (shortBad c.actsL)
def idA : ByteArray := ⟨#[48, 48, 48, 48, 48, 48, 48, 48, 48, 48, 48, 48, 48, 48, 97, 49]⟩
theorem strs_of_cel {w : World} {b e : Nat} {l : List ByteArray} (h : (cel b e (l.map encB)).F w) (hm : l.length ≤ maxLen) : Strs w ⟨some ⟨b, 0, none⟩, l.length, l.length⟩ l := by
  have h1 : (l.map encB) = (strs l).flatten := strs_flat l
  rw [h1] at h
  exact rows_of_cel h (by simp [strs]) hm (strs_one l)
theorem actsOk_of {c : ChainD} (hr : ∀ a ∈ c.actsL, a.Rng) (ht : ∀ a ∈ c.actsL, a.target.size ≤ maxLen) (h : shortV c = true) : ActsOk c.actsL ∧ c.actsL.length ≤ 24 := by
  simp only [shortV, Bool.and_eq_true, decide_eq_true_eq] at h
  refine ⟨⟨hr, fun a ha => ?_⟩, h.1⟩
  obtain ⟨i, hi, rfl⟩ := List.getElem_of_mem ha
  have h1 := List.all_eq_true.1 h.2 i (List.mem_range.2 hi)
  simp only [shortBad, List.getD_eq_getElem?_getD, List.getElem?_eq_getElem hi, Option.getD_some, Bool.not_eq_true', Bool.or_eq_false_iff, decide_eq_false_iff_not] at h1
  exact ⟨by omega, by omega, ht _ ha⟩
section
variable {P : Program} {N : Nat} {av bor : List Nat} {w0 : World} {ops : Array Oper} {rest : List Oper} {kk : St → Prop} {E : Env} {loc : List Res} {X : World → Prop} {x y : Operand} {t t2 : TypeId}
variable {n : Nat} {ty : TypeId} {pos : String} {af : Array Edge} {g : Option (Nat × Bool)} {bb want : Bool}
theorem sy_neqF {k : IntKind} {a b : Int} (hx : ev E x = some (.int k a) := by rfl) (hy : ev E y = some (.int k b) := by rfl) (hab : a = b := by decide) (hg : gdB ops E g = some (bb, want) := by rfl) (hbb : bb = want := by (first | with_reducible rfl | with_reducible assumption | with_reducible exact Bool.not_false | with_reducible exact Bool.not_true)) (hd : Nat.blt n N = true := by rfl) (h : Sw P N av bor w0 ops rest ⟨(n, .bool false) :: E, loc, X⟩ kk) :
    Sw P N av bor w0 ops (⟨some n, .binOp .neq t x y t2, ty, pos, af, g⟩ :: rest) ⟨E, loc, X⟩ kk := sy_neq (hx := hx) (hy := hy) (hg := hg) (hbb := hbb) (hd := hd) (h := by
      have e : ∀ u, u = Value.bool false → Sw P N av bor w0 ops rest ⟨(n, u) :: E, loc, X⟩ kk := fun u hu => hu ▸ h
      exact e _ (by simp [hab]))
end
structure RowI where
  A : Option Addr
  c : Nat
/-- The chain with another row of activities. -/
def ChainD.with (c : ChainD) (s : SlV) (l : List ActD) : ChainD := { c with acts := s, actsL := l }
theorem cells_len (l : List ActD) : ∀ r ∈ l.map ActD.cells, r.length = 20 := by
  intro r hr
  obtain ⟨a, _, rfl⟩ := List.mem_map.1 hr
  rfl
section
variable {P : Program} {N : Nat} {av bor : List Nat} {w0 : World} {ops : Array Oper} {rest : List Oper} {kk : St → Prop} {E : Env} {loc : List Res} {X : World → Prop} {x y : Operand} {t t2 : TypeId}
variable {n : Nat} {ty : TypeId} {pos : String} {af : Array Edge} {g : Option (Nat × Bool)} {bb want : Bool}
end
section
variable {P : Program} {N : Nat} {av bor : List Nat} {w0 : World} {ops : Array Oper} {rest : List Oper} {k : St → Prop} {E : Env} {loc : List Res} {X : World → Prop}
variable {d : Option Tmp} {ty : TypeId} {pos : String} {af : Array Edge} {g : Option (Nat × Bool)} {bb want : Bool}
/-- A call that is handed no resource and may hand some back. -/
theorem sw_fn0 {x : Operand} {xs : List Operand} {ats : Array TypeId} {f : FuncId} {first caps : Array Value} {args all : List Value} {X1 : World → Prop} {Post : Value → List Res → (World → Prop) → Prop}
    (hx : ev E x = some (.func (.func f) first caps) := by rfl) (ha : evs E xs = some args := by rfl) (hall : first.toList ++ args ++ caps.toList = all := by rfl) (hg : gdB ops E g = some (bb, want) := by rfl) (hb : bb = want := by (first | with_reducible rfl | with_reducible assumption | with_reducible exact Bool.not_false | with_reducible exact Bool.not_true)) (hd : inB N d = true := by rfl) (hf : FnBody P f := by infer_instance)
    (hc : Ct P f all.toArray [] X1 Post) (hX : ∀ w, X w → X1 w := by (first | exact fun _ _ => trivial | exact fun _ h => h | exact fun _ h => h.1 | exact fun _ h => h.2))
    (h : ∀ v R X', Post v R X' → Sw P N av bor w0 ops rest ⟨putE E d v, R ++ loc, fun w => X w ∧ X' w⟩ k) :
    Sw P N av bor w0 ops (⟨d, .call ⟨.value x, xs.toArray, ats⟩, ty, pos, af, g⟩ :: rest) ⟨E, loc, X⟩ k := sw_fn (pre := []) (fr := loc) hx ha hall hg hb hd hf hc hX h
end
section
variable {P : Program} {N : Nat} {av bor : List Nat} {w0 : World} {st : St} {x y : Operand} {t t2 : TypeId} {ty : TypeId}
end
end Go.Proofs.YtcdcfimlikojeaaGreatDoor
