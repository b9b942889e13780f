/- Joined by program (wip/dev/merge.py) out of: Re Rf Ci Me We Fs Rp Ax. -/
import Derived.Test.YtfpojkoddcdojaaGreatDoorMe1
import Derived.Test.YtfpojkoddcdojaaGreatDoorMb
/- Contracts: package relation; slices.Contains. -/
set_option linter.unusedVariables false
set_option linter.unusedSimpArgs false
namespace Go.Proofs.YtfpojkoddcdojaaGreatDoor
open Go Go.Proofs Sy
/-! sets -/
def setM (ks : List ByteArray) : List (ByteArray × Value) := ks.map fun k => (k, .bool true)
def sput : List ByteArray → ByteArray → List ByteArray
  | [], k => [k]
  | k' :: r, k => bif KeyT.eqb k k' then k :: r else k' :: sput r k
def sdel : List ByteArray → ByteArray → List ByteArray
  | [], _ => []
  | k' :: r, k => bif KeyT.eqb k k' then r else k' :: sdel r k
theorem mput_set : ∀ (ks : List ByteArray) (k : ByteArray), mput (setM ks) k (.bool true) = setM (sput ks k)
  | [], k => rfl
  | k' :: r, k => by
    have ih := mput_set r k
    simp only [setM] at ih
    simp only [setM, List.map_cons, mput, sput]
    cases KeyT.eqb k k' with
    | true => rfl
    | false => simp only [cond_false, ih, List.map_cons]
theorem strs_flat (l : List ByteArray) : l.map encB = (strs l).flatten := by
  induction l with
  | nil => rfl
  | cons a l ih =>
    simp only [strs, List.map_cons, List.flatten_cons] at ih ⊢
    rw [ih]
    rfl
theorem strs_one (l : List ByteArray) : ∀ r ∈ strs l, r.length = 1 := by
  intro r hr
  simp only [strs, List.mem_map] at hr
  obtain ⟨x, _, rfl⟩ := hr
  rfl
/-- A row of strings of the call's own, as data. -/
theorem strs_of_orow {w : World} {e n c : Nat} {A : Option Addr} {l : List ByteArray} (h : ORow w e 1 (.slice A n c) n (l.map encB)) (hn : n = l.length) : Strs w ⟨A, n, c⟩ l := by
  rw [strs_flat] at h
  exact rows_of_orow h (by simpa [strs] using hn) (strs_one l)

/-! ties -/
structure TieS where
  f : List ByteArray
  a : List ByteArray
  b : List ByteArray
  m : List ByteArray
def undoT (t : TieS) (x : ActD) : TieS :=
  bif decide (x.kind = 7) then { t with f := sdel t.f x.target } else bif decide (x.kind = 8) then { t with a := sdel t.a x.target } else bif decide (x.kind = 10) then { t with b := sdel t.b x.target } else bif decide (x.kind = 11) then { t with m := sdel t.m x.target } else t
def limN (n : Int) (len : Nat) : Nat := (if (len : Int) < (if n < 0 then 0 else n) then (len : Int) else (if n < 0 then 0 else n)).toNat
def stepT (l : List ActD) (i : Nat) (t : TieS) (x : ActD) : TieS :=
  bif decide (x.kind = 7) then { t with f := sput t.f x.target } else bif decide (x.kind = 8) then { t with a := sput t.a x.target } else bif decide (x.kind = 9) then { t with a := sdel t.a x.target }
  else bif decide (x.kind = 10) then { t with b := sput t.b x.target, f := sdel t.f x.target, a := sdel t.a x.target } else bif decide (x.kind = 11) then { t with m := sput t.m x.target }
  else bif decide (x.kind = 6) then (match idxV l x.object with | some j => bif decide ((j : Int) < (i : Int)) then undoT t (l.getD j ActD.zero) else t | none => t) else t
def tieF (l : List ActD) : Nat → TieS
  | 0 => ⟨[], [], [], []⟩
  | i + 1 => stepT l i (tieF l i) (l.getD i ActD.zero)
def tieV (l : List ActD) (n : Int) : TieS := tieF l (limN n l.length)
theorem Acts.cap_ {w : World} {s : SlV} {l : List ActD} (h : Acts w s l) : s.n ≤ s.c := RowsD.cap h.1
end Go.Proofs.YtfpojkoddcdojaaGreatDoor

/- Contracts: relation.Of; slices.Index, Contains, Equal over strings; agoraref21's. -/
set_option linter.unusedVariables false
set_option linter.unusedSimpArgs false
namespace Go.Proofs.YtfpojkoddcdojaaGreatDoor
open Go Go.Proofs Sy
structure LBnd (k : Nat) (l : List ByteArray) : Prop where
  len : l.length ≤ k
  size : ∀ x ∈ l, x.size ≤ maxLen
theorem LBnd.mono {k k' : Nat} {l : List ByteArray} (h : LBnd k l) (hk : k ≤ k') : LBnd k' l := ⟨Nat.le_trans h.len hk, h.size⟩
structure TBnd (k : Nat) (t : TieS) : Prop where
  f : LBnd k t.f
  a : LBnd k t.a
  b : LBnd k t.b
  m : LBnd k t.m
theorem TBnd.mono {k k' : Nat} {t : TieS} (h : TBnd k t) (hk : k ≤ k') : TBnd k' t := ⟨h.f.mono hk, h.a.mono hk, h.b.mono hk, h.m.mono hk⟩

/-! strings in slices: whether one is there; whether two lists are alike -/
def hasS (l : List ByteArray) (x : ByteArray) : Bool := l.any fun y => seqB x y
def eqBad (l m : List ByteArray) (k : Nat) : Bool := !seqB (l.getD k .empty) (m.getD k .empty)
def eqL (l m : List ByteArray) : Bool := decide (l.length = m.length) && allB l.length (eqBad l m)
theorem same21_pu (s r : SlV) (l m : List ByteArray) : Pu Tryz.prog 30 #[s.v, r.v] (fun w => Strs w s l ∧ Strs w r m) (.bool (eqL l m)) := by
  refine pu_of_cw (args := [_, _]) _ Tryz.func30 rfl Tryz.ntmps30 rfl fun av bor w0 => ?_
  refine cw_know (p := (s.n = l.length ∧ s.n ≤ maxLen ∧ (0 < l.length → s.p.isSome = true)) ∧ (r.n = m.length ∧ r.n ≤ maxLen ∧ (0 < m.length → r.p.isSome = true))) (fun w h => ⟨⟨h.1.len_, Nat.le_trans (RowsD.cap h.1) (RowsD.max h.1), h.1.some_⟩, ⟨h.2.len_, Nat.le_trans (RowsD.cap h.2) (RowsD.max h.2), h.2.some_⟩⟩) fun ⟨⟨hl, hm, hp⟩, ⟨hl', hm', hp'⟩⟩ => ?_
  simp only [maxLen] at hm hm'
  repeat' (first | apply sw_nil | apply cw_seq | apply cw_reg | refine sy_move (h := ?_) | refine sy_assign (h := ?_) | refine sy_nilCheck (h := ?_) | refine sy_fld (h := ?_) | refine sy_ld (h := ?_) | refine sy_ldAll (h := ?_) | refine sy_pick_t (h := ?_) | refine sy_pick_f (h := ?_) | refine sy_not (h := ?_) | refine sy_eql (h := ?_) | refine sy_neq (h := ?_) | refine sy_lss (h := ?_) | refine sy_leq (h := ?_) | refine sy_gtr (h := ?_) | refine sy_geq (h := ?_) | refine sy_seql (h := ?_) | refine sy_sneq (h := ?_) | refine sy_slen (h := ?_) | refine sy_len (h := ?_) | refine sy_extract (h := ?_) | refine sy_add (h := ?_) | refine sy_sub (h := ?_) | refine sw_skipT (h := ?_) | refine sw_skipF (h := ?_) | refine sw_skipU (h := ?_) | refine sw_alloc (h := fun _ => ?_) | refine sw_box (h := fun _ => ?_) | refine sw_rangeS (h := fun _ => ?_) | refine sw_nextS (h1 := fun _ => ?_) (h2 := fun _ => ?_) | refine sw_bsl (h := fun _ => ?_) | refine sw_st1 (h := ?_) | refine sw_stAll (h := ?_) | refine cw_cond_t (ht := ?_) | refine cw_cond_f (hf := ?_) | apply cw_skip | apply cw_block | apply cw_ret | apply cw_exit | refine sy_and (h := ?_) | refine sy_or (h := ?_) | refine sy_xor (h := ?_) | refine sy_andNot (h := ?_) | refine sy_xorU (h := ?_) | refine sy_shl (h := ?_) | refine sy_shr (h := ?_) | refine sy_mul (h := ?_) | refine sy_int (h := ?_) | refine sy_beql (h := ?_) | refine sy_bneq (h := ?_) | refine sy_min (h := ?_) | refine sy_max (h := ?_) | refine sy_arrA (h := ?_) | refine sy_strI (h := ?_) | ((fail_if_success (refine sw_chk (h := ?_))); refine sw_guard (ht := ?_) (hf := ?_); all_goals (intro hx_; first | have := of_decide_eq_true hx_ | have := of_decide_eq_false hx_ | skip)) | (refine cw_cond (ht := ?_) (hf := ?_); all_goals (intro hx_; first | have := of_decide_eq_true hx_ | have := of_decide_eq_false hx_ | skip)))
  · apply ends_ret; apply res_tmp; rfl; rfl
    have : ¬ l.length = m.length := by
      have h1 : ¬ (s.n : Int) = (r.n : Int) := by simpa using hx_
      omega
    simp only [eqL, decide_eq_false this, Bool.false_and]
  have hlm : l.length = m.length := by
    have h1 : (s.n : Int) = (r.n : Int) := by simpa using hx_
    omega
  refine cw_loop (ι := Upto l.length (eqBad l m)) (fun i => ⟨[(0, s.v), (1, r.v), (5, .int .i64 i.k)], [], fun w => Strs w s l ∧ Strs w r m⟩) (fun i => l.length - i.k) (Upto.zero _ _) (ok_sub (by repeat (first | exact trivial | refine ⟨rfl, ?_⟩)) (List.Sublist.refl _) fun _ h => h) fun i => ?_
  have hik := i.hk
  repeat' (first | apply sw_nil | apply cw_seq | apply cw_reg | refine sy_move (h := ?_) | refine sy_assign (h := ?_) | refine sy_nilCheck (h := ?_) | refine sy_fld (h := ?_) | refine sy_ld (h := ?_) | refine sy_ldAll (h := ?_) | refine sy_pick_t (h := ?_) | refine sy_pick_f (h := ?_) | refine sy_not (h := ?_) | refine sy_eql (h := ?_) | refine sy_neq (h := ?_) | refine sy_lss (h := ?_) | refine sy_leq (h := ?_) | refine sy_gtr (h := ?_) | refine sy_geq (h := ?_) | refine sy_seql (h := ?_) | refine sy_sneq (h := ?_) | refine sy_slen (h := ?_) | refine sy_len (h := ?_) | refine sy_extract (h := ?_) | refine sy_add (h := ?_) | refine sy_sub (h := ?_) | refine sw_skipT (h := ?_) | refine sw_skipF (h := ?_) | refine sw_skipU (h := ?_) | refine sw_alloc (h := fun _ => ?_) | refine sw_box (h := fun _ => ?_) | refine sw_rangeS (h := fun _ => ?_) | refine sw_nextS (h1 := fun _ => ?_) (h2 := fun _ => ?_) | refine sw_bsl (h := fun _ => ?_) | refine sw_st1 (h := ?_) | refine sw_stAll (h := ?_) | refine cw_cond_t (ht := ?_) | refine cw_cond_f (hf := ?_) | apply cw_skip | apply cw_block | apply cw_ret | apply cw_exit | refine sy_and (h := ?_) | refine sy_or (h := ?_) | refine sy_xor (h := ?_) | refine sy_andNot (h := ?_) | refine sy_xorU (h := ?_) | refine sy_shl (h := ?_) | refine sy_shr (h := ?_) | refine sy_mul (h := ?_) | refine sy_int (h := ?_) | refine sy_beql (h := ?_) | refine sy_bneq (h := ?_) | refine sy_min (h := ?_) | refine sy_max (h := ?_) | refine sy_arrA (h := ?_) | refine sy_strI (h := ?_) | ((fail_if_success (refine sw_chk (h := ?_))); refine sw_guard (ht := ?_) (hf := ?_); all_goals (intro hx_; first | have := of_decide_eq_true hx_ | have := of_decide_eq_false hx_ | skip)) | (refine cw_cond (ht := ?_) (hf := ?_); all_goals (intro hx_; first | have := of_decide_eq_true hx_ | have := of_decide_eq_false hx_ | skip)))
  · have hlt : i.k < l.length := by omega
    have hlt' : i.k < m.length := by omega
    have hp1 := hp (by omega)
    have hp2 := hp' (by omega)
    (apply cw_draw0; kernel_rfl)
    all_goals (refine aw_take 0 (h := ?_))
    all_goals (refine aw_take 1 (h := ?_))
    all_goals (first | refine aw_take 2 (h := ?_) | refine aw_take 2 (hy := by (first | (apply y_idxX (q := i.k); rfl; rfl; omega; omega; assumption; omega))) (h := ?_))
    all_goals (first | refine aw_take 3 (h := ?_) | refine aw_take 3 (hy := by (first | (apply y_ldX; rfl; exact fun w h => Strs.get h.1 hlt) | (apply y_ldX; rfl; exact fun w h => Strs.get h.2 hlt'))) (h := ?_))
    all_goals (refine aw_take 4 (h := ?_))
    all_goals (refine aw_take 5 (h := ?_))
    all_goals (first | refine aw_take 6 (h := ?_) | refine aw_take 6 (hy := by (first | (apply y_idxX (q := i.k); rfl; rfl; omega; omega; assumption; omega))) (h := ?_))
    all_goals (first | refine aw_take 7 (h := ?_) | refine aw_take 7 (hy := by (first | (apply y_ldX; rfl; exact fun w h => Strs.get h.1 hlt) | (apply y_ldX; rfl; exact fun w h => Strs.get h.2 hlt'))) (h := ?_))
    all_goals (refine aw_take 8 (h := ?_))
    all_goals (refine aw_done (h := ?_))
    repeat' (first | apply sw_nil | apply cw_seq | apply cw_reg | refine sy_move (h := ?_) | refine sy_assign (h := ?_) | refine sy_nilCheck (h := ?_) | refine sy_fld (h := ?_) | refine sy_ld (h := ?_) | refine sy_ldAll (h := ?_) | refine sy_pick_t (h := ?_) | refine sy_pick_f (h := ?_) | refine sy_not (h := ?_) | refine sy_eql (h := ?_) | refine sy_neq (h := ?_) | refine sy_lss (h := ?_) | refine sy_leq (h := ?_) | refine sy_gtr (h := ?_) | refine sy_geq (h := ?_) | refine sy_seql (h := ?_) | refine sy_sneq (h := ?_) | refine sy_slen (h := ?_) | refine sy_len (h := ?_) | refine sy_extract (h := ?_) | refine sy_add (h := ?_) | refine sy_sub (h := ?_) | refine sw_skipT (h := ?_) | refine sw_skipF (h := ?_) | refine sw_skipU (h := ?_) | refine sw_alloc (h := fun _ => ?_) | refine sw_box (h := fun _ => ?_) | refine sw_rangeS (h := fun _ => ?_) | refine sw_nextS (h1 := fun _ => ?_) (h2 := fun _ => ?_) | refine sw_bsl (h := fun _ => ?_) | refine sw_st1 (h := ?_) | refine sw_stAll (h := ?_) | refine cw_cond_t (ht := ?_) | refine cw_cond_f (hf := ?_) | apply cw_skip | apply cw_block | apply cw_ret | apply cw_exit | refine sy_and (h := ?_) | refine sy_or (h := ?_) | refine sy_xor (h := ?_) | refine sy_andNot (h := ?_) | refine sy_xorU (h := ?_) | refine sy_shl (h := ?_) | refine sy_shr (h := ?_) | refine sy_mul (h := ?_) | refine sy_int (h := ?_) | refine sy_beql (h := ?_) | refine sy_bneq (h := ?_) | refine sy_min (h := ?_) | refine sy_max (h := ?_) | refine sy_arrA (h := ?_) | refine sy_strI (h := ?_) | ((fail_if_success (refine sw_chk (h := ?_))); refine sw_guard (ht := ?_) (hf := ?_); all_goals (intro hx_; first | have := of_decide_eq_true hx_ | have := of_decide_eq_false hx_ | skip)) | (refine cw_cond (ht := ?_) (hf := ?_); all_goals (intro hx_; first | have := of_decide_eq_true hx_ | have := of_decide_eq_false hx_ | skip)))
    · apply ends_ret; apply res_tmp; rfl; rfl
      rw [eqL, allB_false hlt (by assumption), Bool.and_false]
    · exact ⟨i.next hlt (by assumption), (by show l.length - (i.k + 1) < l.length - i.k; omega), ok_sub (by repeat (first | exact trivial | refine ⟨rfl, ?_⟩)) (List.Sublist.refl _) fun _ h => h⟩
  · apply ends_ret; apply res_tmp; rfl; rfl
    rw [eqL, i.all (by omega), decide_eq_true hlm]
    rfl
def has21V (l : List ByteArray) (x : ByteArray) : Bool := l.any fun y => seqB y x
theorem has21_found {l : List ByteArray} {x : ByteArray} {k : Nat} (hk : k < l.length) (h : seqB (l.getD k .empty) x = true) : has21V l x = true := by
  rw [has21V, List.any_eq_true]
  refine ⟨l[k], List.getElem_mem hk, ?_⟩
  simpa [hk] using h
theorem has21_none {l : List ByteArray} {x : ByteArray} (h : ∀ k, k < l.length → seqB (l.getD k .empty) x = false) : has21V l x = false := by
  rw [has21V, List.any_eq_false]
  intro y hy
  obtain ⟨k, hk, rfl⟩ := List.getElem_of_mem hy
  have := h k hk
  simp [hk] at this
  simp [this]
theorem has21_pu (s : SlV) (l : List ByteArray) (x : ByteArray) : Pu Tryz.prog 16 #[s.v, .string x] (fun w => Strs w s l) (.bool (has21V l x)) := by
  refine pu_of_cw (args := [_, _]) _ Tryz.func16 rfl Tryz.ntmps16 rfl fun av bor w0 => ?_
  refine cw_know (p := s.n = l.length ∧ s.n ≤ maxLen ∧ (0 < l.length → s.p.isSome = true)) (fun w h => ⟨h.len_, Nat.le_trans (RowsD.cap h) (RowsD.max h), h.some_⟩) fun ⟨hl, hm, hp⟩ => ?_
  simp only [maxLen] at hm
  repeat' (first | apply sw_nil | apply cw_seq | apply cw_reg | refine sy_move (h := ?_) | refine sy_assign (h := ?_) | refine sy_nilCheck (h := ?_) | refine sy_fld (h := ?_) | refine sy_ld (h := ?_) | refine sy_ldAll (h := ?_) | refine sy_pick_t (h := ?_) | refine sy_pick_f (h := ?_) | refine sy_not (h := ?_) | refine sy_eql (h := ?_) | refine sy_neq (h := ?_) | refine sy_lss (h := ?_) | refine sy_leq (h := ?_) | refine sy_gtr (h := ?_) | refine sy_geq (h := ?_) | refine sy_seql (h := ?_) | refine sy_sneq (h := ?_) | refine sy_slen (h := ?_) | refine sy_len (h := ?_) | refine sy_extract (h := ?_) | refine sy_add (h := ?_) | refine sy_sub (h := ?_) | refine sw_skipT (h := ?_) | refine sw_skipF (h := ?_) | refine sw_skipU (h := ?_) | refine sw_alloc (h := fun _ => ?_) | refine sw_box (h := fun _ => ?_) | refine sw_rangeS (h := fun _ => ?_) | refine sw_nextS (h1 := fun _ => ?_) (h2 := fun _ => ?_) | refine sw_bsl (h := fun _ => ?_) | refine sw_st1 (h := ?_) | refine sw_stAll (h := ?_) | refine cw_cond_t (ht := ?_) | refine cw_cond_f (hf := ?_) | apply cw_skip | apply cw_block | apply cw_ret | apply cw_exit | refine sy_and (h := ?_) | refine sy_or (h := ?_) | refine sy_xor (h := ?_) | refine sy_andNot (h := ?_) | refine sy_xorU (h := ?_) | refine sy_shl (h := ?_) | refine sy_shr (h := ?_) | refine sy_mul (h := ?_) | refine sy_int (h := ?_) | refine sy_beql (h := ?_) | refine sy_bneq (h := ?_) | refine sy_min (h := ?_) | refine sy_max (h := ?_) | refine sy_arrA (h := ?_) | refine sy_strI (h := ?_))
  refine cw_loop (ι := Upto l.length (fun k => seqB (l.getD k .empty) x)) (fun i => ⟨[(0, s.v), (1, .string x), (5, .int .i64 i.k)], [], fun w => Strs w s l⟩) (fun i => l.length - i.k) (Upto.zero _ _) (ok_sub ⟨rfl, rfl, rfl, trivial⟩ (List.Sublist.refl _) fun _ h => h) fun i => ?_
  have hik := i.hk
  repeat' (first | apply sw_nil | apply cw_seq | apply cw_reg | refine sy_move (h := ?_) | refine sy_assign (h := ?_) | refine sy_nilCheck (h := ?_) | refine sy_fld (h := ?_) | refine sy_ld (h := ?_) | refine sy_ldAll (h := ?_) | refine sy_pick_t (h := ?_) | refine sy_pick_f (h := ?_) | refine sy_not (h := ?_) | refine sy_eql (h := ?_) | refine sy_neq (h := ?_) | refine sy_lss (h := ?_) | refine sy_leq (h := ?_) | refine sy_gtr (h := ?_) | refine sy_geq (h := ?_) | refine sy_seql (h := ?_) | refine sy_sneq (h := ?_) | refine sy_slen (h := ?_) | refine sy_len (h := ?_) | refine sy_extract (h := ?_) | refine sy_add (h := ?_) | refine sy_sub (h := ?_) | refine sw_skipT (h := ?_) | refine sw_skipF (h := ?_) | refine sw_skipU (h := ?_) | refine sw_alloc (h := fun _ => ?_) | refine sw_box (h := fun _ => ?_) | refine sw_rangeS (h := fun _ => ?_) | refine sw_nextS (h1 := fun _ => ?_) (h2 := fun _ => ?_) | refine sw_bsl (h := fun _ => ?_) | refine sw_st1 (h := ?_) | refine sw_stAll (h := ?_) | refine cw_cond_t (ht := ?_) | refine cw_cond_f (hf := ?_) | apply cw_skip | apply cw_block | apply cw_ret | apply cw_exit | refine sy_and (h := ?_) | refine sy_or (h := ?_) | refine sy_xor (h := ?_) | refine sy_andNot (h := ?_) | refine sy_xorU (h := ?_) | refine sy_shl (h := ?_) | refine sy_shr (h := ?_) | refine sy_mul (h := ?_) | refine sy_int (h := ?_) | refine sy_beql (h := ?_) | refine sy_bneq (h := ?_) | refine sy_min (h := ?_) | refine sy_max (h := ?_) | refine sy_arrA (h := ?_) | refine sy_strI (h := ?_) | ((fail_if_success (refine sw_chk (h := ?_))); refine sw_guard (ht := ?_) (hf := ?_); all_goals (intro hx_; first | have := of_decide_eq_true hx_ | have := of_decide_eq_false hx_ | skip)) | (refine cw_cond (ht := ?_) (hf := ?_); all_goals (intro hx_; first | have := of_decide_eq_true hx_ | have := of_decide_eq_false hx_ | skip)))
  · have hlt : i.k < l.length := by omega
    have hp' := hp (by omega)
    repeat' (first | apply sw_nil | apply cw_seq | apply cw_reg | refine sy_move (h := ?_) | refine sy_assign (h := ?_) | refine sy_nilCheck (h := ?_) | refine sy_fld (h := ?_) | refine sy_ld (h := ?_) | refine sy_ldAll (h := ?_) | refine sy_pick_t (h := ?_) | refine sy_pick_f (h := ?_) | refine sy_not (h := ?_) | refine sy_eql (h := ?_) | refine sy_neq (h := ?_) | refine sy_lss (h := ?_) | refine sy_leq (h := ?_) | refine sy_gtr (h := ?_) | refine sy_geq (h := ?_) | refine sy_seql (h := ?_) | refine sy_sneq (h := ?_) | refine sy_slen (h := ?_) | refine sy_len (h := ?_) | refine sy_extract (h := ?_) | refine sy_add (h := ?_) | refine sy_sub (h := ?_) | refine sw_skipT (h := ?_) | refine sw_skipF (h := ?_) | refine sw_skipU (h := ?_) | refine sw_alloc (h := fun _ => ?_) | refine sw_box (h := fun _ => ?_) | refine sw_rangeS (h := fun _ => ?_) | refine sw_nextS (h1 := fun _ => ?_) (h2 := fun _ => ?_) | refine sw_bsl (h := fun _ => ?_) | refine sw_st1 (h := ?_) | refine sw_stAll (h := ?_) | refine cw_cond_t (ht := ?_) | refine cw_cond_f (hf := ?_) | apply cw_skip | apply cw_block | apply cw_ret | apply cw_exit | refine sy_and (h := ?_) | refine sy_or (h := ?_) | refine sy_xor (h := ?_) | refine sy_andNot (h := ?_) | refine sy_xorU (h := ?_) | refine sy_shl (h := ?_) | refine sy_shr (h := ?_) | refine sy_mul (h := ?_) | refine sy_int (h := ?_) | refine sy_beql (h := ?_) | refine sy_bneq (h := ?_) | refine sy_min (h := ?_) | refine sy_max (h := ?_) | refine sy_arrA (h := ?_) | refine sy_strI (h := ?_) | (refine sy_idxX (q := i.k) (h := ?_)) | (refine sy_ldX (hF := fun w h => Strs.get h hlt) (h := ?_)) | ((fail_if_success (refine sw_chk (h := ?_))); refine sw_guard (ht := ?_) (hf := ?_); all_goals (intro hx_; first | have := of_decide_eq_true hx_ | have := of_decide_eq_false hx_ | skip)) | (refine cw_cond (ht := ?_) (hf := ?_); all_goals (intro hx_; first | have := of_decide_eq_true hx_ | have := of_decide_eq_false hx_ | skip)))
    · apply ends_ret; apply res_tmp; rfl; rfl
      rw [has21_found hlt (by assumption)]
    · exact ⟨i.next hlt (by assumption), (by show l.length - (i.k + 1) < l.length - i.k; omega), ok_sub ⟨rfl, rfl, rfl, trivial⟩ (List.Sublist.refl _) fun _ h => h⟩
  · apply ends_ret; apply res_tmp; rfl; rfl
    rw [has21_none fun k hk => i.ok k (by omega)]
end Go.Proofs.YtfpojkoddcdojaaGreatDoor

/- Contracts: package circle. -/
set_option linter.unusedVariables false
set_option linter.unusedSimpArgs false
namespace Go.Proofs.YtfpojkoddcdojaaGreatDoor
open Go Go.Proofs Sy
def XC (c : ChainD) (w : World) : Prop := c.at_ w ∧ Glob w
theorem XC.know {c : ChainD} : ∀ w, XC c w → c.acts.n = c.actsL.length ∧ c.acts.n ≤ maxLen ∧ (0 < c.actsL.length → c.acts.p.isSome = true) ∧ c.acts.n ≤ c.acts.c := fun w h => ⟨h.1.len_, h.1.max_, h.1.some_, h.1.cap_⟩
def gOk (a : ActD) (sc : Int) (g : ByteArray) (nx : Nat) : Bool := decide (a.kind = 16) && decide (a.scope = sc) && seqB a.group g && decide (a.epoch = (nx : Int))
def grantF (l : List ActD) (sc : Int) (g : ByteArray) : Nat → Nat × Nat
  | 0 => (0, 0)
  | i + 1 => bif gOk (l.getD i ActD.zero) sc g (grantF l sc g i).2 then (i, (grantF l sc g i).2 + 1) else grantF l sc g i
def grantV (l : List ActD) (n sc : Int) (g : ByteArray) : Nat × Nat := grantF l sc g (limN n l.length)
def epochO (l : List ActD) (n sc : Int) (g : ByteArray) : Option ActD := bif decide ((0 : Int) < ((grantV l n sc g).2 : Nat)) then l[(grantV l n sc g).1]? else none
theorem strs_ones (l : List ByteArray) : ∀ cs ∈ strs l, cs.all (·.oneCell') = true := fun cs hcs => by simp only [strs, List.mem_map] at hcs; obtain ⟨x, _, rfl⟩ := hcs; rfl
theorem compB_ct {e n : Nat} {v : Value} {ss : List ByteArray} : Ct Tryz.prog 44 #[v] [orow e 1 v n (ss.map encB)] (fun _ => True) fun u R _ => ∃ A c, u = .slice A (compB ss).length c ∧ R = [orow e 1 u (compB ss).length ((compB ss).map encB)] := by
  have h := compS_c.ct (e := e) (n := n) (v := v) (ss := ss.map bl)
  rw [map_encB ss]
  refine h.mono fun u R X' ⟨A, c, h1, h2⟩ => ⟨A, c, ?_, ?_⟩
  · rw [h1]; simp [compB]
  · rw [h2, map_encStr, compB]; simp
def circF (l : List ActD) (g : ByteArray) : Nat → Option ActD
  | 0 => none
  | i + 1 => bif decide ((l.getD i ActD.zero).kind = 15) && seqB (l.getD i ActD.zero).group g then some (l.getD i ActD.zero) else circF l g i
def listOf (c : ChainD) (n sc : Int) (g : ByteArray) (toL : List ByteArray) : List ByteArray :=
  bif decide (sc = 1) then sortB (tieV c.actsL n).a else bif decide (sc = 2) then ((circF c.actsL g (limN n c.actsL.length)).map (·.toL)).getD [] else bif decide (sc = 3) then toL else []
def keepM (c : ChainD) (bs : List ByteArray) (x : ByteArray) : Bool := !seqB x c.id && !hasS bs x
def membersV (c : ChainD) (n sc : Int) (g : ByteArray) (toL : List ByteArray) : List ByteArray := compB (sortB ((listOf c n sc g toL).filter (keepM c (sortB (tieV c.actsL n).b))))
def StrsAt (l : List ByteArray) (u : Value) (X : World → Prop) : Prop := ∃ s : SlV, u = s.v ∧ ∀ w, X w → Strs w s l
structure FilS (m : Nat) where
  k : Nat
  hk : k ≤ m
  A : Option Addr
  c : Nat
end Go.Proofs.YtfpojkoddcdojaaGreatDoor

/- Contracts: circle.Members. -/
set_option linter.unusedVariables false
set_option linter.unusedSimpArgs false
namespace Go.Proofs.YtfpojkoddcdojaaGreatDoor
open Go Go.Proofs Sy
/-- A row of strings of the call's own is handed back. -/
def OwnStrs (l : List ByteArray) (u : Value) (R : List Res) : Prop := ∃ A c, u = .slice A l.length c ∧ R = [orow 9 1 u l.length (l.map encB)]
theorem mk_of_own {f : FuncId} {args : Array Value} {X : World → Prop} {l : List ByteArray} (h : Ct Tryz.prog f args [] X (fun u R _ => OwnStrs l u R)) : Mk Tryz.prog f args X (StrsAt l) := by
  unfold Mk
  exact Ct.mk fun w av G => (Ct.run h w av G).mono fun e w' ⟨u, R, X', he, hu, G'⟩ => ⟨u, [], _, he, ⟨by
    obtain ⟨A, c, rfl, rfl⟩ := hu
    exact ⟨⟨A, _, c⟩, rfl, fun w h => strs_of_orow (h.2 _ List.mem_cons_self) rfl⟩, rfl⟩, G'.giveAll⟩

end Go.Proofs.YtfpojkoddcdojaaGreatDoor

/- Contracts: circle.Fresh and circle.Well. -/
set_option linter.unusedVariables false
set_option linter.unusedSimpArgs false
namespace Go.Proofs.YtfpojkoddcdojaaGreatDoor
open Go Go.Proofs Sy
def postK (k : Int) : Bool := decide (k = 1) || decide (k = 2) || decide (k = 3)
def wellA (c : ChainD) (i : Int) (a : ActD) : Bool := (postK a.kind || decide (a.kind = 14)) && (decide (a.scope = 1) || decide (a.scope = 2) || decide (a.scope = 3)) && (match epochO c.actsL i a.scope a.group with
  | some e => decide (e.epoch = a.epoch) && eqL e.toL (membersV c i a.scope a.group a.toL)
  | none => false)
def wellV (c : ChainD) (i : Int) : Bool := decide (0 ≤ i) && (match c.actsL[i.toNat]? with
  | some a => wellA c i a
  | none => false)
end Go.Proofs.YtfpojkoddcdojaaGreatDoor

/- Plain laws: what a chain of which only the first activities are read answers, whatever follows in it. No program in sight. -/
set_option linter.unusedVariables false
set_option linter.unusedSimpArgs false
namespace Go.Proofs.YtfpojkoddcdojaaGreatDoor
open Go Go.Proofs Sy
structure Agree (n : Nat) (l l' : List ActD) : Prop where
  at_ : ∀ k, k < n → l[k]? = l'[k]?
  left : n ≤ l.length
  right : n ≤ l'.length
theorem Agree.getD {n : Nat} {l l' : List ActD} (h : Agree n l l') {k : Nat} (hk : k < n) : l.getD k ActD.zero = l'.getD k ActD.zero := by
  rw [List.getD_eq_getElem?_getD, List.getD_eq_getElem?_getD, h.at_ k hk]
theorem Agree.symm {n : Nat} {l l' : List ActD} (h : Agree n l l') : Agree n l' l := ⟨fun k hk => (h.at_ k hk).symm, h.right, h.left⟩
end Go.Proofs.YtfpojkoddcdojaaGreatDoor

/- Plain laws of who may read (package reach), and of a posting that is written next (CircleFresh). No program in sight. -/
set_option linter.unusedVariables false
set_option linter.unusedSimpArgs false
namespace Go.Proofs.YtfpojkoddcdojaaGreatDoor
open Go Go.Proofs Sy
theorem hasS_iff {l : List ByteArray} {x : ByteArray} : hasS l x = true ↔ x ∈ l := by
  rw [hasS, List.any_eq_true]
  constructor
  · rintro ⟨y, hy, h⟩
    rw [seqB_iff.1 h]; exact hy
  · intro h
    exact ⟨x, h, seqB_self x⟩
theorem hasS_false {l : List ByteArray} {x : ByteArray} : hasS l x = false ↔ x ∉ l := by
  rw [← Bool.not_eq_true, hasS_iff]
structure ReadF (c : ChainD) (i : Int) (a : ActD) (l : List ByteArray) : Prop where
  asc : Asc l
  own : c.id ∈ l
  mem : ∀ x ∈ l, x ≠ c.id → x ∈ membersV c i a.scope a.group a.toL
  len : l.length = 1 + (bif wellV c i then (membersV c i a.scope a.group a.toL).length else 0)

/-! a posting that is written after the first n activities -/
end Go.Proofs.YtfpojkoddcdojaaGreatDoor

/- Laws and data that the walks of the laws share: bounds, rows of activities, decided comparisons. -/
set_option linter.unusedVariables false
set_option linter.unusedSimpArgs false
namespace Go.Proofs.YtfpojkoddcdojaaGreatDoor
open Go Go.Proofs Sy
section
variable {P : Program} {N : Nat} {av bor : List Nat} {w0 : World} {ops : Array Oper} {rest : List Oper} {k : St → Prop} {E : Env} {loc : List Res} {X : World → Prop}
theorem sw_give {r : Res} (h : Sw P N av bor w0 ops rest ⟨E, loc, fun w => X w ∧ r.F w⟩ k) : Sw P N av bor w0 ops rest ⟨E, r :: loc, X⟩ k := Sw.mk fun a w ok => h.run a w ⟨ok.defers, ok.size, ok.env, ok.gam.give⟩
end
def shortBad (l : List ActD) (k : Nat) : Bool := decide (8 < (l.getD k ActD.zero).to.n) || decide (8 < (l.getD k ActD.zero).wraps.n) || decide (600 < (l.getD k ActD.zero).text.size) || decide (600 < (l.getD k ActD.zero).body.data.size)
def shortV (c : ChainD) : Bool := decide (c.actsL.length ≤ 24) && allB c.actsL.length (shortBad c.actsL)
def idA : ByteArray := ⟨#[48, 48, 48, 48, 48, 48, 48, 48, 48, 48, 48, 48, 48, 48, 97, 49]⟩
def idB : ByteArray := ⟨#[48, 48, 48, 48, 48, 48, 48, 48, 48, 48, 48, 48, 48, 48, 98, 50]⟩
theorem strs_of_cel {w : World} {b e : Nat} {l : List ByteArray} (h : (cel b e (l.map encB)).F w) (hm : l.length ≤ maxLen) : Strs w ⟨some ⟨b, 0, none⟩, l.length, l.length⟩ l := by
  have h1 : (l.map encB) = (strs l).flatten := strs_flat l
  rw [h1] at h
  exact rows_of_cel h (by simp [strs]) hm (strs_one l)
theorem actsOk_of {c : ChainD} (hr : ∀ a ∈ c.actsL, a.Rng) (ht : ∀ a ∈ c.actsL, a.target.size ≤ maxLen) (h : shortV c = true) : ActsOk c.actsL ∧ c.actsL.length ≤ 24 := by
  simp only [shortV, Bool.and_eq_true, decide_eq_true_eq] at h
  refine ⟨⟨hr, fun a ha => ?_⟩, h.1⟩
  obtain ⟨i, hi, rfl⟩ := List.getElem_of_mem ha
  have h1 := List.all_eq_true.1 h.2 i (List.mem_range.2 hi)
  simp only [shortBad, List.getD_eq_getElem?_getD, List.getElem?_eq_getElem hi, Option.getD_some, Bool.not_eq_true', Bool.or_eq_false_iff, decide_eq_false_iff_not] at h1
  exact ⟨by omega, by omega, ht _ ha⟩
theorem eqL_refl (l : List ByteArray) : eqL l l = true := by
  rw [eqL, decide_eq_true rfl, Bool.true_and]
  refine allB_true fun j hj => ?_
  simp [eqBad, seqB]
section
variable {P : Program} {N : Nat} {av bor : List Nat} {w0 : World} {ops : Array Oper} {rest : List Oper} {kk : St → Prop} {E : Env} {loc : List Res} {X : World → Prop} {x y : Operand} {t t2 : TypeId}
variable {n : Nat} {ty : TypeId} {pos : String} {af : Array Edge} {g : Option (Nat × Bool)} {bb want : Bool}
end
structure RowI where
  A : Option Addr
  c : Nat
/-- The chain with another row of activities. -/
def ChainD.with (c : ChainD) (s : SlV) (l : List ActD) : ChainD := { c with acts := s, actsL := l }
theorem cells_len (l : List ActD) : ∀ r ∈ l.map ActD.cells, r.length = 20 := by
  intro r hr
  obtain ⟨a, _, rfl⟩ := List.mem_map.1 hr
  rfl
section
variable {P : Program} {N : Nat} {av bor : List Nat} {w0 : World} {ops : Array Oper} {rest : List Oper} {kk : St → Prop} {E : Env} {loc : List Res} {X : World → Prop} {x y : Operand} {t t2 : TypeId}
variable {n : Nat} {ty : TypeId} {pos : String} {af : Array Edge} {g : Option (Nat × Bool)} {bb want : Bool}
end
section
variable {P : Program} {N : Nat} {av bor : List Nat} {w0 : World} {ops : Array Oper} {rest : List Oper} {k : St → Prop} {E : Env} {loc : List Res} {X : World → Prop}
variable {d : Option Tmp} {ty : TypeId} {pos : String} {af : Array Edge} {g : Option (Nat × Bool)} {bb want : Bool}
/-- A call that is handed no resource and may hand some back. -/
theorem sw_fn0 {x : Operand} {xs : List Operand} {ats : Array TypeId} {f : FuncId} {first caps : Array Value} {args all : List Value} {X1 : World → Prop} {Post : Value → List Res → (World → Prop) → Prop}
    (hx : ev E x = some (.func (.func f) first caps) := by rfl) (ha : evs E xs = some args := by rfl) (hall : first.toList ++ args ++ caps.toList = all := by rfl) (hg : gdB ops E g = some (bb, want) := by rfl) (hb : bb = want := by (first | with_reducible rfl | with_reducible assumption | with_reducible exact Bool.not_false | with_reducible exact Bool.not_true)) (hd : inB N d = true := by rfl) (hf : FnBody P f := by infer_instance)
    (hc : Ct P f all.toArray [] X1 Post) (hX : ∀ w, X w → X1 w := by (first | exact fun _ _ => trivial | exact fun _ h => h | exact fun _ h => h.1 | exact fun _ h => h.2))
    (h : ∀ v R X', Post v R X' → Sw P N av bor w0 ops rest ⟨putE E d v, R ++ loc, fun w => X w ∧ X' w⟩ k) :
    Sw P N av bor w0 ops (⟨d, .call ⟨.value x, xs.toArray, ats⟩, ty, pos, af, g⟩ :: rest) ⟨E, loc, X⟩ k := sw_fn (pre := []) (fr := loc) hx ha hall hg hb hd hf hc hX h
end
theorem has21_has (l : List ByteArray) (x : ByteArray) : has21V l x = hasS l x := by
  unfold has21V hasS
  congr 1
  funext y
  exact seqB_comm y x
section
variable {P : Program} {N : Nat} {av bor : List Nat} {w0 : World} {st : St} {x y : Operand} {t t2 : TypeId} {ty : TypeId}
theorem y_sgeqF {a b : ByteArray} (hx : ev st.env x = some (.string a)) (hy : ev st.env y = some (.string b)) (hab : ltB a b = true) : Sy.Yields P N av bor w0 st (.binOp .geq t x y t2) ty (.bool false) := by
  have h := y_sgeq (P := P) (N := N) (av := av) (bor := bor) (w0 := w0) (t := t) (t2 := t2) (ty := ty) hx hy
  have e : (!Op.bytesLess a.toList b.toList) = false := by rw [show Op.bytesLess a.toList b.toList = true from hab]; rfl
  rwa [e] at h
end
theorem pu_weak {P : Program} {f : FuncId} {args : Array Value} {X X' : World → Prop} {v : Value} (h : Pu P f args X v) (hx : ∀ w, X' w → X w) : Pu P f args X' v := by
  unfold Pu at *
  exact Ct.mk fun w av G => (Ct.run h w av (G.imp hx)).mono fun e w' ⟨u, R, X1, he, hp, G'⟩ => ⟨u, R, X1, he, hp, G'⟩
end Go.Proofs.YtfpojkoddcdojaaGreatDoor
