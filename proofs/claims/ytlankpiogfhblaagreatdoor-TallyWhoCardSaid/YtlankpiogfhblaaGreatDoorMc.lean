/- Joined by program (wip/dev/merge.py) out of: D I A B Co E F R. -/
import Derived.Test.YtlankpiogfhblaaGreatDoorTy
import Derived.Test.YtlankpiogfhblaaGreatDoorMa
import Derived.Test.YtlankpiogfhblaaGreatDoorMb
/- The data: activities and their parts, as records; their cells. -/
set_option linter.unusedVariables false
namespace Go.Proofs.YtlankpiogfhblaaGreatDoor
open Go Go.Proofs Sy

/-! strings that stand in a slice -/
def strs (l : List ByteArray) : List (List Value) := l.map fun s => [.string s]
def Strs (w : World) (s : SlV) (l : List ByteArray) : Prop := RowsD w 1 s (strs l)
theorem Strs.at_ {w : World} {s : SlV} {l : List ByteArray} (h : Strs w s l) {i : Nat} {x : ByteArray} (hx : l[i]? = some x) : CellAt w s.p i (.string x) := by
  have := (RowsD.row h i [.string x] (by simp [strs, hx])).2.2 0 (.string x) rfl
  simpa using this
theorem Strs.len_ {w : World} {s : SlV} {l : List ByteArray} (h : Strs w s l) : s.n = l.length := by have := RowsD.len h; simpa [strs] using this
theorem Strs.some_ {w : World} {s : SlV} {l : List ByteArray} (h : Strs w s l) (hl : 0 < l.length) : s.p.isSome = true := by
  have hx : l[0]? = some l[0] := List.getElem?_eq_getElem hl
  exact (RowsD.row h 0 [.string l[0]] (by simp [strs, hx])).2.1
theorem Strs.get {w : World} {s : SlV} {l : List ByteArray} (h : Strs w s l) {i : Nat} (hi : i < l.length) : CellAt w s.p i (.string (l.getD i .empty)) := h.at_ (by simp [hi])

structure BoxD where
  nonce : ByteArray
  data : ByteArray
  tag : ByteArray
structure WrapD where
  to : Int
  eph : Int
  box : BoxD
structure ActD where
  author : ByteArray
  seq : Int
  prev : ByteArray
  kind : Int
  time : Int
  object : ByteArray
  target : ByteArray
  scope : Int
  group : ByteArray
  to : SlV
  text : ByteArray
  body : BoxD
  epoch : Int
  wraps : SlV
  n : Int
  m : Int
  e : Int
  s : Int
  toL : List ByteArray
  wrapsL : List WrapD
def BoxD.cells (b : BoxD) : List Value := [.string b.nonce, .string b.data, .string b.tag]
def BoxD.v (b : BoxD) : Value := .agg b.cells.toArray
theorem BoxD.v_cells (b : BoxD) : b.v.cells.toList = b.cells := rfl
def BoxD.zero : BoxD := ⟨⟨#[]⟩, ⟨#[]⟩, ⟨#[]⟩⟩
def WrapD.cells (w : WrapD) : List Value := [.int .i64 w.to, .int .i64 w.eph, .string w.box.nonce, .string w.box.data, .string w.box.tag]
theorem WrapD.cells_box (w : WrapD) : (w.cells.drop 2).take 3 = w.box.cells := rfl
def ActD.cells (a : ActD) : List Value := [.string a.author, .int .i64 a.seq, .string a.prev, .int .i64 a.kind, .int .i64 a.time, .string a.object, .string a.target, .int .i64 a.scope, .string a.group, a.to.v,
  .string a.text, .string a.body.nonce, .string a.body.data, .string a.body.tag, .int .i64 a.epoch, a.wraps.v, .int .i64 a.n, .int .i64 a.m, .int .i64 a.e, .int .i64 a.s]
def ActD.v (a : ActD) : Value := .agg a.cells.toArray
theorem ActD.v_cells (a : ActD) : a.v.cells.toList = a.cells := rfl
theorem ActD.cells_body (a : ActD) : (a.cells.drop 11).take 3 = a.body.cells := rfl

def Wraps (w : World) (s : SlV) (l : List WrapD) : Prop := RowsD w 5 s (l.map WrapD.cells)
theorem Wraps.len_ {w : World} {s : SlV} {l : List WrapD} (h : Wraps w s l) : s.n = l.length := by have := RowsD.len h; simpa using this
theorem Wraps.some_ {w : World} {s : SlV} {l : List WrapD} (h : Wraps w s l) (hl : 0 < l.length) : s.p.isSome = true := by
  have hx : l[0]? = some l[0] := List.getElem?_eq_getElem hl
  exact (RowsD.row h 0 l[0].cells (by simp [hx])).2.1
theorem Wraps.get {w : World} {s : SlV} {l : List WrapD} (h : Wraps w s l) {i : Nat} {x : WrapD} (hx : l[i]? = some x) : x.cells.length = 5 ∧ s.p.isSome = true ∧ ∀ j u, x.cells[j]? = some u → CellAt w s.p (i * 5 + j) u :=
  RowsD.row h i x.cells (by simp [hx])

/-- The slices of an activity read as its lists. -/
def ActD.at_ (w : World) (a : ActD) : Prop := Strs w a.to a.toL ∧ Wraps w a.wraps a.wrapsL
end Go.Proofs.YtlankpiogfhblaaGreatDoor

/- Contracts: package ident. -/
set_option linter.unusedVariables false
set_option linter.unusedSimpArgs false
namespace Go.Proofs.YtlankpiogfhblaaGreatDoor
open Go Go.Proofs Sy

def dig (c : Int) : Bool := decide (48 ≤ c) && decide (c ≤ 57)
theorem isDigit_pu (c : Int) : Pu Tryz.prog 99 #[.int .i32 c] (fun _ => True) (.bool (dig c)) := by
  refine pu_of_cw (args := [_]) _ Tryz.func99 rfl Tryz.ntmps99 rfl fun av bor w0 => ?_
  repeat' (first | apply sw_nil | apply cw_seq | apply cw_reg | refine sy_move (h := ?_) | refine sy_assign (h := ?_) | refine sy_pick_t (h := ?_) | refine sy_pick_f (h := ?_) | refine sy_leq (h := ?_) | refine sw_skipT (h := ?_) | refine sw_skipF (h := ?_) | refine sw_skipU (h := ?_) | refine cw_cond_t (ht := ?_) | refine cw_cond_f (hf := ?_) | apply cw_skip | apply cw_block | apply cw_ret | apply cw_exit | refine sy_arrA (h := ?_) | refine sy_strI (h := ?_) | ((fail_if_success (refine sw_chk (h := ?_))); refine sw_guard (ht := ?_) (hf := ?_); all_goals (intro hx_; first | have := of_decide_eq_true hx_ | have := of_decide_eq_false hx_ | skip)) | (refine cw_cond (ht := ?_) (hf := ?_); all_goals (intro hx_; first | have := of_decide_eq_true hx_ | have := of_decide_eq_false hx_ | skip)))
  (all_goals (apply ends_ret; apply res_tmp; rfl; rfl)); all_goals first | rfl | (simp only [dig, *, decide_true, decide_false, cond_true, cond_false, Bool.and_true, Bool.true_and, Bool.and_false, Bool.false_and, Bool.not_true, Bool.not_false, Bool.or_true, Bool.true_or, Bool.or_false, Bool.false_or]; done) | (simp_all [dig]; done)

theorem width_pos (s : ByteArray) (q : Nat) : 1 ≤ (Utf8.decode s q).2 := by
  unfold Utf8.decode
  simp only
  repeat' split
  all_goals simp

def runes (bad : Nat → Int → Bool) (s : ByteArray) : Nat → Nat → Bool
  | 0, _ => true
  | f + 1, q => bif decide (q < s.size) then (bif bad q (Utf8.decode s q).1 then false else runes bad s f (q + (Utf8.decode s q).2)) else true
/-- Where a round may begin. -/
structure At0 (bad : Nat → Int → Bool) (s : ByteArray) where
  f : Nat
  q : Nat
  h : s.size ≤ f + q
  e : runes bad s f q = runes bad s s.size 0
theorem runes_end {bad : Nat → Int → Bool} {s : ByteArray} (i : At0 bad s) (h : s.size ≤ i.q) : runes bad s s.size 0 = true := by
  rw [← i.e]
  cases hf : i.f with
  | zero => rfl
  | succ f =>
    have : decide (i.q < s.size) = false := by simp; omega
    simp only [runes, this, cond_false]
theorem runes_bad {bad : Nat → Int → Bool} {s : ByteArray} (i : At0 bad s) (h : i.q < s.size) (hb : bad i.q (Utf8.decode s i.q).1 = true) : runes bad s s.size 0 = false := by
  rw [← i.e]
  cases hf : i.f with
  | zero => have := i.h; omega
  | succ f => simp only [runes, decide_eq_true h, hb, cond_true]
def runes_next {bad : Nat → Int → Bool} {s : ByteArray} (i : At0 bad s) (h : i.q < s.size) (hb : bad i.q (Utf8.decode s i.q).1 = false) : At0 bad s :=
  ⟨i.f - 1, i.q + (Utf8.decode s i.q).2, by have := width_pos s i.q; have := i.h; omega, by
    rw [← i.e]
    cases hf : i.f with
    | zero => have := i.h; omega
    | succ f => simp only [runes, decide_eq_true h, hb, cond_true, cond_false, Nat.add_sub_cancel]⟩

def badId (_ : Nat) (c : Int) : Bool := !dig c && (decide (c < 97) || decide (102 < c))
def isId (s : ByteArray) : Bool := decide ((s.size : Int) = 16) && runes badId s s.size 0
theorem right_pu (s : ByteArray) : Pu Tryz.prog 69 #[.string s] (fun _ => True) (.bool (isId s)) := by
  refine pu_of_cw (args := [_]) _ Tryz.func69 rfl Tryz.ntmps69 rfl fun av bor w0 => ?_
  repeat' (first | apply sw_nil | apply cw_seq | apply cw_reg | refine sy_move (h := ?_) | refine sy_assign (h := ?_) | refine sy_pick_t (h := ?_) | refine sy_pick_f (h := ?_) | refine sy_not (h := ?_) | refine sy_neq (h := ?_) | refine sy_lss (h := ?_) | refine sy_gtr (h := ?_) | refine sy_sneq (h := ?_) | refine sy_slen (h := ?_) | refine sy_len (h := ?_) | refine sy_extract (h := ?_) | refine sw_skipT (h := ?_) | refine sw_skipF (h := ?_) | refine sw_skipU (h := ?_) | refine sw_rangeS (h := fun _ => ?_) | refine sw_nextS (h1 := fun _ => ?_) (h2 := fun _ => ?_) | refine cw_cond_t (ht := ?_) | refine cw_cond_f (hf := ?_) | apply cw_skip | apply cw_block | apply cw_ret | apply cw_exit | refine sy_bneq (h := ?_) | refine sy_arrA (h := ?_) | refine sy_strI (h := ?_) | ((fail_if_success (refine sw_chk (h := ?_))); refine sw_guard (ht := ?_) (hf := ?_); all_goals (intro hx_; first | have := of_decide_eq_true hx_ | have := of_decide_eq_false hx_ | skip)) | (refine cw_cond (ht := ?_) (hf := ?_); all_goals (intro hx_; first | have := of_decide_eq_true hx_ | have := of_decide_eq_false hx_ | skip)))
  · (all_goals (apply ends_ret; apply res_tmp; rfl; rfl)); all_goals first | rfl | (simp only [isId, *, decide_true, decide_false, cond_true, cond_false, Bool.and_true, Bool.true_and, Bool.and_false, Bool.false_and, Bool.not_true, Bool.not_false, Bool.or_true, Bool.true_or, Bool.or_false, Bool.false_or]; done) | (simp_all [isId]; done)
  rename_i b
  refine cw_loop (ι := At0 badId s) (fun i => ⟨[(0, .string s), (9, .pointer (some ⟨b, 0, none⟩))], [sit b s i.q], fun _ => True⟩) (fun i => i.f) ⟨s.size, 0, by omega, rfl⟩ (ok_sub ⟨rfl, rfl, trivial⟩ (List.Sublist.refl _) fun _ h => h) fun i => ?_
  repeat' (first | apply sw_nil | apply cw_seq | apply cw_reg | refine sy_move (h := ?_) | refine sy_assign (h := ?_) | refine sy_pick_t (h := ?_) | refine sy_pick_f (h := ?_) | refine sy_not (h := ?_) | refine sy_neq (h := ?_) | refine sy_lss (h := ?_) | refine sy_gtr (h := ?_) | refine sy_sneq (h := ?_) | refine sy_slen (h := ?_) | refine sy_len (h := ?_) | refine sy_extract (h := ?_) | refine sw_skipT (h := ?_) | refine sw_skipF (h := ?_) | refine sw_skipU (h := ?_) | refine sw_rangeS (h := fun _ => ?_) | refine sw_nextS (h1 := fun _ => ?_) (h2 := fun _ => ?_) | refine cw_cond_t (ht := ?_) | refine cw_cond_f (hf := ?_) | apply cw_skip | apply cw_block | apply cw_ret | apply cw_exit | refine sy_bneq (h := ?_) | refine sy_arrA (h := ?_) | refine sy_strI (h := ?_) | refine sw_pu (hc := isDigit_pu _) (h := ?_) | ((fail_if_success (refine sw_chk (h := ?_))); refine sw_guard (ht := ?_) (hf := ?_); all_goals (intro hx_; first | have := of_decide_eq_true hx_ | have := of_decide_eq_false hx_ | skip)) | (refine cw_cond (ht := ?_) (hf := ?_); all_goals (intro hx_; first | have := of_decide_eq_true hx_ | have := of_decide_eq_false hx_ | skip)))
  all_goals first
    | (apply ends_ret; apply res_tmp; rfl; rfl; rw [isId, runes_bad i (by assumption) (by simp only [badId, *, decide_true, decide_false, cond_true, cond_false, Bool.and_true, Bool.true_and, Bool.and_false, Bool.false_and, Bool.not_true, Bool.not_false, Bool.or_true, Bool.true_or, Bool.or_false, Bool.false_or]), Bool.and_false])
    | (apply ends_ret; apply res_tmp; rfl; rfl; rw [isId, runes_end i (by assumption)]; simp_all; done)
    | exact ⟨runes_next i (by assumption) (by simp only [badId, *, decide_true, decide_false, cond_true, cond_false, Bool.and_true, Bool.true_and, Bool.and_false, Bool.false_and, Bool.not_true, Bool.not_false, Bool.or_true, Bool.true_or, Bool.or_false, Bool.false_or]), (by show i.f - 1 < i.f; have := i.h; omega), ok_sub ⟨rfl, rfl, trivial⟩ (List.Sublist.refl _) fun _ h => h⟩

def badName (q : Nat) (c : Int) : Bool := !(decide (97 ≤ c) && decide (c ≤ 122)) && (decide ((q : Int) = 0) || !dig c && !decide (c = 95))
def isName (s : ByteArray) : Bool := !(seqB s ⟨#[]⟩) && !decide (24 < (s.size : Int)) && runes badName s s.size 0
theorem name_pu (s : ByteArray) : Pu Tryz.prog 108 #[.string s] (fun _ => True) (.bool (isName s)) := by
  refine pu_of_cw (args := [_]) _ Tryz.func108 rfl Tryz.ntmps108 rfl fun av bor w0 => ?_
  repeat' (first | apply sw_nil | apply cw_seq | apply cw_reg | refine sy_move (h := ?_) | refine sy_assign (h := ?_) | refine sy_pick_t (h := ?_) | refine sy_pick_f (h := ?_) | refine sy_not (h := ?_) | refine sy_eql (h := ?_) | refine sy_neq (h := ?_) | refine sy_leq (h := ?_) | refine sy_gtr (h := ?_) | refine sy_seql (h := ?_) | refine sy_sneq (h := ?_) | refine sy_slen (h := ?_) | refine sy_len (h := ?_) | refine sy_extract (h := ?_) | refine sw_skipT (h := ?_) | refine sw_skipF (h := ?_) | refine sw_skipU (h := ?_) | refine sw_rangeS (h := fun _ => ?_) | refine sw_nextS (h1 := fun _ => ?_) (h2 := fun _ => ?_) | refine cw_cond_t (ht := ?_) | refine cw_cond_f (hf := ?_) | apply cw_skip | apply cw_block | apply cw_ret | apply cw_exit | refine sy_beql (h := ?_) | refine sy_bneq (h := ?_) | refine sy_arrA (h := ?_) | refine sy_strI (h := ?_) | ((fail_if_success (refine sw_chk (h := ?_))); refine sw_guard (ht := ?_) (hf := ?_); all_goals (intro hx_; first | have := of_decide_eq_true hx_ | have := of_decide_eq_false hx_ | skip)) | (refine cw_cond (ht := ?_) (hf := ?_); all_goals (intro hx_; first | have := of_decide_eq_true hx_ | have := of_decide_eq_false hx_ | skip)))
  all_goals try ((all_goals (apply ends_ret; apply res_tmp; rfl; rfl)); all_goals first | rfl | (simp only [isName, *, decide_true, decide_false, cond_true, cond_false, Bool.and_true, Bool.true_and, Bool.and_false, Bool.false_and, Bool.not_true, Bool.not_false, Bool.or_true, Bool.true_or, Bool.or_false, Bool.false_or]; done) | (simp_all [isName]; done))
  rename_i b
  refine cw_loop (ι := At0 badName s) (fun i => ⟨[(0, .string s), (14, .pointer (some ⟨b, 0, none⟩))], [sit b s i.q], fun _ => True⟩) (fun i => i.f) ⟨s.size, 0, by omega, rfl⟩ (ok_sub ⟨rfl, rfl, trivial⟩ (List.Sublist.refl _) fun _ h => h) fun i => ?_
  repeat' (first | apply sw_nil | apply cw_seq | apply cw_reg | refine sy_move (h := ?_) | refine sy_assign (h := ?_) | refine sy_pick_t (h := ?_) | refine sy_pick_f (h := ?_) | refine sy_not (h := ?_) | refine sy_eql (h := ?_) | refine sy_neq (h := ?_) | refine sy_leq (h := ?_) | refine sy_gtr (h := ?_) | refine sy_seql (h := ?_) | refine sy_sneq (h := ?_) | refine sy_slen (h := ?_) | refine sy_len (h := ?_) | refine sy_extract (h := ?_) | refine sw_skipT (h := ?_) | refine sw_skipF (h := ?_) | refine sw_skipU (h := ?_) | refine sw_rangeS (h := fun _ => ?_) | refine sw_nextS (h1 := fun _ => ?_) (h2 := fun _ => ?_) | refine cw_cond_t (ht := ?_) | refine cw_cond_f (hf := ?_) | apply cw_skip | apply cw_block | apply cw_ret | apply cw_exit | refine sy_beql (h := ?_) | refine sy_bneq (h := ?_) | refine sy_arrA (h := ?_) | refine sy_strI (h := ?_) | refine sw_pu (hc := isDigit_pu _) (h := ?_) | ((fail_if_success (refine sw_chk (h := ?_))); refine sw_guard (ht := ?_) (hf := ?_); all_goals (intro hx_; first | have := of_decide_eq_true hx_ | have := of_decide_eq_false hx_ | skip)) | (refine cw_cond (ht := ?_) (hf := ?_); all_goals (intro hx_; first | have := of_decide_eq_true hx_ | have := of_decide_eq_false hx_ | skip)))
  all_goals first
    | (apply ends_ret; apply res_tmp; rfl; rfl; rw [isName, runes_bad i (by assumption) (by simp only [badName, *, decide_true, decide_false, cond_true, cond_false, Bool.and_true, Bool.true_and, Bool.and_false, Bool.false_and, Bool.not_true, Bool.not_false, Bool.or_true, Bool.true_or, Bool.or_false, Bool.false_or]), Bool.and_false])
    | (apply ends_ret; apply res_tmp; rfl; rfl; rw [isName, runes_end i (by assumption)]; simp only [*, decide_true, decide_false, cond_true, cond_false, Bool.and_true, Bool.true_and, Bool.and_false, Bool.false_and, Bool.not_true, Bool.not_false, Bool.or_true, Bool.true_or, Bool.or_false, Bool.false_or]; done)
    | exact ⟨runes_next i (by assumption) (by simp only [badName, *, decide_true, decide_false, cond_true, cond_false, Bool.and_true, Bool.true_and, Bool.and_false, Bool.false_and, Bool.not_true, Bool.not_false, Bool.or_true, Bool.true_or, Bool.or_false, Bool.false_or]), (by show i.f - 1 < i.f; have := i.h; omega), ok_sub ⟨rfl, rfl, trivial⟩ (List.Sublist.refl _) fun _ h => h⟩

/-! a loop that ends at the first bad index -/
def allB (n : Nat) (bad : Nat → Bool) : Bool := (List.range n).all fun k => !bad k
theorem allB_true {n : Nat} {bad : Nat → Bool} (h : ∀ j, j < n → bad j = false) : allB n bad = true := by
  simp only [allB, List.all_eq_true, List.mem_range]
  intro j hj
  rw [h j hj]
  rfl
theorem allB_false {n k : Nat} {bad : Nat → Bool} (hk : k < n) (h : bad k = true) : allB n bad = false := by
  simp only [allB, List.all_eq_false, List.mem_range]
  exact ⟨k, hk, by simp [h]⟩
structure Upto (n : Nat) (bad : Nat → Bool) where
  k : Nat
  hk : k ≤ n
  ok : ∀ j, j < k → bad j = false
def Upto.zero (n : Nat) (bad : Nat → Bool) : Upto n bad := ⟨0, Nat.zero_le _, fun j h => absurd h (Nat.not_lt_zero _)⟩
def Upto.next {n : Nat} {bad : Nat → Bool} (i : Upto n bad) (h : i.k < n) (hb : bad i.k = false) : Upto n bad := ⟨i.k + 1, h, fun j hj => by
  by_cases e : j = i.k
  · rw [e]; exact hb
  · exact i.ok j (by omega)⟩
theorem Upto.all {n : Nat} {bad : Nat → Bool} (i : Upto n bad) (h : ¬ i.k < n) : allB n bad = true := allB_true fun j hj => i.ok j (by have := i.hk; omega)

def badIds (l : List ByteArray) (k : Nat) : Bool := !isId (l.getD k .empty) || decide (0 < (k : Int)) && (Op.bytesLess (l.getD k .empty).toList (l.getD (k - 1) .empty).toList || seqB (l.getD k .empty) (l.getD (k - 1) .empty))
def isIds (l : List ByteArray) : Bool := !decide (64 < (l.length : Int)) && allB l.length (badIds l)
theorem ids_pu (s : SlV) (l : List ByteArray) : Pu Tryz.prog 111 #[s.v] (fun w => Strs w s l) (.bool (isIds l)) := by
  refine pu_of_cw (args := [_]) _ Tryz.func111 rfl Tryz.ntmps111 rfl fun av bor w0 => ?_
  refine cw_know (p := s.n = l.length ∧ s.n ≤ maxLen ∧ (0 < l.length → s.p.isSome = true)) (fun w h => ⟨h.len_, Nat.le_trans (RowsD.cap h) (RowsD.max h), h.some_⟩) fun ⟨hl, hm, hp⟩ => ?_
  simp only [maxLen] at hm
  repeat' (first | apply sw_nil | apply cw_seq | apply cw_reg | refine sy_move (h := ?_) | refine sy_assign (h := ?_) | refine sy_ld (h := ?_) | refine sy_ldAll (h := ?_) | refine sy_pick_t (h := ?_) | refine sy_pick_f (h := ?_) | refine sy_not (h := ?_) | refine sy_lss (h := ?_) | refine sy_leq (h := ?_) | refine sy_gtr (h := ?_) | refine sy_slen (h := ?_) | refine sy_len (h := ?_) | refine sy_add (h := ?_) | refine sy_sub (h := ?_) | refine sw_skipT (h := ?_) | refine sw_skipF (h := ?_) | refine sw_skipU (h := ?_) | refine cw_cond_t (ht := ?_) | refine cw_cond_f (hf := ?_) | apply cw_skip | apply cw_block | apply cw_ret | apply cw_exit | refine sy_arrA (h := ?_) | refine sy_strI (h := ?_) | ((fail_if_success (refine sw_chk (h := ?_))); refine sw_guard (ht := ?_) (hf := ?_); all_goals (intro hx_; first | have := of_decide_eq_true hx_ | have := of_decide_eq_false hx_ | skip)) | (refine cw_cond (ht := ?_) (hf := ?_); all_goals (intro hx_; first | have := of_decide_eq_true hx_ | have := of_decide_eq_false hx_ | skip)))
  · simp only [*] at *
    (all_goals (apply ends_ret; apply res_tmp; rfl; rfl)); all_goals first | rfl | (simp only [isIds, *, decide_true, decide_false, cond_true, cond_false, Bool.and_true, Bool.true_and, Bool.and_false, Bool.false_and, Bool.not_true, Bool.not_false, Bool.or_true, Bool.true_or, Bool.or_false, Bool.false_or]; done) | (simp_all [isIds]; done)
  refine cw_loop (ι := Upto l.length (badIds l)) (fun i => ⟨[(0, s.v), (8, s.v), (9, .int .i64 s.n), (10, .int .i64 i.k)], [], fun w => Strs w s l⟩) (fun i => l.length - i.k) (Upto.zero _ _) (ok_sub ⟨rfl, rfl, rfl, rfl, trivial⟩ (List.Sublist.refl _) fun _ h => h) fun i => ?_
  have hik := i.hk
  repeat' (first | apply sw_nil | apply cw_seq | apply cw_reg | refine sy_move (h := ?_) | refine sy_assign (h := ?_) | refine sy_ld (h := ?_) | refine sy_ldAll (h := ?_) | refine sy_pick_t (h := ?_) | refine sy_pick_f (h := ?_) | refine sy_not (h := ?_) | refine sy_lss (h := ?_) | refine sy_leq (h := ?_) | refine sy_gtr (h := ?_) | refine sy_slen (h := ?_) | refine sy_len (h := ?_) | refine sy_add (h := ?_) | refine sy_sub (h := ?_) | refine sw_skipT (h := ?_) | refine sw_skipF (h := ?_) | refine sw_skipU (h := ?_) | refine cw_cond_t (ht := ?_) | refine cw_cond_f (hf := ?_) | apply cw_skip | apply cw_block | apply cw_ret | apply cw_exit | refine sy_arrA (h := ?_) | refine sy_strI (h := ?_) | refine sw_pu (hc := right_pu _) (h := ?_) | ((fail_if_success (refine sw_chk (h := ?_))); refine sw_guard (ht := ?_) (hf := ?_); all_goals (intro hx_; first | have := of_decide_eq_true hx_ | have := of_decide_eq_false hx_ | skip)) | (refine cw_cond (ht := ?_) (hf := ?_); all_goals (intro hx_; first | have := of_decide_eq_true hx_ | have := of_decide_eq_false hx_ | skip)))
  · have hlt : i.k < l.length := by omega
    have hp' := hp (by omega)
    repeat' (first | apply sw_nil | apply cw_seq | apply cw_reg | refine sy_move (h := ?_) | refine sy_assign (h := ?_) | refine sy_ld (h := ?_) | refine sy_ldAll (h := ?_) | refine sy_pick_t (h := ?_) | refine sy_pick_f (h := ?_) | refine sy_not (h := ?_) | refine sy_lss (h := ?_) | refine sy_leq (h := ?_) | refine sy_gtr (h := ?_) | refine sy_slen (h := ?_) | refine sy_len (h := ?_) | refine sy_add (h := ?_) | refine sy_sub (h := ?_) | refine sw_skipT (h := ?_) | refine sw_skipF (h := ?_) | refine sw_skipU (h := ?_) | refine cw_cond_t (ht := ?_) | refine cw_cond_f (hf := ?_) | apply cw_skip | apply cw_block | apply cw_ret | apply cw_exit | refine sy_arrA (h := ?_) | refine sy_strI (h := ?_) | refine sw_pu (hc := right_pu _) (h := ?_) | (refine sy_idxX (q := i.k) (h := ?_)) | (refine sy_idxX (q := i.k - 1) (h := ?_)) | (refine sy_ldX (hF := fun w h => Strs.get h hlt) (h := ?_)) | (refine sy_ldX (hF := fun w h => Strs.get h (by omega : i.k - 1 < l.length)) (h := ?_)) | (refine sy_sleq (h := ?_)) | ((fail_if_success (refine sw_chk (h := ?_))); refine sw_guard (ht := ?_) (hf := ?_); all_goals (intro hx_; first | have := of_decide_eq_true hx_ | have := of_decide_eq_false hx_ | skip)) | (refine cw_cond (ht := ?_) (hf := ?_); all_goals (intro hx_; first | have := of_decide_eq_true hx_ | have := of_decide_eq_false hx_ | skip)))
    all_goals first
      | (apply ends_ret; apply res_tmp; rfl; rfl; rw [isIds, allB_false hlt (by simp only [badIds, *, decide_true, decide_false, cond_true, cond_false, Bool.and_true, Bool.true_and, Bool.and_false, Bool.false_and, Bool.not_true, Bool.not_false, Bool.or_true, Bool.true_or, Bool.or_false, Bool.false_or]), Bool.and_false])
      | exact ⟨i.next hlt (by simp only [badIds, *, decide_true, decide_false, cond_true, cond_false, Bool.and_true, Bool.true_and, Bool.and_false, Bool.false_and, Bool.not_true, Bool.not_false, Bool.or_true, Bool.true_or, Bool.or_false, Bool.false_or]), (by show l.length - (i.k + 1) < l.length - i.k; omega), ok_sub ⟨rfl, rfl, rfl, rfl, trivial⟩ (List.Sublist.refl _) fun _ h => h⟩
      | skip
  · apply ends_ret; apply res_tmp; rfl; rfl
    rw [isIds, i.all (by omega)]
    simp only [← hl, ‹decide (64 < (s.n : Int)) = false›, decide_true, decide_false, cond_true, cond_false, Bool.and_true, Bool.true_and, Bool.and_false, Bool.false_and, Bool.not_true, Bool.not_false, Bool.or_true, Bool.true_or, Bool.or_false, Bool.false_or]
end Go.Proofs.YtlankpiogfhblaaGreatDoor

/- Contracts: package act, what an activity has to be. -/
set_option linter.unusedVariables false
set_option linter.unusedSimpArgs false
namespace Go.Proofs.YtlankpiogfhblaaGreatDoor
open Go Go.Proofs Sy

theorem y_build0 {N : Nat} {av bor : List Nat} {w0 : World} {E : Env} {loc : List Res} {X : World → Prop} {ty : TypeId} : Sy.Yields Tryz.prog N av bor w0 ⟨E, loc, X⟩ (.build 42 #[]) ty BoxD.zero.v := Sy.Yields.mk fun a w ok d pos af g => by
  simp [execOp, Instr.build, run_zero (TyZero.out (P := Tryz.prog) (t := 42)), run_underlying Tryz.underlying42, Instr.fill, Value.cells, BoxD.zero, BoxD.v, BoxD.cells, run_sizeOf]
def boxEq (a b : BoxD) : Bool := seqB a.nonce b.nonce && seqB a.data b.data && seqB a.tag b.tag
theorem box_fields : Tryz.prog.underlying 42 = some (.struct (Tryz.prog.fieldsOf 42)) := by kernel_rfl
theorem box_stood : Tryz.prog.stoodInHeld 42 = false := by kernel_rfl
theorem box_guard : Tryz.prog.eqGuardType Tryz.prog.depth 42 = false := by kernel_rfl
theorem run_boxEq (w : World) (a b : BoxD) : (Op.equalIn 10000 42 a.v b.v).run Tryz.prog w = .ok (boxEq a b) w := by
  have e : (10000 : Nat) = 9999 + 1 := rfl
  have e2 : (9999 : Nat) = 9998 + 1 := rfl
  rw [BoxD.v, BoxD.v, e, run_equalIn_agg _ _ _ _ _ box_fields box_stood]
  have hf : (Tryz.prog.fieldsOf 42).toList.map (fun f => (f.name, f.type, f.offset)) = [("Nonce", 9, 0), ("Data", 9, 1), ("Tag", 9, 2)] := by kernel_rfl
  generalize (Tryz.prog.fieldsOf 42).toList = l at hf
  rcases l with _ | ⟨f1, _ | ⟨f2, _ | ⟨f3, _ | ⟨f4, l⟩⟩⟩⟩
  case cons.cons.cons.nil =>
    simp only [List.map_cons, List.map_nil, List.cons.injEq, Prod.mk.injEq, and_true] at hf
    obtain ⟨⟨n1, t1, o1⟩, ⟨n2, t2, o2⟩, n3, t3, o3⟩ := hf
    have hag := fun w => (oneCell_spec (TyOne.out (P := Tryz.prog) (t := 9)) w).1
    have hst := fun (x y : ByteArray) (w : World) => run_equalIn_string (P := Tryz.prog) w 9998 9 x y TyStr.out
    cases h1 : seqB a.nonce b.nonce <;> cases h2 : seqB a.data b.data <;> cases h3 : seqB a.tag b.tag <;>
    · simp only [seqB] at h1 h2 h3
      simp [Op.eqFields, n1, n2, n3, t1, t2, t3, o1, o2, o3, part, hag, BoxD.cells, e2, hst, h1, h2, h3, boxEq, seqB]
  all_goals (have := congrArg List.length hf; simp at this)
theorem y_boxEq {N : Nat} {av bor : List Nat} {w0 : World} {E : Env} {loc : List Res} {X : World → Prop} {ty t2 : TypeId} {x y : Operand} {a b : BoxD} (hx : ev E x = some a.v) (hy : ev E y = some b.v) :
    Sy.Yields Tryz.prog N av bor w0 ⟨E, loc, X⟩ (.binOp .eql 42 x y t2) ty (.bool (boxEq a b)) := Sy.Yields.mk fun A w ok d pos af g => by
  have h1 := run_eql_struct (P := Tryz.prog) w 42 a.cells.toArray b.cells.toArray
  have h2 := run_boxEq w a b
  simp only [BoxD.v] at h2
  rw [h2] at h1
  simp [execOp, ok.eval (st := ⟨E, loc, X⟩) hx, ok.eval (st := ⟨E, loc, X⟩) hy, BoxD.v, run_eqGuard_agg _ _ _ _ _ _ _ box_guard, h1]
section
variable {N : Nat} {av bor : List Nat} {w0 : World} {ops : Array Oper} {rest : List Oper} {kk : St → Prop} {E : Env} {loc : List Res} {X : World → Prop} {n : Nat} {ty t2 : TypeId} {pos : String} {af : Array Edge} {g : Option (Nat × Bool)} {bb want : Bool} {x y : Operand} {a b : BoxD}
theorem sy_build0 (hg : gdB ops E g = some (bb, want) := by rfl) (hbb : bb = want := by (first | with_reducible rfl | with_reducible assumption | with_reducible exact Bool.not_false | with_reducible exact Bool.not_true)) (hd : Nat.blt n N = true := by rfl) (h : Sw Tryz.prog N av bor w0 ops rest ⟨(n, BoxD.zero.v) :: E, loc, X⟩ kk) :
    Sw Tryz.prog N av bor w0 ops (⟨some n, .build 42 #[], ty, pos, af, g⟩ :: rest) ⟨E, loc, X⟩ kk := sw_yield y_build0 hg hbb hd h
theorem sy_boxEq (hx : ev E x = some a.v := by rfl) (hy : ev E y = some b.v := by rfl) (hg : gdB ops E g = some (bb, want) := by rfl) (hbb : bb = want := by (first | with_reducible rfl | with_reducible assumption | with_reducible exact Bool.not_false | with_reducible exact Bool.not_true)) (hd : Nat.blt n N = true := by rfl) (h : Sw Tryz.prog N av bor w0 ops rest ⟨(n, .bool (boxEq a b)) :: E, loc, X⟩ kk) :
    Sw Tryz.prog N av bor w0 ops (⟨some n, .binOp .eql 42 x y t2, ty, pos, af, g⟩ :: rest) ⟨E, loc, X⟩ kk := sw_yield (y_boxEq hx hy) hg hbb hd h
end
def withinB (n l h : Int) : Bool := decide (l ≤ n) && decide (n ≤ h)
theorem within_pu (n l h : Int) : Pu Tryz.prog 71 #[.int .i64 n, .int .i64 l, .int .i64 h] (fun _ => True) (.bool (withinB n l h)) := by
  refine pu_of_cw (args := [_, _, _]) _ Tryz.func71 rfl Tryz.ntmps71 rfl fun av bor w0 => ?_
  repeat' (first | apply sw_nil | apply cw_seq | apply cw_reg | refine sy_move (h := ?_) | refine sy_assign (h := ?_) | refine sy_pick_t (h := ?_) | refine sy_pick_f (h := ?_) | refine sy_leq (h := ?_) | refine sw_skipT (h := ?_) | refine sw_skipF (h := ?_) | refine sw_skipU (h := ?_) | refine cw_cond_t (ht := ?_) | refine cw_cond_f (hf := ?_) | apply cw_skip | apply cw_block | apply cw_ret | apply cw_exit | refine sy_arrA (h := ?_) | refine sy_strI (h := ?_) | ((fail_if_success (refine sw_chk (h := ?_))); refine sw_guard (ht := ?_) (hf := ?_); all_goals (intro hx_; first | have := of_decide_eq_true hx_ | have := of_decide_eq_false hx_ | skip)) | (refine cw_cond (ht := ?_) (hf := ?_); all_goals (intro hx_; first | have := of_decide_eq_true hx_ | have := of_decide_eq_false hx_ | skip)))
  (all_goals (apply ends_ret; apply res_tmp; rfl; rfl)); all_goals first | rfl | (simp only [withinB, *, decide_true, decide_false, cond_true, cond_false, Bool.and_true, Bool.true_and, Bool.and_false, Bool.false_and, Bool.not_true, Bool.not_false, Bool.or_true, Bool.true_or, Bool.or_false, Bool.false_or]; done) | (simp_all [withinB]; done)
def isDigestB (s : ByteArray) : Bool := decide ((s.size : Int) = 32)
theorem isDigest_pu (s : ByteArray) : Pu Tryz.prog 100 #[.string s] (fun _ => True) (.bool (isDigestB s)) := by
  refine pu_of_cw (args := [_]) _ Tryz.func100 rfl Tryz.ntmps100 rfl fun av bor w0 => ?_
  repeat' (first | apply sw_nil | apply cw_seq | apply cw_reg | refine sy_move (h := ?_) | refine sy_assign (h := ?_) | refine sy_eql (h := ?_) | refine sy_seql (h := ?_) | refine sy_slen (h := ?_) | refine sy_len (h := ?_) | refine cw_cond_t (ht := ?_) | refine cw_cond_f (hf := ?_) | apply cw_skip | apply cw_block | apply cw_ret | apply cw_exit | refine sy_beql (h := ?_) | refine sy_arrA (h := ?_) | refine sy_strI (h := ?_) | (refine cw_cond (ht := ?_) (hf := ?_); all_goals (intro hx_; first | have := of_decide_eq_true hx_ | have := of_decide_eq_false hx_ | skip)))
  (all_goals (apply ends_ret; apply res_tmp; rfl; rfl)); all_goals first | rfl | (simp only [isDigestB, *, decide_true, decide_false, cond_true, cond_false, Bool.and_true, Bool.true_and, Bool.and_false, Bool.false_and, Bool.not_true, Bool.not_false, Bool.or_true, Bool.true_or, Bool.or_false, Bool.false_or]; done) | (simp_all [isDigestB]; done)
def isShortB (s : ByteArray) : Bool := decide ((s.size : Int) ≤ 500)
theorem isShort_pu (s : ByteArray) : Pu Tryz.prog 106 #[.string s] (fun _ => True) (.bool (isShortB s)) := by
  refine pu_of_cw (args := [_]) _ Tryz.func106 rfl Tryz.ntmps106 rfl fun av bor w0 => ?_
  repeat' (first | apply sw_nil | apply cw_seq | apply cw_reg | refine sy_move (h := ?_) | refine sy_assign (h := ?_) | refine sy_leq (h := ?_) | refine sy_slen (h := ?_) | refine sy_len (h := ?_) | refine cw_cond_t (ht := ?_) | refine cw_cond_f (hf := ?_) | apply cw_skip | apply cw_block | apply cw_ret | apply cw_exit | refine sy_arrA (h := ?_) | refine sy_strI (h := ?_) | (refine cw_cond (ht := ?_) (hf := ?_); all_goals (intro hx_; first | have := of_decide_eq_true hx_ | have := of_decide_eq_false hx_ | skip)))
  (all_goals (apply ends_ret; apply res_tmp; rfl; rfl)); all_goals first | rfl | (simp only [isShortB, *, decide_true, decide_false, cond_true, cond_false, Bool.and_true, Bool.true_and, Bool.and_false, Bool.false_and, Bool.not_true, Bool.not_false, Bool.or_true, Bool.true_or, Bool.or_false, Bool.false_or]; done) | (simp_all [isShortB]; done)
def isPublicB (n : Int) : Bool := withinB n 1 2305843009213693950
theorem isPublic_pu (n : Int) : Pu Tryz.prog 127 #[.int .i64 n] (fun _ => True) (.bool (isPublicB n)) := by
  refine pu_of_cw (args := [_]) _ Tryz.func127 rfl Tryz.ntmps127 rfl fun av bor w0 => ?_
  repeat' (first | apply sw_nil | apply cw_seq | apply cw_reg | refine sy_move (h := ?_) | refine sy_assign (h := ?_) | refine cw_cond_t (ht := ?_) | refine cw_cond_f (hf := ?_) | apply cw_skip | apply cw_block | apply cw_ret | apply cw_exit | refine sy_arrA (h := ?_) | refine sy_strI (h := ?_) | refine sw_pu (hc := within_pu _ _ _) (h := ?_) | (refine cw_cond (ht := ?_) (hf := ?_); all_goals (intro hx_; first | have := of_decide_eq_true hx_ | have := of_decide_eq_false hx_ | skip)))
  (all_goals (apply ends_ret; apply res_tmp; rfl; rfl)); all_goals first | rfl | (simp only [isPublicB, *, decide_true, decide_false, cond_true, cond_false, Bool.and_true, Bool.true_and, Bool.and_false, Bool.false_and, Bool.not_true, Bool.not_false, Bool.or_true, Bool.true_or, Bool.or_false, Bool.false_or]; done) | (simp_all [isPublicB]; done)
def isSealedB (b : BoxD) : Bool := decide ((b.nonce.size : Int) = 32) && decide ((b.tag.size : Int) = 16) && isShortB b.data
theorem isSealed_pu (b : BoxD) : Pu Tryz.prog 126 #[b.v] (fun _ => True) (.bool (isSealedB b)) := by
  refine pu_of_cw (args := [_]) _ Tryz.func126 rfl Tryz.ntmps126 rfl fun av bor w0 => ?_
  repeat' (first | apply sw_nil | apply cw_seq | apply cw_reg | refine sy_move (h := ?_) | refine sy_assign (h := ?_) | refine sy_fld (h := ?_) | refine sy_ld (h := ?_) | refine sy_ldAll (h := ?_) | refine sy_pick_t (h := ?_) | refine sy_pick_f (h := ?_) | refine sy_eql (h := ?_) | refine sy_seql (h := ?_) | refine sy_slen (h := ?_) | refine sy_len (h := ?_) | refine sw_skipT (h := ?_) | refine sw_skipF (h := ?_) | refine sw_skipU (h := ?_) | refine sw_box (h := fun _ => ?_) | refine cw_cond_t (ht := ?_) | refine cw_cond_f (hf := ?_) | apply cw_skip | apply cw_block | apply cw_ret | apply cw_exit | refine sy_beql (h := ?_) | refine sy_arrA (h := ?_) | refine sy_strI (h := ?_) | refine sw_pu (hc := isShort_pu _) (h := ?_) | ((fail_if_success (refine sw_chk (h := ?_))); refine sw_guard (ht := ?_) (hf := ?_); all_goals (intro hx_; first | have := of_decide_eq_true hx_ | have := of_decide_eq_false hx_ | skip)) | (refine cw_cond (ht := ?_) (hf := ?_); all_goals (intro hx_; first | have := of_decide_eq_true hx_ | have := of_decide_eq_false hx_ | skip)))
  (all_goals (apply ends_ret; apply res_tmp; rfl; rfl)); all_goals first | rfl | (simp only [isSealedB, *, decide_true, decide_false, cond_true, cond_false, Bool.and_true, Bool.true_and, Bool.and_false, Bool.false_and, Bool.not_true, Bool.not_false, Bool.or_true, Bool.true_or, Bool.or_false, Bool.false_or]; done) | (simp_all [isSealedB]; done)
def sealedScopeB (scope : Int) (group : ByteArray) : Bool := bif decide (scope = 2) then isName group else bif decide (scope = 1) then seqB group ⟨#[]⟩ else bif decide (scope = 3) then seqB group ⟨#[]⟩ else false
theorem sealedScope_pu (scope : Int) (group : ByteArray) : Pu Tryz.prog 125 #[.int .i64 scope, .string group] (fun _ => True) (.bool (sealedScopeB scope group)) := by
  refine pu_of_cw (args := [_, _]) _ Tryz.func125 rfl Tryz.ntmps125 rfl fun av bor w0 => ?_
  repeat' (first | apply sw_nil | apply cw_seq | apply cw_reg | refine sy_move (h := ?_) | refine sy_assign (h := ?_) | refine sy_eql (h := ?_) | refine sy_seql (h := ?_) | refine cw_cond_t (ht := ?_) | refine cw_cond_f (hf := ?_) | apply cw_skip | apply cw_block | apply cw_ret | apply cw_exit | refine sy_beql (h := ?_) | refine sy_arrA (h := ?_) | refine sy_strI (h := ?_) | refine sw_pu (hc := name_pu _) (h := ?_) | (refine cw_cond (ht := ?_) (hf := ?_); all_goals (intro hx_; first | have := of_decide_eq_true hx_ | have := of_decide_eq_false hx_ | skip)))
  (all_goals (apply ends_ret; apply res_tmp; rfl; rfl)); all_goals first | rfl | (simp only [sealedScopeB, *, decide_true, decide_false, cond_true, cond_false, Bool.and_true, Bool.true_and, Bool.and_false, Bool.false_and, Bool.not_true, Bool.not_false, Bool.or_true, Bool.true_or, Bool.or_false, Bool.false_or]; done) | (simp_all [sealedScopeB]; done)
def placedB (a : ActD) : Bool := bif decide (a.seq = 0) then decide (a.kind = 0) && seqB a.prev ⟨#[]⟩ else withinB a.seq 1 1073741824 && !decide (a.kind = 0) && isDigestB a.prev
theorem placed_pu (a : ActD) : Pu Tryz.prog 70 #[a.v] (fun _ => True) (.bool (placedB a)) := by
  refine pu_of_cw (args := [_]) _ Tryz.func70 rfl Tryz.ntmps70 rfl fun av bor w0 => ?_
  repeat' (first | apply sw_nil | apply cw_seq | apply cw_reg | refine sy_move (h := ?_) | refine sy_assign (h := ?_) | refine sy_fld (h := ?_) | refine sy_ld (h := ?_) | refine sy_ldAll (h := ?_) | refine sy_pick_t (h := ?_) | refine sy_pick_f (h := ?_) | refine sy_eql (h := ?_) | refine sy_neq (h := ?_) | refine sy_seql (h := ?_) | refine sy_sneq (h := ?_) | refine sw_skipT (h := ?_) | refine sw_skipF (h := ?_) | refine sw_skipU (h := ?_) | refine sw_box (h := fun _ => ?_) | refine cw_cond_t (ht := ?_) | refine cw_cond_f (hf := ?_) | apply cw_skip | apply cw_block | apply cw_ret | apply cw_exit | refine sy_beql (h := ?_) | refine sy_bneq (h := ?_) | refine sy_arrA (h := ?_) | refine sy_strI (h := ?_) | refine sw_pu (hc := within_pu _ _ _) (h := ?_) | refine sw_pu (hc := isDigest_pu _) (h := ?_) | ((fail_if_success (refine sw_chk (h := ?_))); refine sw_guard (ht := ?_) (hf := ?_); all_goals (intro hx_; first | have := of_decide_eq_true hx_ | have := of_decide_eq_false hx_ | skip)) | (refine cw_cond (ht := ?_) (hf := ?_); all_goals (intro hx_; first | have := of_decide_eq_true hx_ | have := of_decide_eq_false hx_ | skip)))
  (all_goals (apply ends_ret; apply res_tmp; rfl; rfl)); all_goals first | rfl | (simp only [placedB, *, decide_true, decide_false, cond_true, cond_false, Bool.and_true, Bool.true_and, Bool.and_false, Bool.false_and, Bool.not_true, Bool.not_false, Bool.or_true, Bool.true_or, Bool.or_false, Bool.false_or]; done) | (simp_all [placedB]; done)
def objectB (a : ActD) : Bool := isDigestB a.object
theorem object_pu (a : ActD) : Pu Tryz.prog 102 #[a.v] (fun _ => True) (.bool (objectB a)) := by
  refine pu_of_cw (args := [_]) _ Tryz.func102 rfl Tryz.ntmps102 rfl fun av bor w0 => ?_
  repeat' (first | apply sw_nil | apply cw_seq | apply cw_reg | refine sy_move (h := ?_) | refine sy_assign (h := ?_) | refine sy_fld (h := ?_) | refine sy_ld (h := ?_) | refine sy_ldAll (h := ?_) | refine sw_box (h := fun _ => ?_) | refine cw_cond_t (ht := ?_) | refine cw_cond_f (hf := ?_) | apply cw_skip | apply cw_block | apply cw_ret | apply cw_exit | refine sy_arrA (h := ?_) | refine sy_strI (h := ?_) | refine sw_pu (hc := isDigest_pu _) (h := ?_) | (refine cw_cond (ht := ?_) (hf := ?_); all_goals (intro hx_; first | have := of_decide_eq_true hx_ | have := of_decide_eq_false hx_ | skip)))
  (all_goals (apply ends_ret; apply res_tmp; rfl; rfl)); all_goals first | rfl | (simp only [objectB, *, decide_true, decide_false, cond_true, cond_false, Bool.and_true, Bool.true_and, Bool.and_false, Bool.false_and, Bool.not_true, Bool.not_false, Bool.or_true, Bool.true_or, Bool.or_false, Bool.false_or]; done) | (simp_all [objectB]; done)
def targetB (a : ActD) : Bool := isId a.target
theorem target_pu (a : ActD) : Pu Tryz.prog 104 #[a.v] (fun _ => True) (.bool (targetB a)) := by
  refine pu_of_cw (args := [_]) _ Tryz.func104 rfl Tryz.ntmps104 rfl fun av bor w0 => ?_
  repeat' (first | apply sw_nil | apply cw_seq | apply cw_reg | refine sy_move (h := ?_) | refine sy_assign (h := ?_) | refine sy_fld (h := ?_) | refine sy_ld (h := ?_) | refine sy_ldAll (h := ?_) | refine sw_box (h := fun _ => ?_) | refine cw_cond_t (ht := ?_) | refine cw_cond_f (hf := ?_) | apply cw_skip | apply cw_block | apply cw_ret | apply cw_exit | refine sy_arrA (h := ?_) | refine sy_strI (h := ?_) | refine sw_pu (hc := right_pu _) (h := ?_) | (refine cw_cond (ht := ?_) (hf := ?_); all_goals (intro hx_; first | have := of_decide_eq_true hx_ | have := of_decide_eq_false hx_ | skip)))
  (all_goals (apply ends_ret; apply res_tmp; rfl; rfl)); all_goals first | rfl | (simp only [targetB, *, decide_true, decide_false, cond_true, cond_false, Bool.and_true, Bool.true_and, Bool.and_false, Bool.false_and, Bool.not_true, Bool.not_false, Bool.or_true, Bool.true_or, Bool.or_false, Bool.false_or]; done) | (simp_all [targetB]; done)
def homeB (a : ActD) : Bool := isPublicB a.n && withinB a.m 0 19
theorem home_pu (a : ActD) : Pu Tryz.prog 109 #[a.v] (fun _ => True) (.bool (homeB a)) := by
  refine pu_of_cw (args := [_]) _ Tryz.func109 rfl Tryz.ntmps109 rfl fun av bor w0 => ?_
  repeat' (first | apply sw_nil | apply cw_seq | apply cw_reg | refine sy_move (h := ?_) | refine sy_assign (h := ?_) | refine sy_fld (h := ?_) | refine sy_ld (h := ?_) | refine sy_ldAll (h := ?_) | refine sy_pick_t (h := ?_) | refine sy_pick_f (h := ?_) | refine sw_skipT (h := ?_) | refine sw_skipF (h := ?_) | refine sw_skipU (h := ?_) | refine sw_box (h := fun _ => ?_) | refine cw_cond_t (ht := ?_) | refine cw_cond_f (hf := ?_) | apply cw_skip | apply cw_block | apply cw_ret | apply cw_exit | refine sy_arrA (h := ?_) | refine sy_strI (h := ?_) | refine sw_pu (hc := isPublic_pu _) (h := ?_) | refine sw_pu (hc := within_pu _ _ _) (h := ?_) | ((fail_if_success (refine sw_chk (h := ?_))); refine sw_guard (ht := ?_) (hf := ?_); all_goals (intro hx_; first | have := of_decide_eq_true hx_ | have := of_decide_eq_false hx_ | skip)) | (refine cw_cond (ht := ?_) (hf := ?_); all_goals (intro hx_; first | have := of_decide_eq_true hx_ | have := of_decide_eq_false hx_ | skip)))
  (all_goals (apply ends_ret; apply res_tmp; rfl; rfl)); all_goals first | rfl | (simp only [homeB, *, decide_true, decide_false, cond_true, cond_false, Bool.and_true, Bool.true_and, Bool.and_false, Bool.false_and, Bool.not_true, Bool.not_false, Bool.or_true, Bool.true_or, Bool.or_false, Bool.false_or]; done) | (simp_all [homeB]; done)
def labelB (a : ActD) : Bool := bif !isName a.text then false else objectB a && seqB a.target ⟨#[]⟩ || targetB a && seqB a.object ⟨#[]⟩
theorem label_pu (a : ActD) : Pu Tryz.prog 113 #[a.v] (fun _ => True) (.bool (labelB a)) := by
  refine pu_of_cw (args := [_]) _ Tryz.func113 rfl Tryz.ntmps113 rfl fun av bor w0 => ?_
  repeat' (first | apply sw_nil | apply cw_seq | apply cw_reg | refine sy_move (h := ?_) | refine sy_assign (h := ?_) | refine sy_fld (h := ?_) | refine sy_ld (h := ?_) | refine sy_ldAll (h := ?_) | refine sy_pick_t (h := ?_) | refine sy_pick_f (h := ?_) | refine sy_not (h := ?_) | refine sy_eql (h := ?_) | refine sy_seql (h := ?_) | refine sw_skipT (h := ?_) | refine sw_skipF (h := ?_) | refine sw_skipU (h := ?_) | refine sw_box (h := fun _ => ?_) | refine cw_cond_t (ht := ?_) | refine cw_cond_f (hf := ?_) | apply cw_skip | apply cw_block | apply cw_ret | apply cw_exit | refine sy_beql (h := ?_) | refine sy_arrA (h := ?_) | refine sy_strI (h := ?_) | refine sw_pu (hc := name_pu _) (h := ?_) | refine sw_pu (hc := object_pu a) (h := ?_) | refine sw_pu (hc := target_pu a) (h := ?_) | ((fail_if_success (refine sw_chk (h := ?_))); refine sw_guard (ht := ?_) (hf := ?_); all_goals (intro hx_; first | have := of_decide_eq_true hx_ | have := of_decide_eq_false hx_ | skip)) | (refine cw_cond (ht := ?_) (hf := ?_); all_goals (intro hx_; first | have := of_decide_eq_true hx_ | have := of_decide_eq_false hx_ | skip)))
  (all_goals (apply ends_ret; apply res_tmp; rfl; rfl)); all_goals first | rfl | (simp only [labelB, *, decide_true, decide_false, cond_true, cond_false, Bool.and_true, Bool.true_and, Bool.and_false, Bool.false_and, Bool.not_true, Bool.not_false, Bool.or_true, Bool.true_or, Bool.or_false, Bool.false_or]; done) | (simp_all [labelB]; done)
def audienceB (a : ActD) : Bool := bif !isIds a.toL then false else bif decide (a.scope = 0) then seqB a.group ⟨#[]⟩ && decide (a.epoch = 0) && isShortB a.text && boxEq a.body BoxD.zero
  else bif decide (0 < (a.to.n : Int)) && !decide (a.scope = 3) then false else sealedScopeB a.scope a.group && withinB a.epoch 0 1073741824 && seqB a.text ⟨#[]⟩ && isSealedB a.body
theorem audience_pu (a : ActD) : Pu Tryz.prog 103 #[a.v] (ActD.at_ · a) (.bool (audienceB a)) := by
  refine pu_of_cw (args := [_]) _ Tryz.func103 rfl Tryz.ntmps103 rfl fun av bor w0 => ?_
  repeat' (first | apply sw_nil | apply cw_seq | apply cw_reg | refine sy_move (h := ?_) | refine sy_assign (h := ?_) | refine sy_fld (h := ?_) | refine sy_ld (h := ?_) | refine sy_ldAll (h := ?_) | refine sy_pick_t (h := ?_) | refine sy_pick_f (h := ?_) | refine sy_not (h := ?_) | refine sy_eql (h := ?_) | refine sy_neq (h := ?_) | refine sy_gtr (h := ?_) | refine sy_seql (h := ?_) | refine sy_sneq (h := ?_) | refine sy_slen (h := ?_) | refine sy_len (h := ?_) | refine sw_skipT (h := ?_) | refine sw_skipF (h := ?_) | refine sw_skipU (h := ?_) | refine sw_box (h := fun _ => ?_) | refine cw_cond_t (ht := ?_) | refine cw_cond_f (hf := ?_) | apply cw_skip | apply cw_block | apply cw_ret | apply cw_exit | refine sy_beql (h := ?_) | refine sy_bneq (h := ?_) | refine sy_arrA (h := ?_) | refine sy_strI (h := ?_) | refine sw_pu (hc := ids_pu a.to a.toL) (h := ?_) | refine sw_pu (hc := isShort_pu _) (h := ?_) | refine sw_pu (hc := sealedScope_pu _ _) (h := ?_) | refine sw_pu (hc := within_pu _ _ _) (h := ?_) | refine sw_pu (hc := isSealed_pu a.body) (h := ?_) | (refine sy_build0 (h := ?_)) | (refine sy_boxEq (h := ?_)) | (refine sy_ldSub (h := ?_)) | ((fail_if_success (refine sw_chk (h := ?_))); refine sw_guard (ht := ?_) (hf := ?_); all_goals (intro hx_; first | have := of_decide_eq_true hx_ | have := of_decide_eq_false hx_ | skip)) | (refine cw_cond (ht := ?_) (hf := ?_); all_goals (intro hx_; first | have := of_decide_eq_true hx_ | have := of_decide_eq_false hx_ | skip)))
  (all_goals (apply ends_ret; apply res_tmp; rfl; rfl)); all_goals first | rfl | (simp only [audienceB, *, decide_true, decide_false, cond_true, cond_false, Bool.and_true, Bool.true_and, Bool.and_false, Bool.false_and, Bool.not_true, Bool.not_false, Bool.or_true, Bool.true_or, Bool.or_false, Bool.false_or]; done) | (simp_all [audienceB]; done)
end Go.Proofs.YtlankpiogfhblaaGreatDoor

/- Contracts: package act, wraps and the rules' own functions. -/
set_option linter.unusedVariables false
set_option linter.unusedSimpArgs false
namespace Go.Proofs.YtlankpiogfhblaaGreatDoor
open Go Go.Proofs Sy

def badW (l : List WrapD) (k : Nat) : Bool :=
  match l[k]? with
  | some x => !isPublicB x.to || (!isPublicB x.eph || !isSealedB x.box)
  | none => false
theorem badW_at {l : List WrapD} {k : Nat} {x : WrapD} (h : l[k]? = some x) : badW l k = (!isPublicB x.to || (!isPublicB x.eph || !isSealedB x.box)) := by simp only [badW, h]
def wrappedB (a : ActD) : Bool := allB a.wrapsL.length (badW a.wrapsL) && decide ((a.wraps.n : Int) = (a.to.n : Int))
theorem wrapped_pu (a : ActD) : Pu Tryz.prog 128 #[a.v] (ActD.at_ · a) (.bool (wrappedB a)) := by
  refine pu_of_cw (args := [_]) _ Tryz.func128 rfl Tryz.ntmps128 rfl fun av bor w0 => ?_
  refine cw_know (p := a.wraps.n = a.wrapsL.length ∧ a.wraps.n ≤ maxLen ∧ (0 < a.wrapsL.length → a.wraps.p.isSome = true)) (fun w h => ⟨h.2.len_, Nat.le_trans (RowsD.cap h.2) (RowsD.max h.2), h.2.some_⟩) fun ⟨hl, hm, hp⟩ => ?_
  simp only [maxLen] at hm
  repeat' (first | apply sw_nil | apply cw_seq | apply cw_reg | refine sy_move (h := ?_) | refine sy_assign (h := ?_) | refine sy_fld (h := ?_) | refine sy_ld (h := ?_) | refine sy_ldAll (h := ?_) | refine sy_pick_t (h := ?_) | refine sy_pick_f (h := ?_) | refine sy_not (h := ?_) | refine sy_eql (h := ?_) | refine sy_lss (h := ?_) | refine sy_seql (h := ?_) | refine sy_slen (h := ?_) | refine sy_len (h := ?_) | refine sy_add (h := ?_) | refine sw_skipT (h := ?_) | refine sw_skipF (h := ?_) | refine sw_skipU (h := ?_) | refine sw_alloc (h := fun _ => ?_) | refine sw_box (h := fun _ => ?_) | refine sw_st1 (h := ?_) | refine sw_stAll (h := ?_) | refine cw_cond_t (ht := ?_) | refine cw_cond_f (hf := ?_) | apply cw_skip | apply cw_block | apply cw_ret | apply cw_exit | refine sy_beql (h := ?_) | refine sy_arrA (h := ?_) | refine sy_strI (h := ?_) | ((fail_if_success (refine sw_chk (h := ?_))); refine sw_guard (ht := ?_) (hf := ?_); all_goals (intro hx_; first | have := of_decide_eq_true hx_ | have := of_decide_eq_false hx_ | skip)) | (refine cw_cond (ht := ?_) (hf := ?_); all_goals (intro hx_; first | have := of_decide_eq_true hx_ | have := of_decide_eq_false hx_ | skip)))
  rename_i b
  refine cw_loop (ι := Upto a.wrapsL.length (badW a.wrapsL)) (fun i => ⟨[(1, .pointer (some ⟨b, 0, none⟩)), (6, a.wraps.v), (7, .int .i64 a.wraps.n), (8, .int .i64 i.k)], [cel b 47 a.cells], (ActD.at_ · a)⟩) (fun i => a.wrapsL.length - i.k) (Upto.zero _ _) (ok_sub ⟨rfl, rfl, rfl, rfl, trivial⟩ (List.Sublist.refl _) fun _ h => h) fun i => ?_
  have hik := i.hk
  repeat' (first | apply sw_nil | apply cw_seq | apply cw_reg | refine sy_move (h := ?_) | refine sy_assign (h := ?_) | refine sy_fld (h := ?_) | refine sy_ld (h := ?_) | refine sy_ldAll (h := ?_) | refine sy_pick_t (h := ?_) | refine sy_pick_f (h := ?_) | refine sy_not (h := ?_) | refine sy_eql (h := ?_) | refine sy_lss (h := ?_) | refine sy_seql (h := ?_) | refine sy_slen (h := ?_) | refine sy_len (h := ?_) | refine sy_add (h := ?_) | refine sw_skipT (h := ?_) | refine sw_skipF (h := ?_) | refine sw_skipU (h := ?_) | refine sw_alloc (h := fun _ => ?_) | refine sw_box (h := fun _ => ?_) | refine sw_st1 (h := ?_) | refine sw_stAll (h := ?_) | refine cw_cond_t (ht := ?_) | refine cw_cond_f (hf := ?_) | apply cw_skip | apply cw_block | apply cw_ret | apply cw_exit | refine sy_beql (h := ?_) | refine sy_arrA (h := ?_) | refine sy_strI (h := ?_) | refine sw_pu (hc := within_pu _ _ _) (h := ?_) | ((fail_if_success (refine sw_chk (h := ?_))); refine sw_guard (ht := ?_) (hf := ?_); all_goals (intro hx_; first | have := of_decide_eq_true hx_ | have := of_decide_eq_false hx_ | skip)) | (refine cw_cond (ht := ?_) (hf := ?_); all_goals (intro hx_; first | have := of_decide_eq_true hx_ | have := of_decide_eq_false hx_ | skip)))
  · have hlt : i.k < a.wrapsL.length := by omega
    have hp' := hp (by omega)
    obtain ⟨x, hx⟩ : ∃ x, a.wrapsL[i.k]? = some x := ⟨_, List.getElem?_eq_getElem hlt⟩
    repeat' (first | apply sw_nil | apply cw_seq | apply cw_reg | refine sy_move (h := ?_) | refine sy_assign (h := ?_) | refine sy_fld (h := ?_) | refine sy_ld (h := ?_) | refine sy_ldAll (h := ?_) | refine sy_pick_t (h := ?_) | refine sy_pick_f (h := ?_) | refine sy_not (h := ?_) | refine sy_eql (h := ?_) | refine sy_lss (h := ?_) | refine sy_seql (h := ?_) | refine sy_slen (h := ?_) | refine sy_len (h := ?_) | refine sy_add (h := ?_) | refine sw_skipT (h := ?_) | refine sw_skipF (h := ?_) | refine sw_skipU (h := ?_) | refine sw_alloc (h := fun _ => ?_) | refine sw_box (h := fun _ => ?_) | refine sw_st1 (h := ?_) | refine sw_stAll (h := ?_) | refine cw_cond_t (ht := ?_) | refine cw_cond_f (hf := ?_) | apply cw_skip | apply cw_block | apply cw_ret | apply cw_exit | refine sy_beql (h := ?_) | refine sy_arrA (h := ?_) | refine sy_strI (h := ?_) | refine sw_pu (hc := isPublic_pu _) (h := ?_) | refine sw_pu (hc := isSealed_pu x.box) (h := ?_) | (refine sy_idxX (q := i.k * 5) (h := ?_)) | (refine sy_ldXs (cs := x.cells) (hF := fun w h => Wraps.get h.2 hx) (h := ?_)) | (refine sy_ldSub (h := ?_)) | ((fail_if_success (refine sw_chk (h := ?_))); refine sw_guard (ht := ?_) (hf := ?_); all_goals (intro hx_; first | have := of_decide_eq_true hx_ | have := of_decide_eq_false hx_ | skip)) | (refine cw_cond (ht := ?_) (hf := ?_); all_goals (intro hx_; first | have := of_decide_eq_true hx_ | have := of_decide_eq_false hx_ | skip)))
    all_goals first
      | (apply ends_ret; apply res_tmp; rfl; rfl; rw [wrappedB, allB_false hlt (by simp only [badW_at hx, *, decide_true, decide_false, cond_true, cond_false, Bool.and_true, Bool.true_and, Bool.and_false, Bool.false_and, Bool.not_true, Bool.not_false, Bool.or_true, Bool.true_or, Bool.or_false, Bool.false_or]), Bool.false_and])
      | exact ⟨i.next hlt (by simp only [badW_at hx, *, decide_true, decide_false, cond_true, cond_false, Bool.and_true, Bool.true_and, Bool.and_false, Bool.false_and, Bool.not_true, Bool.not_false, Bool.or_true, Bool.true_or, Bool.or_false, Bool.false_or]), (by show a.wrapsL.length - (i.k + 1) < a.wrapsL.length - i.k; omega), ok_sub ⟨rfl, rfl, rfl, rfl, trivial⟩ (List.Sublist.cons _ (List.Sublist.refl _)) fun _ h => h⟩
  · apply ends_ret; apply res_tmp; rfl; rfl
    rw [wrappedB, i.all (by omega), Bool.true_and]
def grantB (a : ActD) : Bool := sealedScopeB a.scope a.group && withinB a.epoch 0 1073741824 && isIds a.toL && wrappedB a
theorem grant_pu (a : ActD) : Pu Tryz.prog 112 #[a.v] (ActD.at_ · a) (.bool (grantB a)) := by
  refine pu_of_cw (args := [_]) _ Tryz.func112 rfl Tryz.ntmps112 rfl fun av bor w0 => ?_
  repeat' (first | apply sw_nil | apply cw_seq | apply cw_reg | refine sy_move (h := ?_) | refine sy_assign (h := ?_) | refine sy_fld (h := ?_) | refine sy_ld (h := ?_) | refine sy_ldAll (h := ?_) | refine sy_pick_t (h := ?_) | refine sy_pick_f (h := ?_) | refine sw_skipT (h := ?_) | refine sw_skipF (h := ?_) | refine sw_skipU (h := ?_) | refine sw_box (h := fun _ => ?_) | refine cw_cond_t (ht := ?_) | refine cw_cond_f (hf := ?_) | apply cw_skip | apply cw_block | apply cw_ret | apply cw_exit | refine sy_arrA (h := ?_) | refine sy_strI (h := ?_) | refine sw_pu (hc := sealedScope_pu _ _) (h := ?_) | refine sw_pu (hc := within_pu _ _ _) (h := ?_) | refine sw_pu (hc := ids_pu a.to a.toL) (h := ?_) | refine sw_pu (hc := wrapped_pu a) (h := ?_) | ((fail_if_success (refine sw_chk (h := ?_))); refine sw_guard (ht := ?_) (hf := ?_); all_goals (intro hx_; first | have := of_decide_eq_true hx_ | have := of_decide_eq_false hx_ | skip)) | (refine cw_cond (ht := ?_) (hf := ?_); all_goals (intro hx_; first | have := of_decide_eq_true hx_ | have := of_decide_eq_false hx_ | skip)))
  (all_goals (apply ends_ret; apply res_tmp; rfl; rfl)); all_goals first | rfl | (simp only [grantB, *, decide_true, decide_false, cond_true, cond_false, Bool.and_true, Bool.true_and, Bool.and_false, Bool.false_and, Bool.not_true, Bool.not_false, Bool.or_true, Bool.true_or, Bool.or_false, Bool.false_or]; done) | (simp_all [grantB]; done)
def setupB (a : ActD) : Bool := decide (0 < (a.to.n : Int)) && isIds a.toL && wrappedB a && withinB a.n 1 a.to.n && isPublicB a.m
theorem setup_pu (a : ActD) : Pu Tryz.prog 114 #[a.v] (ActD.at_ · a) (.bool (setupB a)) := by
  refine pu_of_cw (args := [_]) _ Tryz.func114 rfl Tryz.ntmps114 rfl fun av bor w0 => ?_
  repeat' (first | apply sw_nil | apply cw_seq | apply cw_reg | refine sy_move (h := ?_) | refine sy_assign (h := ?_) | refine sy_fld (h := ?_) | refine sy_ld (h := ?_) | refine sy_ldAll (h := ?_) | refine sy_pick_t (h := ?_) | refine sy_pick_f (h := ?_) | refine sy_gtr (h := ?_) | refine sy_slen (h := ?_) | refine sy_len (h := ?_) | refine sw_skipT (h := ?_) | refine sw_skipF (h := ?_) | refine sw_skipU (h := ?_) | refine sw_box (h := fun _ => ?_) | refine cw_cond_t (ht := ?_) | refine cw_cond_f (hf := ?_) | apply cw_skip | apply cw_block | apply cw_ret | apply cw_exit | refine sy_arrA (h := ?_) | refine sy_strI (h := ?_) | refine sw_pu (hc := within_pu _ _ _) (h := ?_) | refine sw_pu (hc := ids_pu a.to a.toL) (h := ?_) | refine sw_pu (hc := wrapped_pu a) (h := ?_) | refine sw_pu (hc := isPublic_pu _) (h := ?_) | ((fail_if_success (refine sw_chk (h := ?_))); refine sw_guard (ht := ?_) (hf := ?_); all_goals (intro hx_; first | have := of_decide_eq_true hx_ | have := of_decide_eq_false hx_ | skip)) | (refine cw_cond (ht := ?_) (hf := ?_); all_goals (intro hx_; first | have := of_decide_eq_true hx_ | have := of_decide_eq_false hx_ | skip)))
  (all_goals (apply ends_ret; apply res_tmp; rfl; rfl)); all_goals first | rfl | (simp only [setupB, *, decide_true, decide_false, cond_true, cond_false, Bool.and_true, Bool.true_and, Bool.and_false, Bool.false_and, Bool.not_true, Bool.not_false, Bool.or_true, Bool.true_or, Bool.or_false, Bool.false_or]; done) | (simp_all [setupB]; done)
def rule1B (a : ActD) : Bool := objectB a && audienceB a
theorem rule1_pu (a : ActD) : Pu Tryz.prog 101 #[a.v] (ActD.at_ · a) (.bool (rule1B a)) := by
  refine pu_of_cw (args := [_]) _ Tryz.func101 rfl Tryz.ntmps101 rfl fun av bor w0 => ?_
  repeat' (first | apply sw_nil | apply cw_seq | apply cw_reg | refine sy_move (h := ?_) | refine sy_assign (h := ?_) | refine sy_ld (h := ?_) | refine sy_ldAll (h := ?_) | refine sy_pick_t (h := ?_) | refine sy_pick_f (h := ?_) | refine sw_skipT (h := ?_) | refine sw_skipF (h := ?_) | refine sw_skipU (h := ?_) | refine sw_box (h := fun _ => ?_) | refine cw_cond_t (ht := ?_) | refine cw_cond_f (hf := ?_) | apply cw_skip | apply cw_block | apply cw_ret | apply cw_exit | refine sy_arrA (h := ?_) | refine sy_strI (h := ?_) | refine sw_pu (hc := object_pu a) (h := ?_) | refine sw_pu (hc := audience_pu a) (h := ?_) | ((fail_if_success (refine sw_chk (h := ?_))); refine sw_guard (ht := ?_) (hf := ?_); all_goals (intro hx_; first | have := of_decide_eq_true hx_ | have := of_decide_eq_false hx_ | skip)) | (refine cw_cond (ht := ?_) (hf := ?_); all_goals (intro hx_; first | have := of_decide_eq_true hx_ | have := of_decide_eq_false hx_ | skip)))
  (all_goals (apply ends_ret; apply res_tmp; rfl; rfl)); all_goals first | rfl | (simp only [rule1B, *, decide_true, decide_false, cond_true, cond_false, Bool.and_true, Bool.true_and, Bool.and_false, Bool.false_and, Bool.not_true, Bool.not_false, Bool.or_true, Bool.true_or, Bool.or_false, Bool.false_or]; done) | (simp_all [rule1B]; done)
def rule2B (a : ActD) : Bool := objectB a && isShortB a.text
theorem rule2_pu (a : ActD) : Pu Tryz.prog 105 #[a.v] (fun _ => True) (.bool (rule2B a)) := by
  refine pu_of_cw (args := [_]) _ Tryz.func105 rfl Tryz.ntmps105 rfl fun av bor w0 => ?_
  repeat' (first | apply sw_nil | apply cw_seq | apply cw_reg | refine sy_move (h := ?_) | refine sy_assign (h := ?_) | refine sy_fld (h := ?_) | refine sy_ld (h := ?_) | refine sy_ldAll (h := ?_) | refine sy_pick_t (h := ?_) | refine sy_pick_f (h := ?_) | refine sw_skipT (h := ?_) | refine sw_skipF (h := ?_) | refine sw_skipU (h := ?_) | refine sw_box (h := fun _ => ?_) | refine cw_cond_t (ht := ?_) | refine cw_cond_f (hf := ?_) | apply cw_skip | apply cw_block | apply cw_ret | apply cw_exit | refine sy_arrA (h := ?_) | refine sy_strI (h := ?_) | refine sw_pu (hc := object_pu a) (h := ?_) | refine sw_pu (hc := isShort_pu _) (h := ?_) | ((fail_if_success (refine sw_chk (h := ?_))); refine sw_guard (ht := ?_) (hf := ?_); all_goals (intro hx_; first | have := of_decide_eq_true hx_ | have := of_decide_eq_false hx_ | skip)) | (refine cw_cond (ht := ?_) (hf := ?_); all_goals (intro hx_; first | have := of_decide_eq_true hx_ | have := of_decide_eq_false hx_ | skip)))
  (all_goals (apply ends_ret; apply res_tmp; rfl; rfl)); all_goals first | rfl | (simp only [rule2B, *, decide_true, decide_false, cond_true, cond_false, Bool.and_true, Bool.true_and, Bool.and_false, Bool.false_and, Bool.not_true, Bool.not_false, Bool.or_true, Bool.true_or, Bool.or_false, Bool.false_or]; done) | (simp_all [rule2B]; done)
def rule3B (a : ActD) : Bool := isName a.text && homeB a
theorem rule3_pu (a : ActD) : Pu Tryz.prog 107 #[a.v] (fun _ => True) (.bool (rule3B a)) := by
  refine pu_of_cw (args := [_]) _ Tryz.func107 rfl Tryz.ntmps107 rfl fun av bor w0 => ?_
  repeat' (first | apply sw_nil | apply cw_seq | apply cw_reg | refine sy_move (h := ?_) | refine sy_assign (h := ?_) | refine sy_fld (h := ?_) | refine sy_ld (h := ?_) | refine sy_ldAll (h := ?_) | refine sy_pick_t (h := ?_) | refine sy_pick_f (h := ?_) | refine sw_skipT (h := ?_) | refine sw_skipF (h := ?_) | refine sw_skipU (h := ?_) | refine sw_box (h := fun _ => ?_) | refine cw_cond_t (ht := ?_) | refine cw_cond_f (hf := ?_) | apply cw_skip | apply cw_block | apply cw_ret | apply cw_exit | refine sy_arrA (h := ?_) | refine sy_strI (h := ?_) | refine sw_pu (hc := name_pu _) (h := ?_) | refine sw_pu (hc := home_pu a) (h := ?_) | ((fail_if_success (refine sw_chk (h := ?_))); refine sw_guard (ht := ?_) (hf := ?_); all_goals (intro hx_; first | have := of_decide_eq_true hx_ | have := of_decide_eq_false hx_ | skip)) | (refine cw_cond (ht := ?_) (hf := ?_); all_goals (intro hx_; first | have := of_decide_eq_true hx_ | have := of_decide_eq_false hx_ | skip)))
  (all_goals (apply ends_ret; apply res_tmp; rfl; rfl)); all_goals first | rfl | (simp only [rule3B, *, decide_true, decide_false, cond_true, cond_false, Bool.and_true, Bool.true_and, Bool.and_false, Bool.false_and, Bool.not_true, Bool.not_false, Bool.or_true, Bool.true_or, Bool.or_false, Bool.false_or]; done) | (simp_all [rule3B]; done)
def rule4B (a : ActD) : Bool := isName a.group && isIds a.toL
theorem rule4_pu (a : ActD) : Pu Tryz.prog 110 #[a.v] (ActD.at_ · a) (.bool (rule4B a)) := by
  refine pu_of_cw (args := [_]) _ Tryz.func110 rfl Tryz.ntmps110 rfl fun av bor w0 => ?_
  repeat' (first | apply sw_nil | apply cw_seq | apply cw_reg | refine sy_move (h := ?_) | refine sy_assign (h := ?_) | refine sy_fld (h := ?_) | refine sy_ld (h := ?_) | refine sy_ldAll (h := ?_) | refine sy_pick_t (h := ?_) | refine sy_pick_f (h := ?_) | refine sw_skipT (h := ?_) | refine sw_skipF (h := ?_) | refine sw_skipU (h := ?_) | refine sw_box (h := fun _ => ?_) | refine cw_cond_t (ht := ?_) | refine cw_cond_f (hf := ?_) | apply cw_skip | apply cw_block | apply cw_ret | apply cw_exit | refine sy_arrA (h := ?_) | refine sy_strI (h := ?_) | refine sw_pu (hc := name_pu _) (h := ?_) | refine sw_pu (hc := ids_pu a.to a.toL) (h := ?_) | ((fail_if_success (refine sw_chk (h := ?_))); refine sw_guard (ht := ?_) (hf := ?_); all_goals (intro hx_; first | have := of_decide_eq_true hx_ | have := of_decide_eq_false hx_ | skip)) | (refine cw_cond (ht := ?_) (hf := ?_); all_goals (intro hx_; first | have := of_decide_eq_true hx_ | have := of_decide_eq_false hx_ | skip)))
  (all_goals (apply ends_ret; apply res_tmp; rfl; rfl)); all_goals first | rfl | (simp only [rule4B, *, decide_true, decide_false, cond_true, cond_false, Bool.and_true, Bool.true_and, Bool.and_false, Bool.false_and, Bool.not_true, Bool.not_false, Bool.or_true, Bool.true_or, Bool.or_false, Bool.false_or]; done) | (simp_all [rule4B]; done)
def rule5B (a : ActD) : Bool := objectB a && withinB a.n 0 1
theorem rule5_pu (a : ActD) : Pu Tryz.prog 115 #[a.v] (fun _ => True) (.bool (rule5B a)) := by
  refine pu_of_cw (args := [_]) _ Tryz.func115 rfl Tryz.ntmps115 rfl fun av bor w0 => ?_
  repeat' (first | apply sw_nil | apply cw_seq | apply cw_reg | refine sy_move (h := ?_) | refine sy_assign (h := ?_) | refine sy_fld (h := ?_) | refine sy_ld (h := ?_) | refine sy_ldAll (h := ?_) | refine sy_pick_t (h := ?_) | refine sy_pick_f (h := ?_) | refine sw_skipT (h := ?_) | refine sw_skipF (h := ?_) | refine sw_skipU (h := ?_) | refine sw_box (h := fun _ => ?_) | refine cw_cond_t (ht := ?_) | refine cw_cond_f (hf := ?_) | apply cw_skip | apply cw_block | apply cw_ret | apply cw_exit | refine sy_arrA (h := ?_) | refine sy_strI (h := ?_) | refine sw_pu (hc := object_pu a) (h := ?_) | refine sw_pu (hc := within_pu _ _ _) (h := ?_) | ((fail_if_success (refine sw_chk (h := ?_))); refine sw_guard (ht := ?_) (hf := ?_); all_goals (intro hx_; first | have := of_decide_eq_true hx_ | have := of_decide_eq_false hx_ | skip)) | (refine cw_cond (ht := ?_) (hf := ?_); all_goals (intro hx_; first | have := of_decide_eq_true hx_ | have := of_decide_eq_false hx_ | skip)))
  (all_goals (apply ends_ret; apply res_tmp; rfl; rfl)); all_goals first | rfl | (simp only [rule5B, *, decide_true, decide_false, cond_true, cond_false, Bool.and_true, Bool.true_and, Bool.and_false, Bool.false_and, Bool.not_true, Bool.not_false, Bool.or_true, Bool.true_or, Bool.or_false, Bool.false_or]; done) | (simp_all [rule5B]; done)
def rule6B (a : ActD) : Bool := targetB a && isShortB a.text && withinB a.n 0 1099511627776
theorem rule6_pu (a : ActD) : Pu Tryz.prog 116 #[a.v] (fun _ => True) (.bool (rule6B a)) := by
  refine pu_of_cw (args := [_]) _ Tryz.func116 rfl Tryz.ntmps116 rfl fun av bor w0 => ?_
  repeat' (first | apply sw_nil | apply cw_seq | apply cw_reg | refine sy_move (h := ?_) | refine sy_assign (h := ?_) | refine sy_fld (h := ?_) | refine sy_ld (h := ?_) | refine sy_ldAll (h := ?_) | refine sy_pick_t (h := ?_) | refine sy_pick_f (h := ?_) | refine sw_skipT (h := ?_) | refine sw_skipF (h := ?_) | refine sw_skipU (h := ?_) | refine sw_box (h := fun _ => ?_) | refine cw_cond_t (ht := ?_) | refine cw_cond_f (hf := ?_) | apply cw_skip | apply cw_block | apply cw_ret | apply cw_exit | refine sy_arrA (h := ?_) | refine sy_strI (h := ?_) | refine sw_pu (hc := target_pu a) (h := ?_) | refine sw_pu (hc := isShort_pu _) (h := ?_) | refine sw_pu (hc := within_pu _ _ _) (h := ?_) | ((fail_if_success (refine sw_chk (h := ?_))); refine sw_guard (ht := ?_) (hf := ?_); all_goals (intro hx_; first | have := of_decide_eq_true hx_ | have := of_decide_eq_false hx_ | skip)) | (refine cw_cond (ht := ?_) (hf := ?_); all_goals (intro hx_; first | have := of_decide_eq_true hx_ | have := of_decide_eq_false hx_ | skip)))
  (all_goals (apply ends_ret; apply res_tmp; rfl; rfl)); all_goals first | rfl | (simp only [rule6B, *, decide_true, decide_false, cond_true, cond_false, Bool.and_true, Bool.true_and, Bool.and_false, Bool.false_and, Bool.not_true, Bool.not_false, Bool.or_true, Bool.true_or, Bool.or_false, Bool.false_or]; done) | (simp_all [rule6B]; done)
end Go.Proofs.YtlankpiogfhblaaGreatDoor

/- Contracts: package code: Num, Text, List. -/
set_option linter.unusedVariables false
set_option linter.unusedSimpArgs false
namespace Go.Proofs.YtlankpiogfhblaaGreatDoor
open Go Go.Proofs Sy

def lowD (n : Int) : Int := IntKind.u8.wrap (128 + n.tmod 128)
def numD : Nat → Int → List Int
  | 0, _ => []
  | f + 1, n => bif decide (128 ≤ n) then lowD n :: numD f (n.tdiv 128) else [IntKind.u8.wrap n]
def numV (n : Int) : ByteArray := bif decide (n < 0) then ⟨#[]⟩ else ofInts (numD 10 n)
structure NumAt (n0 : Int) where
  f : Nat
  acc : List Int
  n : Int
  h : acc ++ numD (f + 1) n = numD 10 n0
  hl : acc.length + f = 9
  h0 : 0 ≤ n
  h1 : n < 128 ^ f
theorem numD_small {f : Nat} {n : Int} (h : ¬ 128 ≤ n) : numD (f + 1) n = [IntKind.u8.wrap n] := by
  have : decide (128 ≤ n) = false := decide_eq_false h
  simp only [numD, this, cond_false]
theorem numD_big {f : Nat} {n : Int} (h : 128 ≤ n) : numD (f + 1) n = lowD n :: numD f (n.tdiv 128) := by
  simp only [numD, decide_eq_true h, cond_true]
def NumAt.next {n0 : Int} (i : NumAt n0) (h : 128 ≤ i.n) : NumAt n0 :=
  ⟨i.f - 1, i.acc ++ [lowD i.n], i.n.tdiv 128, by
    have hf : i.f ≠ 0 := fun e => by have := i.h1; rw [e] at this; simp at this; omega
    have := i.h
    rw [numD_big h] at this
    rw [show i.f - 1 + 1 = i.f from by omega]
    simpa using this, by
    have hf : i.f ≠ 0 := fun e => by have := i.h1; rw [e] at this; simp at this; omega
    have := i.hl
    simp
    omega, by
    rw [Int.tdiv_eq_ediv_of_nonneg i.h0]
    have := i.h0
    omega, by
    have hf : i.f ≠ 0 := fun e => by have := i.h1; rw [e] at this; simp at this; omega
    rw [Int.tdiv_eq_ediv_of_nonneg i.h0]
    have h1 := i.h1
    obtain ⟨f, hf'⟩ : ∃ f, i.f = f + 1 := ⟨i.f - 1, by omega⟩
    rw [hf'] at h1 ⊢
    rw [Int.pow_succ] at h1
    simp only [Nat.add_sub_cancel]
    omega⟩
theorem NumAt.f_pos {n0 : Int} (i : NumAt n0) (h : 128 ≤ i.n) : 0 < i.f := by
  rcases Nat.eq_zero_or_pos i.f with e | e
  · have := i.h1; rw [e] at this; simp at this; omega
  · exact e
theorem NumAt.lt {n0 : Int} (i : NumAt n0) : i.n < 9223372036854775808 := by
  have h1 := i.h1
  have h2 := i.hl
  have h3 : i.f ≤ 9 := by omega
  have h4 : (128 : Int) ^ i.f ≤ 128 ^ 9 := by
    have := Nat.pow_le_pow_right (n := 128) (by omega) h3
    exact_mod_cast this
  have h5 : (128 : Int) ^ 9 = 9223372036854775808 := by decide
  omega
structure NumS (n0 : Int) where
  i : NumAt n0
  A : Option Addr
  c : Nat
def NumS.v {n0 : Int} (s : NumS n0) : Value := .slice s.A s.i.acc.length s.c
def NumS.st {n0 : Int} (s : NumS n0) : St := ⟨[(0, .int .i64 s.i.n), (3, s.v)], [orow 5 1 s.v s.i.acc.length (u8s s.i.acc)], fun _ => True⟩
theorem num_pu (n : Int) (hn : n < 9223372036854775808) : Pu Tryz.prog 58 #[.int .i64 n] (fun _ => True) (.string (numV n)) := by
  refine pu_of_cw (args := [_]) _ Tryz.func58 rfl Tryz.ntmps58 rfl fun av bor w0 => ?_
  repeat' (first | apply sw_nil | apply cw_seq | apply cw_reg | refine sy_move (h := ?_) | refine sy_assign (h := ?_) | refine sy_lss (h := ?_) | refine sy_geq (h := ?_) | refine sy_add (h := ?_) | refine sw_bsl (h := fun _ => ?_) | refine cw_cond_t (ht := ?_) | refine cw_cond_f (hf := ?_) | apply cw_skip | apply cw_block | apply cw_ret | apply cw_exit | refine sy_int (h := ?_) | refine sy_arrA (h := ?_) | refine sy_strI (h := ?_) | (refine cw_cond (ht := ?_) (hf := ?_); all_goals (intro hx_; first | have := of_decide_eq_true hx_ | have := of_decide_eq_false hx_ | skip)))
  · (all_goals (apply ends_ret; apply res_tmp; rfl; rfl)); all_goals first | rfl | (simp only [numV, *, decide_true, decide_false, cond_true, cond_false, Bool.and_true, Bool.true_and, Bool.and_false, Bool.false_and, Bool.not_true, Bool.not_false, Bool.or_true, Bool.true_or, Bool.or_false, Bool.false_or]; done) | (simp_all [numV]; done)
  have hn0 : 0 ≤ n := by omega
  refine cw_nilRow 5 1 ?_
  refine cw_loop (ι := NumS n) NumS.st (fun s => s.i.f) ⟨⟨9, [], n, rfl, rfl, by omega, by omega⟩, none, 0⟩ (ok_sub ⟨rfl, rfl, trivial⟩ (List.Sublist.refl _) fun _ h => h) fun s => ?_
  unfold NumS.st
  repeat' (first | apply sw_nil | apply cw_seq | apply cw_reg | refine sy_move (h := ?_) | refine sy_assign (h := ?_) | refine sy_lss (h := ?_) | refine sy_geq (h := ?_) | refine sy_add (h := ?_) | refine sw_bsl (h := fun _ => ?_) | refine cw_cond_t (ht := ?_) | refine cw_cond_f (hf := ?_) | apply cw_skip | apply cw_block | apply cw_ret | apply cw_exit | refine sy_int (h := ?_) | refine sy_arrA (h := ?_) | refine sy_strI (h := ?_) | (refine cw_cond (ht := ?_) (hf := ?_); all_goals (intro hx_; first | have := of_decide_eq_true hx_ | have := of_decide_eq_false hx_ | skip)))
  · have hl := s.i.hl
    refine sy_rem (hc := rfl) (h := ?_)
    refine sy_add (hc := IntWalk.i64_in _ (by have := Int.tmod_lt_of_pos s.i.n (b := 128) (by omega); have := Int.tmod_nonneg 128 s.i.h0; omega)) (h := ?_)
    refine sy_int (hc := rfl) (h := ?_)
    refine sw_bsl (h := fun b => ?_)
    refine sw_append (size := 1) (z := .int .u8 0) (news := u8s [lowD s.i.n]) (q := 1) rfl rfl rfl rfl (fun _ => At.there _ (At.here _)) (fun w G => src_cel G List.mem_cons_self rfl rfl 1) ?_ ?_ rfl ?_ rfl ?_
    · omega
    · simp only [maxLen]; omega
    · rfl
    intro A c
    repeat' (first | apply sw_nil | apply cw_seq | apply cw_reg | refine sy_move (h := ?_) | refine sy_assign (h := ?_) | refine sy_lss (h := ?_) | refine sy_geq (h := ?_) | refine sy_add (h := ?_) | refine sw_bsl (h := fun _ => ?_) | refine cw_cond_t (ht := ?_) | refine cw_cond_f (hf := ?_) | apply cw_skip | apply cw_block | apply cw_ret | apply cw_exit | refine sy_int (h := ?_) | refine sy_arrA (h := ?_) | refine sy_strI (h := ?_) | (refine cw_cond (ht := ?_) (hf := ?_); all_goals (intro hx_; first | have := of_decide_eq_true hx_ | have := of_decide_eq_false hx_ | skip)))
    refine sy_quo (hc := IntWalk.i64_in _ (by rw [Int.tdiv_eq_ediv_of_nonneg s.i.h0]; have := s.i.lt; have := s.i.h0; omega)) (h := ?_)
    repeat' (first | apply sw_nil | apply cw_seq | apply cw_reg | refine sy_move (h := ?_) | refine sy_assign (h := ?_) | refine sy_lss (h := ?_) | refine sy_geq (h := ?_) | refine sy_add (h := ?_) | refine sw_bsl (h := fun _ => ?_) | refine cw_cond_t (ht := ?_) | refine cw_cond_f (hf := ?_) | apply cw_skip | apply cw_block | apply cw_ret | apply cw_exit | refine sy_int (h := ?_) | refine sy_arrA (h := ?_) | refine sy_strI (h := ?_) | (refine cw_cond (ht := ?_) (hf := ?_); all_goals (intro hx_; first | have := of_decide_eq_true hx_ | have := of_decide_eq_false hx_ | skip)))
    have e1 : (s.i.next this).acc = s.i.acc ++ [lowD s.i.n] := rfl
    have e2 : (s.i.next this).acc.length = s.i.acc.length + 1 := by rw [e1]; simp
    refine ⟨(⟨s.i.next this, A, c⟩ : NumS n), ?_, ok_sub ⟨?_, ?_, trivial⟩ ?_ fun _ h => h⟩
    · have := s.i.f_pos this
      show s.i.f - 1 < s.i.f
      omega
    · rfl
    · simp only [NumS.v, e2]; rfl
    · simp only [NumS.v, e1, u8s_append]
      refine List.Sublist.cons _ ?_
      simp only [List.length_append, List.length_cons, List.length_nil, Nat.zero_add]
      exact List.Sublist.refl _
  · have hl := s.i.hl
    refine sw_append (size := 1) (z := .int .u8 0) (news := u8s [IntKind.u8.wrap s.i.n]) (q := 1) rfl rfl rfl rfl (fun _ => At.there _ (At.here _)) (fun w G => src_cel G List.mem_cons_self rfl rfl 1) ?_ ?_ rfl ?_ rfl ?_
    · omega
    · simp only [maxLen]; omega
    · rfl
    intro A c
    rw [← u8s_append]
    refine sy_b2s (hm := List.mem_cons_of_mem _ List.mem_cons_self) (h := ?_)
    repeat' (first | apply sw_nil | apply cw_seq | apply cw_reg | refine sy_move (h := ?_) | refine sy_assign (h := ?_) | refine sy_lss (h := ?_) | refine sy_geq (h := ?_) | refine sy_add (h := ?_) | refine sw_bsl (h := fun _ => ?_) | refine cw_cond_t (ht := ?_) | refine cw_cond_f (hf := ?_) | apply cw_skip | apply cw_block | apply cw_ret | apply cw_exit | refine sy_int (h := ?_) | refine sy_arrA (h := ?_) | refine sy_strI (h := ?_) | (refine cw_cond (ht := ?_) (hf := ?_); all_goals (intro hx_; first | have := of_decide_eq_true hx_ | have := of_decide_eq_false hx_ | skip)))
    apply ends_ret; apply res_tmp; rfl; rfl
    have h0 : decide (n < 0) = false := decide_eq_false (by omega)
    have h1 := s.i.h
    rw [numD_small this] at h1
    simp only [numV, h0, cond_false, h1]
theorem ofInts_push : ∀ (ns : List Int) (r : ByteArray), (ns.foldl (fun r n => r.push (UInt8.ofNat n.toNat)) r).size = r.size + ns.length
  | [], r => rfl
  | n :: ns, r => by rw [List.foldl_cons, ofInts_push ns]; simp [ByteArray.size_push]; omega
theorem size_ofInts (ns : List Int) : (ofInts ns).size = ns.length := by rw [ofInts, ofInts_push]; simp
theorem numD_len : ∀ (f : Nat) (n : Int), (numD f n).length ≤ f
  | 0, n => by simp [numD]
  | f + 1, n => by
    have := numD_len f (n.tdiv 128)
    unfold numD
    cases decide (128 ≤ n) <;> simp <;> omega
theorem numV_size (n : Int) : (numV n).size ≤ 10 := by
  unfold numV
  cases decide (n < 0) with
  | true => simp [ByteArray.size]
  | false => rw [cond_false, size_ofInts]; exact numD_len _ _
theorem ofInts_bytesI (s : ByteArray) : ofInts (bytesI s) = s := by
  have key : ∀ (l : List UInt8) (r : ByteArray), ((l.map fun b => (b.toNat : Int)).foldl (fun r n => r.push (UInt8.ofNat n.toNat)) r) = ⟨(r.data.toList ++ l).toArray⟩ := by
    intro l
    induction l with
    | nil => intro r; simp
    | cons b l ih =>
      intro r
      rw [List.map_cons, List.foldl_cons, ih]
      simp [ByteArray.push]
  rw [ofInts, bytesI, key]
  simp
theorem bytesI_append (a b : ByteArray) : bytesI (a ++ b) = bytesI a ++ bytesI b := by simp [bytesI, ByteArray.data_append]
theorem bytesI_len (a : ByteArray) : (bytesI a).length = a.size := by simp [bytesI]
def textV (s : ByteArray) : ByteArray := numV s.size ++ s
theorem text_pu (s : ByteArray) (hs : s.size ≤ 1099511627776) : Pu Tryz.prog 82 #[.string s] (fun _ => True) (.string (textV s)) := by
  refine pu_of_cw (args := [_]) _ Tryz.func82 rfl Tryz.ntmps82 rfl fun av bor w0 => ?_
  have := numV_size s.size
  repeat' (first | apply sw_nil | apply cw_seq | apply cw_reg | refine sy_move (h := ?_) | refine sy_assign (h := ?_) | refine sy_slen (h := ?_) | refine sy_len (h := ?_) | refine sy_add (h := ?_) | refine cw_cond_t (ht := ?_) | refine cw_cond_f (hf := ?_) | apply cw_skip | apply cw_block | apply cw_ret | apply cw_exit | refine sy_arrA (h := ?_) | refine sy_strI (h := ?_) | refine sw_pu (hc := num_pu _ (by omega)) (h := ?_) | (refine sy_cat (h := ?_)) | (refine cw_cond (ht := ?_) (hf := ?_); all_goals (intro hx_; first | have := of_decide_eq_true hx_ | have := of_decide_eq_false hx_ | skip)))
  (all_goals (apply ends_ret; apply res_tmp; rfl; rfl)); all_goals first | rfl | (simp only [textV, *, decide_true, decide_false, cond_true, cond_false, Bool.and_true, Bool.true_and, Bool.and_false, Bool.false_and, Bool.not_true, Bool.not_false, Bool.or_true, Bool.true_or, Bool.or_false, Bool.false_or]; done) | (simp_all [textV]; done)
def cats : List ByteArray → ByteArray
  | [] => ByteArray.empty
  | a :: l => a ++ cats l
theorem cats_append : ∀ (a b : List ByteArray), cats (a ++ b) = cats a ++ cats b
  | [], b => by simp [cats]
  | x :: a, b => by simp [cats, cats_append a b, ByteArray.append_assoc]
theorem cats_succ (l : List ByteArray) {k : Nat} (h : k < l.length) : cats (l.take (k + 1)) = cats (l.take k) ++ l.getD k .empty := by
  rw [List.take_add_one, cats_append]
  simp [h, cats]
theorem cats_take (l : List ByteArray) (k : Nat) : (cats (l.take k)).size ≤ (cats l).size := by
  have : cats l = cats (l.take k) ++ cats (l.drop k) := by rw [← cats_append, List.take_append_drop]
  rw [this, ByteArray.size_append]
  omega
def listV (l : List ByteArray) : ByteArray := numV l.length ++ cats (l.map textV)
structure ListS (m : Nat) where
  k : Nat
  hk : k ≤ m
  A : Option Addr
  c : Nat
def ListS.out {l : List ByteArray} (i : ListS l.length) : ByteArray := numV l.length ++ cats ((l.map textV).take i.k)
def ListS.v {l : List ByteArray} (i : ListS l.length) : Value := .slice i.A i.out.size i.c
def ListS.st (s : SlV) (l : List ByteArray) (i : ListS l.length) : St :=
  ⟨[(1, .func (.func 82) #[] #[]), (5, i.v), (12, s.v), (13, .int .i64 s.n), (14, .int .i64 i.k)], [orow 5 1 i.v i.out.size (u8s (bytesI i.out))], fun w => Strs w s l⟩
theorem writeList_pu (s : SlV) (l : List ByteArray) (hs : (listV l).size ≤ 1099511627776) :
    Pu Tryz.prog 119 #[s.v, .func (.func 82) #[] #[]] (fun w => Strs w s l) (.string (listV l)) := by
  refine pu_of_cw (args := [_, _]) _ Tryz.func119 rfl Tryz.ntmps119 rfl fun av bor w0 => ?_
  refine cw_know (p := s.n = l.length ∧ s.n ≤ maxLen ∧ (0 < l.length → s.p.isSome = true)) (fun w h => ⟨h.len_, Nat.le_trans (RowsD.cap h) (RowsD.max h), h.some_⟩) fun ⟨hl, hm, hp⟩ => ?_
  simp only [maxLen] at hm
  have hn10 := numV_size s.n
  repeat' (first | apply sw_nil | apply cw_seq | apply cw_reg | refine sy_move (h := ?_) | refine sy_assign (h := ?_) | refine sy_ld (h := ?_) | refine sy_ldAll (h := ?_) | refine sy_lss (h := ?_) | refine sy_slen (h := ?_) | refine sy_len (h := ?_) | refine sy_add (h := ?_) | refine cw_cond_t (ht := ?_) | refine cw_cond_f (hf := ?_) | apply cw_skip | apply cw_block | apply cw_ret | apply cw_exit | refine sy_int (h := ?_) | refine sy_arrA (h := ?_) | refine sy_strI (h := ?_) | refine sw_pu (hc := num_pu _ (by omega)) (h := ?_) | (refine sw_s2b (h := fun A c => ?_)) | (refine cw_cond (ht := ?_) (hf := ?_); all_goals (intro hx_; first | have := of_decide_eq_true hx_ | have := of_decide_eq_false hx_ | skip)))
  have hle := cats_take (l.map textV)
  have hsz : (numV l.length).size + (cats (l.map textV)).size ≤ 1099511627776 := by rw [← ByteArray.size_append]; exact hs
  have h0 : ListS.out (l := l) ⟨0, Nat.zero_le _, A, c⟩ = numV s.n := by simp [ListS.out, cats, hl]
  refine cw_loop (ι := ListS l.length) (ListS.st s l) (fun i => l.length - i.k) ⟨0, Nat.zero_le _, A, c⟩ (ok_sub ⟨rfl, ?_, rfl, rfl, rfl, trivial⟩ ?_ fun _ h => h) fun i => ?_
  · simp only [ListS.v, h0]; rfl
  · simp only [ListS.v, h0]; exact List.Sublist.refl _
  have hik := i.hk
  have hout : i.out.size ≤ 1099511627776 := by simp only [ListS.out, ByteArray.size_append]; have := hle i.k; omega
  unfold ListS.st
  repeat' (first | apply sw_nil | apply cw_seq | apply cw_reg | refine sy_move (h := ?_) | refine sy_assign (h := ?_) | refine sy_ld (h := ?_) | refine sy_ldAll (h := ?_) | refine sy_lss (h := ?_) | refine sy_slen (h := ?_) | refine sy_len (h := ?_) | refine sy_add (h := ?_) | refine cw_cond_t (ht := ?_) | refine cw_cond_f (hf := ?_) | apply cw_skip | apply cw_block | apply cw_ret | apply cw_exit | refine sy_int (h := ?_) | refine sy_arrA (h := ?_) | refine sy_strI (h := ?_) | (refine cw_cond (ht := ?_) (hf := ?_); all_goals (intro hx_; first | have := of_decide_eq_true hx_ | have := of_decide_eq_false hx_ | skip)))
  · have hlt : i.k < l.length := by omega
    have hp' := hp (by omega)
    have hsucc := cats_succ (l.map textV) (k := i.k) (by simpa using hlt)
    have hget : (l.map textV).getD i.k .empty = textV (l.getD i.k .empty) := by simp [hlt]
    rw [hget] at hsucc
    have hnext : (numV l.length ++ cats ((l.map textV).take (i.k + 1))) = i.out ++ textV (l.getD i.k .empty) := by rw [hsucc, ← ByteArray.append_assoc]; rfl
    have hb : i.out.size + (textV (l.getD i.k .empty)).size ≤ 1099511627776 := by
      rw [← ByteArray.size_append, ← hnext, ByteArray.size_append]
      have := hle (i.k + 1)
      omega
    have hb2 : (l.getD i.k .empty).size ≤ 1099511627776 := by simp only [textV, ByteArray.size_append] at hb; omega
    repeat' (first | apply sw_nil | apply cw_seq | apply cw_reg | refine sy_move (h := ?_) | refine sy_assign (h := ?_) | refine sy_ld (h := ?_) | refine sy_ldAll (h := ?_) | refine sy_lss (h := ?_) | refine sy_slen (h := ?_) | refine sy_len (h := ?_) | refine sy_add (h := ?_) | refine cw_cond_t (ht := ?_) | refine cw_cond_f (hf := ?_) | apply cw_skip | apply cw_block | apply cw_ret | apply cw_exit | refine sy_int (h := ?_) | refine sy_arrA (h := ?_) | refine sy_strI (h := ?_) | refine sw_pu (hc := text_pu _ (by omega)) (h := ?_) | (refine sy_idxX (q := i.k) (h := ?_)) | (refine sy_ldX (hF := fun w h => Strs.get h hlt) (h := ?_)) | (refine cw_cond (ht := ?_) (hf := ?_); all_goals (intro hx_; first | have := of_decide_eq_true hx_ | have := of_decide_eq_false hx_ | skip)))
    refine sw_append (size := 1) (z := .int .u8 0) rfl rfl rfl rfl (fun _ => At.here _) (fun w G => src_str (by omega)) ?_ ?_ rfl ?_ rfl ?_
    · omega
    · simp only [maxLen]; omega
    · rfl
    intro A c
    repeat' (first | apply sw_nil | apply cw_seq | apply cw_reg | refine sy_move (h := ?_) | refine sy_assign (h := ?_) | refine sy_ld (h := ?_) | refine sy_ldAll (h := ?_) | refine sy_lss (h := ?_) | refine sy_slen (h := ?_) | refine sy_len (h := ?_) | refine sy_add (h := ?_) | refine cw_cond_t (ht := ?_) | refine cw_cond_f (hf := ?_) | apply cw_skip | apply cw_block | apply cw_ret | apply cw_exit | refine sy_int (h := ?_) | refine sy_arrA (h := ?_) | refine sy_strI (h := ?_) | (refine cw_cond (ht := ?_) (hf := ?_); all_goals (intro hx_; first | have := of_decide_eq_true hx_ | have := of_decide_eq_false hx_ | skip)))
    have e2 : ListS.out (l := l) ⟨i.k + 1, hlt, A, c⟩ = i.out ++ textV (l.getD i.k .empty) := hnext
    refine ⟨(⟨i.k + 1, hlt, A, c⟩ : ListS l.length), (by show l.length - (i.k + 1) < l.length - i.k; omega), ok_sub ⟨rfl, ?_, rfl, rfl, rfl, trivial⟩ ?_ fun _ h => h⟩
    · simp only [ListS.v, e2, ByteArray.size_append]; rfl
    · simp only [ListS.v, e2, ByteArray.size_append, bytesI_append, u8s_append]; exact List.Sublist.refl _
  · have hk : i.k = l.length := by omega
    repeat' (first | apply sw_nil | apply cw_seq | apply cw_reg | refine sy_move (h := ?_) | refine sy_assign (h := ?_) | refine sy_ld (h := ?_) | refine sy_ldAll (h := ?_) | refine sy_lss (h := ?_) | refine sy_slen (h := ?_) | refine sy_len (h := ?_) | refine sy_add (h := ?_) | refine cw_cond_t (ht := ?_) | refine cw_cond_f (hf := ?_) | apply cw_skip | apply cw_block | apply cw_ret | apply cw_exit | refine sy_int (h := ?_) | refine sy_arrA (h := ?_) | refine sy_strI (h := ?_) | (refine cw_cond (ht := ?_) (hf := ?_); all_goals (intro hx_; first | have := of_decide_eq_true hx_ | have := of_decide_eq_false hx_ | skip)))
    refine sy_b2s (hm := List.mem_cons_self) (h := ?_)
    repeat' (first | apply sw_nil | apply cw_seq | apply cw_reg | refine sy_move (h := ?_) | refine sy_assign (h := ?_) | refine sy_ld (h := ?_) | refine sy_ldAll (h := ?_) | refine sy_lss (h := ?_) | refine sy_slen (h := ?_) | refine sy_len (h := ?_) | refine sy_add (h := ?_) | refine cw_cond_t (ht := ?_) | refine cw_cond_f (hf := ?_) | apply cw_skip | apply cw_block | apply cw_ret | apply cw_exit | refine sy_int (h := ?_) | refine sy_arrA (h := ?_) | refine sy_strI (h := ?_) | (refine cw_cond (ht := ?_) (hf := ?_); all_goals (intro hx_; first | have := of_decide_eq_true hx_ | have := of_decide_eq_false hx_ | skip)))
    apply ends_ret; apply res_tmp; rfl; rfl
    rw [ofInts_bytesI, ListS.out, hk, List.take_of_length_le (by simp), listV]
theorem list_pu (s : SlV) (l : List ByteArray) (hs : (listV l).size ≤ 1099511627776) : Pu Tryz.prog 83 #[s.v] (fun w => Strs w s l) (.string (listV l)) := by
  refine pu_of_cw (args := [_]) _ Tryz.func83 rfl Tryz.ntmps83 rfl fun av bor w0 => ?_
  repeat' (first | apply sw_nil | apply cw_seq | apply cw_reg | refine sy_move (h := ?_) | refine sy_assign (h := ?_) | refine cw_cond_t (ht := ?_) | refine cw_cond_f (hf := ?_) | apply cw_skip | apply cw_block | apply cw_ret | apply cw_exit | refine sy_arrA (h := ?_) | refine sy_strI (h := ?_) | refine sw_pu (hc := writeList_pu s l hs) (h := ?_) | (refine cw_cond (ht := ?_) (hf := ?_); all_goals (intro hx_; first | have := of_decide_eq_true hx_ | have := of_decide_eq_false hx_ | skip)))
  (all_goals (apply ends_ret; apply res_tmp; rfl; rfl)); all_goals first | rfl | (simp only [*, decide_true, decide_false, cond_true, cond_false, Bool.and_true, Bool.true_and, Bool.and_false, Bool.false_and, Bool.not_true, Bool.not_false, Bool.or_true, Bool.true_or, Bool.or_false, Bool.false_or]; done) | (simp_all []; done)
end Go.Proofs.YtlankpiogfhblaaGreatDoor

/- Contracts: package act, encodings. -/
set_option linter.unusedVariables false
set_option linter.unusedSimpArgs false
namespace Go.Proofs.YtlankpiogfhblaaGreatDoor
open Go Go.Proofs Sy

theorem textV_size (s : ByteArray) : (textV s).size ≤ 10 + s.size := by have := numV_size s.size; rw [textV, ByteArray.size_append]; omega
structure BoxD.Fit (b : BoxD) : Prop where
  nonce : b.nonce.size ≤ 1073741824
  data : b.data.size ≤ 1073741824
  tag : b.tag.size ≤ 1073741824
def boxV (b : BoxD) : ByteArray := textV b.nonce ++ textV b.data ++ textV b.tag
theorem boxV_size {b : BoxD} (h : b.Fit) : (boxV b).size ≤ 4294967296 := by
  have h1 := textV_size b.nonce
  have h2 := textV_size b.data
  have h3 := textV_size b.tag
  have := h.nonce
  have := h.data
  have := h.tag
  simp only [boxV, ByteArray.size_append]
  omega
theorem boxBytes_pu (b : BoxD) (hb : b.Fit) : Pu Tryz.prog 84 #[b.v] (fun _ => True) (.string (boxV b)) := by
  refine pu_of_cw (args := [_]) _ Tryz.func84 rfl Tryz.ntmps84 rfl fun av bor w0 => ?_
  have h1 := textV_size b.nonce
  have h2 := textV_size b.data
  have h3 := textV_size b.tag
  have := hb.nonce
  have := hb.data
  have := hb.tag
  repeat' (first | apply sw_nil | apply cw_seq | apply cw_reg | refine sy_move (h := ?_) | refine sy_assign (h := ?_) | refine sy_fld (h := ?_) | refine sy_ld (h := ?_) | refine sy_ldAll (h := ?_) | refine sy_add (h := ?_) | refine sw_box (h := fun _ => ?_) | refine cw_cond_t (ht := ?_) | refine cw_cond_f (hf := ?_) | apply cw_skip | apply cw_block | apply cw_ret | apply cw_exit | refine sy_arrA (h := ?_) | refine sy_strI (h := ?_) | (refine cw_cond (ht := ?_) (hf := ?_); all_goals (intro hx_; first | have := of_decide_eq_true hx_ | have := of_decide_eq_false hx_ | skip)))
  (apply cw_draw0; kernel_rfl)
  all_goals (first | refine aw_take 0 (h := ?_) | refine aw_take 0 (hy := by (first | (apply y_cat; rfl; rfl; (try simp only [ByteArray.size_append]); omega))) (h := ?_))
  all_goals (first | refine aw_take 1 (h := ?_) | refine aw_take 1 (hy := by (first | (apply y_cat; rfl; rfl; (try simp only [ByteArray.size_append]); omega))) (h := ?_))
  all_goals (first | refine aw_take 3 (h := ?_) | refine aw_take 3 (hy := by (first | (apply y_cat; rfl; rfl; (try simp only [ByteArray.size_append]); omega))) (h := ?_))
  all_goals (first | refine aw_take 4 (h := ?_) | refine aw_take 4 (hy := by (first | (apply y_cat; rfl; rfl; (try simp only [ByteArray.size_append]); omega))) (h := ?_))
  all_goals (first | refine aw_take 7 (h := ?_) | refine aw_take 7 (hy := by (first | (apply y_cat; rfl; rfl; (try simp only [ByteArray.size_append]); omega))) (h := ?_))
  all_goals (first | refine aw_take 8 (h := ?_) | refine aw_take 8 (hy := by (first | (apply y_cat; rfl; rfl; (try simp only [ByteArray.size_append]); omega))) (h := ?_))
  all_goals (refine aw_step 2 (h := ?_); (first | refine sw_pu (hc := text_pu _ (by omega)) (h := ?_)); apply sw_nil; refine aw_fin (h := ?_))
  all_goals (refine aw_step 5 (h := ?_); (first | refine sw_pu (hc := text_pu _ (by omega)) (h := ?_)); apply sw_nil; refine aw_fin (h := ?_))
  all_goals (first | refine aw_take 6 (h := ?_) | refine aw_take 6 (hy := by (first | (apply y_cat; rfl; rfl; (try simp only [ByteArray.size_append]); omega))) (h := ?_))
  all_goals (refine aw_step 9 (h := ?_); (first | refine sw_pu (hc := text_pu _ (by omega)) (h := ?_)); apply sw_nil; refine aw_fin (h := ?_))
  all_goals (first | refine aw_take 10 (h := ?_) | refine aw_take 10 (hy := by (first | (apply y_cat; rfl; rfl; (try simp only [ByteArray.size_append]); omega))) (h := ?_))
  all_goals (refine aw_take 11 (h := ?_))
  all_goals (refine aw_done (h := ?_))
  repeat' (first | apply sw_nil | apply cw_seq | apply cw_reg | refine sy_move (h := ?_) | refine sy_assign (h := ?_) | refine sy_fld (h := ?_) | refine sy_ld (h := ?_) | refine sy_ldAll (h := ?_) | refine sy_add (h := ?_) | refine sw_box (h := fun _ => ?_) | refine cw_cond_t (ht := ?_) | refine cw_cond_f (hf := ?_) | apply cw_skip | apply cw_block | apply cw_ret | apply cw_exit | refine sy_arrA (h := ?_) | refine sy_strI (h := ?_) | (refine cw_cond (ht := ?_) (hf := ?_); all_goals (intro hx_; first | have := of_decide_eq_true hx_ | have := of_decide_eq_false hx_ | skip)))
  (all_goals (apply ends_ret; apply res_tmp; rfl; rfl)); all_goals first | rfl | (simp only [boxV, *, decide_true, decide_false, cond_true, cond_false, Bool.and_true, Bool.true_and, Bool.and_false, Bool.false_and, Bool.not_true, Bool.not_false, Bool.or_true, Bool.true_or, Bool.or_false, Bool.false_or]; done) | (simp_all [boxV]; done)
end Go.Proofs.YtlankpiogfhblaaGreatDoor

/- Function values; a call that changes one resource; act.used. -/
set_option linter.unusedVariables false
set_option linter.unusedSimpArgs false
namespace Go.Proofs.YtlankpiogfhblaaGreatDoor.Sy
open Go Go.RowKit
section
variable {P : Program} {N : Nat} {av bor : List Nat} {w0 : World} {ops : Array Oper} {rest : List Oper} {k : St → Prop} {E : Env} {loc loc' : List Res} {X : World → Prop}
variable {d : Option Tmp} {ty : TypeId} {pos : String} {af : Array Edge} {g : Option (Nat × Bool)} {bb want : Bool} {K : Exit → St → Prop}
theorem y_makeFunc {st : St} {fn : Fn} {xs : List Operand} {vs : List Value} (hx : evs st.env xs = some vs) : Sy.Yields P N av bor w0 st (.makeFunc fn #[] xs.toArray) ty (.func fn #[] vs.toArray) := Sy.Yields.mk fun A w ok d pos af g => by
  have e := evs_eval (E := st.env) (loc := st.loc) (X := st.ext) ok xs vs hx
  have e1 : xs.toArray.map A.eval = vs.toArray := by rw [List.map_toArray, e]
  simp [execOp, Instr.makeFunc, e1, e]
theorem sy_makeFunc {n : Nat} {fn : Fn} {xs : List Operand} {vs : List Value} (hx : evs E xs = some vs := by rfl) (hg : gdB ops E g = some (bb, want) := by rfl) (hbb : bb = want := by (first | with_reducible rfl | with_reducible assumption | with_reducible exact Bool.not_false | with_reducible exact Bool.not_true)) (hd : Nat.blt n N = true := by rfl) (h : Sw P N av bor w0 ops rest ⟨(n, .func fn #[] vs.toArray) :: E, loc, X⟩ k) :
    Sw P N av bor w0 ops (⟨some n, .makeFunc fn #[] xs.toArray, ty, pos, af, g⟩ :: rest) ⟨E, loc, X⟩ k := sw_yield (y_makeFunc hx) hg hbb hd h
/-- A call that turns one resource. -/
theorem sw_turn {x : Operand} {xs : List Operand} {ats : Array TypeId} {f : FuncId} {first caps : Array Value} {args all : List Value} {X1 : World → Prop} {v : Value} {r r' : Res}
    (hx : ev E x = some (.func (.func f) first caps) := by rfl) (ha : evs E xs = some args := by rfl) (hall : first.toList ++ args ++ caps.toList = all := by rfl) (hg : gdB ops E g = some (bb, want) := by rfl) (hb : bb = want := by (first | with_reducible rfl | with_reducible assumption | with_reducible exact Bool.not_false | with_reducible exact Bool.not_true)) (hd : inB N d = true := by rfl) (hf : FnBody P f := by infer_instance)
    (hc : Ct P f all.toArray [r] X1 fun u R _ => u = v ∧ R = [r']) (hA : At r r' loc loc' := by (repeat (first | exact At.here _ | apply At.there))) (hX : ∀ w, X w → X1 w := by (first | exact fun _ _ => trivial | exact fun _ h => h | exact fun _ h => h.1 | exact fun _ h => h.2))
    (h : Sw P N av bor w0 ops rest ⟨putE E d v, loc', X⟩ k) :
    Sw P N av bor w0 ops (⟨d, .call ⟨.value x, xs.toArray, ats⟩, ty, pos, af, g⟩ :: rest) ⟨E, loc, X⟩ k := by
  obtain ⟨f', h1, h2⟩ := hA.perm
  refine sw_perm h1 ?_
  refine sw_fn (pre := [r]) (fr := f') (Post := fun u R _ => u = v ∧ R = [r']) hx ha hall hg hb hd hf hc hX fun u R X' ⟨h3, h4⟩ => ?_
  subst h3; subst h4
  refine sw_to (fun a w ok => ?_) h
  exact ok.via fun M G => (G.imp fun _ h => h.1).perm (h2.symm.append_right M)
end
end Go.Proofs.YtlankpiogfhblaaGreatDoor.Sy
namespace Go.Proofs.YtlankpiogfhblaaGreatDoor
open Go Go.Proofs Sy
def noteV (n f : Int) (z : Bool) : Int := bif !z then bitsV .or .i64 n f else n
theorem used1_ct (b : Nat) (f : Int) (z : Bool) (n : Int) : Ct Tryz.prog 117 #[.int .i64 f, .bool z, .pointer (some ⟨b, 0, none⟩)] [cel b 3 [.int .i64 n]] (fun _ => True) fun u R _ => u = .tuple #[] ∧ R = [cel b 3 [.int .i64 (noteV n f z)]] := by
  refine ct_of_cw (args := [_, _, _]) _ Tryz.func117 rfl Tryz.ntmps117 rfl fun av bor w0 => ?_
  repeat' (first | apply sw_nil | apply cw_seq | apply cw_reg | refine sy_move (h := ?_) | refine sy_assign (h := ?_) | refine sy_ld (h := ?_) | refine sy_ldAll (h := ?_) | refine sy_not (h := ?_) | refine sw_st1 (h := ?_) | refine sw_stAll (h := ?_) | refine cw_cond_t (ht := ?_) | refine cw_cond_f (hf := ?_) | apply cw_skip | apply cw_block | apply cw_ret | apply cw_exit | refine sy_or (h := ?_) | refine sy_arrA (h := ?_) | refine sy_strI (h := ?_) | (refine sy_or (h := ?_)) | (refine cw_cond (ht := ?_) (hf := ?_); all_goals (intro hx_; first | have := of_decide_eq_true hx_ | have := of_decide_eq_false hx_ | skip)))
  · refine ends_end (res_none rfl) ⟨rfl, ?_⟩
    simp only [noteV, *, decide_true, decide_false, cond_true, cond_false, Bool.and_true, Bool.true_and, Bool.and_false, Bool.false_and, Bool.not_true, Bool.not_false, Bool.or_true, Bool.true_or, Bool.or_false, Bool.false_or]
    rfl
  · refine ends_end (res_none rfl) ⟨rfl, ?_⟩
    simp only [noteV, *, decide_true, decide_false, cond_true, cond_false, Bool.and_true, Bool.true_and, Bool.and_false, Bool.false_and, Bool.not_true, Bool.not_false, Bool.or_true, Bool.true_or, Bool.or_false, Bool.false_or]
def usedV (a : ActD) : Int :=
  noteV (noteV (noteV (noteV (noteV (noteV (noteV (noteV (noteV (noteV (noteV 0 1 (seqB a.object ⟨#[]⟩)) 2 (seqB a.target ⟨#[]⟩)) 4 (decide (a.scope = 0))) 8 (seqB a.group ⟨#[]⟩)) 16 (decide ((a.to.n : Int) = 0))) 32 (seqB a.text ⟨#[]⟩))
    64 (boxEq a.body BoxD.zero)) 128 (decide (a.epoch = 0))) 256 (decide ((a.wraps.n : Int) = 0))) 512 (decide (a.n = 0))) 1024 (decide (a.m = 0))
theorem used_pu (a : ActD) : Pu Tryz.prog 73 #[a.v] (fun _ => True) (.int .i64 (usedV a)) := by
  refine pu_of_cw (args := [_]) _ Tryz.func73 rfl Tryz.ntmps73 rfl fun av bor w0 => ?_
  repeat' (first | apply sw_nil | apply cw_seq | apply cw_reg | refine sy_move (h := ?_) | refine sy_assign (h := ?_) | refine sy_fld (h := ?_) | refine sy_ld (h := ?_) | refine sy_ldAll (h := ?_) | refine sy_eql (h := ?_) | refine sy_seql (h := ?_) | refine sy_slen (h := ?_) | refine sy_len (h := ?_) | refine sw_alloc (h := fun _ => ?_) | refine sw_box (h := fun _ => ?_) | refine sw_st1 (h := ?_) | refine sw_stAll (h := ?_) | refine cw_cond_t (ht := ?_) | refine cw_cond_f (hf := ?_) | apply cw_skip | apply cw_block | apply cw_ret | apply cw_exit | refine sy_beql (h := ?_) | refine sy_arrA (h := ?_) | refine sy_strI (h := ?_) | (refine sy_makeFunc (h := ?_)) | (refine sy_build0 (h := ?_)) | (refine sy_boxEq (h := ?_)) | (refine sy_ldSub (h := ?_)) | (refine sw_turn (hc := used1_ct _ _ _ _) (hX := fun _ _ => trivial) (h := ?_)))
  (all_goals (apply ends_ret; apply res_tmp; rfl; rfl)); all_goals first | rfl | (simp only [usedV, *, decide_true, decide_false, cond_true, cond_false, Bool.and_true, Bool.true_and, Bool.and_false, Bool.false_and, Bool.not_true, Bool.not_false, Bool.or_true, Bool.true_or, Bool.or_false, Bool.false_or]; done) | (simp_all [usedV]; done)
end Go.Proofs.YtlankpiogfhblaaGreatDoor

/- Contracts: act.rules, act.Right. -/
set_option linter.unusedVariables false
set_option linter.unusedSimpArgs false
namespace Go.Proofs.YtlankpiogfhblaaGreatDoor
open Go Go.Proofs Sy
instance : TyMap Tryz.prog 139 137 (keyD Int) := ⟨by kernel_rfl⟩
def ruleV (fs : Int) (f : Nat) : Value := .agg #[.int .i64 fs, .func (.func f) #[] #[]]
def rulesL : List (Int × Value) := [(0, ruleV 1568 107), (1, ruleV 252 103), (2, ruleV 253 101), (3, ruleV 253 101), (14, ruleV 253 101), (4, ruleV 1 102), (5, ruleV 1 102), (6, ruleV 1 102), (13, ruleV 1 102), (20, ruleV 1 102), (7, ruleV 2 104), (8, ruleV 2 104), (9, ruleV 2 104), (10, ruleV 2 104), (11, ruleV 2 104), (12, ruleV 33 105), (21, ruleV 33 105), (15, ruleV 24 110), (16, ruleV 412 112), (17, ruleV 35 113), (18, ruleV 1536 109), (19, ruleV 1808 114), (22, ruleV 513 115), (23, ruleV 546 116)]
def RulesAt (u : Value) (X : World → Prop) : Prop := ∃ q, u = .map (some q) ∧ ∀ w, X w → MapAt w q rulesL
theorem rules_mk : Mk Tryz.prog 72 #[] (fun _ => True) RulesAt := by
  refine mk_of_cw2 (args := []) _ Tryz.func72 rfl Tryz.ntmps72 rfl fun av bor w0 => ?_
  repeat' (first | apply sw_nil | apply cw_seq | apply cw_reg | refine sy_move (h := ?_) | refine sy_assign (h := ?_) | refine sy_ld (h := ?_) | refine sy_ldAll (h := ?_) | refine sw_alloc (h := fun _ => ?_) | refine sw_st1 (h := ?_) | refine sw_stAll (h := ?_) | refine cw_cond_t (ht := ?_) | refine cw_cond_f (hf := ?_) | apply cw_skip | apply cw_block | apply cw_ret | apply cw_exit | refine sy_arrA (h := ?_) | refine sy_strI (h := ?_) | (refine sy_build (h := ?_)) | (refine sw_makeMap Int (h := fun _ => ?_)) | (refine sw_insert (h := ?_)))
  refine ends_ret (res_tmp rfl rfl) ⟨_, rfl, fun w h => ?_⟩
  have := h.2 _ List.mem_cons_self
  exact this
theorem pu_imp {P : Program} {f : FuncId} {args : Array Value} {X : World → Prop} {v : Value} (h : Pu P f args (fun _ => True) v) : Pu P f args X v := by
  unfold Pu at h ⊢
  exact Ct.mk fun w av G => h.run w av (G.imp fun _ _ => trivial)
def ruleL (a : ActD) : List (Int × (Int × Bool)) := [(0, (1568, rule3B a)), (1, (252, audienceB a)), (2, (253, rule1B a)), (3, (253, rule1B a)), (14, (253, rule1B a)), (4, (1, objectB a)), (5, (1, objectB a)), (6, (1, objectB a)), (13, (1, objectB a)), (20, (1, objectB a)), (7, (2, targetB a)), (8, (2, targetB a)), (9, (2, targetB a)), (10, (2, targetB a)), (11, (2, targetB a)), (12, (33, rule2B a)), (21, (33, rule2B a)), (15, (24, rule4B a)), (16, (412, grantB a)), (17, (35, labelB a)), (18, (1536, homeB a)), (19, (1808, setupB a)), (22, (513, rule5B a)), (23, (546, rule6B a))]
def RuleOk (a : ActD) (v : Value) (x : Int × Bool) : Prop := ∃ f, v = ruleV x.1 f ∧ FnBody Tryz.prog f ∧ Pu Tryz.prog f #[a.v] (ActD.at_ · a) (.bool x.2)
def Rel2 (R : Value → Int × Bool → Prop) : List (Int × Value) → List (Int × (Int × Bool)) → Prop
  | [], [] => True
  | (k, v) :: r, (k', x) :: r' => k = k' ∧ R v x ∧ Rel2 R r r'
  | _, _ => False
theorem rel2 {R : Value → Int × Bool → Prop} (k : Int) : ∀ (l : List (Int × Value)) (l' : List (Int × (Int × Bool))), Rel2 R l l' → (mget l k = none ∧ mget l' k = none) ∨ ∃ v x, mget l k = some v ∧ mget l' k = some x ∧ R v x
  | [], [], _ => .inl ⟨rfl, rfl⟩
  | [], _ :: _, h => h.elim
  | _ :: _, [], h => h.elim
  | (j, v) :: r, (j', x) :: r', h => by
    obtain ⟨rfl, h1, h2⟩ := h
    simp only [mget]
    cases KeyT.eqb k j with
    | true => exact .inr ⟨v, x, rfl, rfl, h1⟩
    | false => exact rel2 k r r' h2
theorem rules_rel (a : ActD) : Rel2 (RuleOk a) rulesL (ruleL a) := ⟨rfl, ⟨_, rfl, inferInstance, pu_imp (rule3_pu a)⟩, rfl, ⟨_, rfl, inferInstance, audience_pu a⟩, rfl, ⟨_, rfl, inferInstance, rule1_pu a⟩, rfl, ⟨_, rfl, inferInstance, rule1_pu a⟩, rfl, ⟨_, rfl, inferInstance, rule1_pu a⟩, rfl, ⟨_, rfl, inferInstance, pu_imp (object_pu a)⟩, rfl, ⟨_, rfl, inferInstance, pu_imp (object_pu a)⟩, rfl, ⟨_, rfl, inferInstance, pu_imp (object_pu a)⟩, rfl, ⟨_, rfl, inferInstance, pu_imp (object_pu a)⟩, rfl, ⟨_, rfl, inferInstance, pu_imp (object_pu a)⟩, rfl, ⟨_, rfl, inferInstance, pu_imp (target_pu a)⟩, rfl, ⟨_, rfl, inferInstance, pu_imp (target_pu a)⟩, rfl, ⟨_, rfl, inferInstance, pu_imp (target_pu a)⟩, rfl, ⟨_, rfl, inferInstance, pu_imp (target_pu a)⟩, rfl, ⟨_, rfl, inferInstance, pu_imp (target_pu a)⟩, rfl, ⟨_, rfl, inferInstance, pu_imp (rule2_pu a)⟩, rfl, ⟨_, rfl, inferInstance, pu_imp (rule2_pu a)⟩, rfl, ⟨_, rfl, inferInstance, rule4_pu a⟩, rfl, ⟨_, rfl, inferInstance, grant_pu a⟩, rfl, ⟨_, rfl, inferInstance, pu_imp (label_pu a)⟩, rfl, ⟨_, rfl, inferInstance, pu_imp (home_pu a)⟩, rfl, ⟨_, rfl, inferInstance, setup_pu a⟩, rfl, ⟨_, rfl, inferInstance, pu_imp (rule5_pu a)⟩, rfl, ⟨_, rfl, inferInstance, pu_imp (rule6_pu a)⟩, trivial⟩
def ruleB (a : ActD) : Bool :=
  match mget (ruleL a) a.kind with
  | none => false
  | some (fs, b) => decide (bitsV .andNot .i64 (usedV a) fs = 0) && b
def rightB (a : ActD) : Bool :=
  isId a.author && placedB a && withinB a.time 0 1099511627776 && withinB a.e 0 2305843009213693949 && withinB a.s 0 2305843009213693949 && ruleB a
theorem actRight_pu (a : ActD) : Pu Tryz.prog 53 #[a.v] (ActD.at_ · a) (.bool (rightB a)) := by
  refine pu_of_cw (args := [_]) _ Tryz.func53 rfl Tryz.ntmps53 rfl fun av bor w0 => ?_
  repeat' (first | apply sw_nil | apply cw_seq | apply cw_reg | refine sy_move (h := ?_) | refine sy_assign (h := ?_) | refine sy_fld (h := ?_) | refine sy_ld (h := ?_) | refine sy_ldAll (h := ?_) | refine sy_pick_t (h := ?_) | refine sy_pick_f (h := ?_) | refine sy_not (h := ?_) | refine sy_eql (h := ?_) | refine sy_seql (h := ?_) | refine sy_extract (h := ?_) | refine sw_skipT (h := ?_) | refine sw_skipF (h := ?_) | refine sw_skipU (h := ?_) | refine sw_alloc (h := fun _ => ?_) | refine sw_box (h := fun _ => ?_) | refine sw_st1 (h := ?_) | refine sw_stAll (h := ?_) | refine cw_cond_t (ht := ?_) | refine cw_cond_f (hf := ?_) | apply cw_skip | apply cw_block | apply cw_ret | apply cw_exit | refine sy_andNot (h := ?_) | refine sy_beql (h := ?_) | refine sy_arrA (h := ?_) | refine sy_strI (h := ?_) | refine sw_pu (hc := right_pu _) (h := ?_) | refine sw_pu (hc := placed_pu a) (h := ?_) | refine sw_pu (hc := within_pu _ _ _) (h := ?_) | ((fail_if_success (refine sw_chk (h := ?_))); refine sw_guard (ht := ?_) (hf := ?_); all_goals (intro hx_; first | have := of_decide_eq_true hx_ | have := of_decide_eq_false hx_ | skip)) | (refine cw_cond (ht := ?_) (hf := ?_); all_goals (intro hx_; first | have := of_decide_eq_true hx_ | have := of_decide_eq_false hx_ | skip)))
  all_goals try ((all_goals (apply ends_ret; apply res_tmp; rfl; rfl)); all_goals first | rfl | (simp only [rightB, *, decide_true, decide_false, cond_true, cond_false, Bool.and_true, Bool.true_and, Bool.and_false, Bool.false_and, Bool.not_true, Bool.not_false, Bool.or_true, Bool.true_or, Bool.or_false, Bool.false_or]; done) | (simp_all [rightB]; done))
  rcases rel2 a.kind _ _ (rules_rel a) with ⟨hk, hk'⟩ | ⟨v, ⟨fs, b⟩, hk, hk', f, rfl, hf, hc⟩
  · (apply cw_draw0; kernel_rfl)
    all_goals (refine aw_take 1 (h := ?_))
    all_goals (refine aw_take 2 (h := ?_))
    all_goals (refine aw_two 0 7 (h := ?_) (h' := ?_); (focus (((first | (refine sw_mk (hc := rules_mk) (h := fun _ _ hR_ => ?_); obtain ⟨q_, hq_, hM_⟩ := hR_; subst hq_) | (refine sy_lookup2 (κ := Int) (b := false) (v := .agg #[.int .i64 0, .nilFunc]) (hl := by exact map_ext (fun w h => hM_ w h.2)) (ho := hk) (h := ?_))); apply sw_nil; refine aw_fin (h := ?_)); all_goals ((refine aw_two 3 7 (h := ?_) (h' := ?_); (focus (((first | (refine sy_lookup2 (κ := Int) (b := false) (v := .agg #[.int .i64 0, .nilFunc]) (hl := by exact map_ext (fun w h => hM_ w h.2)) (ho := hk) (h := ?_))); apply sw_nil; refine aw_fin (h := ?_)); all_goals ((refine aw_take 4 (h := ?_)); all_goals (refine aw_take 5 (h := ?_)); all_goals (refine aw_take 6 (h := ?_)); all_goals (refine aw_step 7 (h := ?_); (first | (refine sw_alloc (h := fun _ => ?_)) | (refine sy_lookup2 (κ := Int) (b := false) (v := .agg #[.int .i64 0, .nilFunc]) (hl := by exact map_ext (fun w h => hM_ w h.2)) (ho := hk) (h := ?_))); apply sw_nil; refine aw_fin (h := ?_)); all_goals (refine aw_step 8 (h := ?_); (first | (refine sw_st1 (h := ?_)) | (refine sw_stAll (h := ?_)) | (refine sy_lookup2 (κ := Int) (b := false) (v := .agg #[.int .i64 0, .nilFunc]) (hl := by exact map_ext (fun w h => hM_ w h.2)) (ho := hk) (h := ?_))); apply sw_nil; refine aw_fin (h := ?_)); all_goals (refine aw_take 9 (h := ?_)); all_goals (refine aw_done (h := ?_))))); rotate_right; (focus (((first | (refine sw_alloc (h := fun _ => ?_)) | (refine sy_lookup2 (κ := Int) (b := false) (v := .agg #[.int .i64 0, .nilFunc]) (hl := by exact map_ext (fun w h => hM_ w h.2)) (ho := hk) (h := ?_))); apply sw_nil; refine aw_fin (h := ?_)); all_goals ((refine aw_step 3 (h := ?_); (first | (refine sy_lookup2 (κ := Int) (b := false) (v := .agg #[.int .i64 0, .nilFunc]) (hl := by exact map_ext (fun w h => hM_ w h.2)) (ho := hk) (h := ?_))); apply sw_nil; refine aw_fin (h := ?_)); all_goals (refine aw_take 4 (h := ?_)); all_goals (refine aw_take 5 (h := ?_)); all_goals (refine aw_take 6 (h := ?_)); all_goals (refine aw_step 8 (h := ?_); (first | (refine sw_st1 (h := ?_)) | (refine sw_stAll (h := ?_)) | (refine sy_lookup2 (κ := Int) (b := false) (v := .agg #[.int .i64 0, .nilFunc]) (hl := by exact map_ext (fun w h => hM_ w h.2)) (ho := hk) (h := ?_))); apply sw_nil; refine aw_fin (h := ?_)); all_goals (refine aw_take 9 (h := ?_)); all_goals (refine aw_done (h := ?_))))))))); rotate_right; (focus (((first | (refine sw_alloc (h := fun _ => ?_)) | (refine sy_lookup2 (κ := Int) (b := false) (v := .agg #[.int .i64 0, .nilFunc]) (hl := by exact map_ext (fun w h => hM_ w h.2)) (ho := hk) (h := ?_))); apply sw_nil; refine aw_fin (h := ?_)); all_goals ((refine aw_step 0 (h := ?_); (first | (refine sw_mk (hc := rules_mk) (h := fun _ _ hR_ => ?_); obtain ⟨q_, hq_, hM_⟩ := hR_; subst hq_) | (refine sy_lookup2 (κ := Int) (b := false) (v := .agg #[.int .i64 0, .nilFunc]) (hl := by exact map_ext (fun w h => hM_ w h.2)) (ho := hk) (h := ?_))); apply sw_nil; refine aw_fin (h := ?_)); all_goals (refine aw_step 3 (h := ?_); (first | (refine sy_lookup2 (κ := Int) (b := false) (v := .agg #[.int .i64 0, .nilFunc]) (hl := by exact map_ext (fun w h => hM_ w h.2)) (ho := hk) (h := ?_))); apply sw_nil; refine aw_fin (h := ?_)); all_goals (refine aw_take 4 (h := ?_)); all_goals (refine aw_take 5 (h := ?_)); all_goals (refine aw_take 6 (h := ?_)); all_goals (refine aw_step 8 (h := ?_); (first | (refine sw_st1 (h := ?_)) | (refine sw_stAll (h := ?_)) | (refine sy_lookup2 (κ := Int) (b := false) (v := .agg #[.int .i64 0, .nilFunc]) (hl := by exact map_ext (fun w h => hM_ w h.2)) (ho := hk) (h := ?_))); apply sw_nil; refine aw_fin (h := ?_)); all_goals (refine aw_take 9 (h := ?_)); all_goals (refine aw_done (h := ?_))))))
    all_goals (repeat' (first | apply sw_nil | apply cw_seq | apply cw_reg | refine sy_move (h := ?_) | refine sy_assign (h := ?_) | refine sy_fld (h := ?_) | refine sy_ld (h := ?_) | refine sy_ldAll (h := ?_) | refine sy_pick_t (h := ?_) | refine sy_pick_f (h := ?_) | refine sy_not (h := ?_) | refine sy_eql (h := ?_) | refine sy_seql (h := ?_) | refine sy_extract (h := ?_) | refine sw_skipT (h := ?_) | refine sw_skipF (h := ?_) | refine sw_skipU (h := ?_) | refine sw_alloc (h := fun _ => ?_) | refine sw_box (h := fun _ => ?_) | refine sw_st1 (h := ?_) | refine sw_stAll (h := ?_) | refine cw_cond_t (ht := ?_) | refine cw_cond_f (hf := ?_) | apply cw_skip | apply cw_block | apply cw_ret | apply cw_exit | refine sy_andNot (h := ?_) | refine sy_beql (h := ?_) | refine sy_arrA (h := ?_) | refine sy_strI (h := ?_) | ((fail_if_success (refine sw_chk (h := ?_))); refine sw_guard (ht := ?_) (hf := ?_); all_goals (intro hx_; first | have := of_decide_eq_true hx_ | have := of_decide_eq_false hx_ | skip)) | (refine cw_cond (ht := ?_) (hf := ?_); all_goals (intro hx_; first | have := of_decide_eq_true hx_ | have := of_decide_eq_false hx_ | skip))))
    all_goals (
      (apply cw_draw0; kernel_rfl)
      all_goals (refine aw_take 0 (h := ?_))
      all_goals (refine aw_take 1 (h := ?_))
      all_goals (first | (first | refine aw_take 2 (h := ?_) | refine aw_take 2 (hy := by (first | (apply y_andNot; rfl; rfl))) (h := ?_)) | (refine aw_skipT 2 (h := ?_)) | (refine aw_skipF 2 (h := ?_)) | (refine aw_skipU 2 (h := ?_)) | (refine aw_guard 2 (ht := ?_) (hf := ?_); all_goals (intro hx_; first | have := of_decide_eq_true hx_ | have := of_decide_eq_false hx_ | skip); all_goals (first | (first | refine aw_take 2 (h := ?_) | refine aw_take 2 (hy := by (first | (apply y_andNot; rfl; rfl))) (h := ?_)) | (refine aw_skipT 2 (h := ?_)) | (refine aw_skipF 2 (h := ?_)) | (refine aw_skipU 2 (h := ?_)))))
      all_goals (first | (first | refine aw_take 4 (h := ?_) | refine aw_take 4 (hy := by (first | (apply y_andNot; rfl; rfl))) (h := ?_)) | (refine aw_skipT 4 (h := ?_)) | (refine aw_skipF 4 (h := ?_)) | (refine aw_skipU 4 (h := ?_)) | (refine aw_guard 4 (ht := ?_) (hf := ?_); all_goals (intro hx_; first | have := of_decide_eq_true hx_ | have := of_decide_eq_false hx_ | skip); all_goals (first | (first | refine aw_take 4 (h := ?_) | refine aw_take 4 (hy := by (first | (apply y_andNot; rfl; rfl))) (h := ?_)) | (refine aw_skipT 4 (h := ?_)) | (refine aw_skipF 4 (h := ?_)) | (refine aw_skipU 4 (h := ?_)))))
      all_goals (first | (first | refine aw_take 5 (h := ?_) | refine aw_take 5 (hy := by (first | (apply y_andNot; rfl; rfl))) (h := ?_)) | (refine aw_skipT 5 (h := ?_)) | (refine aw_skipF 5 (h := ?_)) | (refine aw_skipU 5 (h := ?_)) | (refine aw_guard 5 (ht := ?_) (hf := ?_); all_goals (intro hx_; first | have := of_decide_eq_true hx_ | have := of_decide_eq_false hx_ | skip); all_goals (first | (first | refine aw_take 5 (h := ?_) | refine aw_take 5 (hy := by (first | (apply y_andNot; rfl; rfl))) (h := ?_)) | (refine aw_skipT 5 (h := ?_)) | (refine aw_skipF 5 (h := ?_)) | (refine aw_skipU 5 (h := ?_)))))
      all_goals (first | (refine aw_step 3 (h := ?_); (first | (refine sw_skipT (h := ?_)) | (refine sw_skipF (h := ?_)) | (refine sw_skipU (h := ?_)) | refine sw_pu (hc := used_pu a) (h := ?_) | (refine sw_pu (hf := hf) (hc := hc) (h := ?_))); apply sw_nil; refine aw_fin (h := ?_)) | (refine aw_skipT 3 (h := ?_)) | (refine aw_skipF 3 (h := ?_)) | (refine aw_skipU 3 (h := ?_)) | (refine aw_guard 3 (ht := ?_) (hf := ?_); all_goals (intro hx_; first | have := of_decide_eq_true hx_ | have := of_decide_eq_false hx_ | skip); all_goals (first | (refine aw_step 3 (h := ?_); (first | (refine sw_skipT (h := ?_)) | (refine sw_skipF (h := ?_)) | (refine sw_skipU (h := ?_)) | refine sw_pu (hc := used_pu a) (h := ?_) | (refine sw_pu (hf := hf) (hc := hc) (h := ?_))); apply sw_nil; refine aw_fin (h := ?_)) | (refine aw_skipT 3 (h := ?_)) | (refine aw_skipF 3 (h := ?_)) | (refine aw_skipU 3 (h := ?_)))))
      all_goals (first | (first | refine aw_take 6 (h := ?_) | refine aw_take 6 (hy := by (first | (apply y_andNot; rfl; rfl))) (h := ?_)) | (refine aw_skipT 6 (h := ?_)) | (refine aw_skipF 6 (h := ?_)) | (refine aw_skipU 6 (h := ?_)) | (refine aw_guard 6 (ht := ?_) (hf := ?_); all_goals (intro hx_; first | have := of_decide_eq_true hx_ | have := of_decide_eq_false hx_ | skip); all_goals (first | (first | refine aw_take 6 (h := ?_) | refine aw_take 6 (hy := by (first | (apply y_andNot; rfl; rfl))) (h := ?_)) | (refine aw_skipT 6 (h := ?_)) | (refine aw_skipF 6 (h := ?_)) | (refine aw_skipU 6 (h := ?_)))))
      all_goals (first | (first | refine aw_take 7 (h := ?_) | refine aw_take 7 (hy := by (first | (apply y_andNot; rfl; rfl))) (h := ?_)) | (refine aw_skipT 7 (h := ?_)) | (refine aw_skipF 7 (h := ?_)) | (refine aw_skipU 7 (h := ?_)) | (refine aw_guard 7 (ht := ?_) (hf := ?_); all_goals (intro hx_; first | have := of_decide_eq_true hx_ | have := of_decide_eq_false hx_ | skip); all_goals (first | (first | refine aw_take 7 (h := ?_) | refine aw_take 7 (hy := by (first | (apply y_andNot; rfl; rfl))) (h := ?_)) | (refine aw_skipT 7 (h := ?_)) | (refine aw_skipF 7 (h := ?_)) | (refine aw_skipU 7 (h := ?_)))))
      all_goals (refine aw_take 8 (h := ?_))
      all_goals (refine aw_take 9 (h := ?_))
      all_goals (first | (first | refine aw_take 10 (h := ?_) | refine aw_take 10 (hy := by (first | (apply y_andNot; rfl; rfl))) (h := ?_)) | (refine aw_skipT 10 (h := ?_)) | (refine aw_skipF 10 (h := ?_)) | (refine aw_skipU 10 (h := ?_)) | (refine aw_guard 10 (ht := ?_) (hf := ?_); all_goals (intro hx_; first | have := of_decide_eq_true hx_ | have := of_decide_eq_false hx_ | skip); all_goals (first | (first | refine aw_take 10 (h := ?_) | refine aw_take 10 (hy := by (first | (apply y_andNot; rfl; rfl))) (h := ?_)) | (refine aw_skipT 10 (h := ?_)) | (refine aw_skipF 10 (h := ?_)) | (refine aw_skipU 10 (h := ?_)))))
      all_goals (first | (first | refine aw_take 11 (h := ?_) | refine aw_take 11 (hy := by (first | (apply y_andNot; rfl; rfl))) (h := ?_)) | (refine aw_skipT 11 (h := ?_)) | (refine aw_skipF 11 (h := ?_)) | (refine aw_skipU 11 (h := ?_)) | (refine aw_guard 11 (ht := ?_) (hf := ?_); all_goals (intro hx_; first | have := of_decide_eq_true hx_ | have := of_decide_eq_false hx_ | skip); all_goals (first | (first | refine aw_take 11 (h := ?_) | refine aw_take 11 (hy := by (first | (apply y_andNot; rfl; rfl))) (h := ?_)) | (refine aw_skipT 11 (h := ?_)) | (refine aw_skipF 11 (h := ?_)) | (refine aw_skipU 11 (h := ?_)))))
      all_goals (first | (first | refine aw_take 12 (h := ?_) | refine aw_take 12 (hy := by (first | (apply y_andNot; rfl; rfl))) (h := ?_)) | (refine aw_skipT 12 (h := ?_)) | (refine aw_skipF 12 (h := ?_)) | (refine aw_skipU 12 (h := ?_)) | (refine aw_guard 12 (ht := ?_) (hf := ?_); all_goals (intro hx_; first | have := of_decide_eq_true hx_ | have := of_decide_eq_false hx_ | skip); all_goals (first | (first | refine aw_take 12 (h := ?_) | refine aw_take 12 (hy := by (first | (apply y_andNot; rfl; rfl))) (h := ?_)) | (refine aw_skipT 12 (h := ?_)) | (refine aw_skipF 12 (h := ?_)) | (refine aw_skipU 12 (h := ?_)))))
      all_goals (first | (refine aw_step 13 (h := ?_); (first | (refine sw_skipT (h := ?_)) | (refine sw_skipF (h := ?_)) | (refine sw_skipU (h := ?_)) | refine sw_pu (hc := used_pu a) (h := ?_) | (refine sw_pu (hf := hf) (hc := hc) (h := ?_))); apply sw_nil; refine aw_fin (h := ?_)) | (refine aw_skipT 13 (h := ?_)) | (refine aw_skipF 13 (h := ?_)) | (refine aw_skipU 13 (h := ?_)) | (refine aw_guard 13 (ht := ?_) (hf := ?_); all_goals (intro hx_; first | have := of_decide_eq_true hx_ | have := of_decide_eq_false hx_ | skip); all_goals (first | (refine aw_step 13 (h := ?_); (first | (refine sw_skipT (h := ?_)) | (refine sw_skipF (h := ?_)) | (refine sw_skipU (h := ?_)) | refine sw_pu (hc := used_pu a) (h := ?_) | (refine sw_pu (hf := hf) (hc := hc) (h := ?_))); apply sw_nil; refine aw_fin (h := ?_)) | (refine aw_skipT 13 (h := ?_)) | (refine aw_skipF 13 (h := ?_)) | (refine aw_skipU 13 (h := ?_)))))
      all_goals (refine aw_take 14 (h := ?_))
      all_goals (refine aw_take 15 (h := ?_))
      all_goals (refine aw_done (h := ?_)))
    all_goals (repeat' (first | apply sw_nil | apply cw_seq | apply cw_reg | refine sy_move (h := ?_) | refine sy_assign (h := ?_) | refine sy_fld (h := ?_) | refine sy_ld (h := ?_) | refine sy_ldAll (h := ?_) | refine sy_pick_t (h := ?_) | refine sy_pick_f (h := ?_) | refine sy_not (h := ?_) | refine sy_eql (h := ?_) | refine sy_seql (h := ?_) | refine sy_extract (h := ?_) | refine sw_skipT (h := ?_) | refine sw_skipF (h := ?_) | refine sw_skipU (h := ?_) | refine sw_alloc (h := fun _ => ?_) | refine sw_box (h := fun _ => ?_) | refine sw_st1 (h := ?_) | refine sw_stAll (h := ?_) | refine cw_cond_t (ht := ?_) | refine cw_cond_f (hf := ?_) | apply cw_skip | apply cw_block | apply cw_ret | apply cw_exit | refine sy_andNot (h := ?_) | refine sy_beql (h := ?_) | refine sy_arrA (h := ?_) | refine sy_strI (h := ?_) | ((fail_if_success (refine sw_chk (h := ?_))); refine sw_guard (ht := ?_) (hf := ?_); all_goals (intro hx_; first | have := of_decide_eq_true hx_ | have := of_decide_eq_false hx_ | skip)) | (refine cw_cond (ht := ?_) (hf := ?_); all_goals (intro hx_; first | have := of_decide_eq_true hx_ | have := of_decide_eq_false hx_ | skip))))
    all_goals (apply ends_ret; apply res_tmp; rfl; rfl)
    all_goals (simp only [rightB, ruleB, hk', *, decide_true, decide_false, cond_true, cond_false, Bool.and_true, Bool.true_and, Bool.and_false, Bool.false_and, Bool.not_true, Bool.not_false, Bool.or_true, Bool.true_or, Bool.or_false, Bool.false_or] at *; try simp_all)
  · (apply cw_draw0; kernel_rfl)
    all_goals (refine aw_take 1 (h := ?_))
    all_goals (refine aw_take 2 (h := ?_))
    all_goals (refine aw_two 0 7 (h := ?_) (h' := ?_); (focus (((first | (refine sw_mk (hc := rules_mk) (h := fun _ _ hR_ => ?_); obtain ⟨q_, hq_, hM_⟩ := hR_; subst hq_) | (refine sy_lookup2 (κ := Int) (b := true) (v := ruleV fs f) (hl := by exact map_ext (fun w h => hM_ w h.2)) (ho := hk) (h := ?_))); apply sw_nil; refine aw_fin (h := ?_)); all_goals ((refine aw_two 3 7 (h := ?_) (h' := ?_); (focus (((first | (refine sy_lookup2 (κ := Int) (b := true) (v := ruleV fs f) (hl := by exact map_ext (fun w h => hM_ w h.2)) (ho := hk) (h := ?_))); apply sw_nil; refine aw_fin (h := ?_)); all_goals ((refine aw_take 4 (h := ?_)); all_goals (refine aw_take 5 (h := ?_)); all_goals (refine aw_take 6 (h := ?_)); all_goals (refine aw_step 7 (h := ?_); (first | (refine sw_alloc (h := fun _ => ?_)) | (refine sy_lookup2 (κ := Int) (b := true) (v := ruleV fs f) (hl := by exact map_ext (fun w h => hM_ w h.2)) (ho := hk) (h := ?_))); apply sw_nil; refine aw_fin (h := ?_)); all_goals (refine aw_step 8 (h := ?_); (first | (refine sw_st1 (h := ?_)) | (refine sw_stAll (h := ?_)) | (refine sy_lookup2 (κ := Int) (b := true) (v := ruleV fs f) (hl := by exact map_ext (fun w h => hM_ w h.2)) (ho := hk) (h := ?_))); apply sw_nil; refine aw_fin (h := ?_)); all_goals (refine aw_take 9 (h := ?_)); all_goals (refine aw_done (h := ?_))))); rotate_right; (focus (((first | (refine sw_alloc (h := fun _ => ?_)) | (refine sy_lookup2 (κ := Int) (b := true) (v := ruleV fs f) (hl := by exact map_ext (fun w h => hM_ w h.2)) (ho := hk) (h := ?_))); apply sw_nil; refine aw_fin (h := ?_)); all_goals ((refine aw_step 3 (h := ?_); (first | (refine sy_lookup2 (κ := Int) (b := true) (v := ruleV fs f) (hl := by exact map_ext (fun w h => hM_ w h.2)) (ho := hk) (h := ?_))); apply sw_nil; refine aw_fin (h := ?_)); all_goals (refine aw_take 4 (h := ?_)); all_goals (refine aw_take 5 (h := ?_)); all_goals (refine aw_take 6 (h := ?_)); all_goals (refine aw_step 8 (h := ?_); (first | (refine sw_st1 (h := ?_)) | (refine sw_stAll (h := ?_)) | (refine sy_lookup2 (κ := Int) (b := true) (v := ruleV fs f) (hl := by exact map_ext (fun w h => hM_ w h.2)) (ho := hk) (h := ?_))); apply sw_nil; refine aw_fin (h := ?_)); all_goals (refine aw_take 9 (h := ?_)); all_goals (refine aw_done (h := ?_))))))))); rotate_right; (focus (((first | (refine sw_alloc (h := fun _ => ?_)) | (refine sy_lookup2 (κ := Int) (b := true) (v := ruleV fs f) (hl := by exact map_ext (fun w h => hM_ w h.2)) (ho := hk) (h := ?_))); apply sw_nil; refine aw_fin (h := ?_)); all_goals ((refine aw_step 0 (h := ?_); (first | (refine sw_mk (hc := rules_mk) (h := fun _ _ hR_ => ?_); obtain ⟨q_, hq_, hM_⟩ := hR_; subst hq_) | (refine sy_lookup2 (κ := Int) (b := true) (v := ruleV fs f) (hl := by exact map_ext (fun w h => hM_ w h.2)) (ho := hk) (h := ?_))); apply sw_nil; refine aw_fin (h := ?_)); all_goals (refine aw_step 3 (h := ?_); (first | (refine sy_lookup2 (κ := Int) (b := true) (v := ruleV fs f) (hl := by exact map_ext (fun w h => hM_ w h.2)) (ho := hk) (h := ?_))); apply sw_nil; refine aw_fin (h := ?_)); all_goals (refine aw_take 4 (h := ?_)); all_goals (refine aw_take 5 (h := ?_)); all_goals (refine aw_take 6 (h := ?_)); all_goals (refine aw_step 8 (h := ?_); (first | (refine sw_st1 (h := ?_)) | (refine sw_stAll (h := ?_)) | (refine sy_lookup2 (κ := Int) (b := true) (v := ruleV fs f) (hl := by exact map_ext (fun w h => hM_ w h.2)) (ho := hk) (h := ?_))); apply sw_nil; refine aw_fin (h := ?_)); all_goals (refine aw_take 9 (h := ?_)); all_goals (refine aw_done (h := ?_))))))
    all_goals (repeat' (first | apply sw_nil | apply cw_seq | apply cw_reg | refine sy_move (h := ?_) | refine sy_assign (h := ?_) | refine sy_fld (h := ?_) | refine sy_ld (h := ?_) | refine sy_ldAll (h := ?_) | refine sy_pick_t (h := ?_) | refine sy_pick_f (h := ?_) | refine sy_not (h := ?_) | refine sy_eql (h := ?_) | refine sy_seql (h := ?_) | refine sy_extract (h := ?_) | refine sw_skipT (h := ?_) | refine sw_skipF (h := ?_) | refine sw_skipU (h := ?_) | refine sw_alloc (h := fun _ => ?_) | refine sw_box (h := fun _ => ?_) | refine sw_st1 (h := ?_) | refine sw_stAll (h := ?_) | refine cw_cond_t (ht := ?_) | refine cw_cond_f (hf := ?_) | apply cw_skip | apply cw_block | apply cw_ret | apply cw_exit | refine sy_andNot (h := ?_) | refine sy_beql (h := ?_) | refine sy_arrA (h := ?_) | refine sy_strI (h := ?_) | ((fail_if_success (refine sw_chk (h := ?_))); refine sw_guard (ht := ?_) (hf := ?_); all_goals (intro hx_; first | have := of_decide_eq_true hx_ | have := of_decide_eq_false hx_ | skip)) | (refine cw_cond (ht := ?_) (hf := ?_); all_goals (intro hx_; first | have := of_decide_eq_true hx_ | have := of_decide_eq_false hx_ | skip))))
    all_goals (
      (apply cw_draw0; kernel_rfl)
      all_goals (refine aw_take 0 (h := ?_))
      all_goals (refine aw_take 1 (h := ?_))
      all_goals (first | (first | refine aw_take 2 (h := ?_) | refine aw_take 2 (hy := by (first | (apply y_andNot; rfl; rfl))) (h := ?_)) | (refine aw_skipT 2 (h := ?_)) | (refine aw_skipF 2 (h := ?_)) | (refine aw_skipU 2 (h := ?_)) | (refine aw_guard 2 (ht := ?_) (hf := ?_); all_goals (intro hx_; first | have := of_decide_eq_true hx_ | have := of_decide_eq_false hx_ | skip); all_goals (first | (first | refine aw_take 2 (h := ?_) | refine aw_take 2 (hy := by (first | (apply y_andNot; rfl; rfl))) (h := ?_)) | (refine aw_skipT 2 (h := ?_)) | (refine aw_skipF 2 (h := ?_)) | (refine aw_skipU 2 (h := ?_)))))
      all_goals (first | (first | refine aw_take 4 (h := ?_) | refine aw_take 4 (hy := by (first | (apply y_andNot; rfl; rfl))) (h := ?_)) | (refine aw_skipT 4 (h := ?_)) | (refine aw_skipF 4 (h := ?_)) | (refine aw_skipU 4 (h := ?_)) | (refine aw_guard 4 (ht := ?_) (hf := ?_); all_goals (intro hx_; first | have := of_decide_eq_true hx_ | have := of_decide_eq_false hx_ | skip); all_goals (first | (first | refine aw_take 4 (h := ?_) | refine aw_take 4 (hy := by (first | (apply y_andNot; rfl; rfl))) (h := ?_)) | (refine aw_skipT 4 (h := ?_)) | (refine aw_skipF 4 (h := ?_)) | (refine aw_skipU 4 (h := ?_)))))
      all_goals (first | (first | refine aw_take 5 (h := ?_) | refine aw_take 5 (hy := by (first | (apply y_andNot; rfl; rfl))) (h := ?_)) | (refine aw_skipT 5 (h := ?_)) | (refine aw_skipF 5 (h := ?_)) | (refine aw_skipU 5 (h := ?_)) | (refine aw_guard 5 (ht := ?_) (hf := ?_); all_goals (intro hx_; first | have := of_decide_eq_true hx_ | have := of_decide_eq_false hx_ | skip); all_goals (first | (first | refine aw_take 5 (h := ?_) | refine aw_take 5 (hy := by (first | (apply y_andNot; rfl; rfl))) (h := ?_)) | (refine aw_skipT 5 (h := ?_)) | (refine aw_skipF 5 (h := ?_)) | (refine aw_skipU 5 (h := ?_)))))
      all_goals (first | (refine aw_step 3 (h := ?_); (first | (refine sw_skipT (h := ?_)) | (refine sw_skipF (h := ?_)) | (refine sw_skipU (h := ?_)) | refine sw_pu (hc := used_pu a) (h := ?_) | (refine sw_pu (hf := hf) (hc := hc) (h := ?_))); apply sw_nil; refine aw_fin (h := ?_)) | (refine aw_skipT 3 (h := ?_)) | (refine aw_skipF 3 (h := ?_)) | (refine aw_skipU 3 (h := ?_)) | (refine aw_guard 3 (ht := ?_) (hf := ?_); all_goals (intro hx_; first | have := of_decide_eq_true hx_ | have := of_decide_eq_false hx_ | skip); all_goals (first | (refine aw_step 3 (h := ?_); (first | (refine sw_skipT (h := ?_)) | (refine sw_skipF (h := ?_)) | (refine sw_skipU (h := ?_)) | refine sw_pu (hc := used_pu a) (h := ?_) | (refine sw_pu (hf := hf) (hc := hc) (h := ?_))); apply sw_nil; refine aw_fin (h := ?_)) | (refine aw_skipT 3 (h := ?_)) | (refine aw_skipF 3 (h := ?_)) | (refine aw_skipU 3 (h := ?_)))))
      all_goals (first | (first | refine aw_take 6 (h := ?_) | refine aw_take 6 (hy := by (first | (apply y_andNot; rfl; rfl))) (h := ?_)) | (refine aw_skipT 6 (h := ?_)) | (refine aw_skipF 6 (h := ?_)) | (refine aw_skipU 6 (h := ?_)) | (refine aw_guard 6 (ht := ?_) (hf := ?_); all_goals (intro hx_; first | have := of_decide_eq_true hx_ | have := of_decide_eq_false hx_ | skip); all_goals (first | (first | refine aw_take 6 (h := ?_) | refine aw_take 6 (hy := by (first | (apply y_andNot; rfl; rfl))) (h := ?_)) | (refine aw_skipT 6 (h := ?_)) | (refine aw_skipF 6 (h := ?_)) | (refine aw_skipU 6 (h := ?_)))))
      all_goals (first | (first | refine aw_take 7 (h := ?_) | refine aw_take 7 (hy := by (first | (apply y_andNot; rfl; rfl))) (h := ?_)) | (refine aw_skipT 7 (h := ?_)) | (refine aw_skipF 7 (h := ?_)) | (refine aw_skipU 7 (h := ?_)) | (refine aw_guard 7 (ht := ?_) (hf := ?_); all_goals (intro hx_; first | have := of_decide_eq_true hx_ | have := of_decide_eq_false hx_ | skip); all_goals (first | (first | refine aw_take 7 (h := ?_) | refine aw_take 7 (hy := by (first | (apply y_andNot; rfl; rfl))) (h := ?_)) | (refine aw_skipT 7 (h := ?_)) | (refine aw_skipF 7 (h := ?_)) | (refine aw_skipU 7 (h := ?_)))))
      all_goals (refine aw_take 8 (h := ?_))
      all_goals (refine aw_take 9 (h := ?_))
      all_goals (first | (first | refine aw_take 10 (h := ?_) | refine aw_take 10 (hy := by (first | (apply y_andNot; rfl; rfl))) (h := ?_)) | (refine aw_skipT 10 (h := ?_)) | (refine aw_skipF 10 (h := ?_)) | (refine aw_skipU 10 (h := ?_)) | (refine aw_guard 10 (ht := ?_) (hf := ?_); all_goals (intro hx_; first | have := of_decide_eq_true hx_ | have := of_decide_eq_false hx_ | skip); all_goals (first | (first | refine aw_take 10 (h := ?_) | refine aw_take 10 (hy := by (first | (apply y_andNot; rfl; rfl))) (h := ?_)) | (refine aw_skipT 10 (h := ?_)) | (refine aw_skipF 10 (h := ?_)) | (refine aw_skipU 10 (h := ?_)))))
      all_goals (first | (first | refine aw_take 11 (h := ?_) | refine aw_take 11 (hy := by (first | (apply y_andNot; rfl; rfl))) (h := ?_)) | (refine aw_skipT 11 (h := ?_)) | (refine aw_skipF 11 (h := ?_)) | (refine aw_skipU 11 (h := ?_)) | (refine aw_guard 11 (ht := ?_) (hf := ?_); all_goals (intro hx_; first | have := of_decide_eq_true hx_ | have := of_decide_eq_false hx_ | skip); all_goals (first | (first | refine aw_take 11 (h := ?_) | refine aw_take 11 (hy := by (first | (apply y_andNot; rfl; rfl))) (h := ?_)) | (refine aw_skipT 11 (h := ?_)) | (refine aw_skipF 11 (h := ?_)) | (refine aw_skipU 11 (h := ?_)))))
      all_goals (first | (first | refine aw_take 12 (h := ?_) | refine aw_take 12 (hy := by (first | (apply y_andNot; rfl; rfl))) (h := ?_)) | (refine aw_skipT 12 (h := ?_)) | (refine aw_skipF 12 (h := ?_)) | (refine aw_skipU 12 (h := ?_)) | (refine aw_guard 12 (ht := ?_) (hf := ?_); all_goals (intro hx_; first | have := of_decide_eq_true hx_ | have := of_decide_eq_false hx_ | skip); all_goals (first | (first | refine aw_take 12 (h := ?_) | refine aw_take 12 (hy := by (first | (apply y_andNot; rfl; rfl))) (h := ?_)) | (refine aw_skipT 12 (h := ?_)) | (refine aw_skipF 12 (h := ?_)) | (refine aw_skipU 12 (h := ?_)))))
      all_goals (first | (refine aw_step 13 (h := ?_); (first | (refine sw_skipT (h := ?_)) | (refine sw_skipF (h := ?_)) | (refine sw_skipU (h := ?_)) | refine sw_pu (hc := used_pu a) (h := ?_) | (refine sw_pu (hf := hf) (hc := hc) (h := ?_))); apply sw_nil; refine aw_fin (h := ?_)) | (refine aw_skipT 13 (h := ?_)) | (refine aw_skipF 13 (h := ?_)) | (refine aw_skipU 13 (h := ?_)) | (refine aw_guard 13 (ht := ?_) (hf := ?_); all_goals (intro hx_; first | have := of_decide_eq_true hx_ | have := of_decide_eq_false hx_ | skip); all_goals (first | (refine aw_step 13 (h := ?_); (first | (refine sw_skipT (h := ?_)) | (refine sw_skipF (h := ?_)) | (refine sw_skipU (h := ?_)) | refine sw_pu (hc := used_pu a) (h := ?_) | (refine sw_pu (hf := hf) (hc := hc) (h := ?_))); apply sw_nil; refine aw_fin (h := ?_)) | (refine aw_skipT 13 (h := ?_)) | (refine aw_skipF 13 (h := ?_)) | (refine aw_skipU 13 (h := ?_)))))
      all_goals (refine aw_take 14 (h := ?_))
      all_goals (refine aw_take 15 (h := ?_))
      all_goals (refine aw_done (h := ?_)))
    all_goals (repeat' (first | apply sw_nil | apply cw_seq | apply cw_reg | refine sy_move (h := ?_) | refine sy_assign (h := ?_) | refine sy_fld (h := ?_) | refine sy_ld (h := ?_) | refine sy_ldAll (h := ?_) | refine sy_pick_t (h := ?_) | refine sy_pick_f (h := ?_) | refine sy_not (h := ?_) | refine sy_eql (h := ?_) | refine sy_seql (h := ?_) | refine sy_extract (h := ?_) | refine sw_skipT (h := ?_) | refine sw_skipF (h := ?_) | refine sw_skipU (h := ?_) | refine sw_alloc (h := fun _ => ?_) | refine sw_box (h := fun _ => ?_) | refine sw_st1 (h := ?_) | refine sw_stAll (h := ?_) | refine cw_cond_t (ht := ?_) | refine cw_cond_f (hf := ?_) | apply cw_skip | apply cw_block | apply cw_ret | apply cw_exit | refine sy_andNot (h := ?_) | refine sy_beql (h := ?_) | refine sy_arrA (h := ?_) | refine sy_strI (h := ?_) | ((fail_if_success (refine sw_chk (h := ?_))); refine sw_guard (ht := ?_) (hf := ?_); all_goals (intro hx_; first | have := of_decide_eq_true hx_ | have := of_decide_eq_false hx_ | skip)) | (refine cw_cond (ht := ?_) (hf := ?_); all_goals (intro hx_; first | have := of_decide_eq_true hx_ | have := of_decide_eq_false hx_ | skip))))
    all_goals (apply ends_ret; apply res_tmp; rfl; rfl)
    all_goals (simp only [rightB, ruleB, hk', *, decide_true, decide_false, cond_true, cond_false, Bool.and_true, Bool.true_and, Bool.and_false, Bool.false_and, Bool.not_true, Bool.not_false, Bool.or_true, Bool.true_or, Bool.or_false, Bool.false_or] at *; try simp_all)
end Go.Proofs.YtlankpiogfhblaaGreatDoor
