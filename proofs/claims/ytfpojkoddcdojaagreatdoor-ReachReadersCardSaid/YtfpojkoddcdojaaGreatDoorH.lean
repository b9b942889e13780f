/- Nil checks; the builder's nums. -/
import Derived.Test.YtfpojkoddcdojaaGreatDoorG
set_option linter.unusedVariables false
set_option linter.unusedSimpArgs false
namespace Go.Proofs.YtfpojkoddcdojaaGreatDoor.Sy
open Go Go.RowKit
section
variable {P : Program} {N : Nat} {av bor : List Nat} {w0 : World} {ops : Array Oper} {rest : List Oper} {k : St → Prop} {E : Env} {loc loc' : List Res} {X : World → Prop}
variable {d : Option Tmp} {ty : TypeId} {pos : String} {af : Array Edge} {g : Option (Nat × Bool)} {bb want : Bool} {K : Exit → St → Prop}
theorem y_nilCheck {st : St} {x : Operand} {a : Addr} (hx : ev st.env x = some (.pointer (some a))) : Sy.Yields P N av bor w0 st (.nilCheck x) ty (.pointer (some a)) := Sy.Yields.mk fun A w ok d pos af g => by
  simp [execOp, ok.eval hx]
theorem sy_nilCheck {n : Nat} {x : Operand} {a : Addr} (hx : ev E x = some (.pointer (some a)) := by rfl) (hg : gdB ops E g = some (bb, want) := by rfl) (hbb : bb = want := by (first | with_reducible rfl | with_reducible assumption | with_reducible exact Bool.not_false | with_reducible exact Bool.not_true)) (hd : Nat.blt n N = true := by rfl) (h : Sw P N av bor w0 ops rest ⟨(n, .pointer (some a)) :: E, loc, X⟩ k) :
    Sw P N av bor w0 ops (⟨some n, .nilCheck x, ty, pos, af, g⟩ :: rest) ⟨E, loc, X⟩ k := sw_yield (y_nilCheck hx) hg hbb hd h
end
end Go.Proofs.YtfpojkoddcdojaaGreatDoor.Sy
namespace Go.Proofs.YtfpojkoddcdojaaGreatDoor
open Go Go.Proofs Sy
def Ints (w : World) (s : SlV) (l : List Int) : Prop := RowsD w 1 s (l.map fun n => [.int .i64 n])
theorem Ints.len_ {w : World} {s : SlV} {l : List Int} (h : Ints w s l) : s.n = l.length := by have := RowsD.len h; simpa using this
theorem Ints.some_ {w : World} {s : SlV} {l : List Int} (h : Ints w s l) (hl : 0 < l.length) : s.p.isSome = true := by
  have hx : l[0]? = some l[0] := List.getElem?_eq_getElem hl
  exact (RowsD.row h 0 [.int .i64 l[0]] (by simp [hx])).2.1
theorem Ints.get {w : World} {s : SlV} {l : List Int} (h : Ints w s l) {i : Nat} (hi : i < l.length) : CellAt w s.p i (.int .i64 (l.getD i 0)) := by
  have hx : l[i]? = some l[i] := List.getElem?_eq_getElem hi
  have := (RowsD.row h i [.int .i64 l[i]] (by simp [hx])).2.2 0 (.int .i64 l[i]) rfl
  simpa [hi] using this
/-- What the builder holds: its struct and its row. -/
def bld (b : Nat) (A : Option Addr) (c : Nat) (s : ByteArray) : List Res := [cel b 149 [.slice A s.size c], orow 5 1 (.slice A s.size c) s.size (u8s (bytesI s))]
def numsV (l : List Int) : ByteArray := cats (l.map numV)
structure NumsS (n : Nat) where
  k : Nat
  hk : k ≤ n
  A : Option Addr
  c : Nat
theorem nums_ct (b : Nat) (A : Option Addr) (c : Nat) (s : ByteArray) (sl : SlV) (l : List Int) (hl : ∀ n ∈ l, n < 9223372036854775808) (hs : s.size + (numsV l).size ≤ 1099511627776) :
    Ct Tryz.prog 92 #[.pointer (some ⟨b, 0, none⟩), sl.v] (bld b A c s) (fun w => Ints w sl l) fun u R _ => ∃ A' c', u = .tuple #[] ∧ R = bld b A' c' (s ++ numsV l) := by
  refine ct_of_cw (args := [_, _]) _ Tryz.func92 rfl Tryz.ntmps92 rfl fun av bor w0 => ?_
  refine cw_know (p := sl.n = l.length ∧ sl.n ≤ maxLen ∧ (0 < l.length → sl.p.isSome = true)) (fun w h => ⟨h.len_, Nat.le_trans (RowsD.cap h) (RowsD.max h), h.some_⟩) fun ⟨hn, hm, hp⟩ => ?_
  simp only [maxLen] at hm
  repeat' (first | apply sw_nil | apply cw_seq | apply cw_reg | refine sy_move (h := ?_) | refine sy_assign (h := ?_) | refine sy_nilCheck (h := ?_) | refine sy_fld (h := ?_) | refine sy_ld (h := ?_) | refine sy_ldAll (h := ?_) | refine sy_pick_t (h := ?_) | refine sy_pick_f (h := ?_) | refine sy_not (h := ?_) | refine sy_eql (h := ?_) | refine sy_neq (h := ?_) | refine sy_lss (h := ?_) | refine sy_leq (h := ?_) | refine sy_gtr (h := ?_) | refine sy_geq (h := ?_) | refine sy_seql (h := ?_) | refine sy_sneq (h := ?_) | refine sy_slen (h := ?_) | refine sy_len (h := ?_) | refine sy_extract (h := ?_) | refine sy_add (h := ?_) | refine sy_sub (h := ?_) | refine sw_skipT (h := ?_) | refine sw_skipF (h := ?_) | refine sw_skipU (h := ?_) | refine sw_alloc (h := fun _ => ?_) | refine sw_box (h := fun _ => ?_) | refine sw_rangeS (h := fun _ => ?_) | refine sw_nextS (h1 := fun _ => ?_) (h2 := fun _ => ?_) | refine sw_bsl (h := fun _ => ?_) | refine sw_st1 (h := ?_) | refine sw_stAll (h := ?_) | refine cw_cond_t (ht := ?_) | refine cw_cond_f (hf := ?_) | apply cw_skip | apply cw_block | apply cw_ret | apply cw_exit | refine sy_and (h := ?_) | refine sy_or (h := ?_) | refine sy_xor (h := ?_) | refine sy_andNot (h := ?_) | refine sy_xorU (h := ?_) | refine sy_shl (h := ?_) | refine sy_shr (h := ?_) | refine sy_mul (h := ?_) | refine sy_int (h := ?_) | refine sy_beql (h := ?_) | refine sy_bneq (h := ?_) | refine sy_min (h := ?_) | refine sy_max (h := ?_) | refine sy_arrA (h := ?_) | refine sy_strI (h := ?_) | ((fail_if_success (refine sw_chk (h := ?_))); refine sw_guard (ht := ?_) (hf := ?_); all_goals (intro hx_; first | have := of_decide_eq_true hx_ | have := of_decide_eq_false hx_ | skip)) | (refine cw_cond (ht := ?_) (hf := ?_); all_goals (intro hx_; first | have := of_decide_eq_true hx_ | have := of_decide_eq_false hx_ | skip)))
  have hle := cats_take (l.map numV)
  have e0 : s ++ cats ((l.map numV).take 0) = s := by simp [cats]
  have hs' : s.size + (cats (l.map numV)).size ≤ 1099511627776 := hs
  refine cw_loop (ι := NumsS l.length) (fun i => ⟨[(0, .pointer (some ⟨b, 0, none⟩)), (6, sl.v), (7, .int .i64 sl.n), (8, .int .i64 i.k)], bld b i.A i.c (s ++ cats ((l.map numV).take i.k)), fun w => Ints w sl l⟩) (fun i => l.length - i.k) ⟨0, Nat.zero_le _, A, c⟩ (ok_sub ⟨rfl, rfl, rfl, rfl, trivial⟩ (by rw [e0]; exact List.Sublist.refl _) fun _ h => h) fun i => ?_
  have hik := i.hk
  have hout : (s ++ cats ((l.map numV).take i.k)).size ≤ 1099511627776 := by rw [ByteArray.size_append]; have := hle i.k; omega
  generalize ho : s ++ cats ((l.map numV).take i.k) = out at *
  unfold bld
  repeat' (first | apply sw_nil | apply cw_seq | apply cw_reg | refine sy_move (h := ?_) | refine sy_assign (h := ?_) | refine sy_nilCheck (h := ?_) | refine sy_fld (h := ?_) | refine sy_ld (h := ?_) | refine sy_ldAll (h := ?_) | refine sy_pick_t (h := ?_) | refine sy_pick_f (h := ?_) | refine sy_not (h := ?_) | refine sy_eql (h := ?_) | refine sy_neq (h := ?_) | refine sy_lss (h := ?_) | refine sy_leq (h := ?_) | refine sy_gtr (h := ?_) | refine sy_geq (h := ?_) | refine sy_seql (h := ?_) | refine sy_sneq (h := ?_) | refine sy_slen (h := ?_) | refine sy_len (h := ?_) | refine sy_extract (h := ?_) | refine sy_add (h := ?_) | refine sy_sub (h := ?_) | refine sw_skipT (h := ?_) | refine sw_skipF (h := ?_) | refine sw_skipU (h := ?_) | refine sw_alloc (h := fun _ => ?_) | refine sw_box (h := fun _ => ?_) | refine sw_rangeS (h := fun _ => ?_) | refine sw_nextS (h1 := fun _ => ?_) (h2 := fun _ => ?_) | refine sw_bsl (h := fun _ => ?_) | refine sw_st1 (h := ?_) | refine sw_stAll (h := ?_) | refine cw_cond_t (ht := ?_) | refine cw_cond_f (hf := ?_) | apply cw_skip | apply cw_block | apply cw_ret | apply cw_exit | refine sy_and (h := ?_) | refine sy_or (h := ?_) | refine sy_xor (h := ?_) | refine sy_andNot (h := ?_) | refine sy_xorU (h := ?_) | refine sy_shl (h := ?_) | refine sy_shr (h := ?_) | refine sy_mul (h := ?_) | refine sy_int (h := ?_) | refine sy_beql (h := ?_) | refine sy_bneq (h := ?_) | refine sy_min (h := ?_) | refine sy_max (h := ?_) | refine sy_arrA (h := ?_) | refine sy_strI (h := ?_) | ((fail_if_success (refine sw_chk (h := ?_))); refine sw_guard (ht := ?_) (hf := ?_); all_goals (intro hx_; first | have := of_decide_eq_true hx_ | have := of_decide_eq_false hx_ | skip)) | (refine cw_cond (ht := ?_) (hf := ?_); all_goals (intro hx_; first | have := of_decide_eq_true hx_ | have := of_decide_eq_false hx_ | skip)))
  · have hlt : i.k < l.length := by omega
    have hp' := hp (by omega)
    have hsucc := cats_succ (l.map numV) (k := i.k) (by simpa using hlt)
    have hget : (l.map numV).getD i.k .empty = numV (l.getD i.k 0) := by simp [hlt]
    rw [hget] at hsucc
    have hln : l.getD i.k 0 < 9223372036854775808 := by simp only [List.getD_eq_getElem?_getD, List.getElem?_eq_getElem hlt, Option.getD_some]; exact hl _ (List.getElem_mem hlt)
    have hn10 := numV_size (l.getD i.k 0)
    repeat' (first | apply sw_nil | apply cw_seq | apply cw_reg | refine sy_move (h := ?_) | refine sy_assign (h := ?_) | refine sy_nilCheck (h := ?_) | refine sy_fld (h := ?_) | refine sy_ld (h := ?_) | refine sy_ldAll (h := ?_) | refine sy_pick_t (h := ?_) | refine sy_pick_f (h := ?_) | refine sy_not (h := ?_) | refine sy_eql (h := ?_) | refine sy_neq (h := ?_) | refine sy_lss (h := ?_) | refine sy_leq (h := ?_) | refine sy_gtr (h := ?_) | refine sy_geq (h := ?_) | refine sy_seql (h := ?_) | refine sy_sneq (h := ?_) | refine sy_slen (h := ?_) | refine sy_len (h := ?_) | refine sy_extract (h := ?_) | refine sy_add (h := ?_) | refine sy_sub (h := ?_) | refine sw_skipT (h := ?_) | refine sw_skipF (h := ?_) | refine sw_skipU (h := ?_) | refine sw_alloc (h := fun _ => ?_) | refine sw_box (h := fun _ => ?_) | refine sw_rangeS (h := fun _ => ?_) | refine sw_nextS (h1 := fun _ => ?_) (h2 := fun _ => ?_) | refine sw_bsl (h := fun _ => ?_) | refine sw_st1 (h := ?_) | refine sw_stAll (h := ?_) | refine cw_cond_t (ht := ?_) | refine cw_cond_f (hf := ?_) | apply cw_skip | apply cw_block | apply cw_ret | apply cw_exit | refine sy_and (h := ?_) | refine sy_or (h := ?_) | refine sy_xor (h := ?_) | refine sy_andNot (h := ?_) | refine sy_xorU (h := ?_) | refine sy_shl (h := ?_) | refine sy_shr (h := ?_) | refine sy_mul (h := ?_) | refine sy_int (h := ?_) | refine sy_beql (h := ?_) | refine sy_bneq (h := ?_) | refine sy_min (h := ?_) | refine sy_max (h := ?_) | refine sy_arrA (h := ?_) | refine sy_strI (h := ?_) | (refine sy_idxX (q := i.k) (h := ?_)) | (refine sy_ldX (hF := fun w h => Ints.get h hlt) (h := ?_)) | ((fail_if_success (refine sw_chk (h := ?_))); refine sw_guard (ht := ?_) (hf := ?_); all_goals (intro hx_; first | have := of_decide_eq_true hx_ | have := of_decide_eq_false hx_ | skip)) | (refine cw_cond (ht := ?_) (hf := ?_); all_goals (intro hx_; first | have := of_decide_eq_true hx_ | have := of_decide_eq_false hx_ | skip)))
    (refine cw_draw [] (fun _ => True) (by kernel_rfl) ?_)
    all_goals (refine aw_take 0 (h := ?_))
    all_goals (refine aw_take 1 (h := ?_))
    all_goals (refine aw_take 2 (h := ?_))
    all_goals (refine aw_take 3 (h := ?_))
    all_goals (refine aw_take 5 (h := ?_))
    all_goals (refine aw_two 4 6 (h := ?_) (h' := ?_); (focus (((first | (refine sy_ld (h := ?_)) | (refine sy_ldAll (h := ?_))); apply sw_nil; refine aw_fin (h := ?_)); all_goals ((refine aw_step 6 (h := ?_); (first | refine sw_pu (hc := num_pu _ (by omega)) (h := ?_)); apply sw_nil; refine aw_fin (h := ?_)); all_goals (refine aw_step 7 (h := ?_); (first | (refine sw_append (size := 1) (z := .int .u8 0) rfl rfl rfl rfl (fun _ => At.there _ (At.here _)) (fun w G => src_str (by omega)) (by omega) (by simp only [maxLen]; omega) rfl ?_ rfl ?_; (first | with_reducible rfl | with_reducible assumption | with_reducible exact Bool.not_false | with_reducible exact Bool.not_true); intro A1 c1)); apply sw_nil; refine aw_fin (h := ?_)); all_goals (refine aw_take 8 (h := ?_)); all_goals (refine aw_take 9 (h := ?_)); all_goals (refine aw_step 10 (h := ?_); (first | (refine sw_st1 (h := ?_)) | (refine sw_stAll (h := ?_))); apply sw_nil; refine aw_fin (h := ?_)); all_goals (refine aw_done (h := ?_))))); rotate_right; (focus (((first | refine sw_pu (hc := num_pu _ (by omega)) (h := ?_)); apply sw_nil; refine aw_fin (h := ?_)); all_goals ((refine aw_step 4 (h := ?_); (first | (refine sy_ld (h := ?_)) | (refine sy_ldAll (h := ?_))); apply sw_nil; refine aw_fin (h := ?_)); all_goals (refine aw_step 7 (h := ?_); (first | (refine sw_append (size := 1) (z := .int .u8 0) rfl rfl rfl rfl (fun _ => At.there _ (At.here _)) (fun w G => src_str (by omega)) (by omega) (by simp only [maxLen]; omega) rfl ?_ rfl ?_; (first | with_reducible rfl | with_reducible assumption | with_reducible exact Bool.not_false | with_reducible exact Bool.not_true); intro A1 c1)); apply sw_nil; refine aw_fin (h := ?_)); all_goals (refine aw_take 8 (h := ?_)); all_goals (refine aw_take 9 (h := ?_)); all_goals (refine aw_step 10 (h := ?_); (first | (refine sw_st1 (h := ?_)) | (refine sw_stAll (h := ?_))); apply sw_nil; refine aw_fin (h := ?_)); all_goals (refine aw_done (h := ?_))))))
    all_goals (repeat' (first | apply sw_nil | apply cw_seq | apply cw_reg | refine sy_move (h := ?_) | refine sy_assign (h := ?_) | refine sy_nilCheck (h := ?_) | refine sy_fld (h := ?_) | refine sy_ld (h := ?_) | refine sy_ldAll (h := ?_) | refine sy_pick_t (h := ?_) | refine sy_pick_f (h := ?_) | refine sy_not (h := ?_) | refine sy_eql (h := ?_) | refine sy_neq (h := ?_) | refine sy_lss (h := ?_) | refine sy_leq (h := ?_) | refine sy_gtr (h := ?_) | refine sy_geq (h := ?_) | refine sy_seql (h := ?_) | refine sy_sneq (h := ?_) | refine sy_slen (h := ?_) | refine sy_len (h := ?_) | refine sy_extract (h := ?_) | refine sy_add (h := ?_) | refine sy_sub (h := ?_) | refine sw_skipT (h := ?_) | refine sw_skipF (h := ?_) | refine sw_skipU (h := ?_) | refine sw_alloc (h := fun _ => ?_) | refine sw_box (h := fun _ => ?_) | refine sw_rangeS (h := fun _ => ?_) | refine sw_nextS (h1 := fun _ => ?_) (h2 := fun _ => ?_) | refine sw_bsl (h := fun _ => ?_) | refine sw_st1 (h := ?_) | refine sw_stAll (h := ?_) | refine cw_cond_t (ht := ?_) | refine cw_cond_f (hf := ?_) | apply cw_skip | apply cw_block | apply cw_ret | apply cw_exit | refine sy_and (h := ?_) | refine sy_or (h := ?_) | refine sy_xor (h := ?_) | refine sy_andNot (h := ?_) | refine sy_xorU (h := ?_) | refine sy_shl (h := ?_) | refine sy_shr (h := ?_) | refine sy_mul (h := ?_) | refine sy_int (h := ?_) | refine sy_beql (h := ?_) | refine sy_bneq (h := ?_) | refine sy_min (h := ?_) | refine sy_max (h := ?_) | refine sy_arrA (h := ?_) | refine sy_strI (h := ?_) | ((fail_if_success (refine sw_chk (h := ?_))); refine sw_guard (ht := ?_) (hf := ?_); all_goals (intro hx_; first | have := of_decide_eq_true hx_ | have := of_decide_eq_false hx_ | skip)) | (refine cw_cond (ht := ?_) (hf := ?_); all_goals (intro hx_; first | have := of_decide_eq_true hx_ | have := of_decide_eq_false hx_ | skip))))
    have e2 : s ++ cats ((l.map numV).take (i.k + 1)) = out ++ numV (l.getD i.k 0) := by rw [hsucc, ← ByteArray.append_assoc, ho]
    all_goals exact ⟨(⟨i.k + 1, hlt, A1, c1⟩ : NumsS l.length), (by show l.length - (i.k + 1) < l.length - i.k; omega), ok_sub ⟨rfl, rfl, rfl, rfl, trivial⟩ (by
      show List.Sublist (bld b A1 c1 (s ++ cats ((l.map numV).take (i.k + 1)))) _
      have e2 : s ++ cats ((l.map numV).take (i.k + 1)) = out ++ numV (l.getD i.k 0) := by rw [hsucc, ← ByteArray.append_assoc, ho]
      rw [e2]
      simp only [bld, ByteArray.size_append, bytesI_append, u8s_append]
      exact List.Sublist.refl _) fun _ h => h⟩
  · have hk : i.k = l.length := by omega
    refine ends_end (res_none rfl) ⟨i.A, i.c, rfl, ?_⟩
    rw [numsV, ← ho, hk, List.take_of_length_le (by simp)]
end Go.Proofs.YtfpojkoddcdojaaGreatDoor
