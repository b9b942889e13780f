/- Joined by program (wip/dev/merge.py) out of: Sh Fi Cl Dg Ch Kp. -/
import Derived.Test.YtlankpiogfhblaaGreatDoorMd
import Derived.Test.YtlankpiogfhblaaGreatDoorMb
import Derived.Test.YtlankpiogfhblaaGreatDoorSf
import Derived.Shelf.Slices.CompactS
import Derived.Lib.RowBridge
/- Contracts: sum.ending, sum.Sha. -/
set_option linter.unusedVariables false
set_option linter.unusedSimpArgs false
namespace Go.Proofs.YtlankpiogfhblaaGreatDoor
open Go Go.Proofs Sy
def padN (n : Nat) : Nat := (120 - n % 64) % 64
def sizeB (n : Int) (k : Nat) : List Int := (List.range k).map fun (j : Nat) => IntKind.u8.wrap (shrV .u64 (IntKind.u64.wrap (IntKind.u64.wrap n * 8)) (56 - 8 * (j : Int)))
def endL (s : ByteArray) : List Int := bytesI s ++ [128]
def endV (s : ByteArray) (n : Int) : ByteArray := ofInts (endL s ++ List.replicate (padN (s.size + 1)) 0 ++ sizeB n 8)
theorem endL_len (s : ByteArray) : (endL s).length = s.size + 1 := by simp [endL, bytesI_len]
theorem sizeB_len (n : Int) (k : Nat) : (sizeB n k).length = k := by simp [sizeB]
theorem endV_size (s : ByteArray) (n : Int) : (endV s n).size % 64 = 0 := by
  rw [endV, size_ofInts]
  simp only [List.length_append, endL_len, List.length_replicate, sizeB_len, padN]
  omega
structure EndS (m : Nat) where
  k : Nat
  hk : k ≤ m
  A : Option Addr
  c : Nat
theorem ending_pu (s : ByteArray) (n : Int) (hs : s.size ≤ 1099511627776) : Pu Tryz.prog 41 #[.string s, .int .i64 n] (fun _ => True) (.string (endV s n)) := by
  refine pu_of_cw (args := [_, _]) _ Tryz.func41 rfl Tryz.ntmps41 rfl fun av bor w0 => ?_
  repeat' (first | apply sw_nil | apply cw_seq | apply cw_reg | refine sy_move (h := ?_) | refine sy_assign (h := ?_) | refine sy_neq (h := ?_) | refine sy_geq (h := ?_) | refine sy_sneq (h := ?_) | refine sy_slen (h := ?_) | refine sy_len (h := ?_) | refine sy_sub (h := ?_) | refine sw_bsl (h := fun _ => ?_) | refine cw_cond_t (ht := ?_) | refine cw_cond_f (hf := ?_) | apply cw_skip | apply cw_block | apply cw_ret | apply cw_exit | refine sy_shr (h := ?_) | refine sy_mul (h := ?_) | refine sy_int (h := ?_) | refine sy_bneq (h := ?_) | refine sy_arrA (h := ?_) | refine sy_strI (h := ?_) | (refine sw_s2b (h := fun A c => ?_)))
  rename_i b0
  refine sw_append (size := 1) (z := .int .u8 0) (news := u8s [128]) (q := 1) rfl rfl rfl rfl (fun _ => At.there _ (At.here _)) (fun w G => src_cel G List.mem_cons_self rfl rfl 1) ?_ ?_ rfl ?_ rfl ?_
  · omega
  · simp only [maxLen]; omega
  · rfl
  intro A1 c1
  repeat' (first | apply sw_nil | apply cw_seq | apply cw_reg | refine sy_move (h := ?_) | refine sy_assign (h := ?_) | refine sy_neq (h := ?_) | refine sy_geq (h := ?_) | refine sy_sneq (h := ?_) | refine sy_slen (h := ?_) | refine sy_len (h := ?_) | refine sy_sub (h := ?_) | refine sw_bsl (h := fun _ => ?_) | refine cw_cond_t (ht := ?_) | refine cw_cond_f (hf := ?_) | apply cw_skip | apply cw_block | apply cw_ret | apply cw_exit | refine sy_shr (h := ?_) | refine sy_mul (h := ?_) | refine sy_int (h := ?_) | refine sy_bneq (h := ?_) | refine sy_arrA (h := ?_) | refine sy_strI (h := ?_))
  have hel := endL_len s
  refine cw_loop (ι := EndS (padN (s.size + 1))) (fun i => ⟨[(1, .int .i64 n), (5, .slice i.A (s.size + 1 + i.k) i.c)], [orow 5 1 (.slice i.A (s.size + 1 + i.k) i.c) (s.size + 1 + i.k) (u8s (endL s ++ List.replicate i.k 0))], fun _ => True⟩) (fun i => padN (s.size + 1) - i.k) ⟨0, Nat.zero_le _, A1, c1⟩ (ok_sub ⟨rfl, rfl, trivial⟩ ?_ fun _ h => h) fun i => ?_
  · refine List.Sublist.cons _ ?_
    rw [← u8s_append]
    simp only [List.replicate_zero, List.append_nil]
    exact List.Sublist.refl _
  have hik := i.hk
  have hp : padN (s.size + 1) < 64 := Nat.mod_lt _ (by omega)
  have hp2 : padN (s.size + 1) = (120 - (s.size + 1) % 64) % 64 := rfl
  have htm : Int.tmod ((s.size + 1 + i.k : Nat) : Int) 64 = (((s.size + 1 + i.k) % 64 : Nat) : Int) := Int.ofNat_tmod _ _
  repeat' (first | apply sw_nil | apply cw_seq | apply cw_reg | refine sy_move (h := ?_) | refine sy_assign (h := ?_) | refine sy_neq (h := ?_) | refine sy_geq (h := ?_) | refine sy_sneq (h := ?_) | refine sy_slen (h := ?_) | refine sy_len (h := ?_) | refine sy_sub (h := ?_) | refine sw_bsl (h := fun _ => ?_) | refine cw_cond_t (ht := ?_) | refine cw_cond_f (hf := ?_) | apply cw_skip | apply cw_block | apply cw_ret | apply cw_exit | refine sy_shr (h := ?_) | refine sy_mul (h := ?_) | refine sy_int (h := ?_) | refine sy_bneq (h := ?_) | refine sy_arrA (h := ?_) | refine sy_strI (h := ?_) | (refine cw_cond (ht := ?_) (hf := ?_); all_goals (intro hx_; first | have := of_decide_eq_true hx_ | have := of_decide_eq_false hx_ | skip)))
  refine sy_rem (hc := htm) (h := ?_)
  repeat' (first | apply sw_nil | apply cw_seq | apply cw_reg | refine sy_move (h := ?_) | refine sy_assign (h := ?_) | refine sy_neq (h := ?_) | refine sy_geq (h := ?_) | refine sy_sneq (h := ?_) | refine sy_slen (h := ?_) | refine sy_len (h := ?_) | refine sy_sub (h := ?_) | refine sw_bsl (h := fun _ => ?_) | refine cw_cond_t (ht := ?_) | refine cw_cond_f (hf := ?_) | apply cw_skip | apply cw_block | apply cw_ret | apply cw_exit | refine sy_shr (h := ?_) | refine sy_mul (h := ?_) | refine sy_int (h := ?_) | refine sy_bneq (h := ?_) | refine sy_arrA (h := ?_) | refine sy_strI (h := ?_) | (refine cw_cond (ht := ?_) (hf := ?_); all_goals (intro hx_; first | have := of_decide_eq_true hx_ | have := of_decide_eq_false hx_ | skip)))
  · have hlt : i.k < padN (s.size + 1) := by
      have h1 : ¬ (((s.size + 1 + i.k) % 64 : Nat) : Int) = 56 := by simpa using hx_
      omega
    refine sw_append (size := 1) (z := .int .u8 0) (news := u8s [0]) (q := 1) rfl rfl rfl rfl (fun _ => At.there _ (At.here _)) (fun w G => src_cel G List.mem_cons_self rfl rfl 1) ?_ ?_ rfl ?_ rfl ?_
    · omega
    · simp only [maxLen]; omega
    · rfl
    intro A2 c2
    repeat' (first | apply sw_nil | apply cw_seq | apply cw_reg | refine sy_move (h := ?_) | refine sy_assign (h := ?_) | refine sy_neq (h := ?_) | refine sy_geq (h := ?_) | refine sy_sneq (h := ?_) | refine sy_slen (h := ?_) | refine sy_len (h := ?_) | refine sy_sub (h := ?_) | refine sw_bsl (h := fun _ => ?_) | refine cw_cond_t (ht := ?_) | refine cw_cond_f (hf := ?_) | apply cw_skip | apply cw_block | apply cw_ret | apply cw_exit | refine sy_shr (h := ?_) | refine sy_mul (h := ?_) | refine sy_int (h := ?_) | refine sy_bneq (h := ?_) | refine sy_arrA (h := ?_) | refine sy_strI (h := ?_) | (refine cw_cond (ht := ?_) (hf := ?_); all_goals (intro hx_; first | have := of_decide_eq_true hx_ | have := of_decide_eq_false hx_ | skip)))
    refine ⟨(⟨i.k + 1, hlt, A2, c2⟩ : EndS (padN (s.size + 1))), (by show padN (s.size + 1) - (i.k + 1) < padN (s.size + 1) - i.k; omega), ok_sub ⟨rfl, rfl, trivial⟩ ?_ fun _ h => h⟩
    refine List.Sublist.cons _ ?_
    rw [← u8s_append]
    simp only [List.replicate_succ', List.append_assoc]
    exact List.Sublist.refl _
  have hk : i.k = padN (s.size + 1) := by
    have h1 : (((s.size + 1 + i.k) % 64 : Nat) : Int) = 56 := by simpa using hx_
    omega
  have hl1 : (endL s ++ List.replicate (padN (s.size + 1)) 0 : List Int).length = s.size + 1 + padN (s.size + 1) := by simp [hel]
  rw [hk]
  generalize hL : (endL s ++ List.replicate (padN (s.size + 1)) 0 : List Int) = L at *
  refine cw_loop (ι := EndS 8) (fun j => ⟨[(5, .slice j.A (s.size + 1 + padN (s.size + 1) + j.k) j.c), (6, .int .u64 (IntKind.u64.wrap (IntKind.u64.wrap n * 8))), (7, .int .i64 (56 - 8 * (j.k : Int)))], [orow 5 1 (.slice j.A (s.size + 1 + padN (s.size + 1) + j.k) j.c) (s.size + 1 + padN (s.size + 1) + j.k) (u8s (L ++ sizeB n j.k))], fun _ => True⟩) (fun j => 8 - j.k) ⟨0, Nat.zero_le _, i.A, i.c⟩ (ok_sub ⟨rfl, rfl, rfl, trivial⟩ ?_ fun _ h => h) fun j => ?_
  · have e : sizeB n 0 = [] := rfl
    simp only [e, List.append_nil]
    exact List.Sublist.refl _
  have hjk := j.hk
  repeat' (first | apply sw_nil | apply cw_seq | apply cw_reg | refine sy_move (h := ?_) | refine sy_assign (h := ?_) | refine sy_neq (h := ?_) | refine sy_geq (h := ?_) | refine sy_sneq (h := ?_) | refine sy_slen (h := ?_) | refine sy_len (h := ?_) | refine sy_sub (h := ?_) | refine sw_bsl (h := fun _ => ?_) | refine cw_cond_t (ht := ?_) | refine cw_cond_f (hf := ?_) | apply cw_skip | apply cw_block | apply cw_ret | apply cw_exit | refine sy_shr (h := ?_) | refine sy_mul (h := ?_) | refine sy_int (h := ?_) | refine sy_bneq (h := ?_) | refine sy_arrA (h := ?_) | refine sy_strI (h := ?_) | (refine cw_cond (ht := ?_) (hf := ?_); all_goals (intro hx_; first | have := of_decide_eq_true hx_ | have := of_decide_eq_false hx_ | skip)))
  · have hlt : j.k < 8 := by omega
    refine sw_append (size := 1) (z := .int .u8 0) (news := u8s [IntKind.u8.wrap (shrV .u64 (IntKind.u64.wrap (IntKind.u64.wrap n * 8)) (56 - 8 * (j.k : Int)))]) (q := 1) rfl rfl rfl rfl (fun _ => At.there _ (At.here _)) (fun w G => src_cel G List.mem_cons_self rfl rfl 1) ?_ ?_ rfl ?_ rfl ?_
    · omega
    · simp only [maxLen]; omega
    · rfl
    intro A2 c2
    repeat' (first | apply sw_nil | apply cw_seq | apply cw_reg | refine sy_move (h := ?_) | refine sy_assign (h := ?_) | refine sy_neq (h := ?_) | refine sy_geq (h := ?_) | refine sy_sneq (h := ?_) | refine sy_slen (h := ?_) | refine sy_len (h := ?_) | refine sy_sub (h := ?_) | refine sw_bsl (h := fun _ => ?_) | refine cw_cond_t (ht := ?_) | refine cw_cond_f (hf := ?_) | apply cw_skip | apply cw_block | apply cw_ret | apply cw_exit | refine sy_shr (h := ?_) | refine sy_mul (h := ?_) | refine sy_int (h := ?_) | refine sy_bneq (h := ?_) | refine sy_arrA (h := ?_) | refine sy_strI (h := ?_) | (refine cw_cond (ht := ?_) (hf := ?_); all_goals (intro hx_; first | have := of_decide_eq_true hx_ | have := of_decide_eq_false hx_ | skip)))
    refine ⟨(⟨j.k + 1, hlt, A2, c2⟩ : EndS 8), (by show 8 - (j.k + 1) < 8 - j.k; omega), ok_sub ⟨rfl, rfl, ?_, trivial⟩ ?_ fun _ h => h⟩
    · show some (Value.int .i64 (56 - 8 * (j.k : Int) - 8)) = some (Value.int .i64 (56 - 8 * ((j.k + 1 : Nat) : Int)))
      congr 2
      omega
    refine List.Sublist.cons _ ?_
    rw [← u8s_append]
    have e : sizeB n (j.k + 1) = sizeB n j.k ++ [IntKind.u8.wrap (shrV .u64 (IntKind.u64.wrap (IntKind.u64.wrap n * 8)) (56 - 8 * (j.k : Int)))] := by simp [sizeB, List.range_succ]
    simp only [e, List.append_assoc]
    exact List.Sublist.refl _
  have hj8 : j.k = 8 := by omega
  refine sy_b2s (hm := List.mem_cons_self) (h := ?_)
  repeat' (first | apply sw_nil | apply cw_seq | apply cw_reg | refine sy_move (h := ?_) | refine sy_assign (h := ?_) | refine sy_neq (h := ?_) | refine sy_geq (h := ?_) | refine sy_sneq (h := ?_) | refine sy_slen (h := ?_) | refine sy_len (h := ?_) | refine sy_sub (h := ?_) | refine sw_bsl (h := fun _ => ?_) | refine cw_cond_t (ht := ?_) | refine cw_cond_f (hf := ?_) | apply cw_skip | apply cw_block | apply cw_ret | apply cw_exit | refine sy_shr (h := ?_) | refine sy_mul (h := ?_) | refine sy_int (h := ?_) | refine sy_bneq (h := ?_) | refine sy_arrA (h := ?_) | refine sy_strI (h := ?_) | (refine cw_cond (ht := ?_) (hf := ?_); all_goals (intro hx_; first | have := of_decide_eq_true hx_ | have := of_decide_eq_false hx_ | skip)))
  apply ends_ret; apply res_tmp; rfl; rfl
  rw [hj8, ← hL, endV]

/-! Sha -/
def iniS : St8 := ⟨1779033703, 3144134277, 1013904242, 2773480762, 1359893119, 2600822924, 528734635, 1541459225⟩
def loopV : Nat → St8 → ByteArray → St8 × ByteArray
  | 0, x, r => (x, r)
  | f + 1, x, r => bif decide (64 ≤ (r.size : Int)) then loopV f (mixV x (r.extract 0 64)) (r.extract 64 r.size) else (x, r)
def loopE : Nat → St8 → ByteArray → St8
  | 0, x, _ => x
  | f + 1, x, r => bif seqB r ⟨#[]⟩ then x else loopE f (mixV x (r.extract 0 64)) (r.extract 64 r.size)
theorem seqB_empty (r : ByteArray) : seqB r ⟨#[]⟩ = decide (r.size = 0) := by
  have h1 : (⟨#[]⟩ : ByteArray).toList = [] := by simp [ByteArray.toList_eq]
  by_cases h : r.size = 0
  · have : r = ⟨#[]⟩ := by
      have h2 : r.data = #[] := Array.eq_empty_of_size_eq_zero h
      obtain ⟨d⟩ := r
      exact congrArg ByteArray.mk h2
    subst this
    simp only [seqB, h1]
    rfl
  · simp only [h, decide_false]
    cases hs : seqB r ⟨#[]⟩ with
    | false => rfl
    | true =>
      exfalso
      have h3 : r.toList = [] := by
        have := hs
        simp only [seqB, h1] at this
        simpa using this
      have h4 : r.toList.length = r.size := by simp [ByteArray.toList_eq]
      rw [h3] at h4
      simp at h4
      omega
structure ShaA (s : ByteArray) where
  f : Nat
  x : St8
  r : ByteArray
  h : r.size ≤ f
  hs : r.size ≤ s.size
  e : loopV f x r = loopV s.size iniS s
def ShaA.next {s : ByteArray} (i : ShaA s) (h : 64 ≤ i.r.size) : ShaA s :=
  ⟨i.f - 1, mixV i.x (i.r.extract 0 64), i.r.extract 64 i.r.size, by have := i.h; simp only [ByteArray.size_extract]; omega, by have := i.hs; simp only [ByteArray.size_extract]; omega, by
    rw [← i.e]
    cases hf : i.f with
    | zero => have := i.h; omega
    | succ f =>
      have : decide (64 ≤ (i.r.size : Int)) = true := decide_eq_true (by omega)
      simp only [loopV, this, cond_true, Nat.add_sub_cancel]⟩
theorem ShaA.last {s : ByteArray} (i : ShaA s) (h : ¬ 64 ≤ i.r.size) : loopV s.size iniS s = (i.x, i.r) := by
  rw [← i.e]
  cases hf : i.f with
  | zero => rfl
  | succ f =>
    have : decide (64 ≤ (i.r.size : Int)) = false := decide_eq_false (by omega)
    simp only [loopV, this, cond_false]
structure ShaE (x0 : St8) (s : ByteArray) where
  f : Nat
  x : St8
  r : ByteArray
  h : r.size ≤ f
  hm : r.size % 64 = 0
  e : loopE f x r = loopE s.size x0 s
def ShaE.next {x0 : St8} {s : ByteArray} (i : ShaE x0 s) (h : 0 < i.r.size) : ShaE x0 s :=
  ⟨i.f - 1, mixV i.x (i.r.extract 0 64), i.r.extract 64 i.r.size, by have := i.h; simp only [ByteArray.size_extract]; omega, by have := i.hm; simp only [ByteArray.size_extract]; omega, by
    rw [← i.e]
    cases hf : i.f with
    | zero => have := i.h; omega
    | succ f =>
      have : seqB i.r ⟨#[]⟩ = false := by rw [seqB_empty]; exact decide_eq_false (by omega)
      simp only [loopE, this, cond_false, Nat.add_sub_cancel]⟩
theorem ShaE.last {x0 : St8} {s : ByteArray} (i : ShaE x0 s) (h : i.r.size = 0) : loopE s.size x0 s = i.x := by
  rw [← i.e]
  cases hf : i.f with
  | zero => rfl
  | succ f =>
    have : seqB i.r ⟨#[]⟩ = true := by rw [seqB_empty]; exact decide_eq_true h
    simp only [loopE, this, cond_true]
def digB (w : Int) : List Int := [IntKind.u8.wrap (shrV .u32 w 24), IntKind.u8.wrap (shrV .u32 w 16), IntKind.u8.wrap (shrV .u32 w 8), IntKind.u8.wrap w]
def shaV (s : ByteArray) : ByteArray :=
  let p := loopV s.size iniS s
  let r := endV p.2 s.size
  ofInts ((loopE r.size p.1 r).l.flatMap digB)
theorem flat_len (l : List Int) : (l.flatMap digB).length = 4 * l.length := by
  induction l with
  | nil => rfl
  | cons a l ih => rw [List.flatMap_cons, List.length_append, ih]; simp [digB]; omega
theorem St8.len (x : St8) : x.l.length = 8 := rfl
theorem shaV_size (s : ByteArray) : (shaV s).size = 32 := by
  simp only [shaV]
  rw [size_ofInts, flat_len, St8.len]
theorem sha_pu (s : ByteArray) (hs : s.size ≤ 1099511627776) : Pu Tryz.prog 23 #[.string s] Glob (.string (shaV s)) := by
  refine pu_of_cw (args := [_]) _ Tryz.func23 rfl Tryz.ntmps23 rfl fun av bor w0 => ?_
  repeat' (first | apply sw_nil | apply cw_seq | apply cw_reg | refine sy_move (h := ?_) | refine sy_assign (h := ?_) | refine sy_ld (h := ?_) | refine sy_ldAll (h := ?_) | refine sy_neq (h := ?_) | refine sy_lss (h := ?_) | refine sy_geq (h := ?_) | refine sy_sneq (h := ?_) | refine sy_slen (h := ?_) | refine sy_len (h := ?_) | refine sy_add (h := ?_) | refine sw_alloc (h := fun _ => ?_) | refine sw_bsl (h := fun _ => ?_) | refine sw_st1 (h := ?_) | refine sw_stAll (h := ?_) | refine cw_cond_t (ht := ?_) | refine cw_cond_f (hf := ?_) | apply cw_skip | apply cw_block | apply cw_ret | apply cw_exit | refine sy_shr (h := ?_) | refine sy_int (h := ?_) | refine sy_bneq (h := ?_) | refine sy_arrA (h := ?_) | refine sy_strI (h := ?_) | (refine sy_ldCs (cs := u32s iniC) (hF := fun w h => h.ini) (hl := by rfl) (h := ?_)))
  rename_i b
  refine cw_loop (ι := ShaA s) (fun i => ⟨[(0, .string s), (3, .pointer (some ⟨b, 0, none⟩)), (4, .string i.r)], [cel b 107 (u32s i.x.l)], Glob⟩) (fun i => i.f) ⟨s.size, iniS, s, Nat.le_refl _, Nat.le_refl _, rfl⟩ (ok_sub ⟨rfl, rfl, rfl, trivial⟩ (List.Sublist.refl _) fun _ h => h) fun i => ?_
  repeat' (first | apply sw_nil | apply cw_seq | apply cw_reg | refine sy_move (h := ?_) | refine sy_assign (h := ?_) | refine sy_ld (h := ?_) | refine sy_ldAll (h := ?_) | refine sy_neq (h := ?_) | refine sy_lss (h := ?_) | refine sy_geq (h := ?_) | refine sy_sneq (h := ?_) | refine sy_slen (h := ?_) | refine sy_len (h := ?_) | refine sy_add (h := ?_) | refine sw_alloc (h := fun _ => ?_) | refine sw_bsl (h := fun _ => ?_) | refine sw_st1 (h := ?_) | refine sw_stAll (h := ?_) | refine cw_cond_t (ht := ?_) | refine cw_cond_f (hf := ?_) | apply cw_skip | apply cw_block | apply cw_ret | apply cw_exit | refine sy_shr (h := ?_) | refine sy_int (h := ?_) | refine sy_bneq (h := ?_) | refine sy_arrA (h := ?_) | refine sy_strI (h := ?_) | (refine cw_cond (ht := ?_) (hf := ?_); all_goals (intro hx_; first | have := of_decide_eq_true hx_ | have := of_decide_eq_false hx_ | skip)))
  · have h64 : 64 ≤ i.r.size := by omega
    have hx64 : (i.r.extract 0 (Int.toNat 64)).size = 64 := by simp only [ByteArray.size_extract]; have : Int.toNat 64 = 64 := rfl; omega
    (refine cw_draw [] (fun _ => True) (by kernel_rfl) ?_)
    all_goals (refine aw_take 1 (h := ?_))
    all_goals (first | refine aw_take 2 (h := ?_) | refine aw_take 2 (hy := by (first | (apply y_strH; rfl; rfl; decide; omega))) (h := ?_))
    all_goals (refine aw_step 0 (h := ?_); (first | (refine sy_ld (h := ?_)) | (refine sy_ldAll (h := ?_)) | (refine sy_ldAll (h := ?_))); apply sw_nil; refine aw_fin (h := ?_))
    all_goals (refine aw_step 3 (h := ?_); (first | refine sw_pu (hc := mix_pu i.x _ hx64) (h := ?_)); apply sw_nil; refine aw_fin (h := ?_))
    all_goals (refine aw_step 4 (h := ?_); (first | (refine sw_st1 (h := ?_)) | (refine sw_stAll (h := ?_))); apply sw_nil; refine aw_fin (h := ?_))
    all_goals (refine aw_done (h := ?_))
    all_goals (repeat' (first | apply sw_nil | apply cw_seq | apply cw_reg | refine sy_move (h := ?_) | refine sy_assign (h := ?_) | refine sy_ld (h := ?_) | refine sy_ldAll (h := ?_) | refine sy_neq (h := ?_) | refine sy_lss (h := ?_) | refine sy_geq (h := ?_) | refine sy_sneq (h := ?_) | refine sy_slen (h := ?_) | refine sy_len (h := ?_) | refine sy_add (h := ?_) | refine sw_alloc (h := fun _ => ?_) | refine sw_bsl (h := fun _ => ?_) | refine sw_st1 (h := ?_) | refine sw_stAll (h := ?_) | refine cw_cond_t (ht := ?_) | refine cw_cond_f (hf := ?_) | apply cw_skip | apply cw_block | apply cw_ret | apply cw_exit | refine sy_shr (h := ?_) | refine sy_int (h := ?_) | refine sy_bneq (h := ?_) | refine sy_arrA (h := ?_) | refine sy_strI (h := ?_) | (refine cw_cond (ht := ?_) (hf := ?_); all_goals (intro hx_; first | have := of_decide_eq_true hx_ | have := of_decide_eq_false hx_ | skip))))
    refine sy_strL (h0 := by decide) (h1 := by omega) (h := ?_)
    repeat' (first | apply sw_nil | apply cw_seq | apply cw_reg | refine sy_move (h := ?_) | refine sy_assign (h := ?_) | refine sy_ld (h := ?_) | refine sy_ldAll (h := ?_) | refine sy_neq (h := ?_) | refine sy_lss (h := ?_) | refine sy_geq (h := ?_) | refine sy_sneq (h := ?_) | refine sy_slen (h := ?_) | refine sy_len (h := ?_) | refine sy_add (h := ?_) | refine sw_alloc (h := fun _ => ?_) | refine sw_bsl (h := fun _ => ?_) | refine sw_st1 (h := ?_) | refine sw_stAll (h := ?_) | refine cw_cond_t (ht := ?_) | refine cw_cond_f (hf := ?_) | apply cw_skip | apply cw_block | apply cw_ret | apply cw_exit | refine sy_shr (h := ?_) | refine sy_int (h := ?_) | refine sy_bneq (h := ?_) | refine sy_arrA (h := ?_) | refine sy_strI (h := ?_) | (refine cw_cond (ht := ?_) (hf := ?_); all_goals (intro hx_; first | have := of_decide_eq_true hx_ | have := of_decide_eq_false hx_ | skip)))
    exact ⟨i.next h64, (by show i.f - 1 < i.f; have := i.h; omega), ok_sub ⟨rfl, rfl, rfl, trivial⟩ (List.Sublist.refl _) fun _ h => h⟩
  have hlast := i.last (by omega)
  have hrs := i.hs
  repeat' (first | apply sw_nil | apply cw_seq | apply cw_reg | refine sy_move (h := ?_) | refine sy_assign (h := ?_) | refine sy_ld (h := ?_) | refine sy_ldAll (h := ?_) | refine sy_neq (h := ?_) | refine sy_lss (h := ?_) | refine sy_geq (h := ?_) | refine sy_sneq (h := ?_) | refine sy_slen (h := ?_) | refine sy_len (h := ?_) | refine sy_add (h := ?_) | refine sw_alloc (h := fun _ => ?_) | refine sw_bsl (h := fun _ => ?_) | refine sw_st1 (h := ?_) | refine sw_stAll (h := ?_) | refine cw_cond_t (ht := ?_) | refine cw_cond_f (hf := ?_) | apply cw_skip | apply cw_block | apply cw_ret | apply cw_exit | refine sy_shr (h := ?_) | refine sy_int (h := ?_) | refine sy_bneq (h := ?_) | refine sy_arrA (h := ?_) | refine sy_strI (h := ?_) | refine sw_pu (hc := ending_pu i.r _ (by omega)) (h := ?_) | (refine cw_cond (ht := ?_) (hf := ?_); all_goals (intro hx_; first | have := of_decide_eq_true hx_ | have := of_decide_eq_false hx_ | skip)))
  have hmod := endV_size i.r (s.size : Int)
  generalize hr0 : endV i.r (s.size : Int) = r0 at *
  refine cw_loop (ι := ShaE i.x r0) (fun j => ⟨[(3, .pointer (some ⟨b, 0, none⟩)), (4, .string j.r)], [cel b 107 (u32s j.x.l)], Glob⟩) (fun j => j.f) ⟨r0.size, i.x, r0, Nat.le_refl _, hmod, rfl⟩ (ok_sub ⟨rfl, rfl, trivial⟩ (List.Sublist.refl _) fun _ h => h) fun j => ?_
  have hjm := j.hm
  repeat' (first | apply sw_nil | apply cw_seq | apply cw_reg | refine sy_move (h := ?_) | refine sy_assign (h := ?_) | refine sy_ld (h := ?_) | refine sy_ldAll (h := ?_) | refine sy_neq (h := ?_) | refine sy_lss (h := ?_) | refine sy_geq (h := ?_) | refine sy_sneq (h := ?_) | refine sy_slen (h := ?_) | refine sy_len (h := ?_) | refine sy_add (h := ?_) | refine sw_alloc (h := fun _ => ?_) | refine sw_bsl (h := fun _ => ?_) | refine sw_st1 (h := ?_) | refine sw_stAll (h := ?_) | refine cw_cond_t (ht := ?_) | refine cw_cond_f (hf := ?_) | apply cw_skip | apply cw_block | apply cw_ret | apply cw_exit | refine sy_shr (h := ?_) | refine sy_int (h := ?_) | refine sy_bneq (h := ?_) | refine sy_arrA (h := ?_) | refine sy_strI (h := ?_) | (refine cw_cond (ht := ?_) (hf := ?_); all_goals (intro hx_; first | have := of_decide_eq_true hx_ | have := of_decide_eq_false hx_ | skip)))
  · have hne : 0 < j.r.size := by
      have : seqB j.r ⟨#[]⟩ = false := by simpa using hx_
      rw [seqB_empty] at this
      have := of_decide_eq_false this
      omega
    have h64 : 64 ≤ j.r.size := by omega
    have hx64 : (j.r.extract 0 (Int.toNat 64)).size = 64 := by simp only [ByteArray.size_extract]; have : Int.toNat 64 = 64 := rfl; omega
    (refine cw_draw [] (fun _ => True) (by kernel_rfl) ?_)
    all_goals (refine aw_take 1 (h := ?_))
    all_goals (first | refine aw_take 2 (h := ?_) | refine aw_take 2 (hy := by (first | (apply y_strH; rfl; rfl; decide; omega))) (h := ?_))
    all_goals (refine aw_step 0 (h := ?_); (first | (refine sy_ld (h := ?_)) | (refine sy_ldAll (h := ?_)) | (refine sy_ldAll (h := ?_))); apply sw_nil; refine aw_fin (h := ?_))
    all_goals (refine aw_step 3 (h := ?_); (first | refine sw_pu (hc := mix_pu j.x _ hx64) (h := ?_)); apply sw_nil; refine aw_fin (h := ?_))
    all_goals (refine aw_step 4 (h := ?_); (first | (refine sw_st1 (h := ?_)) | (refine sw_stAll (h := ?_))); apply sw_nil; refine aw_fin (h := ?_))
    all_goals (refine aw_done (h := ?_))
    all_goals (repeat' (first | apply sw_nil | apply cw_seq | apply cw_reg | refine sy_move (h := ?_) | refine sy_assign (h := ?_) | refine sy_ld (h := ?_) | refine sy_ldAll (h := ?_) | refine sy_neq (h := ?_) | refine sy_lss (h := ?_) | refine sy_geq (h := ?_) | refine sy_sneq (h := ?_) | refine sy_slen (h := ?_) | refine sy_len (h := ?_) | refine sy_add (h := ?_) | refine sw_alloc (h := fun _ => ?_) | refine sw_bsl (h := fun _ => ?_) | refine sw_st1 (h := ?_) | refine sw_stAll (h := ?_) | refine cw_cond_t (ht := ?_) | refine cw_cond_f (hf := ?_) | apply cw_skip | apply cw_block | apply cw_ret | apply cw_exit | refine sy_shr (h := ?_) | refine sy_int (h := ?_) | refine sy_bneq (h := ?_) | refine sy_arrA (h := ?_) | refine sy_strI (h := ?_) | (refine cw_cond (ht := ?_) (hf := ?_); all_goals (intro hx_; first | have := of_decide_eq_true hx_ | have := of_decide_eq_false hx_ | skip))))
    refine sy_strL (h0 := by decide) (h1 := by omega) (h := ?_)
    repeat' (first | apply sw_nil | apply cw_seq | apply cw_reg | refine sy_move (h := ?_) | refine sy_assign (h := ?_) | refine sy_ld (h := ?_) | refine sy_ldAll (h := ?_) | refine sy_neq (h := ?_) | refine sy_lss (h := ?_) | refine sy_geq (h := ?_) | refine sy_sneq (h := ?_) | refine sy_slen (h := ?_) | refine sy_len (h := ?_) | refine sy_add (h := ?_) | refine sw_alloc (h := fun _ => ?_) | refine sw_bsl (h := fun _ => ?_) | refine sw_st1 (h := ?_) | refine sw_stAll (h := ?_) | refine cw_cond_t (ht := ?_) | refine cw_cond_f (hf := ?_) | apply cw_skip | apply cw_block | apply cw_ret | apply cw_exit | refine sy_shr (h := ?_) | refine sy_int (h := ?_) | refine sy_bneq (h := ?_) | refine sy_arrA (h := ?_) | refine sy_strI (h := ?_) | (refine cw_cond (ht := ?_) (hf := ?_); all_goals (intro hx_; first | have := of_decide_eq_true hx_ | have := of_decide_eq_false hx_ | skip)))
    exact ⟨j.next hne, (by show j.f - 1 < j.f; have := j.h; omega), ok_sub ⟨rfl, rfl, trivial⟩ (List.Sublist.refl _) fun _ h => h⟩
  have hz : j.r.size = 0 := by
    have : seqB j.r ⟨#[]⟩ = true := by simpa using hx_
    rw [seqB_empty] at this
    exact of_decide_eq_true this
  have hend := j.last hz
  have hl8 := St8.len j.x
  repeat' (first | apply sw_nil | apply cw_seq | apply cw_reg | refine sy_move (h := ?_) | refine sy_assign (h := ?_) | refine sy_ld (h := ?_) | refine sy_ldAll (h := ?_) | refine sy_neq (h := ?_) | refine sy_lss (h := ?_) | refine sy_geq (h := ?_) | refine sy_sneq (h := ?_) | refine sy_slen (h := ?_) | refine sy_len (h := ?_) | refine sy_add (h := ?_) | refine sw_alloc (h := fun _ => ?_) | refine sw_bsl (h := fun _ => ?_) | refine sw_st1 (h := ?_) | refine sw_stAll (h := ?_) | refine cw_cond_t (ht := ?_) | refine cw_cond_f (hf := ?_) | apply cw_skip | apply cw_block | apply cw_ret | apply cw_exit | refine sy_shr (h := ?_) | refine sy_int (h := ?_) | refine sy_bneq (h := ?_) | refine sy_arrA (h := ?_) | refine sy_strI (h := ?_) | (refine sw_mkSl (c := 32) (hy := by rfl) (hm := by rfl) (hm2 := by rfl) (h := fun q => ?_)))
  generalize hL : j.x.l = L at *
  have hfl := fun k => flat_len (L.take k)
  refine cw_loop (ι := EndS 8) (fun m => ⟨[(5, .slice m.A (4 * m.k) m.c), (32, .agg (u32s L).toArray), (33, .int .i64 m.k)], [orow 5 1 (.slice m.A (4 * m.k) m.c) (4 * m.k) (u8s ((L.take m.k).flatMap digB))], Glob⟩) (fun m => 8 - m.k) ⟨0, Nat.zero_le _, _, _⟩ (ok_sub ⟨rfl, rfl, rfl, trivial⟩ (List.Sublist.cons_cons _ (List.Sublist.cons _ (List.Sublist.refl _))) fun _ h => h) fun m => ?_
  have hmk := m.hk
  repeat' (first | apply sw_nil | apply cw_seq | apply cw_reg | refine sy_move (h := ?_) | refine sy_assign (h := ?_) | refine sy_ld (h := ?_) | refine sy_ldAll (h := ?_) | refine sy_neq (h := ?_) | refine sy_lss (h := ?_) | refine sy_geq (h := ?_) | refine sy_sneq (h := ?_) | refine sy_slen (h := ?_) | refine sy_len (h := ?_) | refine sy_add (h := ?_) | refine sw_alloc (h := fun _ => ?_) | refine sw_bsl (h := fun _ => ?_) | refine sw_st1 (h := ?_) | refine sw_stAll (h := ?_) | refine cw_cond_t (ht := ?_) | refine cw_cond_f (hf := ?_) | apply cw_skip | apply cw_block | apply cw_ret | apply cw_exit | refine sy_shr (h := ?_) | refine sy_int (h := ?_) | refine sy_bneq (h := ?_) | refine sy_arrA (h := ?_) | refine sy_strI (h := ?_) | (refine cw_cond (ht := ?_) (hf := ?_); all_goals (intro hx_; first | have := of_decide_eq_true hx_ | have := of_decide_eq_false hx_ | skip)))
  · have hlt : m.k < 8 := by omega
    have hg : (u32s L).toArray[((m.k : Nat) : Int).toNat]? = some (.int .u32 (L.getD m.k 0)) := by
      rw [Int.toNat_natCast]
      simpa using u32s_get L m.k (by omega)
    repeat' (first | apply sw_nil | apply cw_seq | apply cw_reg | refine sy_move (h := ?_) | refine sy_assign (h := ?_) | refine sy_ld (h := ?_) | refine sy_ldAll (h := ?_) | refine sy_neq (h := ?_) | refine sy_lss (h := ?_) | refine sy_geq (h := ?_) | refine sy_sneq (h := ?_) | refine sy_slen (h := ?_) | refine sy_len (h := ?_) | refine sy_add (h := ?_) | refine sw_alloc (h := fun _ => ?_) | refine sw_bsl (h := fun _ => ?_) | refine sw_st1 (h := ?_) | refine sw_stAll (h := ?_) | refine cw_cond_t (ht := ?_) | refine cw_cond_f (hf := ?_) | apply cw_skip | apply cw_block | apply cw_ret | apply cw_exit | refine sy_shr (h := ?_) | refine sy_int (h := ?_) | refine sy_bneq (h := ?_) | refine sy_arrA (h := ?_) | refine sy_strI (h := ?_) | (refine sy_arrI (hv := hg) (h := ?_)))
    refine sw_append (size := 1) (z := .int .u8 0) (news := u8s (digB (L.getD m.k 0))) (q := 4) rfl rfl rfl rfl (fun _ => At.there _ (At.here _)) (fun w G => src_cel G List.mem_cons_self rfl rfl 4) ?_ ?_ rfl ?_ rfl ?_
    · omega
    · simp only [maxLen]; omega
    · rfl
    intro A2 c2
    repeat' (first | apply sw_nil | apply cw_seq | apply cw_reg | refine sy_move (h := ?_) | refine sy_assign (h := ?_) | refine sy_ld (h := ?_) | refine sy_ldAll (h := ?_) | refine sy_neq (h := ?_) | refine sy_lss (h := ?_) | refine sy_geq (h := ?_) | refine sy_sneq (h := ?_) | refine sy_slen (h := ?_) | refine sy_len (h := ?_) | refine sy_add (h := ?_) | refine sw_alloc (h := fun _ => ?_) | refine sw_bsl (h := fun _ => ?_) | refine sw_st1 (h := ?_) | refine sw_stAll (h := ?_) | refine cw_cond_t (ht := ?_) | refine cw_cond_f (hf := ?_) | apply cw_skip | apply cw_block | apply cw_ret | apply cw_exit | refine sy_shr (h := ?_) | refine sy_int (h := ?_) | refine sy_bneq (h := ?_) | refine sy_arrA (h := ?_) | refine sy_strI (h := ?_) | (refine cw_cond (ht := ?_) (hf := ?_); all_goals (intro hx_; first | have := of_decide_eq_true hx_ | have := of_decide_eq_false hx_ | skip)))
    refine ⟨(⟨m.k + 1, hlt, A2, c2⟩ : EndS 8), (by show 8 - (m.k + 1) < 8 - m.k; omega), ok_sub ⟨?_, rfl, rfl, trivial⟩ ?_ fun _ h => h⟩
    · rfl
    refine List.Sublist.cons _ ?_
    rw [← u8s_append]
    have e : (L.take (m.k + 1)).flatMap digB = (L.take m.k).flatMap digB ++ digB (L.getD m.k 0) := by
      have hlt2 : m.k < L.length := by omega
      rw [List.take_add_one, List.flatMap_append, List.getElem?_eq_getElem hlt2, List.getD_eq_getElem?_getD, List.getElem?_eq_getElem hlt2]
      simp only [Option.toList_some, List.flatMap_cons, List.flatMap_nil, List.append_nil, Option.getD_some]
    simp only [e]
    exact List.Sublist.refl _
  have hm8 : m.k = 8 := by omega
  repeat' (first | apply sw_nil | apply cw_seq | apply cw_reg | refine sy_move (h := ?_) | refine sy_assign (h := ?_) | refine sy_ld (h := ?_) | refine sy_ldAll (h := ?_) | refine sy_neq (h := ?_) | refine sy_lss (h := ?_) | refine sy_geq (h := ?_) | refine sy_sneq (h := ?_) | refine sy_slen (h := ?_) | refine sy_len (h := ?_) | refine sy_add (h := ?_) | refine sw_alloc (h := fun _ => ?_) | refine sw_bsl (h := fun _ => ?_) | refine sw_st1 (h := ?_) | refine sw_stAll (h := ?_) | refine cw_cond_t (ht := ?_) | refine cw_cond_f (hf := ?_) | apply cw_skip | apply cw_block | apply cw_ret | apply cw_exit | refine sy_shr (h := ?_) | refine sy_int (h := ?_) | refine sy_bneq (h := ?_) | refine sy_arrA (h := ?_) | refine sy_strI (h := ?_) | (refine cw_cond (ht := ?_) (hf := ?_); all_goals (intro hx_; first | have := of_decide_eq_true hx_ | have := of_decide_eq_false hx_ | skip)))
  refine sy_b2s (hm := List.mem_cons_self) (h := ?_)
  repeat' (first | apply sw_nil | apply cw_seq | apply cw_reg | refine sy_move (h := ?_) | refine sy_assign (h := ?_) | refine sy_ld (h := ?_) | refine sy_ldAll (h := ?_) | refine sy_neq (h := ?_) | refine sy_lss (h := ?_) | refine sy_geq (h := ?_) | refine sy_sneq (h := ?_) | refine sy_slen (h := ?_) | refine sy_len (h := ?_) | refine sy_add (h := ?_) | refine sw_alloc (h := fun _ => ?_) | refine sw_bsl (h := fun _ => ?_) | refine sw_st1 (h := ?_) | refine sw_stAll (h := ?_) | refine cw_cond_t (ht := ?_) | refine cw_cond_f (hf := ?_) | apply cw_skip | apply cw_block | apply cw_ret | apply cw_exit | refine sy_shr (h := ?_) | refine sy_int (h := ?_) | refine sy_bneq (h := ?_) | refine sy_arrA (h := ?_) | refine sy_strI (h := ?_) | (refine cw_cond (ht := ?_) (hf := ?_); all_goals (intro hx_; first | have := of_decide_eq_true hx_ | have := of_decide_eq_false hx_ | skip)))
  apply ends_ret; apply res_tmp; rfl; rfl
  rw [hm8, List.take_of_length_le (by omega)]
  simp only [shaV, hlast, hr0, hend, hL]
end Go.Proofs.YtlankpiogfhblaaGreatDoor

/- A right activity has bounded strings and lists. No walk in sight. -/
set_option linter.unusedVariables false
set_option linter.unusedSimpArgs false
namespace Go.Proofs.YtlankpiogfhblaaGreatDoor
open Go Go.Proofs Sy
structure ActD.Rng (a : ActD) : Prop where
  ints : a.seq < 9223372036854775808 ∧ a.kind < 9223372036854775808 ∧ a.time < 9223372036854775808 ∧ a.scope < 9223372036854775808 ∧ a.epoch < 9223372036854775808 ∧ a.n < 9223372036854775808 ∧ a.m < 9223372036854775808 ∧ a.e < 9223372036854775808 ∧ a.s < 9223372036854775808
  wints : ∀ w ∈ a.wrapsL, w.to < 9223372036854775808 ∧ w.eph < 9223372036854775808
  to_len : a.to.n = a.toL.length
  wraps_len : a.wraps.n = a.wrapsL.length
def useU (z0 z1 z2 z3 z4 z5 z6 z7 z8 z9 z10 : Bool) : Int :=
  noteV (noteV (noteV (noteV (noteV (noteV (noteV (noteV (noteV (noteV (noteV 0 1 z0) 2 z1) 4 z2) 8 z3) 16 z4) 32 z5) 64 z6) 128 z7) 256 z8) 512 z9) 1024 z10
def useOk (fs : Nat) (z0 z1 z2 z3 z4 z5 z6 z7 z8 z9 z10 : Bool) : Bool :=
  !decide (bitsV .andNot .i64 (useU z0 z1 z2 z3 z4 z5 z6 z7 z8 z9 z10) fs = 0) || ((fs.testBit 0 || z0) && (fs.testBit 1 || z1) && (fs.testBit 3 || z3) && (fs.testBit 4 || z4) && (fs.testBit 5 || z5) && (fs.testBit 6 || z6) && (fs.testBit 8 || z8))
def bools (p : Bool → Bool) : Bool := p true && p false
theorem bools_all {p : Bool → Bool} (h : bools p = true) (b : Bool) : p b = true := by
  simp only [bools, Bool.and_eq_true] at h
  cases b
  · exact h.2
  · exact h.1
def useAll (fs : Nat) : Bool := bools fun z0 => bools fun z1 => bools fun z2 => bools fun z3 => bools fun z4 => bools fun z5 => bools fun z6 => bools fun z7 => bools fun z8 => bools fun z9 => bools fun z10 => useOk fs z0 z1 z2 z3 z4 z5 z6 z7 z8 z9 z10
theorem useAll_all : ([1568, 252, 253, 1, 2, 33, 24, 412, 35, 1536, 1808, 513, 546].all useAll) = true := by decide +kernel
theorem use_zero {fs : Nat} (hfs : useAll fs = true) {z0 z1 z2 z3 z4 z5 z6 z7 z8 z9 z10 : Bool} (h : bitsV .andNot .i64 (useU z0 z1 z2 z3 z4 z5 z6 z7 z8 z9 z10) fs = 0) :
    (fs.testBit 0 || z0) = true ∧ (fs.testBit 1 || z1) = true ∧ (fs.testBit 3 || z3) = true ∧ (fs.testBit 4 || z4) = true ∧ (fs.testBit 5 || z5) = true ∧ (fs.testBit 6 || z6) = true ∧ (fs.testBit 8 || z8) = true := by
  have h1 := bools_all (bools_all (bools_all (bools_all (bools_all (bools_all (bools_all (bools_all (bools_all (bools_all (bools_all hfs z0) z1) z2) z3) z4) z5) z6) z7) z8) z9) z10
  simp only [useOk, h, decide_true, Bool.not_true, Bool.false_or, Bool.and_eq_true] at h1
  obtain ⟨⟨⟨⟨⟨⟨h2, h3⟩, h4⟩, h5⟩, h6⟩, h7⟩, h8⟩ := h1
  exact ⟨h2, h3, h4, h5, h6, h7, h8⟩

theorem isId_size {s : ByteArray} (h : isId s = true) : s.size = 16 := by
  simp only [isId, Bool.and_eq_true, decide_eq_true_eq] at h
  omega
theorem isName_size {s : ByteArray} (h : isName s = true) : s.size ≤ 24 := by
  simp only [isName, Bool.and_eq_true, Bool.not_eq_true', decide_eq_false_iff_not] at h
  omega
theorem isDigest_size {s : ByteArray} (h : isDigestB s = true) : s.size = 32 := by
  simp only [isDigestB, decide_eq_true_eq] at h
  omega
theorem isShort_size {s : ByteArray} (h : isShortB s = true) : s.size ≤ 500 := by
  simp only [isShortB, decide_eq_true_eq] at h
  omega
theorem empty_size {s : ByteArray} (h : seqB s ⟨#[]⟩ = true) : s.size = 0 := by
  rw [seqB_empty] at h
  exact of_decide_eq_true h
structure Short (b : BoxD) : Prop where
  nonce : b.nonce.size ≤ 500
  data : b.data.size ≤ 500
  tag : b.tag.size ≤ 500
theorem Short.fit {b : BoxD} (h : Short b) : b.Fit := ⟨by have := h.nonce; omega, by have := h.data; omega, by have := h.tag; omega⟩
theorem Short.size {b : BoxD} (h : Short b) : (boxV b).size ≤ 1530 := by
  have h1 := textV_size b.nonce
  have h2 := textV_size b.data
  have h3 := textV_size b.tag
  have := h.nonce
  have := h.data
  have := h.tag
  simp only [boxV, ByteArray.size_append]
  omega
theorem isSealed_short {b : BoxD} (h : isSealedB b = true) : Short b := by
  simp only [isSealedB, Bool.and_eq_true, decide_eq_true_eq] at h
  have := isShort_size h.2
  exact ⟨by omega, this, by omega⟩
theorem boxZero_short {b : BoxD} (h : boxEq b BoxD.zero = true) : Short b := by
  simp only [boxEq, Bool.and_eq_true, BoxD.zero] at h
  obtain ⟨⟨h1, h2⟩, h3⟩ := h
  have := empty_size h1
  have := empty_size h2
  have := empty_size h3
  exact ⟨by omega, by omega, by omega⟩
structure ToOk (l : List ByteArray) : Prop where
  len : l.length ≤ 64
  each : ∀ x ∈ l, x.size ≤ 16
theorem allB_at {n : Nat} {bad : Nat → Bool} (h : allB n bad = true) {k : Nat} (hk : k < n) : bad k = false := by
  simp only [allB, List.all_eq_true, List.mem_range] at h
  simpa using h k hk
theorem isIds_ok {l : List ByteArray} (h : isIds l = true) : ToOk l := by
  simp only [isIds, Bool.and_eq_true, Bool.not_eq_true', decide_eq_false_iff_not] at h
  refine ⟨by omega, fun x hx => ?_⟩
  obtain ⟨k, hk, rfl⟩ := List.getElem_of_mem hx
  have h1 := allB_at h.2 hk
  simp only [badIds, Bool.or_eq_false_iff, Bool.not_eq_false'] at h1
  have h2 : l.getD k .empty = l[k] := by simp [hk]
  rw [h2] at h1
  have := isId_size h1.1
  omega
theorem cats_le {B : Nat} : ∀ (l : List ByteArray), (∀ x ∈ l, x.size ≤ B) → (cats l).size ≤ l.length * B
  | [], _ => by simp [cats]
  | x :: l, h => by
    have h1 := cats_le l fun y hy => h y (List.mem_cons_of_mem _ hy)
    have h2 := h x List.mem_cons_self
    simp only [cats, ByteArray.size_append, List.length_cons, Nat.add_mul, Nat.one_mul]
    omega
theorem ToOk.size {l : List ByteArray} (h : ToOk l) : (listV l).size ≤ 1073741824 := by
  have h1 := numV_size l.length
  have h2 := cats_le (B := 26) (l.map textV) (fun x hx => by
    obtain ⟨y, hy, rfl⟩ := List.mem_map.1 hx
    have := h.each y hy
    have := textV_size y
    omega)
  have h3 := h.len
  simp only [List.length_map] at h2
  simp only [listV, ByteArray.size_append]
  omega
theorem ToOk.nil {l : List ByteArray} (h : l.length = 0) : ToOk l := by
  have : l = [] := List.eq_nil_of_length_eq_zero h
  subst this
  exact ⟨by simp, by simp⟩
structure WrapsOk (l : List WrapD) : Prop where
  len : l.length ≤ 64
  each : ∀ x ∈ l, Short x.box
theorem WrapsOk.size {l : List WrapD} (h : WrapsOk l) : (cats (l.map wrapV)).size ≤ 1073741824 := by
  have h2 := cats_le (B := 1550) (l.map wrapV) (fun x hx => by
    obtain ⟨y, hy, rfl⟩ := List.mem_map.1 hx
    have := (h.each y hy).size
    have := numV_size y.to
    have := numV_size y.eph
    simp only [wrapV, ByteArray.size_append]
    omega)
  have h3 := h.len
  simp only [List.length_map] at h2
  omega
theorem WrapsOk.nil {l : List WrapD} (h : l.length = 0) : WrapsOk l := by
  have : l = [] := List.eq_nil_of_length_eq_zero h
  subst this
  exact ⟨by simp, by simp⟩
theorem wrapped_ok {a : ActD} (hr : a.Rng) (ht : ToOk a.toL) (h : wrappedB a = true) : WrapsOk a.wrapsL := by
  simp only [wrappedB, Bool.and_eq_true, decide_eq_true_eq] at h
  have h1 := hr.to_len
  have h2 := hr.wraps_len
  have h3 := ht.len
  refine ⟨by omega, fun x hx => ?_⟩
  obtain ⟨k, hk, rfl⟩ := List.getElem_of_mem hx
  have h4 := allB_at h.1 hk
  rw [badW_at (List.getElem?_eq_getElem hk)] at h4
  simp only [Bool.or_eq_false_iff, Bool.not_eq_false'] at h4
  exact isSealed_short h4.2.2
/-- What a rule says of the parts that are bounded by it. -/
structure Bnd (a : ActD) : Prop where
  object : a.object.size ≤ 500
  target : a.target.size ≤ 500
  group : a.group.size ≤ 500
  text : a.text.size ≤ 500
  body : Short a.body
  to : ToOk a.toL
  wraps : WrapsOk a.wrapsL
theorem mget_mem {κ β : Type} [KeyT κ] {k : κ} {x : β} : ∀ {l : List (κ × β)}, mget l k = some x → ∃ k', (k', x) ∈ l
  | [], h => by cases h
  | (k', v) :: r, h => by
    simp only [mget] at h
    cases hb : KeyT.eqb k k' with
    | true => rw [hb] at h; simp at h; subst h; exact ⟨k', List.mem_cons_self⟩
    | false => rw [hb] at h; obtain ⟨k2, h2⟩ := mget_mem (l := r) (by simpa using h); exact ⟨k2, List.mem_cons_of_mem _ h2⟩
theorem scope_size {sc : Int} {g : ByteArray} (h : sealedScopeB sc g = true) : g.size ≤ 500 := by
  unfold sealedScopeB at h
  cases h1 : decide (sc = 2) <;> cases h2 : decide (sc = 1) <;> cases h3 : decide (sc = 3) <;> simp only [h1, h2, h3, cond_true, cond_false] at h
  all_goals first
    | (have := isName_size h; omega)
    | (have := empty_size h; omega)
    | cases h
theorem audience_ok {a : ActD} (h : audienceB a = true) : a.group.size ≤ 500 ∧ a.text.size ≤ 500 ∧ Short a.body ∧ ToOk a.toL := by
  unfold audienceB at h
  cases h0 : isIds a.toL with
  | false => simp [h0] at h
  | true =>
    have ht := isIds_ok h0
    cases h1 : decide (a.scope = 0) with
    | true =>
      simp only [h0, h1, Bool.not_true, cond_true, cond_false, Bool.and_eq_true] at h
      obtain ⟨⟨⟨h2, h3⟩, h4⟩, h5⟩ := h
      have := empty_size h2
      have := isShort_size h4
      exact ⟨by omega, by omega, boxZero_short h5, ht⟩
    | false =>
      cases h6 : (decide (0 < (a.to.n : Int)) && !decide (a.scope = 3)) with
      | true => simp only [h0, h1, h6, Bool.not_true, cond_true, cond_false] at h; cases h
      | false =>
        simp only [h0, h1, h6, Bool.not_true, cond_true, cond_false, Bool.and_eq_true] at h
        obtain ⟨⟨⟨h2, h3⟩, h4⟩, h5⟩ := h
        have := empty_size h4
        exact ⟨scope_size h2, by omega, isSealed_short h5, ht⟩
theorem z_empty {s : ByteArray} (h : seqB s ⟨#[]⟩ = true) : s.size ≤ 500 := by have := empty_size h; omega
theorem z_to {a : ActD} (hr : a.Rng) (h : decide ((a.to.n : Int) = 0) = true) : ToOk a.toL := ToOk.nil (by have := of_decide_eq_true h; have := hr.to_len; omega)
theorem z_wraps {a : ActD} (hr : a.Rng) (h : decide ((a.wraps.n : Int) = 0) = true) : WrapsOk a.wrapsL := WrapsOk.nil (by have := of_decide_eq_true h; have := hr.wraps_len; omega)
theorem d_500 {s : ByteArray} (h : isDigestB s = true) : s.size ≤ 500 := by have := isDigest_size h; omega
theorem i_500 {s : ByteArray} (h : isId s = true) : s.size ≤ 500 := by have := isId_size h; omega
theorem n_500 {s : ByteArray} (h : isName s = true) : s.size ≤ 500 := by have := isName_size h; omega
theorem usedV_eq (a : ActD) : usedV a = useU (seqB a.object ⟨#[]⟩) (seqB a.target ⟨#[]⟩) (decide (a.scope = 0)) (seqB a.group ⟨#[]⟩) (decide ((a.to.n : Int) = 0)) (seqB a.text ⟨#[]⟩) (boxEq a.body BoxD.zero) (decide (a.epoch = 0)) (decide ((a.wraps.n : Int) = 0)) (decide (a.n = 0)) (decide (a.m = 0)) := rfl
theorem bnd_of_rule {a : ActD} (hr : a.Rng) (h : ruleB a = true) : Bnd a := by
  unfold ruleB at h
  cases hk : mget (ruleL a) a.kind with
  | none => rw [hk] at h; cases h
  | some x =>
    obtain ⟨fs, b⟩ := x
    rw [hk] at h
    simp only [Bool.and_eq_true, decide_eq_true_eq] at h
    obtain ⟨hu, hb⟩ := h
    rw [usedV_eq] at hu
    obtain ⟨k', hm⟩ := mget_mem hk
    obtain ⟨n, hn, hmem⟩ : ∃ n : Nat, fs = n ∧ n ∈ [1568, 252, 253, 1, 2, 33, 24, 412, 35, 1536, 1808, 513, 546] := by
      simp only [ruleL, List.mem_cons, Prod.mk.injEq, List.not_mem_nil, or_false] at hm
      clear hu hb hk
      rcases hm with ⟨-, h9, -⟩ | ⟨-, h9, -⟩ | ⟨-, h9, -⟩ | ⟨-, h9, -⟩ | ⟨-, h9, -⟩ | ⟨-, h9, -⟩ | ⟨-, h9, -⟩ | ⟨-, h9, -⟩ | ⟨-, h9, -⟩ | ⟨-, h9, -⟩ | ⟨-, h9, -⟩ | ⟨-, h9, -⟩ | ⟨-, h9, -⟩ | ⟨-, h9, -⟩ | ⟨-, h9, -⟩ | ⟨-, h9, -⟩ | ⟨-, h9, -⟩ | ⟨-, h9, -⟩ | ⟨-, h9, -⟩ | ⟨-, h9, -⟩ | ⟨-, h9, -⟩ | ⟨-, h9, -⟩ | ⟨-, h9, -⟩ | ⟨-, h9, -⟩ <;> exact ⟨fs.toNat, by omega, by rw [h9]; decide⟩
    rw [hn] at hu
    obtain ⟨u0, u1, u3, u4, u5, u6, u8⟩ := use_zero (List.all_eq_true.1 useAll_all n hmem) hu
    clear hu hmem hk
    simp only [ruleL, List.mem_cons, Prod.mk.injEq, List.not_mem_nil, or_false] at hm
    rcases hm with ⟨-, rfl, rfl⟩ | ⟨-, rfl, rfl⟩ | ⟨-, rfl, rfl⟩ | ⟨-, rfl, rfl⟩ | ⟨-, rfl, rfl⟩ | ⟨-, rfl, rfl⟩ | ⟨-, rfl, rfl⟩ | ⟨-, rfl, rfl⟩ | ⟨-, rfl, rfl⟩ | ⟨-, rfl, rfl⟩ | ⟨-, rfl, rfl⟩ | ⟨-, rfl, rfl⟩ | ⟨-, rfl, rfl⟩ | ⟨-, rfl, rfl⟩ | ⟨-, rfl, rfl⟩ | ⟨-, rfl, rfl⟩ | ⟨-, rfl, rfl⟩ | ⟨-, rfl, rfl⟩ | ⟨-, rfl, rfl⟩ | ⟨-, rfl, rfl⟩ | ⟨-, rfl, rfl⟩ | ⟨-, rfl, rfl⟩ | ⟨-, rfl, rfl⟩ | ⟨-, rfl, rfl⟩
    all_goals
      have hn' := congrArg Int.toNat hn
      rw [Int.toNat_natCast] at hn'
      subst hn'
      try simp only [rule1B, rule2B, rule3B, rule4B, rule5B, rule6B, objectB, targetB, grantB, setupB, Bool.and_eq_true] at hb
    all_goals first
      | (have hA := audience_ok hb; exact ⟨z_empty u0, z_empty u1, hA.1, hA.2.1, hA.2.2.1, hA.2.2.2, z_wraps hr u8⟩)
      | (have hA := audience_ok hb.2; exact ⟨d_500 hb.1, z_empty u1, hA.1, hA.2.1, hA.2.2.1, hA.2.2.2, z_wraps hr u8⟩)
      | (have hT := isIds_ok hb.1.2; exact ⟨z_empty u0, z_empty u1, scope_size hb.1.1.1, z_empty u5, boxZero_short u6, hT, wrapped_ok hr hT hb.2⟩)
      | (have hT := isIds_ok hb.1.1.1.2; exact ⟨z_empty u0, z_empty u1, z_empty u3, z_empty u5, boxZero_short u6, hT, wrapped_ok hr hT hb.1.1.2⟩)
      | exact ⟨by first | exact z_empty u0 | exact d_500 hb.1 | exact d_500 hb, by first | exact z_empty u1 | exact i_500 hb | exact i_500 hb.1.1, by first | exact z_empty u3 | exact n_500 hb.1, by first | exact z_empty u5 | exact isShort_size hb.2 | exact n_500 hb.1 | exact isShort_size hb.1.2, boxZero_short u6, by first | exact z_to hr u4 | exact isIds_ok hb.2, z_wraps hr u8⟩
      | skip
    -- a label: of an object or of a target
    unfold labelB at hb
    cases hN : isName a.text with
    | false => simp [hN] at hb
    | true =>
      simp only [hN, Bool.not_true, cond_false, Bool.or_eq_true, Bool.and_eq_true, objectB, targetB] at hb
      refine ⟨?_, ?_, z_empty u3, n_500 hN, boxZero_short u6, z_to hr u4, z_wraps hr u8⟩
      · rcases hb with hb | hb
        · exact d_500 hb.1
        · exact z_empty hb.2
      · rcases hb with hb | hb
        · exact z_empty hb.2
        · exact i_500 hb.1
theorem fit_of_right {a : ActD} (hr : a.Rng) (h : rightB a = true) : a.Fit := by
  simp only [rightB, Bool.and_eq_true] at h
  obtain ⟨⟨⟨⟨⟨h1, h2⟩, h3⟩, h4⟩, h5⟩, h6⟩ := h
  have hB := bnd_of_rule hr h6
  have hp : a.prev.size ≤ 500 := by
    unfold placedB at h2
    cases hs : decide (a.seq = 0) with
    | true => simp only [hs, cond_true, Bool.and_eq_true] at h2; exact z_empty h2.2
    | false => simp only [hs, cond_false, Bool.and_eq_true] at h2; exact d_500 h2.2
  have := isId_size h1
  have := hB.object
  have := hB.target
  have := hB.group
  have := hB.text
  exact ⟨by omega, by omega, by omega, by omega, by omega, by omega, hB.body.fit, hB.to.size, fun w hw => (hB.wraps.each w hw).fit, hB.wraps.size, hr.ints, hr.wints⟩
end Go.Proofs.YtlankpiogfhblaaGreatDoor

/- Contracts: slices.Clone. -/
set_option linter.unusedVariables false
set_option linter.unusedSimpArgs false
namespace Go.Proofs.YtlankpiogfhblaaGreatDoor
open Go Go.Proofs Sy
theorem cloneS_mk (s : SlV) (xs : List (List Value)) (hb : s.n * 16 ≤ 140737488351232) (h1 : ∀ cs ∈ xs, cs.all (·.oneCell') = true) : Mk Tryz.prog 24 #[s.v] (fun w => RowsD w 1 s xs) (CloneAt 1 xs) := by
  refine mk_of_cw2 (args := [_]) _ Tryz.func24 rfl Tryz.ntmps24 rfl fun av bor w0 => ?_
  refine cw_know (p := s.n = xs.length ∧ (∀ r ∈ xs, r.length = 1) ∧ (s.p.isNone = true → xs = [])) (fun w h => ⟨h.len, fun r hr => ?_, h.none_nil⟩) fun ⟨hl, hr1, hnil⟩ => ?_
  · obtain ⟨i, hi⟩ := List.mem_iff_getElem?.1 hr
    exact (h.row i r hi).1
  repeat' (first | refine sy_slNil (h := ?_) | refine sw_bsl0 (h := fun _ => ?_) | apply sw_nil | apply cw_seq | apply cw_reg | refine sy_move (h := ?_) | refine sy_assign (h := ?_) | refine sy_eql (h := ?_) | refine sy_seql (h := ?_) | refine sw_bsl (h := fun _ => ?_) | refine cw_cond_t (ht := ?_) | refine cw_cond_f (hf := ?_) | apply cw_skip | apply cw_block | apply cw_ret | apply cw_exit | refine sy_beql (h := ?_) | refine sy_arrA (h := ?_) | refine sy_strI (h := ?_) | (refine cw_cond (ht := ?_) (hf := ?_); all_goals (intro hx_; first | have := of_decide_eq_true hx_ | have := of_decide_eq_false hx_ | skip)))
  · refine ends_ret (res_tmp rfl rfl) ⟨⟨none, 0, 0⟩, rfl, ?_, fun w _ => ?_⟩
    · rw [hnil hx_]; rfl
    · rw [hnil hx_]; exact rowsD_nil w 1
  refine sw_append (size := 1) (z := .string ⟨#[]⟩) (news := xs.flatten) (q := s.n) rfl rfl rfl rfl (fun _ => At.here _) (fun w G => src_rows G.keep.now h1) ?_ ?_ rfl ?_ rfl ?_
  · omega
  · simp only [maxLen]; omega
  · rfl
  intro A c
  repeat' (first | apply sw_nil | apply cw_seq | apply cw_reg | refine sy_move (h := ?_) | refine sy_assign (h := ?_) | refine sy_eql (h := ?_) | refine sy_seql (h := ?_) | refine sw_bsl (h := fun _ => ?_) | refine cw_cond_t (ht := ?_) | refine cw_cond_f (hf := ?_) | apply cw_skip | apply cw_block | apply cw_ret | apply cw_exit | refine sy_beql (h := ?_) | refine sy_arrA (h := ?_) | refine sy_strI (h := ?_))
  refine ends_ret (res_tmp rfl rfl) ⟨⟨A, 0 + s.n, c⟩, rfl, ?_, fun w h => ?_⟩
  · show 0 + s.n = xs.length
    omega
  · exact rows_of_orow (h.2 _ List.mem_cons_self) (by omega) hr1
theorem cloneW_mk (s : SlV) (xs : List (List Value)) (hb : s.n * 64 ≤ 140737488351232) (h1 : ∀ cs ∈ xs, cs.all (·.oneCell') = true) : Mk Tryz.prog 25 #[s.v] (fun w => RowsD w 5 s xs) (CloneAt 5 xs) := by
  refine mk_of_cw2 (args := [_]) _ Tryz.func25 rfl Tryz.ntmps25 rfl fun av bor w0 => ?_
  refine cw_know (p := s.n = xs.length ∧ (∀ r ∈ xs, r.length = 5) ∧ (s.p.isNone = true → xs = [])) (fun w h => ⟨h.len, fun r hr => ?_, h.none_nil⟩) fun ⟨hl, hr1, hnil⟩ => ?_
  · obtain ⟨i, hi⟩ := List.mem_iff_getElem?.1 hr
    exact (h.row i r hi).1
  repeat' (first | refine sy_slNil (h := ?_) | refine sw_bsl0 (h := fun _ => ?_) | apply sw_nil | apply cw_seq | apply cw_reg | refine sy_move (h := ?_) | refine sy_assign (h := ?_) | refine sy_eql (h := ?_) | refine sy_seql (h := ?_) | refine sw_bsl (h := fun _ => ?_) | refine cw_cond_t (ht := ?_) | refine cw_cond_f (hf := ?_) | apply cw_skip | apply cw_block | apply cw_ret | apply cw_exit | refine sy_beql (h := ?_) | refine sy_arrA (h := ?_) | refine sy_strI (h := ?_) | (refine cw_cond (ht := ?_) (hf := ?_); all_goals (intro hx_; first | have := of_decide_eq_true hx_ | have := of_decide_eq_false hx_ | skip)))
  · refine ends_ret (res_tmp rfl rfl) ⟨⟨none, 0, 0⟩, rfl, ?_, fun w _ => ?_⟩
    · rw [hnil hx_]; rfl
    · rw [hnil hx_]; exact rowsD_nil w 5
  refine sw_append (size := 5) (news := xs.flatten) (q := s.n) rfl rfl rfl rfl (fun _ => At.here _) (fun w G => src_rows G.keep.now h1) ?_ ?_ rfl ?_ rfl ?_
  · omega
  · simp only [maxLen]; omega
  · rfl
  intro A c
  repeat' (first | apply sw_nil | apply cw_seq | apply cw_reg | refine sy_move (h := ?_) | refine sy_assign (h := ?_) | refine sy_eql (h := ?_) | refine sy_seql (h := ?_) | refine sw_bsl (h := fun _ => ?_) | refine cw_cond_t (ht := ?_) | refine cw_cond_f (hf := ?_) | apply cw_skip | apply cw_block | apply cw_ret | apply cw_exit | refine sy_beql (h := ?_) | refine sy_arrA (h := ?_) | refine sy_strI (h := ?_))
  refine ends_ret (res_tmp rfl rfl) ⟨⟨A, 0 + s.n, c⟩, rfl, ?_, fun w h => ?_⟩
  · show 0 + s.n = xs.length
    omega
  · exact rows_of_orow (h.2 _ List.mem_cons_self) (by omega) hr1
end Go.Proofs.YtlankpiogfhblaaGreatDoor

/- Contracts: item.Right, item.Bytes, item.Digest of the item of an activity. -/
set_option linter.unusedVariables false
set_option linter.unusedSimpArgs false
namespace Go.Proofs.YtlankpiogfhblaaGreatDoor
open Go Go.Proofs Sy
set_option maxRecDepth 20000 in
theorem itemRight_pu (a : ActD) : Pu Tryz.prog 36 #[itemV 0 a] (ActD.at_ · a) (.bool (rightB a)) := by
  refine pu_of_cw (args := [_]) _ Tryz.func36 rfl Tryz.ntmps36 rfl fun av bor w0 => ?_
  repeat' (first | refine sy_eqlT (h := ?_) | refine sy_eqlF (h := ?_) | apply sw_nil | apply cw_seq | apply cw_reg | refine sy_move (h := ?_) | refine sy_assign (h := ?_) | refine sy_fld (h := ?_) | refine sy_ld (h := ?_) | refine sy_ldAll (h := ?_) | refine sy_pick_t (h := ?_) | refine sy_pick_f (h := ?_) | refine sy_eql (h := ?_) | refine sy_seql (h := ?_) | refine sw_skipT (h := ?_) | refine sw_skipF (h := ?_) | refine sw_skipU (h := ?_) | refine sw_alloc (h := fun _ => ?_) | refine sw_box (h := fun _ => ?_) | refine sw_st1 (h := ?_) | refine sw_stAll (h := ?_) | refine cw_cond_t (ht := ?_) | refine cw_cond_f (hf := ?_) | apply cw_skip | apply cw_block | apply cw_ret | apply cw_exit | refine sy_beql (h := ?_) | refine sy_arrA (h := ?_) | refine sy_strI (h := ?_) | refine sw_pu (hc := actRight_pu a) (h := ?_) | refine sw_pu (hc := itemSame_pu) (h := ?_) | (refine sy_build (h := ?_)) | (refine sw_stSub (itemCells 0 ActD.zero) (h := ?_)) | (refine sy_ldSub (vs := a.cells) (hv := rfl) (h := ?_)) | ((fail_if_success (refine sw_chk (h := ?_))); refine sw_guard (ht := ?_) (hf := ?_); all_goals (intro hx_; first | have := of_decide_eq_true hx_ | have := of_decide_eq_false hx_ | skip)) | (refine cw_cond (ht := ?_) (hf := ?_); all_goals (intro hx_; first | have := of_decide_eq_true hx_ | have := of_decide_eq_false hx_ | skip)))
  all_goals (apply ends_ret; apply res_tmp; rfl; rfl; rw [hx_])

def bytesV (a : ActD) : ByteArray := bif rightB a then numV 0 ++ actBytes a else ⟨#[]⟩
theorem actBytes_size {a : ActD} (hr : a.Rng) : (actBytes a).size ≤ 300000000020 := by
  have n7 := numV_size a.e
  have n8 := numV_size a.s
  unfold actBytes
  cases seqB (actCore a) ⟨#[]⟩ with
  | true => simp [ByteArray.size]
  | false =>
    have hc : (actCore a).size ≤ 300000000000 := by
      unfold actCore
      cases hrB : rightB a with
      | true => exact coreV_size (fit_of_right hr hrB)
      | false => simp [ByteArray.size]
    simp only [cond_false, ByteArray.size_append]
    omega
theorem bytesV_size {a : ActD} (hr : a.Rng) : (bytesV a).size ≤ 300000000030 := by
  have h1 := numV_size 0
  have h2 := actBytes_size hr
  unfold bytesV
  cases rightB a with
  | true => simp only [cond_true, ByteArray.size_append]; omega
  | false => simp [ByteArray.size]
set_option maxRecDepth 20000 in
theorem itemBytes_pu (a : ActD) (hr : a.Rng) : Pu Tryz.prog 22 #[itemV 0 a] (ActD.at_ · a) (.string (bytesV a)) := by
  cases hrB : rightB a with
  | false =>
    have hrN : (!rightB a) = true := by rw [hrB]; rfl
    refine pu_of_cw (args := [_]) _ Tryz.func22 rfl Tryz.ntmps22 rfl fun av bor w0 => ?_
    repeat' (first | apply sw_nil | apply cw_seq | apply cw_reg | refine sy_move (h := ?_) | refine sy_assign (h := ?_) | refine sy_fld (h := ?_) | refine sy_ld (h := ?_) | refine sy_ldAll (h := ?_) | refine sy_not (h := ?_) | refine sy_eql (h := ?_) | refine sy_seql (h := ?_) | refine sw_alloc (h := fun _ => ?_) | refine sw_box (h := fun _ => ?_) | refine sw_bsl (h := fun _ => ?_) | refine sw_st1 (h := ?_) | refine sw_stAll (h := ?_) | refine cw_cond_t (ht := ?_) | refine cw_cond_f (hf := ?_) | apply cw_skip | apply cw_block | apply cw_ret | apply cw_exit | refine sy_int (h := ?_) | refine sy_beql (h := ?_) | refine sy_arrA (h := ?_) | refine sy_strI (h := ?_) | refine sw_pu (hc := itemRight_pu a) (h := ?_) | (refine cw_cond (ht := ?_) (hf := ?_); all_goals (intro hx_; first | have := of_decide_eq_true hx_ | have := of_decide_eq_false hx_ | skip)))
    apply ends_ret; apply res_tmp; rfl; rfl
    simp only [bytesV, hrB, cond_false]
  | true =>
  have hrN : (!rightB a) = false := by rw [hrB]; rfl
  refine pu_of_cw (args := [_]) _ Tryz.func22 rfl Tryz.ntmps22 rfl fun av bor w0 => ?_
  have hab := actBytes_pu a (fit_of_right hr) ⟨hr.ints.2.2.2.2.2.2.2.1, hr.ints.2.2.2.2.2.2.2.2⟩
  have hsz := actBytes_size hr
  repeat' (first | apply sw_nil | apply cw_seq | apply cw_reg | refine sy_move (h := ?_) | refine sy_assign (h := ?_) | refine sy_fld (h := ?_) | refine sy_ld (h := ?_) | refine sy_ldAll (h := ?_) | refine sy_not (h := ?_) | refine sy_eql (h := ?_) | refine sy_seql (h := ?_) | refine sw_alloc (h := fun _ => ?_) | refine sw_box (h := fun _ => ?_) | refine sw_bsl (h := fun _ => ?_) | refine sw_st1 (h := ?_) | refine sw_stAll (h := ?_) | refine cw_cond_t (ht := ?_) | refine cw_cond_f (hf := ?_) | apply cw_skip | apply cw_block | apply cw_ret | apply cw_exit | refine sy_int (h := ?_) | refine sy_beql (h := ?_) | refine sy_arrA (h := ?_) | refine sy_strI (h := ?_) | refine sw_pu (hc := itemRight_pu a) (h := ?_) | (refine cw_cond (ht := ?_) (hf := ?_); all_goals (intro hx_; first | have := of_decide_eq_true hx_ | have := of_decide_eq_false hx_ | skip)))
  rename_i bi bb bs
  have hS : (⟨#[]⟩ : ByteArray) ++ numsV [0] = numV 0 := by
    show ByteArray.empty ++ (numV 0 ++ ByteArray.empty) = numV 0
    rw [ByteArray.append_empty, ByteArray.empty_append]
  have hns : (⟨#[]⟩ : ByteArray).size + (numsV [0]).size ≤ 1099511627776 := by
    rw [← ByteArray.size_append, hS]
    have := numV_size 0
    omega
  refine sw_give ?_
  refine sw_nilRow 5 1 ?_
  refine sw_perm (l := bld bb none 0 ⟨#[]⟩ ++ [cel bi 60 (itemCells 0 a)]) (List.Perm.swap _ _ _) ?_
  refine sw_fn (pre := bld bb none 0 ⟨#[]⟩) (fr := [cel bi 60 (itemCells 0 a)]) (hc := nums_ct bb none 0 ⟨#[]⟩ ⟨some ⟨bs, 0, none⟩, 1, 1⟩ [0] (by simp) hns) (hX := fun w h => rows_of_cel (xs := [[.int .i64 0]]) h.2 rfl (by decide) (by simp)) (h := ?_)
  rintro v R X' ⟨A', c', rfl, rfl⟩
  refine sw_imp (X' := (ActD.at_ · a)) (fun w h => h.1.1) ?_
  have hn0 := numV_size 0
  rw [hS]
  generalize hs1 : numV 0 = s1 at *
  unfold bld
  repeat' (first | refine sy_eqlT (h := ?_) | apply sw_nil | apply cw_seq | apply cw_reg | refine sy_move (h := ?_) | refine sy_assign (h := ?_) | refine sy_fld (h := ?_) | refine sy_ld (h := ?_) | refine sy_ldAll (h := ?_) | refine sy_not (h := ?_) | refine sy_eql (h := ?_) | refine sy_seql (h := ?_) | refine sw_alloc (h := fun _ => ?_) | refine sw_box (h := fun _ => ?_) | refine sw_bsl (h := fun _ => ?_) | refine sw_st1 (h := ?_) | refine sw_stAll (h := ?_) | refine cw_cond_t (ht := ?_) | refine cw_cond_f (hf := ?_) | apply cw_skip | apply cw_block | apply cw_ret | apply cw_exit | refine sy_int (h := ?_) | refine sy_beql (h := ?_) | refine sy_arrA (h := ?_) | refine sy_strI (h := ?_) | (refine cw_cond (ht := ?_) (hf := ?_); all_goals (intro hx_; first | have := of_decide_eq_true hx_ | have := of_decide_eq_false hx_ | skip)))
  (refine cw_draw [] (fun _ => True) (by kernel_rfl) ?_)
  all_goals (refine aw_take 0 (h := ?_))
  all_goals (refine aw_take 2 (h := ?_))
  all_goals (refine aw_two 1 3 (h := ?_) (h' := ?_); (focus (((first | (refine sy_ld (h := ?_)) | (refine sy_ldAll (h := ?_)) | (refine sy_ldSub (vs := a.cells) (hv := rfl) (h := ?_))); apply sw_nil; refine aw_fin (h := ?_)); all_goals ((refine aw_step 3 (h := ?_); (first | (refine sy_ld (h := ?_)) | (refine sy_ldAll (h := ?_)) | (refine sy_ldSub (vs := a.cells) (hv := rfl) (h := ?_))); apply sw_nil; refine aw_fin (h := ?_)); all_goals (refine aw_step 4 (h := ?_); (first | refine sw_pu (hc := hab) (h := ?_)); apply sw_nil; refine aw_fin (h := ?_)); all_goals (refine aw_step 5 (h := ?_); (first | (refine sw_append (size := 1) (z := .int .u8 0) rfl rfl rfl rfl (fun _ => At.there _ (At.here _)) (fun w G => src_str (by omega)) (by omega) (by simp only [maxLen]; omega) rfl ?_ rfl ?_; (first | with_reducible rfl | with_reducible assumption | with_reducible exact Bool.not_false | with_reducible exact Bool.not_true); intro A1 c1)); apply sw_nil; refine aw_fin (h := ?_)); all_goals (refine aw_take 6 (h := ?_)); all_goals (refine aw_step 7 (h := ?_); (first | (refine sw_st1 (h := ?_)) | (refine sw_stAll (h := ?_))); apply sw_nil; refine aw_fin (h := ?_)); all_goals (refine aw_done (h := ?_))))); rotate_right; (focus (((first | (refine sy_ld (h := ?_)) | (refine sy_ldAll (h := ?_)) | (refine sy_ldSub (vs := a.cells) (hv := rfl) (h := ?_))); apply sw_nil; refine aw_fin (h := ?_)); all_goals ((refine aw_two 1 4 (h := ?_) (h' := ?_); (focus (((first | (refine sy_ld (h := ?_)) | (refine sy_ldAll (h := ?_)) | (refine sy_ldSub (vs := a.cells) (hv := rfl) (h := ?_))); apply sw_nil; refine aw_fin (h := ?_)); all_goals ((refine aw_step 4 (h := ?_); (first | refine sw_pu (hc := hab) (h := ?_)); apply sw_nil; refine aw_fin (h := ?_)); all_goals (refine aw_step 5 (h := ?_); (first | (refine sw_append (size := 1) (z := .int .u8 0) rfl rfl rfl rfl (fun _ => At.there _ (At.here _)) (fun w G => src_str (by omega)) (by omega) (by simp only [maxLen]; omega) rfl ?_ rfl ?_; (first | with_reducible rfl | with_reducible assumption | with_reducible exact Bool.not_false | with_reducible exact Bool.not_true); intro A1 c1)); apply sw_nil; refine aw_fin (h := ?_)); all_goals (refine aw_take 6 (h := ?_)); all_goals (refine aw_step 7 (h := ?_); (first | (refine sw_st1 (h := ?_)) | (refine sw_stAll (h := ?_))); apply sw_nil; refine aw_fin (h := ?_)); all_goals (refine aw_done (h := ?_))))); rotate_right; (focus (((first | refine sw_pu (hc := hab) (h := ?_)); apply sw_nil; refine aw_fin (h := ?_)); all_goals ((refine aw_step 1 (h := ?_); (first | (refine sy_ld (h := ?_)) | (refine sy_ldAll (h := ?_)) | (refine sy_ldSub (vs := a.cells) (hv := rfl) (h := ?_))); apply sw_nil; refine aw_fin (h := ?_)); all_goals (refine aw_step 5 (h := ?_); (first | (refine sw_append (size := 1) (z := .int .u8 0) rfl rfl rfl rfl (fun _ => At.there _ (At.here _)) (fun w G => src_str (by omega)) (by omega) (by simp only [maxLen]; omega) rfl ?_ rfl ?_; (first | with_reducible rfl | with_reducible assumption | with_reducible exact Bool.not_false | with_reducible exact Bool.not_true); intro A1 c1)); apply sw_nil; refine aw_fin (h := ?_)); all_goals (refine aw_take 6 (h := ?_)); all_goals (refine aw_step 7 (h := ?_); (first | (refine sw_st1 (h := ?_)) | (refine sw_stAll (h := ?_))); apply sw_nil; refine aw_fin (h := ?_)); all_goals (refine aw_done (h := ?_))))))))))
  all_goals (repeat' (first | apply sw_nil | apply cw_seq | apply cw_reg | refine sy_move (h := ?_) | refine sy_assign (h := ?_) | refine sy_fld (h := ?_) | refine sy_ld (h := ?_) | refine sy_ldAll (h := ?_) | refine sy_not (h := ?_) | refine sy_eql (h := ?_) | refine sy_seql (h := ?_) | refine sw_alloc (h := fun _ => ?_) | refine sw_box (h := fun _ => ?_) | refine sw_bsl (h := fun _ => ?_) | refine sw_st1 (h := ?_) | refine sw_stAll (h := ?_) | refine cw_cond_t (ht := ?_) | refine cw_cond_f (hf := ?_) | apply cw_skip | apply cw_block | apply cw_ret | apply cw_exit | refine sy_int (h := ?_) | refine sy_beql (h := ?_) | refine sy_arrA (h := ?_) | refine sy_strI (h := ?_) | (refine cw_cond (ht := ?_) (hf := ?_); all_goals (intro hx_; first | have := of_decide_eq_true hx_ | have := of_decide_eq_false hx_ | skip))))
  all_goals (
    rw [← u8s_append, ← bytesI_append]
    refine sy_b2s (hm := List.mem_cons_of_mem _ List.mem_cons_self) (h := ?_)
    repeat' (first | apply sw_nil | apply cw_seq | apply cw_reg | refine sy_move (h := ?_) | refine sy_assign (h := ?_) | refine sy_fld (h := ?_) | refine sy_ld (h := ?_) | refine sy_ldAll (h := ?_) | refine sy_not (h := ?_) | refine sy_eql (h := ?_) | refine sy_seql (h := ?_) | refine sw_alloc (h := fun _ => ?_) | refine sw_box (h := fun _ => ?_) | refine sw_bsl (h := fun _ => ?_) | refine sw_st1 (h := ?_) | refine sw_stAll (h := ?_) | refine cw_cond_t (ht := ?_) | refine cw_cond_f (hf := ?_) | apply cw_skip | apply cw_block | apply cw_ret | apply cw_exit | refine sy_int (h := ?_) | refine sy_beql (h := ?_) | refine sy_arrA (h := ?_) | refine sy_strI (h := ?_) | (refine cw_cond (ht := ?_) (hf := ?_); all_goals (intro hx_; first | have := of_decide_eq_true hx_ | have := of_decide_eq_false hx_ | skip)))
    apply ends_ret; apply res_tmp; rfl; rfl
    simp only [bytesV, hrB, cond_true, ofInts_bytesI, hs1])
def digV (a : ActD) : ByteArray := bif seqB (bytesV a) ⟨#[]⟩ then ⟨#[]⟩ else shaV (bytesV a)
theorem digest_pu (a : ActD) (hr : a.Rng) : Pu Tryz.prog 12 #[itemV 0 a] (fun w => ActD.at_ w a ∧ Glob w) (.string (digV a)) := by
  refine pu_of_cw (args := [_]) _ Tryz.func12 rfl Tryz.ntmps12 rfl fun av bor w0 => ?_
  have hsz := bytesV_size hr
  repeat' (first | apply sw_nil | apply cw_seq | apply cw_reg | refine sy_move (h := ?_) | refine sy_assign (h := ?_) | refine sy_ld (h := ?_) | refine sy_ldAll (h := ?_) | refine sy_eql (h := ?_) | refine sy_seql (h := ?_) | refine sw_box (h := fun _ => ?_) | refine cw_cond_t (ht := ?_) | refine cw_cond_f (hf := ?_) | apply cw_skip | apply cw_block | apply cw_ret | apply cw_exit | refine sy_beql (h := ?_) | refine sy_arrA (h := ?_) | refine sy_strI (h := ?_) | refine sw_pu (hc := itemBytes_pu a hr) (h := ?_) | refine sw_pu (hc := sha_pu _ (by omega)) (h := ?_) | (refine cw_cond (ht := ?_) (hf := ?_); all_goals (intro hx_; first | have := of_decide_eq_true hx_ | have := of_decide_eq_false hx_ | skip)))
  all_goals (apply ends_ret; apply res_tmp; rfl; rfl)
  · simp only [digV, hx_, cond_true]
  · simp only [digV, hx_, cond_false]
end Go.Proofs.YtlankpiogfhblaaGreatDoor

/- Chains as data; contracts: item.OfAct, chain.Index, chain.Find. -/
set_option linter.unusedVariables false
set_option linter.unusedSimpArgs false
namespace Go.Proofs.YtlankpiogfhblaaGreatDoor
open Go Go.Proofs Sy
structure ActD.Sm (a : ActD) : Prop where
  to : a.to.n * 16 ≤ 140737488351232
  wraps : a.wraps.n * 64 ≤ 140737488351232
  target : a.target.size ≤ maxLen
def ActD.re (a : ActD) (s1 s2 : SlV) : ActD := { a with to := s1, wraps := s2 }
theorem right_re {a : ActD} {s1 s2 : SlV} (h1 : s1.n = a.to.n) (h2 : s2.n = a.wraps.n) : rightB (a.re s1 s2) = rightB a := by
  obtain ⟨au, sq, pv, kd, tm, ob, tg, sc, gr, ⟨p, n, c⟩, tx, bd, ep, ⟨p', n', c'⟩, nn, mm, ee, ss, tl, wl⟩ := a
  obtain ⟨q, m, d⟩ := s1
  obtain ⟨q', m', d'⟩ := s2
  simp only at h1 h2
  subst h1
  subst h2
  simp only [rightB, ruleB, ruleL, usedV, audienceB, rule1B, rule2B, rule3B, rule4B, rule5B, rule6B, objectB, targetB, grantB, labelB, homeB, setupB, wrappedB, placedB, ActD.re]
  rfl
theorem dig_re {a : ActD} {s1 s2 : SlV} (h1 : s1.n = a.to.n) (h2 : s2.n = a.wraps.n) : digV (a.re s1 s2) = digV a := by
  have hr := right_re h1 h2
  have hc : coreV (a.re s1 s2) = coreV a := rfl
  have he : (a.re s1 s2).e = a.e := rfl
  have hs : (a.re s1 s2).s = a.s := rfl
  simp only [digV, bytesV, actBytes, actCore, hr, hc, he, hs]
def OfActAt (a : ActD) (u : Value) (X : World → Prop) : Prop := ∃ a' : ActD, u = itemV 0 a' ∧ digV a' = digV a ∧ a'.Rng ∧ ∀ w, X w → a'.at_ w
set_option maxRecDepth 20000 in
theorem ofAct_mk (a : ActD) (hr : a.Rng) (hs : a.Sm) : Mk Tryz.prog 13 #[a.v] (ActD.at_ · a) (OfActAt a) := by
  refine mk_of_cw2 (args := [_]) _ Tryz.func13 rfl Tryz.ntmps13 rfl fun av bor w0 => ?_
  repeat' (first | apply sw_nil | apply cw_seq | apply cw_reg | refine sy_move (h := ?_) | refine sy_assign (h := ?_) | refine sy_fld (h := ?_) | refine sy_ld (h := ?_) | refine sy_ldAll (h := ?_) | refine sw_alloc (h := fun _ => ?_) | refine sw_box (h := fun _ => ?_) | refine sw_st1 (h := ?_) | refine sw_stAll (h := ?_) | refine cw_cond_t (ht := ?_) | refine cw_cond_f (hf := ?_) | apply cw_skip | apply cw_block | apply cw_ret | apply cw_exit | refine sy_arrA (h := ?_) | refine sy_strI (h := ?_))
  refine sw_mk (hc := cloneS_mk a.to (strs a.toL) hs.to (fun cs hcs => by simp only [strs, List.mem_map] at hcs; obtain ⟨x, _, rfl⟩ := hcs; rfl)) (hX := fun w h => h.1) (h := fun v1 X1 h1 => ?_)
  obtain ⟨s1, rfl, hn1, hw1⟩ := h1
  repeat' (first | apply sw_nil | apply cw_seq | apply cw_reg | refine sy_move (h := ?_) | refine sy_assign (h := ?_) | refine sy_fld (h := ?_) | refine sy_ld (h := ?_) | refine sy_ldAll (h := ?_) | refine sw_alloc (h := fun _ => ?_) | refine sw_box (h := fun _ => ?_) | refine sw_st1 (h := ?_) | refine sw_stAll (h := ?_) | refine cw_cond_t (ht := ?_) | refine cw_cond_f (hf := ?_) | apply cw_skip | apply cw_block | apply cw_ret | apply cw_exit | refine sy_arrA (h := ?_) | refine sy_strI (h := ?_))
  refine sw_mk (hc := cloneW_mk a.wraps (a.wrapsL.map WrapD.cells) hs.wraps (fun cs hcs => by simp only [List.mem_map] at hcs; obtain ⟨x, _, rfl⟩ := hcs; rfl)) (hX := fun w h => h.1.2) (h := fun v2 X2 h2 => ?_)
  obtain ⟨s2, rfl, hn2, hw2⟩ := h2
  repeat' (first | apply sw_nil | apply cw_seq | apply cw_reg | refine sy_move (h := ?_) | refine sy_assign (h := ?_) | refine sy_fld (h := ?_) | refine sy_ld (h := ?_) | refine sy_ldAll (h := ?_) | refine sw_alloc (h := fun _ => ?_) | refine sw_box (h := fun _ => ?_) | refine sw_st1 (h := ?_) | refine sw_stAll (h := ?_) | refine cw_cond_t (ht := ?_) | refine cw_cond_f (hf := ?_) | apply cw_skip | apply cw_block | apply cw_ret | apply cw_exit | refine sy_arrA (h := ?_) | refine sy_strI (h := ?_) | (refine sy_build (h := ?_)))
  have e1 : s1.n = a.to.n := by rw [hn1, hr.to_len]; simp [strs]
  have e2 : s2.n = a.wraps.n := by rw [hn2, hr.wraps_len]; simp
  apply ends_ret; refine res_cell rfl rfl (by (repeat (first | exact List.mem_cons_self | apply List.mem_cons_of_mem))) ?_
  · rfl
  refine ⟨a.re s1 s2, rfl, dig_re e1 e2, ⟨hr.ints, hr.wints, ?_, ?_⟩, fun w h => ⟨?_, ?_⟩⟩
  · rw [show (a.re s1 s2).to = s1 from rfl, e1, hr.to_len]; rfl
  · rw [show (a.re s1 s2).wraps = s2 from rfl, e2, hr.wraps_len]; rfl
  · exact hw1 w h.1.1.2
  · exact hw2 w h.1.2
structure ChainD where
  id : ByteArray
  acts : SlV
  keys : SlV
  prev : ByteArray
  gen : Int
  fork : Bool
  actsL : List ActD
def ChainD.cells (c : ChainD) : List Value := [.string c.id, c.acts.v, c.keys.v, .string c.prev, .int .i64 c.gen, .bool c.fork]
def ChainD.v (c : ChainD) : Value := .agg c.cells.toArray
theorem ChainD.v_cells (c : ChainD) : c.v.cells.toList = c.cells := rfl
def ChainD.zero : ChainD := ⟨⟨#[]⟩, ⟨none, 0, 0⟩, ⟨none, 0, 0⟩, ⟨#[]⟩, 0, false, []⟩
def Acts (w : World) (s : SlV) (l : List ActD) : Prop := RowsD w 20 s (l.map ActD.cells) ∧ ∀ a ∈ l, a.at_ w
def ChainD.at_ (w : World) (c : ChainD) : Prop := Acts w c.acts c.actsL
structure ActsOk (l : List ActD) : Prop where
  rng : ∀ a ∈ l, a.Rng
  sm : ∀ a ∈ l, a.Sm
theorem Acts.len_ {w : World} {s : SlV} {l : List ActD} (h : Acts w s l) : s.n = l.length := by have := RowsD.len h.1; simpa using this
theorem Acts.max_ {w : World} {s : SlV} {l : List ActD} (h : Acts w s l) : s.n ≤ maxLen := Nat.le_trans (RowsD.cap h.1) (RowsD.max h.1)
theorem Acts.some_ {w : World} {s : SlV} {l : List ActD} (h : Acts w s l) (hl : 0 < l.length) : s.p.isSome = true := by
  have hx : l[0]? = some l[0] := List.getElem?_eq_getElem hl
  exact (RowsD.row h.1 0 l[0].cells (by simp [hx])).2.1
theorem Acts.get {w : World} {s : SlV} {l : List ActD} (h : Acts w s l) {i : Nat} {x : ActD} (hx : l[i]? = some x) : x.cells.length = 20 ∧ s.p.isSome = true ∧ ∀ j u, x.cells[j]? = some u → CellAt w s.p (i * 20 + j) u :=
  RowsD.row h.1 i x.cells (by simp [hx])
def idxV (l : List ActD) (d : ByteArray) : Option Nat := l.findIdx? fun a => seqB (digV a) d
def idxP (o : Option Nat) : Value := .tuple #[.int .i64 ((o.getD 0 : Nat) : Int), .bool o.isSome]
def badI (l : List ActD) (d : ByteArray) (k : Nat) : Bool :=
  match l[k]? with
  | some x => seqB (digV x) d
  | none => false
theorem badI_at {l : List ActD} {d : ByteArray} {k : Nat} {x : ActD} (h : l[k]? = some x) : badI l d k = seqB (digV x) d := by simp only [badI, h]
theorem idxV_found {l : List ActD} {d : ByteArray} (i : Upto l.length (badI l d)) (hlt : i.k < l.length) (hb : badI l d i.k = true) : idxV l d = some i.k := by
  rw [idxV, List.findIdx?_eq_some_iff_getElem]
  refine ⟨hlt, ?_, fun j hj => ?_⟩
  · rw [badI_at (List.getElem?_eq_getElem hlt)] at hb; exact hb
  · have := i.ok j hj
    rw [badI_at (List.getElem?_eq_getElem (by omega))] at this
    simp [this]
theorem idxV_none {l : List ActD} {d : ByteArray} (i : Upto l.length (badI l d)) (h : ¬ i.k < l.length) : idxV l d = none := by
  rw [idxV, List.findIdx?_eq_none_iff]
  intro x hx
  obtain ⟨k, hk, rfl⟩ := List.getElem_of_mem hx
  have := i.ok k (by omega)
  rwa [badI_at (List.getElem?_eq_getElem hk)] at this
theorem index_pu (c : ChainD) (hc : ActsOk c.actsL) (d : ByteArray) : Pu Tryz.prog 44 #[c.v, .string d] (fun w => c.at_ w ∧ Glob w) (idxP (idxV c.actsL d)) := by
  refine pu_of_cw (args := [_, _]) _ Tryz.func44 rfl Tryz.ntmps44 rfl fun av bor w0 => ?_
  refine cw_know (p := c.acts.n = c.actsL.length ∧ c.acts.n ≤ maxLen ∧ (0 < c.actsL.length → c.acts.p.isSome = true)) (fun w h => ⟨h.1.len_, h.1.max_, h.1.some_⟩) fun ⟨hl, hm, hp⟩ => ?_
  simp only [maxLen] at hm
  repeat' (first | apply sw_nil | apply cw_seq | apply cw_reg | refine sy_move (h := ?_) | refine sy_assign (h := ?_) | refine sy_fld (h := ?_) | refine sy_ld (h := ?_) | refine sy_ldAll (h := ?_) | refine sy_eql (h := ?_) | refine sy_lss (h := ?_) | refine sy_seql (h := ?_) | refine sy_slen (h := ?_) | refine sy_len (h := ?_) | refine sy_add (h := ?_) | refine sw_alloc (h := fun _ => ?_) | refine sw_box (h := fun _ => ?_) | refine sw_st1 (h := ?_) | refine sw_stAll (h := ?_) | refine cw_cond_t (ht := ?_) | refine cw_cond_f (hf := ?_) | apply cw_skip | apply cw_block | apply cw_ret | apply cw_exit | refine sy_beql (h := ?_) | refine sy_arrA (h := ?_) | refine sy_strI (h := ?_))
  rename_i b
  refine cw_loop (ι := Upto c.actsL.length (badI c.actsL d)) (fun i => ⟨[(1, .string d), (9, c.acts.v), (10, .int .i64 c.acts.n), (11, .int .i64 i.k)], [], fun w => c.at_ w ∧ Glob w⟩) (fun i => c.actsL.length - i.k) (Upto.zero _ _) (ok_sub ⟨rfl, rfl, rfl, rfl, trivial⟩ (List.Sublist.cons _ (List.Sublist.refl _)) fun _ h => h) fun i => ?_
  have hik := i.hk
  repeat' (first | apply sw_nil | apply cw_seq | apply cw_reg | refine sy_move (h := ?_) | refine sy_assign (h := ?_) | refine sy_fld (h := ?_) | refine sy_ld (h := ?_) | refine sy_ldAll (h := ?_) | refine sy_eql (h := ?_) | refine sy_lss (h := ?_) | refine sy_seql (h := ?_) | refine sy_slen (h := ?_) | refine sy_len (h := ?_) | refine sy_add (h := ?_) | refine sw_alloc (h := fun _ => ?_) | refine sw_box (h := fun _ => ?_) | refine sw_st1 (h := ?_) | refine sw_stAll (h := ?_) | refine cw_cond_t (ht := ?_) | refine cw_cond_f (hf := ?_) | apply cw_skip | apply cw_block | apply cw_ret | apply cw_exit | refine sy_beql (h := ?_) | refine sy_arrA (h := ?_) | refine sy_strI (h := ?_) | (refine cw_cond (ht := ?_) (hf := ?_); all_goals (intro hx_; first | have := of_decide_eq_true hx_ | have := of_decide_eq_false hx_ | skip)))
  · have hlt : i.k < c.actsL.length := by omega
    have hp' := hp (by omega)
    obtain ⟨x, hx⟩ : ∃ x, c.actsL[i.k]? = some x := ⟨_, List.getElem?_eq_getElem hlt⟩
    have hxm : x ∈ c.actsL := List.mem_of_getElem? hx
    repeat' (first | apply sw_nil | apply cw_seq | apply cw_reg | refine sy_move (h := ?_) | refine sy_assign (h := ?_) | refine sy_fld (h := ?_) | refine sy_ld (h := ?_) | refine sy_ldAll (h := ?_) | refine sy_eql (h := ?_) | refine sy_lss (h := ?_) | refine sy_seql (h := ?_) | refine sy_slen (h := ?_) | refine sy_len (h := ?_) | refine sy_add (h := ?_) | refine sw_alloc (h := fun _ => ?_) | refine sw_box (h := fun _ => ?_) | refine sw_st1 (h := ?_) | refine sw_stAll (h := ?_) | refine cw_cond_t (ht := ?_) | refine cw_cond_f (hf := ?_) | apply cw_skip | apply cw_block | apply cw_ret | apply cw_exit | refine sy_beql (h := ?_) | refine sy_arrA (h := ?_) | refine sy_strI (h := ?_) | (refine sy_idxX (q := i.k * 20) (h := ?_)) | (refine sy_ldXs (cs := x.cells) (hF := fun w h => Acts.get h.1 hx) (h := ?_)))
    refine sw_mk (hc := ofAct_mk x (hc.rng x hxm) (hc.sm x hxm)) (hX := fun w h => h.1.2 x hxm) (h := fun v1 X1 h1 => ?_)
    obtain ⟨x', rfl, hdig, hr', hat⟩ := h1
    refine sw_pu (hc := digest_pu x' hr') (hX := fun w h => ⟨hat w h.2, h.1.2⟩) (h := ?_)
    rw [hdig]
    repeat' (first | apply sw_nil | apply cw_seq | apply cw_reg | refine sy_move (h := ?_) | refine sy_assign (h := ?_) | refine sy_fld (h := ?_) | refine sy_ld (h := ?_) | refine sy_ldAll (h := ?_) | refine sy_eql (h := ?_) | refine sy_lss (h := ?_) | refine sy_seql (h := ?_) | refine sy_slen (h := ?_) | refine sy_len (h := ?_) | refine sy_add (h := ?_) | refine sw_alloc (h := fun _ => ?_) | refine sw_box (h := fun _ => ?_) | refine sw_st1 (h := ?_) | refine sw_stAll (h := ?_) | refine cw_cond_t (ht := ?_) | refine cw_cond_f (hf := ?_) | apply cw_skip | apply cw_block | apply cw_ret | apply cw_exit | refine sy_beql (h := ?_) | refine sy_arrA (h := ?_) | refine sy_strI (h := ?_) | (refine cw_cond (ht := ?_) (hf := ?_); all_goals (intro hx_; first | have := of_decide_eq_true hx_ | have := of_decide_eq_false hx_ | skip)))
    · apply ends_ret; apply res_tmp2; rfl; rfl; rfl
      rw [idxV_found i hlt (by rw [badI_at hx]; assumption)]
      rfl
    · exact ⟨i.next hlt (by rw [badI_at hx]; assumption), (by show c.actsL.length - (i.k + 1) < c.actsL.length - i.k; omega), ok_sub ⟨rfl, rfl, rfl, rfl, trivial⟩ (List.nil_sublist _) fun _ h => h.1⟩
  · apply ends_ret; apply res_tmp2; rfl; rfl; rfl
    rw [idxV_none i (by omega)]
    rfl
/-! Find -/
def Chains (w : World) (s : SlV) (l : List ChainD) : Prop := RowsD w 6 s (l.map ChainD.cells) ∧ ∀ c ∈ l, c.at_ w
theorem Chains.len_ {w : World} {s : SlV} {l : List ChainD} (h : Chains w s l) : s.n = l.length := by have := RowsD.len h.1; simpa using this
theorem Chains.max_ {w : World} {s : SlV} {l : List ChainD} (h : Chains w s l) : s.n ≤ maxLen := Nat.le_trans (RowsD.cap h.1) (RowsD.max h.1)
theorem Chains.some_ {w : World} {s : SlV} {l : List ChainD} (h : Chains w s l) (hl : 0 < l.length) : s.p.isSome = true := by
  have hx : l[0]? = some l[0] := List.getElem?_eq_getElem hl
  exact (RowsD.row h.1 0 l[0].cells (by simp [hx])).2.1
theorem Chains.get {w : World} {s : SlV} {l : List ChainD} (h : Chains w s l) {i : Nat} {x : ChainD} (hx : l[i]? = some x) : x.cells.length = 6 ∧ s.p.isSome = true ∧ ∀ j u, x.cells[j]? = some u → CellAt w s.p (i * 6 + j) u :=
  RowsD.row h.1 i x.cells (by simp [hx])
def findC (l : List ChainD) (id : ByteArray) : Option ChainD := l.find? fun c => seqB c.id id
def findP (o : Option ChainD) : Value := .tuple #[(o.getD ChainD.zero).v, .bool o.isSome]
def badF (l : List ChainD) (d : ByteArray) (k : Nat) : Bool :=
  match l[k]? with
  | some x => seqB x.id d
  | none => false
theorem badF_at {l : List ChainD} {d : ByteArray} {k : Nat} {x : ChainD} (h : l[k]? = some x) : badF l d k = seqB x.id d := by simp only [badF, h]
theorem find_at {α : Type} {p : α → Bool} : ∀ (l : List α) (k : Nat) (x : α), l[k]? = some x → p x = true → (∀ j y, j < k → l[j]? = some y → p y = false) → l.find? p = some x
  | [], k, x, h, _, _ => by simp at h
  | a :: l, 0, x, h, hp, _ => by simp at h; subst h; simp [hp]
  | a :: l, k + 1, x, h, hp, hb => by
    have h0 := hb 0 a (by omega) rfl
    simp only [List.find?_cons, h0]
    exact find_at l k x (by simpa using h) hp fun j y hj hy => hb (j + 1) y (by omega) (by simpa using hy)
theorem findC_found {l : List ChainD} {d : ByteArray} (i : Upto l.length (badF l d)) {x : ChainD} (hx : l[i.k]? = some x) (hb : seqB x.id d = true) : findC l d = some x :=
  find_at l i.k x hx hb fun j y hj hy => by have := i.ok j hj; rwa [badF_at hy] at this
theorem findC_none {l : List ChainD} {d : ByteArray} (i : Upto l.length (badF l d)) (h : ¬ i.k < l.length) : findC l d = none := by
  rw [findC, List.find?_eq_none]
  intro x hx
  obtain ⟨k, hk, rfl⟩ := List.getElem_of_mem hx
  have := i.ok k (by omega)
  rw [badF_at (List.getElem?_eq_getElem hk)] at this
  simp [this]
theorem res_cellTmp {P : Program} {fn : Func} {N t u ty n : Nat} {s : St} {b T : Nat} {cs : List Value} {x : Value} [hI : TyAgg P ty n] (hr : fn.results = #[.cell t ty, .tmp u]) (h : Sy.look s.env t = some (.pointer (some ⟨b, 0, none⟩))) (h' : Sy.look s.env u = some x) (hm : cel b T cs ∈ s.loc) (hn : cs.length = n) :
    Res1 P fn N s (.tuple #[.agg cs.toArray, x]) := fun av bor w0 a w ok => by
  obtain ⟨D, h1, h2, h3⟩ := aggSize_spec hI.out
  have ht := ok.env t _ h
  have hu := ok.env u _ h'
  have : (loadVar ty ⟨b, 0, none⟩).run P w = .ok (.agg cs.toArray) w := by
    cases D <;> simp at h2
    · exact run_loadVar_row w b T ty cs.toArray (0, 0) _ (cel_in ok hm) h1 rfl (by rw [h3]; simp [hn])
    · exact run_loadVar_row w b T ty cs.toArray (0, 0) _ (cel_in ok hm) h1 rfl (by rw [h3]; simp [hn])
  simp [results, hr, ht, hu, asAddr, this]
theorem find_pu (s : SlV) (l : List ChainD) (id : ByteArray) : Pu Tryz.prog 9 #[s.v, .string id] (fun w => Chains w s l) (findP (findC l id)) := by
  refine pu_of_cw (args := [_, _]) _ Tryz.func9 rfl Tryz.ntmps9 rfl fun av bor w0 => ?_
  refine cw_know (p := s.n = l.length ∧ s.n ≤ maxLen ∧ (0 < l.length → s.p.isSome = true)) (fun w h => ⟨h.len_, h.max_, h.some_⟩) fun ⟨hl, hm, hp⟩ => ?_
  simp only [maxLen] at hm
  repeat' (first | apply sw_nil | apply cw_seq | apply cw_reg | refine sy_move (h := ?_) | refine sy_assign (h := ?_) | refine sy_fld (h := ?_) | refine sy_ld (h := ?_) | refine sy_ldAll (h := ?_) | refine sy_eql (h := ?_) | refine sy_lss (h := ?_) | refine sy_seql (h := ?_) | refine sy_slen (h := ?_) | refine sy_len (h := ?_) | refine sy_add (h := ?_) | refine sw_alloc (h := fun _ => ?_) | refine sw_st1 (h := ?_) | refine sw_stAll (h := ?_) | refine cw_cond_t (ht := ?_) | refine cw_cond_f (hf := ?_) | apply cw_skip | apply cw_block | apply cw_ret | apply cw_exit | refine sy_beql (h := ?_) | refine sy_arrA (h := ?_) | refine sy_strI (h := ?_))
  rename_i b
  refine cw_loop (ι := Upto l.length (badF l id)) (fun i => ⟨[(1, .string id), (4, .pointer (some ⟨b, 0, none⟩)), (8, s.v), (9, .int .i64 s.n), (10, .int .i64 i.k)], [cel b 38 ChainD.zero.cells], fun w => Chains w s l⟩) (fun i => l.length - i.k) (Upto.zero _ _) (ok_sub ⟨rfl, rfl, rfl, rfl, rfl, trivial⟩ (List.Sublist.refl _) fun _ h => h) fun i => ?_
  have hik := i.hk
  repeat' (first | apply sw_nil | apply cw_seq | apply cw_reg | refine sy_move (h := ?_) | refine sy_assign (h := ?_) | refine sy_fld (h := ?_) | refine sy_ld (h := ?_) | refine sy_ldAll (h := ?_) | refine sy_eql (h := ?_) | refine sy_lss (h := ?_) | refine sy_seql (h := ?_) | refine sy_slen (h := ?_) | refine sy_len (h := ?_) | refine sy_add (h := ?_) | refine sw_alloc (h := fun _ => ?_) | refine sw_st1 (h := ?_) | refine sw_stAll (h := ?_) | refine cw_cond_t (ht := ?_) | refine cw_cond_f (hf := ?_) | apply cw_skip | apply cw_block | apply cw_ret | apply cw_exit | refine sy_beql (h := ?_) | refine sy_arrA (h := ?_) | refine sy_strI (h := ?_) | (refine cw_cond (ht := ?_) (hf := ?_); all_goals (intro hx_; first | have := of_decide_eq_true hx_ | have := of_decide_eq_false hx_ | skip)))
  · have hlt : i.k < l.length := by omega
    have hp' := hp (by omega)
    obtain ⟨x, hx⟩ : ∃ x, l[i.k]? = some x := ⟨_, List.getElem?_eq_getElem hlt⟩
    repeat' (first | apply sw_nil | apply cw_seq | apply cw_reg | refine sy_move (h := ?_) | refine sy_assign (h := ?_) | refine sy_fld (h := ?_) | refine sy_ld (h := ?_) | refine sy_ldAll (h := ?_) | refine sy_eql (h := ?_) | refine sy_lss (h := ?_) | refine sy_seql (h := ?_) | refine sy_slen (h := ?_) | refine sy_len (h := ?_) | refine sy_add (h := ?_) | refine sw_alloc (h := fun _ => ?_) | refine sw_st1 (h := ?_) | refine sw_stAll (h := ?_) | refine cw_cond_t (ht := ?_) | refine cw_cond_f (hf := ?_) | apply cw_skip | apply cw_block | apply cw_ret | apply cw_exit | refine sy_beql (h := ?_) | refine sy_arrA (h := ?_) | refine sy_strI (h := ?_) | (refine sy_idxX (q := i.k * 6) (h := ?_)) | (refine sy_ldXs (cs := x.cells) (hF := fun w h => Chains.get h hx) (h := ?_)) | (refine cw_cond (ht := ?_) (hf := ?_); all_goals (intro hx_; first | have := of_decide_eq_true hx_ | have := of_decide_eq_false hx_ | skip)))
    · apply ends_ret; refine res_cellTmp rfl rfl rfl (by (repeat (first | exact List.mem_cons_self | apply List.mem_cons_of_mem))) ?_
      · rfl
      rw [findC_found i hx (by assumption)]
      rfl
    · exact ⟨i.next hlt (by rw [badF_at hx]; assumption), (by show l.length - (i.k + 1) < l.length - i.k; omega), ok_sub ⟨rfl, rfl, rfl, rfl, rfl, trivial⟩ (List.Sublist.cons _ (List.Sublist.refl _)) fun _ h => h⟩
  · repeat' (first | apply sw_nil | apply cw_seq | apply cw_reg | refine sy_move (h := ?_) | refine sy_assign (h := ?_) | refine sy_fld (h := ?_) | refine sy_ld (h := ?_) | refine sy_ldAll (h := ?_) | refine sy_eql (h := ?_) | refine sy_lss (h := ?_) | refine sy_seql (h := ?_) | refine sy_slen (h := ?_) | refine sy_len (h := ?_) | refine sy_add (h := ?_) | refine sw_alloc (h := fun _ => ?_) | refine sw_st1 (h := ?_) | refine sw_stAll (h := ?_) | refine cw_cond_t (ht := ?_) | refine cw_cond_f (hf := ?_) | apply cw_skip | apply cw_block | apply cw_ret | apply cw_exit | refine sy_beql (h := ?_) | refine sy_arrA (h := ?_) | refine sy_strI (h := ?_) | (refine sy_build (h := ?_)))
    apply ends_ret; refine res_cellTmp rfl rfl rfl (by (repeat (first | exact List.mem_cons_self | apply List.mem_cons_of_mem))) ?_
    · rfl
    rw [findC_none i (by omega)]
    rfl
end Go.Proofs.YtlankpiogfhblaaGreatDoor

/- The shelf's contracts at this program: sorts, sorted keys, compact. -/
set_option linter.unusedVariables false
set_option linter.unusedSimpArgs false
namespace Go.Proofs.YtlankpiogfhblaaGreatDoor
open Go Go.Proofs Sy Go.Shelf Go.Maps Go.Sort
theorem sortsS (m : Nat) : AnyZ.SortsIn Tryz.prog Tryz.sortedS_ren Fence.wide m :=
  ⟨fun blk off cap ss W hH hblk hsz => callsIn_wide.2 (AnyM.slices_Sort_string Tryz.sortS blk off cap ss W hH hblk hsz),
   fun p cap W => callsIn_wide.2 (AnyM.slices_Sort_string_none Tryz.sortS p cap W)⟩
end Go.Proofs.YtlankpiogfhblaaGreatDoor
