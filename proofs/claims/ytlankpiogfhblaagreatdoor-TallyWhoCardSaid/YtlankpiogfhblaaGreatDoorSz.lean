/- Contract of slices.SortStableFunc at []api.Post: the posts in another order. -/
import Derived.Test.YtlankpiogfhblaaGreatDoorSw
set_option linter.unusedVariables false
set_option linter.unusedSimpArgs false
namespace Go.Proofs.YtlankpiogfhblaaGreatDoor
open Go Go.Proofs Sy
section
variable {N : Nat} {av bor : List Nat} {w0 : World} {ops : Array Oper} {rest : List Oper} {k : St → Prop} {E : Env} {loc : List Res} {X : World → Prop} {ty : TypeId} {pos : String} {af : Array Edge} {g : Option (Nat × Bool)} {bb want : Bool} {n : Nat} {t t2 : TypeId} {x y : Operand}
theorem sy_mulN [hI : TyInt Tryz.prog t .i64] {p q : Nat} (hx : ev E x = some (.int .i64 (p : Nat)) := by rfl) (hy : ev E y = some (.int .i64 (q : Nat)) := by rfl) (hq : p * q < 9223372036854775808) (hg : gdB ops E g = some (bb, want) := by rfl) (hbb : bb = want := by (first | with_reducible rfl | with_reducible assumption | with_reducible exact Bool.not_false | with_reducible exact Bool.not_true)) (hd : Nat.blt n N = true := by rfl) (h : Sw Tryz.prog N av bor w0 ops rest ⟨(n, .int .i64 ((p * q : Nat) : Int)) :: E, loc, X⟩ k) :
    Sw Tryz.prog N av bor w0 ops (⟨some n, .binOp .mul t x y t2, ty, pos, af, g⟩ :: rest) ⟨E, loc, X⟩ k := sy_mul (c := ((p * q : Nat) : Int)) hx hy (by rw [← Int.natCast_mul]; exact IntWalk.i64_in _ (by omega)) hg hbb hd h
end
structure StaI (P : List PostD) (n w : Nat) where
  a : Nat
  b : Nat
  h1 : a ≤ n
  h2 : b = a + w
  Q : List PostD
  hQ : Q.Perm P
structure StaO (P : List PostD) (n : Nat) where
  z : Nat
  h1 : 1 ≤ z
  h2 : z ≤ 2 * n + 20
  Q : List PostD
  hQ : Q.Perm P
set_option maxRecDepth 20000 in
set_option maxHeartbeats 8000000 in
theorem stable_ct (s : SlV) (P : List PostD) (hs : s.n = P.length) (hm : s.n ≤ 1000000) : Ct Tryz.prog 34 #[s.v, .int .i64 (s.n : Nat), cmpF] [postR s P] (fun _ => True) (PermAt s P) := by
  have hP : P.Perm P := List.Perm.refl P
  refine ct_of_cw (args := [_, _, _]) _ Tryz.func34 rfl Tryz.ntmps34 rfl fun av bor w0 => ?_
  repeat' (first | apply sw_nil | apply cw_seq | apply cw_reg | refine sy_move (h := ?_) | refine sy_assign (h := ?_) | refine sy_lss (h := ?_) | refine sy_leq (h := ?_) | refine sy_add (h := ?_) | refine cw_cond_t (ht := ?_) | refine cw_cond_f (hf := ?_) | apply cw_skip | apply cw_block | apply cw_ret | apply cw_exit | refine sy_mul (h := ?_) | refine sy_arrA (h := ?_) | refine sy_strI (h := ?_))
  refine cw_loop (ι := StaI P s.n 20) (fun r => ⟨[(0, s.v), (1, .int .i64 (s.n : Nat)), (2, cmpF), (6, .int .i64 20), (7, .int .i64 (r.a : Nat)), (8, .int .i64 (r.b : Nat))], [postR s r.Q], fun _ => True⟩) (fun r => s.n - r.a) ⟨0, 20, Nat.zero_le _, rfl, P, hP⟩ (ok_sub ⟨rfl, rfl, rfl, rfl, rfl, rfl, trivial⟩ (List.Sublist.refl _) fun _ h => h) fun r => ?_
  obtain ⟨a, b, h1, h2, Q, hQ⟩ := r
  simp only
  repeat' (first | refine sy_addN (q := 20) (hq := by omega) (h := ?_) | apply sw_nil | apply cw_seq | apply cw_reg | refine sy_move (h := ?_) | refine sy_assign (h := ?_) | refine sy_lss (h := ?_) | refine sy_leq (h := ?_) | refine sy_add (h := ?_) | refine cw_cond_t (ht := ?_) | refine cw_cond_f (hf := ?_) | apply cw_skip | apply cw_block | apply cw_ret | apply cw_exit | refine sy_mul (h := ?_) | refine sy_arrA (h := ?_) | refine sy_strI (h := ?_) | (refine sw_permB (P := P) (hQ := by assumption) (hc := fun Q hQ => insertion_ct s Q a b (hs.trans hQ.length_eq.symm) hm (by omega) (by omega)) (h := fun Q2 hQ2 => ?_)) | (refine sw_permB (P := P) (hQ := by assumption) (hc := fun Q hQ => insertion_ct s Q a s.n (hs.trans hQ.length_eq.symm) hm (by omega) (by omega)) (h := fun Q2 hQ2 => ?_)) | (refine cw_cond (ht := ?_) (hf := ?_); all_goals (intro hx_; first | have := of_decide_eq_true hx_ | have := of_decide_eq_false hx_ | skip)))
  · exact ⟨(⟨b, b + 20, by omega, rfl, Q2, hQ2⟩ : StaI P s.n 20), (by show s.n - b < s.n - a; omega), ok_sub ⟨rfl, rfl, rfl, rfl, rfl, rfl, trivial⟩ (List.Sublist.refl _) fun _ h => h⟩
  · refine cw_loop (ι := StaO P s.n) (fun r => ⟨[(0, s.v), (1, .int .i64 (s.n : Nat)), (2, cmpF), (6, .int .i64 (r.z : Nat))], [postR s r.Q], fun _ => True⟩) (fun r => s.n - r.z) ⟨20, by omega, by omega, Q2, hQ2⟩ (ok_sub ⟨rfl, rfl, rfl, rfl, trivial⟩ (List.Sublist.refl _) fun _ h => h) fun r => ?_
    clear h1 h2 hQ hQ2
    obtain ⟨z, h1, h2, Q, hQ⟩ := r
    simp only
    repeat' (first | refine sy_mulN (p := 2) (hq := by omega) (h := ?_) | apply sw_nil | apply cw_seq | apply cw_reg | refine sy_move (h := ?_) | refine sy_assign (h := ?_) | refine sy_lss (h := ?_) | refine sy_leq (h := ?_) | refine sy_add (h := ?_) | refine cw_cond_t (ht := ?_) | refine cw_cond_f (hf := ?_) | apply cw_skip | apply cw_block | apply cw_ret | apply cw_exit | refine sy_mul (h := ?_) | refine sy_arrA (h := ?_) | refine sy_strI (h := ?_) | (refine cw_cond (ht := ?_) (hf := ?_); all_goals (intro hx_; first | have := of_decide_eq_true hx_ | have := of_decide_eq_false hx_ | skip)))
    · have hzn : z < s.n := by omega
      refine cw_loop (ι := StaI P s.n (2 * z)) (fun r => ⟨[(0, s.v), (1, .int .i64 (s.n : Nat)), (2, cmpF), (6, .int .i64 (z : Nat)), (7, .int .i64 (r.a : Nat)), (8, .int .i64 (r.b : Nat))], [postR s r.Q], fun _ => True⟩) (fun r => s.n - r.a) ⟨0, 2 * z, Nat.zero_le _, (Nat.zero_add _).symm, Q, hQ⟩ (ok_sub ⟨rfl, rfl, rfl, rfl, rfl, rfl, trivial⟩ (List.Sublist.refl _) fun _ h => h) fun r => ?_
      obtain ⟨a, b, h3, h4, Q3, hQ3⟩ := r
      simp only
      repeat' (first | refine sy_addN (hq := by omega) (h := ?_) | refine sy_mulN (p := 2) (hq := by omega) (h := ?_) | refine sy_mulN (q := 2) (hq := by omega) (h := ?_) | apply sw_nil | apply cw_seq | apply cw_reg | refine sy_move (h := ?_) | refine sy_assign (h := ?_) | refine sy_lss (h := ?_) | refine sy_leq (h := ?_) | refine sy_add (h := ?_) | refine cw_cond_t (ht := ?_) | refine cw_cond_f (hf := ?_) | apply cw_skip | apply cw_block | apply cw_ret | apply cw_exit | refine sy_mul (h := ?_) | refine sy_arrA (h := ?_) | refine sy_strI (h := ?_) | (refine sw_permB (P := P) (hQ := by assumption) (hc := fun Q hQ => symMerge_ct (b - a) s Q a (a + z) b (Nat.le_refl _) (hs.trans hQ.length_eq.symm) hm (by omega) (by omega) (by omega)) (h := fun Q2 hQ2 => ?_)) | (refine sw_permB (P := P) (hQ := by assumption) (hc := fun Q hQ => symMerge_ct (s.n - a) s Q a (a + z) s.n (Nat.le_refl _) (hs.trans hQ.length_eq.symm) hm (by omega) (by omega) (by omega)) (h := fun Q2 hQ2 => ?_)) | (refine cw_cond (ht := ?_) (hf := ?_); all_goals (intro hx_; first | have := of_decide_eq_true hx_ | have := of_decide_eq_false hx_ | skip)))
      · exact ⟨(⟨b, b + 2 * z, by omega, rfl, Q2, hQ2⟩ : StaI P s.n (2 * z)), (by show s.n - b < s.n - a; omega), ok_sub ⟨rfl, rfl, rfl, rfl, rfl, rfl, trivial⟩ (List.Sublist.refl _) fun _ h => h⟩
      all_goals
        refine ⟨(⟨z * 2, by omega, by omega, _, ?_⟩ : StaO P s.n), (by show s.n - z * 2 < s.n - z; omega), ok_sub ⟨rfl, rfl, rfl, rfl, trivial⟩ (List.Sublist.refl _) fun _ h => h⟩
        assumption
    · exact ends_end (res_none rfl) ⟨rfl, Q, hQ, rfl⟩
theorem sortStable_ct (s : SlV) (P : List PostD) (hs : s.n = P.length) (hm : s.n ≤ 1000000) : Ct Tryz.prog 19 #[s.v, cmpF] [postR s P] (fun _ => True) (PermAt s P) := by
  have hP : P.Perm P := List.Perm.refl P
  refine ct_of_cw (args := [_, _]) _ Tryz.func19 rfl Tryz.ntmps19 rfl fun av bor w0 => ?_
  repeat' (first | apply sw_nil | apply cw_seq | apply cw_reg | refine sy_move (h := ?_) | refine sy_assign (h := ?_) | refine sy_slen (h := ?_) | refine sy_len (h := ?_) | refine cw_cond_t (ht := ?_) | refine cw_cond_f (hf := ?_) | apply cw_skip | apply cw_block | apply cw_ret | apply cw_exit | refine sy_arrA (h := ?_) | refine sy_strI (h := ?_) | (refine sw_permB (P := P) (hQ := by assumption) (hc := fun Q hQ => stable_ct s Q (hs.trans hQ.length_eq.symm) hm) (h := fun Q2 hQ2 => ?_)) | (refine cw_cond (ht := ?_) (hf := ?_); all_goals (intro hx_; first | have := of_decide_eq_true hx_ | have := of_decide_eq_false hx_ | skip)))
  exact ends_end (res_none rfl) ⟨rfl, Q2, hQ2, rfl⟩
end Go.Proofs.YtlankpiogfhblaaGreatDoor
