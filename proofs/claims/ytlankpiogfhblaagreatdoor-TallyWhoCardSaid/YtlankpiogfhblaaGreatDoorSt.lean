/- Contracts of the stable sort at []api.Post: it hands back the row with its posts in another order. -/
import Derived.Test.YtlankpiogfhblaaGreatDoorPa
import Derived.Test.YtlankpiogfhblaaGreatDoorTo
set_option linter.unusedVariables false
set_option linter.unusedSimpArgs false
namespace Go.Proofs.YtlankpiogfhblaaGreatDoor
open Go Go.Proofs Sy
abbrev postR (s : SlV) (P : List PostD) : Res := orow 28 11 (.slice s.p s.n s.c) s.n (P.map PostD.cells).flatten
theorem flatten_setP : ∀ (L : List PostD) (p : Nat) (x : PostD), p < L.length → (L.map PostD.cells).flatten.take (p * 11) ++ x.cells ++ (L.map PostD.cells).flatten.drop (p * 11 + 11) = ((L.set p x).map PostD.cells).flatten
  | [], p, x, h => absurd h (by simp)
  | c :: L, 0, x, h => by
    have h6 : c.cells.length = 11 := rfl
    rw [List.set_cons_zero, List.map_cons, List.map_cons, List.flatten_cons, List.flatten_cons, Nat.zero_mul, Nat.zero_add, List.take_zero, List.nil_append, List.drop_append, h6, List.drop_of_length_le (by omega)]
    rfl
  | c :: L, p + 1, x, h => by
    have h6 : c.cells.length = 11 := rfl
    have ih := flatten_setP L p x (by simpa using h)
    rw [List.set_cons_succ, List.map_cons, List.map_cons, List.flatten_cons, List.flatten_cons, ← ih, List.take_append, List.drop_append, h6, List.take_of_length_le (by omega), List.drop_of_length_le (by omega),
      show (p + 1) * 11 - 11 = p * 11 from by omega, show (p + 1) * 11 + 11 - 11 = p * 11 + 11 from by omega, List.nil_append, List.append_assoc, List.append_assoc, List.append_assoc]
theorem swap_perm {P : List PostD} {i j : Nat} {x y : PostD} (hi : P[i]? = some x) (hj : P[j]? = some y) : ((P.set i y).set j x).Perm P := by
  obtain ⟨h1, rfl⟩ := List.getElem?_eq_some_iff.1 hi
  obtain ⟨h2, rfl⟩ := List.getElem?_eq_some_iff.1 hj
  exact List.set_set_perm h1 h2
namespace Sy
section
variable {N : Nat} {av bor : List Nat} {w0 : World} {st : St} {ty : TypeId} {x y : Operand} {E : Env} {loc : List Res} {X : World → Prop} {ops : Array Oper} {kk : St → Prop} {pos : String} {af : Array Edge} {g : Option (Nat × Bool)} {rest : List Oper} {bb want : Bool}
/-- A whole post of an own row is loaded. -/
theorem y_ldP {A : Option Addr} {m c i : Nat} {P : List PostD} {p : PostD} (hx : ev st.env x = some (elP A (i * 11))) (hm : orow 28 11 (.slice A m c) m (P.map PostD.cells).flatten ∈ st.loc) (hn : m = P.length) (hi : P[i]? = some p) :
    Yields Tryz.prog N av bor w0 st (.load 28 x) ty p.v := y_ldOs (xs := P.map PostD.cells) (cs := p.cells) hx hm (by simp [hn]) (cells11 P) (by simp [hi])
/-- A whole post of an own row is written. -/
theorem sw_stP {d : Option Tmp} {loc' : List Res} {A : Option Addr} {m c i : Nat} {P : List PostD} {p : PostD} (hx : ev E x = some (elP A (i * 11)) := by rfl) (hy : ev E y = some p.v := by rfl) (hi : i < m := by omega) (hn : m = P.length)
    (hA : At (orow 28 11 (.slice A m c) m (P.map PostD.cells).flatten) (orow 28 11 (.slice A m c) m ((P.set i p).map PostD.cells).flatten) loc loc' := by (repeat (first | exact At.here _ | apply At.there))) (hg : gdB ops E g = some (bb, want) := by rfl) (hb : bb = want := by (first | with_reducible rfl | with_reducible assumption | with_reducible exact Bool.not_false | with_reducible exact Bool.not_true)) (hd : inB N d = true := by rfl)
    (h : Sw Tryz.prog N av bor w0 ops rest ⟨putE E d undef, loc', X⟩ kk) : Sw Tryz.prog N av bor w0 ops (⟨d, .store 28 x y, ty, pos, af, g⟩ :: rest) ⟨E, loc, X⟩ kk :=
  sw_stO (i := i) (size := 11) (vs := p.cells) (by kernel_rfl) hx hy rfl rfl rfl hi (flatten_setP P i p (by omega)) hA hg hb hd h
variable {n : Nat} {t t2 : TypeId}
theorem sy_addN [hI : TyInt Tryz.prog t .i64] {p q : Nat} (hx : ev E x = some (.int .i64 (p : Nat)) := by rfl) (hy : ev E y = some (.int .i64 (q : Nat)) := by rfl) (hq : p + q < 9223372036854775808) (hg : gdB ops E g = some (bb, want) := by rfl) (hbb : bb = want := by (first | with_reducible rfl | with_reducible assumption | with_reducible exact Bool.not_false | with_reducible exact Bool.not_true)) (hd : Nat.blt n N = true := by rfl) (h : Sw Tryz.prog N av bor w0 ops rest ⟨(n, .int .i64 ((p + q : Nat) : Int)) :: E, loc, X⟩ kk) :
    Sw Tryz.prog N av bor w0 ops (⟨some n, .binOp .add t x y t2, ty, pos, af, g⟩ :: rest) ⟨E, loc, X⟩ kk := sy_add (c := ((p + q : Nat) : Int)) hx hy (by rw [← Int.natCast_add]; exact IntWalk.i64_in _ (by omega)) hg hbb hd h
theorem sy_subN [hI : TyInt Tryz.prog t .i64] {p q : Nat} (hx : ev E x = some (.int .i64 (p : Nat)) := by rfl) (hy : ev E y = some (.int .i64 (q : Nat)) := by rfl) (hq : q ≤ p ∧ p < 9223372036854775808) (hg : gdB ops E g = some (bb, want) := by rfl) (hbb : bb = want := by (first | with_reducible rfl | with_reducible assumption | with_reducible exact Bool.not_false | with_reducible exact Bool.not_true)) (hd : Nat.blt n N = true := by rfl) (h : Sw Tryz.prog N av bor w0 ops rest ⟨(n, .int .i64 ((p - q : Nat) : Int)) :: E, loc, X⟩ kk) :
    Sw Tryz.prog N av bor w0 ops (⟨some n, .binOp .sub t x y t2, ty, pos, af, g⟩ :: rest) ⟨E, loc, X⟩ kk := sy_sub (c := ((p - q : Nat) : Int)) hx hy (by rw [show (p : Int) - (q : Int) = ((p - q : Nat) : Int) by omega]; exact IntWalk.i64_in _ (by omega)) hg hbb hd h
end
end Sy
def PermAt (s : SlV) (P : List PostD) (u : Value) (R : List Res) (X : World → Prop) : Prop := u = .tuple #[] ∧ ∃ Q : List PostD, Q.Perm P ∧ R = [postR s Q]
structure PermI (P : List PostD) (n : Nat) where
  k : Nat
  hk : k ≤ n
  Q : List PostD
  hQ : Q.Perm P
set_option maxHeartbeats 4000000 in
theorem swapRange_ct (s : SlV) (P : List PostD) (a b n : Nat) (fv : Value) (hs : s.n = P.length) (hm : s.n ≤ 1000000) (ha : a + n ≤ s.n) (hb : b + n ≤ s.n) :
    Ct Tryz.prog 98 #[s.v, .int .i64 (a : Nat), .int .i64 (b : Nat), .int .i64 (n : Nat), fv] [postR s P] (fun _ => True) (PermAt s P) := by
  refine ct_of_cw (args := [_, _, _, _, _]) _ Tryz.func98 rfl Tryz.ntmps98 rfl fun av bor w0 => ?_
  refine cw_knowR (r := postR s P) List.mem_cons_self (p := 0 < s.n → s.p.isSome = true) (fun w h hn => orow_some h hn) fun hp => ?_
  repeat' (first | apply sw_nil | apply cw_seq | apply cw_reg | refine sy_move (h := ?_) | refine sy_assign (h := ?_) | refine sy_ld (h := ?_) | refine sy_ldAll (h := ?_) | refine sy_lss (h := ?_) | refine sy_add (h := ?_) | refine sw_st1 (h := ?_) | refine sw_stAll (h := ?_) | refine cw_cond_t (ht := ?_) | refine cw_cond_f (hf := ?_) | apply cw_skip | apply cw_block | apply cw_ret | apply cw_exit | refine sy_arrA (h := ?_) | refine sy_strI (h := ?_))
  refine cw_loop (ι := PermI P n) (fun i => ⟨[(0, s.v), (1, .int .i64 (a : Nat)), (2, .int .i64 (b : Nat)), (3, .int .i64 (n : Nat)), (10, .int .i64 (i.k : Nat))], [postR s i.Q], fun _ => True⟩) (fun i => n - i.k) ⟨0, Nat.zero_le _, P, List.Perm.refl _⟩ (ok_sub ⟨rfl, rfl, rfl, rfl, rfl, trivial⟩ (List.Sublist.refl _) fun _ h => h) fun i => ?_
  obtain ⟨k, hk, Q, hQ⟩ := i
  simp only
  have hl := hQ.length_eq
  repeat' (first | apply sw_nil | apply cw_seq | apply cw_reg | refine sy_move (h := ?_) | refine sy_assign (h := ?_) | refine sy_ld (h := ?_) | refine sy_ldAll (h := ?_) | refine sy_lss (h := ?_) | refine sy_add (h := ?_) | refine sw_st1 (h := ?_) | refine sw_stAll (h := ?_) | refine cw_cond_t (ht := ?_) | refine cw_cond_f (hf := ?_) | apply cw_skip | apply cw_block | apply cw_ret | apply cw_exit | refine sy_arrA (h := ?_) | refine sy_strI (h := ?_) | (refine cw_cond (ht := ?_) (hf := ?_); all_goals (intro hx_; first | have := of_decide_eq_true hx_ | have := of_decide_eq_false hx_ | skip)))
  · have hlt : k < n := by omega
    have hp' := hp (by omega)
    obtain ⟨x, hx⟩ : ∃ x, Q[a + k]? = some x := ⟨_, List.getElem?_eq_getElem (by omega)⟩
    obtain ⟨y, hy⟩ : ∃ y, Q[b + k]? = some y := ⟨_, List.getElem?_eq_getElem (by omega)⟩
    (refine cw_draw [] (fun _ => True) (by kernel_rfl) ?_)
    all_goals (refine aw_take 0 (h := ?_))
    all_goals (refine aw_take 1 (h := ?_))
    all_goals (refine aw_take 2 (h := ?_))
    all_goals (refine aw_take 3 (h := ?_))
    all_goals (refine aw_take 4 (h := ?_))
    all_goals (refine aw_take 5 (h := ?_))
    all_goals (refine aw_take 6 (h := ?_))
    all_goals (refine aw_take 7 (h := ?_))
    all_goals (refine aw_take 8 (h := ?_))
    all_goals (refine aw_take 9 (h := ?_))
    all_goals (refine aw_take 10 (h := ?_))
    all_goals (refine aw_take 11 (h := ?_))
    all_goals (first | refine aw_take 12 (h := ?_) | refine aw_take 12 (hy := by (first | (apply y_idxX (q := (a + k) * 11); rfl; rfl; omega; omega; assumption; (first | rfl | omega)) | (apply y_idxX (q := (b + k) * 11); rfl; rfl; omega; omega; assumption; (first | rfl | omega)))) (h := ?_))
    all_goals (refine aw_take 14 (h := ?_))
    all_goals (refine aw_take 15 (h := ?_))
    all_goals (refine aw_take 16 (h := ?_))
    all_goals (refine aw_take 17 (h := ?_))
    all_goals (first | refine aw_take 18 (h := ?_) | refine aw_take 18 (hy := by (first | (apply y_idxX (q := (a + k) * 11); rfl; rfl; omega; omega; assumption; (first | rfl | omega)) | (apply y_idxX (q := (b + k) * 11); rfl; rfl; omega; omega; assumption; (first | rfl | omega)))) (h := ?_))
    all_goals (refine aw_two 13 19 (h := ?_) (h' := ?_); (focus (((first | (refine sy_ld (h := ?_)) | (refine sy_ldAll (h := ?_)) | (refine sw_yield (y_ldP (i := a + k) (P := Q) rfl List.mem_cons_self (by omega) hx) rfl rfl rfl ?_) | (refine sw_yield (y_ldP (i := b + k) (P := Q) rfl List.mem_cons_self (by omega) hy) rfl rfl rfl ?_)); apply sw_nil; refine aw_fin (h := ?_)); all_goals ((refine aw_step 19 (h := ?_); (first | (refine sy_ld (h := ?_)) | (refine sy_ldAll (h := ?_)) | (refine sw_yield (y_ldP (i := a + k) (P := Q) rfl List.mem_cons_self (by omega) hx) rfl rfl rfl ?_) | (refine sw_yield (y_ldP (i := b + k) (P := Q) rfl List.mem_cons_self (by omega) hy) rfl rfl rfl ?_)); apply sw_nil; refine aw_fin (h := ?_)); all_goals (first | refine aw_take 20 (h := ?_) | refine aw_take 20 (hy := by (first | (apply y_idxX (q := (a + k) * 11); rfl; rfl; omega; omega; assumption; (first | rfl | omega)) | (apply y_idxX (q := (b + k) * 11); rfl; rfl; omega; omega; assumption; (first | rfl | omega)))) (h := ?_)); all_goals (refine aw_step 21 (h := ?_); (first | (refine sw_st1 (h := ?_)) | (refine sw_stAll (h := ?_)) | (refine sw_stP (i := a + k) (p := y) rfl rfl (by omega) (by first | omega | (simp only [List.length_set]; omega)) (At.here _) rfl (by (first | with_reducible rfl | with_reducible assumption | with_reducible exact Bool.not_false | with_reducible exact Bool.not_true)) rfl ?_) | (refine sw_stP (i := b + k) (p := x) rfl rfl (by omega) (by first | omega | (simp only [List.length_set]; omega)) (At.here _) rfl (by (first | with_reducible rfl | with_reducible assumption | with_reducible exact Bool.not_false | with_reducible exact Bool.not_true)) rfl ?_)); apply sw_nil; refine aw_fin (h := ?_)); all_goals (first | refine aw_take 22 (h := ?_) | refine aw_take 22 (hy := by (first | (apply y_idxX (q := (a + k) * 11); rfl; rfl; omega; omega; assumption; (first | rfl | omega)) | (apply y_idxX (q := (b + k) * 11); rfl; rfl; omega; omega; assumption; (first | rfl | omega)))) (h := ?_)); all_goals (refine aw_step 23 (h := ?_); (first | (refine sw_st1 (h := ?_)) | (refine sw_stAll (h := ?_)) | (refine sw_stP (i := a + k) (p := y) rfl rfl (by omega) (by first | omega | (simp only [List.length_set]; omega)) (At.here _) rfl (by (first | with_reducible rfl | with_reducible assumption | with_reducible exact Bool.not_false | with_reducible exact Bool.not_true)) rfl ?_) | (refine sw_stP (i := b + k) (p := x) rfl rfl (by omega) (by first | omega | (simp only [List.length_set]; omega)) (At.here _) rfl (by (first | with_reducible rfl | with_reducible assumption | with_reducible exact Bool.not_false | with_reducible exact Bool.not_true)) rfl ?_)); apply sw_nil; refine aw_fin (h := ?_)); all_goals (refine aw_done (h := ?_))))); rotate_right; (focus (((first | (refine sy_ld (h := ?_)) | (refine sy_ldAll (h := ?_)) | (refine sw_yield (y_ldP (i := a + k) (P := Q) rfl List.mem_cons_self (by omega) hx) rfl rfl rfl ?_) | (refine sw_yield (y_ldP (i := b + k) (P := Q) rfl List.mem_cons_self (by omega) hy) rfl rfl rfl ?_)); apply sw_nil; refine aw_fin (h := ?_)); all_goals ((refine aw_step 13 (h := ?_); (first | (refine sy_ld (h := ?_)) | (refine sy_ldAll (h := ?_)) | (refine sw_yield (y_ldP (i := a + k) (P := Q) rfl List.mem_cons_self (by omega) hx) rfl rfl rfl ?_) | (refine sw_yield (y_ldP (i := b + k) (P := Q) rfl List.mem_cons_self (by omega) hy) rfl rfl rfl ?_)); apply sw_nil; refine aw_fin (h := ?_)); all_goals (first | refine aw_take 20 (h := ?_) | refine aw_take 20 (hy := by (first | (apply y_idxX (q := (a + k) * 11); rfl; rfl; omega; omega; assumption; (first | rfl | omega)) | (apply y_idxX (q := (b + k) * 11); rfl; rfl; omega; omega; assumption; (first | rfl | omega)))) (h := ?_)); all_goals (refine aw_step 21 (h := ?_); (first | (refine sw_st1 (h := ?_)) | (refine sw_stAll (h := ?_)) | (refine sw_stP (i := a + k) (p := y) rfl rfl (by omega) (by first | omega | (simp only [List.length_set]; omega)) (At.here _) rfl (by (first | with_reducible rfl | with_reducible assumption | with_reducible exact Bool.not_false | with_reducible exact Bool.not_true)) rfl ?_) | (refine sw_stP (i := b + k) (p := x) rfl rfl (by omega) (by first | omega | (simp only [List.length_set]; omega)) (At.here _) rfl (by (first | with_reducible rfl | with_reducible assumption | with_reducible exact Bool.not_false | with_reducible exact Bool.not_true)) rfl ?_)); apply sw_nil; refine aw_fin (h := ?_)); all_goals (first | refine aw_take 22 (h := ?_) | refine aw_take 22 (hy := by (first | (apply y_idxX (q := (a + k) * 11); rfl; rfl; omega; omega; assumption; (first | rfl | omega)) | (apply y_idxX (q := (b + k) * 11); rfl; rfl; omega; omega; assumption; (first | rfl | omega)))) (h := ?_)); all_goals (refine aw_step 23 (h := ?_); (first | (refine sw_st1 (h := ?_)) | (refine sw_stAll (h := ?_)) | (refine sw_stP (i := a + k) (p := y) rfl rfl (by omega) (by first | omega | (simp only [List.length_set]; omega)) (At.here _) rfl (by (first | with_reducible rfl | with_reducible assumption | with_reducible exact Bool.not_false | with_reducible exact Bool.not_true)) rfl ?_) | (refine sw_stP (i := b + k) (p := x) rfl rfl (by omega) (by first | omega | (simp only [List.length_set]; omega)) (At.here _) rfl (by (first | with_reducible rfl | with_reducible assumption | with_reducible exact Bool.not_false | with_reducible exact Bool.not_true)) rfl ?_)); apply sw_nil; refine aw_fin (h := ?_)); all_goals (refine aw_done (h := ?_))))))
    all_goals
      repeat' (first | apply sw_nil | apply cw_seq | apply cw_reg | refine sy_move (h := ?_) | refine sy_assign (h := ?_) | refine sy_ld (h := ?_) | refine sy_ldAll (h := ?_) | refine sy_lss (h := ?_) | refine sy_add (h := ?_) | refine sw_st1 (h := ?_) | refine sw_stAll (h := ?_) | refine cw_cond_t (ht := ?_) | refine cw_cond_f (hf := ?_) | apply cw_skip | apply cw_block | apply cw_ret | apply cw_exit | refine sy_arrA (h := ?_) | refine sy_strI (h := ?_) | (refine cw_cond (ht := ?_) (hf := ?_); all_goals (intro hx_; first | have := of_decide_eq_true hx_ | have := of_decide_eq_false hx_ | skip)))
      exact ⟨(⟨k + 1, hlt, (Q.set (a + k) y).set (b + k) x, (swap_perm hx hy).trans hQ⟩ : PermI P n), (by show n - (k + 1) < n - k; omega), ok_sub ⟨rfl, rfl, rfl, rfl, rfl, trivial⟩ (List.Sublist.refl _) fun _ h => h⟩
  · exact ends_end (res_none rfl) ⟨rfl, Q, hQ, rfl⟩
section
variable {N : Nat} {av bor : List Nat} {w0 : World} {ops : Array Oper} {rest : List Oper} {k : St → Prop} {E : Env} {X : World → Prop} {d : Option Tmp} {ty : TypeId} {pos : String} {af : Array Edge} {g : Option (Nat × Bool)} {bb want : Bool}
/-- A call that hands the row of posts back in another order. -/
theorem sw_permAt {x : Operand} {xs : List Operand} {ats : Array TypeId} {f : FuncId} {args : List Value} {s : SlV} {Q : List PostD}
    (hx : ev E x = some (.func (.func f) #[] #[]) := by rfl) (ha : evs E xs = some args := by rfl) (hg : gdB ops E g = some (bb, want) := by rfl) (hb : bb = want := by (first | with_reducible rfl | with_reducible assumption | with_reducible exact Bool.not_false | with_reducible exact Bool.not_true)) (hd : inB N d = true := by rfl) (hf : FnBody Tryz.prog f := by infer_instance)
    (hc : Ct Tryz.prog f args.toArray [postR s Q] (fun _ => True) (PermAt s Q))
    (h : ∀ Q' : List PostD, Q'.Perm Q → Sw Tryz.prog N av bor w0 ops rest ⟨putE E d (.tuple #[]), [postR s Q'], X⟩ k) :
    Sw Tryz.prog N av bor w0 ops (⟨d, .call ⟨.value x, xs.toArray, ats⟩, ty, pos, af, g⟩ :: rest) ⟨E, [postR s Q], X⟩ k :=
  sw_fn (pre := [postR s Q]) (fr := []) (first := #[]) (caps := #[]) (Post := PermAt s Q) hx ha rfl hg hb hd hf (by simpa using hc) (fun _ _ => trivial) fun u R X' ⟨h1, Q', h2, h3⟩ => by
    subst h1
    subst h3
    refine sw_to (fun a w ok => ?_) (h Q' h2)
    exact ok.via fun M G => G.imp fun _ h => h.1
end
structure RotI (P : List PostD) (p q : Nat) where
  i : Nat
  j : Nat
  h1 : 1 ≤ i
  h2 : i ≤ p
  h3 : 1 ≤ j
  h4 : j ≤ q
  Q : List PostD
  hQ : Q.Perm P
set_option maxHeartbeats 4000000 in
theorem rotate_ct (s : SlV) (P : List PostD) (a m b : Nat) (fv : Value) (hs : s.n = P.length) (hm : s.n ≤ 1000000) (ha : a < m) (hb : m < b) (hbs : b ≤ s.n) :
    Ct Tryz.prog 68 #[s.v, .int .i64 (a : Nat), .int .i64 (m : Nat), .int .i64 (b : Nat), fv] [postR s P] (fun _ => True) (PermAt s P) := by
  refine ct_of_cw (args := [_, _, _, _, _]) _ Tryz.func68 rfl Tryz.ntmps68 rfl fun av bor w0 => ?_
  repeat' (first | refine sy_subN (hq := by omega) (h := ?_) | apply sw_nil | apply cw_seq | apply cw_reg | refine sy_move (h := ?_) | refine sy_assign (h := ?_) | refine sy_neq (h := ?_) | refine sy_gtr (h := ?_) | refine sy_sneq (h := ?_) | refine sy_add (h := ?_) | refine sy_sub (h := ?_) | refine cw_cond_t (ht := ?_) | refine cw_cond_f (hf := ?_) | apply cw_skip | apply cw_block | apply cw_ret | apply cw_exit | refine sy_bneq (h := ?_) | refine sy_arrA (h := ?_) | refine sy_strI (h := ?_) | (refine cw_cond (ht := ?_) (hf := ?_); all_goals (intro hx_; first | have := of_decide_eq_true hx_ | have := of_decide_eq_false hx_ | skip)))
  refine cw_loop (ι := RotI P (m - a) (b - m)) (fun r => ⟨[(0, s.v), (2, .int .i64 (m : Nat)), (4, fv), (10, .int .i64 (r.i : Nat)), (11, .int .i64 (r.j : Nat))], [postR s r.Q], fun _ => True⟩) (fun r => r.i + r.j) ⟨m - a, b - m, by omega, by omega, by omega, by omega, P, List.Perm.refl _⟩ (ok_sub ⟨rfl, rfl, rfl, rfl, rfl, trivial⟩ (List.Sublist.refl _) fun _ h => h) fun r => ?_
  obtain ⟨i, j, h1, h2, h3, h4, Q, hQ⟩ := r
  simp only
  have hl := hQ.length_eq
  by_cases hij : i = j
  · repeat' (first | refine sy_neqF (hab := by omega) (h := ?_) | refine sy_subN (hq := by omega) (h := ?_) | apply sw_nil | apply cw_seq | apply cw_reg | refine sy_move (h := ?_) | refine sy_assign (h := ?_) | refine sy_neq (h := ?_) | refine sy_gtr (h := ?_) | refine sy_sneq (h := ?_) | refine sy_add (h := ?_) | refine sy_sub (h := ?_) | refine cw_cond_t (ht := ?_) | refine cw_cond_f (hf := ?_) | apply cw_skip | apply cw_block | apply cw_ret | apply cw_exit | refine sy_bneq (h := ?_) | refine sy_arrA (h := ?_) | refine sy_strI (h := ?_) | (refine sw_permAt (hc := swapRange_ct s Q (m - i) m i fv (by omega) hm (by omega) (by omega)) (h := fun Q2 hQ2 => ?_)) | (refine cw_cond (ht := ?_) (hf := ?_); all_goals (intro hx_; first | have := of_decide_eq_true hx_ | have := of_decide_eq_false hx_ | skip)))
    exact ends_end (res_none rfl) ⟨rfl, Q2, hQ2.trans hQ, rfl⟩
  · repeat' (first | refine sy_subN (hq := by omega) (h := ?_) | refine sy_addN (hq := by omega) (h := ?_) | apply sw_nil | apply cw_seq | apply cw_reg | refine sy_move (h := ?_) | refine sy_assign (h := ?_) | refine sy_neq (h := ?_) | refine sy_gtr (h := ?_) | refine sy_sneq (h := ?_) | refine sy_add (h := ?_) | refine sy_sub (h := ?_) | refine cw_cond_t (ht := ?_) | refine cw_cond_f (hf := ?_) | apply cw_skip | apply cw_block | apply cw_ret | apply cw_exit | refine sy_bneq (h := ?_) | refine sy_arrA (h := ?_) | refine sy_strI (h := ?_) | (refine sw_permAt (hc := swapRange_ct s Q (m - i) m j fv (by omega) hm (by omega) (by omega)) (h := fun Q2 hQ2 => ?_)) | (refine sw_permAt (hc := swapRange_ct s Q (m - i) (m + j - i) i fv (by omega) hm (by omega) (by omega)) (h := fun Q2 hQ2 => ?_)) | (refine cw_cond (ht := ?_) (hf := ?_); all_goals (intro hx_; first | have := of_decide_eq_true hx_ | have := of_decide_eq_false hx_ | skip)))
    · exact ⟨(⟨i - j, j, by omega, by omega, h3, h4, Q2, hQ2.trans hQ⟩ : RotI P (m - a) (b - m)), (by show i - j + j < i + j; omega), ok_sub ⟨rfl, rfl, rfl, rfl, rfl, trivial⟩ (List.Sublist.refl _) fun _ h => h⟩
    · exact ⟨(⟨i, j - i, h1, h2, by omega, by omega, Q2, hQ2.trans hQ⟩ : RotI P (m - a) (b - m)), (by show i + (j - i) < i + j; omega), ok_sub ⟨rfl, rfl, rfl, rfl, rfl, trivial⟩ (List.Sublist.refl _) fun _ h => h⟩
    · have h9 : (i : Int) = (j : Int) := by simpa using hx_
      exact absurd (show i = j by omega) hij
/-! the comparison -/
def cmpB (x y : ByteArray) : Int := bif Op.bytesLess x.toList y.toList then -1 else bif !(Op.bytesLess x.toList y.toList || seqB x y) then 1 else 0
theorem isNaN_pu (x : ByteArray) : Pu Tryz.prog 35 #[.string x] (fun _ => True) (.bool false) := by
  refine pu_of_cw (args := [_]) _ Tryz.func35 rfl Tryz.ntmps35 rfl fun av bor w0 => ?_
  have h := seqB_self x
  repeat' (first | apply sw_nil | apply cw_seq | apply cw_reg | refine sy_move (h := ?_) | refine sy_assign (h := ?_) | refine sy_neq (h := ?_) | refine sy_sneq (h := ?_) | refine cw_cond_t (ht := ?_) | refine cw_cond_f (hf := ?_) | apply cw_skip | apply cw_block | apply cw_ret | apply cw_exit | refine sy_bneq (h := ?_) | refine sy_arrA (h := ?_) | refine sy_strI (h := ?_) | (refine cw_cond (ht := ?_) (hf := ?_); all_goals (intro hx_; first | have := of_decide_eq_true hx_ | have := of_decide_eq_false hx_ | skip)))
  apply ends_ret; apply res_tmp; rfl; rfl
  rw [h]
  rfl
theorem compare_pu (x y : ByteArray) : Pu Tryz.prog 21 #[.string x, .string y] (fun _ => True) (.int .i64 (cmpB x y)) := by
  refine pu_of_cw (args := [_, _]) _ Tryz.func21 rfl Tryz.ntmps21 rfl fun av bor w0 => ?_
  repeat' (first | apply sw_nil | apply cw_seq | apply cw_reg | refine sy_move (h := ?_) | refine sy_assign (h := ?_) | refine sy_lss (h := ?_) | refine sy_gtr (h := ?_) | refine cw_cond_t (ht := ?_) | refine cw_cond_f (hf := ?_) | apply cw_skip | apply cw_block | apply cw_ret | apply cw_exit | refine sy_arrA (h := ?_) | refine sy_strI (h := ?_) | refine sw_pu (hc := isNaN_pu _) (h := ?_) | (refine sy_slss (h := ?_)) | (refine sy_sgtr (h := ?_)) | (refine cw_cond (ht := ?_) (hf := ?_); all_goals (intro hx_; first | have := of_decide_eq_true hx_ | have := of_decide_eq_false hx_ | skip)))
  (all_goals (apply ends_ret; apply res_tmp; rfl; rfl)); all_goals first | rfl | (simp only [cmpB, *, decide_true, decide_false, cond_true, cond_false, Bool.and_true, Bool.true_and, Bool.and_false, Bool.false_and, Bool.not_true, Bool.not_false, Bool.or_true, Bool.true_or, Bool.or_false, Bool.false_or]; done) | (simp_all [cmpB]; done)
theorem cmp_pu (x y : PostD) : Pu Tryz.prog 20 #[x.v, y.v] (fun _ => True) (.int .i64 (cmpB x.id y.id)) := by
  refine pu_of_cw (args := [_, _]) _ Tryz.func20 rfl Tryz.ntmps20 rfl fun av bor w0 => ?_
  have h := compare_pu x.id y.id
  generalize cmpB x.id y.id = k at *
  repeat' (first | apply sw_nil | apply cw_seq | apply cw_reg | refine sy_move (h := ?_) | refine sy_assign (h := ?_) | refine sy_fld (h := ?_) | refine sy_ld (h := ?_) | refine sy_ldAll (h := ?_) | refine sw_box (h := fun _ => ?_) | refine cw_cond_t (ht := ?_) | refine cw_cond_f (hf := ?_) | apply cw_skip | apply cw_block | apply cw_ret | apply cw_exit | refine sy_arrA (h := ?_) | refine sy_strI (h := ?_) | (refine sw_pu (hc := h) (hX := fun _ _ => trivial) (h := ?_)) | (refine cw_cond (ht := ?_) (hf := ?_); all_goals (intro hx_; first | have := of_decide_eq_true hx_ | have := of_decide_eq_false hx_ | skip)))
  exact ends_ret (res_tmp rfl rfl) rfl
/-- the function value that the sort is handed -/
def cmpF : Value := .func (.func 20) #[] #[]
end Go.Proofs.YtlankpiogfhblaaGreatDoor
