/- Function values; a call that changes one resource; act.used. -/
import Derived.Test.YtfpojkoddcdojaaGreatDoorE
set_option linter.unusedVariables false
set_option linter.unusedSimpArgs false
namespace Go.Proofs.YtfpojkoddcdojaaGreatDoor.Sy
open Go Go.RowKit
section
variable {P : Program} {N : Nat} {av bor : List Nat} {w0 : World} {ops : Array Oper} {rest : List Oper} {k : St → Prop} {E : Env} {loc loc' : List Res} {X : World → Prop}
variable {d : Option Tmp} {ty : TypeId} {pos : String} {af : Array Edge} {g : Option (Nat × Bool)} {bb want : Bool} {K : Exit → St → Prop}
theorem y_makeFunc {st : St} {fn : Fn} {xs : List Operand} {vs : List Value} (hx : evs st.env xs = some vs) : Sy.Yields P N av bor w0 st (.makeFunc fn #[] xs.toArray) ty (.func fn #[] vs.toArray) := Sy.Yields.mk fun A w ok d pos af g => by
  have e := evs_eval (E := st.env) (loc := st.loc) (X := st.ext) ok xs vs hx
  have e1 : xs.toArray.map A.eval = vs.toArray := by rw [List.map_toArray, e]
  simp [execOp, Instr.makeFunc, e1, e]
theorem sy_makeFunc {n : Nat} {fn : Fn} {xs : List Operand} {vs : List Value} (hx : evs E xs = some vs := by rfl) (hg : gdB ops E g = some (bb, want) := by rfl) (hbb : bb = want := by (first | with_reducible rfl | with_reducible assumption | with_reducible exact Bool.not_false | with_reducible exact Bool.not_true)) (hd : Nat.blt n N = true := by rfl) (h : Sw P N av bor w0 ops rest ⟨(n, .func fn #[] vs.toArray) :: E, loc, X⟩ k) :
    Sw P N av bor w0 ops (⟨some n, .makeFunc fn #[] xs.toArray, ty, pos, af, g⟩ :: rest) ⟨E, loc, X⟩ k := sw_yield (y_makeFunc hx) hg hbb hd h
/-- A call that turns one resource. -/
theorem sw_turn {x : Operand} {xs : List Operand} {ats : Array TypeId} {f : FuncId} {first caps : Array Value} {args all : List Value} {X1 : World → Prop} {v : Value} {r r' : Res}
    (hx : ev E x = some (.func (.func f) first caps) := by rfl) (ha : evs E xs = some args := by rfl) (hall : first.toList ++ args ++ caps.toList = all := by rfl) (hg : gdB ops E g = some (bb, want) := by rfl) (hb : bb = want := by (first | with_reducible rfl | with_reducible assumption | with_reducible exact Bool.not_false | with_reducible exact Bool.not_true)) (hd : inB N d = true := by rfl) (hf : FnBody P f := by infer_instance)
    (hc : Ct P f all.toArray [r] X1 fun u R _ => u = v ∧ R = [r']) (hA : At r r' loc loc' := by (repeat (first | exact At.here _ | apply At.there))) (hX : ∀ w, X w → X1 w := by (first | exact fun _ _ => trivial | exact fun _ h => h | exact fun _ h => h.1 | exact fun _ h => h.2))
    (h : Sw P N av bor w0 ops rest ⟨putE E d v, loc', X⟩ k) :
    Sw P N av bor w0 ops (⟨d, .call ⟨.value x, xs.toArray, ats⟩, ty, pos, af, g⟩ :: rest) ⟨E, loc, X⟩ k := by
  obtain ⟨f', h1, h2⟩ := hA.perm
  refine sw_perm h1 ?_
  refine sw_fn (pre := [r]) (fr := f') (Post := fun u R _ => u = v ∧ R = [r']) hx ha hall hg hb hd hf hc hX fun u R X' ⟨h3, h4⟩ => ?_
  subst h3; subst h4
  refine sw_to (fun a w ok => ?_) h
  exact ⟨ok.defers, ok.size, ok.env, (ok.gam.imp fun _ h => h.1).perm h2.symm⟩
end
end Go.Proofs.YtfpojkoddcdojaaGreatDoor.Sy
namespace Go.Proofs.YtfpojkoddcdojaaGreatDoor
open Go Go.Proofs Sy
def noteV (n f : Int) (z : Bool) : Int := bif !z then bitsV .or .i64 n f else n
theorem used1_ct (b : Nat) (f : Int) (z : Bool) (n : Int) : Ct Tryz.prog 166 #[.int .i64 f, .bool z, .pointer (some ⟨b, 0, none⟩)] [cel b 3 [.int .i64 n]] (fun _ => True) fun u R _ => u = .tuple #[] ∧ R = [cel b 3 [.int .i64 (noteV n f z)]] := by
  refine ct_of_cw (args := [_, _, _]) _ Tryz.func166 rfl Tryz.ntmps166 rfl fun av bor w0 => ?_
  repeat' (first | apply sw_nil | apply cw_seq | apply cw_reg | refine sy_move (h := ?_) | refine sy_assign (h := ?_) | refine sy_nilCheck (h := ?_) | refine sy_fld (h := ?_) | refine sy_ld (h := ?_) | refine sy_ldAll (h := ?_) | refine sy_pick_t (h := ?_) | refine sy_pick_f (h := ?_) | refine sy_not (h := ?_) | refine sy_eql (h := ?_) | refine sy_neq (h := ?_) | refine sy_lss (h := ?_) | refine sy_leq (h := ?_) | refine sy_gtr (h := ?_) | refine sy_geq (h := ?_) | refine sy_seql (h := ?_) | refine sy_sneq (h := ?_) | refine sy_slen (h := ?_) | refine sy_len (h := ?_) | refine sy_extract (h := ?_) | refine sy_add (h := ?_) | refine sy_sub (h := ?_) | refine sw_skipT (h := ?_) | refine sw_skipF (h := ?_) | refine sw_skipU (h := ?_) | refine sw_alloc (h := fun _ => ?_) | refine sw_box (h := fun _ => ?_) | refine sw_rangeS (h := fun _ => ?_) | refine sw_nextS (h1 := fun _ => ?_) (h2 := fun _ => ?_) | refine sw_bsl (h := fun _ => ?_) | refine sw_st1 (h := ?_) | refine sw_stAll (h := ?_) | refine cw_cond_t (ht := ?_) | refine cw_cond_f (hf := ?_) | apply cw_skip | apply cw_block | apply cw_ret | apply cw_exit | refine sy_and (h := ?_) | refine sy_or (h := ?_) | refine sy_xor (h := ?_) | refine sy_andNot (h := ?_) | refine sy_xorU (h := ?_) | refine sy_shl (h := ?_) | refine sy_shr (h := ?_) | refine sy_mul (h := ?_) | refine sy_int (h := ?_) | refine sy_beql (h := ?_) | refine sy_bneq (h := ?_) | refine sy_min (h := ?_) | refine sy_max (h := ?_) | refine sy_arrA (h := ?_) | refine sy_strI (h := ?_) | (refine sy_or (h := ?_)) | ((fail_if_success (refine sw_chk (h := ?_))); refine sw_guard (ht := ?_) (hf := ?_); all_goals (intro hx_; first | have := of_decide_eq_true hx_ | have := of_decide_eq_false hx_ | skip)) | (refine cw_cond (ht := ?_) (hf := ?_); all_goals (intro hx_; first | have := of_decide_eq_true hx_ | have := of_decide_eq_false hx_ | skip)))
  · refine ends_end (res_none rfl) ⟨rfl, ?_⟩
    simp only [noteV, *, decide_true, decide_false, cond_true, cond_false, Bool.and_true, Bool.true_and, Bool.and_false, Bool.false_and, Bool.not_true, Bool.not_false, Bool.or_true, Bool.true_or, Bool.or_false, Bool.false_or]
    rfl
  · refine ends_end (res_none rfl) ⟨rfl, ?_⟩
    simp only [noteV, *, decide_true, decide_false, cond_true, cond_false, Bool.and_true, Bool.true_and, Bool.and_false, Bool.false_and, Bool.not_true, Bool.not_false, Bool.or_true, Bool.true_or, Bool.or_false, Bool.false_or]
def usedV (a : ActD) : Int :=
  noteV (noteV (noteV (noteV (noteV (noteV (noteV (noteV (noteV (noteV (noteV 0 1 (seqB a.object ⟨#[]⟩)) 2 (seqB a.target ⟨#[]⟩)) 4 (decide (a.scope = 0))) 8 (seqB a.group ⟨#[]⟩)) 16 (decide ((a.to.n : Int) = 0))) 32 (seqB a.text ⟨#[]⟩))
    64 (boxEq a.body BoxD.zero)) 128 (decide (a.epoch = 0))) 256 (decide ((a.wraps.n : Int) = 0))) 512 (decide (a.n = 0))) 1024 (decide (a.m = 0))
theorem used_pu (a : ActD) : Pu Tryz.prog 133 #[a.v] (fun _ => True) (.int .i64 (usedV a)) := by
  refine pu_of_cw (args := [_]) _ Tryz.func133 rfl Tryz.ntmps133 rfl fun av bor w0 => ?_
  repeat' (first | apply sw_nil | apply cw_seq | apply cw_reg | refine sy_move (h := ?_) | refine sy_assign (h := ?_) | refine sy_nilCheck (h := ?_) | refine sy_fld (h := ?_) | refine sy_ld (h := ?_) | refine sy_ldAll (h := ?_) | refine sy_pick_t (h := ?_) | refine sy_pick_f (h := ?_) | refine sy_not (h := ?_) | refine sy_eql (h := ?_) | refine sy_neq (h := ?_) | refine sy_lss (h := ?_) | refine sy_leq (h := ?_) | refine sy_gtr (h := ?_) | refine sy_geq (h := ?_) | refine sy_seql (h := ?_) | refine sy_sneq (h := ?_) | refine sy_slen (h := ?_) | refine sy_len (h := ?_) | refine sy_extract (h := ?_) | refine sy_add (h := ?_) | refine sy_sub (h := ?_) | refine sw_skipT (h := ?_) | refine sw_skipF (h := ?_) | refine sw_skipU (h := ?_) | refine sw_alloc (h := fun _ => ?_) | refine sw_box (h := fun _ => ?_) | refine sw_rangeS (h := fun _ => ?_) | refine sw_nextS (h1 := fun _ => ?_) (h2 := fun _ => ?_) | refine sw_bsl (h := fun _ => ?_) | refine sw_st1 (h := ?_) | refine sw_stAll (h := ?_) | refine cw_cond_t (ht := ?_) | refine cw_cond_f (hf := ?_) | apply cw_skip | apply cw_block | apply cw_ret | apply cw_exit | refine sy_and (h := ?_) | refine sy_or (h := ?_) | refine sy_xor (h := ?_) | refine sy_andNot (h := ?_) | refine sy_xorU (h := ?_) | refine sy_shl (h := ?_) | refine sy_shr (h := ?_) | refine sy_mul (h := ?_) | refine sy_int (h := ?_) | refine sy_beql (h := ?_) | refine sy_bneq (h := ?_) | refine sy_min (h := ?_) | refine sy_max (h := ?_) | refine sy_arrA (h := ?_) | refine sy_strI (h := ?_) | (refine sy_makeFunc (h := ?_)) | (refine sy_build0 (h := ?_)) | (refine sy_boxEq (h := ?_)) | (refine sy_ldSub (h := ?_)) | (refine sw_turn (hc := used1_ct _ _ _ _) (hX := fun _ _ => trivial) (h := ?_)))
  (all_goals (apply ends_ret; apply res_tmp; rfl; rfl)); all_goals first | rfl | (simp only [usedV, *, decide_true, decide_false, cond_true, cond_false, Bool.and_true, Bool.true_and, Bool.and_false, Bool.false_and, Bool.not_true, Bool.not_false, Bool.or_true, Bool.true_or, Bool.or_false, Bool.false_or]; done) | (simp_all [usedV]; done)
end Go.Proofs.YtfpojkoddcdojaaGreatDoor
