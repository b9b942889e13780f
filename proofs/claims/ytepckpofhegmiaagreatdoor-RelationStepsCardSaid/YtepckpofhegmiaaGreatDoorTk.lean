/- Contracts of agoralaw21's own tale: Pick, Key, Id, Digest. -/
import Derived.Test.YtepckpofhegmiaaGreatDoorSl
import Derived.Test.YtepckpofhegmiaaGreatDoorMf
set_option linter.unusedVariables false
set_option linter.unusedSimpArgs false
namespace Go.Proofs.YtepckpofhegmiaaGreatDoor
open Go Go.Proofs Sy
section
variable {P : Program} {N : Nat} {av bor : List Nat} {w0 : World} {ty : TypeId}
theorem y_b2sC {st : St} {x : Operand} {t t2 e b' : TypeId} [hs : TySl P t e 1 b'] [he : TyInt P e .u8] [h2 : TyStr P t2] {b n : Nat} {ns : List Int} (hx : ev st.env x = some (.slice (some ⟨b, 0, none⟩) n n)) (hm : cel b e (u8s ns) ∈ st.loc) (hn : ns.length = n) (hn2 : n ≤ maxLen) :
    Sy.Yields P N av bor w0 st (.convert t t2 x) ty (.string (ofInts ns)) := Sy.Yields.mk fun A w ok d pos af g => by
  have hh : w.heap[b]? = some (.cells (u8s ns).toArray e (0, 0)) := (ok.gam.here _ hm).now
  have ho : ORow w e 1 (.slice (some ⟨b, 0, none⟩) n n) n (u8s ns) := orow_of_cel hh (by simp [u8s, hn]) hn2
  have hl : (u8s ns).length = n := by have := ho.1; omega
  rcases ho.2 with ⟨h, _⟩ | ⟨g, cap, cur, fz, hv, hg, hnc, hcm, hcs, htake, hfz⟩
  · cases h
  · cases hv
    have hlc := run_loadCells_list (P := P) w ⟨b, 0, none⟩ (u8s ns) (fun j u hj => by
      have hadd : (⟨b, 0, none⟩ : Addr).add j = ⟨b, j, none⟩ := by unfold Addr.add; split <;> simp_all
      rw [hadd, cell_of_row w b j cur e fz hg]
      rw [← htake, List.getElem?_take] at hj
      split at hj
      · simpa using hj
      · cases hj)
    rw [hl] at hlc
    have h3 := run_bytesToString (P := P) w ⟨b, 0, none⟩ n n ns hlc
    have h4 := run_convert_bytes_string (P := P) w t t2 e (some ⟨b, 0, none⟩) n n (slOf_spec hs.out).1 he.out h2.out
    rw [h3] at h4
    simp [execOp, ok.eval hx, h4, ofInts]
end
section
variable {N : Nat} {av bor : List Nat} {w0 : World} {st : St} {ty : TypeId} {x : Operand}
theorem y_fieldK {p s : Int} (hx : ev st.env x = some (.agg #[.int .i64 s, .int .i64 p])) : Sy.Yields Tryz.prog N av bor w0 st (.field 75 x 1) ty (.int .i64 p) := Sy.Yields.mk fun A w ok d pos af g => by
  simp [execOp, ok.eval hx, Instr.field, run_underlying Tryz.underlying75, asAgg, part, isAgg, run_underlying Tryz.underlying3]
end
namespace Sy
section
variable {P : Program} {N : Nat} {av bor : List Nat} {w0 : World} {loc0 : List Res} {X0 : World → Prop} {ops : Array Oper} {fuel : Nat} {listed : Array Bool} {E : Env} {loc : List Res} {X : World → Prop} {k : St → Prop}
/-- One of three. -/
theorem aw_three (i j l : Nat) {o o' o'' : Oper} (hi : ops[i]? = some o := by rfl) (hj : ops[j]? = some o' := by rfl) (hl : ops[l]? = some o'' := by rfl) (hr : Region.ready .any ops listed = [i, j, l] := by kernel_rfl)
    (h : Sw P N av bor w0 ops [o] ⟨E, loc, X⟩ (fun s => (∀ w, Gam av bor w0 s.loc s.ext w → Gam av bor w0 loc0 X0 w) ∧ Aw P N av bor w0 loc0 X0 ops fuel (listed.setIfInBounds i true) s k))
    (h' : Sw P N av bor w0 ops [o'] ⟨E, loc, X⟩ (fun s => (∀ w, Gam av bor w0 s.loc s.ext w → Gam av bor w0 loc0 X0 w) ∧ Aw P N av bor w0 loc0 X0 ops fuel (listed.setIfInBounds j true) s k))
    (h'' : Sw P N av bor w0 ops [o''] ⟨E, loc, X⟩ (fun s => (∀ w, Gam av bor w0 s.loc s.ext w → Gam av bor w0 loc0 X0 w) ∧ Aw P N av bor w0 loc0 X0 ops fuel (listed.setIfInBounds l true) s k)) :
    Aw P N av bor w0 loc0 X0 ops (fuel + 1) listed ⟨E, loc, X⟩ k := ⟨fun a w ok => wpAnyH_all hr (by simp) fun x hx => by
  rcases List.mem_cons.1 hx with rfl | hx
  · exact aw_op hi h a w ok
  · rcases List.mem_cons.1 hx with rfl | hx
    · exact aw_op hj h' a w ok
    · rw [List.mem_singleton] at hx
      subst hx
      exact aw_op hl h'' a w ok⟩
end
end Sy
def pickV (n by_ : Int) : Int := bif decide (n.tmod by_ < 0) then n.tmod by_ + by_ else n.tmod by_
theorem pick_pu (n : Int) (m : Nat) (hm : 1 ≤ m) (hm2 : m ≤ 9223372036854775807) : Pu Tryz.prog 25 #[.int .i64 n, .int .i64 m] (fun _ => True) (.int .i64 (pickV n m)) := by
  refine pu_of_cw (args := [_, _]) _ Tryz.func25 rfl Tryz.ntmps25 rfl fun av bor w0 => ?_
  have h1 : n.tmod (m : Int) < m := Int.tmod_lt_of_pos _ (by omega)
  have h2 : -(m : Int) < n.tmod m := Int.lt_tmod_of_pos _ (by omega)
  have hv : pickV n m = bif decide (n.tmod (m : Int) < 0) then n.tmod (m : Int) + m else n.tmod (m : Int) := rfl
  generalize hr : n.tmod (m : Int) = r at *
  repeat' (first | refine sy_rem (c := r) (hc := hr) (hb := by omega) (h := ?_) | apply sw_nil | apply cw_seq | apply cw_reg | refine sy_move (h := ?_) | refine sy_assign (h := ?_) | refine sy_lss (h := ?_) | refine sy_add (h := ?_) | refine cw_cond_t (ht := ?_) | refine cw_cond_f (hf := ?_) | apply cw_skip | apply cw_block | apply cw_ret | apply cw_exit | refine sy_arrA (h := ?_) | refine sy_strI (h := ?_) | (refine cw_cond (ht := ?_) (hf := ?_); all_goals (intro hx_; first | have := of_decide_eq_true hx_ | have := of_decide_eq_false hx_ | skip)))
  all_goals
    apply ends_ret; apply res_tmp; rfl; rfl
    rw [hv, ‹decide (r < 0) = _›]
    rfl
def seedB (i : Nat) : ByteArray := ⟨#[97, 99, 116, 111, 114, 32]⟩ ++ ofInts [(i : Int)]
def keyA (i : Nat) : KyD := keyOf (seedB i)
set_option maxHeartbeats 1000000 in
theorem key_pu (i : Nat) (hi : i < 256) : Pu Tryz.prog 27 #[.int .i64 (i : Int)] Glob (keyA i).v := by
  refine pu_of_cw (args := [_]) _ Tryz.func27 rfl Tryz.ntmps27 rfl fun av bor w0 => ?_
  have hw : IntKind.u8.wrap (i : Int) = (i : Int) := by rw [wrap8, Nat.mod_eq_of_lt hi]
  have hsz : (seedB i).size ≤ 1000000000000 := by
    have : (seedB i).size = 7 := rfl
    omega
  repeat' (first | refine sy_int (c := (i : Int)) (hc := hw) (h := ?_) | apply sw_nil | apply cw_seq | apply cw_reg | refine sy_move (h := ?_) | refine sy_assign (h := ?_) | refine sy_add (h := ?_) | refine sw_alloc (h := fun _ => ?_) | refine sw_bsl (h := fun _ => ?_) | refine sw_st1 (h := ?_) | refine sw_stAll (h := ?_) | refine cw_cond_t (ht := ?_) | refine cw_cond_f (hf := ?_) | apply cw_skip | apply cw_block | apply cw_ret | apply cw_exit | refine sy_int (h := ?_) | refine sy_arrA (h := ?_) | refine sy_strI (h := ?_) | (refine sw_bsl (len := 1) (vs := [.int .u8 (i : Int)]) (h := fun _ => ?_)) | (refine sw_yield (y_b2sC (ns := [(i : Int)]) rfl (by (repeat (first | exact List.mem_cons_self | apply List.mem_cons_of_mem))) rfl (by decide)) rfl rfl rfl ?_) | (refine sy_cat (hb := by exact (show 6 + 1 ≤ 9223372036854775807 by decide)) (h := ?_)) | (refine sw_pu (hc := signKey_pu (seedB i) hsz) (hX := fun _ h => h) (h := ?_)) | (refine cw_cond (ht := ?_) (hf := ?_); all_goals (intro hx_; first | have := of_decide_eq_true hx_ | have := of_decide_eq_false hx_ | skip)))
  exact ends_ret (res_cell rfl rfl (by (repeat (first | exact List.mem_cons_self | apply List.mem_cons_of_mem))) (by rfl)) rfl
def idA21 (i : Nat) : ByteArray := idV (keyA i).p
theorem keyA_p (i : Nat) : (keyA i).p < 9223372036854775808 ∧ 0 ≤ (keyA i).p := by
  have := expV_lt 37 (keyN (seedB i))
  exact ⟨by show ((expV 37 (keyN (seedB i)) : Nat) : Int) < _; omega, by show 0 ≤ ((expV 37 (keyN (seedB i)) : Nat) : Int); omega⟩
theorem id_pu (i : Nat) (hi : i < 256) : Pu Tryz.prog 16 #[.int .i64 (i : Int)] Glob (.string (idA21 i)) := by
  refine pu_of_cw (args := [_]) _ Tryz.func16 rfl Tryz.ntmps16 rfl fun av bor w0 => ?_
  have hk := key_pu i hi
  have hp := (keyA_p i).1
  have hid := identOf_pu (keyA i).p hp
  have hv : (keyA i).v = .agg #[.int .i64 (keyA i).s, .int .i64 (keyA i).p] := rfl
  rw [hv] at hk
  unfold idA21
  generalize (keyA i).p = p at *
  generalize (keyA i).s = s at *
  repeat' (first | apply sw_nil | apply cw_seq | apply cw_reg | refine sy_move (h := ?_) | refine sy_assign (h := ?_) | refine cw_cond_t (ht := ?_) | refine cw_cond_f (hf := ?_) | apply cw_skip | apply cw_block | apply cw_ret | apply cw_exit | refine sy_arrA (h := ?_) | refine sy_strI (h := ?_) | (refine sw_pu (hc := hk) (hX := fun _ h => h) (h := ?_)) | (refine sw_pu (hc := hid) (hX := fun _ h => h) (h := ?_)) | (refine sw_yield (y_fieldK rfl) rfl rfl rfl ?_) | (refine cw_cond (ht := ?_) (hf := ?_); all_goals (intro hx_; first | have := of_decide_eq_true hx_ | have := of_decide_eq_false hx_ | skip)))
  exact ends_ret (res_tmp rfl rfl) rfl
set_option maxRecDepth 20000 in
theorem digest21_pu (a : ActD) (hr : a.Rng) (hs : a.Sm) : Pu Tryz.prog 31 #[a.v] (fun w => a.at_ w ∧ Glob w) (.string (digV a)) := by
  refine pu_of_cw (args := [_]) _ Tryz.func31 rfl Tryz.ntmps31 rfl fun av bor w0 => ?_
  repeat' (first | apply sw_nil | apply cw_seq | apply cw_reg | refine sy_move (h := ?_) | refine sy_assign (h := ?_) | refine sy_ld (h := ?_) | refine sy_ldAll (h := ?_) | refine sw_box (h := fun _ => ?_) | refine cw_cond_t (ht := ?_) | refine cw_cond_f (hf := ?_) | apply cw_skip | apply cw_block | apply cw_ret | apply cw_exit | refine sy_arrA (h := ?_) | refine sy_strI (h := ?_) | (refine cw_cond (ht := ?_) (hf := ?_); all_goals (intro hx_; first | have := of_decide_eq_true hx_ | have := of_decide_eq_false hx_ | skip)))
  refine sw_mk (hc := ofAct_mk a hr hs) (hX := fun w h => h.1) (h := fun v1 X1 h1 => ?_)
  obtain ⟨a', rfl, hd, hr', ha'⟩ := h1
  rw [← hd]
  have hdi := digest_pu a' hr'
  generalize digV a' = D at *
  repeat' (first | apply sw_nil | apply cw_seq | apply cw_reg | refine sy_move (h := ?_) | refine sy_assign (h := ?_) | refine sy_ld (h := ?_) | refine sy_ldAll (h := ?_) | refine sw_box (h := fun _ => ?_) | refine cw_cond_t (ht := ?_) | refine cw_cond_f (hf := ?_) | apply cw_skip | apply cw_block | apply cw_ret | apply cw_exit | refine sy_arrA (h := ?_) | refine sy_strI (h := ?_) | (refine sw_pu (hc := hdi) (hX := fun w h => ⟨ha' w h.2, h.1.2⟩) (h := ?_)) | (refine cw_cond (ht := ?_) (hf := ?_); all_goals (intro hx_; first | have := of_decide_eq_true hx_ | have := of_decide_eq_false hx_ | skip)))
  exact ends_ret (res_tmp rfl rfl) rfl
end Go.Proofs.YtepckpofhegmiaaGreatDoor
