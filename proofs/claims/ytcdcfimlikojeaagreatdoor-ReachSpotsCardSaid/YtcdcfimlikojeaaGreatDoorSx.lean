/- The law ReachSpots: the walk. -/
import Derived.Test.YtcdcfimlikojeaaGreatDoorSq
set_option linter.unusedVariables false
set_option linter.unusedSimpArgs false
namespace Go.Proofs.YtcdcfimlikojeaaGreatDoor
open Go Go.Proofs Sy
theorem run_partS (w : World) {cs : Array Value} {off : Nat} {v : Value} (h : cs[off]? = some v) : (part 9 cs off).run Tryz.prog w = .ok v w := by
  simp [part, isAgg, run_underlying Tryz.underlying9, h]
theorem run_partI (w : World) {cs : Array Value} {off : Nat} {v : Value} (h : cs[off]? = some v) : (part 3 cs off).run Tryz.prog w = .ok v w := by
  simp [part, isAgg, run_underlying Tryz.underlying3, h]
theorem eqS_run (w : World) (d : Nat) (a b : ByteArray) : (Op.equalIn (d + 1) 9 (.string a) (.string b)).run Tryz.prog w = .ok (seqB a b) w := run_equalIn_string w d _ a b Tryz.underlying9
theorem eqI_run (w : World) (d : Nat) (a b : Int) : (Op.equalIn (d + 1) 3 (.int .i64 a) (.int .i64 b)).run Tryz.prog w = .ok (decide (a = b)) w := by
  rw [run_equalIn_int w d _ .i64 .i64 a b Tryz.underlying3]
  rfl
def eqSD (a b : SpotD) : Bool := seqB a.id b.id && decide ((a.n : Int) = b.n)
theorem eqSD_self (a : SpotD) : eqSD a a = true := by simp [eqSD, seqB_self]
theorem run_eqSD (w : World) (d : Nat) (a b : SpotD) : (Op.equalIn (d + 2) 42 a.v b.v).run Tryz.prog w = .ok (eqSD a b) w := by
  have p0 : ∀ x : SpotD, (part 9 x.cells.toArray 0).run Tryz.prog w = .ok (.string x.id) w := fun x => run_partS w rfl
  have p1 : ∀ x : SpotD, (part 3 x.cells.toArray 1).run Tryz.prog w = .ok (.int .i64 (x.n : Int)) w := fun x => run_partI w rfl
  unfold SpotD.v
  rw [run_equalIn_agg _ _ _ _ _ (by kernel_rfl) (by kernel_rfl)]
  simp only [Program.fieldsOf, Tryz.underlying42]
  simp [Op.eqFields, p0, p1, eqS_run, eqI_run]
  unfold eqSD
  cases seqB a.id b.id <;> by_cases h : a.n = b.n <;> simp [h, Int.ofNat_inj]
section
variable {N : Nat} {av bor : List Nat} {w0 : World} {x y : Operand} {t2 : TypeId} {ty : TypeId} {st : St}
theorem y_neqSD (a b : SpotD) (hx : ev st.env x = some a.v) (hy : ev st.env y = some b.v) : Sy.Yields Tryz.prog N av bor w0 st (.binOp .neq 42 x y t2) ty (.bool (!eqSD a b)) := Sy.Yields.mk fun A w ok d pos af g => by
  have h1 := run_eqGuard_agg (P := Tryz.prog) w .neq 42 x y a.cells.toArray b.cells.toArray (by kernel_rfl)
  have h2 := run_neq_struct (P := Tryz.prog) w 42 a.cells.toArray b.cells.toArray
  have h3 := run_eqSD w 9998 a b
  simp only [SpotD.v] at hx hy h3
  simp [execOp, ok.eval hx, ok.eval hy, h1, h2, h3]
end
theorem Spots.get {w : World} {s : SlV} {l : List SpotD} (h : Spots w s l) {i : Nat} {x : SpotD} (hx : l[i]? = some x) : x.cells.length = 2 ∧ s.p.isSome = true ∧ ∀ j u, x.cells[j]? = some u → CellAt w s.p (i * 2 + j) u :=
  RowsD.row h i x.cells (by simp [hx])
theorem Spots.len_ {w : World} {s : SlV} {l : List SpotD} (h : Spots w s l) : s.n = l.length := by have := RowsD.len h; simpa using this
theorem Spots.max_ {w : World} {s : SlV} {l : List SpotD} (h : Spots w s l) : s.n ≤ maxLen := Nat.le_trans (RowsD.cap h) (RowsD.max h)
theorem Spots.some_ {w : World} {s : SlV} {l : List SpotD} (h : Spots w s l) (hl : 0 < l.length) : s.p.isSome = true :=
  (RowsD.row h 0 l[0].cells (by simp [List.getElem?_eq_getElem hl])).2.1
theorem Chains.one {w : World} {s : SlV} {l : List ChainD} (h : Chains w s l) {k : Nat} {c : ChainD} (hc : l[k]? = some c) : Chains w ⟨(s.from 6 k).p, 1, s.c - k⟩ [c] := by
  have hlt := (List.getElem?_eq_some_iff.1 hc).1
  have h1 := RowsD.take (n := 1) (RowsD.drop (n := k) h.1 (by simp; omega)) (by simp; omega)
  have e : ((l.map ChainD.cells).drop k).take 1 = [c].map ChainD.cells := by
    rw [← List.map_drop, ← List.map_take, List.drop_eq_getElem_cons hlt]
    have := (List.getElem?_eq_some_iff.1 hc).2
    simp [this]
  rw [e] at h1
  exact ⟨h1, fun x hx => by rw [List.mem_singleton] at hx; subst hx; exact h.2 x (List.mem_of_getElem? hc)⟩
namespace Sy
section
variable {P : Program} {N : Nat} {av bor : List Nat} {w0 : World} {ops : Array Oper} {rest : List Oper} {kk : St → Prop} {E : Env} {loc : List Res} {X : World → Prop} {x y : Operand} {t t2 : TypeId}
variable {n : Nat} {ty : TypeId} {pos : String} {af : Array Edge} {g : Option (Nat × Bool)} {bb want : Bool}
theorem sy_neqT {k : IntKind} {a b : Int} [hI : TyInt P t k] (hx : ev E x = some (.int k a) := by rfl) (hy : ev E y = some (.int k b) := by rfl) (hab : ¬ a = b := by decide) (hg : gdB ops E g = some (bb, want) := by rfl) (hbb : bb = want := by (first | with_reducible rfl | with_reducible assumption | with_reducible exact Bool.not_false | with_reducible exact Bool.not_true)) (hd : Nat.blt n N = true := by rfl) (h : Sw P N av bor w0 ops rest ⟨(n, .bool true) :: E, loc, X⟩ kk) :
    Sw P N av bor w0 ops (⟨some n, .binOp .neq t x y t2, ty, pos, af, g⟩ :: rest) ⟨E, loc, X⟩ kk := sy_neq (hx := hx) (hy := hy) (hg := hg) (hbb := hbb) (hd := hd) (h := by
      have e : ∀ u, u = Value.bool true → Sw P N av bor w0 ops rest ⟨(n, u) :: E, loc, X⟩ kk := fun u hu => hu ▸ h
      exact e _ (by simp [hab]))
end
section
variable {P : Program} {N : Nat} {av bor : List Nat} {w0 : World} {st : St} {ty : TypeId} {x y z : Operand} {t t2 : TypeId}
/-- 's[l:h]' of a slice. -/
theorem y_slcLH {e size b' : Nat} [hI : TySl P t e size b'] {s : SlV} {kk kk' : IntKind} {i j : Int} (hx : ev st.env x = some s.v) (hy : ev st.env y = some (.int kk i)) (hz : ev st.env z = some (.int kk' j)) (h0 : 0 ≤ i) (h1 : i ≤ j) (h2 : j ≤ (s.c : Int)) :
    Sy.Yields P N av bor w0 st (.slice t x (some y) (some z) none) ty (.slice (s.from size i.toNat).p (j.toNat - i.toNat) (s.c - i.toNat)) := Sy.Yields.mk fun A w ok d pos af g => by
  obtain ⟨p, m, c⟩ := s
  obtain ⟨hu, inf, hi, hs, hb⟩ := slOf_spec hI.out
  have hsz := run_sizeOf (P := P) (w := w) (t := e) (n := size) (by simp [hi, hs])
  have hx' : ev st.env x = some (.slice p m c) := hx
  have h2' : j ≤ (c : Int) := h2
  have hj : 0 ≤ j := by omega
  obtain ⟨j, rfl⟩ := Int.eq_ofNat_of_zero_le hj
  have h2'' : j ≤ c := by omega
  simp [execOp, ok.eval hx', ok.eval hy, ok.eval hz, Instr.sliceAt, run_underlying hu, Instr.slice, Instr.sliceBounds, run_sliceBound, h0, h1, h2', h2'', hsz, SlV.from]
theorem y_slcK {e size b' : Nat} [hI : TySl P t e size b'] {s : SlV} {kk kk' : IntKind} {q : Nat} (hx : ev st.env x = some s.v) (hy : ev st.env y = some (.int kk (q : Int))) (hz : ev st.env z = some (.int kk' ((q : Int) + 1))) (h2 : q < s.c) :
    Sy.Yields P N av bor w0 st (.slice t x (some y) (some z) none) ty (⟨(s.from size q).p, 1, s.c - q⟩ : SlV).v := by
  have h := y_slcLH (P := P) (N := N) (av := av) (bor := bor) (w0 := w0) (st := st) (ty := ty) (t := t) hx hy hz (by omega) (by omega) (by omega)
  have e1 : ((q : Int)).toNat = q := rfl
  have e2 : ((q : Int) + 1).toNat - q = 1 := by omega
  rw [e1, e2] at h
  exact h
end
end Sy
theorem y_neqSDF {N : Nat} {av bor : List Nat} {w0 : World} {x y : Operand} {t2 : TypeId} {ty : TypeId} {st : St} (a : SpotD) (hx : ev st.env x = some a.v) (hy : ev st.env y = some a.v) : Sy.Yields Tryz.prog N av bor w0 st (.binOp .neq 42 x y t2) ty (.bool false) := by
  have h := y_neqSD (N := N) (av := av) (bor := bor) (w0 := w0) (t2 := t2) (ty := ty) a a hx hy
  rwa [eqSD_self] at h
structure SpO (l : List ChainD) (r : ByteArray) where
  k : Nat
  hk : k ≤ l.length
  pub : Nat
  hp : pub ≤ spotB l r k
structure SpJ (c : ChainD) (l : List ChainD) (r : ByteArray) (k : Nat) where
  j : Nat
  hj : j ≤ c.actsL.length
  pub : Nat
  hp : pub ≤ spotB l r k + (spotN c r j).length
set_option maxHeartbeats 4000000 in
theorem reachSpots_pu (s : SlV) (l : List ChainD) (r : ByteArray) (hr : ∀ c ∈ l, ∀ a ∈ c.actsL, a.Rng ∧ a.target.size ≤ maxLen) :
    Pu Tryz.prog 3 #[s.v, .string r] (fun w => Chains w s l ∧ Glob w) (.bool true) := by
  refine pu_of_cw (args := [_, _]) _ Tryz.func3 rfl Tryz.ntmps3 rfl fun av bor w0 => ?_
  refine cw_know (p := s.n = l.length ∧ s.n ≤ maxLen ∧ (0 < l.length → s.p.isSome = true) ∧ s.n ≤ s.c) (fun w h => ⟨h.1.len_, h.1.max_, h.1.some_, RowsD.cap h.1.1⟩) fun ⟨hsl, hm, hp, hcap⟩ => ?_
  simp only [maxLen] at hm
  have hfe := few25_pu s l
  cases hf : fewV l with
  | false =>
    rw [hf] at hfe
    repeat' (first | apply sw_nil | apply cw_seq | apply cw_reg | refine sy_move (h := ?_) | refine sy_assign (h := ?_) | refine sy_nilCheck (h := ?_) | refine sy_fld (h := ?_) | refine sy_ld (h := ?_) | refine sy_ldAll (h := ?_) | refine sy_pick_t (h := ?_) | refine sy_pick_f (h := ?_) | refine sy_not (h := ?_) | refine sy_eql (h := ?_) | refine sy_neq (h := ?_) | refine sy_lss (h := ?_) | refine sy_leq (h := ?_) | refine sy_gtr (h := ?_) | refine sy_geq (h := ?_) | refine sy_seql (h := ?_) | refine sy_sneq (h := ?_) | refine sy_slen (h := ?_) | refine sy_len (h := ?_) | refine sy_extract (h := ?_) | refine sy_add (h := ?_) | refine sy_sub (h := ?_) | refine sw_skipT (h := ?_) | refine sw_skipF (h := ?_) | refine sw_skipU (h := ?_) | refine sw_alloc (h := fun _ => ?_) | refine sw_box (h := fun _ => ?_) | refine sw_rangeS (h := fun _ => ?_) | refine sw_nextS (h1 := fun _ => ?_) (h2 := fun _ => ?_) | refine sw_bsl (h := fun _ => ?_) | refine sw_st1 (h := ?_) | refine sw_stAll (h := ?_) | refine cw_cond_t (ht := ?_) | refine cw_cond_f (hf := ?_) | apply cw_skip | apply cw_block | apply cw_ret | apply cw_exit | refine sy_and (h := ?_) | refine sy_or (h := ?_) | refine sy_xor (h := ?_) | refine sy_andNot (h := ?_) | refine sy_xorU (h := ?_) | refine sy_shl (h := ?_) | refine sy_shr (h := ?_) | refine sy_mul (h := ?_) | refine sy_int (h := ?_) | refine sy_beql (h := ?_) | refine sy_bneq (h := ?_) | refine sy_min (h := ?_) | refine sy_max (h := ?_) | refine sy_arrA (h := ?_) | refine sy_strI (h := ?_) | (refine sw_pu (hc := small25_pu) (hX := fun w h => h.2) (h := ?_)) | (refine sw_pu (hc := hfe) (hX := fun w h => h) (h := ?_)) | ((fail_if_success (refine sw_chk (h := ?_))); refine sw_guard (ht := ?_) (hf := ?_); all_goals (intro hx_; first | have := of_decide_eq_true hx_ | have := of_decide_eq_false hx_ | skip)) | (refine cw_cond (ht := ?_) (hf := ?_); all_goals (intro hx_; first | have := of_decide_eq_true hx_ | have := of_decide_eq_false hx_ | skip)))
    apply ends_ret; apply res_tmp; rfl; rfl
    rfl
  | true =>
    rw [hf] at hfe
    obtain ⟨hl6, hok⟩ := few_ok hr hf
    have hl24 : ∀ c ∈ l, c.actsL.length ≤ 24 := fun c hc => (hok c hc).2
    have hB := spotB_le (r := r) hl24
    have hsp := spots_mk s l r (by omega) (fun c hc => ⟨(hok c hc).1, by have := (hok c hc).2; omega⟩)
    repeat' (first | apply sw_nil | apply cw_seq | apply cw_reg | refine sy_move (h := ?_) | refine sy_assign (h := ?_) | refine sy_nilCheck (h := ?_) | refine sy_fld (h := ?_) | refine sy_ld (h := ?_) | refine sy_ldAll (h := ?_) | refine sy_pick_t (h := ?_) | refine sy_pick_f (h := ?_) | refine sy_not (h := ?_) | refine sy_eql (h := ?_) | refine sy_neq (h := ?_) | refine sy_lss (h := ?_) | refine sy_leq (h := ?_) | refine sy_gtr (h := ?_) | refine sy_geq (h := ?_) | refine sy_seql (h := ?_) | refine sy_sneq (h := ?_) | refine sy_slen (h := ?_) | refine sy_len (h := ?_) | refine sy_extract (h := ?_) | refine sy_add (h := ?_) | refine sy_sub (h := ?_) | refine sw_skipT (h := ?_) | refine sw_skipF (h := ?_) | refine sw_skipU (h := ?_) | refine sw_alloc (h := fun _ => ?_) | refine sw_box (h := fun _ => ?_) | refine sw_rangeS (h := fun _ => ?_) | refine sw_nextS (h1 := fun _ => ?_) (h2 := fun _ => ?_) | refine sw_bsl (h := fun _ => ?_) | refine sw_st1 (h := ?_) | refine sw_stAll (h := ?_) | refine cw_cond_t (ht := ?_) | refine cw_cond_f (hf := ?_) | apply cw_skip | apply cw_block | apply cw_ret | apply cw_exit | refine sy_and (h := ?_) | refine sy_or (h := ?_) | refine sy_xor (h := ?_) | refine sy_andNot (h := ?_) | refine sy_xorU (h := ?_) | refine sy_shl (h := ?_) | refine sy_shr (h := ?_) | refine sy_mul (h := ?_) | refine sy_int (h := ?_) | refine sy_beql (h := ?_) | refine sy_bneq (h := ?_) | refine sy_min (h := ?_) | refine sy_max (h := ?_) | refine sy_arrA (h := ?_) | refine sy_strI (h := ?_) | (refine sw_pu (hc := small25_pu) (hX := fun w h => h.2) (h := ?_)) | (refine sw_pu (hc := hfe) (hX := fun w h => h) (h := ?_)) | (refine sw_mk (hc := hsp) (hX := fun w h => h) (h := fun v1 X1 h1 => ?_); obtain ⟨so, rfl, hso⟩ := h1) | ((fail_if_success (refine sw_chk (h := ?_))); refine sw_guard (ht := ?_) (hf := ?_); all_goals (intro hx_; first | have := of_decide_eq_true hx_ | have := of_decide_eq_false hx_ | skip)) | (refine cw_cond (ht := ?_) (hf := ?_); all_goals (intro hx_; first | have := of_decide_eq_true hx_ | have := of_decide_eq_false hx_ | skip)))
    refine cw_loop (ι := SpO l r) (fun i => ⟨[(0, s.v), (1, .string r), (5, .bool true), (6, so.v), (7, .int .i64 (spotB l r i.k : Nat)), (8, .int .i64 (i.pub : Nat)), (9, .int .i64 i.k)], [], fun w => (Chains w s l ∧ Glob w) ∧ X1 w⟩) (fun i => l.length - i.k) ⟨0, Nat.zero_le _, 0, Nat.zero_le _⟩
      (ok_sub ⟨rfl, rfl, rfl, rfl, by rw [spotB_zero]; rfl, rfl, rfl, trivial⟩ (List.Sublist.refl _) fun _ h => h) fun i => ?_
    have hik := i.hk
    have hip := i.hp
    have hBi := hB i.k
    refine cw_know (p := so.n = (spotsV l r).length ∧ (0 < (spotsV l r).length → so.p.isSome = true)) (fun w h => ⟨(hso w h.2).len_, (hso w h.2).some_⟩) fun ⟨hson, hsop⟩ => ?_
    repeat' (first | apply sw_nil | apply cw_seq | apply cw_reg | refine sy_move (h := ?_) | refine sy_assign (h := ?_) | refine sy_nilCheck (h := ?_) | refine sy_fld (h := ?_) | refine sy_ld (h := ?_) | refine sy_ldAll (h := ?_) | refine sy_pick_t (h := ?_) | refine sy_pick_f (h := ?_) | refine sy_not (h := ?_) | refine sy_eql (h := ?_) | refine sy_neq (h := ?_) | refine sy_lss (h := ?_) | refine sy_leq (h := ?_) | refine sy_gtr (h := ?_) | refine sy_geq (h := ?_) | refine sy_seql (h := ?_) | refine sy_sneq (h := ?_) | refine sy_slen (h := ?_) | refine sy_len (h := ?_) | refine sy_extract (h := ?_) | refine sy_add (h := ?_) | refine sy_sub (h := ?_) | refine sw_skipT (h := ?_) | refine sw_skipF (h := ?_) | refine sw_skipU (h := ?_) | refine sw_alloc (h := fun _ => ?_) | refine sw_box (h := fun _ => ?_) | refine sw_rangeS (h := fun _ => ?_) | refine sw_nextS (h1 := fun _ => ?_) (h2 := fun _ => ?_) | refine sw_bsl (h := fun _ => ?_) | refine sw_st1 (h := ?_) | refine sw_stAll (h := ?_) | refine cw_cond_t (ht := ?_) | refine cw_cond_f (hf := ?_) | apply cw_skip | apply cw_block | apply cw_ret | apply cw_exit | refine sy_and (h := ?_) | refine sy_or (h := ?_) | refine sy_xor (h := ?_) | refine sy_andNot (h := ?_) | refine sy_xorU (h := ?_) | refine sy_shl (h := ?_) | refine sy_shr (h := ?_) | refine sy_mul (h := ?_) | refine sy_int (h := ?_) | refine sy_beql (h := ?_) | refine sy_bneq (h := ?_) | refine sy_min (h := ?_) | refine sy_max (h := ?_) | refine sy_arrA (h := ?_) | refine sy_strI (h := ?_) | ((fail_if_success (refine sw_chk (h := ?_))); refine sw_guard (ht := ?_) (hf := ?_); all_goals (intro hx_; first | have := of_decide_eq_true hx_ | have := of_decide_eq_false hx_ | skip)) | (refine cw_cond (ht := ?_) (hf := ?_); all_goals (intro hx_; first | have := of_decide_eq_true hx_ | have := of_decide_eq_false hx_ | skip)))
    · have hlt : i.k < l.length := by omega
      have hp' := hp (by omega)
      obtain ⟨c, hc⟩ : ∃ c, l[i.k]? = some c := ⟨_, List.getElem?_eq_getElem hlt⟩
      have hcm := List.mem_of_getElem? hc
      obtain ⟨hca, hcl⟩ := hok c hcm
      refine cw_know (p := c.acts.n = c.actsL.length ∧ c.acts.n ≤ maxLen ∧ (0 < c.actsL.length → c.acts.p.isSome = true)) (fun w h => ⟨(h.1.1.2 c hcm).len_, (h.1.1.2 c hcm).max_, (h.1.1.2 c hcm).some_⟩) fun ⟨hl2, hm2, hp2⟩ => ?_
      simp only [maxLen] at hm2
      repeat' (first | apply sw_nil | apply cw_seq | apply cw_reg | refine sy_move (h := ?_) | refine sy_assign (h := ?_) | refine sy_nilCheck (h := ?_) | refine sy_fld (h := ?_) | refine sy_ld (h := ?_) | refine sy_ldAll (h := ?_) | refine sy_pick_t (h := ?_) | refine sy_pick_f (h := ?_) | refine sy_not (h := ?_) | refine sy_eql (h := ?_) | refine sy_neq (h := ?_) | refine sy_lss (h := ?_) | refine sy_leq (h := ?_) | refine sy_gtr (h := ?_) | refine sy_geq (h := ?_) | refine sy_seql (h := ?_) | refine sy_sneq (h := ?_) | refine sy_slen (h := ?_) | refine sy_len (h := ?_) | refine sy_extract (h := ?_) | refine sy_add (h := ?_) | refine sy_sub (h := ?_) | refine sw_skipT (h := ?_) | refine sw_skipF (h := ?_) | refine sw_skipU (h := ?_) | refine sw_alloc (h := fun _ => ?_) | refine sw_box (h := fun _ => ?_) | refine sw_rangeS (h := fun _ => ?_) | refine sw_nextS (h1 := fun _ => ?_) (h2 := fun _ => ?_) | refine sw_bsl (h := fun _ => ?_) | refine sw_st1 (h := ?_) | refine sw_stAll (h := ?_) | refine cw_cond_t (ht := ?_) | refine cw_cond_f (hf := ?_) | apply cw_skip | apply cw_block | apply cw_ret | apply cw_exit | refine sy_and (h := ?_) | refine sy_or (h := ?_) | refine sy_xor (h := ?_) | refine sy_andNot (h := ?_) | refine sy_xorU (h := ?_) | refine sy_shl (h := ?_) | refine sy_shr (h := ?_) | refine sy_mul (h := ?_) | refine sy_int (h := ?_) | refine sy_beql (h := ?_) | refine sy_bneq (h := ?_) | refine sy_min (h := ?_) | refine sy_max (h := ?_) | refine sy_arrA (h := ?_) | refine sy_strI (h := ?_) | ((fail_if_success (refine sw_chk (h := ?_))); refine sw_guard (ht := ?_) (hf := ?_); all_goals (intro hx_; first | have := of_decide_eq_true hx_ | have := of_decide_eq_false hx_ | skip)) | (refine cw_cond (ht := ?_) (hf := ?_); all_goals (intro hx_; first | have := of_decide_eq_true hx_ | have := of_decide_eq_false hx_ | skip)))
      refine cw_loop (ι := SpJ c l r i.k) (fun j => ⟨[(0, s.v), (1, .string r), (5, .bool true), (6, so.v), (7, .int .i64 ((spotB l r i.k + (spotN c r j.j).length : Nat))), (8, .int .i64 (j.pub : Nat)), (9, .int .i64 i.k), (10, .int .i64 ((textN c j.j).length : Nat)), (11, .int .i64 j.j)], [], fun w => (Chains w s l ∧ Glob w) ∧ X1 w⟩) (fun j => c.actsL.length - j.j) ⟨0, Nat.zero_le _, i.pub, by simp [spotN]; omega⟩
        (ok_sub ⟨rfl, rfl, rfl, rfl, rfl, rfl, rfl, rfl, rfl, trivial⟩ (List.Sublist.refl _) fun _ h => h) fun j => ?_
      have hjk := j.hj
      have hjp := j.hp
      repeat' (first | apply sw_nil | apply cw_seq | apply cw_reg | refine sy_move (h := ?_) | refine sy_assign (h := ?_) | refine sy_nilCheck (h := ?_) | refine sy_fld (h := ?_) | refine sy_ld (h := ?_) | refine sy_ldAll (h := ?_) | refine sy_pick_t (h := ?_) | refine sy_pick_f (h := ?_) | refine sy_not (h := ?_) | refine sy_eql (h := ?_) | refine sy_neq (h := ?_) | refine sy_lss (h := ?_) | refine sy_leq (h := ?_) | refine sy_gtr (h := ?_) | refine sy_geq (h := ?_) | refine sy_seql (h := ?_) | refine sy_sneq (h := ?_) | refine sy_slen (h := ?_) | refine sy_len (h := ?_) | refine sy_extract (h := ?_) | refine sy_add (h := ?_) | refine sy_sub (h := ?_) | refine sw_skipT (h := ?_) | refine sw_skipF (h := ?_) | refine sw_skipU (h := ?_) | refine sw_alloc (h := fun _ => ?_) | refine sw_box (h := fun _ => ?_) | refine sw_rangeS (h := fun _ => ?_) | refine sw_nextS (h1 := fun _ => ?_) (h2 := fun _ => ?_) | refine sw_bsl (h := fun _ => ?_) | refine sw_st1 (h := ?_) | refine sw_stAll (h := ?_) | refine cw_cond_t (ht := ?_) | refine cw_cond_f (hf := ?_) | apply cw_skip | apply cw_block | apply cw_ret | apply cw_exit | refine sy_and (h := ?_) | refine sy_or (h := ?_) | refine sy_xor (h := ?_) | refine sy_andNot (h := ?_) | refine sy_xorU (h := ?_) | refine sy_shl (h := ?_) | refine sy_shr (h := ?_) | refine sy_mul (h := ?_) | refine sy_int (h := ?_) | refine sy_beql (h := ?_) | refine sy_bneq (h := ?_) | refine sy_min (h := ?_) | refine sy_max (h := ?_) | refine sy_arrA (h := ?_) | refine sy_strI (h := ?_) | (refine sy_idxX (q := i.k * 6) (h := ?_)) | (refine sy_fldX (h := ?_)) | (refine sy_ldX (q := i.k * 6 + 1) (u := c.acts.v) (hF := fun w h => (Chains.get h.1.1 hc).2.2 1 _ rfl) (h := ?_)) | ((fail_if_success (refine sw_chk (h := ?_))); refine sw_guard (ht := ?_) (hf := ?_); all_goals (intro hx_; first | have := of_decide_eq_true hx_ | have := of_decide_eq_false hx_ | skip)) | (refine cw_cond (ht := ?_) (hf := ?_); all_goals (intro hx_; first | have := of_decide_eq_true hx_ | have := of_decide_eq_false hx_ | skip)))
      · have hjl : j.j < c.actsL.length := by omega
        have hp3 := hp2 (by omega)
        obtain ⟨x, hx⟩ : ∃ x, c.actsL[j.j]? = some x := ⟨_, List.getElem?_eq_getElem hjl⟩
        have hT : rtextV c (j.j : Nat) = (postK x.kind || decide (x.kind = 14)) := by
          rw [rtextV, decide_eq_true (by omega), Bool.true_and, show ((j.j : Nat) : Int).toNat = j.j from rfl, hx]
        have hP : pubV c (j.j : Nat) = decide (x.scope = 0) := by
          rw [pubV, show ((j.j : Nat) : Int).toNat = j.j from rfl, hx]
        have hma := may_pu c hca (by omega) (j.j : Nat) r
        have hle := spotN_le c r j.j
        have hlt2 := textN_le c j.j
        have hpk := posting_pu x.kind
        cases ht : rtextV c (j.j : Nat) with
        | false =>
          rw [ht] at hT
          obtain ⟨hk1, hk2⟩ := Bool.or_eq_false_iff.1 hT.symm
          have hk3 := of_decide_eq_false hk2
          rw [hk1] at hpk
          have hmf : mayV c (j.j : Nat) r = false := by rw [mayV, ht, Bool.false_and]
          repeat' (first | refine sy_neqT (hab := by assumption) (h := ?_) | apply sw_nil | apply cw_seq | apply cw_reg | refine sy_move (h := ?_) | refine sy_assign (h := ?_) | refine sy_nilCheck (h := ?_) | refine sy_fld (h := ?_) | refine sy_ld (h := ?_) | refine sy_ldAll (h := ?_) | refine sy_pick_t (h := ?_) | refine sy_pick_f (h := ?_) | refine sy_not (h := ?_) | refine sy_eql (h := ?_) | refine sy_neq (h := ?_) | refine sy_lss (h := ?_) | refine sy_leq (h := ?_) | refine sy_gtr (h := ?_) | refine sy_geq (h := ?_) | refine sy_seql (h := ?_) | refine sy_sneq (h := ?_) | refine sy_slen (h := ?_) | refine sy_len (h := ?_) | refine sy_extract (h := ?_) | refine sy_add (h := ?_) | refine sy_sub (h := ?_) | refine sw_skipT (h := ?_) | refine sw_skipF (h := ?_) | refine sw_skipU (h := ?_) | refine sw_alloc (h := fun _ => ?_) | refine sw_box (h := fun _ => ?_) | refine sw_rangeS (h := fun _ => ?_) | refine sw_nextS (h1 := fun _ => ?_) (h2 := fun _ => ?_) | refine sw_bsl (h := fun _ => ?_) | refine sw_st1 (h := ?_) | refine sw_stAll (h := ?_) | refine cw_cond_t (ht := ?_) | refine cw_cond_f (hf := ?_) | apply cw_skip | apply cw_block | apply cw_ret | apply cw_exit | refine sy_and (h := ?_) | refine sy_or (h := ?_) | refine sy_xor (h := ?_) | refine sy_andNot (h := ?_) | refine sy_xorU (h := ?_) | refine sy_shl (h := ?_) | refine sy_shr (h := ?_) | refine sy_mul (h := ?_) | refine sy_int (h := ?_) | refine sy_beql (h := ?_) | refine sy_bneq (h := ?_) | refine sy_min (h := ?_) | refine sy_max (h := ?_) | refine sy_arrA (h := ?_) | refine sy_strI (h := ?_) | (refine sy_idxX (q := j.j * 20) (h := ?_)) | (refine sy_ldXs (cs := x.cells) (hF := fun w h => Acts.get (h.1.1.2 c hcm) hx) (h := ?_)) | (refine sw_pu (hc := hpk) (hX := fun w h => trivial) (h := ?_)) | ((fail_if_success (refine sw_chk (h := ?_))); refine sw_guard (ht := ?_) (hf := ?_); all_goals (intro hx_; first | have := of_decide_eq_true hx_ | have := of_decide_eq_false hx_ | skip)) | (refine cw_cond (ht := ?_) (hf := ?_); all_goals (intro hx_; first | have := of_decide_eq_true hx_ | have := of_decide_eq_false hx_ | skip)))
          exact ⟨⟨j.j + 1, hjl, j.pub, by rw [spotN_f hmf]; exact hjp⟩, (by show c.actsL.length - (j.j + 1) < c.actsL.length - j.j; omega),
            ok_sub ⟨rfl, rfl, rfl, rfl, by rw [spotN_f hmf]; rfl, rfl, rfl, by rw [textN_f ht]; rfl, rfl, trivial⟩ (List.sublist_cons_self _ _) fun _ h => h⟩
        | true =>
          rw [ht] at hT
          have hch : (!postK x.kind) = true → x.kind = 14 := fun h => by
            rw [Bool.not_eq_true'] at h
            rw [h, Bool.false_or] at hT
            exact of_decide_eq_true hT.symm
          cases hmv : mayV c (j.j : Nat) r with
          | true =>
            have hat := spot_at (r := r) hc hjl hmv
            have hix := (List.getElem?_eq_some_iff.1 hat).1
            have hsp' := hsop (by omega)
            have hln : (spotN c r (j.j + 1)).length = (spotN c r j.j).length + 1 := by rw [spotN_t hmv, List.length_append]; rfl
            have htn : (textN c (j.j + 1)).length = (textN c j.j).length + 1 := by rw [textN_t ht, List.length_append]; rfl
            rw [hmv] at hma
            repeat' (first | refine sy_neqF (hab := hch (by assumption)) (h := ?_) | apply sw_nil | apply cw_seq | apply cw_reg | refine sy_move (h := ?_) | refine sy_assign (h := ?_) | refine sy_nilCheck (h := ?_) | refine sy_fld (h := ?_) | refine sy_ld (h := ?_) | refine sy_ldAll (h := ?_) | refine sy_pick_t (h := ?_) | refine sy_pick_f (h := ?_) | refine sy_not (h := ?_) | refine sy_eql (h := ?_) | refine sy_neq (h := ?_) | refine sy_lss (h := ?_) | refine sy_leq (h := ?_) | refine sy_gtr (h := ?_) | refine sy_geq (h := ?_) | refine sy_seql (h := ?_) | refine sy_sneq (h := ?_) | refine sy_slen (h := ?_) | refine sy_len (h := ?_) | refine sy_extract (h := ?_) | refine sy_add (h := ?_) | refine sy_sub (h := ?_) | refine sw_skipT (h := ?_) | refine sw_skipF (h := ?_) | refine sw_skipU (h := ?_) | refine sw_alloc (h := fun _ => ?_) | refine sw_box (h := fun _ => ?_) | refine sw_rangeS (h := fun _ => ?_) | refine sw_nextS (h1 := fun _ => ?_) (h2 := fun _ => ?_) | refine sw_bsl (h := fun _ => ?_) | refine sw_st1 (h := ?_) | refine sw_stAll (h := ?_) | refine cw_cond_t (ht := ?_) | refine cw_cond_f (hf := ?_) | apply cw_skip | apply cw_block | apply cw_ret | apply cw_exit | refine sy_and (h := ?_) | refine sy_or (h := ?_) | refine sy_xor (h := ?_) | refine sy_andNot (h := ?_) | refine sy_xorU (h := ?_) | refine sy_shl (h := ?_) | refine sy_shr (h := ?_) | refine sy_mul (h := ?_) | refine sy_int (h := ?_) | refine sy_beql (h := ?_) | refine sy_bneq (h := ?_) | refine sy_min (h := ?_) | refine sy_max (h := ?_) | refine sy_arrA (h := ?_) | refine sy_strI (h := ?_) | (refine sy_idxX (q := j.j * 20) (h := ?_)) | (refine sy_idxX (q := i.k * 6) (h := ?_)) | (refine sy_ldXs (cs := x.cells) (hF := fun w h => Acts.get (h.1.1.2 c hcm) hx) (h := ?_)) | (refine sy_ldXs (cs := c.cells) (hF := fun w h => Chains.get h.1.1 hc) (h := ?_)) | refine sw_pu (hc := posting_pu x.kind) (h := ?_) | (refine sw_pu (hc := hma) (hX := fun w h => ⟨h.1.1.2 c hcm, h.1.2⟩) (h := ?_)) | ((fail_if_success (refine sw_chk (h := ?_))); refine sw_guard (ht := ?_) (hf := ?_); all_goals (intro hx_; first | have := of_decide_eq_true hx_ | have := of_decide_eq_false hx_ | skip)) | (refine cw_cond (ht := ?_) (hf := ?_); all_goals (intro hx_; first | have := of_decide_eq_true hx_ | have := of_decide_eq_false hx_ | skip)))
            all_goals
              (refine cw_draw [] (fun w => (Chains w s l ∧ Glob w) ∧ X1 w) (by kernel_rfl) ?_)
              all_goals (refine aw_take 0 (h := ?_))
              all_goals (refine aw_take 1 (h := ?_))
              all_goals (refine aw_take 2 (h := ?_))
              all_goals (first | refine aw_take 3 (h := ?_) | refine aw_take 3 (hy := by (first | (apply y_geqF; rfl; rfl; omega) | (apply y_neqSDF ⟨c.id, j.j⟩; rfl; rfl))) (h := ?_))
              all_goals (refine aw_take 4 (h := ?_))
              all_goals (first | (refine aw_take 5 (h := ?_)) | (refine aw_skipT 5 (h := ?_)) | (refine aw_skipF 5 (h := ?_)) | (refine aw_skipU 5 (h := ?_)) | (refine aw_guard 5 (ht := ?_) (hf := ?_); all_goals (intro hx_; first | have := of_decide_eq_true hx_ | have := of_decide_eq_false hx_ | skip); all_goals (first | (refine aw_take 5 (h := ?_)) | (refine aw_skipT 5 (h := ?_)) | (refine aw_skipF 5 (h := ?_)) | (refine aw_skipU 5 (h := ?_)))))
              all_goals (first | (refine aw_take 6 (h := ?_)) | (refine aw_skipT 6 (h := ?_)) | (refine aw_skipF 6 (h := ?_)) | (refine aw_skipU 6 (h := ?_)) | (refine aw_guard 6 (ht := ?_) (hf := ?_); all_goals (intro hx_; first | have := of_decide_eq_true hx_ | have := of_decide_eq_false hx_ | skip); all_goals (first | (refine aw_take 6 (h := ?_)) | (refine aw_skipT 6 (h := ?_)) | (refine aw_skipF 6 (h := ?_)) | (refine aw_skipU 6 (h := ?_)))))
              all_goals (first | (first | refine aw_take 7 (h := ?_) | refine aw_take 7 (hy := by (first | (apply y_idxX (q := (spotB l r i.k + (spotN c r j.j).length) * 2); rfl; rfl; omega; omega; assumption; (first | rfl | omega)) | (apply y_idxX (q := i.k * 6); rfl; rfl; omega; omega; assumption; omega))) (h := ?_)) | (refine aw_skipT 7 (h := ?_)) | (refine aw_skipF 7 (h := ?_)) | (refine aw_skipU 7 (h := ?_)) | (refine aw_guard 7 (ht := ?_) (hf := ?_); all_goals (intro hx_; first | have := of_decide_eq_true hx_ | have := of_decide_eq_false hx_ | skip); all_goals (first | (first | refine aw_take 7 (h := ?_) | refine aw_take 7 (hy := by (first | (apply y_idxX (q := (spotB l r i.k + (spotN c r j.j).length) * 2); rfl; rfl; omega; omega; assumption; (first | rfl | omega)) | (apply y_idxX (q := i.k * 6); rfl; rfl; omega; omega; assumption; omega))) (h := ?_)) | (refine aw_skipT 7 (h := ?_)) | (refine aw_skipF 7 (h := ?_)) | (refine aw_skipU 7 (h := ?_)))))
              all_goals (first | (first | refine aw_take 8 (h := ?_) | refine aw_take 8 (hy := by (first | (apply y_ldXs (cs := SpotD.cells ⟨c.id, j.j⟩); rfl; exact fun w h => Spots.get (hso w h.2) hat) | (apply y_ldX (q := i.k * 6 + 0) (u := .string c.id); rfl; exact fun w h => (Chains.get h.1.1 hc).2.2 0 _ rfl))) (h := ?_)) | (refine aw_skipT 8 (h := ?_)) | (refine aw_skipF 8 (h := ?_)) | (refine aw_skipU 8 (h := ?_)) | (refine aw_guard 8 (ht := ?_) (hf := ?_); all_goals (intro hx_; first | have := of_decide_eq_true hx_ | have := of_decide_eq_false hx_ | skip); all_goals (first | (first | refine aw_take 8 (h := ?_) | refine aw_take 8 (hy := by (first | (apply y_ldXs (cs := SpotD.cells ⟨c.id, j.j⟩); rfl; exact fun w h => Spots.get (hso w h.2) hat) | (apply y_ldX (q := i.k * 6 + 0) (u := .string c.id); rfl; exact fun w h => (Chains.get h.1.1 hc).2.2 0 _ rfl))) (h := ?_)) | (refine aw_skipT 8 (h := ?_)) | (refine aw_skipF 8 (h := ?_)) | (refine aw_skipU 8 (h := ?_)))))
              all_goals (first | (refine aw_take 9 (h := ?_)) | (refine aw_skipT 9 (h := ?_)) | (refine aw_skipF 9 (h := ?_)) | (refine aw_skipU 9 (h := ?_)) | (refine aw_guard 9 (ht := ?_) (hf := ?_); all_goals (intro hx_; first | have := of_decide_eq_true hx_ | have := of_decide_eq_false hx_ | skip); all_goals (first | (refine aw_take 9 (h := ?_)) | (refine aw_skipT 9 (h := ?_)) | (refine aw_skipF 9 (h := ?_)) | (refine aw_skipU 9 (h := ?_)))))
              all_goals (first | (refine aw_take 10 (h := ?_)) | (refine aw_skipT 10 (h := ?_)) | (refine aw_skipF 10 (h := ?_)) | (refine aw_skipU 10 (h := ?_)) | (refine aw_guard 10 (ht := ?_) (hf := ?_); all_goals (intro hx_; first | have := of_decide_eq_true hx_ | have := of_decide_eq_false hx_ | skip); all_goals (first | (refine aw_take 10 (h := ?_)) | (refine aw_skipT 10 (h := ?_)) | (refine aw_skipF 10 (h := ?_)) | (refine aw_skipU 10 (h := ?_)))))
              all_goals (first | (first | refine aw_take 11 (h := ?_) | refine aw_take 11 (hy := by (first | (apply y_idxX (q := (spotB l r i.k + (spotN c r j.j).length) * 2); rfl; rfl; omega; omega; assumption; (first | rfl | omega)) | (apply y_idxX (q := i.k * 6); rfl; rfl; omega; omega; assumption; omega))) (h := ?_)) | (refine aw_skipT 11 (h := ?_)) | (refine aw_skipF 11 (h := ?_)) | (refine aw_skipU 11 (h := ?_)) | (refine aw_guard 11 (ht := ?_) (hf := ?_); all_goals (intro hx_; first | have := of_decide_eq_true hx_ | have := of_decide_eq_false hx_ | skip); all_goals (first | (first | refine aw_take 11 (h := ?_) | refine aw_take 11 (hy := by (first | (apply y_idxX (q := (spotB l r i.k + (spotN c r j.j).length) * 2); rfl; rfl; omega; omega; assumption; (first | rfl | omega)) | (apply y_idxX (q := i.k * 6); rfl; rfl; omega; omega; assumption; omega))) (h := ?_)) | (refine aw_skipT 11 (h := ?_)) | (refine aw_skipF 11 (h := ?_)) | (refine aw_skipU 11 (h := ?_)))))
              all_goals (first | (first | refine aw_take 12 (h := ?_) | refine aw_take 12 (hy := by (first | (apply y_fldX; rfl; assumption; rfl))) (h := ?_)) | (refine aw_skipT 12 (h := ?_)) | (refine aw_skipF 12 (h := ?_)) | (refine aw_skipU 12 (h := ?_)) | (refine aw_guard 12 (ht := ?_) (hf := ?_); all_goals (intro hx_; first | have := of_decide_eq_true hx_ | have := of_decide_eq_false hx_ | skip); all_goals (first | (first | refine aw_take 12 (h := ?_) | refine aw_take 12 (hy := by (first | (apply y_fldX; rfl; assumption; rfl))) (h := ?_)) | (refine aw_skipT 12 (h := ?_)) | (refine aw_skipF 12 (h := ?_)) | (refine aw_skipU 12 (h := ?_)))))
              all_goals (first | (first | refine aw_take 13 (h := ?_) | refine aw_take 13 (hy := by (first | (apply y_ldXs (cs := SpotD.cells ⟨c.id, j.j⟩); rfl; exact fun w h => Spots.get (hso w h.2) hat) | (apply y_ldX (q := i.k * 6 + 0) (u := .string c.id); rfl; exact fun w h => (Chains.get h.1.1 hc).2.2 0 _ rfl))) (h := ?_)) | (refine aw_skipT 13 (h := ?_)) | (refine aw_skipF 13 (h := ?_)) | (refine aw_skipU 13 (h := ?_)) | (refine aw_guard 13 (ht := ?_) (hf := ?_); all_goals (intro hx_; first | have := of_decide_eq_true hx_ | have := of_decide_eq_false hx_ | skip); all_goals (first | (first | refine aw_take 13 (h := ?_) | refine aw_take 13 (hy := by (first | (apply y_ldXs (cs := SpotD.cells ⟨c.id, j.j⟩); rfl; exact fun w h => Spots.get (hso w h.2) hat) | (apply y_ldX (q := i.k * 6 + 0) (u := .string c.id); rfl; exact fun w h => (Chains.get h.1.1 hc).2.2 0 _ rfl))) (h := ?_)) | (refine aw_skipT 13 (h := ?_)) | (refine aw_skipF 13 (h := ?_)) | (refine aw_skipU 13 (h := ?_)))))
              all_goals (first | (refine aw_take 14 (h := ?_)) | (refine aw_skipT 14 (h := ?_)) | (refine aw_skipF 14 (h := ?_)) | (refine aw_skipU 14 (h := ?_)) | (refine aw_guard 14 (ht := ?_) (hf := ?_); all_goals (intro hx_; first | have := of_decide_eq_true hx_ | have := of_decide_eq_false hx_ | skip); all_goals (first | (refine aw_take 14 (h := ?_)) | (refine aw_skipT 14 (h := ?_)) | (refine aw_skipF 14 (h := ?_)) | (refine aw_skipU 14 (h := ?_)))))
              all_goals (first | (first | refine aw_take 15 (h := ?_) | refine aw_take 15 (hy := by (first | (apply y_build (cs := SpotD.cells ⟨c.id, j.j⟩); rfl; rfl))) (h := ?_)) | (refine aw_skipT 15 (h := ?_)) | (refine aw_skipF 15 (h := ?_)) | (refine aw_skipU 15 (h := ?_)) | (refine aw_guard 15 (ht := ?_) (hf := ?_); all_goals (intro hx_; first | have := of_decide_eq_true hx_ | have := of_decide_eq_false hx_ | skip); all_goals (first | (first | refine aw_take 15 (h := ?_) | refine aw_take 15 (hy := by (first | (apply y_build (cs := SpotD.cells ⟨c.id, j.j⟩); rfl; rfl))) (h := ?_)) | (refine aw_skipT 15 (h := ?_)) | (refine aw_skipF 15 (h := ?_)) | (refine aw_skipU 15 (h := ?_)))))
              all_goals (first | (first | refine aw_take 16 (h := ?_) | refine aw_take 16 (hy := by (first | (apply y_geqF; rfl; rfl; omega) | (apply y_neqSDF ⟨c.id, j.j⟩; rfl; rfl))) (h := ?_)) | (refine aw_skipT 16 (h := ?_)) | (refine aw_skipF 16 (h := ?_)) | (refine aw_skipU 16 (h := ?_)) | (refine aw_guard 16 (ht := ?_) (hf := ?_); all_goals (intro hx_; first | have := of_decide_eq_true hx_ | have := of_decide_eq_false hx_ | skip); all_goals (first | (first | refine aw_take 16 (h := ?_) | refine aw_take 16 (hy := by (first | (apply y_geqF; rfl; rfl; omega) | (apply y_neqSDF ⟨c.id, j.j⟩; rfl; rfl))) (h := ?_)) | (refine aw_skipT 16 (h := ?_)) | (refine aw_skipF 16 (h := ?_)) | (refine aw_skipU 16 (h := ?_)))))
              all_goals (refine aw_take 17 (h := ?_))
              all_goals (refine aw_done (h := ?_))
              repeat' (first | apply sw_nil | apply cw_seq | apply cw_reg | refine sy_move (h := ?_) | refine sy_assign (h := ?_) | refine sy_nilCheck (h := ?_) | refine sy_fld (h := ?_) | refine sy_ld (h := ?_) | refine sy_ldAll (h := ?_) | refine sy_pick_t (h := ?_) | refine sy_pick_f (h := ?_) | refine sy_not (h := ?_) | refine sy_eql (h := ?_) | refine sy_neq (h := ?_) | refine sy_lss (h := ?_) | refine sy_leq (h := ?_) | refine sy_gtr (h := ?_) | refine sy_geq (h := ?_) | refine sy_seql (h := ?_) | refine sy_sneq (h := ?_) | refine sy_slen (h := ?_) | refine sy_len (h := ?_) | refine sy_extract (h := ?_) | refine sy_add (h := ?_) | refine sy_sub (h := ?_) | refine sw_skipT (h := ?_) | refine sw_skipF (h := ?_) | refine sw_skipU (h := ?_) | refine sw_alloc (h := fun _ => ?_) | refine sw_box (h := fun _ => ?_) | refine sw_rangeS (h := fun _ => ?_) | refine sw_nextS (h1 := fun _ => ?_) (h2 := fun _ => ?_) | refine sw_bsl (h := fun _ => ?_) | refine sw_st1 (h := ?_) | refine sw_stAll (h := ?_) | refine cw_cond_t (ht := ?_) | refine cw_cond_f (hf := ?_) | apply cw_skip | apply cw_block | apply cw_ret | apply cw_exit | refine sy_and (h := ?_) | refine sy_or (h := ?_) | refine sy_xor (h := ?_) | refine sy_andNot (h := ?_) | refine sy_xorU (h := ?_) | refine sy_shl (h := ?_) | refine sy_shr (h := ?_) | refine sy_mul (h := ?_) | refine sy_int (h := ?_) | refine sy_beql (h := ?_) | refine sy_bneq (h := ?_) | refine sy_min (h := ?_) | refine sy_max (h := ?_) | refine sy_arrA (h := ?_) | refine sy_strI (h := ?_) | ((fail_if_success (refine sw_chk (h := ?_))); refine sw_guard (ht := ?_) (hf := ?_); all_goals (intro hx_; first | have := of_decide_eq_true hx_ | have := of_decide_eq_false hx_ | skip)) | (refine cw_cond (ht := ?_) (hf := ?_); all_goals (intro hx_; first | have := of_decide_eq_true hx_ | have := of_decide_eq_false hx_ | skip)))
              all_goals first
                | (exfalso; omega)
                | exact ⟨⟨j.j + 1, hjl, j.pub + 1, by rw [hln]; omega⟩, (by show c.actsL.length - (j.j + 1) < c.actsL.length - j.j; omega),
                    ok_sub ⟨rfl, rfl, rfl, rfl, by rw [hln]; rfl, rfl, rfl, by rw [htn]; rfl, rfl, trivial⟩ (List.sublist_cons_self _ _) fun _ h => h⟩
                | exact ⟨⟨j.j + 1, hjl, j.pub, by rw [hln]; omega⟩, (by show c.actsL.length - (j.j + 1) < c.actsL.length - j.j; omega),
                    ok_sub ⟨rfl, rfl, rfl, rfl, by rw [hln]; rfl, rfl, rfl, by rw [htn]; rfl, rfl, trivial⟩ (List.sublist_cons_self _ _) fun _ h => h⟩
          | false =>
            have hnp : ¬ x.scope = 0 := fun h => by
              have := may_pub r ht (by rw [hP]; exact decide_eq_true h)
              rw [this] at hmv
              cases hmv
            rw [hmv] at hma
            have hln : (spotN c r (j.j + 1)).length = (spotN c r j.j).length := by rw [spotN_f hmv]
            have htn : (textN c (j.j + 1)).length = (textN c j.j).length + 1 := by rw [textN_t ht, List.length_append]; rfl
            repeat' (first | refine sy_neqF (hab := hch (by assumption)) (h := ?_) | apply sw_nil | apply cw_seq | apply cw_reg | refine sy_move (h := ?_) | refine sy_assign (h := ?_) | refine sy_nilCheck (h := ?_) | refine sy_fld (h := ?_) | refine sy_ld (h := ?_) | refine sy_ldAll (h := ?_) | refine sy_pick_t (h := ?_) | refine sy_pick_f (h := ?_) | refine sy_not (h := ?_) | refine sy_eql (h := ?_) | refine sy_neq (h := ?_) | refine sy_lss (h := ?_) | refine sy_leq (h := ?_) | refine sy_gtr (h := ?_) | refine sy_geq (h := ?_) | refine sy_seql (h := ?_) | refine sy_sneq (h := ?_) | refine sy_slen (h := ?_) | refine sy_len (h := ?_) | refine sy_extract (h := ?_) | refine sy_add (h := ?_) | refine sy_sub (h := ?_) | refine sw_skipT (h := ?_) | refine sw_skipF (h := ?_) | refine sw_skipU (h := ?_) | refine sw_alloc (h := fun _ => ?_) | refine sw_box (h := fun _ => ?_) | refine sw_rangeS (h := fun _ => ?_) | refine sw_nextS (h1 := fun _ => ?_) (h2 := fun _ => ?_) | refine sw_bsl (h := fun _ => ?_) | refine sw_st1 (h := ?_) | refine sw_stAll (h := ?_) | refine cw_cond_t (ht := ?_) | refine cw_cond_f (hf := ?_) | apply cw_skip | apply cw_block | apply cw_ret | apply cw_exit | refine sy_and (h := ?_) | refine sy_or (h := ?_) | refine sy_xor (h := ?_) | refine sy_andNot (h := ?_) | refine sy_xorU (h := ?_) | refine sy_shl (h := ?_) | refine sy_shr (h := ?_) | refine sy_mul (h := ?_) | refine sy_int (h := ?_) | refine sy_beql (h := ?_) | refine sy_bneq (h := ?_) | refine sy_min (h := ?_) | refine sy_max (h := ?_) | refine sy_arrA (h := ?_) | refine sy_strI (h := ?_) | (refine sy_idxX (q := j.j * 20) (h := ?_)) | (refine sy_idxX (q := i.k * 6) (h := ?_)) | (refine sy_ldXs (cs := x.cells) (hF := fun w h => Acts.get (h.1.1.2 c hcm) hx) (h := ?_)) | (refine sy_ldXs (cs := c.cells) (hF := fun w h => Chains.get h.1.1 hc) (h := ?_)) | refine sw_pu (hc := posting_pu x.kind) (h := ?_) | (refine sw_pu (hc := hma) (hX := fun w h => ⟨h.1.1.2 c hcm, h.1.2⟩) (h := ?_)) | ((fail_if_success (refine sw_chk (h := ?_))); refine sw_guard (ht := ?_) (hf := ?_); all_goals (intro hx_; first | have := of_decide_eq_true hx_ | have := of_decide_eq_false hx_ | skip)) | (refine cw_cond (ht := ?_) (hf := ?_); all_goals (intro hx_; first | have := of_decide_eq_true hx_ | have := of_decide_eq_false hx_ | skip)))
            all_goals first
              | exact absurd (by assumption) hnp
              | exact ⟨⟨j.j + 1, hjl, j.pub, by rw [hln]; exact hjp⟩, (by show c.actsL.length - (j.j + 1) < c.actsL.length - j.j; omega),
                  ok_sub ⟨rfl, rfl, rfl, rfl, by rw [hln]; rfl, rfl, rfl, by rw [htn]; rfl, rfl, trivial⟩ (List.sublist_cons_self _ _) fun _ h => h⟩
      · have hj : j.j = c.actsL.length := by omega
        have hone := spots_mk ⟨(s.from 6 i.k).p, 1, s.c - i.k⟩ [c] c.id (by simp) (fun x hx => by rw [List.mem_singleton] at hx; subst hx; exact ⟨hca, by omega⟩)
        have hcn := spots_one c
        have hnx := spotB_next (r := r) hc
        have hlt2 := textN_le c j.j
        rw [← hj] at hnx hcn
        repeat' (first | apply sw_nil | apply cw_seq | apply cw_reg | refine sy_move (h := ?_) | refine sy_assign (h := ?_) | refine sy_nilCheck (h := ?_) | refine sy_fld (h := ?_) | refine sy_ld (h := ?_) | refine sy_ldAll (h := ?_) | refine sy_pick_t (h := ?_) | refine sy_pick_f (h := ?_) | refine sy_not (h := ?_) | refine sy_eql (h := ?_) | refine sy_neq (h := ?_) | refine sy_lss (h := ?_) | refine sy_leq (h := ?_) | refine sy_gtr (h := ?_) | refine sy_geq (h := ?_) | refine sy_seql (h := ?_) | refine sy_sneq (h := ?_) | refine sy_slen (h := ?_) | refine sy_len (h := ?_) | refine sy_extract (h := ?_) | refine sy_add (h := ?_) | refine sy_sub (h := ?_) | refine sw_skipT (h := ?_) | refine sw_skipF (h := ?_) | refine sw_skipU (h := ?_) | refine sw_alloc (h := fun _ => ?_) | refine sw_box (h := fun _ => ?_) | refine sw_rangeS (h := fun _ => ?_) | refine sw_nextS (h1 := fun _ => ?_) (h2 := fun _ => ?_) | refine sw_bsl (h := fun _ => ?_) | refine sw_st1 (h := ?_) | refine sw_stAll (h := ?_) | refine cw_cond_t (ht := ?_) | refine cw_cond_f (hf := ?_) | apply cw_skip | apply cw_block | apply cw_ret | apply cw_exit | refine sy_and (h := ?_) | refine sy_or (h := ?_) | refine sy_xor (h := ?_) | refine sy_andNot (h := ?_) | refine sy_xorU (h := ?_) | refine sy_shl (h := ?_) | refine sy_shr (h := ?_) | refine sy_mul (h := ?_) | refine sy_int (h := ?_) | refine sy_beql (h := ?_) | refine sy_bneq (h := ?_) | refine sy_min (h := ?_) | refine sy_max (h := ?_) | refine sy_arrA (h := ?_) | refine sy_strI (h := ?_) | ((fail_if_success (refine sw_chk (h := ?_))); refine sw_guard (ht := ?_) (hf := ?_); all_goals (intro hx_; first | have := of_decide_eq_true hx_ | have := of_decide_eq_false hx_ | skip)) | (refine cw_cond (ht := ?_) (hf := ?_); all_goals (intro hx_; first | have := of_decide_eq_true hx_ | have := of_decide_eq_false hx_ | skip)))
        (refine cw_draw [] (fun w => (Chains w s l ∧ Glob w) ∧ X1 w) (by kernel_rfl) ?_)
        all_goals (refine aw_take 0 (h := ?_))
        all_goals (refine aw_take 1 (h := ?_))
        all_goals (refine aw_take 2 (h := ?_))
        all_goals (refine aw_take 3 (h := ?_))
        all_goals (first | refine aw_take 4 (h := ?_) | refine aw_take 4 (hy := by (first | (apply y_slcK; rfl; rfl; rfl; omega))) (h := ?_))
        all_goals (refine aw_take 5 (h := ?_))
        all_goals (refine aw_take 6 (h := ?_))
        all_goals (first | refine aw_take 7 (h := ?_) | refine aw_take 7 (hy := by (first | (apply y_idxX (q := i.k * 6); rfl; rfl; omega; omega; assumption; omega))) (h := ?_))
        all_goals (first | refine aw_take 8 (h := ?_) | refine aw_take 8 (hy := by (first | (apply y_fldX; rfl; assumption; rfl))) (h := ?_))
        all_goals (first | refine aw_take 9 (h := ?_) | refine aw_take 9 (hy := by (first | (apply y_ldX (q := i.k * 6 + 0) (u := .string c.id); rfl; exact fun w h => (Chains.get h.1.1 hc).2.2 0 _ rfl))) (h := ?_))
        all_goals (refine aw_take 12 (h := ?_))
        all_goals (refine aw_step 10 (h := ?_); (first | (refine sw_mk (hc := hone) (hX := fun w h => ⟨Chains.one h.1.1 hc, h.1.2⟩) (h := fun v2 X3 h2 => ?_); obtain ⟨s2, rfl, hs2⟩ := h2)); apply sw_nil; refine aw_fin (h := ?_))
        all_goals (refine aw_take 11 (h := ?_))
        all_goals (refine aw_take 13 (h := ?_))
        all_goals (refine aw_done (h := ?_))
        refine cw_know (p := s2.n = (spotsV [c] c.id).length) (fun w h => (hs2 w h.2).len_) fun hs2n => ?_
        refine cw_cond_f rfl (by rw [decide_eq_true (by omega)]; rfl) ?_
        repeat' (first | apply sw_nil | apply cw_seq | apply cw_reg | refine sy_move (h := ?_) | refine sy_assign (h := ?_) | refine sy_nilCheck (h := ?_) | refine sy_fld (h := ?_) | refine sy_ld (h := ?_) | refine sy_ldAll (h := ?_) | refine sy_pick_t (h := ?_) | refine sy_pick_f (h := ?_) | refine sy_not (h := ?_) | refine sy_eql (h := ?_) | refine sy_neq (h := ?_) | refine sy_lss (h := ?_) | refine sy_leq (h := ?_) | refine sy_gtr (h := ?_) | refine sy_geq (h := ?_) | refine sy_seql (h := ?_) | refine sy_sneq (h := ?_) | refine sy_slen (h := ?_) | refine sy_len (h := ?_) | refine sy_extract (h := ?_) | refine sy_add (h := ?_) | refine sy_sub (h := ?_) | refine sw_skipT (h := ?_) | refine sw_skipF (h := ?_) | refine sw_skipU (h := ?_) | refine sw_alloc (h := fun _ => ?_) | refine sw_box (h := fun _ => ?_) | refine sw_rangeS (h := fun _ => ?_) | refine sw_nextS (h1 := fun _ => ?_) (h2 := fun _ => ?_) | refine sw_bsl (h := fun _ => ?_) | refine sw_st1 (h := ?_) | refine sw_stAll (h := ?_) | refine cw_cond_t (ht := ?_) | refine cw_cond_f (hf := ?_) | apply cw_skip | apply cw_block | apply cw_ret | apply cw_exit | refine sy_and (h := ?_) | refine sy_or (h := ?_) | refine sy_xor (h := ?_) | refine sy_andNot (h := ?_) | refine sy_xorU (h := ?_) | refine sy_shl (h := ?_) | refine sy_shr (h := ?_) | refine sy_mul (h := ?_) | refine sy_int (h := ?_) | refine sy_beql (h := ?_) | refine sy_bneq (h := ?_) | refine sy_min (h := ?_) | refine sy_max (h := ?_) | refine sy_arrA (h := ?_) | refine sy_strI (h := ?_) | ((fail_if_success (refine sw_chk (h := ?_))); refine sw_guard (ht := ?_) (hf := ?_); all_goals (intro hx_; first | have := of_decide_eq_true hx_ | have := of_decide_eq_false hx_ | skip)) | (refine cw_cond (ht := ?_) (hf := ?_); all_goals (intro hx_; first | have := of_decide_eq_true hx_ | have := of_decide_eq_false hx_ | skip)))
        exact ⟨⟨i.k + 1, hlt, j.pub, by rw [hnx]; exact hjp⟩, (by show l.length - (i.k + 1) < l.length - i.k; omega), ok_sub ⟨rfl, rfl, rfl, rfl, by rw [hnx]; rfl, rfl, rfl, trivial⟩ (List.Sublist.refl _) fun _ h => h.1⟩
    all_goals
      have hk : l.length ≤ i.k := by omega
      have hBe : spotB l r i.k = (spotsV l r).length := spotB_end hk
      first
        | (exfalso; omega)
        | (apply ends_ret; apply res_tmp; rfl; rfl
           rw [decide_eq_true (by omega)]
           done)
end Go.Proofs.YtcdcfimlikojeaaGreatDoor
