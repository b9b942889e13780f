/- The law CircleEpochs: the walk. -/
import Derived.Test.YtfpojkoddcdojaaGreatDoorLa
set_option linter.unusedVariables false
set_option linter.unusedSimpArgs false
namespace Go.Proofs.YtfpojkoddcdojaaGreatDoor
open Go Go.Proofs Sy
theorem gOk_spec {a : ActD} {sc : Int} {g : ByteArray} {nx : Nat} (h : gOk a sc g nx = true) : a.kind = 16 ∧ a.scope = sc ∧ seqB a.group g = true ∧ a.epoch = (nx : Int) := by
  simp only [gOk, Bool.and_eq_true, decide_eq_true_eq] at h
  exact ⟨h.1.1.1, h.1.1.2, h.1.2, h.2⟩
theorem grantF_spec (l : List ActD) (sc : Int) (g : ByteArray) : ∀ k, k ≤ l.length → ((grantF l sc g k).2 = 0 → (grantF l sc g k).1 = 0) ∧ (0 < (grantF l sc g k).2 → ∃ x, l[(grantF l sc g k).1]? = some x ∧ x.kind = 16 ∧ x.scope = sc ∧ seqB x.group g = true ∧ x.epoch = ((grantF l sc g k).2 : Int) - 1)
  | 0, _ => ⟨fun _ => rfl, fun h => absurd h (Nat.lt_irrefl _)⟩
  | k + 1, hk => by
    have ih := grantF_spec l sc g k (by omega)
    simp only [grantF]
    cases hb : gOk (l.getD k ActD.zero) sc g (grantF l sc g k).2 with
    | true =>
      have hg := gOk_spec hb
      have hx : l[k]? = some (l.getD k ActD.zero) := by rw [List.getD_eq_getElem?_getD, List.getElem?_eq_getElem (by omega)]; rfl
      refine ⟨fun h => by simp at h, fun _ => ⟨l.getD k ActD.zero, hx, hg.1, hg.2.1, hg.2.2.1, ?_⟩⟩
      rw [hg.2.2.2]
      simp only [cond_true]
      omega
    | false => exact ih
theorem actsOk_of {c : ChainD} (hr : ∀ a ∈ c.actsL, a.Rng) (ht : ∀ a ∈ c.actsL, a.target.size ≤ maxLen) (h : shortV c = true) : ActsOk c.actsL ∧ c.actsL.length ≤ 24 := by
  simp only [shortV, Bool.and_eq_true, decide_eq_true_eq] at h
  refine ⟨⟨hr, fun a ha => ?_⟩, h.1⟩
  obtain ⟨i, hi, rfl⟩ := List.getElem_of_mem ha
  have h1 := List.all_eq_true.1 h.2 i (List.mem_range.2 hi)
  simp only [shortBad, List.getD_eq_getElem?_getD, List.getElem?_eq_getElem hi, Option.getD_some, Bool.not_eq_true', Bool.or_eq_false_iff, decide_eq_false_iff_not] at h1
  exact ⟨by omega, by omega, ht _ ha⟩
theorem eqL_refl (l : List ByteArray) : eqL l l = true := by
  rw [eqL, decide_eq_true rfl, Bool.true_and]
  refine allB_true fun j hj => ?_
  simp [eqBad, seqB]
section
variable {P : Program} {N : Nat} {av bor : List Nat} {w0 : World} {ops : Array Oper} {rest : List Oper} {kk : St → Prop} {E : Env} {loc : List Res} {X : World → Prop} {x y : Operand} {t t2 : TypeId}
variable {n : Nat} {ty : TypeId} {pos : String} {af : Array Edge} {g : Option (Nat × Bool)} {bb want : Bool}
theorem sy_bneV {p q : Bool} (r : Bool) [hI : TyBool P t] (hx : ev E x = some (.bool p) := by rfl) (hy : ev E y = some (.bool q) := by rfl) (hr : (p != q) = r) (hg : gdB ops E g = some (bb, want) := by rfl) (hbb : bb = want := by (first | with_reducible rfl | with_reducible assumption | with_reducible exact Bool.not_false | with_reducible exact Bool.not_true)) (hd : Nat.blt n N = true := by rfl) (h : Sw P N av bor w0 ops rest ⟨(n, .bool r) :: E, loc, X⟩ kk) :
    Sw P N av bor w0 ops (⟨some n, .binOp .neq t x y t2, ty, pos, af, g⟩ :: rest) ⟨E, loc, X⟩ kk := sy_bneq (hx := hx) (hy := hy) (hg := hg) (hbb := hbb) (hd := hd) (h := hr ▸ h)
theorem sy_neqF {k : IntKind} {a b : Int} (hx : ev E x = some (.int k a) := by rfl) (hy : ev E y = some (.int k b) := by rfl) (hab : a = b := by decide) (hg : gdB ops E g = some (bb, want) := by rfl) (hbb : bb = want := by (first | with_reducible rfl | with_reducible assumption | with_reducible exact Bool.not_false | with_reducible exact Bool.not_true)) (hd : Nat.blt n N = true := by rfl) (h : Sw P N av bor w0 ops rest ⟨(n, .bool false) :: E, loc, X⟩ kk) :
    Sw P N av bor w0 ops (⟨some n, .binOp .neq t x y t2, ty, pos, af, g⟩ :: rest) ⟨E, loc, X⟩ kk := sy_neq (hx := hx) (hy := hy) (hg := hg) (hbb := hbb) (hd := hd) (h := by
      have e : ∀ u, u = Value.bool false → Sw P N av bor w0 ops rest ⟨(n, u) :: E, loc, X⟩ kk := fun u hu => hu ▸ h
      exact e _ (by simp [hab]))
theorem sy_geqF {k : IntKind} {a b : Int} (hx : ev E x = some (.int k a) := by rfl) (hy : ev E y = some (.int k b) := by rfl) (hab : ¬ b ≤ a) (hg : gdB ops E g = some (bb, want) := by rfl) (hbb : bb = want := by (first | with_reducible rfl | with_reducible assumption | with_reducible exact Bool.not_false | with_reducible exact Bool.not_true)) (hd : Nat.blt n N = true := by rfl) (h : Sw P N av bor w0 ops rest ⟨(n, .bool false) :: E, loc, X⟩ kk) :
    Sw P N av bor w0 ops (⟨some n, .binOp .geq t x y t2, ty, pos, af, g⟩ :: rest) ⟨E, loc, X⟩ kk := sy_geq (hx := hx) (hy := hy) (hg := hg) (hbb := hbb) (hd := hd) (h := by
      have e : ∀ u, u = Value.bool false → Sw P N av bor w0 ops rest ⟨(n, u) :: E, loc, X⟩ kk := fun u hu => hu ▸ h
      exact e _ (by simp only [decide_eq_false hab]))
theorem sy_gtrT {k : IntKind} {a b : Int} (hx : ev E x = some (.int k a) := by rfl) (hy : ev E y = some (.int k b) := by rfl) (hab : b < a := by (first | decide | omega)) (hg : gdB ops E g = some (bb, want) := by rfl) (hbb : bb = want := by (first | with_reducible rfl | with_reducible assumption | with_reducible exact Bool.not_false | with_reducible exact Bool.not_true)) (hd : Nat.blt n N = true := by rfl) (h : Sw P N av bor w0 ops rest ⟨(n, .bool true) :: E, loc, X⟩ kk) :
    Sw P N av bor w0 ops (⟨some n, .binOp .gtr t x y t2, ty, pos, af, g⟩ :: rest) ⟨E, loc, X⟩ kk := sy_gtr (hx := hx) (hy := hy) (hg := hg) (hbb := hbb) (hd := hd) (h := by
      have e : ∀ u, u = Value.bool true → Sw P N av bor w0 ops rest ⟨(n, u) :: E, loc, X⟩ kk := fun u hu => hu ▸ h
      exact e _ (by simp [hab]))
theorem sy_gtrF {k : IntKind} {a b : Int} (hx : ev E x = some (.int k a) := by rfl) (hy : ev E y = some (.int k b) := by rfl) (hab : ¬ b < a) (hg : gdB ops E g = some (bb, want) := by rfl) (hbb : bb = want := by (first | with_reducible rfl | with_reducible assumption | with_reducible exact Bool.not_false | with_reducible exact Bool.not_true)) (hd : Nat.blt n N = true := by rfl) (h : Sw P N av bor w0 ops rest ⟨(n, .bool false) :: E, loc, X⟩ kk) :
    Sw P N av bor w0 ops (⟨some n, .binOp .gtr t x y t2, ty, pos, af, g⟩ :: rest) ⟨E, loc, X⟩ kk := sy_gtr (hx := hx) (hy := hy) (hg := hg) (hbb := hbb) (hd := hd) (h := by
      have e : ∀ u, u = Value.bool false → Sw P N av bor w0 ops rest ⟨(n, u) :: E, loc, X⟩ kk := fun u hu => hu ▸ h
      exact e _ (by simp [hab]))
end
set_option maxRecDepth 20000 in
set_option maxHeartbeats 4000000 in
theorem epochs_pu (c : ChainD) (hr : ∀ a ∈ c.actsL, a.Rng) (ht : ∀ a ∈ c.actsL, a.target.size ≤ maxLen) (sc : Int) (g : ByteArray) :
    Pu Tryz.prog 9 #[c.v, .int .i64 sc, .string g] (XC c) (.bool true) := by
  refine pu_of_cw (args := [_, _, _]) _ Tryz.func9 rfl Tryz.ntmps9 rfl fun av bor w0 => ?_
  refine cw_know XC.know fun ⟨hl, hm, hp, hcap⟩ => ?_
  simp only [maxLen] at hm
  repeat' (first | apply sw_nil | apply cw_seq | apply cw_reg | refine sy_move (h := ?_) | refine sy_assign (h := ?_) | refine sy_nilCheck (h := ?_) | refine sy_fld (h := ?_) | refine sy_ld (h := ?_) | refine sy_ldAll (h := ?_) | refine sy_pick_t (h := ?_) | refine sy_pick_f (h := ?_) | refine sy_not (h := ?_) | refine sy_eql (h := ?_) | refine sy_neq (h := ?_) | refine sy_lss (h := ?_) | refine sy_leq (h := ?_) | refine sy_gtr (h := ?_) | refine sy_geq (h := ?_) | refine sy_seql (h := ?_) | refine sy_sneq (h := ?_) | refine sy_slen (h := ?_) | refine sy_len (h := ?_) | refine sy_extract (h := ?_) | refine sy_add (h := ?_) | refine sy_sub (h := ?_) | refine sw_skipT (h := ?_) | refine sw_skipF (h := ?_) | refine sw_skipU (h := ?_) | refine sw_alloc (h := fun _ => ?_) | refine sw_box (h := fun _ => ?_) | refine sw_rangeS (h := fun _ => ?_) | refine sw_nextS (h1 := fun _ => ?_) (h2 := fun _ => ?_) | refine sw_bsl (h := fun _ => ?_) | refine sw_st1 (h := ?_) | refine sw_stAll (h := ?_) | refine cw_cond_t (ht := ?_) | refine cw_cond_f (hf := ?_) | apply cw_skip | apply cw_block | apply cw_ret | apply cw_exit | refine sy_and (h := ?_) | refine sy_or (h := ?_) | refine sy_xor (h := ?_) | refine sy_andNot (h := ?_) | refine sy_xorU (h := ?_) | refine sy_shl (h := ?_) | refine sy_shr (h := ?_) | refine sy_mul (h := ?_) | refine sy_int (h := ?_) | refine sy_beql (h := ?_) | refine sy_bneq (h := ?_) | refine sy_min (h := ?_) | refine sy_max (h := ?_) | refine sy_arrA (h := ?_) | refine sy_strI (h := ?_))
  rename_i b3
  refine sw_pu (hc := small_pu) (hX := fun w h => h.2) (h := ?_)
  have hsh := short_pu c
  cases hs : shortV c with
  | false =>
    rw [hs] at hsh
    repeat' (first | apply sw_nil | apply cw_seq | apply cw_reg | refine sy_move (h := ?_) | refine sy_assign (h := ?_) | refine sy_nilCheck (h := ?_) | refine sy_fld (h := ?_) | refine sy_ld (h := ?_) | refine sy_ldAll (h := ?_) | refine sy_pick_t (h := ?_) | refine sy_pick_f (h := ?_) | refine sy_not (h := ?_) | refine sy_eql (h := ?_) | refine sy_neq (h := ?_) | refine sy_lss (h := ?_) | refine sy_leq (h := ?_) | refine sy_gtr (h := ?_) | refine sy_geq (h := ?_) | refine sy_seql (h := ?_) | refine sy_sneq (h := ?_) | refine sy_slen (h := ?_) | refine sy_len (h := ?_) | refine sy_extract (h := ?_) | refine sy_add (h := ?_) | refine sy_sub (h := ?_) | refine sw_skipT (h := ?_) | refine sw_skipF (h := ?_) | refine sw_skipU (h := ?_) | refine sw_alloc (h := fun _ => ?_) | refine sw_box (h := fun _ => ?_) | refine sw_rangeS (h := fun _ => ?_) | refine sw_nextS (h1 := fun _ => ?_) (h2 := fun _ => ?_) | refine sw_bsl (h := fun _ => ?_) | refine sw_st1 (h := ?_) | refine sw_stAll (h := ?_) | refine cw_cond_t (ht := ?_) | refine cw_cond_f (hf := ?_) | apply cw_skip | apply cw_block | apply cw_ret | apply cw_exit | refine sy_and (h := ?_) | refine sy_or (h := ?_) | refine sy_xor (h := ?_) | refine sy_andNot (h := ?_) | refine sy_xorU (h := ?_) | refine sy_shl (h := ?_) | refine sy_shr (h := ?_) | refine sy_mul (h := ?_) | refine sy_int (h := ?_) | refine sy_beql (h := ?_) | refine sy_bneq (h := ?_) | refine sy_min (h := ?_) | refine sy_max (h := ?_) | refine sy_arrA (h := ?_) | refine sy_strI (h := ?_) | (refine sw_pu (hc := hsh) (hX := fun w h => h) (h := ?_)) | ((fail_if_success (refine sw_chk (h := ?_))); refine sw_guard (ht := ?_) (hf := ?_); all_goals (intro hx_; first | have := of_decide_eq_true hx_ | have := of_decide_eq_false hx_ | skip)) | (refine cw_cond (ht := ?_) (hf := ?_); all_goals (intro hx_; first | have := of_decide_eq_true hx_ | have := of_decide_eq_false hx_ | skip)))
    apply ends_ret; apply res_tmp; rfl; rfl
    rfl
  | true =>
    rw [hs] at hsh
    obtain ⟨hc, hlen⟩ := actsOk_of hr ht hs
    repeat' (first | apply sw_nil | apply cw_seq | apply cw_reg | refine sy_move (h := ?_) | refine sy_assign (h := ?_) | refine sy_nilCheck (h := ?_) | refine sy_fld (h := ?_) | refine sy_ld (h := ?_) | refine sy_ldAll (h := ?_) | refine sy_pick_t (h := ?_) | refine sy_pick_f (h := ?_) | refine sy_not (h := ?_) | refine sy_eql (h := ?_) | refine sy_neq (h := ?_) | refine sy_lss (h := ?_) | refine sy_leq (h := ?_) | refine sy_gtr (h := ?_) | refine sy_geq (h := ?_) | refine sy_seql (h := ?_) | refine sy_sneq (h := ?_) | refine sy_slen (h := ?_) | refine sy_len (h := ?_) | refine sy_extract (h := ?_) | refine sy_add (h := ?_) | refine sy_sub (h := ?_) | refine sw_skipT (h := ?_) | refine sw_skipF (h := ?_) | refine sw_skipU (h := ?_) | refine sw_alloc (h := fun _ => ?_) | refine sw_box (h := fun _ => ?_) | refine sw_rangeS (h := fun _ => ?_) | refine sw_nextS (h1 := fun _ => ?_) (h2 := fun _ => ?_) | refine sw_bsl (h := fun _ => ?_) | refine sw_st1 (h := ?_) | refine sw_stAll (h := ?_) | refine cw_cond_t (ht := ?_) | refine cw_cond_f (hf := ?_) | apply cw_skip | apply cw_block | apply cw_ret | apply cw_exit | refine sy_and (h := ?_) | refine sy_or (h := ?_) | refine sy_xor (h := ?_) | refine sy_andNot (h := ?_) | refine sy_xorU (h := ?_) | refine sy_shl (h := ?_) | refine sy_shr (h := ?_) | refine sy_mul (h := ?_) | refine sy_int (h := ?_) | refine sy_beql (h := ?_) | refine sy_bneq (h := ?_) | refine sy_min (h := ?_) | refine sy_max (h := ?_) | refine sy_arrA (h := ?_) | refine sy_strI (h := ?_) | (refine sw_pu (hc := hsh) (hX := fun w h => h) (h := ?_)) | ((fail_if_success (refine sw_chk (h := ?_))); refine sw_guard (ht := ?_) (hf := ?_); all_goals (intro hx_; first | have := of_decide_eq_true hx_ | have := of_decide_eq_false hx_ | skip)) | (refine cw_cond (ht := ?_) (hf := ?_); all_goals (intro hx_; first | have := of_decide_eq_true hx_ | have := of_decide_eq_false hx_ | skip)))
    refine cw_loop (ι := Kth (c.actsL.length + 1)) (fun i => ⟨[(1, .int .i64 sc), (2, .string g), (3, .pointer (some ⟨b3, 0, none⟩)), (7, .bool true), (8, .int .i64 ((grantF c.actsL sc g (min i.k c.actsL.length)).2 : Nat)), (9, .int .i64 i.k)], [cel b3 40 c.cells], XC c⟩) (fun i => c.actsL.length + 1 - i.k) ⟨0, Nat.zero_le _⟩
      (ok_sub (by repeat (first | exact trivial | refine ⟨rfl, ?_⟩)) (List.Sublist.refl _) fun _ h => h) fun i => ?_
    have hik := i.hk
    repeat' (first | apply sw_nil | apply cw_seq | apply cw_reg | refine sy_move (h := ?_) | refine sy_assign (h := ?_) | refine sy_nilCheck (h := ?_) | refine sy_fld (h := ?_) | refine sy_ld (h := ?_) | refine sy_ldAll (h := ?_) | refine sy_pick_t (h := ?_) | refine sy_pick_f (h := ?_) | refine sy_not (h := ?_) | refine sy_eql (h := ?_) | refine sy_neq (h := ?_) | refine sy_lss (h := ?_) | refine sy_leq (h := ?_) | refine sy_gtr (h := ?_) | refine sy_geq (h := ?_) | refine sy_seql (h := ?_) | refine sy_sneq (h := ?_) | refine sy_slen (h := ?_) | refine sy_len (h := ?_) | refine sy_extract (h := ?_) | refine sy_add (h := ?_) | refine sy_sub (h := ?_) | refine sw_skipT (h := ?_) | refine sw_skipF (h := ?_) | refine sw_skipU (h := ?_) | refine sw_alloc (h := fun _ => ?_) | refine sw_box (h := fun _ => ?_) | refine sw_rangeS (h := fun _ => ?_) | refine sw_nextS (h1 := fun _ => ?_) (h2 := fun _ => ?_) | refine sw_bsl (h := fun _ => ?_) | refine sw_st1 (h := ?_) | refine sw_stAll (h := ?_) | refine cw_cond_t (ht := ?_) | refine cw_cond_f (hf := ?_) | apply cw_skip | apply cw_block | apply cw_ret | apply cw_exit | refine sy_and (h := ?_) | refine sy_or (h := ?_) | refine sy_xor (h := ?_) | refine sy_andNot (h := ?_) | refine sy_xorU (h := ?_) | refine sy_shl (h := ?_) | refine sy_shr (h := ?_) | refine sy_mul (h := ?_) | refine sy_int (h := ?_) | refine sy_beql (h := ?_) | refine sy_bneq (h := ?_) | refine sy_min (h := ?_) | refine sy_max (h := ?_) | refine sy_arrA (h := ?_) | refine sy_strI (h := ?_) | ((fail_if_success (refine sw_chk (h := ?_))); refine sw_guard (ht := ?_) (hf := ?_); all_goals (intro hx_; first | have := of_decide_eq_true hx_ | have := of_decide_eq_false hx_ | skip)) | (refine cw_cond (ht := ?_) (hf := ?_); all_goals (intro hx_; first | have := of_decide_eq_true hx_ | have := of_decide_eq_false hx_ | skip)))
    · have hn : i.k ≤ c.actsL.length := by omega
      have hmin : min i.k c.actsL.length = i.k := by omega
      rw [hmin]
      have hlimN : limN i.k c.actsL.length = i.k := by rw [limN_eq]; omega
      have hgV : grantV c.actsL i.k sc g = grantF c.actsL sc g i.k := by rw [grantV, hlimN]
      have hsp := grantF_spec c.actsL sc g i.k hn
      have hle := grantF_le c.actsL sc g i.k
      have hep := epoch_mk c hc i.k sc g
      have hgr := cgrant_pu c i.k sc g
      rw [epochO, hgV] at hep
      rw [hgV] at hgr
      have hstep : ∀ y, c.actsL[i.k]? = some y → grantF c.actsL sc g (i.k + 1) = bif gOk y sc g (grantF c.actsL sc g i.k).2 then (i.k, (grantF c.actsL sc g i.k).2 + 1) else grantF c.actsL sc g i.k := fun y hy => by simp only [grantF, List.getD_eq_getElem?_getD, hy, Option.getD_some]
      generalize grantF c.actsL sc g i.k = gv at *
      obtain ⟨k, nx⟩ := gv
      simp only at hsp hle hep hgr hstep ⊢
      by_cases hnx : nx = 0
      · subst hnx
        obtain rfl : k = 0 := hsp.1 rfl
        have hep' : Mk Tryz.prog 26 #[c.v, .int .i64 i.k, .int .i64 sc, .string g] (XC c) fun u X => ∃ s : SlV, u = .tuple #[.int .i64 0, s.v, .bool false] ∧ ∀ w, X w → Strs w s [] := hep
        have hgr' : Pu Tryz.prog 29 #[c.v, .int .i64 i.k, .int .i64 sc, .string g] (XC c) (.tuple #[.int .i64 0, .bool false]) := hgr
        refine sw_mk (hc := hep') (hX := fun w h => h) (h := fun v1 X1 h1 => ?_)
        obtain ⟨s1, rfl, hs1⟩ := h1
        refine sw_know (p := s1.n = 0) (fun w h => RowsD.len (hs1 w h.2)) fun hn1 => ?_
        repeat' (first | refine sy_bneV false (hr := by rfl) (h := ?_) | refine sy_gtrF (hab := by omega) (h := ?_) | refine sy_neqF (hab := by omega) (h := ?_) | apply sw_nil | apply cw_seq | apply cw_reg | refine sy_move (h := ?_) | refine sy_assign (h := ?_) | refine sy_nilCheck (h := ?_) | refine sy_fld (h := ?_) | refine sy_ld (h := ?_) | refine sy_ldAll (h := ?_) | refine sy_pick_t (h := ?_) | refine sy_pick_f (h := ?_) | refine sy_not (h := ?_) | refine sy_eql (h := ?_) | refine sy_neq (h := ?_) | refine sy_lss (h := ?_) | refine sy_leq (h := ?_) | refine sy_gtr (h := ?_) | refine sy_geq (h := ?_) | refine sy_seql (h := ?_) | refine sy_sneq (h := ?_) | refine sy_slen (h := ?_) | refine sy_len (h := ?_) | refine sy_extract (h := ?_) | refine sy_add (h := ?_) | refine sy_sub (h := ?_) | refine sw_skipT (h := ?_) | refine sw_skipF (h := ?_) | refine sw_skipU (h := ?_) | refine sw_alloc (h := fun _ => ?_) | refine sw_box (h := fun _ => ?_) | refine sw_rangeS (h := fun _ => ?_) | refine sw_nextS (h1 := fun _ => ?_) (h2 := fun _ => ?_) | refine sw_bsl (h := fun _ => ?_) | refine sw_st1 (h := ?_) | refine sw_stAll (h := ?_) | refine cw_cond_t (ht := ?_) | refine cw_cond_f (hf := ?_) | apply cw_skip | apply cw_block | apply cw_ret | apply cw_exit | refine sy_and (h := ?_) | refine sy_or (h := ?_) | refine sy_xor (h := ?_) | refine sy_andNot (h := ?_) | refine sy_xorU (h := ?_) | refine sy_shl (h := ?_) | refine sy_shr (h := ?_) | refine sy_mul (h := ?_) | refine sy_int (h := ?_) | refine sy_beql (h := ?_) | refine sy_bneq (h := ?_) | refine sy_min (h := ?_) | refine sy_max (h := ?_) | refine sy_arrA (h := ?_) | refine sy_strI (h := ?_) | (refine sw_pu (hc := hgr') (hX := fun w h => h.1) (h := ?_)) | ((fail_if_success (refine sw_chk (h := ?_))); refine sw_guard (ht := ?_) (hf := ?_); all_goals (intro hx_; first | have := of_decide_eq_true hx_ | have := of_decide_eq_false hx_ | skip)) | (refine cw_cond (ht := ?_) (hf := ?_); all_goals (intro hx_; first | have := of_decide_eq_true hx_ | have := of_decide_eq_false hx_ | skip)))
        · have hlt : i.k < c.actsL.length := by omega
          have hp' := hp (by omega)
          obtain ⟨y, hy⟩ : ∃ y, c.actsL[i.k]? = some y := ⟨_, List.getElem?_eq_getElem hlt⟩
          have hst := hstep y hy
          have hmin' : min (i.k + 1) c.actsL.length = i.k + 1 := by omega
          repeat' (first | apply sw_nil | apply cw_seq | apply cw_reg | refine sy_move (h := ?_) | refine sy_assign (h := ?_) | refine sy_nilCheck (h := ?_) | refine sy_fld (h := ?_) | refine sy_ld (h := ?_) | refine sy_ldAll (h := ?_) | refine sy_pick_t (h := ?_) | refine sy_pick_f (h := ?_) | refine sy_not (h := ?_) | refine sy_eql (h := ?_) | refine sy_neq (h := ?_) | refine sy_lss (h := ?_) | refine sy_leq (h := ?_) | refine sy_gtr (h := ?_) | refine sy_geq (h := ?_) | refine sy_seql (h := ?_) | refine sy_sneq (h := ?_) | refine sy_slen (h := ?_) | refine sy_len (h := ?_) | refine sy_extract (h := ?_) | refine sy_add (h := ?_) | refine sy_sub (h := ?_) | refine sw_skipT (h := ?_) | refine sw_skipF (h := ?_) | refine sw_skipU (h := ?_) | refine sw_alloc (h := fun _ => ?_) | refine sw_box (h := fun _ => ?_) | refine sw_rangeS (h := fun _ => ?_) | refine sw_nextS (h1 := fun _ => ?_) (h2 := fun _ => ?_) | refine sw_bsl (h := fun _ => ?_) | refine sw_st1 (h := ?_) | refine sw_stAll (h := ?_) | refine cw_cond_t (ht := ?_) | refine cw_cond_f (hf := ?_) | apply cw_skip | apply cw_block | apply cw_ret | apply cw_exit | refine sy_and (h := ?_) | refine sy_or (h := ?_) | refine sy_xor (h := ?_) | refine sy_andNot (h := ?_) | refine sy_xorU (h := ?_) | refine sy_shl (h := ?_) | refine sy_shr (h := ?_) | refine sy_mul (h := ?_) | refine sy_int (h := ?_) | refine sy_beql (h := ?_) | refine sy_bneq (h := ?_) | refine sy_min (h := ?_) | refine sy_max (h := ?_) | refine sy_arrA (h := ?_) | refine sy_strI (h := ?_) | (refine sy_idxX (q := i.k * 20) (h := ?_)) | (refine sy_fldX (h := ?_)) | (refine sy_ldX (q := i.k * 20 + 3) (u := .int .i64 y.kind) (hF := fun w h => (Acts.get (h.1).1 hy).2.2 3 _ rfl) (h := ?_)) | (refine sy_ldX (q := i.k * 20 + 7) (u := .int .i64 y.scope) (hF := fun w h => (Acts.get (h.1).1 hy).2.2 7 _ rfl) (h := ?_)) | (refine sy_ldX (q := i.k * 20 + 8) (u := .string y.group) (hF := fun w h => (Acts.get (h.1).1 hy).2.2 8 _ rfl) (h := ?_)) | (refine sy_ldX (q := i.k * 20 + 14) (u := .int .i64 y.epoch) (hF := fun w h => (Acts.get (h.1).1 hy).2.2 14 _ rfl) (h := ?_)) | ((fail_if_success (refine sw_chk (h := ?_))); refine sw_guard (ht := ?_) (hf := ?_); all_goals (intro hx_; first | have := of_decide_eq_true hx_ | have := of_decide_eq_false hx_ | skip)) | (refine cw_cond (ht := ?_) (hf := ?_); all_goals (intro hx_; first | have := of_decide_eq_true hx_ | have := of_decide_eq_false hx_ | skip)))
          all_goals exact ⟨(⟨i.k + 1, by omega⟩ : Kth (c.actsL.length + 1)), (by show c.actsL.length + 1 - (i.k + 1) < c.actsL.length + 1 - i.k; omega), ok_sub (by
            simp only [hmin', hst, gOk, *, decide_true, decide_false, cond_true, cond_false, Bool.and_true, Bool.true_and, Bool.and_false, Bool.false_and, Bool.not_true, Bool.not_false, Bool.or_true, Bool.true_or, Bool.or_false, Bool.false_or]
            exact ⟨rfl, rfl, rfl, rfl, rfl, rfl, trivial⟩) (List.Sublist.refl _) fun _ h => h.1⟩
        · have hmin' : min (i.k + 1) c.actsL.length = i.k := by omega
          have hst' : grantF c.actsL sc g (min (i.k + 1) c.actsL.length) = (0, 0) := by rw [hmin', ← hgV, grantV, hlimN]
          exact ⟨(⟨i.k + 1, by omega⟩ : Kth (c.actsL.length + 1)), (by show c.actsL.length + 1 - (i.k + 1) < c.actsL.length + 1 - i.k; omega), ok_sub (by
            simp only [hst']
            exact ⟨rfl, rfl, rfl, rfl, rfl, rfl, trivial⟩) (List.Sublist.refl _) fun _ h => h.1⟩
      · obtain ⟨x, hx, hx1, hx2, hx3, hx4⟩ := hsp.2 (by omega)
        have hkn := hle.2 (by omega)
        have hO : (bif decide ((0 : Int) < (nx : Nat)) then c.actsL[k]? else none) = some x := by rw [decide_eq_true (by omega), cond_true, hx]
        rw [hO] at hep
        have hep' : Mk Tryz.prog 26 #[c.v, .int .i64 i.k, .int .i64 sc, .string g] (XC c) fun u X => ∃ s : SlV, u = .tuple #[.int .i64 x.epoch, s.v, .bool true] ∧ ∀ w, X w → Strs w s x.toL := hep
        rw [decide_eq_true (by omega)] at hgr
        have hp0 := hp (by omega)
        have hkl : k < c.actsL.length := by omega
        have hxm : x ∈ c.actsL := List.mem_of_getElem? hx
        refine sw_mk (hc := hep') (hX := fun w h => h) (h := fun v1 X1 h1 => ?_)
        obtain ⟨s1, rfl, hs1⟩ := h1
        have hsa : Pu Tryz.prog 30 #[x.to.v, s1.v] (fun w => Strs w x.to x.toL ∧ Strs w s1 x.toL) (.bool true) := by
          have := same21_pu x.to s1 x.toL x.toL
          rw [eqL_refl] at this
          exact this
        repeat' (first | refine sy_bneV false (hr := by rfl) (h := ?_) | refine sy_gtrT (hab := by omega) (h := ?_) | refine sy_geqF (hab := by omega) (h := ?_) | refine sy_neqF (hab := by omega) (h := ?_) | apply sw_nil | apply cw_seq | apply cw_reg | refine sy_move (h := ?_) | refine sy_assign (h := ?_) | refine sy_nilCheck (h := ?_) | refine sy_fld (h := ?_) | refine sy_ld (h := ?_) | refine sy_ldAll (h := ?_) | refine sy_pick_t (h := ?_) | refine sy_pick_f (h := ?_) | refine sy_not (h := ?_) | refine sy_eql (h := ?_) | refine sy_neq (h := ?_) | refine sy_lss (h := ?_) | refine sy_leq (h := ?_) | refine sy_gtr (h := ?_) | refine sy_geq (h := ?_) | refine sy_seql (h := ?_) | refine sy_sneq (h := ?_) | refine sy_slen (h := ?_) | refine sy_len (h := ?_) | refine sy_extract (h := ?_) | refine sy_add (h := ?_) | refine sy_sub (h := ?_) | refine sw_skipT (h := ?_) | refine sw_skipF (h := ?_) | refine sw_skipU (h := ?_) | refine sw_alloc (h := fun _ => ?_) | refine sw_box (h := fun _ => ?_) | refine sw_rangeS (h := fun _ => ?_) | refine sw_nextS (h1 := fun _ => ?_) (h2 := fun _ => ?_) | refine sw_bsl (h := fun _ => ?_) | refine sw_st1 (h := ?_) | refine sw_stAll (h := ?_) | refine cw_cond_t (ht := ?_) | refine cw_cond_f (hf := ?_) | apply cw_skip | apply cw_block | apply cw_ret | apply cw_exit | refine sy_and (h := ?_) | refine sy_or (h := ?_) | refine sy_xor (h := ?_) | refine sy_andNot (h := ?_) | refine sy_xorU (h := ?_) | refine sy_shl (h := ?_) | refine sy_shr (h := ?_) | refine sy_mul (h := ?_) | refine sy_int (h := ?_) | refine sy_beql (h := ?_) | refine sy_bneq (h := ?_) | refine sy_min (h := ?_) | refine sy_max (h := ?_) | refine sy_arrA (h := ?_) | refine sy_strI (h := ?_) | (refine sw_pu (hc := hgr) (hX := fun w h => h.1) (h := ?_)) | (refine sy_idxX (q := k * 20) (h := ?_)) | (refine sy_ldXs (cs := x.cells) (hF := fun w h => Acts.get h.1.1 hx) (h := ?_)) | (refine sw_pu (hc := hsa) (hX := fun w h => ⟨(h.1.1.2 x hxm).1, hs1 w h.2⟩) (h := ?_)) | ((fail_if_success (refine sw_chk (h := ?_))); refine sw_guard (ht := ?_) (hf := ?_); all_goals (intro hx_; first | have := of_decide_eq_true hx_ | have := of_decide_eq_false hx_ | skip)) | (refine cw_cond (ht := ?_) (hf := ?_); all_goals (intro hx_; first | have := of_decide_eq_true hx_ | have := of_decide_eq_false hx_ | skip)))
        · rw [hx3] at hx_; exact absurd hx_ (by decide)
        · have hlt : i.k < c.actsL.length := by omega
          have hp' := hp (by omega)
          obtain ⟨y, hy⟩ : ∃ y, c.actsL[i.k]? = some y := ⟨_, List.getElem?_eq_getElem hlt⟩
          have hst := hstep y hy
          have hmin' : min (i.k + 1) c.actsL.length = i.k + 1 := by omega
          have hnb := hle.1
          clear hep hgr hO hep' hsp hle hx1 hx2 hx3 hx4 hstep hlimN hgV hs hsh hr ht hc hx hxm hs1 hsa hkl hkn hnx hmin
          repeat' (first | apply sw_nil | apply cw_seq | apply cw_reg | refine sy_move (h := ?_) | refine sy_assign (h := ?_) | refine sy_nilCheck (h := ?_) | refine sy_fld (h := ?_) | refine sy_ld (h := ?_) | refine sy_ldAll (h := ?_) | refine sy_pick_t (h := ?_) | refine sy_pick_f (h := ?_) | refine sy_not (h := ?_) | refine sy_eql (h := ?_) | refine sy_neq (h := ?_) | refine sy_lss (h := ?_) | refine sy_leq (h := ?_) | refine sy_gtr (h := ?_) | refine sy_geq (h := ?_) | refine sy_seql (h := ?_) | refine sy_sneq (h := ?_) | refine sy_slen (h := ?_) | refine sy_len (h := ?_) | refine sy_extract (h := ?_) | refine sy_add (h := ?_) | refine sy_sub (h := ?_) | refine sw_skipT (h := ?_) | refine sw_skipF (h := ?_) | refine sw_skipU (h := ?_) | refine sw_alloc (h := fun _ => ?_) | refine sw_box (h := fun _ => ?_) | refine sw_rangeS (h := fun _ => ?_) | refine sw_nextS (h1 := fun _ => ?_) (h2 := fun _ => ?_) | refine sw_bsl (h := fun _ => ?_) | refine sw_st1 (h := ?_) | refine sw_stAll (h := ?_) | refine cw_cond_t (ht := ?_) | refine cw_cond_f (hf := ?_) | apply cw_skip | apply cw_block | apply cw_ret | apply cw_exit | refine sy_and (h := ?_) | refine sy_or (h := ?_) | refine sy_xor (h := ?_) | refine sy_andNot (h := ?_) | refine sy_xorU (h := ?_) | refine sy_shl (h := ?_) | refine sy_shr (h := ?_) | refine sy_mul (h := ?_) | refine sy_int (h := ?_) | refine sy_beql (h := ?_) | refine sy_bneq (h := ?_) | refine sy_min (h := ?_) | refine sy_max (h := ?_) | refine sy_arrA (h := ?_) | refine sy_strI (h := ?_) | (refine sy_idxX (q := i.k * 20) (h := ?_)) | (refine sy_fldX (h := ?_)) | (refine sy_ldX (q := i.k * 20 + 3) (u := .int .i64 y.kind) (hF := fun w h => (Acts.get (h.1).1 hy).2.2 3 _ rfl) (h := ?_)) | (refine sy_ldX (q := i.k * 20 + 7) (u := .int .i64 y.scope) (hF := fun w h => (Acts.get (h.1).1 hy).2.2 7 _ rfl) (h := ?_)) | (refine sy_ldX (q := i.k * 20 + 8) (u := .string y.group) (hF := fun w h => (Acts.get (h.1).1 hy).2.2 8 _ rfl) (h := ?_)) | (refine sy_ldX (q := i.k * 20 + 14) (u := .int .i64 y.epoch) (hF := fun w h => (Acts.get (h.1).1 hy).2.2 14 _ rfl) (h := ?_)) | ((fail_if_success (refine sw_chk (h := ?_))); refine sw_guard (ht := ?_) (hf := ?_); all_goals (intro hx_; first | have := of_decide_eq_true hx_ | have := of_decide_eq_false hx_ | skip)) | (refine cw_cond (ht := ?_) (hf := ?_); all_goals (intro hx_; first | have := of_decide_eq_true hx_ | have := of_decide_eq_false hx_ | skip)))
          all_goals first
            | (have hgo : gOk y sc g nx = true := by
                 simp only [gOk, Bool.and_eq_true, decide_eq_true_eq]
                 exact ⟨⟨⟨by omega, by omega⟩, by assumption⟩, by omega⟩
               exact ⟨(⟨i.k + 1, by omega⟩ : Kth (c.actsL.length + 1)), (by show c.actsL.length + 1 - (i.k + 1) < c.actsL.length + 1 - i.k; omega), ok_sub (by
                simp only [hmin', hst, hgo, cond_true]
                exact ⟨rfl, rfl, rfl, rfl, rfl, rfl, trivial⟩) (List.Sublist.cons _ (List.Sublist.refl _)) fun _ h => h.1⟩)
            | (have hgo : gOk y sc g nx = false := by
                 simp only [gOk, Bool.and_eq_false_iff, decide_eq_false_iff_not]
                 first
                   | exact .inr (by omega)
                   | exact .inl (.inr (by assumption))
                   | exact .inl (.inl (.inr (by omega)))
                   | exact .inl (.inl (.inl (by omega)))
               exact ⟨(⟨i.k + 1, by omega⟩ : Kth (c.actsL.length + 1)), (by show c.actsL.length + 1 - (i.k + 1) < c.actsL.length + 1 - i.k; omega), ok_sub (by
                simp only [hmin', hst, hgo, cond_false]
                exact ⟨rfl, rfl, rfl, rfl, rfl, rfl, trivial⟩) (List.Sublist.cons _ (List.Sublist.refl _)) fun _ h => h.1⟩)
        · have hmin' : min (i.k + 1) c.actsL.length = i.k := by omega
          have hst' : grantF c.actsL sc g (min (i.k + 1) c.actsL.length) = (k, nx) := by rw [hmin', ← hgV, grantV, hlimN]
          exact ⟨(⟨i.k + 1, by omega⟩ : Kth (c.actsL.length + 1)), (by show c.actsL.length + 1 - (i.k + 1) < c.actsL.length + 1 - i.k; omega), ok_sub (by
            simp only [hst']
            exact ⟨rfl, rfl, rfl, rfl, rfl, rfl, trivial⟩) (List.Sublist.cons _ (List.Sublist.refl _)) fun _ h => h.1⟩
    · apply ends_ret; apply res_tmp; rfl; rfl
      rfl
end Go.Proofs.YtfpojkoddcdojaaGreatDoor
