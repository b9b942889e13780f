/- Joined by program (wip/dev/merge.py) out of: Ld Lk Lj Lo Lq. -/
import Derived.Test.YtfpojkoddcdojaaGreatDoorMf
import Derived.Laws.StructEq
/- Listings and entries (package lists): the data, their equality; better; Has; Same. -/
set_option linter.unusedVariables false
set_option linter.unusedSimpArgs false
namespace Go.Proofs.YtfpojkoddcdojaaGreatDoor
open Go Go.Proofs Sy
structure ListD where
  actor : ByteArray
  reason : ByteArray
  by_ : ByteArray
  until_ : Int
def ListD.cells (a : ListD) : List Value := [.string a.actor, .string a.reason, .string a.by_, .int .i64 a.until_]
def ListD.v (a : ListD) : Value := .agg a.cells.toArray
structure EntD where
  l : ListD
  at_ : Int
def EntD.cells (a : EntD) : List Value := [.string a.l.actor, .string a.l.reason, .string a.l.by_, .int .i64 a.l.until_, .int .i64 a.at_]
def EntD.v (a : EntD) : Value := .agg a.cells.toArray
def eqLD (a b : ListD) : Bool := seqB a.actor b.actor && (seqB a.reason b.reason && (seqB a.by_ b.by_ && decide (a.until_ = b.until_)))
def eqED (a b : EntD) : Bool := eqLD a.l b.l && decide (a.at_ = b.at_)
theorem eqLD_iff {a b : ListD} : eqLD a b = true ↔ a = b := by
  cases a; cases b
  simp only [eqLD, Bool.and_eq_true, seqB_iff, decide_eq_true_eq, ListD.mk.injEq]
theorem eqED_iff {a b : EntD} : eqED a b = true ↔ a = b := by
  cases a; cases b
  simp only [eqED, Bool.and_eq_true, eqLD_iff, decide_eq_true_eq, EntD.mk.injEq]
theorem run_partS (w : World) {cs : Array Value} {off : Nat} {v : Value} (h : cs[off]? = some v) : (part 9 cs off).run Tryz.prog w = .ok v w := by
  simp [part, isAgg, run_underlying Tryz.underlying9, h]
theorem run_partI (w : World) {cs : Array Value} {off : Nat} {v : Value} (h : cs[off]? = some v) : (part 3 cs off).run Tryz.prog w = .ok v w := by
  simp [part, isAgg, run_underlying Tryz.underlying3, h]
theorem eqS_run (w : World) (d : Nat) (a b : ByteArray) : (Op.equalIn (d + 1) 9 (.string a) (.string b)).run Tryz.prog w = .ok (seqB a b) w := run_equalIn_string w d _ a b Tryz.underlying9
theorem eqI_run (w : World) (d : Nat) (a b : Int) : (Op.equalIn (d + 1) 3 (.int .i64 a) (.int .i64 b)).run Tryz.prog w = .ok (decide (a = b)) w := by
  rw [run_equalIn_int w d _ .i64 .i64 a b Tryz.underlying3]
  rfl
theorem run_eqLD (w : World) (d : Nat) (a b : ListD) : (Op.equalIn (d + 2) 30 a.v b.v).run Tryz.prog w = .ok (eqLD a b) w := by
  have p0 : ∀ x : ListD, (part 9 x.cells.toArray 0).run Tryz.prog w = .ok (.string x.actor) w := fun x => run_partS w rfl
  have p1 : ∀ x : ListD, (part 9 x.cells.toArray 1).run Tryz.prog w = .ok (.string x.reason) w := fun x => run_partS w rfl
  have p2 : ∀ x : ListD, (part 9 x.cells.toArray 2).run Tryz.prog w = .ok (.string x.by_) w := fun x => run_partS w rfl
  have p3 : ∀ x : ListD, (part 3 x.cells.toArray 3).run Tryz.prog w = .ok (.int .i64 x.until_) w := fun x => run_partI w rfl
  unfold ListD.v
  rw [run_equalIn_agg _ _ _ _ _ (by kernel_rfl) (by kernel_rfl)]
  simp only [Program.fieldsOf, Tryz.underlying30]
  simp [Op.eqFields, p0, p1, p2, p3, eqS_run, eqI_run]
  unfold eqLD
  cases seqB a.actor b.actor <;> cases seqB a.reason b.reason <;> cases seqB a.by_ b.by_ <;> by_cases h : a.until_ = b.until_ <;> simp [h]
theorem run_eqED (w : World) (d : Nat) (a b : EntD) : (Op.equalIn (d + 3) 80 a.v b.v).run Tryz.prog w = .ok (eqED a b) w := by
  have p0 : ∀ x : EntD, (part 30 x.cells.toArray 0).run Tryz.prog w = .ok x.l.v w := fun x => by
    have hs : (sizeOf 30).run Tryz.prog w = .ok 4 w := Sy.run_sizeOf (P := Tryz.prog) (t := 30) (n := 4) (by kernel_rfl) w
    simp [part, isAgg, run_underlying Tryz.underlying30, hs]
    rfl
  have p4 : ∀ x : EntD, (part 3 x.cells.toArray 4).run Tryz.prog w = .ok (.int .i64 x.at_) w := fun x => run_partI w rfl
  unfold EntD.v
  rw [run_equalIn_agg _ _ _ _ _ (by kernel_rfl) (by kernel_rfl)]
  simp only [Program.fieldsOf, Tryz.underlying80]
  have hl := fun w => run_eqLD w d a.l b.l
  simp [Op.eqFields, p0, p4, eqI_run, hl]
  unfold eqED
  cases eqLD a.l b.l <;> by_cases h : a.at_ = b.at_ <;> simp [h]
section
variable {N : Nat} {av bor : List Nat} {w0 : World} {ops : Array Oper} {rest : List Oper} {k : St → Prop} {E : Env} {loc : List Res} {X : World → Prop} {x y : Operand} {t2 : TypeId}
variable {n : Nat} {ty : TypeId} {pos : String} {af : Array Edge} {g : Option (Nat × Bool)} {bb want : Bool} {st : St}
theorem y_eqLD (a b : ListD) (hx : ev st.env x = some a.v) (hy : ev st.env y = some b.v) : Sy.Yields Tryz.prog N av bor w0 st (.binOp .eql 30 x y t2) ty (.bool (eqLD a b)) := Sy.Yields.mk fun A w ok d pos af g => by
  have h1 := run_eqGuard_agg (P := Tryz.prog) w .eql 30 x y a.cells.toArray b.cells.toArray (by kernel_rfl)
  have h2 := run_eql_struct (P := Tryz.prog) w 30 a.cells.toArray b.cells.toArray
  have h3 := run_eqLD w 9998 a b
  simp only [ListD.v] at hx hy h3
  simp [execOp, ok.eval hx, ok.eval hy, h1, h2, h3]
theorem y_neqLD (a b : ListD) (hx : ev st.env x = some a.v) (hy : ev st.env y = some b.v) : Sy.Yields Tryz.prog N av bor w0 st (.binOp .neq 30 x y t2) ty (.bool (!eqLD a b)) := Sy.Yields.mk fun A w ok d pos af g => by
  have h1 := run_eqGuard_agg (P := Tryz.prog) w .neq 30 x y a.cells.toArray b.cells.toArray (by kernel_rfl)
  have h2 := run_neq_struct (P := Tryz.prog) w 30 a.cells.toArray b.cells.toArray
  have h3 := run_eqLD w 9998 a b
  simp only [ListD.v] at hx hy h3
  simp [execOp, ok.eval hx, ok.eval hy, h1, h2, h3]
theorem y_neqED (a b : EntD) (hx : ev st.env x = some a.v) (hy : ev st.env y = some b.v) : Sy.Yields Tryz.prog N av bor w0 st (.binOp .neq 80 x y t2) ty (.bool (!eqED a b)) := Sy.Yields.mk fun A w ok d pos af g => by
  have h1 := run_eqGuard_agg (P := Tryz.prog) w .neq 80 x y a.cells.toArray b.cells.toArray (by kernel_rfl)
  have h2 := run_neq_struct (P := Tryz.prog) w 80 a.cells.toArray b.cells.toArray
  have h3 := run_eqED w 9997 a b
  simp only [EntD.v] at hx hy h3
  simp [execOp, ok.eval hx, ok.eval hy, h1, h2, h3]
theorem sy_eqLD (a b : ListD) (hx : ev E x = some a.v := by rfl) (hy : ev E y = some b.v := by rfl) (hg : gdB ops E g = some (bb, want) := by rfl) (hbb : bb = want := by (first | with_reducible rfl | with_reducible assumption | with_reducible exact Bool.not_false | with_reducible exact Bool.not_true)) (hd : Nat.blt n N = true := by rfl) (h : Sw Tryz.prog N av bor w0 ops rest ⟨(n, .bool (eqLD a b)) :: E, loc, X⟩ k) :
    Sw Tryz.prog N av bor w0 ops (⟨some n, .binOp .eql 30 x y t2, ty, pos, af, g⟩ :: rest) ⟨E, loc, X⟩ k := sw_yield (y_eqLD a b hx hy) hg hbb hd h
theorem sy_neqLD (a b : ListD) (hx : ev E x = some a.v := by rfl) (hy : ev E y = some b.v := by rfl) (hg : gdB ops E g = some (bb, want) := by rfl) (hbb : bb = want := by (first | with_reducible rfl | with_reducible assumption | with_reducible exact Bool.not_false | with_reducible exact Bool.not_true)) (hd : Nat.blt n N = true := by rfl) (h : Sw Tryz.prog N av bor w0 ops rest ⟨(n, .bool (!eqLD a b)) :: E, loc, X⟩ k) :
    Sw Tryz.prog N av bor w0 ops (⟨some n, .binOp .neq 30 x y t2, ty, pos, af, g⟩ :: rest) ⟨E, loc, X⟩ k := sw_yield (y_neqLD a b hx hy) hg hbb hd h
theorem sy_neqED (a b : EntD) (hx : ev E x = some a.v := by rfl) (hy : ev E y = some b.v := by rfl) (hg : gdB ops E g = some (bb, want) := by rfl) (hbb : bb = want := by (first | with_reducible rfl | with_reducible assumption | with_reducible exact Bool.not_false | with_reducible exact Bool.not_true)) (hd : Nat.blt n N = true := by rfl) (h : Sw Tryz.prog N av bor w0 ops rest ⟨(n, .bool (!eqED a b)) :: E, loc, X⟩ k) :
    Sw Tryz.prog N av bor w0 ops (⟨some n, .binOp .neq 80 x y t2, ty, pos, af, g⟩ :: rest) ⟨E, loc, X⟩ k := sw_yield (y_neqED a b hx hy) hg hbb hd h
end
/-- An entry is better than another one for the same actor. -/
def betV (a b : EntD) : Bool := bif !decide (a.l.until_ = b.l.until_) then decide (b.l.until_ < a.l.until_) else bif !seqB a.l.by_ b.l.by_ then ltB a.l.by_ b.l.by_ else decide (b.at_ < a.at_)
theorem better_pu (a b : EntD) : Pu Tryz.prog 38 #[a.v, b.v] (fun _ => True) (.bool (betV a b)) := by
  refine pu_of_cw (args := [_, _]) _ Tryz.func38 rfl Tryz.ntmps38 rfl fun av bor w0 => ?_
  repeat' (first | apply sw_nil | apply cw_seq | apply cw_reg | refine sy_move (h := ?_) | refine sy_assign (h := ?_) | refine sy_nilCheck (h := ?_) | refine sy_fld (h := ?_) | refine sy_ld (h := ?_) | refine sy_ldAll (h := ?_) | refine sy_pick_t (h := ?_) | refine sy_pick_f (h := ?_) | refine sy_not (h := ?_) | refine sy_eql (h := ?_) | refine sy_neq (h := ?_) | refine sy_lss (h := ?_) | refine sy_leq (h := ?_) | refine sy_gtr (h := ?_) | refine sy_geq (h := ?_) | refine sy_seql (h := ?_) | refine sy_sneq (h := ?_) | refine sy_slen (h := ?_) | refine sy_len (h := ?_) | refine sy_extract (h := ?_) | refine sy_add (h := ?_) | refine sy_sub (h := ?_) | refine sw_skipT (h := ?_) | refine sw_skipF (h := ?_) | refine sw_skipU (h := ?_) | refine sw_alloc (h := fun _ => ?_) | refine sw_box (h := fun _ => ?_) | refine sw_rangeS (h := fun _ => ?_) | refine sw_nextS (h1 := fun _ => ?_) (h2 := fun _ => ?_) | refine sw_bsl (h := fun _ => ?_) | refine sw_st1 (h := ?_) | refine sw_stAll (h := ?_) | refine cw_cond_t (ht := ?_) | refine cw_cond_f (hf := ?_) | apply cw_skip | apply cw_block | apply cw_ret | apply cw_exit | refine sy_and (h := ?_) | refine sy_or (h := ?_) | refine sy_xor (h := ?_) | refine sy_andNot (h := ?_) | refine sy_xorU (h := ?_) | refine sy_shl (h := ?_) | refine sy_shr (h := ?_) | refine sy_mul (h := ?_) | refine sy_int (h := ?_) | refine sy_beql (h := ?_) | refine sy_bneq (h := ?_) | refine sy_min (h := ?_) | refine sy_max (h := ?_) | refine sy_arrA (h := ?_) | refine sy_strI (h := ?_) | (refine sy_slss (h := ?_)) | ((fail_if_success (refine sw_chk (h := ?_))); refine sw_guard (ht := ?_) (hf := ?_); all_goals (intro hx_; first | have := of_decide_eq_true hx_ | have := of_decide_eq_false hx_ | skip)) | (refine cw_cond (ht := ?_) (hf := ?_); all_goals (intro hx_; first | have := of_decide_eq_true hx_ | have := of_decide_eq_false hx_ | skip)))
  all_goals
    apply ends_ret; apply res_tmp; rfl; rfl
    first | (simp only [betV, *, decide_true, decide_false, cond_true, cond_false, Bool.and_true, Bool.true_and, Bool.and_false, Bool.false_and, Bool.not_true, Bool.not_false, Bool.or_true, Bool.true_or, Bool.or_false, Bool.false_or]; done) | (simp only [betV, *, decide_true, decide_false, cond_true, cond_false, Bool.and_true, Bool.true_and, Bool.and_false, Bool.false_and, Bool.not_true, Bool.not_false, Bool.or_true, Bool.true_or, Bool.or_false, Bool.false_or]; rfl)
end Go.Proofs.YtfpojkoddcdojaaGreatDoor

/- Sorted keys of the maps of package lists; Has, Same, few. -/
set_option linter.unusedVariables false
set_option linter.unusedSimpArgs false
namespace Go.Proofs.YtfpojkoddcdojaaGreatDoor
open Go Go.Proofs Sy Go.Shelf Go.Maps Go.Sort
instance : TyMap Tryz.prog 102 80 (keyD Int) := ⟨by kernel_rfl⟩
instance : TyMap Tryz.prog 75 80 (keyD ByteArray) := ⟨by kernel_rfl⟩
instance : TyMap Tryz.prog 76 4 (keyD ByteArray) := ⟨by kernel_rfl⟩
theorem keysEI_c : KeysC Tryz.prog 56 72 102 where
  keys := fun mb W => (callsIn_wide (n := 5)).1 (AnyZI.keys_in Tryz.keys_map_int_agora_lists_entry_int_agora_lists_entry Fence.wide 5 trivial rfl mb W)
theorem sortedEI_c : SortedIC Tryz.prog 55 72 3 where
  key := Tryz.underlying3
  sorted := fun w Bm q nn D0 hB hc hown h1 h2 => (callsIn_wide (n := 5)).1 (AnyZI.sorted_in Tryz.sortedI Fence.wide 5 trivial trivial trivial trivial rfl (by omega) (sortsI _) (enters_of Tryz.func71 (by kernel_rfl) rfl) _ _ trivial (enters_of Tryz.func72 (by kernel_rfl) rfl) _ _ h1 h2 _
    (AnyZI.keys_gives (ρ := Tryz.keys_map_int_agora_lists_entry_int_agora_lists_entry_ren) { Tryz.keys_map_int_agora_lists_entry_int_agora_lists_entry with } Fence.wide _ trivial rfl (by omega) Bm q nn D0 w hB hc hown))
theorem keysES_c : KeysC Tryz.prog 40 58 75 where
  keys := fun mb W => (callsIn_wide (n := 5)).1 (AnyZ.keys_in Tryz.keys_map_string_agora_lists_entry_string_agora_lists_entry Fence.wide 5 trivial rfl mb W)
theorem sortedES_c : SortedSC Tryz.prog 39 58 9 where
  key := Tryz.underlying9
  sorted := fun w Bm q nn D0 hB hc hown h1 h2 => (callsIn_wide (n := 5)).1 (AnyZ.sorted_in Tryz.sortedS Fence.wide 5 trivial trivial trivial trivial rfl (by omega) (sortsS _) (enters_of Tryz.func51 (by kernel_rfl) rfl) _ _ trivial (enters_of Tryz.func58 (by kernel_rfl) rfl) _ _ h1 h2 _
    (AnyZ.keys_gives (ρ := Tryz.keys_map_string_agora_lists_entry_string_agora_lists_entry_ren) { Tryz.keys_map_string_agora_lists_entry_string_agora_lists_entry with } Fence.wide _ trivial rfl (by omega) Bm q nn D0 w hB hc hown))
/-! listings in slices -/
def ListD.zero : ListD := ⟨⟨#[]⟩, ⟨#[]⟩, ⟨#[]⟩, 0⟩
def Lists (w : World) (s : SlV) (l : List ListD) : Prop := RowsD w 4 s (l.map ListD.cells)
def Ents (w : World) (s : SlV) (l : List EntD) : Prop := RowsD w 5 s (l.map EntD.cells)
theorem Lists.len_ {w : World} {s : SlV} {l : List ListD} (h : Lists w s l) : s.n = l.length := by have := RowsD.len h; simpa using this
theorem Lists.know {s : SlV} {l : List ListD} : ∀ w, Lists w s l → s.n = l.length ∧ s.n ≤ maxLen ∧ (0 < l.length → s.p.isSome = true) := fun w h =>
  ⟨h.len_, Nat.le_trans (RowsD.cap h) (RowsD.max h), fun hl => (RowsD.row h 0 l[0].cells (by simp [List.getElem?_eq_getElem hl])).2.1⟩
theorem Lists.get {w : World} {s : SlV} {l : List ListD} (h : Lists w s l) {i : Nat} {x : ListD} (hx : l[i]? = some x) : x.cells.length = 4 ∧ s.p.isSome = true ∧ ∀ j u, x.cells[j]? = some u → CellAt w s.p (i * 4 + j) u :=
  RowsD.row h i x.cells (by simp [hx])
theorem Ents.know {s : SlV} {l : List EntD} : ∀ w, Ents w s l → s.n = l.length ∧ s.n ≤ maxLen ∧ (0 < l.length → s.p.isSome = true) := fun w h =>
  ⟨by have := RowsD.len h; simpa using this, Nat.le_trans (RowsD.cap h) (RowsD.max h), fun hl => (RowsD.row h 0 l[0].cells (by simp [List.getElem?_eq_getElem hl])).2.1⟩
theorem Ents.get {w : World} {s : SlV} {l : List EntD} (h : Ents w s l) {i : Nat} {x : EntD} (hx : l[i]? = some x) : x.cells.length = 5 ∧ s.p.isSome = true ∧ ∀ j u, x.cells[j]? = some u → CellAt w s.p (i * 5 + j) u :=
  RowsD.row h i x.cells (by simp [hx])
def hasL (l : List ListD) (a : ByteArray) : Option ListD := l.find? fun e => seqB e.actor a
def hasP (o : Option ListD) : Value := .tuple #[(o.getD ListD.zero).v, .bool o.isSome]
def badL (l : List ListD) (d : ByteArray) (k : Nat) : Bool :=
  match l[k]? with
  | some x => seqB x.actor d
  | none => false
theorem badL_at {l : List ListD} {d : ByteArray} {k : Nat} {x : ListD} (h : l[k]? = some x) : badL l d k = seqB x.actor d := by simp only [badL, h]
theorem hasL_found {l : List ListD} {d : ByteArray} (i : Upto l.length (badL l d)) {x : ListD} (hx : l[i.k]? = some x) (hb : seqB x.actor d = true) : hasL l d = some x :=
  find_at l i.k x hx hb fun j y hj hy => by have := i.ok j hj; rwa [badL_at hy] at this
theorem hasL_none {l : List ListD} {d : ByteArray} (i : Upto l.length (badL l d)) (h : ¬ i.k < l.length) : hasL l d = none := by
  rw [hasL, List.find?_eq_none]
  intro x hx
  obtain ⟨k, hk, rfl⟩ := List.getElem_of_mem hx
  have := i.ok k (by omega)
  rw [badL_at (List.getElem?_eq_getElem hk)] at this
  simp [this]
theorem has_pu (s : SlV) (l : List ListD) (a : ByteArray) : Pu Tryz.prog 15 #[s.v, .string a] (fun w => Lists w s l) (hasP (hasL l a)) := by
  refine pu_of_cw (args := [_, _]) _ Tryz.func15 rfl Tryz.ntmps15 rfl fun av bor w0 => ?_
  refine cw_know Lists.know fun ⟨hl, hm, hp⟩ => ?_
  simp only [maxLen] at hm
  repeat' (first | apply sw_nil | apply cw_seq | apply cw_reg | refine sy_move (h := ?_) | refine sy_assign (h := ?_) | refine sy_nilCheck (h := ?_) | refine sy_fld (h := ?_) | refine sy_ld (h := ?_) | refine sy_ldAll (h := ?_) | refine sy_pick_t (h := ?_) | refine sy_pick_f (h := ?_) | refine sy_not (h := ?_) | refine sy_eql (h := ?_) | refine sy_neq (h := ?_) | refine sy_lss (h := ?_) | refine sy_leq (h := ?_) | refine sy_gtr (h := ?_) | refine sy_geq (h := ?_) | refine sy_seql (h := ?_) | refine sy_sneq (h := ?_) | refine sy_slen (h := ?_) | refine sy_len (h := ?_) | refine sy_extract (h := ?_) | refine sy_add (h := ?_) | refine sy_sub (h := ?_) | refine sw_skipT (h := ?_) | refine sw_skipF (h := ?_) | refine sw_skipU (h := ?_) | refine sw_alloc (h := fun _ => ?_) | refine sw_box (h := fun _ => ?_) | refine sw_rangeS (h := fun _ => ?_) | refine sw_nextS (h1 := fun _ => ?_) (h2 := fun _ => ?_) | refine sw_bsl (h := fun _ => ?_) | refine sw_st1 (h := ?_) | refine sw_stAll (h := ?_) | refine cw_cond_t (ht := ?_) | refine cw_cond_f (hf := ?_) | apply cw_skip | apply cw_block | apply cw_ret | apply cw_exit | refine sy_and (h := ?_) | refine sy_or (h := ?_) | refine sy_xor (h := ?_) | refine sy_andNot (h := ?_) | refine sy_xorU (h := ?_) | refine sy_shl (h := ?_) | refine sy_shr (h := ?_) | refine sy_mul (h := ?_) | refine sy_int (h := ?_) | refine sy_beql (h := ?_) | refine sy_bneq (h := ?_) | refine sy_min (h := ?_) | refine sy_max (h := ?_) | refine sy_arrA (h := ?_) | refine sy_strI (h := ?_))
  rename_i b
  refine cw_loop (ι := Upto l.length (badL l a)) (fun i => ⟨[(1, .string a), (4, .pointer (some ⟨b, 0, none⟩)), (8, s.v), (9, .int .i64 s.n), (10, .int .i64 i.k)], [cel b 30 ListD.zero.cells], fun w => Lists w s l⟩) (fun i => l.length - i.k) (Upto.zero _ _) (ok_sub ⟨rfl, rfl, rfl, rfl, rfl, trivial⟩ (List.Sublist.refl _) fun _ h => h) fun i => ?_
  have hik := i.hk
  repeat' (first | apply sw_nil | apply cw_seq | apply cw_reg | refine sy_move (h := ?_) | refine sy_assign (h := ?_) | refine sy_nilCheck (h := ?_) | refine sy_fld (h := ?_) | refine sy_ld (h := ?_) | refine sy_ldAll (h := ?_) | refine sy_pick_t (h := ?_) | refine sy_pick_f (h := ?_) | refine sy_not (h := ?_) | refine sy_eql (h := ?_) | refine sy_neq (h := ?_) | refine sy_lss (h := ?_) | refine sy_leq (h := ?_) | refine sy_gtr (h := ?_) | refine sy_geq (h := ?_) | refine sy_seql (h := ?_) | refine sy_sneq (h := ?_) | refine sy_slen (h := ?_) | refine sy_len (h := ?_) | refine sy_extract (h := ?_) | refine sy_add (h := ?_) | refine sy_sub (h := ?_) | refine sw_skipT (h := ?_) | refine sw_skipF (h := ?_) | refine sw_skipU (h := ?_) | refine sw_alloc (h := fun _ => ?_) | refine sw_box (h := fun _ => ?_) | refine sw_rangeS (h := fun _ => ?_) | refine sw_nextS (h1 := fun _ => ?_) (h2 := fun _ => ?_) | refine sw_bsl (h := fun _ => ?_) | refine sw_st1 (h := ?_) | refine sw_stAll (h := ?_) | refine cw_cond_t (ht := ?_) | refine cw_cond_f (hf := ?_) | apply cw_skip | apply cw_block | apply cw_ret | apply cw_exit | refine sy_and (h := ?_) | refine sy_or (h := ?_) | refine sy_xor (h := ?_) | refine sy_andNot (h := ?_) | refine sy_xorU (h := ?_) | refine sy_shl (h := ?_) | refine sy_shr (h := ?_) | refine sy_mul (h := ?_) | refine sy_int (h := ?_) | refine sy_beql (h := ?_) | refine sy_bneq (h := ?_) | refine sy_min (h := ?_) | refine sy_max (h := ?_) | refine sy_arrA (h := ?_) | refine sy_strI (h := ?_) | ((fail_if_success (refine sw_chk (h := ?_))); refine sw_guard (ht := ?_) (hf := ?_); all_goals (intro hx_; first | have := of_decide_eq_true hx_ | have := of_decide_eq_false hx_ | skip)) | (refine cw_cond (ht := ?_) (hf := ?_); all_goals (intro hx_; first | have := of_decide_eq_true hx_ | have := of_decide_eq_false hx_ | skip)))
  · have hlt : i.k < l.length := by omega
    have hp' := hp (by omega)
    obtain ⟨x, hx⟩ : ∃ x, l[i.k]? = some x := ⟨_, List.getElem?_eq_getElem hlt⟩
    repeat' (first | apply sw_nil | apply cw_seq | apply cw_reg | refine sy_move (h := ?_) | refine sy_assign (h := ?_) | refine sy_nilCheck (h := ?_) | refine sy_fld (h := ?_) | refine sy_ld (h := ?_) | refine sy_ldAll (h := ?_) | refine sy_pick_t (h := ?_) | refine sy_pick_f (h := ?_) | refine sy_not (h := ?_) | refine sy_eql (h := ?_) | refine sy_neq (h := ?_) | refine sy_lss (h := ?_) | refine sy_leq (h := ?_) | refine sy_gtr (h := ?_) | refine sy_geq (h := ?_) | refine sy_seql (h := ?_) | refine sy_sneq (h := ?_) | refine sy_slen (h := ?_) | refine sy_len (h := ?_) | refine sy_extract (h := ?_) | refine sy_add (h := ?_) | refine sy_sub (h := ?_) | refine sw_skipT (h := ?_) | refine sw_skipF (h := ?_) | refine sw_skipU (h := ?_) | refine sw_alloc (h := fun _ => ?_) | refine sw_box (h := fun _ => ?_) | refine sw_rangeS (h := fun _ => ?_) | refine sw_nextS (h1 := fun _ => ?_) (h2 := fun _ => ?_) | refine sw_bsl (h := fun _ => ?_) | refine sw_st1 (h := ?_) | refine sw_stAll (h := ?_) | refine cw_cond_t (ht := ?_) | refine cw_cond_f (hf := ?_) | apply cw_skip | apply cw_block | apply cw_ret | apply cw_exit | refine sy_and (h := ?_) | refine sy_or (h := ?_) | refine sy_xor (h := ?_) | refine sy_andNot (h := ?_) | refine sy_xorU (h := ?_) | refine sy_shl (h := ?_) | refine sy_shr (h := ?_) | refine sy_mul (h := ?_) | refine sy_int (h := ?_) | refine sy_beql (h := ?_) | refine sy_bneq (h := ?_) | refine sy_min (h := ?_) | refine sy_max (h := ?_) | refine sy_arrA (h := ?_) | refine sy_strI (h := ?_) | (refine sy_idxX (q := i.k * 4) (h := ?_)) | (refine sy_ldXs (cs := x.cells) (hF := fun w h => Lists.get h hx) (h := ?_)) | ((fail_if_success (refine sw_chk (h := ?_))); refine sw_guard (ht := ?_) (hf := ?_); all_goals (intro hx_; first | have := of_decide_eq_true hx_ | have := of_decide_eq_false hx_ | skip)) | (refine cw_cond (ht := ?_) (hf := ?_); all_goals (intro hx_; first | have := of_decide_eq_true hx_ | have := of_decide_eq_false hx_ | skip)))
    · apply ends_ret; refine res_cellTmp rfl rfl rfl (by (repeat (first | exact List.mem_cons_self | apply List.mem_cons_of_mem))) ?_
      · rfl
      rw [hasL_found i hx (by assumption)]
      rfl
    · exact ⟨i.next hlt (by rw [badL_at hx]; assumption), (by show l.length - (i.k + 1) < l.length - i.k; omega), ok_sub ⟨rfl, rfl, rfl, rfl, rfl, trivial⟩ (List.Sublist.cons _ (List.Sublist.refl _)) fun _ h => h⟩
  · repeat' (first | apply sw_nil | apply cw_seq | apply cw_reg | refine sy_move (h := ?_) | refine sy_assign (h := ?_) | refine sy_nilCheck (h := ?_) | refine sy_fld (h := ?_) | refine sy_ld (h := ?_) | refine sy_ldAll (h := ?_) | refine sy_pick_t (h := ?_) | refine sy_pick_f (h := ?_) | refine sy_not (h := ?_) | refine sy_eql (h := ?_) | refine sy_neq (h := ?_) | refine sy_lss (h := ?_) | refine sy_leq (h := ?_) | refine sy_gtr (h := ?_) | refine sy_geq (h := ?_) | refine sy_seql (h := ?_) | refine sy_sneq (h := ?_) | refine sy_slen (h := ?_) | refine sy_len (h := ?_) | refine sy_extract (h := ?_) | refine sy_add (h := ?_) | refine sy_sub (h := ?_) | refine sw_skipT (h := ?_) | refine sw_skipF (h := ?_) | refine sw_skipU (h := ?_) | refine sw_alloc (h := fun _ => ?_) | refine sw_box (h := fun _ => ?_) | refine sw_rangeS (h := fun _ => ?_) | refine sw_nextS (h1 := fun _ => ?_) (h2 := fun _ => ?_) | refine sw_bsl (h := fun _ => ?_) | refine sw_st1 (h := ?_) | refine sw_stAll (h := ?_) | refine cw_cond_t (ht := ?_) | refine cw_cond_f (hf := ?_) | apply cw_skip | apply cw_block | apply cw_ret | apply cw_exit | refine sy_and (h := ?_) | refine sy_or (h := ?_) | refine sy_xor (h := ?_) | refine sy_andNot (h := ?_) | refine sy_xorU (h := ?_) | refine sy_shl (h := ?_) | refine sy_shr (h := ?_) | refine sy_mul (h := ?_) | refine sy_int (h := ?_) | refine sy_beql (h := ?_) | refine sy_bneq (h := ?_) | refine sy_min (h := ?_) | refine sy_max (h := ?_) | refine sy_arrA (h := ?_) | refine sy_strI (h := ?_) | (refine sy_build (h := ?_)))
    apply ends_ret; refine res_cellTmp rfl rfl rfl (by (repeat (first | exact List.mem_cons_self | apply List.mem_cons_of_mem))) ?_
    · rfl
    rw [hasL_none i (by omega)]
    rfl
def eqBadL (l m : List ListD) (k : Nat) : Bool := !eqLD (l.getD k ListD.zero) (m.getD k ListD.zero)
def eqLL (l m : List ListD) : Bool := decide (l.length = m.length) && allB l.length (eqBadL l m)
theorem eqLL_refl (l : List ListD) : eqLL l l = true := by
  rw [eqLL, decide_eq_true rfl, Bool.true_and]
  refine allB_true fun j hj => ?_
  simp only [eqBadL, eqLD_iff.2 rfl, Bool.not_true]
theorem same37_pu (s r : SlV) (l m : List ListD) : Pu Tryz.prog 14 #[s.v, r.v] (fun w => Lists w s l ∧ Lists w r m) (.bool (eqLL l m)) := by
  refine pu_of_cw (args := [_, _]) _ Tryz.func14 rfl Tryz.ntmps14 rfl fun av bor w0 => ?_
  refine cw_know (fun w h => And.intro (Lists.know w h.1) (Lists.know w h.2)) fun ⟨⟨hl, hm, hp⟩, ⟨hl', hm', hp'⟩⟩ => ?_
  simp only [maxLen] at hm hm'
  repeat' (first | apply sw_nil | apply cw_seq | apply cw_reg | refine sy_move (h := ?_) | refine sy_assign (h := ?_) | refine sy_nilCheck (h := ?_) | refine sy_fld (h := ?_) | refine sy_ld (h := ?_) | refine sy_ldAll (h := ?_) | refine sy_pick_t (h := ?_) | refine sy_pick_f (h := ?_) | refine sy_not (h := ?_) | refine sy_eql (h := ?_) | refine sy_neq (h := ?_) | refine sy_lss (h := ?_) | refine sy_leq (h := ?_) | refine sy_gtr (h := ?_) | refine sy_geq (h := ?_) | refine sy_seql (h := ?_) | refine sy_sneq (h := ?_) | refine sy_slen (h := ?_) | refine sy_len (h := ?_) | refine sy_extract (h := ?_) | refine sy_add (h := ?_) | refine sy_sub (h := ?_) | refine sw_skipT (h := ?_) | refine sw_skipF (h := ?_) | refine sw_skipU (h := ?_) | refine sw_alloc (h := fun _ => ?_) | refine sw_box (h := fun _ => ?_) | refine sw_rangeS (h := fun _ => ?_) | refine sw_nextS (h1 := fun _ => ?_) (h2 := fun _ => ?_) | refine sw_bsl (h := fun _ => ?_) | refine sw_st1 (h := ?_) | refine sw_stAll (h := ?_) | refine cw_cond_t (ht := ?_) | refine cw_cond_f (hf := ?_) | apply cw_skip | apply cw_block | apply cw_ret | apply cw_exit | refine sy_and (h := ?_) | refine sy_or (h := ?_) | refine sy_xor (h := ?_) | refine sy_andNot (h := ?_) | refine sy_xorU (h := ?_) | refine sy_shl (h := ?_) | refine sy_shr (h := ?_) | refine sy_mul (h := ?_) | refine sy_int (h := ?_) | refine sy_beql (h := ?_) | refine sy_bneq (h := ?_) | refine sy_min (h := ?_) | refine sy_max (h := ?_) | refine sy_arrA (h := ?_) | refine sy_strI (h := ?_) | ((fail_if_success (refine sw_chk (h := ?_))); refine sw_guard (ht := ?_) (hf := ?_); all_goals (intro hx_; first | have := of_decide_eq_true hx_ | have := of_decide_eq_false hx_ | skip)) | (refine cw_cond (ht := ?_) (hf := ?_); all_goals (intro hx_; first | have := of_decide_eq_true hx_ | have := of_decide_eq_false hx_ | skip)))
  · apply ends_ret; apply res_tmp; rfl; rfl
    have : ¬ l.length = m.length := by
      have h1 : ¬ (s.n : Int) = (r.n : Int) := by simpa using hx_
      omega
    simp only [eqLL, decide_eq_false this, Bool.false_and]
  have hlm : l.length = m.length := by
    have h1 : (s.n : Int) = (r.n : Int) := by simpa using hx_
    omega
  refine cw_loop (ι := Upto l.length (eqBadL l m)) (fun i => ⟨[(0, s.v), (1, r.v), (5, .int .i64 i.k)], [], fun w => Lists w s l ∧ Lists w r m⟩) (fun i => l.length - i.k) (Upto.zero _ _) (ok_sub (by repeat (first | exact trivial | refine ⟨rfl, ?_⟩)) (List.Sublist.refl _) fun _ h => h) fun i => ?_
  have hik := i.hk
  repeat' (first | apply sw_nil | apply cw_seq | apply cw_reg | refine sy_move (h := ?_) | refine sy_assign (h := ?_) | refine sy_nilCheck (h := ?_) | refine sy_fld (h := ?_) | refine sy_ld (h := ?_) | refine sy_ldAll (h := ?_) | refine sy_pick_t (h := ?_) | refine sy_pick_f (h := ?_) | refine sy_not (h := ?_) | refine sy_eql (h := ?_) | refine sy_neq (h := ?_) | refine sy_lss (h := ?_) | refine sy_leq (h := ?_) | refine sy_gtr (h := ?_) | refine sy_geq (h := ?_) | refine sy_seql (h := ?_) | refine sy_sneq (h := ?_) | refine sy_slen (h := ?_) | refine sy_len (h := ?_) | refine sy_extract (h := ?_) | refine sy_add (h := ?_) | refine sy_sub (h := ?_) | refine sw_skipT (h := ?_) | refine sw_skipF (h := ?_) | refine sw_skipU (h := ?_) | refine sw_alloc (h := fun _ => ?_) | refine sw_box (h := fun _ => ?_) | refine sw_rangeS (h := fun _ => ?_) | refine sw_nextS (h1 := fun _ => ?_) (h2 := fun _ => ?_) | refine sw_bsl (h := fun _ => ?_) | refine sw_st1 (h := ?_) | refine sw_stAll (h := ?_) | refine cw_cond_t (ht := ?_) | refine cw_cond_f (hf := ?_) | apply cw_skip | apply cw_block | apply cw_ret | apply cw_exit | refine sy_and (h := ?_) | refine sy_or (h := ?_) | refine sy_xor (h := ?_) | refine sy_andNot (h := ?_) | refine sy_xorU (h := ?_) | refine sy_shl (h := ?_) | refine sy_shr (h := ?_) | refine sy_mul (h := ?_) | refine sy_int (h := ?_) | refine sy_beql (h := ?_) | refine sy_bneq (h := ?_) | refine sy_min (h := ?_) | refine sy_max (h := ?_) | refine sy_arrA (h := ?_) | refine sy_strI (h := ?_) | ((fail_if_success (refine sw_chk (h := ?_))); refine sw_guard (ht := ?_) (hf := ?_); all_goals (intro hx_; first | have := of_decide_eq_true hx_ | have := of_decide_eq_false hx_ | skip)) | (refine cw_cond (ht := ?_) (hf := ?_); all_goals (intro hx_; first | have := of_decide_eq_true hx_ | have := of_decide_eq_false hx_ | skip)))
  · have hlt : i.k < l.length := by omega
    have hlt' : i.k < m.length := by omega
    have hp1 := hp (by omega)
    have hp2 := hp' (by omega)
    have hx : l[i.k]? = some (l.getD i.k ListD.zero) := by rw [List.getD_eq_getElem?_getD, List.getElem?_eq_getElem hlt]; rfl
    have hx' : m[i.k]? = some (m.getD i.k ListD.zero) := by rw [List.getD_eq_getElem?_getD, List.getElem?_eq_getElem hlt']; rfl
    have hB : eqBadL l m i.k = !eqLD (l.getD i.k ListD.zero) (m.getD i.k ListD.zero) := rfl
    generalize l.getD i.k ListD.zero = x at *
    generalize m.getD i.k ListD.zero = x' at *
    (refine cw_draw [] (fun w => Lists w s l ∧ Lists w r m) (by kernel_rfl) ?_)
    all_goals (refine aw_take 0 (h := ?_))
    all_goals (refine aw_take 1 (h := ?_))
    all_goals (first | refine aw_take 2 (h := ?_) | refine aw_take 2 (hy := by (first | (apply y_idxX (q := i.k * 4); rfl; rfl; omega; omega; assumption; omega))) (h := ?_))
    all_goals (first | refine aw_take 3 (h := ?_) | refine aw_take 3 (hy := by (first | (apply y_ldXs (cs := x.cells); rfl; exact fun w h => Lists.get h.1 hx) | (apply y_ldXs (cs := x'.cells); rfl; exact fun w h => Lists.get h.2 hx'))) (h := ?_))
    all_goals (refine aw_take 4 (h := ?_))
    all_goals (refine aw_take 5 (h := ?_))
    all_goals (first | refine aw_take 6 (h := ?_) | refine aw_take 6 (hy := by (first | (apply y_idxX (q := i.k * 4); rfl; rfl; omega; omega; assumption; omega))) (h := ?_))
    all_goals (first | refine aw_take 7 (h := ?_) | refine aw_take 7 (hy := by (first | (apply y_ldXs (cs := x.cells); rfl; exact fun w h => Lists.get h.1 hx) | (apply y_ldXs (cs := x'.cells); rfl; exact fun w h => Lists.get h.2 hx'))) (h := ?_))
    all_goals (first | refine aw_take 8 (h := ?_) | refine aw_take 8 (hy := by (first | (apply y_neqLD x x'; rfl; rfl))) (h := ?_))
    all_goals (refine aw_done (h := ?_))
    repeat' (first | apply sw_nil | apply cw_seq | apply cw_reg | refine sy_move (h := ?_) | refine sy_assign (h := ?_) | refine sy_nilCheck (h := ?_) | refine sy_fld (h := ?_) | refine sy_ld (h := ?_) | refine sy_ldAll (h := ?_) | refine sy_pick_t (h := ?_) | refine sy_pick_f (h := ?_) | refine sy_not (h := ?_) | refine sy_eql (h := ?_) | refine sy_neq (h := ?_) | refine sy_lss (h := ?_) | refine sy_leq (h := ?_) | refine sy_gtr (h := ?_) | refine sy_geq (h := ?_) | refine sy_seql (h := ?_) | refine sy_sneq (h := ?_) | refine sy_slen (h := ?_) | refine sy_len (h := ?_) | refine sy_extract (h := ?_) | refine sy_add (h := ?_) | refine sy_sub (h := ?_) | refine sw_skipT (h := ?_) | refine sw_skipF (h := ?_) | refine sw_skipU (h := ?_) | refine sw_alloc (h := fun _ => ?_) | refine sw_box (h := fun _ => ?_) | refine sw_rangeS (h := fun _ => ?_) | refine sw_nextS (h1 := fun _ => ?_) (h2 := fun _ => ?_) | refine sw_bsl (h := fun _ => ?_) | refine sw_st1 (h := ?_) | refine sw_stAll (h := ?_) | refine cw_cond_t (ht := ?_) | refine cw_cond_f (hf := ?_) | apply cw_skip | apply cw_block | apply cw_ret | apply cw_exit | refine sy_and (h := ?_) | refine sy_or (h := ?_) | refine sy_xor (h := ?_) | refine sy_andNot (h := ?_) | refine sy_xorU (h := ?_) | refine sy_shl (h := ?_) | refine sy_shr (h := ?_) | refine sy_mul (h := ?_) | refine sy_int (h := ?_) | refine sy_beql (h := ?_) | refine sy_bneq (h := ?_) | refine sy_min (h := ?_) | refine sy_max (h := ?_) | refine sy_arrA (h := ?_) | refine sy_strI (h := ?_) | ((fail_if_success (refine sw_chk (h := ?_))); refine sw_guard (ht := ?_) (hf := ?_); all_goals (intro hx_; first | have := of_decide_eq_true hx_ | have := of_decide_eq_false hx_ | skip)) | (refine cw_cond (ht := ?_) (hf := ?_); all_goals (intro hx_; first | have := of_decide_eq_true hx_ | have := of_decide_eq_false hx_ | skip)))
    · apply ends_ret; apply res_tmp; rfl; rfl
      rw [eqLL, allB_false hlt (by rw [hB]; assumption), Bool.and_false]
    · exact ⟨i.next hlt (by rw [hB]; assumption), (by show l.length - (i.k + 1) < l.length - i.k; omega), ok_sub (by repeat (first | exact trivial | refine ⟨rfl, ?_⟩)) (List.Sublist.refl _) fun _ h => h⟩
  · apply ends_ret; apply res_tmp; rfl; rfl
    rw [eqLL, i.all (by omega), decide_eq_true hlm]
    rfl
end Go.Proofs.YtfpojkoddcdojaaGreatDoor

/- lists.entries: the data and the contract. -/
set_option linter.unusedVariables false
set_option linter.unusedSimpArgs false
namespace Go.Proofs.YtfpojkoddcdojaaGreatDoor
open Go Go.Proofs Sy Go.Sort
def entA (k : ByteArray) (l : List ActD) (j : Nat) : EntD := ⟨⟨(l.getD j ActD.zero).target, (l.getD j ActD.zero).text, k, (l.getD j ActD.zero).n⟩, j⟩
def foundF (l : List ActD) : Nat → List Nat
  | 0 => []
  | i + 1 => bif decide ((l.getD i ActD.zero).kind = 23) then foundF l i ++ [i] else bif decide ((l.getD i ActD.zero).kind = 6) then (match idxV l (l.getD i ActD.zero).object with | some j => (foundF l i).erase j | none => foundF l i) else foundF l i
theorem foundF_lt (l : List ActD) : ∀ i, ∀ j ∈ foundF l i, j < i
  | 0, j, h => by cases h
  | i + 1, j, h => by
    have ih := foundF_lt l i
    simp only [foundF] at h
    cases h1 : decide ((l.getD i ActD.zero).kind = 23) with
    | true =>
      rw [h1] at h
      rcases List.mem_append.1 h with h | h
      · have := ih j h; omega
      · rw [List.mem_singleton.1 h]; omega
    | false =>
      rw [h1] at h
      simp only [cond_false] at h
      cases h2 : decide ((l.getD i ActD.zero).kind = 6) with
      | true =>
        rw [h2] at h
        simp only [cond_true] at h
        split at h
        · have := ih j (List.mem_of_mem_erase h); omega
        · have := ih j h; omega
      | false => rw [h2] at h; have := ih j h; omega
theorem foundF_asc (l : List ActD) : ∀ i, (foundF l i).Pairwise (· < ·)
  | 0 => List.Pairwise.nil
  | i + 1 => by
    have ih := foundF_asc l i
    simp only [foundF]
    cases h1 : decide ((l.getD i ActD.zero).kind = 23) with
    | true =>
      simp only [cond_true]
      rw [List.pairwise_append]
      refine ⟨ih, List.pairwise_singleton _ _, fun a ha b hb => ?_⟩
      rw [List.mem_singleton.1 hb]
      exact foundF_lt l i a ha
    | false =>
      simp only [cond_false]
      cases h2 : decide ((l.getD i ActD.zero).kind = 6) with
      | true =>
        simp only [cond_true]
        split
        · exact ih.sublist List.erase_sublist
        · exact ih
      | false => exact ih
theorem foundF_nodup (l : List ActD) (i : Nat) : (foundF l i).Nodup := (foundF_asc l i).imp fun h => by omega
theorem foundF_len (l : List ActD) : ∀ i, (foundF l i).length ≤ i
  | 0 => Nat.le_refl _
  | i + 1 => by
    have ih := foundF_len l i
    simp only [foundF]
    cases decide ((l.getD i ActD.zero).kind = 23) with
    | true => simp only [cond_true, List.length_append, List.length_singleton]; omega
    | false =>
      simp only [cond_false]
      cases decide ((l.getD i ActD.zero).kind = 6) with
      | true =>
        simp only [cond_true]
        split
        · have := List.length_erase_le (a := ‹Nat›) (l := foundF l i); omega
        · omega
      | false => simp only [cond_false]; omega
def idxP' (f : Nat → Value) (F : List Nat) : List (Int × Value) := F.map fun (j : Nat) => ((j : Int), f j)
theorem eqb_int (a b : Int) : KeyT.eqb a b = decide (a = b) := rfl
theorem mput_new (f : Nat → Value) (i : Nat) : ∀ F : List Nat, i ∉ F → mput (idxP' f F) (i : Int) (f i) = idxP' f (F ++ [i])
  | [], _ => rfl
  | j :: F, h => by
    have h1 : ¬ (i : Int) = (j : Int) := fun e => h (by rw [show i = j by omega]; exact List.mem_cons_self)
    have ih := mput_new f i F fun h2 => h (List.mem_cons_of_mem _ h2)
    simp only [idxP', List.map_cons, mput, eqb_int, decide_eq_false h1, cond_false, List.cons_append] at ih ⊢
    rw [ih]
theorem mdel_idx (f : Nat → Value) (i : Nat) : ∀ F : List Nat, mdel (idxP' f F) (i : Int) = idxP' f (F.erase i)
  | [] => rfl
  | j :: F => by
    have ih := mdel_idx f i F
    by_cases h : i = j
    · subst h
      simp only [idxP', List.map_cons, mdel, eqb_int, decide_true, cond_true, List.erase_cons_head]
    · have h1 : ¬ (i : Int) = (j : Int) := by omega
      rw [List.erase_cons_tail (by simpa using fun e : j = i => h e.symm)]
      simp only [idxP', List.map_cons, mdel, eqb_int, decide_eq_false h1, cond_false] at ih ⊢
      rw [ih]
theorem mget_idx (f : Nat → Value) (i : Nat) : ∀ F : List Nat, i ∈ F → mget (idxP' f F) (i : Int) = some (f i)
  | [], h => by cases h
  | j :: F, h => by
    by_cases e : i = j
    · subst e
      simp only [idxP', List.map_cons, mget, eqb_int, decide_true, cond_true]
    · have h1 : ¬ (i : Int) = (j : Int) := by omega
      have ih := mget_idx f i F ((List.mem_cons.1 h).resolve_left e)
      simp only [idxP', List.map_cons, mget, eqb_int, decide_eq_false h1, cond_false] at ih ⊢
      exact ih
theorem sortI_asc {l : List Int} (h : l.Pairwise (· < ·)) : sortI l = l := List.mergeSort_of_pairwise (h.imp fun h => by simp only [leI, decide_eq_true_eq]; omega)
theorem keys_idx (f : Nat → Value) (F : List Nat) : (idxP' f F).map (·.1) = F.map fun (j : Nat) => (j : Int) := by simp [idxP', Function.comp_def]
theorem wf_nat {j : Nat} (h : j ≤ 1000000000) : (Lit.int .i64 (j : Int)).wf = true := by
  have h1 : IntKind.i64.min = -9223372036854775808 := by decide
  have h2 : IntKind.i64.max = 9223372036854775807 := by decide
  simp only [Lit.wf, Bool.and_eq_true, decide_eq_true_eq, h1, h2]
  omega
def entsV (l : List ChainD) (k : ByteArray) : List EntD := match findC l k with
  | some c => (foundF c.actsL c.actsL.length).map (entA k c.actsL)
  | none => []
def intsR (l : List Int) : List (List Value) := l.map fun z => [.int .i64 z]
theorem intsR_flat (l : List Int) : l.map encZ = (intsR l).flatten := by
  induction l with
  | nil => rfl
  | cons a l ih =>
    simp only [intsR, List.map_cons, List.flatten_cons] at ih ⊢
    rw [ih]
    rfl
theorem intsR_one (l : List Int) : ∀ r ∈ intsR l, r.length = 1 := by
  intro r hr
  simp only [intsR, List.mem_map] at hr
  obtain ⟨x, _, rfl⟩ := hr
  rfl
theorem ints_of_orow {w : World} {e n c : Nat} {A : Option Addr} {l : List Int} (h : ORow w e 1 (.slice A n c) n (l.map encZ)) (hn : n = l.length) : RowsD w 1 ⟨A, n, c⟩ (intsR l) := by
  rw [intsR_flat] at h
  exact rows_of_orow h (by simpa [intsR] using hn) (intsR_one l)
theorem findC_mem {l : List ChainD} {k : ByteArray} {c : ChainD} (h : findC l k = some c) : c ∈ l := List.mem_of_find?_eq_some h
set_option maxHeartbeats 2000000 in
theorem entries_mk (s : SlV) (l : List ChainD) (k : ByteArray) (hok : ∀ c ∈ l, ActsOk c.actsL) (hlen : ∀ c ∈ l, c.actsL.length ≤ 1000000) :
    Mk Tryz.prog 37 #[s.v, .string k] (fun w => Chains w s l ∧ Glob w) fun u X => ∃ S : SlV, u = S.v ∧ ∀ w, X w → Ents w S (entsV l k) := by
  refine mk_of_cw2 (args := [_, _]) _ Tryz.func37 rfl Tryz.ntmps37 rfl fun av bor w0 => ?_
  have hfi := find_pu s l k
  cases hf : findC l k with
  | none =>
    rw [hf] at hfi
    have hfi : Pu Tryz.prog 17 #[s.v, .string k] (fun w => Chains w s l) (.tuple #[ChainD.zero.v, .bool false]) := hfi
    repeat' (first | apply sw_nil | apply cw_seq | apply cw_reg | refine sy_move (h := ?_) | refine sy_assign (h := ?_) | refine sy_nilCheck (h := ?_) | refine sy_fld (h := ?_) | refine sy_ld (h := ?_) | refine sy_ldAll (h := ?_) | refine sy_pick_t (h := ?_) | refine sy_pick_f (h := ?_) | refine sy_not (h := ?_) | refine sy_eql (h := ?_) | refine sy_neq (h := ?_) | refine sy_lss (h := ?_) | refine sy_leq (h := ?_) | refine sy_gtr (h := ?_) | refine sy_geq (h := ?_) | refine sy_seql (h := ?_) | refine sy_sneq (h := ?_) | refine sy_slen (h := ?_) | refine sy_len (h := ?_) | refine sy_extract (h := ?_) | refine sy_add (h := ?_) | refine sy_sub (h := ?_) | refine sw_skipT (h := ?_) | refine sw_skipF (h := ?_) | refine sw_skipU (h := ?_) | refine sw_alloc (h := fun _ => ?_) | refine sw_box (h := fun _ => ?_) | refine sw_rangeS (h := fun _ => ?_) | refine sw_nextS (h1 := fun _ => ?_) (h2 := fun _ => ?_) | refine sw_bsl (h := fun _ => ?_) | refine sw_st1 (h := ?_) | refine sw_stAll (h := ?_) | refine cw_cond_t (ht := ?_) | refine cw_cond_f (hf := ?_) | apply cw_skip | apply cw_block | apply cw_ret | apply cw_exit | refine sy_and (h := ?_) | refine sy_or (h := ?_) | refine sy_xor (h := ?_) | refine sy_andNot (h := ?_) | refine sy_xorU (h := ?_) | refine sy_shl (h := ?_) | refine sy_shr (h := ?_) | refine sy_mul (h := ?_) | refine sy_int (h := ?_) | refine sy_beql (h := ?_) | refine sy_bneq (h := ?_) | refine sy_min (h := ?_) | refine sy_max (h := ?_) | refine sy_arrA (h := ?_) | refine sy_strI (h := ?_) | (refine sw_pu (hc := hfi) (hX := fun w h => h.1) (h := ?_)) | ((fail_if_success (refine sw_chk (h := ?_))); refine sw_guard (ht := ?_) (hf := ?_); all_goals (intro hx_; first | have := of_decide_eq_true hx_ | have := of_decide_eq_false hx_ | skip)) | (refine cw_cond (ht := ?_) (hf := ?_); all_goals (intro hx_; first | have := of_decide_eq_true hx_ | have := of_decide_eq_false hx_ | skip)))
    have e : entsV l k = [] := by rw [entsV, hf]
    rw [e]
    exact ends_ret (res_tmp rfl rfl) ⟨⟨none, 0, 0⟩, rfl, fun w _ => rowsD_nil w 5⟩
  | some c =>
    rw [hf] at hfi
    have hfi : Pu Tryz.prog 17 #[s.v, .string k] (fun w => Chains w s l) (.tuple #[c.v, .bool true]) := hfi
    have hcm := findC_mem hf
    have hc := hok c hcm
    have hcl := hlen c hcm
    have e : entsV l k = (foundF c.actsL c.actsL.length).map (entA k c.actsL) := by rw [entsV, hf]
    rw [e]
    have hF := foundF_lt c.actsL
    have hA := foundF_asc c.actsL
    have hN := foundF_nodup c.actsL
    have hFl := foundF_len c.actsL
    have hS : ∀ i, foundF c.actsL (i + 1) = _ := fun i => foundF.eq_2 c.actsL i
    have hE : ∀ j x, c.actsL[j]? = some x → entA k c.actsL j = ⟨⟨x.target, x.text, k, x.n⟩, j⟩ := fun j x hx => by simp only [entA, List.getD_eq_getElem?_getD, hx, Option.getD_some]
    generalize hFg : foundF c.actsL = F at *
    refine cw_know (p := c.acts.n = c.actsL.length ∧ c.acts.n ≤ maxLen ∧ (0 < c.actsL.length → c.acts.p.isSome = true) ∧ c.acts.n ≤ c.acts.c) (fun w h => XC.know (c := c) w ⟨h.1.2 c hcm, h.2⟩) fun ⟨hl, hm, hp, hcap⟩ => ?_
    simp only [maxLen] at hm
    repeat' (first | apply sw_nil | apply cw_seq | apply cw_reg | refine sy_move (h := ?_) | refine sy_assign (h := ?_) | refine sy_nilCheck (h := ?_) | refine sy_fld (h := ?_) | refine sy_ld (h := ?_) | refine sy_ldAll (h := ?_) | refine sy_pick_t (h := ?_) | refine sy_pick_f (h := ?_) | refine sy_not (h := ?_) | refine sy_eql (h := ?_) | refine sy_neq (h := ?_) | refine sy_lss (h := ?_) | refine sy_leq (h := ?_) | refine sy_gtr (h := ?_) | refine sy_geq (h := ?_) | refine sy_seql (h := ?_) | refine sy_sneq (h := ?_) | refine sy_slen (h := ?_) | refine sy_len (h := ?_) | refine sy_extract (h := ?_) | refine sy_add (h := ?_) | refine sy_sub (h := ?_) | refine sw_skipT (h := ?_) | refine sw_skipF (h := ?_) | refine sw_skipU (h := ?_) | refine sw_alloc (h := fun _ => ?_) | refine sw_box (h := fun _ => ?_) | refine sw_rangeS (h := fun _ => ?_) | refine sw_nextS (h1 := fun _ => ?_) (h2 := fun _ => ?_) | refine sw_bsl (h := fun _ => ?_) | refine sw_st1 (h := ?_) | refine sw_stAll (h := ?_) | refine cw_cond_t (ht := ?_) | refine cw_cond_f (hf := ?_) | apply cw_skip | apply cw_block | apply cw_ret | apply cw_exit | refine sy_and (h := ?_) | refine sy_or (h := ?_) | refine sy_xor (h := ?_) | refine sy_andNot (h := ?_) | refine sy_xorU (h := ?_) | refine sy_shl (h := ?_) | refine sy_shr (h := ?_) | refine sy_mul (h := ?_) | refine sy_int (h := ?_) | refine sy_beql (h := ?_) | refine sy_bneq (h := ?_) | refine sy_min (h := ?_) | refine sy_max (h := ?_) | refine sy_arrA (h := ?_) | refine sy_strI (h := ?_) | (refine sw_pu (hc := hfi) (hX := fun w h => h.1) (h := ?_)) | (refine sw_makeMap Int (h := fun q => ?_)) | ((fail_if_success (refine sw_chk (h := ?_))); refine sw_guard (ht := ?_) (hf := ?_); all_goals (intro hx_; first | have := of_decide_eq_true hx_ | have := of_decide_eq_false hx_ | skip)) | (refine cw_cond (ht := ?_) (hf := ?_); all_goals (intro hx_; first | have := of_decide_eq_true hx_ | have := of_decide_eq_false hx_ | skip)))
    rename_i b5
    refine cw_loop (ι := Kth c.actsL.length) (fun i => ⟨[(1, .string k), (5, .pointer (some ⟨b5, 0, none⟩)), (7, .map (some q)), (25, c.acts.v), (26, .int .i64 c.acts.n), (27, .int .i64 i.k)],
      [mapr q (idxP' (fun j => (entA k c.actsL j).v) (F i.k)), cel b5 40 c.cells], fun w => Chains w s l ∧ Glob w⟩) (fun i => c.actsL.length - i.k) ⟨0, Nat.zero_le _⟩ (ok_sub ⟨rfl, rfl, rfl, rfl, rfl, rfl, trivial⟩ (by rw [← hFg]; exact List.Sublist.refl _) fun _ h => h) fun i => ?_
    have hik := i.hk
    repeat' (first | apply sw_nil | apply cw_seq | apply cw_reg | refine sy_move (h := ?_) | refine sy_assign (h := ?_) | refine sy_nilCheck (h := ?_) | refine sy_fld (h := ?_) | refine sy_ld (h := ?_) | refine sy_ldAll (h := ?_) | refine sy_pick_t (h := ?_) | refine sy_pick_f (h := ?_) | refine sy_not (h := ?_) | refine sy_eql (h := ?_) | refine sy_neq (h := ?_) | refine sy_lss (h := ?_) | refine sy_leq (h := ?_) | refine sy_gtr (h := ?_) | refine sy_geq (h := ?_) | refine sy_seql (h := ?_) | refine sy_sneq (h := ?_) | refine sy_slen (h := ?_) | refine sy_len (h := ?_) | refine sy_extract (h := ?_) | refine sy_add (h := ?_) | refine sy_sub (h := ?_) | refine sw_skipT (h := ?_) | refine sw_skipF (h := ?_) | refine sw_skipU (h := ?_) | refine sw_alloc (h := fun _ => ?_) | refine sw_box (h := fun _ => ?_) | refine sw_rangeS (h := fun _ => ?_) | refine sw_nextS (h1 := fun _ => ?_) (h2 := fun _ => ?_) | refine sw_bsl (h := fun _ => ?_) | refine sw_st1 (h := ?_) | refine sw_stAll (h := ?_) | refine cw_cond_t (ht := ?_) | refine cw_cond_f (hf := ?_) | apply cw_skip | apply cw_block | apply cw_ret | apply cw_exit | refine sy_and (h := ?_) | refine sy_or (h := ?_) | refine sy_xor (h := ?_) | refine sy_andNot (h := ?_) | refine sy_xorU (h := ?_) | refine sy_shl (h := ?_) | refine sy_shr (h := ?_) | refine sy_mul (h := ?_) | refine sy_int (h := ?_) | refine sy_beql (h := ?_) | refine sy_bneq (h := ?_) | refine sy_min (h := ?_) | refine sy_max (h := ?_) | refine sy_arrA (h := ?_) | refine sy_strI (h := ?_) | ((fail_if_success (refine sw_chk (h := ?_))); refine sw_guard (ht := ?_) (hf := ?_); all_goals (intro hx_; first | have := of_decide_eq_true hx_ | have := of_decide_eq_false hx_ | skip)) | (refine cw_cond (ht := ?_) (hf := ?_); all_goals (intro hx_; first | have := of_decide_eq_true hx_ | have := of_decide_eq_false hx_ | skip)))
    · have hlt : i.k < c.actsL.length := by omega
      have hp' := hp (by omega)
      obtain ⟨x, hx⟩ : ∃ x, c.actsL[i.k]? = some x := ⟨_, List.getElem?_eq_getElem hlt⟩
      have hidx := index_pu c hc x.object
      have hEx := hE i.k x hx
      have hSx := hS i.k
      rw [show c.actsL.getD i.k ActD.zero = x from by rw [List.getD_eq_getElem?_getD, hx]; rfl] at hSx
      have hnew : i.k ∉ F i.k := fun h => absurd (hF i.k i.k h) (Nat.lt_irrefl _)
      have hFlen := hFl i.k
      have hml : (idxP' (fun j => (entA k c.actsL j).v) (F i.k)).length = (F i.k).length := by simp [idxP']
      have hm1 : mput (idxP' (fun j => (entA k c.actsL j).v) (F i.k)) (i.k : Int) (Value.agg (⟨⟨x.target, x.text, k, x.n⟩, i.k⟩ : EntD).cells.toArray) = idxP' (fun j => (entA k c.actsL j).v) (F i.k ++ [i.k]) := by
        have h := mput_new (fun j => (entA k c.actsL j).v) i.k (F i.k) hnew
        simp only [hEx] at h
        exact h
      cases ho : idxV c.actsL x.object with
      | none =>
        rw [ho] at hidx hSx
        have hidx : Pu Tryz.prog 43 #[c.v, .string x.object] (fun w => c.at_ w ∧ Glob w) (.tuple #[.int .i64 0, .bool false]) := hidx
        repeat' (first | refine sy_build (cs := [.string x.target, .string x.text, .string k, .int .i64 x.n]) (hf := by rfl) (h := ?_) | refine sy_build (cs := (⟨⟨x.target, x.text, k, x.n⟩, i.k⟩ : EntD).cells) (hf := by rfl) (h := ?_) | apply sw_nil | apply cw_seq | apply cw_reg | refine sy_move (h := ?_) | refine sy_assign (h := ?_) | refine sy_nilCheck (h := ?_) | refine sy_fld (h := ?_) | refine sy_ld (h := ?_) | refine sy_ldAll (h := ?_) | refine sy_pick_t (h := ?_) | refine sy_pick_f (h := ?_) | refine sy_not (h := ?_) | refine sy_eql (h := ?_) | refine sy_neq (h := ?_) | refine sy_lss (h := ?_) | refine sy_leq (h := ?_) | refine sy_gtr (h := ?_) | refine sy_geq (h := ?_) | refine sy_seql (h := ?_) | refine sy_sneq (h := ?_) | refine sy_slen (h := ?_) | refine sy_len (h := ?_) | refine sy_extract (h := ?_) | refine sy_add (h := ?_) | refine sy_sub (h := ?_) | refine sw_skipT (h := ?_) | refine sw_skipF (h := ?_) | refine sw_skipU (h := ?_) | refine sw_alloc (h := fun _ => ?_) | refine sw_box (h := fun _ => ?_) | refine sw_rangeS (h := fun _ => ?_) | refine sw_nextS (h1 := fun _ => ?_) (h2 := fun _ => ?_) | refine sw_bsl (h := fun _ => ?_) | refine sw_st1 (h := ?_) | refine sw_stAll (h := ?_) | refine cw_cond_t (ht := ?_) | refine cw_cond_f (hf := ?_) | apply cw_skip | apply cw_block | apply cw_ret | apply cw_exit | refine sy_and (h := ?_) | refine sy_or (h := ?_) | refine sy_xor (h := ?_) | refine sy_andNot (h := ?_) | refine sy_xorU (h := ?_) | refine sy_shl (h := ?_) | refine sy_shr (h := ?_) | refine sy_mul (h := ?_) | refine sy_int (h := ?_) | refine sy_beql (h := ?_) | refine sy_bneq (h := ?_) | refine sy_min (h := ?_) | refine sy_max (h := ?_) | refine sy_arrA (h := ?_) | refine sy_strI (h := ?_) | (refine sy_idxX (q := i.k * 20) (h := ?_)) | (refine sy_ldXs (cs := x.cells) (hF := fun w h => Acts.get (h.1.2 c hcm) hx) (h := ?_)) | (refine sw_update (κ := Int) (kk := (i.k : Int)) (hA := by (repeat (first | exact At.here _ | apply At.there))) (h := ?_)) | (refine sy_mlen (κ := Int) (hl := by (repeat (first | exact List.mem_cons_self | apply List.mem_cons_of_mem))) (h := ?_)) | (refine sw_pu (hc := hidx) (hX := fun w h => ⟨h.1.2 c hcm, h.2⟩) (h := ?_)) | (refine sw_delete (κ := Int) (kk := (j : Nat)) (hA := by (repeat (first | exact At.here _ | apply At.there))) (h := ?_)) | ((fail_if_success (refine sw_chk (h := ?_))); refine sw_guard (ht := ?_) (hf := ?_); all_goals (intro hx_; first | have := of_decide_eq_true hx_ | have := of_decide_eq_false hx_ | skip)) | (refine cw_cond (ht := ?_) (hf := ?_); all_goals (intro hx_; first | have := of_decide_eq_true hx_ | have := of_decide_eq_false hx_ | skip)))
        all_goals first
          | (have hSx' : F (i.k + 1) = F i.k ++ [i.k] := by rw [hSx, decide_eq_true (by assumption), cond_true]
             refine ⟨(⟨i.k + 1, hlt⟩ : Kth c.actsL.length), (by show c.actsL.length - (i.k + 1) < c.actsL.length - i.k; omega), ok_sub ⟨rfl, rfl, rfl, rfl, rfl, rfl, trivial⟩ ?_ fun _ h => h⟩
             show List.Sublist [mapr q (idxP' (fun j => (entA k c.actsL j).v) (F (i.k + 1))), _] _
             rw [hSx', ← hm1]
             exact List.Sublist.cons _ (List.Sublist.refl _))
          | (have hSx' : F (i.k + 1) = F i.k := by
               have h0 : F i.k = [] := List.eq_nil_of_length_eq_zero (by omega)
               rw [hSx, decide_eq_false (by assumption), cond_false, decide_eq_true (by assumption), cond_true, h0]
               try rfl
             refine ⟨(⟨i.k + 1, hlt⟩ : Kth c.actsL.length), (by show c.actsL.length - (i.k + 1) < c.actsL.length - i.k; omega), ok_sub ⟨rfl, rfl, rfl, rfl, rfl, rfl, trivial⟩ ?_ fun _ h => h⟩
             show List.Sublist [mapr q (idxP' (fun j => (entA k c.actsL j).v) (F (i.k + 1))), _] _
             rw [hSx']
             exact List.Sublist.cons _ (List.Sublist.refl _))
          | (have hSx' : F (i.k + 1) = F i.k := by
               rw [hSx, decide_eq_false (by assumption), cond_false, decide_eq_false (by assumption), cond_false]
             refine ⟨(⟨i.k + 1, hlt⟩ : Kth c.actsL.length), (by show c.actsL.length - (i.k + 1) < c.actsL.length - i.k; omega), ok_sub ⟨rfl, rfl, rfl, rfl, rfl, rfl, trivial⟩ ?_ fun _ h => h⟩
             show List.Sublist [mapr q (idxP' (fun j => (entA k c.actsL j).v) (F (i.k + 1))), _] _
             rw [hSx']
             exact List.Sublist.cons _ (List.Sublist.refl _))
          | (have hSx' : F (i.k + 1) = F i.k := by
               rw [hSx, decide_eq_false (by assumption), cond_false, decide_eq_true (by assumption), cond_true]
             refine ⟨(⟨i.k + 1, hlt⟩ : Kth c.actsL.length), (by show c.actsL.length - (i.k + 1) < c.actsL.length - i.k; omega), ok_sub ⟨rfl, rfl, rfl, rfl, rfl, rfl, trivial⟩ ?_ fun _ h => h⟩
             show List.Sublist [mapr q (idxP' (fun j => (entA k c.actsL j).v) (F (i.k + 1))), _] _
             rw [hSx']
             exact List.Sublist.cons _ (List.Sublist.refl _))
      | some j =>
        rw [ho] at hidx hSx
        have hidx : Pu Tryz.prog 43 #[c.v, .string x.object] (fun w => c.at_ w ∧ Glob w) (.tuple #[.int .i64 (j : Nat), .bool true]) := hidx
        repeat' (first | refine sy_build (cs := [.string x.target, .string x.text, .string k, .int .i64 x.n]) (hf := by rfl) (h := ?_) | refine sy_build (cs := (⟨⟨x.target, x.text, k, x.n⟩, i.k⟩ : EntD).cells) (hf := by rfl) (h := ?_) | apply sw_nil | apply cw_seq | apply cw_reg | refine sy_move (h := ?_) | refine sy_assign (h := ?_) | refine sy_nilCheck (h := ?_) | refine sy_fld (h := ?_) | refine sy_ld (h := ?_) | refine sy_ldAll (h := ?_) | refine sy_pick_t (h := ?_) | refine sy_pick_f (h := ?_) | refine sy_not (h := ?_) | refine sy_eql (h := ?_) | refine sy_neq (h := ?_) | refine sy_lss (h := ?_) | refine sy_leq (h := ?_) | refine sy_gtr (h := ?_) | refine sy_geq (h := ?_) | refine sy_seql (h := ?_) | refine sy_sneq (h := ?_) | refine sy_slen (h := ?_) | refine sy_len (h := ?_) | refine sy_extract (h := ?_) | refine sy_add (h := ?_) | refine sy_sub (h := ?_) | refine sw_skipT (h := ?_) | refine sw_skipF (h := ?_) | refine sw_skipU (h := ?_) | refine sw_alloc (h := fun _ => ?_) | refine sw_box (h := fun _ => ?_) | refine sw_rangeS (h := fun _ => ?_) | refine sw_nextS (h1 := fun _ => ?_) (h2 := fun _ => ?_) | refine sw_bsl (h := fun _ => ?_) | refine sw_st1 (h := ?_) | refine sw_stAll (h := ?_) | refine cw_cond_t (ht := ?_) | refine cw_cond_f (hf := ?_) | apply cw_skip | apply cw_block | apply cw_ret | apply cw_exit | refine sy_and (h := ?_) | refine sy_or (h := ?_) | refine sy_xor (h := ?_) | refine sy_andNot (h := ?_) | refine sy_xorU (h := ?_) | refine sy_shl (h := ?_) | refine sy_shr (h := ?_) | refine sy_mul (h := ?_) | refine sy_int (h := ?_) | refine sy_beql (h := ?_) | refine sy_bneq (h := ?_) | refine sy_min (h := ?_) | refine sy_max (h := ?_) | refine sy_arrA (h := ?_) | refine sy_strI (h := ?_) | (refine sy_idxX (q := i.k * 20) (h := ?_)) | (refine sy_ldXs (cs := x.cells) (hF := fun w h => Acts.get (h.1.2 c hcm) hx) (h := ?_)) | (refine sw_update (κ := Int) (kk := (i.k : Int)) (hA := by (repeat (first | exact At.here _ | apply At.there))) (h := ?_)) | (refine sy_mlen (κ := Int) (hl := by (repeat (first | exact List.mem_cons_self | apply List.mem_cons_of_mem))) (h := ?_)) | (refine sw_pu (hc := hidx) (hX := fun w h => ⟨h.1.2 c hcm, h.2⟩) (h := ?_)) | (refine sw_delete (κ := Int) (kk := (j : Nat)) (hA := by (repeat (first | exact At.here _ | apply At.there))) (h := ?_)) | ((fail_if_success (refine sw_chk (h := ?_))); refine sw_guard (ht := ?_) (hf := ?_); all_goals (intro hx_; first | have := of_decide_eq_true hx_ | have := of_decide_eq_false hx_ | skip)) | (refine cw_cond (ht := ?_) (hf := ?_); all_goals (intro hx_; first | have := of_decide_eq_true hx_ | have := of_decide_eq_false hx_ | skip)))
        all_goals first
          | (have hSx' : F (i.k + 1) = F i.k ++ [i.k] := by rw [hSx, decide_eq_true (by assumption), cond_true]
             refine ⟨(⟨i.k + 1, hlt⟩ : Kth c.actsL.length), (by show c.actsL.length - (i.k + 1) < c.actsL.length - i.k; omega), ok_sub ⟨rfl, rfl, rfl, rfl, rfl, rfl, trivial⟩ ?_ fun _ h => h⟩
             show List.Sublist [mapr q (idxP' (fun j => (entA k c.actsL j).v) (F (i.k + 1))), _] _
             rw [hSx', ← hm1]
             exact List.Sublist.cons _ (List.Sublist.refl _))
          | (have hSx' : F (i.k + 1) = F i.k := by
               have h0 : F i.k = [] := List.eq_nil_of_length_eq_zero (by omega)
               rw [hSx, decide_eq_false (by assumption), cond_false, decide_eq_true (by assumption), cond_true, h0]
               try rfl
             refine ⟨(⟨i.k + 1, hlt⟩ : Kth c.actsL.length), (by show c.actsL.length - (i.k + 1) < c.actsL.length - i.k; omega), ok_sub ⟨rfl, rfl, rfl, rfl, rfl, rfl, trivial⟩ ?_ fun _ h => h⟩
             show List.Sublist [mapr q (idxP' (fun j => (entA k c.actsL j).v) (F (i.k + 1))), _] _
             rw [hSx']
             exact List.Sublist.cons _ (List.Sublist.refl _))
          | (have hSx' : F (i.k + 1) = F i.k := by
               rw [hSx, decide_eq_false (by assumption), cond_false, decide_eq_false (by assumption), cond_false]
             refine ⟨(⟨i.k + 1, hlt⟩ : Kth c.actsL.length), (by show c.actsL.length - (i.k + 1) < c.actsL.length - i.k; omega), ok_sub ⟨rfl, rfl, rfl, rfl, rfl, rfl, trivial⟩ ?_ fun _ h => h⟩
             show List.Sublist [mapr q (idxP' (fun j => (entA k c.actsL j).v) (F (i.k + 1))), _] _
             rw [hSx']
             exact List.Sublist.cons _ (List.Sublist.refl _))
          | (have hSx' : F (i.k + 1) = (F i.k).erase j := by
               rw [hSx, decide_eq_false (by assumption), cond_false, decide_eq_true (by assumption), cond_true]
             refine ⟨(⟨i.k + 1, hlt⟩ : Kth c.actsL.length), (by show c.actsL.length - (i.k + 1) < c.actsL.length - i.k; omega), ok_sub ⟨rfl, rfl, rfl, rfl, rfl, rfl, trivial⟩ ?_ fun _ h => h⟩
             show List.Sublist [mapr q (idxP' (fun j => (entA k c.actsL j).v) (F (i.k + 1))), _] _
             rw [hSx', ← mdel_idx]
             exact List.Sublist.cons _ (List.Sublist.refl _))
    have hik' : i.k = c.actsL.length := by omega
    rw [hik']
    have hGlt := hF c.actsL.length
    have hGA := hA c.actsL.length
    have hGl := hFl c.actsL.length
    generalize F c.actsL.length = G at *
    have hml : (idxP' (fun j => (entA k c.actsL j).v) G).length = G.length := by simp [idxP']
    have hasc : (G.map fun (j : Nat) => (j : Int)).Pairwise (· < ·) := by
      rw [List.pairwise_map]
      exact hGA.imp fun h => by omega
    refine sw_fn0 (hc := keysEI_c.ct (some q)) (hX := fun _ _ => trivial) (h := ?_)
    rintro v1 R1 X1 ⟨bk, rfl, rfl⟩
    refine sw_fn (pre := [cel bk 102 [.map (some q)], mapr q (idxP' (fun j => (entA k c.actsL j).v) G)]) (fr := [cel b5 40 c.cells]) (hc := sortedEI_c.ct bk q (idxP' (fun j => (entA k c.actsL j).v) G) (fun p hp => ?_) (by omega)) (hX := fun _ _ => trivial) (h := ?_)
    · simp only [idxP', List.mem_map] at hp
      obtain ⟨j, hj, rfl⟩ := hp
      have := hGlt j hj
      exact wf_nat (by omega)
    rintro v2 R2 X2 ⟨A, c2, rfl, rfl⟩
    rw [hml, keys_idx, sortI_asc hasc]
    refine sw_give ?_
    repeat' (first | apply sw_nil | apply cw_seq | apply cw_reg | refine sy_move (h := ?_) | refine sy_assign (h := ?_) | refine sy_nilCheck (h := ?_) | refine sy_fld (h := ?_) | refine sy_ld (h := ?_) | refine sy_ldAll (h := ?_) | refine sy_pick_t (h := ?_) | refine sy_pick_f (h := ?_) | refine sy_not (h := ?_) | refine sy_eql (h := ?_) | refine sy_neq (h := ?_) | refine sy_lss (h := ?_) | refine sy_leq (h := ?_) | refine sy_gtr (h := ?_) | refine sy_geq (h := ?_) | refine sy_seql (h := ?_) | refine sy_sneq (h := ?_) | refine sy_slen (h := ?_) | refine sy_len (h := ?_) | refine sy_extract (h := ?_) | refine sy_add (h := ?_) | refine sy_sub (h := ?_) | refine sw_skipT (h := ?_) | refine sw_skipF (h := ?_) | refine sw_skipU (h := ?_) | refine sw_alloc (h := fun _ => ?_) | refine sw_box (h := fun _ => ?_) | refine sw_rangeS (h := fun _ => ?_) | refine sw_nextS (h1 := fun _ => ?_) (h2 := fun _ => ?_) | refine sw_bsl (h := fun _ => ?_) | refine sw_st1 (h := ?_) | refine sw_stAll (h := ?_) | refine cw_cond_t (ht := ?_) | refine cw_cond_f (hf := ?_) | apply cw_skip | apply cw_block | apply cw_ret | apply cw_exit | refine sy_and (h := ?_) | refine sy_or (h := ?_) | refine sy_xor (h := ?_) | refine sy_andNot (h := ?_) | refine sy_xorU (h := ?_) | refine sy_shl (h := ?_) | refine sy_shr (h := ?_) | refine sy_mul (h := ?_) | refine sy_int (h := ?_) | refine sy_beql (h := ?_) | refine sy_bneq (h := ?_) | refine sy_min (h := ?_) | refine sy_max (h := ?_) | refine sy_arrA (h := ?_) | refine sy_strI (h := ?_))
    refine cw_imp (X' := fun w => RowsD w 1 ⟨A, G.length, c2⟩ (intsR (G.map fun (j : Nat) => (j : Int)))) (fun w h => ints_of_orow h.2 (by simp)) ?_
    refine cw_know (p := 0 < G.length → A.isSome = true) (fun w h h0 => ?_) fun hpA => ?_
    · exact (RowsD.row h 0 [.int .i64 (G[0] : Nat)] (by simp [intsR, List.getElem?_eq_getElem h0])).2.1
    refine cw_nilRow 80 5 ?_
    refine cw_loop (ι := FilS G.length) (fun j => ⟨[(7, .map (some q)), (12, .slice j.A j.k j.c), (66, .slice A G.length c2), (67, .int .i64 (G.length : Nat)), (68, .int .i64 j.k)],
      [orow 80 5 (.slice j.A j.k j.c) j.k ((G.take j.k).map fun j => (entA k c.actsL j).cells).flatten, mapr q (idxP' (fun j => (entA k c.actsL j).v) G)], fun w => RowsD w 1 ⟨A, G.length, c2⟩ (intsR (G.map fun (j : Nat) => (j : Int)))⟩) (fun j => G.length - j.k) ⟨0, Nat.zero_le _, none, 0⟩
      (ok_sub ⟨rfl, rfl, rfl, rfl, rfl, trivial⟩ (List.Sublist.cons_cons _ (List.Sublist.cons _ (List.Sublist.cons_cons _ (List.nil_sublist _)))) fun _ h => h) fun j => ?_
    have hjk := j.hk
    repeat' (first | apply sw_nil | apply cw_seq | apply cw_reg | refine sy_move (h := ?_) | refine sy_assign (h := ?_) | refine sy_nilCheck (h := ?_) | refine sy_fld (h := ?_) | refine sy_ld (h := ?_) | refine sy_ldAll (h := ?_) | refine sy_pick_t (h := ?_) | refine sy_pick_f (h := ?_) | refine sy_not (h := ?_) | refine sy_eql (h := ?_) | refine sy_neq (h := ?_) | refine sy_lss (h := ?_) | refine sy_leq (h := ?_) | refine sy_gtr (h := ?_) | refine sy_geq (h := ?_) | refine sy_seql (h := ?_) | refine sy_sneq (h := ?_) | refine sy_slen (h := ?_) | refine sy_len (h := ?_) | refine sy_extract (h := ?_) | refine sy_add (h := ?_) | refine sy_sub (h := ?_) | refine sw_skipT (h := ?_) | refine sw_skipF (h := ?_) | refine sw_skipU (h := ?_) | refine sw_alloc (h := fun _ => ?_) | refine sw_box (h := fun _ => ?_) | refine sw_rangeS (h := fun _ => ?_) | refine sw_nextS (h1 := fun _ => ?_) (h2 := fun _ => ?_) | refine sw_bsl (h := fun _ => ?_) | refine sw_st1 (h := ?_) | refine sw_stAll (h := ?_) | refine cw_cond_t (ht := ?_) | refine cw_cond_f (hf := ?_) | apply cw_skip | apply cw_block | apply cw_ret | apply cw_exit | refine sy_and (h := ?_) | refine sy_or (h := ?_) | refine sy_xor (h := ?_) | refine sy_andNot (h := ?_) | refine sy_xorU (h := ?_) | refine sy_shl (h := ?_) | refine sy_shr (h := ?_) | refine sy_mul (h := ?_) | refine sy_int (h := ?_) | refine sy_beql (h := ?_) | refine sy_bneq (h := ?_) | refine sy_min (h := ?_) | refine sy_max (h := ?_) | refine sy_arrA (h := ?_) | refine sy_strI (h := ?_) | ((fail_if_success (refine sw_chk (h := ?_))); refine sw_guard (ht := ?_) (hf := ?_); all_goals (intro hx_; first | have := of_decide_eq_true hx_ | have := of_decide_eq_false hx_ | skip)) | (refine cw_cond (ht := ?_) (hf := ?_); all_goals (intro hx_; first | have := of_decide_eq_true hx_ | have := of_decide_eq_false hx_ | skip)))
    · have hlt : j.k < G.length := by omega
      have hpA' := hpA (by omega)
      obtain ⟨g, hg⟩ : ∃ g, G[j.k]? = some g := ⟨_, List.getElem?_eq_getElem hlt⟩
      have hgm := List.mem_of_getElem? hg
      have hc1 : ∀ w, RowsD w 1 ⟨A, G.length, c2⟩ (intsR (G.map fun (j : Nat) => (j : Int))) → CellAt w A j.k (.int .i64 (g : Nat)) := fun w h => by
        have := (RowsD.row h j.k [.int .i64 (g : Nat)] (by simp [intsR, hg])).2.2 0 _ rfl
        simpa using this
      have hfl : ((G.take (j.k + 1)).map fun j => (entA k c.actsL j).cells).flatten = ((G.take j.k).map fun j => (entA k c.actsL j).cells).flatten ++ (entA k c.actsL g).cells := by
        rw [List.take_add_one, hg]
        simp
      repeat' (first | refine sy_idxX (q := j.k) (h := ?_) | refine sy_ldX (q := j.k) (u := .int .i64 (g : Nat)) (hF := fun w h => hc1 w h) (h := ?_) | refine sw_bslS (size := 5) (vs := [(entA k c.actsL g).v]) (css := (entA k c.actsL g).cells) (hsz := by rfl) (hcs := by rfl) (h := fun _ => ?_) | apply sw_nil | apply cw_seq | apply cw_reg | refine sy_move (h := ?_) | refine sy_assign (h := ?_) | refine sy_nilCheck (h := ?_) | refine sy_fld (h := ?_) | refine sy_ld (h := ?_) | refine sy_ldAll (h := ?_) | refine sy_pick_t (h := ?_) | refine sy_pick_f (h := ?_) | refine sy_not (h := ?_) | refine sy_eql (h := ?_) | refine sy_neq (h := ?_) | refine sy_lss (h := ?_) | refine sy_leq (h := ?_) | refine sy_gtr (h := ?_) | refine sy_geq (h := ?_) | refine sy_seql (h := ?_) | refine sy_sneq (h := ?_) | refine sy_slen (h := ?_) | refine sy_len (h := ?_) | refine sy_extract (h := ?_) | refine sy_add (h := ?_) | refine sy_sub (h := ?_) | refine sw_skipT (h := ?_) | refine sw_skipF (h := ?_) | refine sw_skipU (h := ?_) | refine sw_alloc (h := fun _ => ?_) | refine sw_box (h := fun _ => ?_) | refine sw_rangeS (h := fun _ => ?_) | refine sw_nextS (h1 := fun _ => ?_) (h2 := fun _ => ?_) | refine sw_bsl (h := fun _ => ?_) | refine sw_st1 (h := ?_) | refine sw_stAll (h := ?_) | refine cw_cond_t (ht := ?_) | refine cw_cond_f (hf := ?_) | apply cw_skip | apply cw_block | apply cw_ret | apply cw_exit | refine sy_and (h := ?_) | refine sy_or (h := ?_) | refine sy_xor (h := ?_) | refine sy_andNot (h := ?_) | refine sy_xorU (h := ?_) | refine sy_shl (h := ?_) | refine sy_shr (h := ?_) | refine sy_mul (h := ?_) | refine sy_int (h := ?_) | refine sy_beql (h := ?_) | refine sy_bneq (h := ?_) | refine sy_min (h := ?_) | refine sy_max (h := ?_) | refine sy_arrA (h := ?_) | refine sy_strI (h := ?_) | (refine sy_lookup1 (κ := Int) (kk := (g : Nat)) (o := some (entA k c.actsL g).v) (hl := map_loc (by (repeat (first | exact List.mem_cons_self | apply List.mem_cons_of_mem)))) (ho := mget_idx _ g G hgm) (h := ?_)) | ((fail_if_success (refine sw_chk (h := ?_))); refine sw_guard (ht := ?_) (hf := ?_); all_goals (intro hx_; first | have := of_decide_eq_true hx_ | have := of_decide_eq_false hx_ | skip)) | (refine cw_cond (ht := ?_) (hf := ?_); all_goals (intro hx_; first | have := of_decide_eq_true hx_ | have := of_decide_eq_false hx_ | skip)))
      refine sw_append (size := 5) (news := (entA k c.actsL g).cells) (q := 1) rfl rfl rfl rfl (fun _ => At.there _ (At.here _)) (fun w G => src_cel G List.mem_cons_self rfl rfl 1) ?_ ?_ rfl ?_ rfl ?_
      · omega
      · simp only [maxLen]; omega
      · rfl
      intro A3 c3
      repeat' (first | apply sw_nil | apply cw_seq | apply cw_reg | refine sy_move (h := ?_) | refine sy_assign (h := ?_) | refine sy_nilCheck (h := ?_) | refine sy_fld (h := ?_) | refine sy_ld (h := ?_) | refine sy_ldAll (h := ?_) | refine sy_pick_t (h := ?_) | refine sy_pick_f (h := ?_) | refine sy_not (h := ?_) | refine sy_eql (h := ?_) | refine sy_neq (h := ?_) | refine sy_lss (h := ?_) | refine sy_leq (h := ?_) | refine sy_gtr (h := ?_) | refine sy_geq (h := ?_) | refine sy_seql (h := ?_) | refine sy_sneq (h := ?_) | refine sy_slen (h := ?_) | refine sy_len (h := ?_) | refine sy_extract (h := ?_) | refine sy_add (h := ?_) | refine sy_sub (h := ?_) | refine sw_skipT (h := ?_) | refine sw_skipF (h := ?_) | refine sw_skipU (h := ?_) | refine sw_alloc (h := fun _ => ?_) | refine sw_box (h := fun _ => ?_) | refine sw_rangeS (h := fun _ => ?_) | refine sw_nextS (h1 := fun _ => ?_) (h2 := fun _ => ?_) | refine sw_bsl (h := fun _ => ?_) | refine sw_st1 (h := ?_) | refine sw_stAll (h := ?_) | refine cw_cond_t (ht := ?_) | refine cw_cond_f (hf := ?_) | apply cw_skip | apply cw_block | apply cw_ret | apply cw_exit | refine sy_and (h := ?_) | refine sy_or (h := ?_) | refine sy_xor (h := ?_) | refine sy_andNot (h := ?_) | refine sy_xorU (h := ?_) | refine sy_shl (h := ?_) | refine sy_shr (h := ?_) | refine sy_mul (h := ?_) | refine sy_int (h := ?_) | refine sy_beql (h := ?_) | refine sy_bneq (h := ?_) | refine sy_min (h := ?_) | refine sy_max (h := ?_) | refine sy_arrA (h := ?_) | refine sy_strI (h := ?_))
      refine ⟨(⟨j.k + 1, hlt, A3, c3⟩ : FilS G.length), (by show G.length - (j.k + 1) < G.length - j.k; omega), ok_sub ⟨rfl, rfl, rfl, rfl, rfl, trivial⟩ ?_ fun _ h => h⟩
      show List.Sublist [orow 80 5 _ _ ((G.take (j.k + 1)).map fun j => (entA k c.actsL j).cells).flatten, _] _
      rw [hfl]
      exact List.Sublist.cons _ (List.Sublist.refl _)
    · have hk : j.k = G.length := by omega
      refine ends_ret (res_tmp rfl rfl) ⟨⟨j.A, j.k, j.c⟩, rfl, fun w h => ?_⟩
      have h1 := h.2 _ List.mem_cons_self
      have e1 : ((G.take j.k).map fun j => (entA k c.actsL j).cells) = (G.map (entA k c.actsL)).map EntD.cells := by
        rw [hk, List.take_length, List.map_map]; rfl
      rw [e1] at h1
      exact rows_of_orow h1 (by simp [hk]) (by
        intro r hr
        obtain ⟨x, _, rfl⟩ := List.mem_map.1 hr
        rfl)
end Go.Proofs.YtfpojkoddcdojaaGreatDoor

/- lists.Of: the data and the contract. -/
set_option linter.unusedVariables false
set_option linter.unusedSimpArgs false
namespace Go.Proofs.YtfpojkoddcdojaaGreatDoor
open Go Go.Proofs Sy Go.Sort
def hasK (ks : List ByteArray) (k : ByteArray) : Bool := ks.any fun y => KeyT.eqb k y
theorem mget_set : ∀ (ks : List ByteArray) (k : ByteArray), mget (setM ks) k = bif hasK ks k then some (.bool true) else none
  | [], _ => rfl
  | a :: ks, k => by
    have ih := mget_set ks k
    simp only [setM, List.map_cons, mget, hasK, List.any_cons] at ih ⊢
    cases KeyT.eqb k a with
    | true => rfl
    | false => simpa using ih
def bestStep (now : Int) (b : List (ByteArray × EntD)) (e : EntD) : List (ByteArray × EntD) :=
  bif decide (e.l.until_ ≤ now) then b else
    match mget b e.l.actor with
    | none => mput b e.l.actor e
    | some old => bif (!eqED e old) && betV e old then mput b e.l.actor e else b
def bestF (l : List ChainD) (now : Int) (ks : List ByteArray) : Nat → List ByteArray × List (ByteArray × EntD)
  | 0 => ([], [])
  | i + 1 => bif hasK (bestF l now ks i).1 (ks.getD i .empty) then bestF l now ks i else (sput (bestF l now ks i).1 (ks.getD i .empty), (entsV l (ks.getD i .empty)).foldl (bestStep now) (bestF l now ks i).2)
def bm (b : List (ByteArray × EntD)) : List (ByteArray × Value) := b.map fun p => (p.1, p.2.v)
theorem mget_bm (b : List (ByteArray × EntD)) (k : ByteArray) : mget (bm b) k = (mget b k).map EntD.v := mget_map EntD.v b k
theorem mput_bm (b : List (ByteArray × EntD)) (k : ByteArray) (e : EntD) : mput (bm b) k e.v = bm (mput b k e) := mput_map EntD.v b k e
def EntD.zero : EntD := ⟨ListD.zero, 0⟩
def ofV (l : List ChainD) (ks : List ByteArray) (now : Int) : List ListD := (sortB ((bestF l now ks ks.length).2.map (·.1))).map fun a => ((mget (bestF l now ks ks.length).2 a).getD EntD.zero).l
theorem foldl_take {α β : Type} (f : β → α → β) (b : β) (E : List α) {j : Nat} {e : α} (h : E[j]? = some e) : (E.take (j + 1)).foldl f b = f ((E.take j).foldl f b) e := by
  rw [List.take_add_one, h]
  simp
section
variable {N : Nat} {av bor : List Nat} {w0 : World} {ops : Array Oper} {rest : List Oper} {k : St → Prop} {E : Env} {loc : List Res} {X : World → Prop} {x : Operand} {st : St}
variable {n : Nat} {ty : TypeId} {pos : String} {af : Array Edge} {g : Option (Nat × Bool)} {bb want : Bool}
theorem y_fieldE (e : EntD) (hx : ev st.env x = some e.v) : Sy.Yields Tryz.prog N av bor w0 st (.field 80 x 0) ty e.l.v := Sy.Yields.mk fun A w ok d pos af g => by
  have p0 : (part 30 e.cells.toArray 0).run Tryz.prog w = .ok e.l.v w := by
    have hs : (sizeOf 30).run Tryz.prog w = .ok 4 w := Sy.run_sizeOf (P := Tryz.prog) (t := 30) (n := 4) (by kernel_rfl) w
    simp [part, isAgg, run_underlying Tryz.underlying30, hs]
    rfl
  simp only [EntD.v] at hx
  simp [execOp, ok.eval hx, Instr.field, run_underlying Tryz.underlying80, asAgg, p0]
theorem sy_fieldE (e : EntD) (hx : ev E x = some e.v := by rfl) (hg : gdB ops E g = some (bb, want) := by rfl) (hbb : bb = want := by (first | with_reducible rfl | with_reducible assumption | with_reducible exact Bool.not_false | with_reducible exact Bool.not_true)) (hd : Nat.blt n N = true := by rfl) (h : Sw Tryz.prog N av bor w0 ops rest ⟨(n, e.l.v) :: E, loc, X⟩ k) :
    Sw Tryz.prog N av bor w0 ops (⟨some n, .field 80 x 0, ty, pos, af, g⟩ :: rest) ⟨E, loc, X⟩ k := sw_yield (y_fieldE e hx) hg hbb hd h
end
theorem mget_atK {β : Type} : ∀ {b : List (ByteArray × β)} {a : ByteArray}, a ∈ b.map (·.1) → ∃ e, mget b a = some e
  | [], a, h => by cases h
  | (k', v') :: r, a, h => by
    simp only [mget]
    cases hk : KeyT.eqb a k' with
    | true => exact ⟨v', rfl⟩
    | false =>
      simp only [List.map_cons, List.mem_cons] at h
      rcases h with rfl | h
      · rw [(KeyT.eqb_iff a a).2 rfl] at hk; cases hk
      · exact mget_atK h
structure BBnd (m : Nat) (b : List (ByteArray × EntD)) : Prop where
  len : b.length ≤ m
  size : ∀ p ∈ b, p.1.size ≤ maxLen
theorem mput_bnd {k : ByteArray} {e : EntD} (hk : k.size ≤ maxLen) : ∀ {b : List (ByteArray × EntD)} {m : Nat}, BBnd m b → BBnd (m + 1) (mput b k e)
  | [], m, h => ⟨by simp [mput], by simp [mput, hk]⟩
  | p :: r, m, h => by
    obtain ⟨k', v'⟩ := p
    have hl := h.len
    simp only [List.length_cons] at hl
    simp only [mput]
    cases KeyT.eqb k k' with
    | true => exact ⟨by simp only [cond_true, List.length_cons]; omega, fun q hq => by
        rcases List.mem_cons.1 hq with rfl | hq
        · exact hk
        · exact h.size q (List.mem_cons_of_mem _ hq)⟩
    | false =>
      have ih := mput_bnd (e := e) hk (b := r) (m := m - 1) ⟨by omega, fun q hq => h.size q (List.mem_cons_of_mem _ hq)⟩
      exact ⟨by have := ih.len; simp only [cond_false, List.length_cons]; omega, fun q hq => by
        rcases List.mem_cons.1 hq with rfl | hq
        · exact h.size _ List.mem_cons_self
        · exact ih.size q hq⟩
theorem BBnd.mono {m m' : Nat} {b : List (ByteArray × EntD)} (h : BBnd m b) (hm : m ≤ m') : BBnd m' b := ⟨Nat.le_trans h.len hm, h.size⟩
theorem bestStep_bnd {m : Nat} {now : Int} {b : List (ByteArray × EntD)} {e : EntD} (h : BBnd m b) (he : e.l.actor.size ≤ maxLen) : BBnd (m + 1) (bestStep now b e) := by
  unfold bestStep
  cases decide (e.l.until_ ≤ now) with
  | true => exact h.mono (Nat.le_succ m)
  | false =>
    simp only [cond_false]
    split
    · exact mput_bnd he h
    · cases (!eqED e _ && betV e _) with
      | true => exact mput_bnd he h
      | false => exact h.mono (Nat.le_succ m)
theorem fold_bnd {now : Int} : ∀ (E : List EntD) {m : Nat} {b : List (ByteArray × EntD)}, BBnd m b → (∀ e ∈ E, e.l.actor.size ≤ maxLen) → BBnd (m + E.length) (E.foldl (bestStep now) b)
  | [], m, b, h, _ => h
  | e :: E, m, b, h, he => by
    have := fold_bnd (now := now) E (bestStep_bnd (now := now) h (he e List.mem_cons_self)) fun x hx => he x (List.mem_cons_of_mem _ hx)
    simp only [List.foldl_cons, List.length_cons]
    exact this.mono (by omega)
theorem ents_bnd {l : List ChainD} (hok : ∀ c ∈ l, ActsOk c.actsL) (hlen : ∀ c ∈ l, c.actsL.length ≤ 1000) (k : ByteArray) : (entsV l k).length ≤ 1000 ∧ ∀ e ∈ entsV l k, e.l.actor.size ≤ maxLen := by
  unfold entsV
  cases hf : findC l k with
  | none => simp
  | some c =>
    have hcm := findC_mem hf
    refine ⟨?_, fun e he => ?_⟩
    · have h1 := foundF_len c.actsL c.actsL.length
      have h2 := hlen c hcm
      simp only [List.length_map]
      omega
    · obtain ⟨j, hj, rfl⟩ := List.mem_map.1 he
      have hj2 := foundF_lt _ _ _ hj
      show (c.actsL.getD j ActD.zero).target.size ≤ maxLen
      rw [List.getD_eq_getElem?_getD, List.getElem?_eq_getElem hj2]
      exact ((hok c hcm).sm _ (List.getElem_mem hj2)).target
theorem bestF_bnd {l : List ChainD} (hok : ∀ c ∈ l, ActsOk c.actsL) (hlen : ∀ c ∈ l, c.actsL.length ≤ 1000) (now : Int) (ks : List ByteArray) : ∀ i, BBnd (i * 1000) (bestF l now ks i).2
  | 0 => ⟨by simp [bestF], by simp [bestF]⟩
  | i + 1 => by
    have ih := bestF_bnd hok hlen now ks i
    simp only [bestF]
    cases hasK (bestF l now ks i).1 (ks.getD i .empty) with
    | true => exact ih.mono (by omega)
    | false =>
      have he := ents_bnd hok hlen (ks.getD i .empty)
      exact (fold_bnd (entsV l (ks.getD i .empty)) ih he.2).mono (by have := he.1; omega)
set_option maxHeartbeats 2000000 in
theorem of_mk (s : SlV) (l : List ChainD) (sk : SlV) (ks : List ByteArray) (now : Int) (hok : ∀ c ∈ l, ActsOk c.actsL) (hlen : ∀ c ∈ l, c.actsL.length ≤ 1000) (hkl : ks.length ≤ 1000) :
    Mk Tryz.prog 13 #[s.v, sk.v, .int .i64 now] (fun w => Chains w s l ∧ Strs w sk ks ∧ Glob w) fun u X => ∃ S : SlV, u = S.v ∧ ∀ w, X w → Lists w S (ofV l ks now) := by
  refine mk_of_cw2 (args := [_, _, _]) _ Tryz.func13 rfl Tryz.ntmps13 rfl fun av bor w0 => ?_
  refine cw_know (p := sk.n = ks.length ∧ sk.n ≤ maxLen ∧ (0 < ks.length → sk.p.isSome = true)) (fun w h => ⟨h.2.1.len_, Nat.le_trans (RowsD.cap h.2.1) (RowsD.max h.2.1), h.2.1.some_⟩) fun ⟨hl, hm, hp⟩ => ?_
  simp only [maxLen] at hm
  have hS : ∀ i, bestF l now ks (i + 1) = _ := fun i => bestF.eq_2 l now ks i
  have hB := bestF_bnd hok hlen now ks
  have hofV : ofV l ks now = (sortB ((bestF l now ks ks.length).2.map (·.1))).map fun a => ((mget (bestF l now ks ks.length).2 a).getD EntD.zero).l := rfl
  generalize hFg : bestF l now ks = F at *
  repeat' (first | apply sw_nil | apply cw_seq | apply cw_reg | refine sy_move (h := ?_) | refine sy_assign (h := ?_) | refine sy_nilCheck (h := ?_) | refine sy_fld (h := ?_) | refine sy_ld (h := ?_) | refine sy_ldAll (h := ?_) | refine sy_pick_t (h := ?_) | refine sy_pick_f (h := ?_) | refine sy_not (h := ?_) | refine sy_eql (h := ?_) | refine sy_neq (h := ?_) | refine sy_lss (h := ?_) | refine sy_leq (h := ?_) | refine sy_gtr (h := ?_) | refine sy_geq (h := ?_) | refine sy_seql (h := ?_) | refine sy_sneq (h := ?_) | refine sy_slen (h := ?_) | refine sy_len (h := ?_) | refine sy_extract (h := ?_) | refine sy_add (h := ?_) | refine sy_sub (h := ?_) | refine sw_skipT (h := ?_) | refine sw_skipF (h := ?_) | refine sw_skipU (h := ?_) | refine sw_alloc (h := fun _ => ?_) | refine sw_box (h := fun _ => ?_) | refine sw_rangeS (h := fun _ => ?_) | refine sw_nextS (h1 := fun _ => ?_) (h2 := fun _ => ?_) | refine sw_bsl (h := fun _ => ?_) | refine sw_st1 (h := ?_) | refine sw_stAll (h := ?_) | refine cw_cond_t (ht := ?_) | refine cw_cond_f (hf := ?_) | apply cw_skip | apply cw_block | apply cw_ret | apply cw_exit | refine sy_and (h := ?_) | refine sy_or (h := ?_) | refine sy_xor (h := ?_) | refine sy_andNot (h := ?_) | refine sy_xorU (h := ?_) | refine sy_shl (h := ?_) | refine sy_shr (h := ?_) | refine sy_mul (h := ?_) | refine sy_int (h := ?_) | refine sy_beql (h := ?_) | refine sy_bneq (h := ?_) | refine sy_min (h := ?_) | refine sy_max (h := ?_) | refine sy_arrA (h := ?_) | refine sy_strI (h := ?_) | (refine sw_makeMap ByteArray (h := fun _ => ?_)) | ((fail_if_success (refine sw_chk (h := ?_))); refine sw_guard (ht := ?_) (hf := ?_); all_goals (intro hx_; first | have := of_decide_eq_true hx_ | have := of_decide_eq_false hx_ | skip)) | (refine cw_cond (ht := ?_) (hf := ?_); all_goals (intro hx_; first | have := of_decide_eq_true hx_ | have := of_decide_eq_false hx_ | skip)))
  rename_i q1 q2
  refine cw_loop (ι := Kth ks.length) (fun i => ⟨[(0, s.v), (2, .int .i64 now), (7, .map (some q1)), (8, .map (some q2)), (20, sk.v), (21, .int .i64 sk.n), (22, .int .i64 i.k)],
    [mapr q2 (setM (F i.k).1), mapr q1 (bm (F i.k).2)], fun w => Chains w s l ∧ Strs w sk ks ∧ Glob w⟩) (fun i => ks.length - i.k) ⟨0, Nat.zero_le _⟩ (ok_sub ⟨rfl, rfl, rfl, rfl, rfl, rfl, rfl, trivial⟩ (by rw [← hFg]; exact List.Sublist.refl _) fun _ h => h) fun i => ?_
  have hik := i.hk
  repeat' (first | apply sw_nil | apply cw_seq | apply cw_reg | refine sy_move (h := ?_) | refine sy_assign (h := ?_) | refine sy_nilCheck (h := ?_) | refine sy_fld (h := ?_) | refine sy_ld (h := ?_) | refine sy_ldAll (h := ?_) | refine sy_pick_t (h := ?_) | refine sy_pick_f (h := ?_) | refine sy_not (h := ?_) | refine sy_eql (h := ?_) | refine sy_neq (h := ?_) | refine sy_lss (h := ?_) | refine sy_leq (h := ?_) | refine sy_gtr (h := ?_) | refine sy_geq (h := ?_) | refine sy_seql (h := ?_) | refine sy_sneq (h := ?_) | refine sy_slen (h := ?_) | refine sy_len (h := ?_) | refine sy_extract (h := ?_) | refine sy_add (h := ?_) | refine sy_sub (h := ?_) | refine sw_skipT (h := ?_) | refine sw_skipF (h := ?_) | refine sw_skipU (h := ?_) | refine sw_alloc (h := fun _ => ?_) | refine sw_box (h := fun _ => ?_) | refine sw_rangeS (h := fun _ => ?_) | refine sw_nextS (h1 := fun _ => ?_) (h2 := fun _ => ?_) | refine sw_bsl (h := fun _ => ?_) | refine sw_st1 (h := ?_) | refine sw_stAll (h := ?_) | refine cw_cond_t (ht := ?_) | refine cw_cond_f (hf := ?_) | apply cw_skip | apply cw_block | apply cw_ret | apply cw_exit | refine sy_and (h := ?_) | refine sy_or (h := ?_) | refine sy_xor (h := ?_) | refine sy_andNot (h := ?_) | refine sy_xorU (h := ?_) | refine sy_shl (h := ?_) | refine sy_shr (h := ?_) | refine sy_mul (h := ?_) | refine sy_int (h := ?_) | refine sy_beql (h := ?_) | refine sy_bneq (h := ?_) | refine sy_min (h := ?_) | refine sy_max (h := ?_) | refine sy_arrA (h := ?_) | refine sy_strI (h := ?_) | ((fail_if_success (refine sw_chk (h := ?_))); refine sw_guard (ht := ?_) (hf := ?_); all_goals (intro hx_; first | have := of_decide_eq_true hx_ | have := of_decide_eq_false hx_ | skip)) | (refine cw_cond (ht := ?_) (hf := ?_); all_goals (intro hx_; first | have := of_decide_eq_true hx_ | have := of_decide_eq_false hx_ | skip)))
  · have hlt : i.k < ks.length := by omega
    have hp' := hp (by omega)
    have hSx := hS i.k
    have hc1 : ∀ w, Chains w s l ∧ Strs w sk ks ∧ Glob w → CellAt w sk.p i.k (.string (ks.getD i.k .empty)) := fun w h => Strs.get h.2.1 hlt
    generalize ks.getD i.k .empty = x at *
    have hen := entries_mk s l x hok (fun c hc => Nat.le_trans (hlen c hc) (by decide))
    have hgs := mget_set (F i.k).1 x
    have hps := mput_set (F i.k).1 x
    generalize entsV l x = E at *
    cases hh : hasK (F i.k).1 x with
    | true =>
      rw [hh] at hgs hSx
      repeat' (first | refine sy_idxX (q := i.k) (h := ?_) | refine sy_ldX (q := i.k) (u := .string x) (hF := fun w h => hc1 w h) (h := ?_) | apply sw_nil | apply cw_seq | apply cw_reg | refine sy_move (h := ?_) | refine sy_assign (h := ?_) | refine sy_nilCheck (h := ?_) | refine sy_fld (h := ?_) | refine sy_ld (h := ?_) | refine sy_ldAll (h := ?_) | refine sy_pick_t (h := ?_) | refine sy_pick_f (h := ?_) | refine sy_not (h := ?_) | refine sy_eql (h := ?_) | refine sy_neq (h := ?_) | refine sy_lss (h := ?_) | refine sy_leq (h := ?_) | refine sy_gtr (h := ?_) | refine sy_geq (h := ?_) | refine sy_seql (h := ?_) | refine sy_sneq (h := ?_) | refine sy_slen (h := ?_) | refine sy_len (h := ?_) | refine sy_extract (h := ?_) | refine sy_add (h := ?_) | refine sy_sub (h := ?_) | refine sw_skipT (h := ?_) | refine sw_skipF (h := ?_) | refine sw_skipU (h := ?_) | refine sw_alloc (h := fun _ => ?_) | refine sw_box (h := fun _ => ?_) | refine sw_rangeS (h := fun _ => ?_) | refine sw_nextS (h1 := fun _ => ?_) (h2 := fun _ => ?_) | refine sw_bsl (h := fun _ => ?_) | refine sw_st1 (h := ?_) | refine sw_stAll (h := ?_) | refine cw_cond_t (ht := ?_) | refine cw_cond_f (hf := ?_) | apply cw_skip | apply cw_block | apply cw_ret | apply cw_exit | refine sy_and (h := ?_) | refine sy_or (h := ?_) | refine sy_xor (h := ?_) | refine sy_andNot (h := ?_) | refine sy_xorU (h := ?_) | refine sy_shl (h := ?_) | refine sy_shr (h := ?_) | refine sy_mul (h := ?_) | refine sy_int (h := ?_) | refine sy_beql (h := ?_) | refine sy_bneq (h := ?_) | refine sy_min (h := ?_) | refine sy_max (h := ?_) | refine sy_arrA (h := ?_) | refine sy_strI (h := ?_) | (refine sy_lookup1 (κ := ByteArray) (kk := x) (o := some (.bool true)) (hl := map_loc (by (repeat (first | exact List.mem_cons_self | apply List.mem_cons_of_mem)))) (ho := hgs) (h := ?_)) | ((fail_if_success (refine sw_chk (h := ?_))); refine sw_guard (ht := ?_) (hf := ?_); all_goals (intro hx_; first | have := of_decide_eq_true hx_ | have := of_decide_eq_false hx_ | skip)) | (refine cw_cond (ht := ?_) (hf := ?_); all_goals (intro hx_; first | have := of_decide_eq_true hx_ | have := of_decide_eq_false hx_ | skip)))
      simp only [cond_true] at hSx
      refine ⟨(⟨i.k + 1, hlt⟩ : Kth ks.length), (by show ks.length - (i.k + 1) < ks.length - i.k; omega), ok_sub ⟨rfl, rfl, rfl, rfl, rfl, rfl, rfl, trivial⟩ ?_ fun _ h => h⟩
      show List.Sublist [mapr q2 (setM (F (i.k + 1)).1), mapr q1 (bm (F (i.k + 1)).2)] _
      rw [hSx]
      exact List.Sublist.refl _
    | false =>
      rw [hh] at hgs hSx
      repeat' (first | refine sy_idxX (q := i.k) (h := ?_) | refine sy_ldX (q := i.k) (u := .string x) (hF := fun w h => hc1 w h) (h := ?_) | apply sw_nil | apply cw_seq | apply cw_reg | refine sy_move (h := ?_) | refine sy_assign (h := ?_) | refine sy_nilCheck (h := ?_) | refine sy_fld (h := ?_) | refine sy_ld (h := ?_) | refine sy_ldAll (h := ?_) | refine sy_pick_t (h := ?_) | refine sy_pick_f (h := ?_) | refine sy_not (h := ?_) | refine sy_eql (h := ?_) | refine sy_neq (h := ?_) | refine sy_lss (h := ?_) | refine sy_leq (h := ?_) | refine sy_gtr (h := ?_) | refine sy_geq (h := ?_) | refine sy_seql (h := ?_) | refine sy_sneq (h := ?_) | refine sy_slen (h := ?_) | refine sy_len (h := ?_) | refine sy_extract (h := ?_) | refine sy_add (h := ?_) | refine sy_sub (h := ?_) | refine sw_skipT (h := ?_) | refine sw_skipF (h := ?_) | refine sw_skipU (h := ?_) | refine sw_alloc (h := fun _ => ?_) | refine sw_box (h := fun _ => ?_) | refine sw_rangeS (h := fun _ => ?_) | refine sw_nextS (h1 := fun _ => ?_) (h2 := fun _ => ?_) | refine sw_bsl (h := fun _ => ?_) | refine sw_st1 (h := ?_) | refine sw_stAll (h := ?_) | refine cw_cond_t (ht := ?_) | refine cw_cond_f (hf := ?_) | apply cw_skip | apply cw_block | apply cw_ret | apply cw_exit | refine sy_and (h := ?_) | refine sy_or (h := ?_) | refine sy_xor (h := ?_) | refine sy_andNot (h := ?_) | refine sy_xorU (h := ?_) | refine sy_shl (h := ?_) | refine sy_shr (h := ?_) | refine sy_mul (h := ?_) | refine sy_int (h := ?_) | refine sy_beql (h := ?_) | refine sy_bneq (h := ?_) | refine sy_min (h := ?_) | refine sy_max (h := ?_) | refine sy_arrA (h := ?_) | refine sy_strI (h := ?_) | (refine sy_lookup1 (κ := ByteArray) (kk := x) (o := none) (hl := map_loc (by (repeat (first | exact List.mem_cons_self | apply List.mem_cons_of_mem)))) (ho := hgs) (h := ?_)) | (refine sw_update (κ := ByteArray) (kk := x) (hA := by (repeat (first | with_reducible exact At.here _ | apply At.there))) (h := ?_)) | (refine sw_mk (hc := hen) (hX := fun w h => ⟨h.1, h.2.2⟩) (h := fun v1 X1 h1 => ?_); obtain ⟨S, rfl, hs⟩ := h1) | ((fail_if_success (refine sw_chk (h := ?_))); refine sw_guard (ht := ?_) (hf := ?_); all_goals (intro hx_; first | have := of_decide_eq_true hx_ | have := of_decide_eq_false hx_ | skip)) | (refine cw_cond (ht := ?_) (hf := ?_); all_goals (intro hx_; first | have := of_decide_eq_true hx_ | have := of_decide_eq_false hx_ | skip)))
      rw [hps]
      simp only [cond_false] at hSx
      refine cw_know (fun w h => Ents.know w (hs w h.2)) fun ⟨hn1, hm1, hp1⟩ => ?_
      simp only [maxLen] at hm1
      generalize hsk : sput (F i.k).1 x = sn at *
      generalize hb0 : (F i.k).2 = b0 at *
      refine cw_loop (ι := Kth E.length) (fun j => ⟨[(0, s.v), (2, .int .i64 now), (7, .map (some q1)), (8, .map (some q2)), (20, sk.v), (21, .int .i64 sk.n), (22, .int .i64 i.k), (33, S.v), (34, .int .i64 S.n), (35, .int .i64 j.k)],
        [mapr q2 (setM sn), mapr q1 (bm ((E.take j.k).foldl (bestStep now) b0))], fun w => (Chains w s l ∧ Strs w sk ks ∧ Glob w) ∧ X1 w⟩) (fun j => E.length - j.k) ⟨0, Nat.zero_le _⟩ (ok_sub ⟨rfl, rfl, rfl, rfl, rfl, rfl, rfl, rfl, rfl, rfl, trivial⟩ (List.Sublist.refl _) fun _ h => h) fun j => ?_
      have hjk := j.hk
      repeat' (first | apply sw_nil | apply cw_seq | apply cw_reg | refine sy_move (h := ?_) | refine sy_assign (h := ?_) | refine sy_nilCheck (h := ?_) | refine sy_fld (h := ?_) | refine sy_ld (h := ?_) | refine sy_ldAll (h := ?_) | refine sy_pick_t (h := ?_) | refine sy_pick_f (h := ?_) | refine sy_not (h := ?_) | refine sy_eql (h := ?_) | refine sy_neq (h := ?_) | refine sy_lss (h := ?_) | refine sy_leq (h := ?_) | refine sy_gtr (h := ?_) | refine sy_geq (h := ?_) | refine sy_seql (h := ?_) | refine sy_sneq (h := ?_) | refine sy_slen (h := ?_) | refine sy_len (h := ?_) | refine sy_extract (h := ?_) | refine sy_add (h := ?_) | refine sy_sub (h := ?_) | refine sw_skipT (h := ?_) | refine sw_skipF (h := ?_) | refine sw_skipU (h := ?_) | refine sw_alloc (h := fun _ => ?_) | refine sw_box (h := fun _ => ?_) | refine sw_rangeS (h := fun _ => ?_) | refine sw_nextS (h1 := fun _ => ?_) (h2 := fun _ => ?_) | refine sw_bsl (h := fun _ => ?_) | refine sw_st1 (h := ?_) | refine sw_stAll (h := ?_) | refine cw_cond_t (ht := ?_) | refine cw_cond_f (hf := ?_) | apply cw_skip | apply cw_block | apply cw_ret | apply cw_exit | refine sy_and (h := ?_) | refine sy_or (h := ?_) | refine sy_xor (h := ?_) | refine sy_andNot (h := ?_) | refine sy_xorU (h := ?_) | refine sy_shl (h := ?_) | refine sy_shr (h := ?_) | refine sy_mul (h := ?_) | refine sy_int (h := ?_) | refine sy_beql (h := ?_) | refine sy_bneq (h := ?_) | refine sy_min (h := ?_) | refine sy_max (h := ?_) | refine sy_arrA (h := ?_) | refine sy_strI (h := ?_) | ((fail_if_success (refine sw_chk (h := ?_))); refine sw_guard (ht := ?_) (hf := ?_); all_goals (intro hx_; first | have := of_decide_eq_true hx_ | have := of_decide_eq_false hx_ | skip)) | (refine cw_cond (ht := ?_) (hf := ?_); all_goals (intro hx_; first | have := of_decide_eq_true hx_ | have := of_decide_eq_false hx_ | skip)))
      · have hlt2 : j.k < E.length := by omega
        have hp2 := hp1 (by omega)
        obtain ⟨e, he⟩ : ∃ e, E[j.k]? = some e := ⟨_, List.getElem?_eq_getElem hlt2⟩
        have hfo := foldl_take (bestStep now) b0 E he
        generalize (E.take j.k).foldl (bestStep now) b0 = b at *
        have hmb := mget_bm b e.l.actor
        have hpb := mput_bm b e.l.actor e
        cases ho : mget b e.l.actor with
        | none =>
          rw [ho] at hmb
          have hst : bestStep now b e = bif decide (e.l.until_ ≤ now) then b else mput b e.l.actor e := by unfold bestStep; rw [ho]
          repeat' (first | refine sy_idxX (q := j.k * 5) (h := ?_) | refine sy_ldXs (cs := e.cells) (hF := fun w h => Ents.get (hs w h.2) he) (h := ?_) | apply sw_nil | apply cw_seq | apply cw_reg | refine sy_move (h := ?_) | refine sy_assign (h := ?_) | refine sy_nilCheck (h := ?_) | refine sy_fld (h := ?_) | refine sy_ld (h := ?_) | refine sy_ldAll (h := ?_) | refine sy_pick_t (h := ?_) | refine sy_pick_f (h := ?_) | refine sy_not (h := ?_) | refine sy_eql (h := ?_) | refine sy_neq (h := ?_) | refine sy_lss (h := ?_) | refine sy_leq (h := ?_) | refine sy_gtr (h := ?_) | refine sy_geq (h := ?_) | refine sy_seql (h := ?_) | refine sy_sneq (h := ?_) | refine sy_slen (h := ?_) | refine sy_len (h := ?_) | refine sy_extract (h := ?_) | refine sy_add (h := ?_) | refine sy_sub (h := ?_) | refine sw_skipT (h := ?_) | refine sw_skipF (h := ?_) | refine sw_skipU (h := ?_) | refine sw_alloc (h := fun _ => ?_) | refine sw_box (h := fun _ => ?_) | refine sw_rangeS (h := fun _ => ?_) | refine sw_nextS (h1 := fun _ => ?_) (h2 := fun _ => ?_) | refine sw_bsl (h := fun _ => ?_) | refine sw_st1 (h := ?_) | refine sw_stAll (h := ?_) | refine cw_cond_t (ht := ?_) | refine cw_cond_f (hf := ?_) | apply cw_skip | apply cw_block | apply cw_ret | apply cw_exit | refine sy_and (h := ?_) | refine sy_or (h := ?_) | refine sy_xor (h := ?_) | refine sy_andNot (h := ?_) | refine sy_xorU (h := ?_) | refine sy_shl (h := ?_) | refine sy_shr (h := ?_) | refine sy_mul (h := ?_) | refine sy_int (h := ?_) | refine sy_beql (h := ?_) | refine sy_bneq (h := ?_) | refine sy_min (h := ?_) | refine sy_max (h := ?_) | refine sy_arrA (h := ?_) | refine sy_strI (h := ?_) | (refine sy_lookup2 (κ := ByteArray) (kk := e.l.actor) (o := none) (v := EntD.zero.v) (b := false) (hl := map_loc (by (repeat (first | exact List.mem_cons_self | apply List.mem_cons_of_mem)))) (ho := hmb) (h := ?_)) | (refine sw_update (κ := ByteArray) (kk := e.l.actor) (v := e.v) (hA := by (repeat (first | with_reducible exact At.here _ | apply At.there))) (h := ?_)) | ((fail_if_success (refine sw_chk (h := ?_))); refine sw_guard (ht := ?_) (hf := ?_); all_goals (intro hx_; first | have := of_decide_eq_true hx_ | have := of_decide_eq_false hx_ | skip)) | (refine cw_cond (ht := ?_) (hf := ?_); all_goals (intro hx_; first | have := of_decide_eq_true hx_ | have := of_decide_eq_false hx_ | skip)))
          · have e1 : bestStep now b e = b := by rw [hst, decide_eq_true (by assumption), cond_true]
            refine ⟨(⟨j.k + 1, hlt2⟩ : Kth E.length), (by show E.length - (j.k + 1) < E.length - j.k; omega), ok_sub ⟨rfl, rfl, rfl, rfl, rfl, rfl, rfl, rfl, rfl, rfl, trivial⟩ ?_ fun _ h => h⟩
            show List.Sublist [mapr q2 (setM sn), mapr q1 (bm ((E.take (j.k + 1)).foldl (bestStep now) b0))] _
            rw [hfo, e1]
            exact List.Sublist.cons _ (List.Sublist.refl _)
          · have e1 : bestStep now b e = mput b e.l.actor e := by rw [hst, decide_eq_false (by assumption), cond_false]
            refine ⟨(⟨j.k + 1, hlt2⟩ : Kth E.length), (by show E.length - (j.k + 1) < E.length - j.k; omega), ok_sub ⟨rfl, rfl, rfl, rfl, rfl, rfl, rfl, rfl, rfl, rfl, trivial⟩ ?_ fun _ h => h⟩
            show List.Sublist [mapr q2 (setM sn), mapr q1 (bm ((E.take (j.k + 1)).foldl (bestStep now) b0))] _
            rw [hfo, e1, ← hpb]
            exact List.Sublist.cons _ (List.Sublist.cons _ (List.Sublist.refl _))
        | some old =>
          rw [ho] at hmb
          have hst : bestStep now b e = bif decide (e.l.until_ ≤ now) then b else bif ((!eqED e old) && betV e old) then mput b e.l.actor e else b := by unfold bestStep; rw [ho]
          repeat' (first | refine sy_idxX (q := j.k * 5) (h := ?_) | refine sy_ldXs (cs := e.cells) (hF := fun w h => Ents.get (hs w h.2) he) (h := ?_) | refine sy_neqED e old (hx := by rfl) (hy := by rfl) (h := ?_) | apply sw_nil | apply cw_seq | apply cw_reg | refine sy_move (h := ?_) | refine sy_assign (h := ?_) | refine sy_nilCheck (h := ?_) | refine sy_fld (h := ?_) | refine sy_ld (h := ?_) | refine sy_ldAll (h := ?_) | refine sy_pick_t (h := ?_) | refine sy_pick_f (h := ?_) | refine sy_not (h := ?_) | refine sy_eql (h := ?_) | refine sy_neq (h := ?_) | refine sy_lss (h := ?_) | refine sy_leq (h := ?_) | refine sy_gtr (h := ?_) | refine sy_geq (h := ?_) | refine sy_seql (h := ?_) | refine sy_sneq (h := ?_) | refine sy_slen (h := ?_) | refine sy_len (h := ?_) | refine sy_extract (h := ?_) | refine sy_add (h := ?_) | refine sy_sub (h := ?_) | refine sw_skipT (h := ?_) | refine sw_skipF (h := ?_) | refine sw_skipU (h := ?_) | refine sw_alloc (h := fun _ => ?_) | refine sw_box (h := fun _ => ?_) | refine sw_rangeS (h := fun _ => ?_) | refine sw_nextS (h1 := fun _ => ?_) (h2 := fun _ => ?_) | refine sw_bsl (h := fun _ => ?_) | refine sw_st1 (h := ?_) | refine sw_stAll (h := ?_) | refine cw_cond_t (ht := ?_) | refine cw_cond_f (hf := ?_) | apply cw_skip | apply cw_block | apply cw_ret | apply cw_exit | refine sy_and (h := ?_) | refine sy_or (h := ?_) | refine sy_xor (h := ?_) | refine sy_andNot (h := ?_) | refine sy_xorU (h := ?_) | refine sy_shl (h := ?_) | refine sy_shr (h := ?_) | refine sy_mul (h := ?_) | refine sy_int (h := ?_) | refine sy_beql (h := ?_) | refine sy_bneq (h := ?_) | refine sy_min (h := ?_) | refine sy_max (h := ?_) | refine sy_arrA (h := ?_) | refine sy_strI (h := ?_) | (refine sy_lookup2 (κ := ByteArray) (kk := e.l.actor) (o := some old.v) (v := old.v) (b := true) (hl := map_loc (by (repeat (first | exact List.mem_cons_self | apply List.mem_cons_of_mem)))) (ho := hmb) (h := ?_)) | (refine sw_pu (hc := better_pu e old) (hX := fun w h => trivial) (h := ?_)) | (refine sw_update (κ := ByteArray) (kk := e.l.actor) (v := e.v) (hA := by (repeat (first | with_reducible exact At.here _ | apply At.there))) (h := ?_)) | ((fail_if_success (refine sw_chk (h := ?_))); refine sw_guard (ht := ?_) (hf := ?_); all_goals (intro hx_; first | have := of_decide_eq_true hx_ | have := of_decide_eq_false hx_ | skip)) | (refine cw_cond (ht := ?_) (hf := ?_); all_goals (intro hx_; first | have := of_decide_eq_true hx_ | have := of_decide_eq_false hx_ | skip)))
          all_goals first
            | (have e1 : bestStep now b e = b := by
                 first
                   | rw [hst, decide_eq_true (by assumption), cond_true]
                   | rw [hst, decide_eq_false (by assumption), cond_false, show (!eqED e old) = false from by assumption, Bool.false_and, cond_false]
                   | rw [hst, decide_eq_false (by assumption), cond_false, show (!eqED e old) = true from by assumption, show betV e old = false from by assumption, Bool.and_false, cond_false]
               refine ⟨(⟨j.k + 1, hlt2⟩ : Kth E.length), (by show E.length - (j.k + 1) < E.length - j.k; omega), ok_sub ⟨rfl, rfl, rfl, rfl, rfl, rfl, rfl, rfl, rfl, rfl, trivial⟩ ?_ fun _ h => h⟩
               show List.Sublist [mapr q2 (setM sn), mapr q1 (bm ((E.take (j.k + 1)).foldl (bestStep now) b0))] _
               rw [hfo, e1]
               first
                 | exact List.Sublist.cons _ (List.Sublist.refl _)
                 | exact List.Sublist.cons _ (List.Sublist.cons _ (List.Sublist.refl _)))
            | (have e1 : bestStep now b e = mput b e.l.actor e := by
                 rw [hst, decide_eq_false (by assumption), cond_false, show (!eqED e old) = true from by assumption, show betV e old = true from by assumption, Bool.and_true, cond_true]
               refine ⟨(⟨j.k + 1, hlt2⟩ : Kth E.length), (by show E.length - (j.k + 1) < E.length - j.k; omega), ok_sub ⟨rfl, rfl, rfl, rfl, rfl, rfl, rfl, rfl, rfl, rfl, trivial⟩ ?_ fun _ h => h⟩
               show List.Sublist [mapr q2 (setM sn), mapr q1 (bm ((E.take (j.k + 1)).foldl (bestStep now) b0))] _
               rw [hfo, e1, ← hpb]
               exact List.Sublist.cons _ (List.Sublist.cons _ (List.Sublist.refl _)))
      · have hj : j.k = E.length := by omega
        refine ⟨(⟨i.k + 1, hlt⟩ : Kth ks.length), (by show ks.length - (i.k + 1) < ks.length - i.k; omega), ok_sub ⟨rfl, rfl, rfl, rfl, rfl, rfl, rfl, trivial⟩ ?_ fun _ h => h.1⟩
        show List.Sublist [mapr q2 (setM (F (i.k + 1)).1), mapr q1 (bm (F (i.k + 1)).2)] _
        rw [hSx, hj, List.take_length]
        exact List.Sublist.refl _
  · have hik' : i.k = ks.length := by omega
    rw [hik']
    have hBx := hB ks.length
    generalize (F ks.length).2 = b at *
    have hbl : b.length ≤ 1000000 := by have := hBx.len; have : ks.length * 1000 ≤ 1000000 := Nat.mul_le_mul_right 1000 hkl; omega
    have hml : (bm b).length = b.length := by simp [bm]
    have hmk : (bm b).map (·.1) = b.map (·.1) := by simp [bm, Function.comp_def]
    refine sw_drop (l := [mapr q1 (bm b)]) (List.Sublist.cons _ (List.Sublist.refl _)) ?_
    refine sw_fn0 (hc := keysES_c.ct (some q1)) (hX := fun _ _ => trivial) (h := ?_)
    rintro v1 R1 X1 ⟨bk, rfl, rfl⟩
    refine sw_fn (pre := [cel bk 75 [.map (some q1)], mapr q1 (bm b)]) (fr := []) (hc := sortedES_c.ct bk q1 (bm b) (fun p hp => ?_) (by omega)) (hX := fun _ _ => trivial) (h := ?_)
    · simp only [bm, List.mem_map] at hp
      obtain ⟨p', hp', rfl⟩ := hp
      exact hBx.size p' hp'
    rintro v2 R2 X2 ⟨A, c2, rfl, rfl⟩
    rw [hml, hmk]
    have hKl : (sortB (b.map (·.1))).length = b.length := by rw [sortB_len, List.length_map]
    have hKm : ∀ a ∈ sortB (b.map (·.1)), ∃ e, mget b a = some e := fun a ha => mget_atK (mem_sortB.1 ha)
    generalize sortB (b.map (·.1)) = K at *
    refine sw_give ?_
    repeat' (first | apply sw_nil | apply cw_seq | apply cw_reg | refine sy_move (h := ?_) | refine sy_assign (h := ?_) | refine sy_nilCheck (h := ?_) | refine sy_fld (h := ?_) | refine sy_ld (h := ?_) | refine sy_ldAll (h := ?_) | refine sy_pick_t (h := ?_) | refine sy_pick_f (h := ?_) | refine sy_not (h := ?_) | refine sy_eql (h := ?_) | refine sy_neq (h := ?_) | refine sy_lss (h := ?_) | refine sy_leq (h := ?_) | refine sy_gtr (h := ?_) | refine sy_geq (h := ?_) | refine sy_seql (h := ?_) | refine sy_sneq (h := ?_) | refine sy_slen (h := ?_) | refine sy_len (h := ?_) | refine sy_extract (h := ?_) | refine sy_add (h := ?_) | refine sy_sub (h := ?_) | refine sw_skipT (h := ?_) | refine sw_skipF (h := ?_) | refine sw_skipU (h := ?_) | refine sw_alloc (h := fun _ => ?_) | refine sw_box (h := fun _ => ?_) | refine sw_rangeS (h := fun _ => ?_) | refine sw_nextS (h1 := fun _ => ?_) (h2 := fun _ => ?_) | refine sw_bsl (h := fun _ => ?_) | refine sw_st1 (h := ?_) | refine sw_stAll (h := ?_) | refine cw_cond_t (ht := ?_) | refine cw_cond_f (hf := ?_) | apply cw_skip | apply cw_block | apply cw_ret | apply cw_exit | refine sy_and (h := ?_) | refine sy_or (h := ?_) | refine sy_xor (h := ?_) | refine sy_andNot (h := ?_) | refine sy_xorU (h := ?_) | refine sy_shl (h := ?_) | refine sy_shr (h := ?_) | refine sy_mul (h := ?_) | refine sy_int (h := ?_) | refine sy_beql (h := ?_) | refine sy_bneq (h := ?_) | refine sy_min (h := ?_) | refine sy_max (h := ?_) | refine sy_arrA (h := ?_) | refine sy_strI (h := ?_))
    refine cw_imp (X' := fun w => Strs w ⟨A, b.length, c2⟩ K) (fun w h => strs_of_orow h.2 hKl.symm) ?_
    refine cw_know (p := 0 < K.length → A.isSome = true) (fun w h => h.some_) fun hpA => ?_
    refine cw_nilRow 30 4 ?_
    refine cw_loop (ι := FilS K.length) (fun j => ⟨[(7, .map (some q1)), (15, .slice j.A j.k j.c), (73, .slice A b.length c2), (74, .int .i64 (b.length : Nat)), (75, .int .i64 j.k)],
      [orow 30 4 (.slice j.A j.k j.c) j.k ((K.take j.k).map fun a => ((mget b a).getD EntD.zero).l.cells).flatten, mapr q1 (bm b)], fun w => Strs w ⟨A, b.length, c2⟩ K⟩) (fun j => K.length - j.k) ⟨0, Nat.zero_le _, none, 0⟩
      (ok_sub ⟨rfl, rfl, rfl, rfl, rfl, trivial⟩ (List.Sublist.cons_cons _ (List.Sublist.cons _ (List.Sublist.cons_cons _ (List.nil_sublist _)))) fun _ h => h) fun j => ?_
    have hjk := j.hk
    repeat' (first | apply sw_nil | apply cw_seq | apply cw_reg | refine sy_move (h := ?_) | refine sy_assign (h := ?_) | refine sy_nilCheck (h := ?_) | refine sy_fld (h := ?_) | refine sy_ld (h := ?_) | refine sy_ldAll (h := ?_) | refine sy_pick_t (h := ?_) | refine sy_pick_f (h := ?_) | refine sy_not (h := ?_) | refine sy_eql (h := ?_) | refine sy_neq (h := ?_) | refine sy_lss (h := ?_) | refine sy_leq (h := ?_) | refine sy_gtr (h := ?_) | refine sy_geq (h := ?_) | refine sy_seql (h := ?_) | refine sy_sneq (h := ?_) | refine sy_slen (h := ?_) | refine sy_len (h := ?_) | refine sy_extract (h := ?_) | refine sy_add (h := ?_) | refine sy_sub (h := ?_) | refine sw_skipT (h := ?_) | refine sw_skipF (h := ?_) | refine sw_skipU (h := ?_) | refine sw_alloc (h := fun _ => ?_) | refine sw_box (h := fun _ => ?_) | refine sw_rangeS (h := fun _ => ?_) | refine sw_nextS (h1 := fun _ => ?_) (h2 := fun _ => ?_) | refine sw_bsl (h := fun _ => ?_) | refine sw_st1 (h := ?_) | refine sw_stAll (h := ?_) | refine cw_cond_t (ht := ?_) | refine cw_cond_f (hf := ?_) | apply cw_skip | apply cw_block | apply cw_ret | apply cw_exit | refine sy_and (h := ?_) | refine sy_or (h := ?_) | refine sy_xor (h := ?_) | refine sy_andNot (h := ?_) | refine sy_xorU (h := ?_) | refine sy_shl (h := ?_) | refine sy_shr (h := ?_) | refine sy_mul (h := ?_) | refine sy_int (h := ?_) | refine sy_beql (h := ?_) | refine sy_bneq (h := ?_) | refine sy_min (h := ?_) | refine sy_max (h := ?_) | refine sy_arrA (h := ?_) | refine sy_strI (h := ?_) | ((fail_if_success (refine sw_chk (h := ?_))); refine sw_guard (ht := ?_) (hf := ?_); all_goals (intro hx_; first | have := of_decide_eq_true hx_ | have := of_decide_eq_false hx_ | skip)) | (refine cw_cond (ht := ?_) (hf := ?_); all_goals (intro hx_; first | have := of_decide_eq_true hx_ | have := of_decide_eq_false hx_ | skip)))
    · have hltj : j.k < K.length := by omega
      have hpA' := hpA (by omega)
      obtain ⟨a, ha⟩ : ∃ a, K[j.k]? = some a := ⟨_, List.getElem?_eq_getElem hltj⟩
      obtain ⟨e, he⟩ := hKm a (List.mem_of_getElem? ha)
      have hmb : mget (bm b) a = some e.v := by rw [mget_bm, he]; rfl
      have hfl : ((K.take (j.k + 1)).map fun a => ((mget b a).getD EntD.zero).l.cells).flatten = ((K.take j.k).map fun a => ((mget b a).getD EntD.zero).l.cells).flatten ++ e.l.cells := by
        rw [List.take_add_one, ha]
        simp [he]
      generalize ((K.take j.k).map fun a => ((mget b a).getD EntD.zero).l.cells).flatten = acc at *
      repeat' (first | refine sy_idxX (q := j.k) (h := ?_) | refine sy_ldX (q := j.k) (u := .string a) (hF := fun w h => h.at_ ha) (h := ?_) | refine sw_bslS (size := 4) (vs := [e.l.v]) (css := e.l.cells) (hsz := by rfl) (hcs := by rfl) (h := fun _ => ?_) | apply sw_nil | apply cw_seq | apply cw_reg | refine sy_move (h := ?_) | refine sy_assign (h := ?_) | refine sy_nilCheck (h := ?_) | refine sy_fld (h := ?_) | refine sy_ld (h := ?_) | refine sy_ldAll (h := ?_) | refine sy_pick_t (h := ?_) | refine sy_pick_f (h := ?_) | refine sy_not (h := ?_) | refine sy_eql (h := ?_) | refine sy_neq (h := ?_) | refine sy_lss (h := ?_) | refine sy_leq (h := ?_) | refine sy_gtr (h := ?_) | refine sy_geq (h := ?_) | refine sy_seql (h := ?_) | refine sy_sneq (h := ?_) | refine sy_slen (h := ?_) | refine sy_len (h := ?_) | refine sy_extract (h := ?_) | refine sy_add (h := ?_) | refine sy_sub (h := ?_) | refine sw_skipT (h := ?_) | refine sw_skipF (h := ?_) | refine sw_skipU (h := ?_) | refine sw_alloc (h := fun _ => ?_) | refine sw_box (h := fun _ => ?_) | refine sw_rangeS (h := fun _ => ?_) | refine sw_nextS (h1 := fun _ => ?_) (h2 := fun _ => ?_) | refine sw_bsl (h := fun _ => ?_) | refine sw_st1 (h := ?_) | refine sw_stAll (h := ?_) | refine cw_cond_t (ht := ?_) | refine cw_cond_f (hf := ?_) | apply cw_skip | apply cw_block | apply cw_ret | apply cw_exit | refine sy_and (h := ?_) | refine sy_or (h := ?_) | refine sy_xor (h := ?_) | refine sy_andNot (h := ?_) | refine sy_xorU (h := ?_) | refine sy_shl (h := ?_) | refine sy_shr (h := ?_) | refine sy_mul (h := ?_) | refine sy_int (h := ?_) | refine sy_beql (h := ?_) | refine sy_bneq (h := ?_) | refine sy_min (h := ?_) | refine sy_max (h := ?_) | refine sy_arrA (h := ?_) | refine sy_strI (h := ?_) | (refine sy_lookup1 (κ := ByteArray) (kk := a) (o := some e.v) (hl := map_loc (by (repeat (first | exact List.mem_cons_self | apply List.mem_cons_of_mem)))) (ho := hmb) (h := ?_)) | (refine sy_fieldE e (hx := by rfl) (h := ?_)) | (refine sw_append (size := 4) (news := e.l.cells) (q := 1) rfl rfl rfl rfl (fun _ => At.there _ (At.here _)) (fun w G => src_cel G List.mem_cons_self rfl rfl 1) (by omega) (by simp only [maxLen]; omega) rfl ?_ rfl ?_; (first | with_reducible rfl | with_reducible assumption | with_reducible exact Bool.not_false | with_reducible exact Bool.not_true); intro A3 c3) | ((fail_if_success (refine sw_chk (h := ?_))); refine sw_guard (ht := ?_) (hf := ?_); all_goals (intro hx_; first | have := of_decide_eq_true hx_ | have := of_decide_eq_false hx_ | skip)) | (refine cw_cond (ht := ?_) (hf := ?_); all_goals (intro hx_; first | have := of_decide_eq_true hx_ | have := of_decide_eq_false hx_ | skip)))
      refine ⟨(⟨j.k + 1, hltj, A3, c3⟩ : FilS K.length), (by show K.length - (j.k + 1) < K.length - j.k; omega), ok_sub ⟨rfl, rfl, rfl, rfl, rfl, trivial⟩ ?_ fun _ h => h⟩
      show List.Sublist [orow 30 4 _ _ ((K.take (j.k + 1)).map fun a => ((mget b a).getD EntD.zero).l.cells).flatten, _] _
      rw [hfl]
      exact List.Sublist.cons _ (List.Sublist.refl _)
    · have hk : j.k = K.length := by omega
      refine ends_ret (res_tmp rfl rfl) ⟨⟨j.A, j.k, j.c⟩, rfl, fun w h => ?_⟩
      have h1 := h.2 _ List.mem_cons_self
      have e1 : ((K.take j.k).map fun a => ((mget b a).getD EntD.zero).l.cells) = (K.map fun a => ((mget b a).getD EntD.zero).l).map ListD.cells := by
        rw [hk, List.take_length, List.map_map]; rfl
      rw [e1] at h1
      rw [hofV]
      exact rows_of_orow h1 (by simp [hk]) (by
        intro r hr
        obtain ⟨x, _, rfl⟩ := List.mem_map.1 hr
        rfl)
end Go.Proofs.YtfpojkoddcdojaaGreatDoor

/- Plain laws of the listings: what lists.Of answers is, for each actor, the best of the valid entries of the keepers. No program in sight. -/
set_option linter.unusedVariables false
set_option linter.unusedSimpArgs false
namespace Go.Proofs.YtfpojkoddcdojaaGreatDoor
open Go Go.Proofs Sy
theorem betV_iff {a b : EntD} : betV a b = true ↔ b.l.until_ < a.l.until_ ∨ (a.l.until_ = b.l.until_ ∧ (ltB a.l.by_ b.l.by_ = true ∨ (a.l.by_ = b.l.by_ ∧ b.at_ < a.at_))) := by
  unfold betV
  by_cases h : a.l.until_ = b.l.until_
  · rw [decide_eq_true h]
    simp only [Bool.not_true, cond_false]
    cases hs : seqB a.l.by_ b.l.by_ with
    | true =>
      have e := seqB_iff.1 hs
      simp only [Bool.not_true, cond_false, decide_eq_true_eq]
      constructor
      · intro h1; exact .inr ⟨h, .inr ⟨e, h1⟩⟩
      · rintro (h1 | ⟨_, h1 | h1⟩)
        · omega
        · rw [e, ltB_irrefl] at h1; cases h1
        · exact h1.2
    | false =>
      have e := seqB_ne.1 hs
      simp only [Bool.not_false, cond_true]
      constructor
      · intro h1; exact .inr ⟨h, .inl h1⟩
      · rintro (h1 | ⟨_, h1 | h1⟩)
        · omega
        · exact h1
        · exact absurd h1.1 e
  · rw [decide_eq_false h]
    simp only [Bool.not_false, cond_true, decide_eq_true_eq]
    constructor
    · intro h1; exact .inl h1
    · rintro (h1 | h1)
      · exact h1
      · exact absurd h1.1 h
theorem betV_asymm {a b : EntD} (h : betV a b = true) (k : betV b a = true) : False := by
  rw [betV_iff] at h k
  rcases h with h | ⟨h, h2⟩
  · rcases k with k | ⟨k, _⟩ <;> omega
  · rcases k with k | ⟨k, k2⟩
    · omega
    · rcases h2 with h2 | ⟨h2, h3⟩
      · rcases k2 with k2 | ⟨k2, _⟩
        · rw [ltB_asymm h2] at k2; cases k2
        · rw [k2, ltB_irrefl] at h2; cases h2
      · rcases k2 with k2 | ⟨k2, k3⟩
        · rw [h2, ltB_irrefl] at k2; cases k2
        · omega
theorem betV_trans {a b c : EntD} (h : betV a b = true) (k : betV b c = true) : betV a c = true := by
  rw [betV_iff] at *
  rcases h with h | ⟨h, h2⟩
  · rcases k with k | ⟨k, _⟩ <;> exact .inl (by omega)
  · rcases k with k | ⟨k, k2⟩
    · exact .inl (by omega)
    · refine .inr ⟨by omega, ?_⟩
      rcases h2 with h2 | ⟨h2, h3⟩
      · rcases k2 with k2 | ⟨k2, _⟩
        · exact .inl (ltB_trans h2 k2)
        · exact .inl (k2 ▸ h2)
      · rcases k2 with k2 | ⟨k2, k3⟩
        · exact .inl (h2 ▸ k2)
        · exact .inr ⟨h2.trans k2, by omega⟩
theorem betV_total {a b : EntD} (h : ¬ betV a b = true) (k : ¬ betV b a = true) : a.l.by_ = b.l.by_ ∧ a.at_ = b.at_ := by
  rw [betV_iff] at *
  simp only [not_or, not_and] at h k
  have hu : a.l.until_ = b.l.until_ := by omega
  have h2 := h.2 hu
  have k2 := k.2 hu.symm
  have e : a.l.by_ = b.l.by_ := ltB_total (by simpa using h2.1) (by simpa using k2.1)
  exact ⟨e, by have := h2.2 e; have := k2.2 e.symm; omega⟩
/-- An entry of some keeper. -/
def EntOf (l : List ChainD) (k : ByteArray) (e : EntD) : Prop := e ∈ entsV l k
theorem entOf_spec {l : List ChainD} {k : ByteArray} {e : EntD} (h : e ∈ entsV l k) : ∃ c j, findC l k = some c ∧ j ∈ foundF c.actsL c.actsL.length ∧ e = entA k c.actsL j := by
  unfold entsV at h
  cases hf : findC l k with
  | none => rw [hf] at h; cases h
  | some c =>
    rw [hf] at h
    obtain ⟨j, hj, rfl⟩ := List.mem_map.1 h
    exact ⟨c, j, rfl, hj, rfl⟩
theorem ent_by {l : List ChainD} {k : ByteArray} {e : EntD} (h : e ∈ entsV l k) : e.l.by_ = k := by
  obtain ⟨c, j, _, _, rfl⟩ := entOf_spec h
  rfl
theorem ent_uniq {l : List ChainD} {k k' : ByteArray} {e e' : EntD} (h : e ∈ entsV l k) (h' : e' ∈ entsV l k') (hb : e.l.by_ = e'.l.by_) (ha : e.at_ = e'.at_) : e = e' := by
  have hk : k = k' := by rw [← ent_by h, ← ent_by h', hb]
  subst hk
  obtain ⟨c, j, hc, _, rfl⟩ := entOf_spec h
  obtain ⟨c', j', hc', _, rfl⟩ := entOf_spec h'
  rw [hc] at hc'
  cases hc'
  have : (j : Int) = (j' : Int) := ha
  rw [show j = j' by omega]
def Best (S : EntD → Prop) (a : ByteArray) (e : EntD) : Prop := S e ∧ e.l.actor = a ∧ ∀ e', S e' → e'.l.actor = a → e' = e ∨ betV e e' = true
theorem Best.uniq {S : EntD → Prop} {a : ByteArray} {e e' : EntD} (h : Best S a e) (h' : Best S a e') : e = e' := by
  rcases h.2.2 e' h'.1 h'.2.1 with h1 | h1
  · exact h1.symm
  · rcases h'.2.2 e h.1 h.2.1 with h2 | h2
    · exact h2
    · exact (betV_asymm h1 h2).elim
theorem mget_mput {β : Type} : ∀ (b : List (ByteArray × β)) (k a : ByteArray) (v : β), mget (mput b k v) a = if a = k then some v else mget b a
  | [], k, a, v => by
    by_cases h : a = k
    · simp only [mput, mget, (KeyT.eqb_iff a k).2 h, cond_true, if_pos h]
    · have : KeyT.eqb a k = false := by rw [← Bool.not_eq_true, KeyT.eqb_iff]; exact h
      simp only [mput, mget, this, cond_false, if_neg h]
  | (k', v') :: r, k, a, v => by
    have ih := mget_mput r k a v
    simp only [mput]
    cases hk : KeyT.eqb k k' with
    | true =>
      have e := (KeyT.eqb_iff k k').1 hk
      subst e
      by_cases h : a = k
      · simp only [cond_true, mget, (KeyT.eqb_iff a k).2 h, if_pos h]
      · have : KeyT.eqb a k = false := by rw [← Bool.not_eq_true, KeyT.eqb_iff]; exact h
        simp only [cond_true, mget, this, cond_false, if_neg h]
    | false =>
      simp only [cond_false, mget]
      cases ha : KeyT.eqb a k' with
      | true =>
        have e := (KeyT.eqb_iff a k').1 ha
        subst e
        have hne : ¬ a = k := fun e => by rw [e, (KeyT.eqb_iff k k).2 rfl] at hk; cases hk
        simp only [cond_true, if_neg hne]
      | false => simp only [cond_false, ih]
theorem mem_mput {β : Type} : ∀ (b : List (ByteArray × β)) (k a : ByteArray) (v : β), a ∈ (mput b k v).map (·.1) ↔ a = k ∨ a ∈ b.map (·.1)
  | [], k, a, v => by simp [mput]
  | (k', v') :: r, k, a, v => by
    have ih := mem_mput r k a v
    simp only [mput]
    cases hk : KeyT.eqb k k' with
    | true =>
      have e := (KeyT.eqb_iff k k').1 hk
      subst e
      simp
    | false =>
      simp only [cond_false, List.map_cons, List.mem_cons, ih]
      constructor
      · rintro (h | h | h)
        · exact .inr (.inl h)
        · exact .inl h
        · exact .inr (.inr h)
      · rintro (h | h | h)
        · exact .inr (.inl h)
        · exact .inl h
        · exact .inr (.inr h)
theorem nodup_mput {β : Type} : ∀ (b : List (ByteArray × β)) (k : ByteArray) (v : β), (b.map (·.1)).Nodup → ((mput b k v).map (·.1)).Nodup
  | [], k, v, _ => by simp [mput]
  | (k', v') :: r, k, v, h => by
    simp only [List.map_cons, List.nodup_cons] at h
    have ih := nodup_mput r k v h.2
    simp only [mput]
    cases hk : KeyT.eqb k k' with
    | true =>
      have e := (KeyT.eqb_iff k k').1 hk
      subst e
      simp only [cond_true, List.map_cons, List.nodup_cons]
      exact h
    | false =>
      simp only [cond_false, List.map_cons, List.nodup_cons]
      refine ⟨fun hm => ?_, ih⟩
      rcases (mem_mput r k k' v).1 hm with e | e
      · rw [e, (KeyT.eqb_iff k k).2 rfl] at hk; cases hk
      · exact h.1 e
theorem mget_keys {β : Type} : ∀ {b : List (ByteArray × β)} {a : ByteArray} {e : β}, mget b a = some e → a ∈ b.map (·.1)
  | [], a, e, h => by cases h
  | (k', v') :: r, a, e, h => by
    simp only [mget] at h
    cases hk : KeyT.eqb a k' with
    | true => rw [(KeyT.eqb_iff a k').1 hk]; simp
    | false => rw [hk] at h; simp only [List.map_cons, List.mem_cons]; exact .inr (mget_keys h)
structure Inv (l : List ChainD) (S : EntD → Prop) (b : List (ByteArray × EntD)) : Prop where
  wf : ∀ e, S e → ∃ k, e ∈ entsV l k
  nodup : (b.map (·.1)).Nodup
  best : ∀ a e, mget b a = some e → Best S a e
  all : ∀ e, S e → ∃ e', mget b e.l.actor = some e'
theorem Inv.congr {l : List ChainD} {S S' : EntD → Prop} {b : List (ByteArray × EntD)} (h : Inv l S b) (hs : ∀ e, S e ↔ S' e) : Inv l S' b := by
  have : S = S' := funext fun e => propext (hs e)
  subst this
  exact h
theorem inv_step {l : List ChainD} {S : EntD → Prop} {b : List (ByteArray × EntD)} {now : Int} {e : EntD} {k : ByteArray} (h : Inv l S b) (he : e ∈ entsV l k) : Inv l (fun x => S x ∨ (x = e ∧ now < e.l.until_)) (bestStep now b e) := by
  unfold bestStep
  by_cases hu : e.l.until_ ≤ now
  · rw [decide_eq_true hu, cond_true]
    exact h.congr fun x => ⟨.inl, fun hx => hx.elim id fun hx => by omega⟩
  · rw [decide_eq_false hu, cond_false]
    have hu' : now < e.l.until_ := by omega
    have hS : (fun x => S x ∨ (x = e ∧ now < e.l.until_)) = fun x => S x ∨ x = e := funext fun x => propext ⟨fun hx => hx.imp id And.left, fun hx => hx.imp id fun hx => ⟨hx, hu'⟩⟩
    rw [hS]
    have hwf : ∀ x, S x ∨ x = e → ∃ k, x ∈ entsV l k := fun x hx => hx.elim (h.wf x) fun hx => ⟨k, hx ▸ he⟩
    have put : (∀ x, S x → x.l.actor = e.l.actor → x = e ∨ betV e x = true) → Inv l (fun x => S x ∨ x = e) (mput b e.l.actor e) := fun hb => by
      refine ⟨hwf, nodup_mput b _ _ h.nodup, fun a x hx => ?_, fun x hx => ?_⟩
      · rw [mget_mput] at hx
        by_cases ha : a = e.l.actor
        · rw [if_pos ha] at hx
          cases hx
          refine ⟨.inr rfl, ha.symm, fun e' h1 h2 => ?_⟩
          rcases h1 with h1 | h1
          · exact hb e' h1 (h2.trans ha)
          · exact .inl h1
        · rw [if_neg ha] at hx
          have h1 := h.best a x hx
          refine ⟨.inl h1.1, h1.2.1, fun e' h2 h3 => ?_⟩
          rcases h2 with h2 | h2
          · exact h1.2.2 e' h2 h3
          · subst h2; exact absurd h3.symm ha
      · rw [mget_mput]
        by_cases ha : x.l.actor = e.l.actor
        · rw [if_pos ha]; exact ⟨_, rfl⟩
        · rw [if_neg ha]
          rcases hx with hx | hx
          · exact h.all x hx
          · subst hx; exact absurd rfl ha
    cases ho : mget b e.l.actor with
    | none =>
      refine put fun x hx ha => ?_
      obtain ⟨e', h1⟩ := h.all x hx
      rw [ha, ho] at h1
      cases h1
    | some old =>
      have hbo := h.best _ _ ho
      simp only
      cases hc : ((!eqED e old) && betV e old) with
      | true =>
        have hb := (Bool.and_eq_true _ _).mp hc
        refine put fun x hx ha => ?_
        rcases hbo.2.2 x hx ha with h1 | h1
        · rw [h1]; exact .inr hb.2
        · exact .inr (betV_trans hb.2 h1)
      | false =>
        simp only [cond_false]
        have hoe : old = e ∨ betV old e = true := by
          by_cases h1 : betV old e = true
          · exact .inr h1
          · by_cases h2 : betV e old = true
            · rw [h2, Bool.and_true] at hc
              have : eqED e old = true := by simpa using hc
              exact .inl (eqED_iff.1 this).symm
            · obtain ⟨k', hk'⟩ := h.wf old hbo.1
              have h3 := betV_total h1 h2
              exact .inl (ent_uniq hk' he h3.1 h3.2)
        refine ⟨hwf, h.nodup, fun a x hx => ?_, fun x hx => ?_⟩
        · have h1 := h.best a x hx
          refine ⟨.inl h1.1, h1.2.1, fun e' h2 h3 => ?_⟩
          rcases h2 with h2 | h2
          · exact h1.2.2 e' h2 h3
          · subst h2
            rw [← h3, ho] at hx
            cases hx
            rcases hoe with h4 | h4
            · exact .inl h4.symm
            · exact .inr h4
        · rcases hx with hx | hx
          · exact h.all x hx
          · subst hx; exact ⟨old, ho⟩
theorem inv_fold {l : List ChainD} {now : Int} {k : ByteArray} : ∀ (E : List EntD) {S : EntD → Prop} {b : List (ByteArray × EntD)}, Inv l S b → (∀ e ∈ E, e ∈ entsV l k) → Inv l (fun x => S x ∨ (x ∈ E ∧ now < x.l.until_)) (E.foldl (bestStep now) b)
  | [], S, b, h, _ => h.congr fun x => ⟨.inl, fun hx => hx.elim id fun hx => by cases hx.1⟩
  | e :: E, S, b, h, he => by
    have h1 := inv_step (now := now) h (he e List.mem_cons_self)
    have h2 := inv_fold (now := now) E h1 fun x hx => he x (List.mem_cons_of_mem _ hx)
    refine h2.congr fun x => ?_
    simp only [List.mem_cons]
    constructor
    · rintro ((h | ⟨rfl, h⟩) | ⟨h, h'⟩)
      · exact .inl h
      · exact .inr ⟨.inl rfl, h⟩
      · exact .inr ⟨.inr h, h'⟩
    · rintro (h | ⟨rfl | h, h'⟩)
      · exact .inl (.inl h)
      · exact .inl (.inr ⟨rfl, h'⟩)
      · exact .inr ⟨h, h'⟩
def Cand (l : List ChainD) (ks : List ByteArray) (now : Int) (e : EntD) : Prop := (∃ k ∈ ks, e ∈ entsV l k) ∧ now < e.l.until_
theorem hasK_iff {ks : List ByteArray} {k : ByteArray} : hasK ks k = true ↔ k ∈ ks := by
  rw [hasK, List.any_eq_true]
  constructor
  · rintro ⟨y, hy, h⟩
    rw [(KeyT.eqb_iff k y).1 h]; exact hy
  · intro h
    exact ⟨k, h, (KeyT.eqb_iff k k).2 rfl⟩
theorem mem_sput {ks : List ByteArray} {k a : ByteArray} : a ∈ sput ks k ↔ a = k ∨ a ∈ ks := by
  induction ks with
  | nil => simp [sput]
  | cons y ks ih =>
    simp only [sput]
    cases hk : KeyT.eqb k y with
    | true => rw [(KeyT.eqb_iff k y).1 hk]; simp
    | false =>
      simp only [cond_false, List.mem_cons, ih]
      constructor
      · rintro (h | h | h)
        · exact .inr (.inl h)
        · exact .inl h
        · exact .inr (.inr h)
      · rintro (h | h | h)
        · exact .inr (.inl h)
        · exact .inl h
        · exact .inr (.inr h)
theorem inv_best (l : List ChainD) (now : Int) (ks : List ByteArray) : ∀ i, i ≤ ks.length → (∀ k, k ∈ (bestF l now ks i).1 ↔ k ∈ ks.take i) ∧ Inv l (Cand l (ks.take i) now) (bestF l now ks i).2
  | 0, _ => ⟨fun k => (by simp [bestF]), { wf := fun e h => (by obtain ⟨⟨k, hk, _⟩, _⟩ := h; simp at hk), nodup := (by simp [bestF]), best := fun a e h => (by cases h), all := fun e h => (by obtain ⟨⟨k, hk, _⟩, _⟩ := h; simp at hk) }⟩
  | i + 1, hi => by
    obtain ⟨ih1, ih2⟩ := inv_best l now ks i (by omega)
    have hx : ks.getD i .empty = ks[i] := by rw [List.getD_eq_getElem?_getD, List.getElem?_eq_getElem (by omega)]; rfl
    have ht : ks.take (i + 1) = ks.take i ++ [ks[i]] := by rw [List.take_add_one, List.getElem?_eq_getElem (by omega)]; rfl
    simp only [bestF, hx, ht]
    generalize ks[i] = k0 at *
    cases hh : hasK (bestF l now ks i).1 k0 with
    | true =>
      have hin : k0 ∈ ks.take i := (ih1 k0).1 (hasK_iff.1 hh)
      simp only [cond_true]
      refine ⟨fun k => ?_, ih2.congr fun e => ?_⟩
      · rw [ih1, List.mem_append, List.mem_singleton]
        exact ⟨.inl, fun h => h.elim id fun h => h ▸ hin⟩
      · unfold Cand
        simp only [List.mem_append, List.mem_singleton]
        exact ⟨fun ⟨⟨k, h1, h2⟩, h3⟩ => ⟨⟨k, .inl h1, h2⟩, h3⟩, fun ⟨⟨k, h1, h2⟩, h3⟩ => ⟨⟨k, h1.elim id fun h => h ▸ hin, h2⟩, h3⟩⟩
    | false =>
      simp only [cond_false]
      refine ⟨fun k => ?_, (inv_fold (now := now) (k := k0) (entsV l k0) ih2 fun e he => he).congr fun e => ?_⟩
      · rw [mem_sput, ih1, List.mem_append, List.mem_singleton]
        exact Or.comm
      · unfold Cand
        simp only [List.mem_append, List.mem_singleton]
        constructor
        · rintro (⟨⟨k, h1, h2⟩, h3⟩ | ⟨h2, h3⟩)
          · exact ⟨⟨k, .inl h1, h2⟩, h3⟩
          · exact ⟨⟨k0, .inr rfl, h2⟩, h3⟩
        · rintro ⟨⟨k, h1 | rfl, h2⟩, h3⟩
          · exact .inl ⟨⟨k, h1, h2⟩, h3⟩
          · exact .inr ⟨h2, h3⟩
theorem inv_of (l : List ChainD) (now : Int) (ks : List ByteArray) : Inv l (Cand l ks now) (bestF l now ks ks.length).2 := by
  have := (inv_best l now ks ks.length (Nat.le_refl _)).2
  rwa [List.take_length] at this
/-- What is listed: of each actor the best candidate. -/
def Lst (l : List ChainD) (ks : List ByteArray) (now : Int) (x : ListD) : Prop := ∃ e, Best (Cand l ks now) x.actor e ∧ e.l = x
theorem mem_ofV {l : List ChainD} {ks : List ByteArray} {now : Int} {x : ListD} : x ∈ ofV l ks now ↔ Lst l ks now x := by
  have hI := inv_of l now ks
  unfold ofV
  rw [List.mem_map]
  constructor
  · rintro ⟨a, ha, rfl⟩
    obtain ⟨e, he⟩ := mget_atK (mem_sortB.1 ha)
    have hb := hI.best a e he
    rw [he]
    refine ⟨e, ?_, rfl⟩
    show Best _ e.l.actor e
    rw [hb.2.1]
    exact hb
  · rintro ⟨e, hb, rfl⟩
    obtain ⟨e', he'⟩ := hI.all e hb.1
    have hb' := hI.best _ e' he'
    have : e = e' := hb.uniq hb'
    subst this
    exact ⟨e.l.actor, mem_sortB.2 (mget_keys he'), by rw [he']; rfl⟩
theorem actors_ofV (l : List ChainD) (ks : List ByteArray) (now : Int) : (ofV l ks now).map (·.actor) = sortB ((bestF l now ks ks.length).2.map (·.1)) := by
  have hI := inv_of l now ks
  unfold ofV
  rw [List.map_map]
  conv => rhs; rw [← List.map_id (sortB ((bestF l now ks ks.length).2.map (·.1)))]
  refine List.map_congr_left fun a ha => ?_
  obtain ⟨e, he⟩ := mget_atK (mem_sortB.1 ha)
  have hb := hI.best a e he
  simp only [Function.comp_apply, he, Option.getD_some, id_eq]
  exact hb.2.1
theorem asc_ofV (l : List ChainD) (ks : List ByteArray) (now : Int) : (ofV l ks now).Pairwise fun x y => ltB x.actor y.actor = true := by
  have h : Asc ((ofV l ks now).map (·.actor)) := by
    rw [actors_ofV]
    exact asc_sortB (inv_of l now ks).nodup
  unfold Asc at h
  rwa [List.pairwise_map] at h
theorem nodup_ofV (l : List ChainD) (ks : List ByteArray) (now : Int) : (ofV l ks now).Nodup := (asc_ofV l ks now).imp fun h e => by subst e; rw [ltB_irrefl] at h; cases h
theorem ext_ofV {l m : List ListD} (hl : l.Pairwise fun x y => ltB x.actor y.actor = true) (hm : m.Pairwise fun x y => ltB x.actor y.actor = true) (h : ∀ x, x ∈ l ↔ x ∈ m) : l = m := by
  have nd : ∀ {l : List ListD}, (l.Pairwise fun x y => ltB x.actor y.actor = true) → l.Nodup := fun h => h.imp fun h e => by subst e; rw [ltB_irrefl] at h; cases h
  refine ((List.perm_ext_iff_of_nodup (nd hl) (nd hm)).2 h).eq_of_pairwise (fun a b _ _ h1 h2 => ?_) hl hm
  rw [ltB_asymm h1] at h2
  cases h2
theorem Lst.uniq {l : List ChainD} {ks : List ByteArray} {now : Int} {x y : ListD} (hx : Lst l ks now x) (hy : Lst l ks now y) (h : x.actor = y.actor) : x = y := by
  obtain ⟨e, he, rfl⟩ := hx
  obtain ⟨e', he', rfl⟩ := hy
  rw [h] at he
  rw [he.uniq he']
theorem hasL_iff {l : List ChainD} {ks : List ByteArray} {now : Int} {x : ListD} {a : ByteArray} : hasL (ofV l ks now) a = some x ↔ Lst l ks now x ∧ x.actor = a := by
  constructor
  · intro h
    have h1 := List.find?_some h
    exact ⟨mem_ofV.1 (List.mem_of_find?_eq_some h), seqB_iff.1 h1⟩
  · rintro ⟨h, rfl⟩
    cases hf : hasL (ofV l ks now) x.actor with
    | none =>
      rw [hasL, List.find?_eq_none] at hf
      exact absurd (seqB_self x.actor) (hf x (mem_ofV.2 h))
    | some y =>
      have h1 := mem_ofV.1 (List.mem_of_find?_eq_some hf)
      have h2 := List.find?_some hf
      rw [h.uniq h1 (seqB_iff.1 h2).symm]
theorem hasL_none_iff {l : List ChainD} {ks : List ByteArray} {now : Int} {a : ByteArray} : hasL (ofV l ks now) a = none ↔ ∀ x, Lst l ks now x → x.actor ≠ a := by
  rw [hasL, List.find?_eq_none]
  exact ⟨fun h x hx e => h x (mem_ofV.2 hx) (seqB_iff.2 e), fun h x hx e => h x (mem_ofV.1 hx) (seqB_iff.1 e)⟩
theorem ofV_congr {l : List ChainD} {ks ks' : List ByteArray} {now : Int} (h : ∀ k, k ∈ ks ↔ k ∈ ks') : ofV l ks now = ofV l ks' now := by
  refine ext_ofV (asc_ofV _ _ _) (asc_ofV _ _ _) fun x => ?_
  have : Cand l ks now = Cand l ks' now := funext fun e => propext (by unfold Cand; simp only [h])
  rw [mem_ofV, mem_ofV, Lst, Lst, this]
/-- Somebody has a candidate: he is listed. -/
theorem listed {l : List ChainD} {ks : List ByteArray} {now : Int} {e : EntD} (h : Cand l ks now e) : ∃ x, Lst l ks now x ∧ x.actor = e.l.actor ∧ e.l.until_ ≤ x.until_ ∧ (x.until_ = e.l.until_ → ltB e.l.by_ x.by_ = false) := by
  have hI := inv_of l now ks
  obtain ⟨e', he'⟩ := hI.all e h
  have hb := hI.best _ e' he'
  refine ⟨e'.l, ⟨e', by rw [hb.2.1]; exact hb, rfl⟩, hb.2.1, ?_, fun hu => ?_⟩
  · rcases hb.2.2 e h rfl with h1 | h1
    · rw [h1]; exact Int.le_refl _
    · rw [betV_iff] at h1; omega
  · rcases hb.2.2 e h rfl with h1 | h1
    · rw [h1]; exact ltB_irrefl _
    · rw [betV_iff] at h1
      rcases h1 with h1 | ⟨_, h1 | h1⟩
      · omega
      · exact ltB_asymm h1
      · rw [h1.1]; exact ltB_irrefl _
theorem len_sub {α : Type} [BEq α] [LawfulBEq α] : ∀ {l L : List α}, l.Nodup → (∀ x ∈ l, x ∈ L) → l.length ≤ L.length
  | [], L, _, _ => Nat.zero_le _
  | a :: l, L, hn, h => by
    rw [List.nodup_cons] at hn
    have ha := h a List.mem_cons_self
    have h1 := len_sub (l := l) (L := L.erase a) hn.2 fun x hx => by
      have hne : x ≠ a := fun e => hn.1 (e ▸ hx)
      exact (List.mem_erase_of_ne hne).2 (h x (List.mem_cons_of_mem _ hx))
    have h2 := List.length_erase_of_mem ha
    have h3 := List.length_pos_of_mem ha
    simp only [List.length_cons]
    omega
end Go.Proofs.YtfpojkoddcdojaaGreatDoor
