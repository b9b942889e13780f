/- Contracts: package sign: reduce, challenge, Of, Right, Sign, inOrder, Verify. -/
import Derived.Test.YtepckpofhegmiaaGreatDoorSn
set_option linter.unusedVariables false
set_option linter.unusedSimpArgs false
namespace Go.Proofs.YtepckpofhegmiaaGreatDoor
open Go Go.Proofs Sy
def hashN (xs : List ByteArray) : Nat := numN (nl (shaV (catB xs)))
theorem hashN_lt (xs : List ByteArray) : hashN xs < 2305843009213693952 := numN_lt _
def reduceN (h : Nat) : Nat := 1 + h % 2305843009213693949
theorem reduceN_pos (h : Nat) : 1 ≤ reduceN h := Nat.le_add_right _ _
theorem reduceN_le (h : Nat) : reduceN h ≤ 2305843009213693949 := by
  have := Nat.mod_lt h (show 2305843009213693949 > 0 by decide)
  unfold reduceN
  omega
theorem reduce_pu (h : Nat) (hh : h < 2305843009213693952) : Pu Tryz.prog 69 #[.int .i64 (h : Int)] (fun _ => True) (.int .i64 (reduceN h : Nat)) := by
  refine pu_of_cw (args := [_]) _ Tryz.func69 rfl Tryz.ntmps69 rfl fun av bor w0 => ?_
  repeat' (first | refine sy_rem (c := ((h % 2305843009213693949 : Nat) : Int)) (hc := (Int.ofNat_tmod h 2305843009213693949).symm) (hb := by decide) (h := ?_) | apply sw_nil | apply cw_seq | apply cw_reg | refine sy_move (h := ?_) | refine sy_assign (h := ?_) | refine sy_add (h := ?_) | refine cw_cond_t (ht := ?_) | refine cw_cond_f (hf := ?_) | apply cw_skip | apply cw_block | apply cw_ret | apply cw_exit | refine sy_arrA (h := ?_) | refine sy_strI (h := ?_) | (refine cw_cond (ht := ?_) (hf := ?_); all_goals (intro hx_; first | have := of_decide_eq_true hx_ | have := of_decide_eq_false hx_ | skip)))
  apply ends_ret; apply res_tmp; rfl; rfl
  rfl
def chalP (r p : Nat) (msg : ByteArray) : List ByteArray := [textV ⟨#[115, 105, 103, 110]⟩, numV (r : Int), numV (p : Int), textV msg]
def chalN (r p : Nat) (msg : ByteArray) : Nat := hashN (chalP r p msg) % 2305843009213693950
theorem chalN_lt (r p : Nat) (msg : ByteArray) : chalN r p msg < 2305843009213693950 := Nat.mod_lt _ (by decide)
theorem chal_pu (r p : Nat) (msg : ByteArray) (hr : r < 9223372036854775808) (hp : p < 9223372036854775808) (hm : msg.size ≤ 1000000000000) :
    Pu Tryz.prog 71 #[.int .i64 (r : Int), .int .i64 (p : Int), .string msg] Glob (.int .i64 (chalN r p msg : Nat)) := by
  refine pu_of_cw (args := [_, _, _]) _ Tryz.func71 rfl Tryz.ntmps71 rfl fun av bor w0 => ?_
  have hsz : (catB (chalP r p msg)).size ≤ 1099511627776 := by
    have h1 := textV_size ⟨#[115, 105, 103, 110]⟩
    have h2 := numV_size (r : Int)
    have h3 := numV_size (p : Int)
    have h4 := textV_size msg
    have h5 : (⟨#[115, 105, 103, 110]⟩ : ByteArray).size = 4 := rfl
    rw [catB_size]
    simp only [chalP, List.map_cons, List.map_nil, List.sum_cons, List.sum_nil]
    omega
  repeat' (first | refine sy_rem (c := ((chalN r p msg : Nat) : Int)) (hc := (Int.ofNat_tmod (hashN (chalP r p msg)) 2305843009213693950).symm) (hb := by decide) (h := ?_) | apply sw_nil | apply cw_seq | apply cw_reg | refine sy_move (h := ?_) | refine sy_assign (h := ?_) | refine sw_bsl (h := fun _ => ?_) | refine cw_cond_t (ht := ?_) | refine cw_cond_f (hf := ?_) | apply cw_skip | apply cw_block | apply cw_ret | apply cw_exit | refine sy_arrA (h := ?_) | refine sy_strI (h := ?_) | refine sw_pu (hc := text_pu _ (by first | omega | decide)) (h := ?_) | refine sw_pu (hc := num_pu _ (by omega)) (h := ?_) | (refine sw_puL (hc := hash_pu _ 9 4 (chalP r p msg) (show 4 ≤ 4 by decide) (show 4 ≤ 1000 by decide) hsz) (hX := fun w h hr => ⟨hr _ List.mem_cons_self, h⟩) (h := ?_)) | (refine cw_cond (ht := ?_) (hf := ?_); all_goals (intro hx_; first | have := of_decide_eq_true hx_ | have := of_decide_eq_false hx_ | skip)))
  apply ends_ret; apply res_tmp; rfl; rfl
  rfl

/-! Keys -/
structure KyD where
  s : Int
  p : Int
def KyD.cells (k : KyD) : List Value := [.int .i64 k.s, .int .i64 k.p]
def KyD.v (k : KyD) : Value := .agg k.cells.toArray
def KyD.zero : KyD := ⟨0, 0⟩
theorem expF_lt (a e : Nat) : ∀ i, (expF a e i).1 < 2305843009213693951
  | 0 => by show 1 < 2305843009213693951; decide
  | i + 1 => by
    have ih := expF_lt a e i
    show (bif decide (e / 2 ^ i % 2 = 1) then (expF a e i).1 * (expF a e i).2 % 2305843009213693951 else (expF a e i).1) < _
    cases decide (e / 2 ^ i % 2 = 1) with
    | true => exact Nat.mod_lt _ (by decide)
    | false => exact ih
theorem expV_lt (a e : Nat) : expV a e < 2305843009213693951 := expF_lt a e _
def ofK (s : Int) : KyD := bif decide (s < 1) || decide (2305843009213693949 < s) then KyD.zero else ⟨s, (expV 37 s.toNat : Nat)⟩
theorem ofK_in {s : Int} (h1 : 1 ≤ s) (h2 : s ≤ 2305843009213693949) : ofK s = ⟨s, (expV 37 s.toNat : Nat)⟩ := by
  rw [ofK, decide_eq_false (by omega), decide_eq_false (by omega)]
  rfl
theorem ofK_out {s : Int} (h : s < 1 ∨ 2305843009213693949 < s) : ofK s = KyD.zero := by
  rw [ofK]
  rcases h with h | h
  · rw [decide_eq_true h]; rfl
  · rw [decide_eq_true h, Bool.or_true]; rfl
theorem signOf_pu (s : Int) : Pu Tryz.prog 68 #[.int .i64 s] (fun _ => True) (ofK s).v := by
  refine pu_of_cw (args := [_]) _ Tryz.func68 rfl Tryz.ntmps68 rfl fun av bor w0 => ?_
  by_cases h : s < 1 ∨ 2305843009213693949 < s
  · rw [ofK_out h]
    repeat' (first | apply sw_nil | apply cw_seq | apply cw_reg | refine sy_move (h := ?_) | refine sy_assign (h := ?_) | refine sy_pick_t (h := ?_) | refine sy_pick_f (h := ?_) | refine sy_lss (h := ?_) | refine sy_gtr (h := ?_) | refine sw_skipT (h := ?_) | refine sw_skipF (h := ?_) | refine sw_skipU (h := ?_) | refine sw_alloc (h := fun _ => ?_) | refine sw_st1 (h := ?_) | refine sw_stAll (h := ?_) | refine cw_cond_t (ht := ?_) | refine cw_cond_f (hf := ?_) | apply cw_skip | apply cw_block | apply cw_ret | apply cw_exit | refine sy_arrA (h := ?_) | refine sy_strI (h := ?_) | (refine sy_build (cs := KyD.zero.cells) (hf := by rfl) (h := ?_)) | ((fail_if_success (refine sw_chk (h := ?_))); refine sw_guard (ht := ?_) (hf := ?_); all_goals (intro hx_; first | have := of_decide_eq_true hx_ | have := of_decide_eq_false hx_ | skip)) | (refine cw_cond (ht := ?_) (hf := ?_); all_goals (intro hx_; first | have := of_decide_eq_true hx_ | have := of_decide_eq_false hx_ | skip)))
    all_goals first
      | (exfalso; omega)
      | exact ends_ret (res_cell rfl rfl (by (repeat (first | exact List.mem_cons_self | apply List.mem_cons_of_mem))) (by rfl)) rfl
  · have h1 : 1 ≤ s := by omega
    have h2 : s ≤ 2305843009213693949 := by omega
    obtain ⟨n, rfl⟩ := Int.eq_ofNat_of_zero_le (show 0 ≤ s by omega)
    rw [ofK_in h1 h2]
    have he := exp_pu 37 n (by omega)
    repeat' (first | apply sw_nil | apply cw_seq | apply cw_reg | refine sy_move (h := ?_) | refine sy_assign (h := ?_) | refine sy_pick_t (h := ?_) | refine sy_pick_f (h := ?_) | refine sy_lss (h := ?_) | refine sy_gtr (h := ?_) | refine sw_skipT (h := ?_) | refine sw_skipF (h := ?_) | refine sw_skipU (h := ?_) | refine sw_alloc (h := fun _ => ?_) | refine sw_st1 (h := ?_) | refine sw_stAll (h := ?_) | refine cw_cond_t (ht := ?_) | refine cw_cond_f (hf := ?_) | apply cw_skip | apply cw_block | apply cw_ret | apply cw_exit | refine sy_arrA (h := ?_) | refine sy_strI (h := ?_) | (refine sw_pu (hc := he) (hX := fun w h => trivial) (h := ?_)) | (refine sy_build (cs := KyD.cells ⟨(n : Int), (expV 37 n : Nat)⟩) (hf := by rfl) (h := ?_)) | ((fail_if_success (refine sw_chk (h := ?_))); refine sw_guard (ht := ?_) (hf := ?_); all_goals (intro hx_; first | have := of_decide_eq_true hx_ | have := of_decide_eq_false hx_ | skip)) | (refine cw_cond (ht := ?_) (hf := ?_); all_goals (intro hx_; first | have := of_decide_eq_true hx_ | have := of_decide_eq_false hx_ | skip)))
    all_goals first
      | (exfalso; omega)
      | exact ends_ret (res_cell rfl rfl (by (repeat (first | exact List.mem_cons_self | apply List.mem_cons_of_mem))) (by rfl)) rfl
def eqKy (a b : KyD) : Bool := decide (a.s = b.s) && decide (a.p = b.p)
theorem eqKy_iff {a b : KyD} : eqKy a b = true ↔ a = b := by
  cases a; cases b
  simp only [eqKy, Bool.and_eq_true, decide_eq_true_eq, KyD.mk.injEq]
theorem run_partI' (w : World) {cs : Array Value} {off : Nat} {v : Value} (h : cs[off]? = some v) : (part 3 cs off).run Tryz.prog w = .ok v w := by
  simp [part, isAgg, run_underlying Tryz.underlying3, h]
theorem eqI_run' (w : World) (d : Nat) (a b : Int) : (Op.equalIn (d + 1) 3 (.int .i64 a) (.int .i64 b)).run Tryz.prog w = .ok (decide (a = b)) w := by
  rw [run_equalIn_int w d _ .i64 .i64 a b Tryz.underlying3]
  rfl
theorem run_eqKy (w : World) (d : Nat) (a b : KyD) : (Op.equalIn (d + 2) 75 a.v b.v).run Tryz.prog w = .ok (eqKy a b) w := by
  have p0 : ∀ x : KyD, (part 3 x.cells.toArray 0).run Tryz.prog w = .ok (.int .i64 x.s) w := fun x => run_partI' w rfl
  have p1 : ∀ x : KyD, (part 3 x.cells.toArray 1).run Tryz.prog w = .ok (.int .i64 x.p) w := fun x => run_partI' w rfl
  unfold KyD.v
  rw [run_equalIn_agg _ _ _ _ _ (by kernel_rfl) (by kernel_rfl)]
  simp only [Program.fieldsOf, Tryz.underlying75]
  simp [Op.eqFields, p0, p1, eqI_run']
  unfold eqKy
  by_cases h1 : a.s = b.s <;> by_cases h2 : a.p = b.p <;> simp [h1, h2]
section
variable {N : Nat} {av bor : List Nat} {w0 : World} {x y : Operand} {t2 : TypeId} {ty : TypeId} {st : St}
theorem y_eqKy (a b : KyD) (hx : ev st.env x = some a.v) (hy : ev st.env y = some b.v) : Sy.Yields Tryz.prog N av bor w0 st (.binOp .eql 75 x y t2) ty (.bool (eqKy a b)) := Sy.Yields.mk fun A w ok d pos af g => by
  have h1 := run_eqGuard_agg (P := Tryz.prog) w .eql 75 x y a.cells.toArray b.cells.toArray (by kernel_rfl)
  have h2 := run_eql_struct (P := Tryz.prog) w 75 a.cells.toArray b.cells.toArray
  have h3 := run_eqKy w 9998 a b
  simp only [KyD.v] at hx hy h3
  simp [execOp, ok.eval hx, ok.eval hy, h1, h2, h3]
end
def rightK (k : KyD) : Bool := decide (1 ≤ k.s) && eqKy k (ofK k.s)
theorem signRight_pu (k : KyD) : Pu Tryz.prog 44 #[k.v] (fun _ => True) (.bool (rightK k)) := by
  refine pu_of_cw (args := [_]) _ Tryz.func44 rfl Tryz.ntmps44 rfl fun av bor w0 => ?_
  repeat' (first | apply sw_nil | apply cw_seq | apply cw_reg | refine sy_move (h := ?_) | refine sy_assign (h := ?_) | refine sy_fld (h := ?_) | refine sy_ld (h := ?_) | refine sy_ldAll (h := ?_) | refine sy_pick_t (h := ?_) | refine sy_pick_f (h := ?_) | refine sy_eql (h := ?_) | refine sy_geq (h := ?_) | refine sy_seql (h := ?_) | refine sw_skipT (h := ?_) | refine sw_skipF (h := ?_) | refine sw_skipU (h := ?_) | refine sw_box (h := fun _ => ?_) | refine cw_cond_t (ht := ?_) | refine cw_cond_f (hf := ?_) | apply cw_skip | apply cw_block | apply cw_ret | apply cw_exit | refine sy_beql (h := ?_) | refine sy_arrA (h := ?_) | refine sy_strI (h := ?_) | ((fail_if_success (refine sw_chk (h := ?_))); refine sw_guard (ht := ?_) (hf := ?_); all_goals (intro hx_; first | have := of_decide_eq_true hx_ | have := of_decide_eq_false hx_ | skip)) | (refine cw_cond (ht := ?_) (hf := ?_); all_goals (intro hx_; first | have := of_decide_eq_true hx_ | have := of_decide_eq_false hx_ | skip)))
  rename_i b
  (refine cw_draw [cel b 75 k.cells] (fun _ => True) (by kernel_rfl) ?_)
  all_goals (first | refine aw_take 0 (h := ?_) | refine aw_take 0 (hy := by (first | (apply y_eqKy k (ofK k.s); rfl; rfl))) (h := ?_))
  all_goals (first | refine aw_take 1 (h := ?_) | refine aw_take 1 (hy := by (first | (apply y_eqKy k (ofK k.s); rfl; rfl))) (h := ?_))
  all_goals (first | refine aw_take 2 (h := ?_) | refine aw_take 2 (hy := by (first | (apply y_eqKy k (ofK k.s); rfl; rfl))) (h := ?_))
  all_goals (refine aw_take 3 (h := ?_))
  all_goals (first | (first | refine aw_take 4 (h := ?_) | refine aw_take 4 (hy := by (first | (apply y_eqKy k (ofK k.s); rfl; rfl))) (h := ?_)) | (refine aw_skipT 4 (h := ?_)) | (refine aw_skipF 4 (h := ?_)) | (refine aw_skipU 4 (h := ?_)) | (refine aw_guard 4 (ht := ?_) (hf := ?_); all_goals (intro hx_; first | have := of_decide_eq_true hx_ | have := of_decide_eq_false hx_ | skip); all_goals (first | (first | refine aw_take 4 (h := ?_) | refine aw_take 4 (hy := by (first | (apply y_eqKy k (ofK k.s); rfl; rfl))) (h := ?_)) | (refine aw_skipT 4 (h := ?_)) | (refine aw_skipF 4 (h := ?_)) | (refine aw_skipU 4 (h := ?_)))))
  all_goals (first | (first | refine aw_take 5 (h := ?_) | refine aw_take 5 (hy := by (first | (apply y_eqKy k (ofK k.s); rfl; rfl))) (h := ?_)) | (refine aw_skipT 5 (h := ?_)) | (refine aw_skipF 5 (h := ?_)) | (refine aw_skipU 5 (h := ?_)) | (refine aw_guard 5 (ht := ?_) (hf := ?_); all_goals (intro hx_; first | have := of_decide_eq_true hx_ | have := of_decide_eq_false hx_ | skip); all_goals (first | (first | refine aw_take 5 (h := ?_) | refine aw_take 5 (hy := by (first | (apply y_eqKy k (ofK k.s); rfl; rfl))) (h := ?_)) | (refine aw_skipT 5 (h := ?_)) | (refine aw_skipF 5 (h := ?_)) | (refine aw_skipU 5 (h := ?_)))))
  all_goals (first | (first | refine aw_take 6 (h := ?_) | refine aw_take 6 (hy := by (first | (apply y_eqKy k (ofK k.s); rfl; rfl))) (h := ?_)) | (refine aw_skipT 6 (h := ?_)) | (refine aw_skipF 6 (h := ?_)) | (refine aw_skipU 6 (h := ?_)) | (refine aw_guard 6 (ht := ?_) (hf := ?_); all_goals (intro hx_; first | have := of_decide_eq_true hx_ | have := of_decide_eq_false hx_ | skip); all_goals (first | (first | refine aw_take 6 (h := ?_) | refine aw_take 6 (hy := by (first | (apply y_eqKy k (ofK k.s); rfl; rfl))) (h := ?_)) | (refine aw_skipT 6 (h := ?_)) | (refine aw_skipF 6 (h := ?_)) | (refine aw_skipU 6 (h := ?_)))))
  all_goals (first | (refine aw_step 7 (h := ?_); (first | (refine sw_skipT (h := ?_)) | (refine sw_skipF (h := ?_)) | (refine sw_skipU (h := ?_)) | refine sw_pu (hc := signOf_pu k.s) (h := ?_)); apply sw_nil; refine aw_fin (h := ?_)) | (refine aw_skipT 7 (h := ?_)) | (refine aw_skipF 7 (h := ?_)) | (refine aw_skipU 7 (h := ?_)) | (refine aw_guard 7 (ht := ?_) (hf := ?_); all_goals (intro hx_; first | have := of_decide_eq_true hx_ | have := of_decide_eq_false hx_ | skip); all_goals (first | (refine aw_step 7 (h := ?_); (first | (refine sw_skipT (h := ?_)) | (refine sw_skipF (h := ?_)) | (refine sw_skipU (h := ?_)) | refine sw_pu (hc := signOf_pu k.s) (h := ?_)); apply sw_nil; refine aw_fin (h := ?_)) | (refine aw_skipT 7 (h := ?_)) | (refine aw_skipF 7 (h := ?_)) | (refine aw_skipU 7 (h := ?_)))))
  all_goals (first | (first | refine aw_take 8 (h := ?_) | refine aw_take 8 (hy := by (first | (apply y_eqKy k (ofK k.s); rfl; rfl))) (h := ?_)) | (refine aw_skipT 8 (h := ?_)) | (refine aw_skipF 8 (h := ?_)) | (refine aw_skipU 8 (h := ?_)) | (refine aw_guard 8 (ht := ?_) (hf := ?_); all_goals (intro hx_; first | have := of_decide_eq_true hx_ | have := of_decide_eq_false hx_ | skip); all_goals (first | (first | refine aw_take 8 (h := ?_) | refine aw_take 8 (hy := by (first | (apply y_eqKy k (ofK k.s); rfl; rfl))) (h := ?_)) | (refine aw_skipT 8 (h := ?_)) | (refine aw_skipF 8 (h := ?_)) | (refine aw_skipU 8 (h := ?_)))))
  all_goals (refine aw_take 9 (h := ?_))
  all_goals (refine aw_take 10 (h := ?_))
  all_goals (refine aw_done (h := ?_))
  all_goals
    repeat' (first | apply sw_nil | apply cw_seq | apply cw_reg | refine sy_move (h := ?_) | refine sy_assign (h := ?_) | refine sy_fld (h := ?_) | refine sy_ld (h := ?_) | refine sy_ldAll (h := ?_) | refine sy_pick_t (h := ?_) | refine sy_pick_f (h := ?_) | refine sy_eql (h := ?_) | refine sy_geq (h := ?_) | refine sy_seql (h := ?_) | refine sw_skipT (h := ?_) | refine sw_skipF (h := ?_) | refine sw_skipU (h := ?_) | refine sw_box (h := fun _ => ?_) | refine cw_cond_t (ht := ?_) | refine cw_cond_f (hf := ?_) | apply cw_skip | apply cw_block | apply cw_ret | apply cw_exit | refine sy_beql (h := ?_) | refine sy_arrA (h := ?_) | refine sy_strI (h := ?_) | ((fail_if_success (refine sw_chk (h := ?_))); refine sw_guard (ht := ?_) (hf := ?_); all_goals (intro hx_; first | have := of_decide_eq_true hx_ | have := of_decide_eq_false hx_ | skip)) | (refine cw_cond (ht := ?_) (hf := ?_); all_goals (intro hx_; first | have := of_decide_eq_true hx_ | have := of_decide_eq_false hx_ | skip)))
    apply ends_ret; apply res_tmp; rfl; rfl
    rw [rightK, hx_]
    rfl
theorem rightK_iff {k : KyD} : rightK k = true ↔ 1 ≤ k.s ∧ k.s ≤ 2305843009213693949 ∧ k.p = (expV 37 k.s.toNat : Nat) := by
  rw [rightK, Bool.and_eq_true, decide_eq_true_eq, eqKy_iff]
  constructor
  · rintro ⟨h1, h2⟩
    have h3 : k.s ≤ 2305843009213693949 := by
      by_cases h : 2305843009213693949 < k.s
      · rw [ofK_out (.inr h)] at h2
        rw [h2] at h1
        exact absurd h1 (by decide)
      · omega
    refine ⟨h1, h3, ?_⟩
    rw [ofK_in h1 h3] at h2
    rw [h2]
  · rintro ⟨h1, h2, h3⟩
    exact ⟨h1, by rw [ofK_in h1 h2, ← h3]⟩
/-! Signatures -/
def nonceP (s : Int) (msg : ByteArray) : List ByteArray := [textV ⟨#[110, 111, 110, 99, 101]⟩, numV s, textV msg]
def nonceN (s : Int) (msg : ByteArray) : Nat := reduceN (hashN (nonceP s msg))
structure SgD where
  e : Int
  s : Int
def SgD.cells (k : SgD) : List Value := [.int .i64 k.e, .int .i64 k.s]
def SgD.v (k : SgD) : Value := .agg k.cells.toArray
def SgD.zero : SgD := ⟨0, 0⟩
def sigE (k : KyD) (msg : ByteArray) : Nat := chalN (expV 37 (nonceN k.s msg)) k.p.toNat msg
def sigS (k : KyD) (msg : ByteArray) : Nat := (nonceN k.s msg + sigE k msg * k.s.toNat % 2305843009213693950) % 2305843009213693950
def signV (k : KyD) (msg : ByteArray) : SgD := bif rightK k then ⟨(sigE k msg : Nat), (sigS k msg : Nat)⟩ else SgD.zero
set_option maxHeartbeats 1000000 in
theorem sign_pu (k : KyD) (msg : ByteArray) (hm : msg.size ≤ 1000000000000) : Pu Tryz.prog 45 #[k.v, .string msg] Glob (signV k msg).v := by
  refine pu_of_cw (args := [_, _]) _ Tryz.func45 rfl Tryz.ntmps45 rfl fun av bor w0 => ?_
  have hrk := signRight_pu k
  cases hk : rightK k with
  | false =>
    rw [hk] at hrk
    rw [show signV k msg = SgD.zero from by rw [signV, hk]; rfl]
    repeat' (first | apply sw_nil | apply cw_seq | apply cw_reg | refine sy_move (h := ?_) | refine sy_assign (h := ?_) | refine sy_fld (h := ?_) | refine sy_ld (h := ?_) | refine sy_ldAll (h := ?_) | refine sy_not (h := ?_) | refine sw_alloc (h := fun _ => ?_) | refine sw_box (h := fun _ => ?_) | refine sw_bsl (h := fun _ => ?_) | refine sw_st1 (h := ?_) | refine sw_stAll (h := ?_) | refine cw_cond_t (ht := ?_) | refine cw_cond_f (hf := ?_) | apply cw_skip | apply cw_block | apply cw_ret | apply cw_exit | refine sy_arrA (h := ?_) | refine sy_strI (h := ?_) | (refine sw_pu (hc := hrk) (hX := fun _ _ => trivial) (h := ?_)) | (refine sy_build (cs := SgD.zero.cells) (hf := by rfl) (h := ?_)) | (refine cw_cond (ht := ?_) (hf := ?_); all_goals (intro hx_; first | have := of_decide_eq_true hx_ | have := of_decide_eq_false hx_ | skip)))
    exact ends_ret (res_cell rfl rfl (by (repeat (first | exact List.mem_cons_self | apply List.mem_cons_of_mem))) (by rfl)) rfl
  | true =>
    rw [hk] at hrk
    rw [show signV k msg = ⟨(sigE k msg : Nat), (sigS k msg : Nat)⟩ from by rw [signV, hk]; rfl]
    obtain ⟨h1, h2, h3⟩ := rightK_iff.1 hk
    obtain ⟨s, p⟩ := k
    obtain ⟨n, rfl⟩ := Int.eq_ofNat_of_zero_le (show 0 ≤ s by show 0 ≤ s; have : 1 ≤ s := h1; omega)
    have h3' : p = (expV 37 n : Nat) := h3
    subst h3'
    have h2' : (n : Int) ≤ 2305843009213693949 := h2
    have hp := expV_lt 37 n
    have hsz : (catB (nonceP (n : Int) msg)).size ≤ 1099511627776 := by
      have e1 := textV_size ⟨#[110, 111, 110, 99, 101]⟩
      have e2 := numV_size (n : Int)
      have e4 := textV_size msg
      have e5 : (⟨#[110, 111, 110, 99, 101]⟩ : ByteArray).size = 5 := rfl
      rw [catB_size]
      simp only [nonceP, List.map_cons, List.map_nil, List.sum_cons, List.sum_nil]
      omega
    have hno : nonceN (n : Int) msg < 9223372036854775808 := by have := reduceN_le (hashN (nonceP (n : Int) msg)); unfold nonceN; omega
    have hha := hash_pu (T := 9) (c := 3) (xs := nonceP (n : Int) msg)
    have hex := exp_pu 37 (nonceN (n : Int) msg) hno
    have hch := chal_pu (expV 37 (nonceN (n : Int) msg)) (expV 37 n) msg (by have := expV_lt 37 (nonceN (n : Int) msg); omega) (by omega) hm
    repeat' (first | apply sw_nil | apply cw_seq | apply cw_reg | refine sy_move (h := ?_) | refine sy_assign (h := ?_) | refine sy_fld (h := ?_) | refine sy_ld (h := ?_) | refine sy_ldAll (h := ?_) | refine sy_not (h := ?_) | refine sw_alloc (h := fun _ => ?_) | refine sw_box (h := fun _ => ?_) | refine sw_bsl (h := fun _ => ?_) | refine sw_st1 (h := ?_) | refine sw_stAll (h := ?_) | refine cw_cond_t (ht := ?_) | refine cw_cond_f (hf := ?_) | apply cw_skip | apply cw_block | apply cw_ret | apply cw_exit | refine sy_arrA (h := ?_) | refine sy_strI (h := ?_) | (refine sw_pu (hc := hrk) (hX := fun _ _ => trivial) (h := ?_)) | (refine cw_cond (ht := ?_) (hf := ?_); all_goals (intro hx_; first | have := of_decide_eq_true hx_ | have := of_decide_eq_false hx_ | skip)))
    rename_i b2 b4
    (refine cw_draw [cel b4 40 SgD.zero.cells, cel b2 75 (KyD.mk (n : Int) (expV 37 n : Nat)).cells] Glob (by kernel_rfl) ?_)
    all_goals (refine aw_take 1 (h := ?_))
    all_goals (refine aw_take 2 (h := ?_))
    all_goals (refine aw_take 4 (h := ?_))
    all_goals (refine aw_step 0 (h := ?_); (first | refine sw_pu (hc := text_pu _ (by first | omega | decide)) (h := ?_) | refine sw_pu (hc := num_pu _ (by omega)) (h := ?_) | (refine sw_puL (hc := hash_pu _ 9 3 (nonceP (n : Int) msg) (show 3 ≤ 3 by decide) (show 3 ≤ 1000 by decide) hsz) (hX := fun w h hr => ⟨hr _ List.mem_cons_self, h⟩) (h := ?_)) | refine sw_pu (hc := reduce_pu (hashN (nonceP (n : Int) msg)) (hashN_lt _)) (h := ?_)); apply sw_nil; refine aw_fin (h := ?_))
    all_goals (refine aw_step 3 (h := ?_); (first | refine sw_pu (hc := text_pu _ (by first | omega | decide)) (h := ?_) | refine sw_pu (hc := num_pu _ (by omega)) (h := ?_) | (refine sw_puL (hc := hash_pu _ 9 3 (nonceP (n : Int) msg) (show 3 ≤ 3 by decide) (show 3 ≤ 1000 by decide) hsz) (hX := fun w h hr => ⟨hr _ List.mem_cons_self, h⟩) (h := ?_)) | refine sw_pu (hc := reduce_pu (hashN (nonceP (n : Int) msg)) (hashN_lt _)) (h := ?_)); apply sw_nil; refine aw_fin (h := ?_))
    all_goals (refine aw_step 5 (h := ?_); (first | refine sw_pu (hc := text_pu _ (by first | omega | decide)) (h := ?_) | refine sw_pu (hc := num_pu _ (by omega)) (h := ?_) | (refine sw_puL (hc := hash_pu _ 9 3 (nonceP (n : Int) msg) (show 3 ≤ 3 by decide) (show 3 ≤ 1000 by decide) hsz) (hX := fun w h hr => ⟨hr _ List.mem_cons_self, h⟩) (h := ?_)) | refine sw_pu (hc := reduce_pu (hashN (nonceP (n : Int) msg)) (hashN_lt _)) (h := ?_)); apply sw_nil; refine aw_fin (h := ?_))
    all_goals (refine aw_step 6 (h := ?_); (first | (refine sw_bsl (h := fun _ => ?_))); apply sw_nil; refine aw_fin (h := ?_))
    all_goals (refine aw_step 7 (h := ?_); (first | refine sw_pu (hc := text_pu _ (by first | omega | decide)) (h := ?_) | refine sw_pu (hc := num_pu _ (by omega)) (h := ?_) | (refine sw_puL (hc := hash_pu _ 9 3 (nonceP (n : Int) msg) (show 3 ≤ 3 by decide) (show 3 ≤ 1000 by decide) hsz) (hX := fun w h hr => ⟨hr _ List.mem_cons_self, h⟩) (h := ?_)) | refine sw_pu (hc := reduce_pu (hashN (nonceP (n : Int) msg)) (hashN_lt _)) (h := ?_)); apply sw_nil; refine aw_fin (h := ?_))
    all_goals (refine aw_step 8 (h := ?_); (first | refine sw_pu (hc := text_pu _ (by first | omega | decide)) (h := ?_) | refine sw_pu (hc := num_pu _ (by omega)) (h := ?_) | (refine sw_puL (hc := hash_pu _ 9 3 (nonceP (n : Int) msg) (show 3 ≤ 3 by decide) (show 3 ≤ 1000 by decide) hsz) (hX := fun w h hr => ⟨hr _ List.mem_cons_self, h⟩) (h := ?_)) | refine sw_pu (hc := reduce_pu (hashN (nonceP (n : Int) msg)) (hashN_lt _)) (h := ?_)); apply sw_nil; refine aw_fin (h := ?_))
    all_goals (refine aw_take 9 (h := ?_))
    all_goals (refine aw_done (h := ?_))
    repeat' (first | apply sw_nil | apply cw_seq | apply cw_reg | refine sy_move (h := ?_) | refine sy_assign (h := ?_) | refine sy_fld (h := ?_) | refine sy_ld (h := ?_) | refine sy_ldAll (h := ?_) | refine sy_not (h := ?_) | refine sw_alloc (h := fun _ => ?_) | refine sw_box (h := fun _ => ?_) | refine sw_bsl (h := fun _ => ?_) | refine sw_st1 (h := ?_) | refine sw_stAll (h := ?_) | refine cw_cond_t (ht := ?_) | refine cw_cond_f (hf := ?_) | apply cw_skip | apply cw_block | apply cw_ret | apply cw_exit | refine sy_arrA (h := ?_) | refine sy_strI (h := ?_) | (refine cw_cond (ht := ?_) (hf := ?_); all_goals (intro hx_; first | have := of_decide_eq_true hx_ | have := of_decide_eq_false hx_ | skip)))
    (refine cw_draw [cel b4 40 SgD.zero.cells, cel b2 75 (KyD.mk (n : Int) (expV 37 n : Nat)).cells] Glob (by kernel_rfl) ?_)
    all_goals (refine aw_take 0 (h := ?_))
    all_goals (refine aw_take 2 (h := ?_))
    all_goals (refine aw_take 3 (h := ?_))
    all_goals (refine aw_take 4 (h := ?_))
    all_goals (refine aw_step 1 (h := ?_); (first | (refine sw_pu (hc := hex) (hX := fun _ _ => trivial) (h := ?_)) | (refine sw_pu (hc := hch) (hX := fun _ h => h) (h := ?_))); apply sw_nil; refine aw_fin (h := ?_))
    all_goals (refine aw_step 5 (h := ?_); (first | (refine sw_pu (hc := hex) (hX := fun _ _ => trivial) (h := ?_)) | (refine sw_pu (hc := hch) (hX := fun _ h => h) (h := ?_))); apply sw_nil; refine aw_fin (h := ?_))
    all_goals (refine aw_take 6 (h := ?_))
    all_goals (refine aw_done (h := ?_))
    have hm1 := MulN_pu (sigE ⟨(n : Int), (expV 37 n : Nat)⟩ msg) n
    have hm2 := AddN_pu (nonceN (n : Int) msg) (sigE ⟨(n : Int), (expV 37 n : Nat)⟩ msg * n % 2305843009213693950)
    repeat' (first | apply sw_nil | apply cw_seq | apply cw_reg | refine sy_move (h := ?_) | refine sy_assign (h := ?_) | refine sy_fld (h := ?_) | refine sy_ld (h := ?_) | refine sy_ldAll (h := ?_) | refine sy_not (h := ?_) | refine sw_alloc (h := fun _ => ?_) | refine sw_box (h := fun _ => ?_) | refine sw_bsl (h := fun _ => ?_) | refine sw_st1 (h := ?_) | refine sw_stAll (h := ?_) | refine cw_cond_t (ht := ?_) | refine cw_cond_f (hf := ?_) | apply cw_skip | apply cw_block | apply cw_ret | apply cw_exit | refine sy_arrA (h := ?_) | refine sy_strI (h := ?_) | (refine sw_pu (hc := hm1) (hX := fun _ _ => trivial) (h := ?_)) | (refine sw_pu (hc := hm2) (hX := fun _ _ => trivial) (h := ?_)) | (refine sy_build (cs := SgD.cells ⟨(sigE ⟨(n : Int), (expV 37 n : Nat)⟩ msg : Nat), (sigS ⟨(n : Int), (expV 37 n : Nat)⟩ msg : Nat)⟩) (hf := by rfl) (h := ?_)) | (refine cw_cond (ht := ?_) (hf := ?_); all_goals (intro hx_; first | have := of_decide_eq_true hx_ | have := of_decide_eq_false hx_ | skip)))
    exact ends_ret (res_cell rfl rfl (by (repeat (first | exact List.mem_cons_self | apply List.mem_cons_of_mem))) (by rfl)) rfl
def keyP (seed : ByteArray) : List ByteArray := [textV ⟨#[107, 101, 121]⟩, textV seed]
def keyN (seed : ByteArray) : Nat := reduceN (hashN (keyP seed))
def keyOf (seed : ByteArray) : KyD := ⟨(keyN seed : Nat), (expV 37 (keyN seed) : Nat)⟩
theorem keyOf_right (seed : ByteArray) : rightK (keyOf seed) = true := by
  have h1 := reduceN_pos (hashN (keyP seed))
  have h2 := reduceN_le (hashN (keyP seed))
  refine rightK_iff.2 ⟨?_, ?_, rfl⟩
  · show (1 : Int) ≤ ((reduceN (hashN (keyP seed)) : Nat) : Int); omega
  · show ((reduceN (hashN (keyP seed)) : Nat) : Int) ≤ 2305843009213693949; omega
theorem signKey_pu (seed : ByteArray) (hm : seed.size ≤ 1000000000000) : Pu Tryz.prog 47 #[.string seed] Glob (keyOf seed).v := by
  refine pu_of_cw (args := [_]) _ Tryz.func47 rfl Tryz.ntmps47 rfl fun av bor w0 => ?_
  have h1 := reduceN_pos (hashN (keyP seed))
  have h2 := reduceN_le (hashN (keyP seed))
  have hk : ofK ((keyN seed : Nat) : Int) = keyOf seed := ofK_in (by show (1 : Int) ≤ ((reduceN (hashN (keyP seed)) : Nat) : Int); omega) (by show ((reduceN (hashN (keyP seed)) : Nat) : Int) ≤ 2305843009213693949; omega)
  have hof := signOf_pu ((keyN seed : Nat) : Int)
  rw [hk] at hof
  have hsz : (catB (keyP seed)).size ≤ 1099511627776 := by
    have e1 := textV_size ⟨#[107, 101, 121]⟩
    have e4 := textV_size seed
    have e5 : (⟨#[107, 101, 121]⟩ : ByteArray).size = 3 := rfl
    rw [catB_size]
    simp only [keyP, List.map_cons, List.map_nil, List.sum_cons, List.sum_nil]
    omega
  repeat' (first | apply sw_nil | apply cw_seq | apply cw_reg | refine sy_move (h := ?_) | refine sy_assign (h := ?_) | refine sw_alloc (h := fun _ => ?_) | refine sw_bsl (h := fun _ => ?_) | refine sw_st1 (h := ?_) | refine sw_stAll (h := ?_) | refine cw_cond_t (ht := ?_) | refine cw_cond_f (hf := ?_) | apply cw_skip | apply cw_block | apply cw_ret | apply cw_exit | refine sy_arrA (h := ?_) | refine sy_strI (h := ?_) | refine sw_pu (hc := text_pu _ (by first | omega | decide)) (h := ?_) | (refine sw_puL (hc := hash_pu _ 9 2 (keyP seed) (show 2 ≤ 2 by decide) (show 2 ≤ 1000 by decide) hsz) (hX := fun w h hr => ⟨hr _ List.mem_cons_self, h⟩) (h := ?_)) | refine sw_pu (hc := reduce_pu (hashN (keyP seed)) (hashN_lt _)) (h := ?_) | (refine sw_pu (hc := hof) (hX := fun _ _ => trivial) (h := ?_)) | (refine cw_cond (ht := ?_) (hf := ?_); all_goals (intro hx_; first | have := of_decide_eq_true hx_ | have := of_decide_eq_false hx_ | skip)))
  exact ends_ret (res_cell rfl rfl (by (repeat (first | exact List.mem_cons_self | apply List.mem_cons_of_mem))) (by rfl)) rfl
end Go.Proofs.YtepckpofhegmiaaGreatDoor
