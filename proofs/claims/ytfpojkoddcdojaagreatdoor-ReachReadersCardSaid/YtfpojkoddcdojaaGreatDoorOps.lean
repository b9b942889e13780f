/- Laws of single operations for the calculus of XSy: arithmetic, comparisons, strings, addresses, loads, stores, new blocks, calls. No program in sight. -/
import Derived.Test.YtfpojkoddcdojaaGreatDoorSy
set_option linter.unusedVariables false
namespace Go.Proofs.YtfpojkoddcdojaaGreatDoor.Sy
open Go Go.RowKit

/-! ### What the type table says, as classes (the instances: XTy) -/
def aggSize (P : Program) (t : TypeId) : Option Nat :=
  match P.underlying t with
  | some (.struct _) | some (.array _ _) => (P.info? t).map (·.size)
  | _ => none
def oneCell (P : Program) (t : TypeId) : Bool :=
  match P.underlying t with
  | some (.struct _) | some (.array _ _) | none => false
  | _ => ((P.info? t).map (·.size)) == some 1
def fldOff (P : Program) (s f : Nat) : Option Nat :=
  match P.underlying s with
  | some (.struct fs) => match fs[f]? with
    | some fl => match P.info? fl.type with
      | some i => if i.size = 0 then none else some fl.offset
      | none => none
    | none => none
  | _ => none
def zeroOf (P : Program) (t : TypeId) : Option Value := (P.info? t).bind (·.zero)
def slOf (P : Program) (t : TypeId) : Option (Nat × Nat × Nat) :=
  match P.underlying t with
  | some (.slice e) => (P.info? e).map fun i => (e, i.size, i.bytes)
  | _ => none
class TyAgg (P : Program) (t : Nat) (n : outParam Nat) : Prop where out : aggSize P t = some n
class TyOne (P : Program) (t : Nat) : Prop where out : oneCell P t = true
class TyFld (P : Program) (s f : Nat) (o : outParam Nat) : Prop where out : fldOff P s f = some o
class TyZero (P : Program) (t : Nat) (z : outParam Value) : Prop where out : zeroOf P t = some z
class TySl (P : Program) (t : Nat) (e n b : outParam Nat) : Prop where out : slOf P t = some (e, n, b)
class TyStr (P : Program) (t : Nat) : Prop where out : P.underlying t = some .string
class TyInt (P : Program) (t : Nat) (k : outParam IntKind) : Prop where out : P.underlying t = some (.int k)
def plOf (P : Program) (t : TypeId) : Option (List (Nat × Nat)) :=
  match P.underlying t with
  | some (.struct fs) => fs.toList.mapM fun f => (P.info? f.type).map fun i => (f.offset, i.size)
  | _ => none
class TyPl (P : Program) (t : TypeId) (pl : outParam (List (Nat × Nat))) : Prop where out : plOf P t = some pl
class FnBody (P : Program) (f : Nat) : Prop where out : (P.funcs[f]?).map (fun fn => (fn.name == "runtime.NumGoroutine", fn.body.isNone)) = some (false, false)

section
variable {P : Program}
theorem aggSize_spec {t n : Nat} (h : aggSize P t = some n) : ∃ d, P.underlying t = some d ∧ (match d with | .struct _ | .array _ _ => true | _ => false) = true ∧ (P.info? t).map (·.size) = some n := by
  unfold aggSize at h
  split at h
  · rename_i fs hu; exact ⟨_, hu, rfl, h⟩
  · rename_i a b hu; exact ⟨_, hu, rfl, h⟩
  · cases h
theorem oneCell_spec {t : Nat} (h : oneCell P t = true) (w : World) : (isAgg t).run P w = .ok false w ∧ (P.info? t).map (·.size) = some 1 := by
  unfold oneCell at h
  split at h
  · cases h
  · cases h
  · cases h
  · rename_i h1 h2 h3
    refine ⟨?_, by simpa using h⟩
    cases hu : P.underlying t with
    | none => exact absurd hu h3
    | some d =>
      unfold isAgg
      rw [Sem.run_bind, run_underlying hu w]
      cases d with
      | struct fs => exact absurd hu (h1 fs)
      | array a b => exact absurd hu (h2 a b)
      | _ => simp
theorem run_sizeOf {t n : Nat} (h : (P.info? t).map (·.size) = some n) (w : World) : (sizeOf t).run P w = .ok n w := by
  cases hq : P.info? t with
  | none => simp [hq] at h
  | some i =>
    have : i.size = n := by simpa [hq] using h
    simp [sizeOf, typeInfo, hq, this]
theorem run_fieldAt {s f o : Nat} (h : fldOff P s f = some o) (a : Addr) (w : World) : (Instr.fieldAt s (.pointer (some a)) f).run P w = .ok (.pointer (some (a.add o))) w := by
  unfold fldOff at h
  split at h
  · rename_i fs hu
    split at h
    · rename_i fl hf
      split at h
      · rename_i i hi
        split at h
        · cases h
        · rename_i hz
          injection h with h
          subst h
          have hs := run_sizeOf (P := P) (t := fl.type) (n := i.size) (by simp [hi])
          simp [Instr.fieldAt, run_underlying hu, hf, Instr.sureAddr, fieldPlace, hs, hz]
      · cases h
    · cases h
  · cases h
theorem run_zero {t : Nat} {z : Value} (h : zeroOf P t = some z) (w : World) : (zeroValue t).run P w = .ok z w := by
  unfold zeroOf at h
  cases hq : P.info? t with
  | none => simp [hq] at h
  | some i =>
    simp [hq] at h
    simp [zeroValue, typeInfo, hq, h]
theorem slOf_spec {t e n b : Nat} (h : slOf P t = some (e, n, b)) : P.underlying t = some (.slice e) ∧ ∃ i, P.info? e = some i ∧ i.size = n ∧ i.bytes = b := by
  unfold slOf at h
  split at h
  · rename_i e' hu
    cases hq : P.info? e' with
    | none => simp [hq] at h
    | some i =>
      simp [hq] at h
      obtain ⟨rfl, h2, h3⟩ := h
      exact ⟨hu, i, hq, h2, h3⟩
  · cases h
theorem run_enter {f : Nat} [h : FnBody P f] (args : Array Value) (w : World) : (callFunc f args).run P w = .ok (.enter f args) w := by
  have := h.out
  cases hq : P.funcs[f]? with
  | none => simp [hq] at this
  | some fn =>
    simp [hq] at this
    have hn : fn.body ≠ none := fun hn => by simp [hn] at this
    simp [callFunc, hq, this, hn]
end

def cel (b t : Nat) (cs : List Value) : Res := ⟨[b], fun w => w.heap[b]? = some (.cells cs.toArray t (0, 0))⟩

section
variable {P : Program} {N : Nat} {av bor : List Nat} {w0 : World} {st : St} {ty : TypeId} {x y : Operand} {t t2 : TypeId} {k : IntKind} {a b c : Int}

theorem y_move {v : Value} (hx : ev st.env x = some v) : Yields P N av bor w0 st (.move x) ty v := Sy.Yields.mk fun A w ok d pos af g => by
  simp [execOp, ok.eval hx]
theorem y_assign {v : Value} (hx : ev st.env x = some v) : Yields P N av bor w0 st (.assign x) ty v := Sy.Yields.mk fun A w ok d pos af g => by
  simp [execOp, ok.eval hx]
theorem y_pick_t {c x y : Operand} {b : Bool} {v : Value} (hc : ev st.env c = some (.bool b)) (hb : b = true) (hx : ev st.env x = some v) : Yields P N av bor w0 st (.pick c x y) ty v := Sy.Yields.mk fun A w ok d pos af g => by
  subst hb
  simp [execOp, ok.eval hc, ok.eval hx, asBool]
theorem y_pick_f {c x y : Operand} {b : Bool} {v : Value} (hc : ev st.env c = some (.bool b)) (hb : b = false) (hx : ev st.env y = some v) : Yields P N av bor w0 st (.pick c x y) ty v := Sy.Yields.mk fun A w ok d pos af g => by
  subst hb
  simp [execOp, ok.eval hc, ok.eval hx, asBool]
theorem y_not {b : Bool} (hx : ev st.env x = some (.bool b)) : Yields P N av bor w0 st (.unOp .not t x) ty (.bool (!b)) := Sy.Yields.mk fun A w ok d pos af g => by
  simp [execOp, ok.eval hx, Op.unary]
theorem y_neg (hx : ev st.env x = some (.int k a)) (hc : k.wrap (0 - a) = c) : Yields P N av bor w0 st (.unOp .neg t x) ty (.int k c) := Sy.Yields.mk fun A w ok d pos af g => by
  subst hc; simp [execOp, ok.eval hx, Op.unary, Op.intArith]

theorem y_lss (hx : ev st.env x = some (.int k a)) (hy : ev st.env y = some (.int k b)) : Yields P N av bor w0 st (.binOp .lss t x y t2) ty (.bool (decide (a < b))) := Sy.Yields.mk fun A w ok d pos af g => by
  simp [execOp, ok.eval hx, ok.eval hy, eqGuard, binOp, Op.intCmp]
theorem y_leq (hx : ev st.env x = some (.int k a)) (hy : ev st.env y = some (.int k b)) : Yields P N av bor w0 st (.binOp .leq t x y t2) ty (.bool (decide (a ≤ b))) := Sy.Yields.mk fun A w ok d pos af g => by
  simp [execOp, ok.eval hx, ok.eval hy, eqGuard, binOp, Op.intCmp]
theorem y_gtr (hx : ev st.env x = some (.int k a)) (hy : ev st.env y = some (.int k b)) : Yields P N av bor w0 st (.binOp .gtr t x y t2) ty (.bool (decide (b < a))) := Sy.Yields.mk fun A w ok d pos af g => by
  simp [execOp, ok.eval hx, ok.eval hy, eqGuard, binOp, Op.intCmp]
theorem y_geq (hx : ev st.env x = some (.int k a)) (hy : ev st.env y = some (.int k b)) : Yields P N av bor w0 st (.binOp .geq t x y t2) ty (.bool (decide (b ≤ a))) := Sy.Yields.mk fun A w ok d pos af g => by
  simp [execOp, ok.eval hx, ok.eval hy, eqGuard, binOp, Op.intCmp]
theorem y_eql (hx : ev st.env x = some (.int k a)) (hy : ev st.env y = some (.int k b)) : Yields P N av bor w0 st (.binOp .eql t x y t2) ty (.bool (decide (a = b))) := Sy.Yields.mk fun A w ok d pos af g => by
  have e : (a == b) = decide (a = b) := by by_cases h : a = b <;> simp [h]
  simp [execOp, ok.eval hx, ok.eval hy, eqGuard, binOp, Op.intCmp, e]
theorem y_neq (hx : ev st.env x = some (.int k a)) (hy : ev st.env y = some (.int k b)) : Yields P N av bor w0 st (.binOp .neq t x y t2) ty (.bool (!decide (a = b))) := Sy.Yields.mk fun A w ok d pos af g => by
  have e : (a != b) = !decide (a = b) := by by_cases h : a = b <;> simp [h]
  simp [execOp, ok.eval hx, ok.eval hy, eqGuard, binOp, Op.intCmp, e]
theorem y_add (hx : ev st.env x = some (.int k a)) (hy : ev st.env y = some (.int k b)) (hc : k.wrap (a + b) = c) : Yields P N av bor w0 st (.binOp .add t x y t2) ty (.int k c) := Sy.Yields.mk fun A w ok d pos af g => by
  subst hc; simp [execOp, ok.eval hx, ok.eval hy, eqGuard, binOp, Op.intArith]
theorem y_sub (hx : ev st.env x = some (.int k a)) (hy : ev st.env y = some (.int k b)) (hc : k.wrap (a - b) = c) : Yields P N av bor w0 st (.binOp .sub t x y t2) ty (.int k c) := Sy.Yields.mk fun A w ok d pos af g => by
  subst hc; simp [execOp, ok.eval hx, ok.eval hy, eqGuard, binOp, Op.intArith]
theorem y_mul (hx : ev st.env x = some (.int k a)) (hy : ev st.env y = some (.int k b)) (hc : k.wrap (a * b) = c) : Yields P N av bor w0 st (.binOp .mul t x y t2) ty (.int k c) := Sy.Yields.mk fun A w ok d pos af g => by
  subst hc; simp [execOp, ok.eval hx, ok.eval hy, eqGuard, binOp, Op.intArith]
theorem y_quo (hx : ev st.env x = some (.int k a)) (hy : ev st.env y = some (.int k b)) (hb : b ≠ 0) (hc : k.wrap (a.tdiv b) = c) : Yields P N av bor w0 st (.binOp .quo t x y t2) ty (.int k c) := Sy.Yields.mk fun A w ok d pos af g => by
  subst hc; simp [execOp, ok.eval hx, ok.eval hy, eqGuard, binOp, Op.intDiv, hb]
theorem y_rem (hx : ev st.env x = some (.int k a)) (hy : ev st.env y = some (.int k b)) (hb : b ≠ 0) (hc : a.tmod b = c) : Yields P N av bor w0 st (.binOp .rem t x y t2) ty (.int k c) := Sy.Yields.mk fun A w ok d pos af g => by
  subst hc; simp [execOp, ok.eval hx, ok.eval hy, eqGuard, binOp, Op.intDiv, hb]
def bitsV (op : BinOp) (k : IntKind) (a b : Int) : Int :=
  let x := BitVec.ofInt k.bits a
  let y := BitVec.ofInt k.bits b
  k.wrap (match op with | .and => x &&& y | .or => x ||| y | .xor => x ^^^ y | _ => x &&& ~~~y).toNat
theorem y_and (hx : ev st.env x = some (.int k a)) (hy : ev st.env y = some (.int k b)) : Yields P N av bor w0 st (.binOp .and t x y t2) ty (.int k (bitsV .and k a b)) := Sy.Yields.mk fun A w ok d pos af g => by
  simp [execOp, ok.eval hx, ok.eval hy, eqGuard, binOp, Op.intBits, bitsV]
theorem y_or (hx : ev st.env x = some (.int k a)) (hy : ev st.env y = some (.int k b)) : Yields P N av bor w0 st (.binOp .or t x y t2) ty (.int k (bitsV .or k a b)) := Sy.Yields.mk fun A w ok d pos af g => by
  simp [execOp, ok.eval hx, ok.eval hy, eqGuard, binOp, Op.intBits, bitsV]
theorem y_xor (hx : ev st.env x = some (.int k a)) (hy : ev st.env y = some (.int k b)) : Yields P N av bor w0 st (.binOp .xor t x y t2) ty (.int k (bitsV .xor k a b)) := Sy.Yields.mk fun A w ok d pos af g => by
  simp [execOp, ok.eval hx, ok.eval hy, eqGuard, binOp, Op.intBits, bitsV]
theorem y_andNot (hx : ev st.env x = some (.int k a)) (hy : ev st.env y = some (.int k b)) : Yields P N av bor w0 st (.binOp .andNot t x y t2) ty (.int k (bitsV .andNot k a b)) := Sy.Yields.mk fun A w ok d pos af g => by
  simp [execOp, ok.eval hx, ok.eval hy, eqGuard, binOp, Op.intBits, bitsV]
theorem y_xorU (hx : ev st.env x = some (.int k a)) : Yields P N av bor w0 st (.unOp .xor t x) ty (.int k (bitsV .xor k (if k.signed then -1 else k.max) a)) := Sy.Yields.mk fun A w ok d pos af g => by
  simp [execOp, ok.eval hx, Op.unary, Op.intBits, bitsV]
def shlV (k : IntKind) (a b : Int) : Int := k.wrap (a * 2 ^ (min b.toNat k.bits))
def shrV (k : IntKind) (a b : Int) : Int := a.fdiv (2 ^ (min b.toNat k.bits))
theorem y_shl {k' : IntKind} (hx : ev st.env x = some (.int k a)) (hy : ev st.env y = some (.int k' b)) (hb : 0 ≤ b) : Yields P N av bor w0 st (.binOp .shl t x y t2) ty (.int k (shlV k a b)) := Sy.Yields.mk fun A w ok d pos af g => by
  have : ¬ b < 0 := by omega
  simp [execOp, ok.eval hx, ok.eval hy, eqGuard, binOp, Op.shift, shlV, this]
theorem y_shr {k' : IntKind} (hx : ev st.env x = some (.int k a)) (hy : ev st.env y = some (.int k' b)) (hb : 0 ≤ b) : Yields P N av bor w0 st (.binOp .shr t x y t2) ty (.int k (shrV k a b)) := Sy.Yields.mk fun A w ok d pos af g => by
  have : ¬ b < 0 := by omega
  simp [execOp, ok.eval hx, ok.eval hy, eqGuard, binOp, Op.shift, shrV, this]
theorem y_int {k' : IntKind} [h' : TyInt P t k'] [h : TyInt P t2 k] {k2 : IntKind} (hx : ev st.env x = some (.int k2 a)) (hc : k.wrap a = c) : Yields P N av bor w0 st (.convert t t2 x) ty (.int k c) := Sy.Yields.mk fun A w ok d pos af g => by
  subst hc
  simp [execOp, ok.eval hx, convert, run_underlying h.out, run_underlying h'.out, Conv.intToInt]

/-! strings -/
def seqB (x y : ByteArray) : Bool := x.toList == y.toList
theorem y_seql {a b : ByteArray} (hx : ev st.env x = some (.string a)) (hy : ev st.env y = some (.string b)) : Yields P N av bor w0 st (.binOp .eql t x y t2) ty (.bool (seqB a b)) := Sy.Yields.mk fun A w ok d pos af g => by
  simp [execOp, ok.eval hx, ok.eval hy, eqGuard, binOp, Op.stringOp, seqB]
theorem y_sneq {a b : ByteArray} (hx : ev st.env x = some (.string a)) (hy : ev st.env y = some (.string b)) : Yields P N av bor w0 st (.binOp .neq t x y t2) ty (.bool (!seqB a b)) := Sy.Yields.mk fun A w ok d pos af g => by
  simp [execOp, ok.eval hx, ok.eval hy, eqGuard, binOp, Op.stringOp, seqB]
theorem y_slss {a b : ByteArray} (hx : ev st.env x = some (.string a)) (hy : ev st.env y = some (.string b)) : Yields P N av bor w0 st (.binOp .lss t x y t2) ty (.bool (Op.bytesLess a.toList b.toList)) := Sy.Yields.mk fun A w ok d pos af g => by
  simp [execOp, ok.eval hx, ok.eval hy, eqGuard, binOp, Op.stringOp]
theorem y_sgtr {a b : ByteArray} (hx : ev st.env x = some (.string a)) (hy : ev st.env y = some (.string b)) : Yields P N av bor w0 st (.binOp .gtr t x y t2) ty (.bool (!(Op.bytesLess a.toList b.toList || seqB a b))) := Sy.Yields.mk fun A w ok d pos af g => by
  simp [execOp, ok.eval hx, ok.eval hy, eqGuard, binOp, Op.stringOp, seqB]
theorem y_sgeq {a b : ByteArray} (hx : ev st.env x = some (.string a)) (hy : ev st.env y = some (.string b)) : Yields P N av bor w0 st (.binOp .geq t x y t2) ty (.bool (!Op.bytesLess a.toList b.toList)) := Sy.Yields.mk fun A w ok d pos af g => by
  simp [execOp, ok.eval hx, ok.eval hy, eqGuard, binOp, Op.stringOp]
theorem y_sleq {a b : ByteArray} (hx : ev st.env x = some (.string a)) (hy : ev st.env y = some (.string b)) : Yields P N av bor w0 st (.binOp .leq t x y t2) ty (.bool (Op.bytesLess a.toList b.toList || seqB a b)) := Sy.Yields.mk fun A w ok d pos af g => by
  simp [execOp, ok.eval hx, ok.eval hy, eqGuard, binOp, Op.stringOp, seqB]
theorem y_cat {a b : ByteArray} (hx : ev st.env x = some (.string a)) (hy : ev st.env y = some (.string b)) (hb : a.size + b.size ≤ 9223372036854775807) : Yields P N av bor w0 st (.binOp .add t x y t2) ty (.string (a ++ b)) := Sy.Yields.mk fun A w ok d pos af g => by
  have e : ¬ (((a.size + b.size : Nat) : Int) > IntKind.i64.max) := by
    have : IntKind.i64.max = 9223372036854775807 := by decide
    omega
  simp only [execOp, ok.eval hx, ok.eval hy, eqGuard, binOp, Op.stringOp]
  rw [if_neg e]
  simp
theorem y_slen [h : TyStr P t] {a : ByteArray} (hx : ev st.env x = some (.string a)) : Yields P N av bor w0 st (.call ⟨.builtin .len, #[x], #[t]⟩) ty (.int .i64 a.size) := Sy.Yields.mk fun A w ok d pos af g => by
  simp [execOp, resolve, invoke, builtin, Builtin.len_, ok.eval hx, run_underlying h.out, goInt]
theorem y_len {e n' b' : Nat} [h : TySl P t e n' b'] {p : Option Addr} {n c : Nat} (hx : ev st.env x = some (.slice p n c)) : Yields P N av bor w0 st (.call ⟨.builtin .len, #[x], #[t]⟩) ty (.int .i64 n) := Sy.Yields.mk fun A w ok d pos af g => by
  simp [execOp, resolve, invoke, builtin, Builtin.len_, ok.eval hx, run_underlying (slOf_spec h.out).1, goInt]
def tupAt : List Value → Nat → Option Value
  | [], _ => none
  | v :: _, 0 => some v
  | _ :: r, n + 1 => tupAt r n
theorem tupAt_eq : ∀ (l : List Value) (i : Nat), tupAt l i = l[i]?
  | [], _ => rfl
  | _ :: _, 0 => rfl
  | _ :: r, n + 1 => by simp [tupAt, tupAt_eq r n]
theorem y_extract {vs : Array Value} {i : Nat} {v : Value} (hx : ev st.env x = some (.tuple vs)) (hv : tupAt vs.toList i = some v) : Yields P N av bor w0 st (.extract x i) ty v := Sy.Yields.mk fun A w ok d pos af g => by
  have hv' : vs[i]? = some v := by rw [tupAt_eq] at hv; simpa using hv
  simp [execOp, ok.eval hx, Instr.extract, hv']

/-! addresses and loads -/
theorem y_fld {s f o q : Nat} [h : TyFld P s f o] {bl off : Nat} (hx : ev st.env x = some (.pointer (some ⟨bl, off, none⟩))) (hq : off + o = q) : Yields P N av bor w0 st (.fieldAddr s x f) ty (.pointer (some ⟨bl, q, none⟩)) := Sy.Yields.mk fun A w ok d pos af g => by
  have e : (⟨bl, off, none⟩ : Addr).add o = ⟨bl, q, none⟩ := by
    unfold Addr.add
    split
    · subst hq; simp_all
    · subst hq; rfl
  simp [execOp, ok.eval hx, run_fieldAt h.out, e]

theorem cel_in {bl T : Nat} {cs : List Value} {A : Act} {w : World} (ok : Ok N av bor w0 st A w) (hm : cel bl T cs ∈ st.loc) : w.heap[bl]? = some (.cells cs.toArray T (0, 0)) := (ok.gam.here _ hm).now
theorem y_ld [h : TyOne P t] {bl off T : Nat} {cs : List Value} {v : Value} (hx : ev st.env x = some (.pointer (some ⟨bl, off, none⟩))) (hm : cel bl T cs ∈ st.loc) (hv : cs[off]? = some v) :
    Yields P N av bor w0 st (.load t x) ty v := Sy.Yields.mk fun A w ok d pos af g => by
  have hc : w.cell? ⟨bl, off, none⟩ = some v := by rw [cell_of_row w bl off _ _ _ (cel_in ok hm)]; simpa using hv
  simp [execOp, ok.eval hx, Instr.loadAt, Instr.sureAddr, loadVar, (oneCell_spec h.out w).1, hc]
theorem y_ldAll {n : Nat} [h : TyAgg P t n] {bl T : Nat} {cs : List Value} (hx : ev st.env x = some (.pointer (some ⟨bl, 0, none⟩))) (hm : cel bl T cs ∈ st.loc) (hn : cs.length = n) :
    Yields P N av bor w0 st (.load t x) ty (.agg cs.toArray) := Sy.Yields.mk fun A w ok d pos af g => by
  obtain ⟨D, h1, h2, h3⟩ := aggSize_spec h.out
  have : (loadVar t ⟨bl, 0, none⟩).run P w = .ok (.agg cs.toArray) w := by
    cases D <;> simp at h2
    · exact run_loadVar_row w bl T t cs.toArray (0, 0) _ (cel_in ok hm) h1 rfl (by rw [h3]; simp [hn])
    · exact run_loadVar_row w bl T t cs.toArray (0, 0) _ (cel_in ok hm) h1 rfl (by rw [h3]; simp [hn])
  simp [execOp, ok.eval hx, Instr.loadAt, Instr.sureAddr, this]
/-- A part of a block, by value: its cells. -/
theorem run_loadVar_cells {n : Nat} (h : aggSize P t = some n) {w : World} {A : Addr} {vs : List Value} (hn : vs.length = n) (hc : ∀ j v, vs[j]? = some v → w.cell? (A.add j) = some v) :
    (loadVar t A).run P w = .ok (.agg vs.toArray) w := by
  obtain ⟨D, h1, h2, h3⟩ := aggSize_spec h
  have hl := run_loadCells_list (P := P) w A vs hc
  have hagg : (isAgg t).run P w = .ok true w := by
    unfold isAgg
    rw [Sem.run_bind, run_underlying h1 w]
    cases D <;> simp_all
  rw [hn] at hl
  simp [loadVar, Sem.run_bind, hagg, run_sizeOf h3, hl]
theorem y_ldSub {n : Nat} [h : TyAgg P t n] {bl off T : Nat} {cs vs : List Value} (hx : ev st.env x = some (.pointer (some ⟨bl, off, none⟩))) (hm : cel bl T cs ∈ st.loc) (hv : (cs.drop off).take n = vs) (hn : vs.length = n) :
    Yields P N av bor w0 st (.load t x) ty (.agg vs.toArray) := Sy.Yields.mk fun A w ok d pos af g => by
  have := run_loadVar_cells (P := P) (t := t) h.out (w := w) (A := ⟨bl, off, none⟩) hn (fun j v hj => by
    have e : (⟨bl, off, none⟩ : Addr).add j = ⟨bl, off + j, none⟩ := by unfold Addr.add; split <;> simp_all
    rw [e, cell_of_row w bl _ _ _ _ (cel_in ok hm)]
    rw [← hv] at hj
    rw [List.getElem?_take] at hj
    split at hj
    · simpa using hj
    · cases hj)
  simp [execOp, ok.eval hx, Instr.loadAt, Instr.sureAddr, this]
/-- An element's address. -/
theorem y_idx {e n' b' : Nat} [h : TySl P t e n' b'] {bl off n c q : Nat} {i : Int} (hx : ev st.env x = some (.slice (some ⟨bl, off, none⟩) n c)) (hy : ev st.env y = some (.int .i64 i)) (h0 : 0 ≤ i) (h1 : i < n) (hq : off + i.toNat * n' = q) :
    Yields P N av bor w0 st (.indexAddr t x y) ty (.pointer (some ⟨bl, q, none⟩)) := Sy.Yields.mk fun A w ok d pos af g => by
  obtain ⟨hu, inf, hi, hs, hb⟩ := slOf_spec h.out
  have e1 : (⟨bl, off, none⟩ : Addr).add (i.toNat * n') = ⟨bl, q, none⟩ := by
    unfold Addr.add
    split
    · rename_i hz; rw [hz] at hq; simp at hq; subst hq; rfl
    · subst hq; rfl
  have hz := run_sizeOf (P := P) (t := e) (n := n') (by simp [hi, hs])
  simp [execOp, ok.eval hx, ok.eval hy, Instr.indexAt, asIntOf, run_underlying hu, h0, h1, hz, e1]
end
/-! ### The same as steps of a walk -/
section
variable {P : Program} {N : Nat} {av bor : List Nat} {w0 : World} {ty : TypeId} {x y : Operand} {t t2 : TypeId} {k : IntKind} {a b c : Int}
variable {E : Env} {loc : List Res} {X : World → Prop} {ops : Array Oper} {kk : St → Prop} {n : Nat} {pos : String} {af : Array Edge} {g : Option (Nat × Bool)} {rest : List Oper} {bb want : Bool}
theorem sy_move {v : Value} (hx : ev E x = some v := by rfl) (hg : gdB ops E g = some (bb, want) := by rfl) (hbb : bb = want := by (first | with_reducible rfl | with_reducible assumption | with_reducible exact Bool.not_false | with_reducible exact Bool.not_true)) (hd : Nat.blt n N = true := by rfl) (h : Sw P N av bor w0 ops rest ⟨(n, v) :: E, loc, X⟩ kk) :
    Sw P N av bor w0 ops (⟨some n, .move x, ty, pos, af, g⟩ :: rest) ⟨E, loc, X⟩ kk := sw_yield (y_move hx) hg hbb hd h
theorem sy_assign {v : Value} (hx : ev E x = some v := by rfl) (hg : gdB ops E g = some (bb, want) := by rfl) (hbb : bb = want := by (first | with_reducible rfl | with_reducible assumption | with_reducible exact Bool.not_false | with_reducible exact Bool.not_true)) (hd : Nat.blt n N = true := by rfl) (h : Sw P N av bor w0 ops rest ⟨(n, v) :: E, loc, X⟩ kk) :
    Sw P N av bor w0 ops (⟨some n, .assign x, ty, pos, af, g⟩ :: rest) ⟨E, loc, X⟩ kk := sw_yield (y_assign hx) hg hbb hd h
theorem sy_pick_t {c x y : Operand} {b : Bool} {v : Value} (hc : ev E c = some (.bool b) := by rfl) (hb : b = true := by (first | with_reducible rfl | with_reducible assumption | with_reducible exact Bool.not_false | with_reducible exact Bool.not_true)) (hx : ev E x = some v := by rfl) (hg : gdB ops E g = some (bb, want) := by rfl) (hbb : bb = want := by (first | with_reducible rfl | with_reducible assumption | with_reducible exact Bool.not_false | with_reducible exact Bool.not_true)) (hd : Nat.blt n N = true := by rfl) (h : Sw P N av bor w0 ops rest ⟨(n, v) :: E, loc, X⟩ kk) :
    Sw P N av bor w0 ops (⟨some n, .pick c x y, ty, pos, af, g⟩ :: rest) ⟨E, loc, X⟩ kk := sw_yield (y_pick_t hc hb hx) hg hbb hd h
theorem sy_pick_f {c x y : Operand} {b : Bool} {v : Value} (hc : ev E c = some (.bool b) := by rfl) (hb : b = false := by (first | with_reducible rfl | with_reducible assumption | with_reducible exact Bool.not_false | with_reducible exact Bool.not_true)) (hx : ev E y = some v := by rfl) (hg : gdB ops E g = some (bb, want) := by rfl) (hbb : bb = want := by (first | with_reducible rfl | with_reducible assumption | with_reducible exact Bool.not_false | with_reducible exact Bool.not_true)) (hd : Nat.blt n N = true := by rfl) (h : Sw P N av bor w0 ops rest ⟨(n, v) :: E, loc, X⟩ kk) :
    Sw P N av bor w0 ops (⟨some n, .pick c x y, ty, pos, af, g⟩ :: rest) ⟨E, loc, X⟩ kk := sw_yield (y_pick_f hc hb hx) hg hbb hd h
theorem sy_not {b : Bool} (hx : ev E x = some (.bool b) := by rfl) (hg : gdB ops E g = some (bb, want) := by rfl) (hbb : bb = want := by (first | with_reducible rfl | with_reducible assumption | with_reducible exact Bool.not_false | with_reducible exact Bool.not_true)) (hd : Nat.blt n N = true := by rfl) (h : Sw P N av bor w0 ops rest ⟨(n, .bool (!b)) :: E, loc, X⟩ kk) :
    Sw P N av bor w0 ops (⟨some n, .unOp .not t x, ty, pos, af, g⟩ :: rest) ⟨E, loc, X⟩ kk := sw_yield (y_not hx) hg hbb hd h
theorem sy_neg (hx : ev E x = some (.int k a) := by rfl) (hc : k.wrap (0 - a) = c := by (first | exact IntWalk.i64_in _ (by omega) | rfl)) (hg : gdB ops E g = some (bb, want) := by rfl) (hbb : bb = want := by (first | with_reducible rfl | with_reducible assumption | with_reducible exact Bool.not_false | with_reducible exact Bool.not_true)) (hd : Nat.blt n N = true := by rfl) (h : Sw P N av bor w0 ops rest ⟨(n, .int k c) :: E, loc, X⟩ kk) :
    Sw P N av bor w0 ops (⟨some n, .unOp .neg t x, ty, pos, af, g⟩ :: rest) ⟨E, loc, X⟩ kk := sw_yield (y_neg hx hc) hg hbb hd h
theorem sy_lss (hx : ev E x = some (.int k a) := by rfl) (hy : ev E y = some (.int k b) := by rfl) (hg : gdB ops E g = some (bb, want) := by rfl) (hbb : bb = want := by (first | with_reducible rfl | with_reducible assumption | with_reducible exact Bool.not_false | with_reducible exact Bool.not_true)) (hd : Nat.blt n N = true := by rfl) (h : Sw P N av bor w0 ops rest ⟨(n, .bool (decide (a < b))) :: E, loc, X⟩ kk) :
    Sw P N av bor w0 ops (⟨some n, .binOp .lss t x y t2, ty, pos, af, g⟩ :: rest) ⟨E, loc, X⟩ kk := sw_yield (y_lss hx hy) hg hbb hd h
theorem sy_leq (hx : ev E x = some (.int k a) := by rfl) (hy : ev E y = some (.int k b) := by rfl) (hg : gdB ops E g = some (bb, want) := by rfl) (hbb : bb = want := by (first | with_reducible rfl | with_reducible assumption | with_reducible exact Bool.not_false | with_reducible exact Bool.not_true)) (hd : Nat.blt n N = true := by rfl) (h : Sw P N av bor w0 ops rest ⟨(n, .bool (decide (a ≤ b))) :: E, loc, X⟩ kk) :
    Sw P N av bor w0 ops (⟨some n, .binOp .leq t x y t2, ty, pos, af, g⟩ :: rest) ⟨E, loc, X⟩ kk := sw_yield (y_leq hx hy) hg hbb hd h
theorem sy_gtr (hx : ev E x = some (.int k a) := by rfl) (hy : ev E y = some (.int k b) := by rfl) (hg : gdB ops E g = some (bb, want) := by rfl) (hbb : bb = want := by (first | with_reducible rfl | with_reducible assumption | with_reducible exact Bool.not_false | with_reducible exact Bool.not_true)) (hd : Nat.blt n N = true := by rfl) (h : Sw P N av bor w0 ops rest ⟨(n, .bool (decide (b < a))) :: E, loc, X⟩ kk) :
    Sw P N av bor w0 ops (⟨some n, .binOp .gtr t x y t2, ty, pos, af, g⟩ :: rest) ⟨E, loc, X⟩ kk := sw_yield (y_gtr hx hy) hg hbb hd h
theorem sy_geq (hx : ev E x = some (.int k a) := by rfl) (hy : ev E y = some (.int k b) := by rfl) (hg : gdB ops E g = some (bb, want) := by rfl) (hbb : bb = want := by (first | with_reducible rfl | with_reducible assumption | with_reducible exact Bool.not_false | with_reducible exact Bool.not_true)) (hd : Nat.blt n N = true := by rfl) (h : Sw P N av bor w0 ops rest ⟨(n, .bool (decide (b ≤ a))) :: E, loc, X⟩ kk) :
    Sw P N av bor w0 ops (⟨some n, .binOp .geq t x y t2, ty, pos, af, g⟩ :: rest) ⟨E, loc, X⟩ kk := sw_yield (y_geq hx hy) hg hbb hd h
theorem sy_eql (hx : ev E x = some (.int k a) := by rfl) (hy : ev E y = some (.int k b) := by rfl) (hg : gdB ops E g = some (bb, want) := by rfl) (hbb : bb = want := by (first | with_reducible rfl | with_reducible assumption | with_reducible exact Bool.not_false | with_reducible exact Bool.not_true)) (hd : Nat.blt n N = true := by rfl) (h : Sw P N av bor w0 ops rest ⟨(n, .bool (decide (a = b))) :: E, loc, X⟩ kk) :
    Sw P N av bor w0 ops (⟨some n, .binOp .eql t x y t2, ty, pos, af, g⟩ :: rest) ⟨E, loc, X⟩ kk := sw_yield (y_eql hx hy) hg hbb hd h
theorem sy_neq (hx : ev E x = some (.int k a) := by rfl) (hy : ev E y = some (.int k b) := by rfl) (hg : gdB ops E g = some (bb, want) := by rfl) (hbb : bb = want := by (first | with_reducible rfl | with_reducible assumption | with_reducible exact Bool.not_false | with_reducible exact Bool.not_true)) (hd : Nat.blt n N = true := by rfl) (h : Sw P N av bor w0 ops rest ⟨(n, .bool (!decide (a = b))) :: E, loc, X⟩ kk) :
    Sw P N av bor w0 ops (⟨some n, .binOp .neq t x y t2, ty, pos, af, g⟩ :: rest) ⟨E, loc, X⟩ kk := sw_yield (y_neq hx hy) hg hbb hd h
theorem sy_add (hx : ev E x = some (.int k a) := by rfl) (hy : ev E y = some (.int k b) := by rfl) (hc : k.wrap (a + b) = c := by (first | exact IntWalk.i64_in _ (by omega) | rfl)) (hg : gdB ops E g = some (bb, want) := by rfl) (hbb : bb = want := by (first | with_reducible rfl | with_reducible assumption | with_reducible exact Bool.not_false | with_reducible exact Bool.not_true)) (hd : Nat.blt n N = true := by rfl) (h : Sw P N av bor w0 ops rest ⟨(n, .int k c) :: E, loc, X⟩ kk) :
    Sw P N av bor w0 ops (⟨some n, .binOp .add t x y t2, ty, pos, af, g⟩ :: rest) ⟨E, loc, X⟩ kk := sw_yield (y_add hx hy hc) hg hbb hd h
theorem sy_sub (hx : ev E x = some (.int k a) := by rfl) (hy : ev E y = some (.int k b) := by rfl) (hc : k.wrap (a - b) = c := by (first | exact IntWalk.i64_in _ (by omega) | rfl)) (hg : gdB ops E g = some (bb, want) := by rfl) (hbb : bb = want := by (first | with_reducible rfl | with_reducible assumption | with_reducible exact Bool.not_false | with_reducible exact Bool.not_true)) (hd : Nat.blt n N = true := by rfl) (h : Sw P N av bor w0 ops rest ⟨(n, .int k c) :: E, loc, X⟩ kk) :
    Sw P N av bor w0 ops (⟨some n, .binOp .sub t x y t2, ty, pos, af, g⟩ :: rest) ⟨E, loc, X⟩ kk := sw_yield (y_sub hx hy hc) hg hbb hd h
theorem sy_mul (hx : ev E x = some (.int k a) := by rfl) (hy : ev E y = some (.int k b) := by rfl) (hc : k.wrap (a * b) = c := by (first | exact IntWalk.i64_in _ (by omega) | rfl)) (hg : gdB ops E g = some (bb, want) := by rfl) (hbb : bb = want := by (first | with_reducible rfl | with_reducible assumption | with_reducible exact Bool.not_false | with_reducible exact Bool.not_true)) (hd : Nat.blt n N = true := by rfl) (h : Sw P N av bor w0 ops rest ⟨(n, .int k c) :: E, loc, X⟩ kk) :
    Sw P N av bor w0 ops (⟨some n, .binOp .mul t x y t2, ty, pos, af, g⟩ :: rest) ⟨E, loc, X⟩ kk := sw_yield (y_mul hx hy hc) hg hbb hd h
theorem sy_quo (hx : ev E x = some (.int k a) := by rfl) (hy : ev E y = some (.int k b) := by rfl) (hb : b ≠ 0 := by (first | decide | exact bitsV_nonneg _ _ rfl _ _ | exact k_nonneg _ rfl _ | omega)) (hc : k.wrap (a.tdiv b) = c := by (first | exact IntWalk.i64_in _ (by omega) | rfl)) (hg : gdB ops E g = some (bb, want) := by rfl) (hbb : bb = want := by (first | with_reducible rfl | with_reducible assumption | with_reducible exact Bool.not_false | with_reducible exact Bool.not_true)) (hd : Nat.blt n N = true := by rfl) (h : Sw P N av bor w0 ops rest ⟨(n, .int k c) :: E, loc, X⟩ kk) :
    Sw P N av bor w0 ops (⟨some n, .binOp .quo t x y t2, ty, pos, af, g⟩ :: rest) ⟨E, loc, X⟩ kk := sw_yield (y_quo hx hy hb hc) hg hbb hd h
theorem sy_rem (hx : ev E x = some (.int k a) := by rfl) (hy : ev E y = some (.int k b) := by rfl) (hb : b ≠ 0 := by (first | decide | exact bitsV_nonneg _ _ rfl _ _ | exact k_nonneg _ rfl _ | omega)) (hc : a.tmod b = c) (hg : gdB ops E g = some (bb, want) := by rfl) (hbb : bb = want := by (first | with_reducible rfl | with_reducible assumption | with_reducible exact Bool.not_false | with_reducible exact Bool.not_true)) (hd : Nat.blt n N = true := by rfl) (h : Sw P N av bor w0 ops rest ⟨(n, .int k c) :: E, loc, X⟩ kk) :
    Sw P N av bor w0 ops (⟨some n, .binOp .rem t x y t2, ty, pos, af, g⟩ :: rest) ⟨E, loc, X⟩ kk := sw_yield (y_rem hx hy hb hc) hg hbb hd h
theorem sy_and (hx : ev E x = some (.int k a) := by rfl) (hy : ev E y = some (.int k b) := by rfl) (hg : gdB ops E g = some (bb, want) := by rfl) (hbb : bb = want := by (first | with_reducible rfl | with_reducible assumption | with_reducible exact Bool.not_false | with_reducible exact Bool.not_true)) (hd : Nat.blt n N = true := by rfl) (h : Sw P N av bor w0 ops rest ⟨(n, .int k (bitsV .and k a b)) :: E, loc, X⟩ kk) :
    Sw P N av bor w0 ops (⟨some n, .binOp .and t x y t2, ty, pos, af, g⟩ :: rest) ⟨E, loc, X⟩ kk := sw_yield (y_and hx hy) hg hbb hd h
theorem sy_or (hx : ev E x = some (.int k a) := by rfl) (hy : ev E y = some (.int k b) := by rfl) (hg : gdB ops E g = some (bb, want) := by rfl) (hbb : bb = want := by (first | with_reducible rfl | with_reducible assumption | with_reducible exact Bool.not_false | with_reducible exact Bool.not_true)) (hd : Nat.blt n N = true := by rfl) (h : Sw P N av bor w0 ops rest ⟨(n, .int k (bitsV .or k a b)) :: E, loc, X⟩ kk) :
    Sw P N av bor w0 ops (⟨some n, .binOp .or t x y t2, ty, pos, af, g⟩ :: rest) ⟨E, loc, X⟩ kk := sw_yield (y_or hx hy) hg hbb hd h
theorem sy_xor (hx : ev E x = some (.int k a) := by rfl) (hy : ev E y = some (.int k b) := by rfl) (hg : gdB ops E g = some (bb, want) := by rfl) (hbb : bb = want := by (first | with_reducible rfl | with_reducible assumption | with_reducible exact Bool.not_false | with_reducible exact Bool.not_true)) (hd : Nat.blt n N = true := by rfl) (h : Sw P N av bor w0 ops rest ⟨(n, .int k (bitsV .xor k a b)) :: E, loc, X⟩ kk) :
    Sw P N av bor w0 ops (⟨some n, .binOp .xor t x y t2, ty, pos, af, g⟩ :: rest) ⟨E, loc, X⟩ kk := sw_yield (y_xor hx hy) hg hbb hd h
theorem sy_andNot (hx : ev E x = some (.int k a) := by rfl) (hy : ev E y = some (.int k b) := by rfl) (hg : gdB ops E g = some (bb, want) := by rfl) (hbb : bb = want := by (first | with_reducible rfl | with_reducible assumption | with_reducible exact Bool.not_false | with_reducible exact Bool.not_true)) (hd : Nat.blt n N = true := by rfl) (h : Sw P N av bor w0 ops rest ⟨(n, .int k (bitsV .andNot k a b)) :: E, loc, X⟩ kk) :
    Sw P N av bor w0 ops (⟨some n, .binOp .andNot t x y t2, ty, pos, af, g⟩ :: rest) ⟨E, loc, X⟩ kk := sw_yield (y_andNot hx hy) hg hbb hd h
theorem sy_xorU (hx : ev E x = some (.int k a) := by rfl) (hg : gdB ops E g = some (bb, want) := by rfl) (hbb : bb = want := by (first | with_reducible rfl | with_reducible assumption | with_reducible exact Bool.not_false | with_reducible exact Bool.not_true)) (hd : Nat.blt n N = true := by rfl) (h : Sw P N av bor w0 ops rest ⟨(n, .int k (bitsV .xor k (if k.signed then -1 else k.max) a)) :: E, loc, X⟩ kk) :
    Sw P N av bor w0 ops (⟨some n, .unOp .xor t x, ty, pos, af, g⟩ :: rest) ⟨E, loc, X⟩ kk := sw_yield (y_xorU hx) hg hbb hd h
theorem sy_shl {k' : IntKind} (hx : ev E x = some (.int k a) := by rfl) (hy : ev E y = some (.int k' b) := by rfl) (hb : 0 ≤ b := by (first | decide | exact bitsV_nonneg _ _ rfl _ _ | exact k_nonneg _ rfl _ | omega)) (hg : gdB ops E g = some (bb, want) := by rfl) (hbb : bb = want := by (first | with_reducible rfl | with_reducible assumption | with_reducible exact Bool.not_false | with_reducible exact Bool.not_true)) (hd : Nat.blt n N = true := by rfl) (h : Sw P N av bor w0 ops rest ⟨(n, .int k (shlV k a b)) :: E, loc, X⟩ kk) :
    Sw P N av bor w0 ops (⟨some n, .binOp .shl t x y t2, ty, pos, af, g⟩ :: rest) ⟨E, loc, X⟩ kk := sw_yield (y_shl hx hy hb) hg hbb hd h
theorem sy_shr {k' : IntKind} (hx : ev E x = some (.int k a) := by rfl) (hy : ev E y = some (.int k' b) := by rfl) (hb : 0 ≤ b := by (first | decide | exact bitsV_nonneg _ _ rfl _ _ | exact k_nonneg _ rfl _ | omega)) (hg : gdB ops E g = some (bb, want) := by rfl) (hbb : bb = want := by (first | with_reducible rfl | with_reducible assumption | with_reducible exact Bool.not_false | with_reducible exact Bool.not_true)) (hd : Nat.blt n N = true := by rfl) (h : Sw P N av bor w0 ops rest ⟨(n, .int k (shrV k a b)) :: E, loc, X⟩ kk) :
    Sw P N av bor w0 ops (⟨some n, .binOp .shr t x y t2, ty, pos, af, g⟩ :: rest) ⟨E, loc, X⟩ kk := sw_yield (y_shr hx hy hb) hg hbb hd h
theorem sy_int {k' : IntKind} [hI' : TyInt P t k'] [hI : TyInt P t2 k] {k2 : IntKind} (hx : ev E x = some (.int k2 a) := by rfl) (hc : k.wrap a = c := by (first | exact IntWalk.i64_in _ (by omega) | rfl)) (hg : gdB ops E g = some (bb, want) := by rfl) (hbb : bb = want := by (first | with_reducible rfl | with_reducible assumption | with_reducible exact Bool.not_false | with_reducible exact Bool.not_true)) (hd : Nat.blt n N = true := by rfl) (h : Sw P N av bor w0 ops rest ⟨(n, .int k c) :: E, loc, X⟩ kk) :
    Sw P N av bor w0 ops (⟨some n, .convert t t2 x, ty, pos, af, g⟩ :: rest) ⟨E, loc, X⟩ kk := sw_yield (y_int hx hc) hg hbb hd h
theorem sy_seql {a b : ByteArray} (hx : ev E x = some (.string a) := by rfl) (hy : ev E y = some (.string b) := by rfl) (hg : gdB ops E g = some (bb, want) := by rfl) (hbb : bb = want := by (first | with_reducible rfl | with_reducible assumption | with_reducible exact Bool.not_false | with_reducible exact Bool.not_true)) (hd : Nat.blt n N = true := by rfl) (h : Sw P N av bor w0 ops rest ⟨(n, .bool (seqB a b)) :: E, loc, X⟩ kk) :
    Sw P N av bor w0 ops (⟨some n, .binOp .eql t x y t2, ty, pos, af, g⟩ :: rest) ⟨E, loc, X⟩ kk := sw_yield (y_seql hx hy) hg hbb hd h
theorem sy_sneq {a b : ByteArray} (hx : ev E x = some (.string a) := by rfl) (hy : ev E y = some (.string b) := by rfl) (hg : gdB ops E g = some (bb, want) := by rfl) (hbb : bb = want := by (first | with_reducible rfl | with_reducible assumption | with_reducible exact Bool.not_false | with_reducible exact Bool.not_true)) (hd : Nat.blt n N = true := by rfl) (h : Sw P N av bor w0 ops rest ⟨(n, .bool (!seqB a b)) :: E, loc, X⟩ kk) :
    Sw P N av bor w0 ops (⟨some n, .binOp .neq t x y t2, ty, pos, af, g⟩ :: rest) ⟨E, loc, X⟩ kk := sw_yield (y_sneq hx hy) hg hbb hd h
theorem sy_slss {a b : ByteArray} (hx : ev E x = some (.string a) := by rfl) (hy : ev E y = some (.string b) := by rfl) (hg : gdB ops E g = some (bb, want) := by rfl) (hbb : bb = want := by (first | with_reducible rfl | with_reducible assumption | with_reducible exact Bool.not_false | with_reducible exact Bool.not_true)) (hd : Nat.blt n N = true := by rfl) (h : Sw P N av bor w0 ops rest ⟨(n, .bool (Op.bytesLess a.toList b.toList)) :: E, loc, X⟩ kk) :
    Sw P N av bor w0 ops (⟨some n, .binOp .lss t x y t2, ty, pos, af, g⟩ :: rest) ⟨E, loc, X⟩ kk := sw_yield (y_slss hx hy) hg hbb hd h
theorem sy_sgtr {a b : ByteArray} (hx : ev E x = some (.string a) := by rfl) (hy : ev E y = some (.string b) := by rfl) (hg : gdB ops E g = some (bb, want) := by rfl) (hbb : bb = want := by (first | with_reducible rfl | with_reducible assumption | with_reducible exact Bool.not_false | with_reducible exact Bool.not_true)) (hd : Nat.blt n N = true := by rfl) (h : Sw P N av bor w0 ops rest ⟨(n, .bool (!(Op.bytesLess a.toList b.toList || seqB a b))) :: E, loc, X⟩ kk) :
    Sw P N av bor w0 ops (⟨some n, .binOp .gtr t x y t2, ty, pos, af, g⟩ :: rest) ⟨E, loc, X⟩ kk := sw_yield (y_sgtr hx hy) hg hbb hd h
theorem sy_sgeq {a b : ByteArray} (hx : ev E x = some (.string a) := by rfl) (hy : ev E y = some (.string b) := by rfl) (hg : gdB ops E g = some (bb, want) := by rfl) (hbb : bb = want := by (first | with_reducible rfl | with_reducible assumption | with_reducible exact Bool.not_false | with_reducible exact Bool.not_true)) (hd : Nat.blt n N = true := by rfl) (h : Sw P N av bor w0 ops rest ⟨(n, .bool (!Op.bytesLess a.toList b.toList)) :: E, loc, X⟩ kk) :
    Sw P N av bor w0 ops (⟨some n, .binOp .geq t x y t2, ty, pos, af, g⟩ :: rest) ⟨E, loc, X⟩ kk := sw_yield (y_sgeq hx hy) hg hbb hd h
theorem sy_sleq {a b : ByteArray} (hx : ev E x = some (.string a) := by rfl) (hy : ev E y = some (.string b) := by rfl) (hg : gdB ops E g = some (bb, want) := by rfl) (hbb : bb = want := by (first | with_reducible rfl | with_reducible assumption | with_reducible exact Bool.not_false | with_reducible exact Bool.not_true)) (hd : Nat.blt n N = true := by rfl) (h : Sw P N av bor w0 ops rest ⟨(n, .bool (Op.bytesLess a.toList b.toList || seqB a b)) :: E, loc, X⟩ kk) :
    Sw P N av bor w0 ops (⟨some n, .binOp .leq t x y t2, ty, pos, af, g⟩ :: rest) ⟨E, loc, X⟩ kk := sw_yield (y_sleq hx hy) hg hbb hd h
theorem sy_cat {a b : ByteArray} (hx : ev E x = some (.string a) := by rfl) (hy : ev E y = some (.string b) := by rfl) (hb : a.size + b.size ≤ 9223372036854775807 := by omega) (hg : gdB ops E g = some (bb, want) := by rfl) (hbb : bb = want := by (first | with_reducible rfl | with_reducible assumption | with_reducible exact Bool.not_false | with_reducible exact Bool.not_true)) (hd : Nat.blt n N = true := by rfl) (h : Sw P N av bor w0 ops rest ⟨(n, .string (a ++ b)) :: E, loc, X⟩ kk) :
    Sw P N av bor w0 ops (⟨some n, .binOp .add t x y t2, ty, pos, af, g⟩ :: rest) ⟨E, loc, X⟩ kk := sw_yield (y_cat hx hy hb) hg hbb hd h
theorem sy_slen [hI : TyStr P t] {a : ByteArray} (hx : ev E x = some (.string a) := by rfl) (hg : gdB ops E g = some (bb, want) := by rfl) (hbb : bb = want := by (first | with_reducible rfl | with_reducible assumption | with_reducible exact Bool.not_false | with_reducible exact Bool.not_true)) (hd : Nat.blt n N = true := by rfl) (h : Sw P N av bor w0 ops rest ⟨(n, .int .i64 a.size) :: E, loc, X⟩ kk) :
    Sw P N av bor w0 ops (⟨some n, .call ⟨.builtin .len, #[x], #[t]⟩, ty, pos, af, g⟩ :: rest) ⟨E, loc, X⟩ kk := sw_yield (y_slen hx) hg hbb hd h
theorem sy_len {e n0' b' : Nat} [hI : TySl P t e n0' b'] {p : Option Addr} {n0 c : Nat} (hx : ev E x = some (.slice p n0 c) := by rfl) (hg : gdB ops E g = some (bb, want) := by rfl) (hbb : bb = want := by (first | with_reducible rfl | with_reducible assumption | with_reducible exact Bool.not_false | with_reducible exact Bool.not_true)) (hd : Nat.blt n N = true := by rfl) (h : Sw P N av bor w0 ops rest ⟨(n, .int .i64 n0) :: E, loc, X⟩ kk) :
    Sw P N av bor w0 ops (⟨some n, .call ⟨.builtin .len, #[x], #[t]⟩, ty, pos, af, g⟩ :: rest) ⟨E, loc, X⟩ kk := sw_yield (y_len hx) hg hbb hd h
theorem sy_extract {vs : Array Value} {i : Nat} {v : Value} (hx : ev E x = some (.tuple vs) := by rfl) (hv : tupAt vs.toList i = some v := by rfl) (hg : gdB ops E g = some (bb, want) := by rfl) (hbb : bb = want := by (first | with_reducible rfl | with_reducible assumption | with_reducible exact Bool.not_false | with_reducible exact Bool.not_true)) (hd : Nat.blt n N = true := by rfl) (h : Sw P N av bor w0 ops rest ⟨(n, v) :: E, loc, X⟩ kk) :
    Sw P N av bor w0 ops (⟨some n, .extract x i, ty, pos, af, g⟩ :: rest) ⟨E, loc, X⟩ kk := sw_yield (y_extract hx hv) hg hbb hd h
theorem sy_fld {s f o q : Nat} [hI : TyFld P s f o] {bl off : Nat} (hx : ev E x = some (.pointer (some ⟨bl, off, none⟩)) := by rfl) (hq : off + o = q := by (first | exact Nat.zero_add _ | rfl | (simp only [Nat.reduceAdd]; rfl))) (hg : gdB ops E g = some (bb, want) := by rfl) (hbb : bb = want := by (first | with_reducible rfl | with_reducible assumption | with_reducible exact Bool.not_false | with_reducible exact Bool.not_true)) (hd : Nat.blt n N = true := by rfl) (h : Sw P N av bor w0 ops rest ⟨(n, .pointer (some ⟨bl, q, none⟩)) :: E, loc, X⟩ kk) :
    Sw P N av bor w0 ops (⟨some n, .fieldAddr s x f, ty, pos, af, g⟩ :: rest) ⟨E, loc, X⟩ kk := sw_yield (y_fld hx hq) hg hbb hd h
theorem sy_ld [hI : TyOne P t] {bl off T : Nat} {cs : List Value} {v : Value} (hx : ev E x = some (.pointer (some ⟨bl, off, none⟩)) := by rfl) (hm : cel bl T cs ∈ loc := by (repeat (first | exact List.mem_cons_self | apply List.mem_cons_of_mem))) (hv : cs[off]? = some v := by rfl) (hg : gdB ops E g = some (bb, want) := by rfl) (hbb : bb = want := by (first | with_reducible rfl | with_reducible assumption | with_reducible exact Bool.not_false | with_reducible exact Bool.not_true)) (hd : Nat.blt n N = true := by rfl) (h : Sw P N av bor w0 ops rest ⟨(n, v) :: E, loc, X⟩ kk) :
    Sw P N av bor w0 ops (⟨some n, .load t x, ty, pos, af, g⟩ :: rest) ⟨E, loc, X⟩ kk := sw_yield (y_ld hx hm hv) hg hbb hd h
theorem sy_ldAll {n0 : Nat} [hI : TyAgg P t n0] {bl T : Nat} {cs : List Value} (hx : ev E x = some (.pointer (some ⟨bl, 0, none⟩)) := by rfl) (hm : cel bl T cs ∈ loc := by (repeat (first | exact List.mem_cons_self | apply List.mem_cons_of_mem))) (hn : cs.length = n0 := by rfl) (hg : gdB ops E g = some (bb, want) := by rfl) (hbb : bb = want := by (first | with_reducible rfl | with_reducible assumption | with_reducible exact Bool.not_false | with_reducible exact Bool.not_true)) (hd : Nat.blt n N = true := by rfl) (h : Sw P N av bor w0 ops rest ⟨(n, .agg cs.toArray) :: E, loc, X⟩ kk) :
    Sw P N av bor w0 ops (⟨some n, .load t x, ty, pos, af, g⟩ :: rest) ⟨E, loc, X⟩ kk := sw_yield (y_ldAll hx hm hn) hg hbb hd h
theorem sy_ldSub {n0 : Nat} [hI : TyAgg P t n0] {bl off T : Nat} {cs vs : List Value} (hx : ev E x = some (.pointer (some ⟨bl, off, none⟩)) := by rfl) (hm : cel bl T cs ∈ loc := by (repeat (first | exact List.mem_cons_self | apply List.mem_cons_of_mem))) (hv : (cs.drop off).take n0 = vs := by (first | exact ActD.cells_body _ | exact WrapD.cells_box _ | rfl)) (hn : vs.length = n0 := by rfl) (hg : gdB ops E g = some (bb, want) := by rfl) (hbb : bb = want := by (first | with_reducible rfl | with_reducible assumption | with_reducible exact Bool.not_false | with_reducible exact Bool.not_true)) (hd : Nat.blt n N = true := by rfl) (h : Sw P N av bor w0 ops rest ⟨(n, .agg vs.toArray) :: E, loc, X⟩ kk) :
    Sw P N av bor w0 ops (⟨some n, .load t x, ty, pos, af, g⟩ :: rest) ⟨E, loc, X⟩ kk := sw_yield (y_ldSub hx hm hv hn) hg hbb hd h
theorem sy_idx {e n0' b' : Nat} [hI : TySl P t e n0' b'] {bl off n0 c q : Nat} {i : Int} (hx : ev E x = some (.slice (some ⟨bl, off, none⟩) n0 c) := by rfl) (hy : ev E y = some (.int .i64 i) := by rfl) (h0 : 0 ≤ i := by omega) (h1 : i < n0 := by omega) (hq : off + i.toNat * n0' = q := by (first | rfl | omega)) (hg : gdB ops E g = some (bb, want) := by rfl) (hbb : bb = want := by (first | with_reducible rfl | with_reducible assumption | with_reducible exact Bool.not_false | with_reducible exact Bool.not_true)) (hd : Nat.blt n N = true := by rfl) (h : Sw P N av bor w0 ops rest ⟨(n, .pointer (some ⟨bl, q, none⟩)) :: E, loc, X⟩ kk) :
    Sw P N av bor w0 ops (⟨some n, .indexAddr t x y, ty, pos, af, g⟩ :: rest) ⟨E, loc, X⟩ kk := sw_yield (y_idx hx hy h0 h1 hq) hg hbb hd h
end
end Go.Proofs.YtfpojkoddcdojaaGreatDoor.Sy
