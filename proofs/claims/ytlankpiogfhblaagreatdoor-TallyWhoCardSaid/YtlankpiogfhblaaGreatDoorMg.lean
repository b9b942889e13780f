/- Joined by program (wip/dev/merge.py) out of: On Oo Ow. -/
import Derived.Test.YtlankpiogfhblaaGreatDoorMf
import Derived.Deep.Slices
import Derived.Deep.Fields
import Derived.ChangeSame
import Derived.ChangeArms
import Derived.Carry
import Derived.OpenShut
/- The arguments of the laws over chains: what came in read as chains, and the frame behind the call. -/
set_option linter.unusedVariables false
set_option linter.unusedSimpArgs false
namespace Go.Proofs.YtlankpiogfhblaaGreatDoor
open Go Go.Proofs Sy Go.RowKit Go.Deep Go.ChangeShapes
section
variable {H : Type} {enc : TypeId × Value → H} {P : Program} {w : World} {base : Nat} {spare : Nat → Bool} {held : Bool}
theorem fld_of {t : TypeId} {fs : Array Field} {fuel : Nat} {cs : List Value} {x : DataW H × List MemPlace} (ht : P.underlying t = some (.struct fs)) (h : DataW.trod enc P w base spare held fuel t cs = some x) {i : Nat} {f : Field} (hf : fs[i]? = some f) {off k : Nat} {t' : TypeId} (ho : f.offset = off) (htt : f.type = t') (hk : P.cellsOf t' = k) :
    ∃ n y, DataW.trod enc P w base spare held n t' ((cs.drop off).take k) = some y := by
  obtain ⟨xs, n, _, _, _, hlen, hg⟩ := DataW.trod_struct ht h
  have h1 := hg i f hf
  have hi : i < fs.size := (Array.getElem?_eq_some_iff.1 hf).1
  subst ho; subst htt; subst hk
  rw [List.getElem?_eq_getElem (by omega)] at h1
  exact ⟨n, _, h1⟩
theorem open_rows {α : Type} [Inhabited α] {t e : TypeId} {size fuel : Nat} {cs : List Value} {x : DataW H × List MemPlace} (ht : P.underlying t = some (.slice e)) (hc : P.cellsOf e = size) (cells : α → List Value) (Q : α → Prop)
    (each : ∀ n cs y, DataW.trod enc P w base spare held n e cs = some y → ∃ a, cs = cells a ∧ Q a) (h : DataW.trod enc P w base spare held fuel t cs = some x) :
    ∃ (s : SlV) (l : List α), cs = [s.v] ∧ RowsD w size s (l.map cells) ∧ ∀ a ∈ l, Q a := by
  rcases open_slice ht h with ⟨rfl, _⟩ | ⟨a, len, cap, m, n, D, Pl, rfl, hb, hl, hm, hmm, hx, hi⟩
  · exact ⟨⟨none, 0, 0⟩, [], rfl, rowsD_nil w size, by simp⟩
  · have hlm : len ≤ m := by rw [hmm]; split <;> omega
    have h1 : ∀ i, i < len → ∃ z : α, w.cells? base (a.add (i * size)) size = some (cells z) ∧ Q z := fun i hil => by
      obtain ⟨cs', h2, h3⟩ := hi i (by omega)
      obtain ⟨z, rfl, hz⟩ := each _ _ _ h3
      rw [hc] at h2
      exact ⟨z, h2, hz⟩
    obtain ⟨F, hF⟩ := choose_lt h1
    refine ⟨⟨some a, len, cap⟩, (List.range len).map F, rfl, ⟨by simp, hl, hm, fun i cs' hcs => ?_⟩, fun z hz => ?_⟩
    · simp only [List.map_map, List.getElem?_map] at hcs
      have hil : i < len := by
        cases hr : (List.range len)[i]? with
        | none => rw [hr] at hcs; cases hcs
        | some k => have := (List.getElem?_eq_some_iff.1 hr).1; simpa using this
      rw [List.getElem?_range hil] at hcs
      simp only [Option.map_some, Function.comp_apply, Option.some.injEq] at hcs
      subst hcs
      obtain ⟨_, hlen, hat⟩ := World.cells?_some (hF i hil).1
      refine ⟨hlen, rfl, fun j u hj => ⟨rfl, fun a' ha' => ?_⟩⟩
      obtain rfl : a = a' := Option.some.inj ha'
      rw [← Go.Deep.add_add, hat j (by rw [← hlen]; exact (List.getElem?_eq_some_iff.1 hj).1), hj]
    · simp only [List.mem_map, List.mem_range] at hz
      obtain ⟨i, hil, rfl⟩ := hz
      exact (hF i hil).2
theorem CellAt.keep {w' : World} {p : Option Addr} {q : Nat} {u : Value} (h : CellAt w p q u) (hs : ∀ k, k < w.heap.size → w'.heap[k]? = w.heap[k]?) : CellAt w' p q u := ⟨h.1, fun a ha => by
  have h1 := h.2 a ha
  have h2 : (a.add q).block < w.heap.size := by
    cases hh : w.heap[(a.add q).block]? with
    | none => simp [World.cell?, hh] at h1
    | some o => exact (Array.getElem?_eq_some_iff.1 hh).1
  rw [World.cell?_of_block (w := w) (hs _ h2), h1]⟩
theorem RowsD.keep {w' : World} {size : Nat} {s : SlV} {xs : List (List Value)} (h : RowsD w size s xs) (hs : ∀ k, k < w.heap.size → w'.heap[k]? = w.heap[k]?) : RowsD w' size s xs :=
  ⟨h.len, h.cap, h.max, fun i cs hi => ⟨(h.row i cs hi).1, (h.row i cs hi).2.1, fun j u hj => CellAt.keep ((h.row i cs hi).2.2 j u hj) hs⟩⟩
theorem CellsAt.keep {w' : World} {g : Nat} {l : List Value} (h : CellsAt g l w) (hs : ∀ k, k < w.heap.size → w'.heap[k]? = w.heap[k]?) : CellsAt g l w' := fun j v hj => by
  have h1 := h j v hj
  have h2 : g < w.heap.size := by
    cases hh : w.heap[g]? with
    | none => simp [World.cell?, hh] at h1
    | some o => exact (Array.getElem?_eq_some_iff.1 hh).1
  rw [World.cell?_of_block (w := w) (a := ⟨g, j, none⟩) (hs _ h2), h1]
theorem XC.keep {w' : World} {c : ChainD} (h : XC c w) (hs : ∀ k, k < w.heap.size → w'.heap[k]? = w.heap[k]?) : XC c w' :=
  ⟨⟨RowsD.keep h.1.1 hs, fun a ha => ⟨RowsD.keep (h.1.2 a ha).1 hs, RowsD.keep (h.1.2 a ha).2 hs⟩⟩, ⟨h.2.ini.keep hs, h.2.k.keep hs⟩⟩
theorem wf_lt {n : Int} (h : (Lit.int .i64 n).wf = true) : n < 9223372036854775808 := by have := (Go.bounds_i64 h).2; omega
theorem open_int1 {fuel : Nat} {cs : List Value} {x : DataW H × List MemPlace} (h : DataW.trod enc Tryz.prog w base spare held fuel 3 cs = some x) : ∃ n : Int, cs = [.int .i64 n] ∧ n < 9223372036854775808 := by
  obtain ⟨n, h1, _, h3⟩ := DataW.trod_int Tryz.underlying3 h
  exact ⟨n, h1, wf_lt h3⟩
theorem open_str1 {fuel : Nat} {cs : List Value} {x : DataW H × List MemPlace} (h : DataW.trod enc Tryz.prog w base spare held fuel 9 cs = some x) : ∃ s : ByteArray, cs = [.string s] ∧ s.size ≤ maxLen := by
  obtain ⟨s, h1, _, h3⟩ := DataW.trod_string Tryz.underlying9 h
  exact ⟨s, h1, h3⟩
theorem open_bool1 {fuel : Nat} {cs : List Value} {x : DataW H × List MemPlace} (h : DataW.trod enc Tryz.prog w base spare held fuel 4 cs = some x) : ∃ b : Bool, cs = [.bool b] := by
  obtain ⟨b, h1, _⟩ := DataW.trod_bool Tryz.underlying4 h
  exact ⟨b, h1⟩
theorem open_strings {fuel : Nat} {cs : List Value} {x : DataW H × List MemPlace} (h : DataW.trod enc Tryz.prog w base spare held fuel 25 cs = some x) : ∃ (s : SlV) (l : List ByteArray), cs = [s.v] ∧ Strs w s l := by
  obtain ⟨s, l, h1, h2, _⟩ := open_rows (α := ByteArray) Tryz.underlying25 (size := 1) (by kernel_rfl) (fun s => [.string s]) (fun _ => True) (fun n cs y hy => by obtain ⟨s, h1, _⟩ := open_str1 hy; exact ⟨s, h1, trivial⟩) h
  exact ⟨s, l, h1, h2⟩
theorem len_of {t : TypeId} {fs : Array Field} {P : Program} {fuel k : Nat} {cs : List Value} {x : DataW H × List MemPlace} (ht : P.underlying t = some (.struct fs)) (hk : P.cellsOf t = k) (h : DataW.trod enc P w base spare held fuel t cs = some x) : cs.length = k := by
  obtain ⟨xs, n, _, _, h1, _, _⟩ := DataW.trod_struct ht h
  rw [h1, hk]
theorem open_box {fuel : Nat} {cs : List Value} {x : DataW H × List MemPlace} (h : DataW.trod enc Tryz.prog w base spare held fuel 42 cs = some x) : ∃ b : BoxD, cs = b.cells := by
  have hl := len_of Tryz.underlying42 (k := 3) (by kernel_rfl) h
  obtain ⟨n0, y0, h0⟩ := fld_of (i := 0) (off := 0) (k := 1) (t' := 9) Tryz.underlying42 h rfl rfl rfl (by kernel_rfl)
  obtain ⟨n1, y1, h1⟩ := fld_of (i := 1) (off := 1) (k := 1) (t' := 9) Tryz.underlying42 h rfl rfl rfl (by kernel_rfl)
  obtain ⟨n2, y2, h2⟩ := fld_of (i := 2) (off := 2) (k := 1) (t' := 9) Tryz.underlying42 h rfl rfl rfl (by kernel_rfl)
  match cs, hl with
  | [c0, c1, c2], _ =>
    obtain ⟨s0, e0, _⟩ := open_str1 h0
    obtain ⟨s1, e1, _⟩ := open_str1 h1
    obtain ⟨s2, e2, _⟩ := open_str1 h2
    simp at e0 e1 e2
    exact ⟨⟨s0, s1, s2⟩, by rw [e0, e1, e2]; rfl⟩
theorem open_wrap {fuel : Nat} {cs : List Value} {x : DataW H × List MemPlace} (h : DataW.trod enc Tryz.prog w base spare held fuel 78 cs = some x) : ∃ b : WrapD, cs = b.cells ∧ b.to < 9223372036854775808 ∧ b.eph < 9223372036854775808 := by
  have hl := len_of Tryz.underlying78 (k := 5) (by kernel_rfl) h
  obtain ⟨n0, y0, h0⟩ := fld_of (i := 0) (off := 0) (k := 1) (t' := 3) Tryz.underlying78 h rfl rfl rfl (by kernel_rfl)
  obtain ⟨n1, y1, h1⟩ := fld_of (i := 1) (off := 1) (k := 1) (t' := 3) Tryz.underlying78 h rfl rfl rfl (by kernel_rfl)
  obtain ⟨n2, y2, h2⟩ := fld_of (i := 2) (off := 2) (k := 3) (t' := 42) Tryz.underlying78 h rfl rfl rfl (by kernel_rfl)
  match cs, hl with
  | [c0, c1, c2, c3, c4], _ =>
    obtain ⟨s0, e0, b0⟩ := open_int1 h0
    obtain ⟨s1, e1, b1⟩ := open_int1 h1
    obtain ⟨s2, e2⟩ := open_box h2
    simp [BoxD.cells] at e0 e1 e2
    exact ⟨⟨s0, s1, s2⟩, by simp [WrapD.cells, e0, e1, e2], b0, b1⟩
theorem open_wraps {fuel : Nat} {cs : List Value} {x : DataW H × List MemPlace} (h : DataW.trod enc Tryz.prog w base spare held fuel 43 cs = some x) : ∃ (s : SlV) (l : List WrapD), cs = [s.v] ∧ Wraps w s l ∧ ∀ b ∈ l, b.to < 9223372036854775808 ∧ b.eph < 9223372036854775808 := by
  haveI : Inhabited WrapD := ⟨⟨0, 0, BoxD.zero⟩⟩
  exact open_rows (α := WrapD) Tryz.underlying43 (size := 5) (by kernel_rfl) WrapD.cells _ (fun n cs y hy => open_wrap hy) h
theorem open_sig {fuel : Nat} {cs : List Value} {x : DataW H × List MemPlace} (h : DataW.trod enc Tryz.prog w base spare held fuel 45 cs = some x) : ∃ e s : Int, cs = [.int .i64 e, .int .i64 s] ∧ e < 9223372036854775808 ∧ s < 9223372036854775808 := by
  have hl := len_of Tryz.underlying45 (k := 2) (by kernel_rfl) h
  obtain ⟨n0, y0, h0⟩ := fld_of (i := 0) (off := 0) (k := 1) (t' := 3) Tryz.underlying45 h rfl rfl rfl (by kernel_rfl)
  obtain ⟨n1, y1, h1⟩ := fld_of (i := 1) (off := 1) (k := 1) (t' := 3) Tryz.underlying45 h rfl rfl rfl (by kernel_rfl)
  match cs, hl with
  | [c0, c1], _ =>
    obtain ⟨s0, e0, b0⟩ := open_int1 h0
    obtain ⟨s1, e1, b1⟩ := open_int1 h1
    simp at e0 e1
    exact ⟨s0, s1, by rw [e0, e1], b0, b1⟩
theorem open_act {fuel : Nat} {cs : List Value} {x : DataW H × List MemPlace} (h : DataW.trod enc Tryz.prog w base spare held fuel 47 cs = some x) : ∃ a : ActD, cs = a.cells ∧ a.at_ w ∧ a.Rng ∧ a.target.size ≤ maxLen := by
  have hl := len_of Tryz.underlying47 (k := 20) (by kernel_rfl) h
  obtain ⟨n0, y0, h0⟩ := fld_of (i := 0) (off := 0) (k := 1) (t' := 9) Tryz.underlying47 h rfl rfl rfl (by kernel_rfl)
  obtain ⟨n1, y1, h1⟩ := fld_of (i := 1) (off := 1) (k := 1) (t' := 3) Tryz.underlying47 h rfl rfl rfl (by kernel_rfl)
  obtain ⟨n2, y2, h2⟩ := fld_of (i := 2) (off := 2) (k := 1) (t' := 9) Tryz.underlying47 h rfl rfl rfl (by kernel_rfl)
  obtain ⟨n3, y3, h3⟩ := fld_of (i := 3) (off := 3) (k := 1) (t' := 3) Tryz.underlying47 h rfl rfl rfl (by kernel_rfl)
  obtain ⟨n4, y4, h4⟩ := fld_of (i := 4) (off := 4) (k := 1) (t' := 3) Tryz.underlying47 h rfl rfl rfl (by kernel_rfl)
  obtain ⟨n5, y5, h5⟩ := fld_of (i := 5) (off := 5) (k := 1) (t' := 9) Tryz.underlying47 h rfl rfl rfl (by kernel_rfl)
  obtain ⟨n6, y6, h6⟩ := fld_of (i := 6) (off := 6) (k := 1) (t' := 9) Tryz.underlying47 h rfl rfl rfl (by kernel_rfl)
  obtain ⟨n7, y7, h7⟩ := fld_of (i := 7) (off := 7) (k := 1) (t' := 3) Tryz.underlying47 h rfl rfl rfl (by kernel_rfl)
  obtain ⟨n8, y8, h8⟩ := fld_of (i := 8) (off := 8) (k := 1) (t' := 9) Tryz.underlying47 h rfl rfl rfl (by kernel_rfl)
  obtain ⟨n9, y9, h9⟩ := fld_of (i := 9) (off := 9) (k := 1) (t' := 25) Tryz.underlying47 h rfl rfl rfl (by kernel_rfl)
  obtain ⟨n10, y10, h10⟩ := fld_of (i := 10) (off := 10) (k := 1) (t' := 9) Tryz.underlying47 h rfl rfl rfl (by kernel_rfl)
  obtain ⟨n11, y11, h11⟩ := fld_of (i := 11) (off := 11) (k := 3) (t' := 42) Tryz.underlying47 h rfl rfl rfl (by kernel_rfl)
  obtain ⟨n12, y12, h12⟩ := fld_of (i := 12) (off := 14) (k := 1) (t' := 3) Tryz.underlying47 h rfl rfl rfl (by kernel_rfl)
  obtain ⟨n13, y13, h13⟩ := fld_of (i := 13) (off := 15) (k := 1) (t' := 43) Tryz.underlying47 h rfl rfl rfl (by kernel_rfl)
  obtain ⟨n14, y14, h14⟩ := fld_of (i := 14) (off := 16) (k := 1) (t' := 3) Tryz.underlying47 h rfl rfl rfl (by kernel_rfl)
  obtain ⟨n15, y15, h15⟩ := fld_of (i := 15) (off := 17) (k := 1) (t' := 3) Tryz.underlying47 h rfl rfl rfl (by kernel_rfl)
  obtain ⟨n16, y16, h16⟩ := fld_of (i := 16) (off := 18) (k := 2) (t' := 45) Tryz.underlying47 h rfl rfl rfl (by kernel_rfl)
  match cs, hl with
  | [c0, c1, c2, c3, c4, c5, c6, c7, c8, c9, c10, c11, c12, c13, c14, c15, c16, c17, c18, c19], _ =>
    obtain ⟨s0, e0, b0⟩ := open_str1 h0
    obtain ⟨s1, e1, b1⟩ := open_int1 h1
    obtain ⟨s2, e2, b2⟩ := open_str1 h2
    obtain ⟨s3, e3, b3⟩ := open_int1 h3
    obtain ⟨s4, e4, b4⟩ := open_int1 h4
    obtain ⟨s5, e5, b5⟩ := open_str1 h5
    obtain ⟨s6, e6, b6⟩ := open_str1 h6
    obtain ⟨s7, e7, b7⟩ := open_int1 h7
    obtain ⟨s8, e8, b8⟩ := open_str1 h8
    obtain ⟨s9, l9, e9, b9⟩ := open_strings h9
    obtain ⟨s10, e10, b10⟩ := open_str1 h10
    obtain ⟨s11, e11⟩ := open_box h11
    obtain ⟨s12, e12, b12⟩ := open_int1 h12
    obtain ⟨s13, l13, e13, b13, r13⟩ := open_wraps h13
    obtain ⟨s14, e14, b14⟩ := open_int1 h14
    obtain ⟨s15, e15, b15⟩ := open_int1 h15
    obtain ⟨s16, s17, e16, b16, b17⟩ := open_sig h16
    simp [BoxD.cells] at e0 e1 e2 e3 e4 e5 e6 e7 e8 e9 e10 e11 e12 e13 e14 e15 e16
    refine ⟨⟨s0, s1, s2, s3, s4, s5, s6, s7, s8, s9, s10, s11, s12, s13, s14, s15, s16, s17, l9, l13⟩, ?_, ⟨b9, b13⟩, ⟨⟨b1, b3, b4, b7, b12, b14, b15, b16, b17⟩, r13, by have := RowsD.len b9; simpa [strs] using this, by have := RowsD.len b13; simpa using this⟩, b6⟩
    simp [ActD.cells, e0, e1, e2, e3, e4, e5, e6, e7, e8, e9, e10, e11, e12, e13, e14, e15, e16]
theorem open_sl {t e : TypeId} {fuel : Nat} {cs : List Value} {P : Program} {x : DataW H × List MemPlace} (ht : P.underlying t = some (.slice e)) (h : DataW.trod enc P w base spare held fuel t cs = some x) : ∃ s : SlV, cs = [s.v] := by
  rcases open_slice ht h with ⟨rfl, _⟩ | ⟨a, len, cap, m, n, D, Pl, rfl, _⟩
  · exact ⟨⟨none, 0, 0⟩, rfl⟩
  · exact ⟨⟨some a, len, cap⟩, rfl⟩
end
end Go.Proofs.YtlankpiogfhblaaGreatDoor

/- More openers: lists of strings with their sizes, lists of chains; what stays behind the call. -/
set_option linter.unusedVariables false
set_option linter.unusedSimpArgs false
namespace Go.Proofs.YtlankpiogfhblaaGreatDoor
open Go Go.Proofs Sy Go.RowKit Go.Deep Go.ChangeShapes
section
variable {H : Type} {enc : TypeId × Value → H} {P : Program} {w : World} {base : Nat} {spare : Nat → Bool} {held : Bool}
theorem ChainD.keep {w' : World} {c : ChainD} (h : c.at_ w) (hs : ∀ k, k < w.heap.size → w'.heap[k]? = w.heap[k]?) : c.at_ w' :=
  ⟨RowsD.keep h.1 hs, fun a ha => ⟨RowsD.keep (h.2 a ha).1 hs, RowsD.keep (h.2 a ha).2 hs⟩⟩
theorem Chains.keep {w' : World} {s : SlV} {l : List ChainD} (h : Chains w s l) (hs : ∀ k, k < w.heap.size → w'.heap[k]? = w.heap[k]?) : Chains w' s l :=
  ⟨RowsD.keep h.1 hs, fun c hc => ChainD.keep (h.2 c hc) hs⟩
end
end Go.Proofs.YtlankpiogfhblaaGreatDoor

/- Openers that hand on the form's own reach: rows of what was read in, each with its share of the weights; activities and chains. -/
set_option linter.unusedVariables false
set_option linter.unusedSimpArgs false
namespace Go.Proofs.YtlankpiogfhblaaGreatDoor
open Go Go.Proofs Sy Go.RowKit Go.Deep Go.ChangeShapes
section
variable {H : Type} {enc : TypeId × Value → H} {P : Program} {w : World} {base : Nat} {spare : Nat → Bool} {held : Bool}
def Reached (P : Program) (t : TypeId) (d : DataW H) : Prop := ∀ n ∈ DataW.weights P t d, n ≤ reachBytes
theorem weightsAll_mem {e : TypeId} : ∀ {l : List (DataW H)} {d : DataW H}, d ∈ l → ∀ n ∈ DataW.weights P e d, n ∈ DataW.weightsAll P e l
  | [], d, h, n, hn => by cases h
  | a :: l, d, h, n, hn => by
    rw [DataW.weightsAll, List.mem_append]
    rcases List.mem_cons.1 h with rfl | h
    · exact .inl hn
    · exact .inr (weightsAll_mem h n hn)
theorem open_rowsW {α : Type} [Inhabited α] {t e : TypeId} {size bytes fuel : Nat} {cs : List Value} {x : DataW H × List MemPlace} (ht : P.underlying t = some (.slice e)) (hc : P.cellsOf e = size) (hby : P.bytesOf e = bytes) (cells : α → List Value) (Q : α → Prop)
    (each : ∀ n cs y, DataW.trod enc P w base spare held n e cs = some y → Reached P e y.1 → ∃ a, cs = cells a ∧ Q a) (h : DataW.trod enc P w base spare held fuel t cs = some x) (hW : Reached P t x.1) :
    ∃ (s : SlV) (l : List α), cs = [s.v] ∧ RowsD w size s (l.map cells) ∧ (∀ a ∈ l, Q a) ∧ s.n * bytes ≤ reachBytes := by
  rcases open_slice ht h with ⟨rfl, _⟩ | ⟨a, len, cap, m, n, D, Pl, rfl, hb, hl, hm, hmm, hx, hi⟩
  · exact ⟨⟨none, 0, 0⟩, [], rfl, rowsD_nil w size, by simp, by simp⟩
  · have hlm : len ≤ m := by rw [hmm]; split <;> omega
    have hel : ∀ i, i < len → Reached P e (D i) := fun i hil k hk => hW k (by
      rw [hx]
      simp only [DataW.weights, ht]
      exact List.mem_cons_of_mem _ (List.mem_append_left _ (weightsAll_mem (List.mem_map.2 ⟨i, List.mem_range.2 hil, rfl⟩) k hk)))
    have h1 : ∀ i, i < len → ∃ z : α, w.cells? base (a.add (i * size)) size = some (cells z) ∧ Q z := fun i hil => by
      obtain ⟨cs', h2, h3⟩ := hi i (by omega)
      obtain ⟨z, rfl, hz⟩ := each _ _ _ h3 (hel i hil)
      rw [hc] at h2
      exact ⟨z, h2, hz⟩
    have hn := hW ((((List.range len).map D).length + ((List.range (m - len)).map fun j => D (len + j)).length) * P.bytesOf e) (by rw [hx]; simp [DataW.weights, ht])
    rw [hby, List.length_map, List.length_range, Nat.add_mul] at hn
    obtain ⟨F, hF⟩ := choose_lt h1
    refine ⟨⟨some a, len, cap⟩, (List.range len).map F, rfl, ⟨by simp, hl, hm, fun i cs' hcs => ?_⟩, fun z hz => ?_, by show len * bytes ≤ _; omega⟩
    · simp only [List.map_map, List.getElem?_map] at hcs
      have hil : i < len := by
        cases hr : (List.range len)[i]? with
        | none => rw [hr] at hcs; cases hcs
        | some k => have := (List.getElem?_eq_some_iff.1 hr).1; simpa using this
      rw [List.getElem?_range hil] at hcs
      simp only [Option.map_some, Function.comp_apply, Option.some.injEq] at hcs
      subst hcs
      obtain ⟨_, hlen, hat⟩ := World.cells?_some (hF i hil).1
      refine ⟨hlen, rfl, fun j u hj => ⟨rfl, fun a' ha' => ?_⟩⟩
      obtain rfl : a = a' := Option.some.inj ha'
      rw [← Go.Deep.add_add, hat j (by rw [← hlen]; exact (List.getElem?_eq_some_iff.1 hj).1), hj]
    · simp only [List.mem_map, List.mem_range] at hz
      obtain ⟨i, hil, rfl⟩ := hz
      exact (hF i hil).2
/-- a field of a struct, with its share -/
theorem fld_ofW {t : TypeId} {fs : Array Field} {fuel : Nat} {cs : List Value} {x : DataW H × List MemPlace} (ht : P.underlying t = some (.struct fs)) (h : DataW.trod enc P w base spare held fuel t cs = some x) (hW : Reached P t x.1) {i : Nat} {f : Field} (hf : fs[i]? = some f) {off k : Nat} {t' : TypeId} (ho : f.offset = off) (htt : f.type = t') (hk : P.cellsOf t' = k) :
    ∃ n y, DataW.trod enc P w base spare held n t' ((cs.drop off).take k) = some y ∧ Reached P t' y.1 := by
  obtain ⟨xs, n, _, hx1, _, hlen, hg⟩ := DataW.trod_struct ht h
  have h1 := hg i f hf
  have hi : i < fs.size := (Array.getElem?_eq_some_iff.1 hf).1
  subst ho; subst htt; subst hk
  rw [List.getElem?_eq_getElem (by omega)] at h1
  refine ⟨n, _, h1, fun q hq => hW q ?_⟩
  rw [hx1]
  simp only [DataW.weights, ht]
  refine DataW.weights_mem_each (j := i) (t := f.type) (d := (xs[i]'(by omega)).1) (by rw [List.getElem?_map]; simp [hf]) (by rw [List.getElem?_map, List.getElem?_eq_getElem (by omega)]; rfl) q hq
/-- the rooms of an activity's lists -/
def ActD.Room (a : ActD) : Prop := a.to.n * 16 ≤ 140737488351232 ∧ a.wraps.n * 64 ≤ 140737488351232
theorem act_room {fuel : Nat} {a : ActD} {x : DataW H × List MemPlace} (h : DataW.trod enc Tryz.prog w base spare held fuel 47 a.cells = some x) (hW : Reached Tryz.prog 47 x.1) : a.Room := by
  obtain ⟨n9, y9, h9, w9⟩ := fld_ofW (i := 9) (off := 9) (k := 1) (t' := 25) Tryz.underlying47 h hW rfl rfl rfl (by kernel_rfl)
  obtain ⟨n13, y13, h13, w13⟩ := fld_ofW (i := 13) (off := 15) (k := 1) (t' := 43) Tryz.underlying47 h hW rfl rfl rfl (by kernel_rfl)
  obtain ⟨s9, l9, e9, _, _, r9⟩ := open_rowsW (α := ByteArray) Tryz.underlying25 (size := 1) (bytes := 16) (by kernel_rfl) (by kernel_rfl) (fun s => [.string s]) (fun _ => True) (fun n cs y hy _ => by obtain ⟨s, h1, _⟩ := open_str1 hy; exact ⟨s, h1, trivial⟩) h9 w9
  haveI : Inhabited WrapD := ⟨⟨0, 0, BoxD.zero⟩⟩
  obtain ⟨s13, l13, e13, _, _, r13⟩ := open_rowsW (α := WrapD) Tryz.underlying43 (size := 5) (bytes := 64) (by kernel_rfl) (by kernel_rfl) WrapD.cells (fun _ => True) (fun n cs y hy _ => by obtain ⟨s, h1, _⟩ := open_wrap hy; exact ⟨s, h1, trivial⟩) h13 w13
  have e1 : a.to.v = s9.v := by simpa [ActD.cells] using e9
  have e2 : a.wraps.v = s13.v := by simpa [ActD.cells] using e13
  have f1 : a.to.n = s9.n := by
    cases hk : a.to; cases s9; rw [hk] at e1; simp [SlV.v] at e1; exact e1.2.1
  have f2 : a.wraps.n = s13.n := by
    cases hk : a.wraps; cases s13; rw [hk] at e2; simp [SlV.v] at e2; exact e2.2.1
  have hr : reachBytes = 140737488351232 := rfl
  exact ⟨by rw [f1, ← hr]; exact r9, by rw [f2, ← hr]; exact r13⟩
def ActD.Good (a : ActD) : Prop := a.Rng ∧ a.target.size ≤ maxLen ∧ a.Room
theorem ActD.Good.sm {a : ActD} (h : a.Good) : a.Sm := ⟨h.2.2.1, h.2.2.2, h.2.1⟩
theorem open_actsW {fuel : Nat} {cs : List Value} {x : DataW H × List MemPlace} (h : DataW.trod enc Tryz.prog w base spare held fuel 35 cs = some x) (hW : Reached Tryz.prog 35 x.1) : ∃ (s : SlV) (l : List ActD), cs = [s.v] ∧ Acts w s l ∧ ∀ a ∈ l, a.Good := by
  haveI : Inhabited ActD := ⟨ActD.zero⟩
  obtain ⟨s, l, h1, h2, h3, _⟩ := open_rowsW (α := ActD) Tryz.underlying35 (size := 20) (bytes := Tryz.prog.bytesOf 47) (by kernel_rfl) rfl ActD.cells (fun a => a.at_ w ∧ a.Good) (fun n cs y hy hw => by
    obtain ⟨a, rfl, h1, h2, h3⟩ := open_act hy
    exact ⟨a, rfl, h1, h2, h3, act_room hy hw⟩) h hW
  exact ⟨s, l, h1, ⟨h2, fun a ha => (h3 a ha).1⟩, fun a ha => (h3 a ha).2⟩
theorem open_chainW {fuel : Nat} {cs : List Value} {x : DataW H × List MemPlace} (h : DataW.trod enc Tryz.prog w base spare held fuel 38 cs = some x) (hW : Reached Tryz.prog 38 x.1) : ∃ c : ChainD, cs = c.cells ∧ c.at_ w ∧ c.id.size ≤ maxLen ∧ ∀ a ∈ c.actsL, a.Good := by
  have hl := len_of Tryz.underlying38 (k := 6) (by kernel_rfl) h
  obtain ⟨n0, y0, h0⟩ := fld_of (i := 0) (off := 0) (k := 1) (t' := 9) Tryz.underlying38 h rfl rfl rfl (by kernel_rfl)
  obtain ⟨n1, y1, h1, w1⟩ := fld_ofW (i := 1) (off := 1) (k := 1) (t' := 35) Tryz.underlying38 h hW rfl rfl rfl (by kernel_rfl)
  obtain ⟨n2, y2, h2⟩ := fld_of (i := 2) (off := 2) (k := 1) (t' := 36) Tryz.underlying38 h rfl rfl rfl (by kernel_rfl)
  obtain ⟨n3, y3, h3⟩ := fld_of (i := 3) (off := 3) (k := 1) (t' := 9) Tryz.underlying38 h rfl rfl rfl (by kernel_rfl)
  obtain ⟨n4, y4, h4⟩ := fld_of (i := 4) (off := 4) (k := 1) (t' := 3) Tryz.underlying38 h rfl rfl rfl (by kernel_rfl)
  obtain ⟨n5, y5, h5⟩ := fld_of (i := 5) (off := 5) (k := 1) (t' := 4) Tryz.underlying38 h rfl rfl rfl (by kernel_rfl)
  match cs, hl with
  | [c0, c1, c2, c3, c4, c5], _ =>
    obtain ⟨s0, e0, b0⟩ := open_str1 h0
    obtain ⟨s1, l1, e1, b1, r1⟩ := open_actsW h1 w1
    obtain ⟨s2, e2⟩ := open_sl Tryz.underlying36 h2
    obtain ⟨s3, e3, b3⟩ := open_str1 h3
    obtain ⟨s4, e4, b4⟩ := open_int1 h4
    obtain ⟨s5, e5⟩ := open_bool1 h5
    simp at e0 e1 e2 e3 e4 e5
    exact ⟨⟨s0, s1, s2, s3, s4, s5, l1⟩, by simp [ChainD.cells, e0, e1, e2, e3, e4, e5], b1, b0, r1⟩
theorem open_chainsW {fuel : Nat} {cs : List Value} {x : DataW H × List MemPlace} (h : DataW.trod enc Tryz.prog w base spare held fuel 22 cs = some x) (hW : Reached Tryz.prog 22 x.1) : ∃ (s : SlV) (l : List ChainD), cs = [s.v] ∧ Chains w s l ∧ ∀ c ∈ l, c.id.size ≤ maxLen ∧ ∀ a ∈ c.actsL, a.Good := by
  haveI : Inhabited ChainD := ⟨ChainD.zero⟩
  obtain ⟨s, l, h1, h2, h3, _⟩ := open_rowsW (α := ChainD) Tryz.underlying22 (size := 6) (bytes := Tryz.prog.bytesOf 38) (by kernel_rfl) rfl ChainD.cells (fun c => c.at_ w ∧ c.id.size ≤ maxLen ∧ ∀ a ∈ c.actsL, a.Good) (fun n cs y hy hw => open_chainW hy hw) h hW
  exact ⟨s, l, h1, ⟨h2, fun c hc => (h3 c hc).1⟩, fun c hc => (h3 c hc).2⟩
end
end Go.Proofs.YtlankpiogfhblaaGreatDoor
