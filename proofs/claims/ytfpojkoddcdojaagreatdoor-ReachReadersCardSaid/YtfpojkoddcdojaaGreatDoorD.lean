/- The data: activities and their parts, as records; their cells. -/
import Derived.Test.YtfpojkoddcdojaaGreatDoorTy
import Derived.Test.YtfpojkoddcdojaaGreatDoorDp
set_option linter.unusedVariables false
namespace Go.Proofs.YtfpojkoddcdojaaGreatDoor
open Go Go.Proofs Sy

/-! strings that stand in a slice -/
def strs (l : List ByteArray) : List (List Value) := l.map fun s => [.string s]
def Strs (w : World) (s : SlV) (l : List ByteArray) : Prop := RowsD w 1 s (strs l)
theorem Strs.at_ {w : World} {s : SlV} {l : List ByteArray} (h : Strs w s l) {i : Nat} {x : ByteArray} (hx : l[i]? = some x) : CellAt w s.p i (.string x) := by
  have := (RowsD.row h i [.string x] (by simp [strs, hx])).2.2 0 (.string x) rfl
  simpa using this
theorem Strs.len_ {w : World} {s : SlV} {l : List ByteArray} (h : Strs w s l) : s.n = l.length := by have := RowsD.len h; simpa [strs] using this
theorem Strs.some_ {w : World} {s : SlV} {l : List ByteArray} (h : Strs w s l) (hl : 0 < l.length) : s.p.isSome = true := by
  have hx : l[0]? = some l[0] := List.getElem?_eq_getElem hl
  exact (RowsD.row h 0 [.string l[0]] (by simp [strs, hx])).2.1
theorem Strs.get {w : World} {s : SlV} {l : List ByteArray} (h : Strs w s l) {i : Nat} (hi : i < l.length) : CellAt w s.p i (.string (l.getD i .empty)) := h.at_ (by simp [hi])

structure BoxD where
  nonce : ByteArray
  data : ByteArray
  tag : ByteArray
structure WrapD where
  to : Int
  eph : Int
  box : BoxD
structure ActD where
  author : ByteArray
  seq : Int
  prev : ByteArray
  kind : Int
  time : Int
  object : ByteArray
  target : ByteArray
  scope : Int
  group : ByteArray
  to : SlV
  text : ByteArray
  body : BoxD
  epoch : Int
  wraps : SlV
  n : Int
  m : Int
  e : Int
  s : Int
  toL : List ByteArray
  wrapsL : List WrapD
def BoxD.cells (b : BoxD) : List Value := [.string b.nonce, .string b.data, .string b.tag]
def BoxD.v (b : BoxD) : Value := .agg b.cells.toArray
theorem BoxD.v_cells (b : BoxD) : b.v.cells.toList = b.cells := rfl
def BoxD.zero : BoxD := ⟨⟨#[]⟩, ⟨#[]⟩, ⟨#[]⟩⟩
def WrapD.cells (w : WrapD) : List Value := [.int .i64 w.to, .int .i64 w.eph, .string w.box.nonce, .string w.box.data, .string w.box.tag]
theorem WrapD.cells_box (w : WrapD) : (w.cells.drop 2).take 3 = w.box.cells := rfl
def ActD.cells (a : ActD) : List Value := [.string a.author, .int .i64 a.seq, .string a.prev, .int .i64 a.kind, .int .i64 a.time, .string a.object, .string a.target, .int .i64 a.scope, .string a.group, a.to.v,
  .string a.text, .string a.body.nonce, .string a.body.data, .string a.body.tag, .int .i64 a.epoch, a.wraps.v, .int .i64 a.n, .int .i64 a.m, .int .i64 a.e, .int .i64 a.s]
def ActD.v (a : ActD) : Value := .agg a.cells.toArray
theorem ActD.v_cells (a : ActD) : a.v.cells.toList = a.cells := rfl
theorem ActD.cells_body (a : ActD) : (a.cells.drop 11).take 3 = a.body.cells := rfl

def Wraps (w : World) (s : SlV) (l : List WrapD) : Prop := RowsD w 5 s (l.map WrapD.cells)
theorem Wraps.len_ {w : World} {s : SlV} {l : List WrapD} (h : Wraps w s l) : s.n = l.length := by have := RowsD.len h; simpa using this
theorem Wraps.some_ {w : World} {s : SlV} {l : List WrapD} (h : Wraps w s l) (hl : 0 < l.length) : s.p.isSome = true := by
  have hx : l[0]? = some l[0] := List.getElem?_eq_getElem hl
  exact (RowsD.row h 0 l[0].cells (by simp [hx])).2.1
theorem Wraps.get {w : World} {s : SlV} {l : List WrapD} (h : Wraps w s l) {i : Nat} {x : WrapD} (hx : l[i]? = some x) : x.cells.length = 5 ∧ s.p.isSome = true ∧ ∀ j u, x.cells[j]? = some u → CellAt w s.p (i * 5 + j) u :=
  RowsD.row h i x.cells (by simp [hx])

/-- The slices of an activity read as its lists. -/
def ActD.at_ (w : World) (a : ActD) : Prop := Strs w a.to a.toL ∧ Wraps w a.wraps a.wrapsL
end Go.Proofs.YtfpojkoddcdojaaGreatDoor
