/- One cell of a post in an own row is loaded or written; contracts of register.remove and register.edit. -/
import Derived.Test.YtlankpiogfhblaaGreatDoorSt
set_option linter.unusedVariables false
set_option linter.unusedSimpArgs false
namespace Go.Proofs.YtlankpiogfhblaaGreatDoor
open Go Go.Proofs Sy
theorem flatten_cellP : ∀ (L : List PostD) (n j : Nat) (p p' : PostD) (v : Value), L[n]? = some p → j < 11 → p'.cells = p.cells.take j ++ [v] ++ p.cells.drop (j + 1) → (L.map PostD.cells).flatten.take (n * 11 + j) ++ [v] ++ (L.map PostD.cells).flatten.drop (n * 11 + j + 1) = ((L.set n p').map PostD.cells).flatten
  | [], n, j, p, p', v, h, _, _ => by simp at h
  | c :: L, 0, j, p, p', v, h, hj, hc => by
    have h6 : c.cells.length = 11 := rfl
    obtain rfl : c = p := by simpa using h
    rw [List.set_cons_zero, List.map_cons, List.map_cons, List.flatten_cons, List.flatten_cons, Nat.zero_mul, Nat.zero_add, List.take_append_of_le_length (by omega), List.drop_append_of_le_length (by omega), hc, List.append_assoc, List.append_assoc, List.append_assoc]
  | c :: L, n + 1, j, p, p', v, h, hj, hc => by
    have h6 : c.cells.length = 11 := rfl
    have ih := flatten_cellP L n j p p' v (by simpa using h) hj hc
    rw [List.set_cons_succ, List.map_cons, List.map_cons, List.flatten_cons, List.flatten_cons, ← ih, List.take_append, List.drop_append, h6, List.take_of_length_le (by omega), List.drop_of_length_le (by omega),
      show (n + 1) * 11 + j - 11 = n * 11 + j from by omega, show (n + 1) * 11 + j + 1 - 11 = n * 11 + j + 1 from by omega, List.nil_append, List.append_assoc, List.append_assoc, List.append_assoc]
namespace Sy
section
variable {N : Nat} {av bor : List Nat} {w0 : World} {st : St} {ty : TypeId} {x y : Operand} {E : Env} {loc : List Res} {X : World → Prop} {ops : Array Oper} {kk : St → Prop} {pos : String} {af : Array Edge} {g : Option (Nat × Bool)} {rest : List Oper} {bb want : Bool} {t : TypeId}
/-- The check that an element's address is none. -/
theorem y_nilX {A : Option Addr} {q : Nat} {ad : Addr} (hx : ev st.env x = some (elP A q)) (hp : A = some ad) : Yields Tryz.prog N av bor w0 st (.nilCheck x) ty (elP A q) := by
  subst hp
  exact y_nilCheck (a := ad.add q) hx
theorem sy_nilX {n : Nat} {A : Option Addr} {q : Nat} {ad : Addr} (hx : ev E x = some (elP A q) := by rfl) (hp : A = some ad) (hg : gdB ops E g = some (bb, want) := by rfl) (hbb : bb = want := by (first | with_reducible rfl | with_reducible assumption | with_reducible exact Bool.not_false | with_reducible exact Bool.not_true)) (hd : Nat.blt n N = true := by rfl) (h : Sw Tryz.prog N av bor w0 ops rest ⟨(n, elP A q) :: E, loc, X⟩ kk) :
    Sw Tryz.prog N av bor w0 ops (⟨some n, .nilCheck x, ty, pos, af, g⟩ :: rest) ⟨E, loc, X⟩ kk := sw_yield (y_nilX hx hp) hg hbb hd h
/-- One cell of a post of an own row is loaded. -/
theorem y_ldPf [h : TyOne Tryz.prog t] {A : Option Addr} {m c i j : Nat} {P : List PostD} {p : PostD} {u : Value} (hx : ev st.env x = some (elP A (i * 11 + j))) (hm : orow 28 11 (.slice A m c) m (P.map PostD.cells).flatten ∈ st.loc) (hn : m = P.length) (hi : P[i]? = some p) (hj : p.cells[j]? = some u) :
    Yields Tryz.prog N av bor w0 st (.load t x) ty u := Sy.Yields.mk fun B w ok d pos af g => by
  have hr := rows_of_orow (ok.gam.here _ hm).now (by simp [hn]) (cells11 P)
  obtain ⟨h1, hp, hc⟩ := RowsD.row hr i p.cells (by simp [hi])
  obtain ⟨a, rfl⟩ := Option.isSome_iff_exists.1 hp
  simp [execOp, ok.eval hx, elP, Instr.loadAt, Instr.sureAddr, loadVar, (oneCell_spec h.out w).1, (hc j u hj).2 a rfl]
/-- One cell of an own row is written. -/
theorem sw_stC {P : Program} {d : Option Tmp} {loc' : List Res} {e size m q c : Nat} {A : Option Addr} {xs xs' : List Value} {v : Value} (hsz : (P.info? t).map (·.size) = some 1) (hx : ev E x = some (elP A q) := by rfl) (hy : ev E y = some v := by rfl) (hv : v.cells.toList = [v]) (h1 : v.oneCell' = true := by rfl) (hq : q < m * size)
    (hxs : xs.take q ++ [v] ++ xs.drop (q + 1) = xs') (hA : At (orow e size (.slice A m c) m xs) (orow e size (.slice A m c) m xs') loc loc' := by (repeat (first | exact At.here _ | apply At.there))) (hg : gdB ops E g = some (bb, want) := by rfl) (hb : bb = want := by (first | with_reducible rfl | with_reducible assumption | with_reducible exact Bool.not_false | with_reducible exact Bool.not_true)) (hd : inB N d = true := by rfl)
    (h : Sw P N av bor w0 ops rest ⟨putE E d undef, loc', X⟩ kk) : Sw P N av bor w0 ops (⟨d, .store t x y, ty, pos, af, g⟩ :: rest) ⟨E, loc, X⟩ kk := Sw.mk fun a w ok => by
  have ho : ORow w e size (.slice A m c) m xs := (ok.gam.here _ hA.mem).now
  rcases ho.2 with ⟨_, h0⟩ | ⟨b, cap, cur, fz, hs, hb', hnc, hcm, hcs, htake, hfz⟩
  · rw [h0] at hq
    omega
  simp only [Value.slice.injEq] at hs
  obtain ⟨rfl, _, rfl⟩ := hs
  have hm2 : m * size ≤ cur.size := by rw [hcs]; exact Nat.mul_le_mul_right _ hnc
  have hst := run_storeCells_m P b q e fz [v] 0 cur w hb' hfz (by simp; omega) (by simpa using h1)
  have hadd : (⟨b, 0, none⟩ : Addr).add q = ⟨b, q, none⟩ := by unfold Addr.add; split <;> simp_all
  simp only [wpList]
  rw [wanted_of ok (o := ⟨d, .store t x y, ty, pos, af, g⟩) hg]
  subst hb
  simp only [beq_self_eq_true, if_true]
  left
  unfold Oper.wp
  have hs : v.cells.size = 1 := by have := congrArg List.length hv; simpa using this
  generalize hnew : (cur.toList.take q ++ [v] ++ cur.toList.drop (q + 1)).toArray = new at *
  have hr : (execOp a.eval ⟨d, .store t x y, ty, pos, af, g⟩).run P w = .ok .skip (w.setRow b new) := by
    try simp only [Nat.add_zero, List.length_singleton, hnew] at hst
    simp [execOp, ok.eval (st := ⟨E, loc, X⟩) hx, ok.eval (st := ⟨E, loc, X⟩) hy, elP, hadd, Instr.storeAt, Instr.sureAddr, storeVar, run_sizeOf hsz, hs, hv, hst]
  rw [hr]
  have hsn : new.size = cur.size := by
    rw [← hnew]
    simpa using put_lenR cur.toList [v] q 1 cur.size rfl (by omega) (by simp)
  have ho' : ORow (w.setRow b new) e size (.slice (some ⟨b, 0, none⟩) m c) m xs' := by
    refine ⟨by rw [← hxs]; exact put_lenR xs [v] q 1 (m * size) rfl (by omega) ho.1, .inr ⟨b, c, new, fz, rfl, Go.setRow_heap w b cur new e fz hb', hnc, hcm, hsn.trans hcs, ?_, by rw [hsn]; exact hfz⟩⟩
    rw [← hnew, ← hxs, ← htake]
    exact take_putR cur.toList [v] q 1 (m * size) rfl (by omega) (by simpa using hm2)
  have ok' : Ok N av bor w0 ⟨E, loc', X⟩ a (w.setRow b new) := (ok.via fun M G => G.swap (hA.app M) rfl rfl rfl (by rw [Go.setRow_size]; exact Nat.le_refl _) (fun j _ hj => Go.setRow_other w b j new (by rintro rfl; exact hj (by simp [orow, Value.ownBlock]))) (by simp [orow, Value.ownBlock]) (fun j hj => by
    have hj : j = b := by simpa [orow, Value.ownBlock] using hj
    subst hj
    exact ⟨by rw [Go.setRow_size]; exact (Array.getElem?_eq_some_iff.1 hb').1, .inl (by simp [orow, Value.ownBlock])⟩) (orow_holds ho'))
  exact h.run _ _ (put_eq d _ ▸ ok'.put hd _)
/-- One cell of a post of an own row is written. -/
theorem sw_stPf {d : Option Tmp} {loc' : List Res} {A : Option Addr} {m c i j : Nat} {P : List PostD} (p' : PostD) {p : PostD} {v : Value} (hi : P[i]? = some p) (hj : j < 11) (hc : p'.cells = p.cells.take j ++ [v] ++ p.cells.drop (j + 1)) (hn : m = P.length) (hsz : (Tryz.prog.info? t).map (·.size) = some 1) (hx : ev E x = some (elP A (i * 11 + j)) := by rfl) (hy : ev E y = some v := by rfl) (hv : v.cells.toList = [v]) (h1 : v.oneCell' = true := by rfl)
    (hA : At (orow 28 11 (.slice A m c) m (P.map PostD.cells).flatten) (orow 28 11 (.slice A m c) m ((P.set i p').map PostD.cells).flatten) loc loc' := by (repeat (first | exact At.here _ | apply At.there))) (hg : gdB ops E g = some (bb, want) := by rfl) (hb : bb = want := by (first | with_reducible rfl | with_reducible assumption | with_reducible exact Bool.not_false | with_reducible exact Bool.not_true)) (hd : inB N d = true := by rfl)
    (h : Sw Tryz.prog N av bor w0 ops rest ⟨putE E d undef, loc', X⟩ kk) : Sw Tryz.prog N av bor w0 ops (⟨d, .store t x y, ty, pos, af, g⟩ :: rest) ⟨E, loc, X⟩ kk := by
  have hil := (List.getElem?_eq_some_iff.1 hi).1
  exact sw_stC hsz hx hy hv h1 (by omega) (flatten_cellP P i j p p' v hi hj hc) hA hg hb hd h
end
end Sy
end Go.Proofs.YtlankpiogfhblaaGreatDoor
