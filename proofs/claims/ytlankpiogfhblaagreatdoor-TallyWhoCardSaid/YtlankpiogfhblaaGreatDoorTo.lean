/- Elements of a row of the call's own: what a walk knows of them, and how it loads one. -/
import Derived.Test.YtlankpiogfhblaaGreatDoorMf
import Derived.Test.YtlankpiogfhblaaGreatDoorMb
set_option linter.unusedVariables false
set_option linter.unusedSimpArgs false
namespace Go.Proofs.YtlankpiogfhblaaGreatDoor.Sy
open Go Go.Proofs
section
variable {P : Program} {N : Nat} {av bor : List Nat} {w0 : World} {st : St} {ty : TypeId} {x y : Operand} {t t2 : TypeId}
variable {E : Env} {loc : List Res} {X : World → Prop} {ops : Array Oper} {kk : St → Prop} {n : Nat} {pos : String} {af : Array Edge} {g : Option (Nat × Bool)} {rest : List Oper} {bb want : Bool} {K : Exit → St → Prop} {c : Code}
theorem cw_knowR {p : Prop} {r : Res} (hm : r ∈ loc := by (repeat (first | exact List.mem_cons_self | apply List.mem_cons_of_mem))) (hp : ∀ w, r.F w → p) (h : p → Cw P N av bor w0 c ⟨E, loc, X⟩ K) : Cw P N av bor w0 c ⟨E, loc, X⟩ K := Cw.mk fun a w ok => (h (hp w (ok.gam.here r hm).now)).run a w ok
theorem orow_some {w : World} {e size n c : Nat} {A : Option Addr} {xs : List Value} (h : ORow w e size (.slice A n c) n xs) (hn : 0 < n) : A.isSome = true := by
  rcases h.2 with ⟨h1, h2⟩ | ⟨g, cap, cur, fz, h1, hg, _⟩
  · omega
  · simp only [Value.slice.injEq] at h1
    obtain ⟨rfl, _⟩ := h1
    rfl
theorem y_ldOs {e size m i c : Nat} [h : TyAgg P t size] {A : Option Addr} {xs : List (List Value)} {cs : List Value} (hx : ev st.env x = some (elP A (i * size))) (hm : orow e size (.slice A m c) m xs.flatten ∈ st.loc) (hn : m = xs.length) (hs : ∀ r ∈ xs, r.length = size) (hi : xs[i]? = some cs) :
    Yields P N av bor w0 st (.load t x) ty (.agg cs.toArray) := Sy.Yields.mk fun B w ok d pos af g => by
  have hr := rows_of_orow (ok.gam.here _ hm).now hn hs
  obtain ⟨h1, hp, hc⟩ := RowsD.row hr i cs hi
  obtain ⟨a, rfl⟩ := Option.isSome_iff_exists.1 hp
  have := run_loadVar_cells (P := P) (t := t) h.out (w := w) (A := a.add (i * size)) h1 (fun j v hj => by rw [Addr_add_add]; exact (hc j v hj).2 a rfl)
  simp [execOp, ok.eval hx, elP, Instr.loadAt, Instr.sureAddr, this]
theorem take_putR (l vs : List Value) (o s M : Nat) (hv : vs.length = s) (h1 : o + s ≤ M) (h2 : M ≤ l.length) : (l.take o ++ vs ++ l.drop (o + s)).take M = (l.take M).take o ++ vs ++ (l.take M).drop (o + s) := by
  have e1 : (l.take o ++ vs).length = o + s := by rw [List.length_append, List.length_take, hv]; omega
  rw [List.take_append, e1, List.take_of_length_le (by omega), List.take_take, Nat.min_eq_left (by omega), List.drop_take]
theorem put_lenR (l vs : List Value) (o s M : Nat) (hv : vs.length = s) (h1 : o + s ≤ M) (hl : l.length = M) : (l.take o ++ vs ++ l.drop (o + s)).length = M := by
  simp only [List.length_append, List.length_take, List.length_drop, hv, hl]
  omega
/-- A whole element of an own row is written. -/
theorem sw_stO {d : Option Tmp} {loc' : List Res} {e size m i c : Nat} {A : Option Addr} {xs vs xs' : List Value} {v : Value} (hsz : (P.info? t).map (·.size) = some size) (hx : ev E x = some (elP A (i * size)) := by rfl) (hy : ev E y = some v := by rfl) (hv : v.cells.toList = vs) (h1 : (vs.all (·.oneCell')) = true := by rfl) (hvl : vs.length = size) (hi : i < m := by omega)
    (hxs : xs.take (i * size) ++ vs ++ xs.drop (i * size + size) = xs') (hA : At (orow e size (.slice A m c) m xs) (orow e size (.slice A m c) m xs') loc loc' := by (repeat (first | exact At.here _ | apply At.there))) (hg : gdB ops E g = some (bb, want) := by rfl) (hb : bb = want := by (first | with_reducible rfl | with_reducible assumption | with_reducible exact Bool.not_false | with_reducible exact Bool.not_true)) (hd : inB N d = true := by rfl)
    (h : Sw P N av bor w0 ops rest ⟨putE E d undef, loc', X⟩ kk) : Sw P N av bor w0 ops (⟨d, .store t x y, ty, pos, af, g⟩ :: rest) ⟨E, loc, X⟩ kk := Sw.mk fun a w ok => by
  have ho : ORow w e size (.slice A m c) m xs := (ok.gam.here _ hA.mem).now
  rcases ho.2 with ⟨_, h0⟩ | ⟨b, cap, cur, fz, hs, hb', hnc, hcm, hcs, htake, hfz⟩
  · omega
  simp only [Value.slice.injEq] at hs
  obtain ⟨rfl, _, rfl⟩ := hs
  have hm1 : i * size + size ≤ m * size := by rw [← Nat.succ_mul]; exact Nat.mul_le_mul_right _ hi
  have hm2 : m * size ≤ cur.size := by rw [hcs]; exact Nat.mul_le_mul_right _ hnc
  have hst := run_storeCells_m P b (i * size) e fz vs 0 cur w hb' hfz (by omega) (by simpa using h1)
  have hadd : (⟨b, 0, none⟩ : Addr).add (i * size) = ⟨b, i * size, none⟩ := by unfold Addr.add; split <;> simp_all
  simp only [wpList]
  rw [wanted_of ok (o := ⟨d, .store t x y, ty, pos, af, g⟩) hg]
  subst hb
  simp only [beq_self_eq_true, if_true]
  left
  unfold Oper.wp
  have hs : v.cells.size = size := by rw [← hvl, ← hv]; simp
  generalize hnew : (cur.toList.take (i * size) ++ vs ++ cur.toList.drop (i * size + size)).toArray = new at *
  have hr : (execOp a.eval ⟨d, .store t x y, ty, pos, af, g⟩).run P w = .ok .skip (w.setRow b new) := by
    simp only [Nat.add_zero, hvl, hnew] at hst
    simp [execOp, ok.eval (st := ⟨E, loc, X⟩) hx, ok.eval (st := ⟨E, loc, X⟩) hy, elP, hadd, Instr.storeAt, Instr.sureAddr, storeVar, run_sizeOf hsz, hs, hv, hst]
  rw [hr]
  have hsn : new.size = cur.size := by
    rw [← hnew]
    simpa using put_lenR cur.toList vs (i * size) size cur.size hvl (by omega) (by simp)
  have ho' : ORow (w.setRow b new) e size (.slice (some ⟨b, 0, none⟩) m c) m xs' := by
    refine ⟨by rw [← hxs]; exact put_lenR xs vs (i * size) size (m * size) hvl hm1 ho.1, .inr ⟨b, c, new, fz, rfl, Go.setRow_heap w b cur new e fz hb', hnc, hcm, hsn.trans hcs, ?_, by rw [hsn]; exact hfz⟩⟩
    rw [← hnew, ← hxs, ← htake]
    exact take_putR cur.toList vs (i * size) size (m * size) hvl hm1 (by simpa using hm2)
  have ok' : Ok N av bor w0 ⟨E, loc', X⟩ a (w.setRow b new) := (ok.via fun M G => G.swap (hA.app M) rfl rfl rfl (by rw [Go.setRow_size]; exact Nat.le_refl _) (fun j _ hj => Go.setRow_other w b j new (by rintro rfl; exact hj (by simp [orow, Value.ownBlock]))) (by simp [orow, Value.ownBlock]) (fun j hj => by
    have hj : j = b := by simpa [orow, Value.ownBlock] using hj
    subst hj
    exact ⟨by rw [Go.setRow_size]; exact (Array.getElem?_eq_some_iff.1 hb').1, .inl (by simp [orow, Value.ownBlock])⟩) (orow_holds ho'))
  exact h.run _ _ (put_eq d _ ▸ ok'.put hd _)
end
end Go.Proofs.YtlankpiogfhblaaGreatDoor.Sy
