/- A pure call that reads what the caller owns: the resources are lent for the call. -/
import Derived.Test.YtfpojkoddcdojaaGreatDoorPo
set_option linter.unusedVariables false
set_option linter.unusedSimpArgs false
namespace Go.Proofs.YtfpojkoddcdojaaGreatDoor.Sy
open Go Go.RowKit
theorem Gam.later {av bor : List Nat} {w0 w w' : World} {loc : List Res} {X : World → Prop} (G : Gam av bor w0 loc X w) (hB : Below w.heap.size w w') : Gam av bor w0 loc X w' :=
  (Gam.more (r := ⟨[], fun _ => True⟩) G hB (fun _ _ => trivial) List.nodup_nil (fun i hi => by cases hi)).drop (List.sublist_cons_self _ _)
section
variable {P : Program} {N : Nat} {av bor : List Nat} {w0 : World} {ops : Array Oper} {rest : List Oper} {k : St → Prop} {E : Env} {loc : List Res} {X : World → Prop}
variable {ty : TypeId} {pos : String} {af : Array Edge} {g : Option (Nat × Bool)} {bb want : Bool}
theorem sw_puL {n : Nat} {x : Operand} {xs : List Operand} {ats : Array TypeId} {f : FuncId} {args : List Value} {X1 : World → Prop} {v : Value}
    (hx : ev E x = some (.func (.func f) #[] #[]) := by rfl) (ha : evs E xs = some args := by rfl) (hg : gdB ops E g = some (bb, want) := by rfl) (hb : bb = want := by (first | with_reducible rfl | with_reducible assumption | with_reducible exact Bool.not_false | with_reducible exact Bool.not_true)) (hd : Nat.blt n N = true := by rfl) (hf : FnBody P f := by infer_instance)
    (hc : Pu P f args.toArray X1 v) (hX : ∀ w, X w → (∀ r ∈ loc, r.F w) → X1 w)
    (h : Sw P N av bor w0 ops rest ⟨(n, v) :: E, loc, X⟩ k) :
    Sw P N av bor w0 ops (⟨some n, .call ⟨.value x, xs.toArray, ats⟩, ty, pos, af, g⟩ :: rest) ⟨E, loc, X⟩ k := Sw.mk fun a w ok => by
  have hd' : inB N (some n) = true := by have h1 : n < N := Nat.le_of_ble_eq_true hd; simpa [inB] using h1
  simp only [wpList]
  rw [wanted_of ok (o := ⟨some n, .call ⟨.value x, xs.toArray, ats⟩, ty, pos, af, g⟩) hg]
  subst hb
  simp only [beq_self_eq_true, if_true]
  left
  unfold Oper.wp
  have hr : (execOp a.eval ⟨some n, .call ⟨.value x, xs.toArray, ats⟩, ty, pos, af, g⟩).run P w = .ok (.enter f args.toArray) w := by
    have e := evs_eval ok xs args ha
    have e1 : xs.toArray.map a.eval = args.toArray := by rw [List.map_toArray, e]
    simp only [execOp, resolve, ok.eval (st := ⟨E, loc, X⟩) hx, Deferred.ofValue, invoke, e1]
    simp only [Sem.run_bind, Sem.run_pure, Result.andThen_ok]
    have e2 : (#[] : Array Value) ++ args.toArray ++ #[] = args.toArray := by simp
    rw [e2]
    exact run_enter _ w
  rw [hr]
  have G1 := ok.gam.giveAll
  have G0 := (Gam.start (pre := []) (fr := []) G1).imp (fun w h => hX w h.1 h.2)
  unfold Pu at hc
  refine (Ct.run hc w _ G0).mono fun e w' ⟨u, R, X', he, ⟨hu, hR⟩, G'⟩ => ?_
  subst he
  subst hu
  have ok' : Ok N av bor w0 ⟨E, loc, X⟩ a w' := ⟨ok.defers, ok.size, ok.env, Gam.later ok.gam G'.fr.below⟩
  exact h.run _ _ (put_eq (some n) _ ▸ ok'.put hd' _)
end
end Go.Proofs.YtfpojkoddcdojaaGreatDoor.Sy
