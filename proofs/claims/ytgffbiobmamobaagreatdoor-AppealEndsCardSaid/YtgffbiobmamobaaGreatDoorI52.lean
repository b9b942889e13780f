/- Joined. -/
import Derived.Test.YtgffbiobmamobaaGreatDoorI0
import Derived.Test.YtgffbiobmamobaaGreatDoorI14
import Derived.ChangeMaps5
set_option linter.unusedVariables false
set_option linter.unusedSimpArgs false
set_option maxHeartbeats 16000000
namespace Go.Proofs.YtgffbiobmamobaaGreatDoor.appealEnds
open Go Go.Proofs Sy Go.RowKit Go.Deep Go.ChangeShapes Go.WideShapes Go.ChangeAt Go.ChangeMaps
theorem own:ownKnob Tryz.prog.godebug=none:=by kernel_rfl
def argsW:Array Value:=#[.agg #[.slice none 0 0,.slice none 0 0,.slice none 0 0],.int .i64 0]
theorem wv (os:Os):laidMet Tryz.prog Rows.appealEndsRow.laid ((laidWorld os).forCall (fun _ _=>0) ⟨#[],argsW,[]⟩).memory :=
 laidMet_of_run' 8 ai ai
theorem reads (os:Os) {H:Type} (enc:TypeId×Value→H):∃ places,DataW.whole enc Tryz.prog ((laidWorld os).forCall (fun _ _=>0) ⟨#[],argsW,[]⟩).memory Tryz.f3.params.toList Rows.appealEndsSpec.vars false argsW.toList 8=some ([.agg [.nil,.nil,.nil],.lit (.int .i64 0)],[],places) :=
 ⟨[],by kernel_rfl⟩
set_option maxHeartbeats 4000000 in
theorem closed:joinedFacts Tryz.pinned.checked.prog 3 Tryz.f3 (OpenSpec.ofChange Rows.appealEndsSpec).bare Rows.appealEndsRow=true:=by
 unfold joinedFacts
 simp only [Bool.and_eq_true]
 repeat' apply And.intro
 all_goals (as_aux_lemma=>kernel_rfl)

theorem plain (f:FuncId) (fn:Func) (hf:Tryz.pinned.checked.prog.funcNamed "agora/agoralaw36.AppealEnds"=some f) (hfn:Tryz.pinned.checked.prog.funcs[f]?=some fn) :
  false=Tryz.pinned.checked.prog.looks []∧∀ (j:Nat) t,fn.params[j]?=some t→Tryz.pinned.checked.prog.wantsStandIn t=false:=by
 obtain rfl:f=3:=Option.some.inj ((show Tryz.prog.funcNamed "agora/agoralaw36.AppealEnds"=some 3 by kernel_rfl).symm.trans hf) |>.symm
 obtain rfl:fn=Tryz.f3:=(Option.some.inj (Tryz.func3.symm.trans hfn)).symm
 refine ⟨by kernel_rfl,fun j t ht=>?_⟩
 rw [Tryz.params3] at ht
 have hm:t∈[26,3]:=by simpa using Array.mem_of_getElem? ht
 have h0:∀ t∈[26,3],Tryz.prog.wantsStandIn t=false:=by decide +kernel
 exact h0 t hm

end Go.Proofs.YtgffbiobmamobaaGreatDoor.appealEnds
