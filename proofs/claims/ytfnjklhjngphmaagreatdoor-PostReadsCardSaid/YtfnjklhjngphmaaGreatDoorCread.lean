/- PROVED: for every list of chains, post and string (whatever their size), agoralaw26.PostReads returns true, does not panic, and leaves its arguments as they were. CONDITION: the two tables of package sum hold what the program text lays there (the row lists them; the card ties them to the text). Nothing else is asked. -/
import Derived.Test.YtfnjklhjngphmaaGreatDoorQ13
import Derived.ChangeMaps5
set_option linter.unusedVariables false
set_option linter.unusedSimpArgs false
namespace Go.Proofs.YtfnjklhjngphmaaGreatDoor.postReads
open Go Go.Proofs Sy Go.RowKit Go.Deep Go.ChangeShapes Go.WideShapes Go.ChangeAt Go.ChangeMaps
theorem own:ownKnob Tryz.prog.godebug=none:=by kernel_rfl
set_option maxRecDepth 100000 in
theorem contract (H:Type) (enc:TypeId×Value→H) (W:World) (base:Nat) (args:Array Value) (ds gs:List (DataW H)) (before:List MemPlace)
  (hval:∀ (j:Nat) t v,Tryz.f7.params[j]?=some t→args[j]?=some v→Value.okWide Tryz.prog W .any base t v)
  (hW:DataW.Whole enc Tryz.prog Tryz.f7.params.toList Rows.postReadsSpec.vars false W args.toList ds gs before) (hL:laidMetH Tryz.prog Rows.postReadsRow.laid W)
  (hsz:(DataW.weightsEach Tryz.prog (Tryz.f7.params.toList++(OpenSpec.ofChange Rows.postReadsSpec).bare.plain.varTypes Tryz.prog) (ds++gs)).all (·≤reachBytes)=true) :
  Calls Tryz.prog 7 args W fun e W'=>∃ v,e=.returned v∧Rows.postReadsSpec.post enc Tryz.prog Tryz.f7 false true false false W args v W':=by
 have hW':=hW
 obtain ⟨p,q,hA0,hV,rfl,hfz,hnd⟩:=hW
 have hA:DataW.TrodAll enc Tryz.prog W 0 (fun _=>true) true Tryz.f7.params.toList args.toList ds p:=hA0
 rw [Tryz.params7] at hA hval
 obtain ⟨v0,vs0,d0,ds0,p0,q0,hargs,rfl,rfl,h0,y0⟩:=trodAll_cons hA
 obtain ⟨v1,vs1,d1,ds1,p1,q1,rfl,rfl,rfl,h1,y1⟩:=trodAll_cons y0
 obtain ⟨v2,vs2,d2,ds2,p2,q2,rfl,rfl,rfl,h2,y2⟩:=trodAll_cons y1
 obtain ⟨rfl,rfl,rfl⟩:=trodAll_nil y2
 obtain rfl:args=#[v0,v1,v2]:=by cases args;simp_all
 obtain ⟨rfl,rfl⟩:=trodVars_none hV
 obtain ⟨pa0,ln0,cp0,rfl⟩:=okWide_slice Tryz.underlying64 (hval 0 64 v0 rfl rfl)
 obtain ⟨fuel0,hf0⟩:=h0
 have hw0:∀ n∈DataW.weights Tryz.prog 64 d0,n≤reachBytes:=fun n hn=>aY (List.all_eq_true.1 hsz n (DataW.weights_mem_each (j:=0) (t:=64) (d:=d0) (by rw [Tryz.params7];rfl) rfl n hn))
 obtain ⟨s0,l0,hs0,hm0,hq0⟩:=nX hf0 hw0
 have e0:(Value.slice pa0 ln0 cp0)=s0.v:=by simpa [Value.cells] using hs0
 obtain ⟨cs1,rfl,hsz1⟩:=okWide_struct Tryz.underlying84 (hval 1 84 v1 rfl rfl)
 obtain ⟨fuel1,hf1⟩:=h1
 obtain ⟨o1,hc1,hm1⟩:=qT hf1
 have e1:(Value.agg cs1)=o1.v:=by
  have:cs1.toList=o1.cells:=by simpa [Value.cells] using hc1
  rw [PostZ.v,←this]
 obtain ⟨s2,rfl,rfl,rfl,z2⟩:=open_string Tryz.underlying9 (hval 2 9 v2 rfl rfl) h2
 have hG:=A7 hL
 have walk:=p8 (w:=W) (X:=fun w=>(fun w=>Chains w s0 l0) w∧(fun w=>o1.at_ w) w∧Glob w) (qP s0 l0 o1 s2 (fun c hc=>A6 (fun a ha=>((hq0 c hc).2 a ha).1)) (fun c hc a ha=>((hq0 c hc).2 a ha).2)) ⟨hm0,hm1,hG⟩ (fun w' h=>⟨Chains.keep hm0 h,RowsD.keep hm1 h,⟨hG.ini.keep h,hG.k.keep h⟩⟩)
 rw [e0,e1] at hW' hA0 ⊢
 refine walk.mono fun e W' ⟨he,hb⟩=>?_
 subst he
 refine ⟨_,rfl,_,_,_,[],_,[],hW',trodAll_cons_mk (shut_bool Tryz.underlying4 _) trodAll_mk0,gK laidOut _ _ _ _ ?_ hA0 (fun x hx=>hb.same (hW'.lt x (List.mem_append_left _ hx))) (fun x hx=>by simpa using hW'.lt x (List.mem_append_left _ hx)),rfl,hb.frame _,fun h=>by cases h⟩
 rw [Tryz.params7]
 decide +kernel

def argsW:Array Value:=#[.slice none 0 0,.agg #[.string ⟨#[]⟩,.string ⟨#[]⟩,.int .i64 0,.int .i64 0,.int .i64 0,.string ⟨#[]⟩,.slice none 0 0,.string ⟨#[]⟩,.int .i64 0,.slice none 0 0,.bool false],.string ⟨#[]⟩]
theorem yr (os:Os):laidMet Tryz.prog Rows.postReadsRow.laid ((laidWorld os).forCall (fun _ _=>0) ⟨#[],argsW,[]⟩).memory :=
 laidMet_of_run' 8 ar ar
theorem reads (os:Os) {H:Type} (enc:TypeId×Value→H):∃ places,DataW.whole enc Tryz.prog ((laidWorld os).forCall (fun _ _=>0) ⟨#[],argsW,[]⟩).memory Tryz.f7.params.toList Rows.postReadsSpec.vars false argsW.toList 8=some ([.nil,.agg [.lit (.string []),.lit (.string []),.lit (.int .i64 0),.lit (.int .i64 0),.lit (.int .i64 0),.lit (.string []),.nil,.lit (.string []),.lit (.int .i64 0),.nil,.lit (.bool false)],.lit (.string [])],[],places) :=
 ⟨[],by kernel_rfl⟩
set_option maxRecDepth 100000 in
theorem lifted (os:Os) (started:os.Started) (H:Type) (enc:TypeId×Value→H) (F:Stop.Interp) :
  ReturnsInHanded {} Tryz.checked os 7 .any ((OpenSpec.ofChange Rows.postReadsSpec).preRow enc Tryz.prog Tryz.f7 Rows.postReadsRow.domain false Rows.postReadsRow.laid) (((OpenSpec.ofChange Rows.postReadsSpec).at F).post enc Tryz.prog Tryz.f7 false true false false):=by
 obtain ⟨places,hx⟩:=reads os enc
 refine returnsInHanded_of_row (C:=Tryz.checked) (s:=OpenSpec.ofChange Rows.postReadsSpec) own started ar Tryz.func7
  (witness_row_at (enc:=enc) (C:=Tryz.checked) false (laidWorld os) argsW rfl ar ar ar
   (OpenSpec.preRow_of_cond 8 hx ar (fun k hk=>by cases hk) ar (yr os))) ?_
 intro W base args ds gs before hval hW _ _ hsz hL _ _
 exact contract H enc W base args ds gs before hval hW hL hsz

set_option maxHeartbeats 4000000 in
/-- What the row says of the program's text, limb by limb (in one piece the kernel's memory does not last). -/
theorem closed:joinedFacts Tryz.pinned.checked.prog 7 Tryz.f7 (OpenSpec.ofChange Rows.postReadsSpec).bare Rows.postReadsRow=true:=by
 unfold joinedFacts
 simp only [Bool.and_eq_true]
 repeat' apply And.intro
 all_goals (as_aux_lemma=>kernel_rfl)

theorem said:Rows.PostReadsSaid :=
 OpenClaim.holds_of_cond 7 Tryz.f7 rfl rfl rfl rfl rfl rfl rfl ⟨rfl,rfl,rfl,rfl,rfl⟩ rfl rfl rfl rfl rfl ar Tryz.func7 closed
  (aY ar) (by unfold Func.isWrapper;(rw [if_neg (by decide +kernel)];exact ⟨rfl,rfl⟩))
  (fun os started H enc _ F=>by rw [OpenClaim.pre_eq_preRow];exact lifted os started H enc F)

theorem plain (f:FuncId) (fn:Func) (hf:Tryz.pinned.checked.prog.funcNamed "agora/agoralaw26.PostReads"=some f) (hfn:Tryz.pinned.checked.prog.funcs[f]?=some fn) :
  false=Tryz.pinned.checked.prog.looks []∧∀ (j:Nat) t,fn.params[j]?=some t→Tryz.pinned.checked.prog.wantsStandIn t=false:=by
 obtain rfl:f=7:=Option.some.inj ((show Tryz.prog.funcNamed "agora/agoralaw26.PostReads"=some 7 by kernel_rfl).symm.trans hf) |>.symm
 obtain rfl:fn=Tryz.f7:=(Option.some.inj (Tryz.func7.symm.trans hfn)).symm
 refine ⟨by kernel_rfl,fun j t ht=>?_⟩
 rw [Tryz.params7] at ht
 have hm:t∈[64,84,9]:=by simpa using Array.mem_of_getElem? ht
 have h0:∀ t∈[64,84,9],Tryz.prog.wantsStandIn t=false:=by decide +kernel
 exact h0 t hm

theorem card:Rows.PostReadsCardSaid :=
 Claim7.holds_tied_plain_at .later [] _ _ _ _ said (fun _ h=>by cases h) ar (fun _ h=>by cases h) postReads_row_tie rfl ⟨rfl,rfl⟩ ar rfl plain ar
end Go.Proofs.YtfnjklhjngphmaaGreatDoor.postReads
