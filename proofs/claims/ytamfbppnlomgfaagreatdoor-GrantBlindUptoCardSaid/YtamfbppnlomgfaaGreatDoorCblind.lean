/- PROVED: what is sealed in a chain opens for a list of integers only if one of them is the secret key of a recipient of an earlier grant, or of the key that was in force there (agoralaw23.GrantBlind). CONDITION: the two tables of package sum hold what the program text lays there (the row lists them; the card ties them to the text). And what is read is of bulk at most 1048576 (the statement's second form). -/
import Derived.Test.YtamfbppnlomgfaaGreatDoorG10
import Derived.ChangeMaps5
set_option linter.unusedVariables false
set_option linter.unusedSimpArgs false
set_option maxHeartbeats 16000000
set_option maxHeartbeats 16000000
namespace Go.Proofs.YtamfbppnlomgfaaGreatDoor.grantBlind
open Go Go.Proofs Sy Go.RowKit Go.Deep Go.ChangeShapes Go.WideShapes Go.ChangeAt Go.ChangeMaps
theorem own:ownKnob Tryz.prog.godebug=none:=by kernel_rfl
set_option maxRecDepth 100000 in
theorem contract (H:Type) (enc:TypeId×Value→H) (W:World) (base:Nat) (args:Array Value) (ds gs:List (DataW H)) (before:List MemPlace)
  (hval:∀ (j:Nat) t v,Tryz.f3.params[j]?=some t→args[j]?=some v→Value.okWide Tryz.prog W .any base t v)
  (hW:DataW.Whole enc Tryz.prog Tryz.f3.params.toList Rows.grantBlindSpec.vars false W args.toList ds gs before) (hL:laidMetH Tryz.prog Rows.grantBlindRow.laid W) (hcd:Rows.uptoSmall H (ds++gs)=true) :
  Calls Tryz.prog 3 args W fun e W'=>∃ v,e=.returned v∧Rows.grantBlindSpec.post enc Tryz.prog Tryz.f3 false true false false W args v W':=by
 have hW':=hW
 obtain ⟨p,q,hA0,hV,rfl,hfz,hnd⟩:=hW
 have hA:DataW.TrodAll enc Tryz.prog W 0 (fun _=>true) true Tryz.f3.params.toList args.toList ds p:=hA0
 rw [Tryz.params3] at hA hval
 obtain ⟨v0,vs0,d0,ds0,p0,q0,hargs,rfl,rfl,h0,y0⟩:=trodAll_cons hA
 obtain ⟨v1,vs1,d1,ds1,p1,q1,rfl,rfl,rfl,h1,y1⟩:=trodAll_cons y0
 obtain ⟨v2,vs2,d2,ds2,p2,q2,rfl,rfl,rfl,h2,y2⟩:=trodAll_cons y1
 obtain ⟨rfl,rfl,rfl⟩:=trodAll_nil y2
 obtain rfl:args=#[v0,v1,v2]:=by cases args;simp_all
 obtain ⟨rfl,rfl⟩:=trodVars_none hV
 obtain ⟨pa0,ln0,cp0,rfl⟩:=okWide_slice Tryz.underlying22 (hval 0 22 v0 rfl rfl)
 obtain ⟨fuel0,hf0⟩:=h0
 obtain ⟨s0,l0,hs0,hm0,hq0⟩:=mQ hf0
 have e0:(Value.slice pa0 ln0 cp0)=s0.v:=by simpa [Value.cells] using hs0
 obtain ⟨cs1,rfl,hsz1⟩:=okWide_struct Tryz.underlying26 (hval 1 26 v1 rfl rfl)
 obtain ⟨fuel1,hf1⟩:=h1
 have hB1:Rows.uptoBulk d1≤1048576:=Nat.le_trans (gm (by simp)) (bC hcd)
 obtain ⟨c1,kl1,hc1,hm1,hk1,hq1⟩:=lC hf1 hB1
 have e1:(Value.agg cs1)=c1.v:=by
  have:cs1.toList=c1.cells:=by simpa [Value.cells] using hc1
  rw [Xb.v,←this]
 obtain ⟨n2,rfl,rfl,rfl,w2⟩:=open_int Tryz.underlying3 (hval 2 3 v2 rfl rfl) h2
 have b2:=tC w2
 have lo2:=(Go.bounds_i64 w2).1
 have hG:=sJ hL
 have walk:=mi (w:=W) (X:=fun w=>(fun w=>Ints w s0 l0) w∧c1.at_ w∧(fun w=>Keyz w c1.keys kl1) w∧Xc w) (il (rO s0 l0 c1 kl1 n2 ⟨fun a ha=>(hq1 a ha).1,fun a ha=>(hq1 a ha).2.2,fun a ha=>(hq1 a ha).2.1⟩) fun w h=>⟨⟨h.1,h.2.1,h.2.2.1⟩,h.2.2.2⟩) ⟨hm0,hm1,hk1,hG⟩ (fun w' h=>⟨Xd.keep hm0 h,Xb.keep hm1 h,Xd.keep hk1 h,⟨hG.ini.keep h,hG.k.keep h⟩⟩)
 rw [e0,e1] at hW' hA0 ⊢
 refine walk.mono fun e W' ⟨he,hb⟩=>?_
 subst he
 refine ⟨_,rfl,_,_,_,[],_,[],hW',trodAll_cons_mk (shut_bool Tryz.underlying4 _) trodAll_mk0,ft laidOut _ _ _ _ ?_ hA0 (fun x hx=>hb.same (hW'.lt x (List.mem_append_left _ hx))) (fun x hx=>by simpa using hW'.lt x (List.mem_append_left _ hx)),rfl,hb.frame _,fun h=>by cases h⟩
 rw [Tryz.params3]
 decide +kernel

def argsW:Array Value:=#[.slice none 0 0,.agg #[.string ⟨#[]⟩,.slice none 0 0,.slice none 0 0,.string ⟨#[]⟩,.int .i64 0,.bool false],.int .i64 0]
theorem q8 (os:Os):laidMet Tryz.prog Rows.grantBlindRow.laid ((laidWorld os).forCall (fun _ _=>0) ⟨#[],argsW,[]⟩).memory :=
 laidMet_of_run' 8 ac ac
theorem reads (os:Os) {H:Type} (enc:TypeId×Value→H):∃ places,DataW.whole enc Tryz.prog ((laidWorld os).forCall (fun _ _=>0) ⟨#[],argsW,[]⟩).memory Tryz.f3.params.toList Rows.grantBlindSpec.vars false argsW.toList 8=some ([.nil,.agg [.lit (.string []),.nil,.nil,.lit (.string []),.lit (.int .i64 0),.lit (.bool false)],.lit (.int .i64 0)],[],places) :=
 ⟨[],by kernel_rfl⟩
set_option maxRecDepth 100000 in
theorem lifted (os:Os) (started:os.Started) (H:Type) (enc:TypeId×Value→H) (F:Stop.Interp) :
  ReturnsInHanded {} Tryz.checked os 3 .any ((Rows.OpenSpec.upto Rows.grantBlindSpec).preRow enc Tryz.prog Tryz.f3 Rows.grantBlindUptoRow.domain false Rows.grantBlindUptoRow.laid) (((Rows.OpenSpec.upto Rows.grantBlindSpec).at F).post enc Tryz.prog Tryz.f3 false true false false):=by
 obtain ⟨places,hx⟩:=reads os enc
 refine returnsInHanded_of_row (C:=Tryz.checked) (s:=Rows.OpenSpec.upto Rows.grantBlindSpec) own started ac Tryz.func3
  (witness_row_at (enc:=enc) (C:=Tryz.checked) false (laidWorld os) argsW rfl ac ac ac
   (OpenSpec.preRow_of_cond 8 hx ac (fun k hk=>by cases hk;kernel_rfl) ac (q8 os))) ?_
 intro W base args ds gs before hval hW _ hcond _ hL _ _
 exact contract H enc W base args ds gs before hval hW hL (hcond _ rfl)

set_option maxHeartbeats 4000000 in
/-- What the row says of the program's text, limb by limb (in one piece the kernel's memory does not last). -/
theorem closed:joinedFacts Tryz.pinned.checked.prog 3 Tryz.f3 (Rows.OpenSpec.upto Rows.grantBlindSpec).bare Rows.grantBlindUptoRow=true:=by
 unfold joinedFacts
 simp only [Bool.and_eq_true]
 repeat' apply And.intro
 all_goals (as_aux_lemma=>kernel_rfl)

theorem said:Rows.GrantBlindUptoSaid :=
 OpenClaim.holds_of_cond 3 Tryz.f3 rfl rfl rfl rfl rfl rfl rfl ⟨rfl,rfl,rfl,rfl,rfl⟩ rfl rfl rfl rfl rfl ac Tryz.func3 closed
  (bC ac) (by unfold Func.isWrapper;first|(rw [if_pos (by decide +kernel)];kernel_rfl)|(rw [if_neg (by decide +kernel)];exact ⟨rfl,rfl⟩))
  (fun os started H enc _ F=>by rw [OpenClaim.pre_eq_preRow];exact lifted os started H enc F)

theorem plain (f:FuncId) (fn:Func) (hf:Tryz.pinned.checked.prog.funcNamed "agora/agoralaw23.GrantBlind"=some f) (hfn:Tryz.pinned.checked.prog.funcs[f]?=some fn) :
  false=Tryz.pinned.checked.prog.looks []∧∀ (j:Nat) t,fn.params[j]?=some t→Tryz.pinned.checked.prog.wantsStandIn t=false:=by
 obtain rfl:f=3:=Option.some.inj ((show Tryz.prog.funcNamed "agora/agoralaw23.GrantBlind"=some 3 by kernel_rfl).symm.trans hf) |>.symm
 obtain rfl:fn=Tryz.f3:=(Option.some.inj (Tryz.func3.symm.trans hfn)).symm
 refine ⟨by kernel_rfl,fun j t ht=>?_⟩
 rw [Tryz.params3] at ht
 have hm:t∈[22,26,3]:=by simpa using Array.mem_of_getElem? ht
 have h0:∀ t∈[22,26,3],Tryz.prog.wantsStandIn t=false:=by decide +kernel
 exact h0 t hm

theorem card:Rows.GrantBlindUptoCardSaid :=
 Claim7.holds_tied_plain_at .later [] _ _ _ _ said (fun _ h=>by cases h) ac (fun _ h=>by cases h) grantBlindUpto_row_tie rfl ⟨rfl,rfl⟩ ac rfl plain ac
end Go.Proofs.YtamfbppnlomgfaaGreatDoor.grantBlind
