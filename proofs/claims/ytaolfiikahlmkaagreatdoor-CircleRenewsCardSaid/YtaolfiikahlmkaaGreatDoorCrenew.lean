/- PROVED: for every known set, id, key, scope, group, audience, wraps and number (whatever their size), agoralaw22.CircleRenews returns true, does not panic, and leaves its arguments as they were. CONDITION: the two tables of package sum hold what the program text lays there (the row lists them; the card ties them to the text). Nothing else is asked. -/
import Derived.Test.YtaolfiikahlmkaaGreatDoorZ17
import Derived.ChangeMaps5
set_option linter.unusedVariables false
set_option linter.unusedSimpArgs false
set_option maxHeartbeats 16000000
set_option maxHeartbeats 16000000
namespace Go.Proofs.YtaolfiikahlmkaaGreatDoor.circleRenews
open Go Go.Proofs Sy Go.RowKit Go.Deep Go.ChangeShapes Go.WideShapes Go.ChangeAt Go.ChangeMaps
theorem own:ownKnob Tryz.prog.godebug=none:=by kernel_rfl
set_option maxRecDepth 100000 in
theorem contract (H:Type) (enc:TypeId×Value→H) (W:World) (base:Nat) (args:Array Value) (ds gs:List (DataW H)) (before:List MemPlace)
  (hval:∀ (j:Nat) t v,Tryz.f5.params[j]?=some t→args[j]?=some v→Value.okWide Tryz.prog W .any base t v)
  (hW:DataW.Whole enc Tryz.prog Tryz.f5.params.toList Rows.circleRenewsSpec.vars false W args.toList ds gs before) (hL:laidMetH Tryz.prog Rows.circleRenewsRow.laid W) :
  Calls Tryz.prog 5 args W fun e W'=>∃ v,e=.returned v∧Rows.circleRenewsSpec.post enc Tryz.prog Tryz.f5 false true false false W args v W':=by
 have hW':=hW
 obtain ⟨p,q,hA0,hV,rfl,hfz,hnd⟩:=hW
 have hA:DataW.TrodAll enc Tryz.prog W 0 (fun _=>true) true Tryz.f5.params.toList args.toList ds p:=hA0
 rw [Tryz.params5] at hA hval
 obtain ⟨v0,vs0,d0,ds0,p0,q0,hargs,rfl,rfl,h0,y0⟩:=trodAll_cons hA
 obtain ⟨v1,vs1,d1,ds1,p1,q1,rfl,rfl,rfl,h1,y1⟩:=trodAll_cons y0
 obtain ⟨v2,vs2,d2,ds2,p2,q2,rfl,rfl,rfl,h2,y2⟩:=trodAll_cons y1
 obtain ⟨v3,vs3,d3,ds3,p3,q3,rfl,rfl,rfl,h3,y3⟩:=trodAll_cons y2
 obtain ⟨v4,vs4,d4,ds4,p4,q4,rfl,rfl,rfl,h4,y4⟩:=trodAll_cons y3
 obtain ⟨v5,vs5,d5,ds5,p5,q5,rfl,rfl,rfl,h5,y5⟩:=trodAll_cons y4
 obtain ⟨v6,vs6,d6,ds6,p6,q6,rfl,rfl,rfl,h6,y6⟩:=trodAll_cons y5
 obtain ⟨v7,vs7,d7,ds7,p7,q7,rfl,rfl,rfl,h7,y7⟩:=trodAll_cons y6
 obtain ⟨rfl,rfl,rfl⟩:=trodAll_nil y7
 obtain rfl:args=#[v0,v1,v2,v3,v4,v5,v6,v7]:=by cases args;simp_all
 obtain ⟨rfl,rfl⟩:=trodVars_none hV
 obtain ⟨cs0,rfl,hsz0⟩:=okWide_struct Tryz.underlying25 (hval 0 25 v0 rfl rfl)
 obtain ⟨fuel0,hf0⟩:=h0
 obtain ⟨ks0,ki0,L0,I0,hc0,hm0,hk0,hl0,hq0⟩:=nI hf0
 have e0:(Value.agg cs0)=.agg #[ks0.v,ki0.v]:=by
  have:cs0.toList=[ks0.v,ki0.v]:=by simpa [Value.cells] using hc0
  show Value.agg cs0=Value.agg [ks0.v,ki0.v].toArray
  rw [←this]
 have hd0:=fun i hi=>(hk0.2 i hi).2.len_
 obtain ⟨s1,rfl,rfl,rfl,z1⟩:=open_string Tryz.underlying9 (hval 1 9 v1 rfl rfl) h1
 obtain ⟨cs2,rfl,hsz2⟩:=okWide_struct Tryz.underlying27 (hval 2 27 v2 rfl rfl)
 obtain ⟨fuel2,hf2⟩:=h2
 obtain ⟨k2,hc2⟩:=sJ hf2
 have e2:(Value.agg cs2)=k2.v:=by
  have:cs2.toList=k2.cells:=by simpa [Value.cells] using hc2
  rw [KyD.v,←this]
 obtain ⟨n3,rfl,rfl,rfl,w3⟩:=open_int Tryz.underlying3 (hval 3 3 v3 rfl rfl) h3
 have b3:=zF w3
 have lo3:=(Go.bounds_i64 w3).1
 obtain ⟨s4,rfl,rfl,rfl,z4⟩:=open_string Tryz.underlying9 (hval 4 9 v4 rfl rfl) h4
 obtain ⟨pa5,ln5,cp5,rfl⟩:=okWide_slice Tryz.underlying39 (hval 5 39 v5 rfl rfl)
 obtain ⟨fuel5,hf5⟩:=h5
 obtain ⟨s5,l5,hs5,hm5,z5⟩:=gc hf5
 have e5:(Value.slice pa5 ln5 cp5)=s5.v:=by simpa [Value.cells] using hs5
 obtain ⟨pa6,ln6,cp6,rfl⟩:=okWide_slice Tryz.underlying42 (hval 6 42 v6 rfl rfl)
 obtain ⟨fuel6,hf6⟩:=h6
 obtain ⟨s6,l6,hs6,hm6,hq6⟩:=nH hf6
 have e6:(Value.slice pa6 ln6 cp6)=s6.v:=by simpa [Value.cells] using hs6
 obtain ⟨n7,rfl,rfl,rfl,w7⟩:=open_int Tryz.underlying3 (hval 7 3 v7 rfl rfl) h7
 have b7:=zF w7
 have lo7:=(Go.bounds_i64 w7).1
 have hG:=wA hL
 have walk:=lO (w:=W) (X:=fun w=>(fun w=>Ints w ks0 L0) w∧(fun w=>Items w ki0 I0) w∧(fun w=>Strs w s5 l5) w∧(fun w=>Wraps w s6 l6) w∧Glob w) ((we (lY ks0 ki0 L0 I0 hq0 hd0 s1 k2 n3 b3 s4 s5 l5 s6 l6 hq6 n7) (fun w h=>⟨⟨⟨⟨h.1,h.2.1⟩,h.2.2.1⟩,h.2.2.2.1⟩,h.2.2.2.2⟩))) ⟨hm0,hk0,hm5,hm6,hG⟩ (fun w' h=>⟨RowsD.keep hm0 h,Items.keep hk0 h,RowsD.keep hm5 h,RowsD.keep hm6 h,⟨hG.ini.keep h,hG.k.keep h⟩⟩)
 rw [e0,e2,e5,e6] at hW' hA0 ⊢
 refine walk.mono fun e W' ⟨he,hb⟩=>?_
 subst he
 refine ⟨_,rfl,_,_,_,[],_,[],hW',trodAll_cons_mk (shut_bool Tryz.underlying4 _) trodAll_mk0,ga laidOut _ _ _ _ ?_ hA0 (fun x hx=>hb.same (hW'.lt x (List.mem_append_left _ hx))) (fun x hx=>by simpa using hW'.lt x (List.mem_append_left _ hx)),rfl,hb.frame _,fun h=>by cases h⟩
 rw [Tryz.params5]
 decide +kernel

def argsW:Array Value:=#[.agg #[.slice none 0 0,.slice none 0 0],.string ⟨#[]⟩,.agg #[.int .i64 0,.int .i64 0],.int .i64 0,.string ⟨#[]⟩,.slice none 0 0,.slice none 0 0,.int .i64 0]
theorem nT (os:Os):laidMet Tryz.prog Rows.circleRenewsRow.laid ((laidWorld os).forCall (fun _ _=>0) ⟨#[],argsW,[]⟩).memory :=
 laidMet_of_run' 8 ae ae
theorem reads (os:Os) {H:Type} (enc:TypeId×Value→H):∃ places,DataW.whole enc Tryz.prog ((laidWorld os).forCall (fun _ _=>0) ⟨#[],argsW,[]⟩).memory Tryz.f5.params.toList Rows.circleRenewsSpec.vars false argsW.toList 8=some ([.agg [.nil,.nil],.lit (.string []),.agg [.lit (.int .i64 0),.lit (.int .i64 0)],.lit (.int .i64 0),.lit (.string []),.nil,.nil,.lit (.int .i64 0)],[],places) :=
 ⟨[],by kernel_rfl⟩
set_option maxRecDepth 100000 in
theorem lifted (os:Os) (started:os.Started) (H:Type) (enc:TypeId×Value→H) (F:Stop.Interp) :
  ReturnsInHanded {} Tryz.checked os 5 .any ((OpenSpec.ofChange Rows.circleRenewsSpec).preRow enc Tryz.prog Tryz.f5 Rows.circleRenewsRow.domain false Rows.circleRenewsRow.laid) (((OpenSpec.ofChange Rows.circleRenewsSpec).at F).post enc Tryz.prog Tryz.f5 false true false false):=by
 obtain ⟨places,hx⟩:=reads os enc
 refine returnsInHanded_of_row (C:=Tryz.checked) (s:=OpenSpec.ofChange Rows.circleRenewsSpec) own started ae Tryz.func5
  (witness_row_at (enc:=enc) (C:=Tryz.checked) false (laidWorld os) argsW rfl ae ae ae
   (OpenSpec.preRow_of_cond 8 hx ae (fun k hk=>by cases hk) ae (nT os))) ?_
 intro W base args ds gs before hval hW _ _ _ hL _ _
 exact contract H enc W base args ds gs before hval hW hL

set_option maxHeartbeats 4000000 in
/-- What the row says of the program's text, limb by limb (in one piece the kernel's memory does not last). -/
theorem closed:joinedFacts Tryz.pinned.checked.prog 5 Tryz.f5 (OpenSpec.ofChange Rows.circleRenewsSpec).bare Rows.circleRenewsRow=true:=by
 unfold joinedFacts
 simp only [Bool.and_eq_true]
 repeat' apply And.intro
 all_goals (as_aux_lemma=>kernel_rfl)

theorem said:Rows.CircleRenewsSaid :=
 OpenClaim.holds_of_cond 5 Tryz.f5 rfl rfl rfl rfl rfl rfl rfl ⟨rfl,rfl,rfl,rfl,rfl⟩ rfl rfl rfl rfl rfl ae Tryz.func5 closed
  (aG ae) (by unfold Func.isWrapper;first|(rw [if_pos (by decide +kernel)];kernel_rfl)|(rw [if_neg (by decide +kernel)];exact ⟨rfl,rfl⟩))
  (fun os started H enc _ F=>by rw [OpenClaim.pre_eq_preRow];exact lifted os started H enc F)

theorem plain (f:FuncId) (fn:Func) (hf:Tryz.pinned.checked.prog.funcNamed "agora/agoralaw22.CircleRenews"=some f) (hfn:Tryz.pinned.checked.prog.funcs[f]?=some fn) :
  false=Tryz.pinned.checked.prog.looks []∧∀ (j:Nat) t,fn.params[j]?=some t→Tryz.pinned.checked.prog.wantsStandIn t=false:=by
 obtain rfl:f=5:=Option.some.inj ((show Tryz.prog.funcNamed "agora/agoralaw22.CircleRenews"=some 5 by kernel_rfl).symm.trans hf) |>.symm
 obtain rfl:fn=Tryz.f5:=(Option.some.inj (Tryz.func5.symm.trans hfn)).symm
 refine ⟨by kernel_rfl,fun j t ht=>?_⟩
 rw [Tryz.params5] at ht
 have hm:t∈[25,9,27,3,9,39,42,3]:=by simpa using Array.mem_of_getElem? ht
 have h0:∀ t∈[25,9,27,3,9,39,42,3],Tryz.prog.wantsStandIn t=false:=by decide +kernel
 exact h0 t hm

theorem card:Rows.CircleRenewsCardSaid :=
 Claim7.holds_tied_plain_at .later [] _ _ _ _ said (fun _ h=>by cases h) ae (fun _ h=>by cases h) circleRenews_row_tie rfl ⟨rfl,rfl⟩ ae rfl plain ae
end Go.Proofs.YtaolfiikahlmkaaGreatDoor.circleRenews
