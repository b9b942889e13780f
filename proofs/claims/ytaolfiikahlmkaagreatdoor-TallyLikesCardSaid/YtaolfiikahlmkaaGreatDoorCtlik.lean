/- PROVED: for every known set, id, key and post (whatever their size), agoralaw28.TallyLikes returns true, does not panic, and leaves its arguments as they were. CONDITION: the two tables of package sum hold what the program text lays there (the row lists them; the card ties them to the text). Nothing else is asked. -/
import Derived.Test.YtaolfiikahlmkaaGreatDoorL17
import Derived.ChangeMaps5
set_option linter.unusedVariables false
set_option linter.unusedSimpArgs false
set_option maxHeartbeats 16000000
set_option maxHeartbeats 16000000
namespace Go.Proofs.YtaolfiikahlmkaaGreatDoor.tallyLikes
open Go Go.Proofs Sy Go.RowKit Go.Deep Go.ChangeShapes Go.WideShapes Go.ChangeAt Go.ChangeMaps
theorem own:ownKnob Tryz.prog.godebug=none:=by kernel_rfl
set_option maxRecDepth 100000 in
theorem contract (H:Type) (enc:TypeId×Value→H) (W:World) (base:Nat) (args:Array Value) (ds gs:List (DataW H)) (before:List MemPlace)
  (hval:∀ (j:Nat) t v,Tryz.f7.params[j]?=some t→args[j]?=some v→Value.okWide Tryz.prog W .any base t v)
  (hW:DataW.Whole enc Tryz.prog Tryz.f7.params.toList Rows.tallyLikesSpec.vars false W args.toList ds gs before) (hL:laidMetH Tryz.prog Rows.tallyLikesRow.laid W) :
  Calls Tryz.prog 7 args W fun e W'=>∃ v,e=.returned v∧Rows.tallyLikesSpec.post enc Tryz.prog Tryz.f7 false true false false W args v W':=by
 have hW':=hW
 obtain ⟨p,q,hA0,hV,rfl,hfz,hnd⟩:=hW
 have hA:DataW.TrodAll enc Tryz.prog W 0 (fun _=>true) true Tryz.f7.params.toList args.toList ds p:=hA0
 rw [Tryz.params7] at hA hval
 obtain ⟨v0,vs0,d0,ds0,p0,q0,hargs,rfl,rfl,h0,y0⟩:=trodAll_cons hA
 obtain ⟨v1,vs1,d1,ds1,p1,q1,rfl,rfl,rfl,h1,y1⟩:=trodAll_cons y0
 obtain ⟨v2,vs2,d2,ds2,p2,q2,rfl,rfl,rfl,h2,y2⟩:=trodAll_cons y1
 obtain ⟨v3,vs3,d3,ds3,p3,q3,rfl,rfl,rfl,h3,y3⟩:=trodAll_cons y2
 obtain ⟨rfl,rfl,rfl⟩:=trodAll_nil y3
 obtain rfl:args=#[v0,v1,v2,v3]:=by cases args;simp_all
 obtain ⟨rfl,rfl⟩:=trodVars_none hV
 obtain ⟨cs0,rfl,hsz0⟩:=okWide_struct Tryz.underlying25 (hval 0 25 v0 rfl rfl)
 obtain ⟨fuel0,hf0⟩:=h0
 obtain ⟨ks0,ki0,L0,I0,hc0,hm0,hk0,hl0,hq0⟩:=wz hf0
 have e0:(Value.agg cs0)=.agg #[ks0.v,ki0.v]:=by
  have:cs0.toList=[ks0.v,ki0.v]:=by simpa [Value.cells] using hc0
  show Value.agg cs0=Value.agg [ks0.v,ki0.v].toArray
  rw [←this]
 have hd0:=fun i hi=>(hk0.2 i hi).2.len_
 obtain ⟨s1,rfl,rfl,rfl,z1⟩:=open_string Tryz.underlying9 (hval 1 9 v1 rfl rfl) h1
 obtain ⟨cs2,rfl,hsz2⟩:=okWide_struct Tryz.underlying27 (hval 2 27 v2 rfl rfl)
 obtain ⟨fuel2,hf2⟩:=h2
 obtain ⟨k2,hc2⟩:=D5 hf2
 have e2:(Value.agg cs2)=k2.v:=by
  have:cs2.toList=k2.cells:=by simpa [Value.cells] using hc2
  rw [Ee.v,←this]
 obtain ⟨s3,rfl,rfl,rfl,z3⟩:=open_string Tryz.underlying9 (hval 3 9 v3 rfl rfl) h3
 have hG:=HW hL
 have walk:=vt (w:=W) (X:=fun w=>(fun w=>Ints w ks0 L0) w∧(fun w=>Items w ki0 I0) w∧Xe w) ((Hv (pC ks0 ki0 L0 I0 hq0 hd0 s1 k2 s3) (fun w h=>⟨⟨h.1,h.2.1⟩,h.2.2⟩))) ⟨hm0,hk0,hG⟩ (fun w' h=>⟨Xf.keep hm0 h,Items.keep hk0 h,⟨hG.ini.keep h,hG.k.keep h⟩⟩)
 rw [e0,e2] at hW' hA0 ⊢
 refine walk.mono fun e W' ⟨he,hb⟩=>?_
 subst he
 refine ⟨_,rfl,_,_,_,[],_,[],hW',trodAll_cons_mk (shut_bool Tryz.underlying4 _) trodAll_mk0,jc laidOut _ _ _ _ ?_ hA0 (fun x hx=>hb.same (hW'.lt x (List.mem_append_left _ hx))) (fun x hx=>by simpa using hW'.lt x (List.mem_append_left _ hx)),rfl,hb.frame _,fun h=>by cases h⟩
 rw [Tryz.params7]
 decide +kernel

def argsW:Array Value:=#[.agg #[.slice none 0 0,.slice none 0 0],.string ⟨#[]⟩,.agg #[.int .i64 0,.int .i64 0],.string ⟨#[]⟩]
theorem EW (os:Os):laidMet Tryz.prog Rows.tallyLikesRow.laid ((laidWorld os).forCall (fun _ _=>0) ⟨#[],argsW,[]⟩).memory :=
 laidMet_of_run' 8 ai ai
theorem reads (os:Os) {H:Type} (enc:TypeId×Value→H):∃ places,DataW.whole enc Tryz.prog ((laidWorld os).forCall (fun _ _=>0) ⟨#[],argsW,[]⟩).memory Tryz.f7.params.toList Rows.tallyLikesSpec.vars false argsW.toList 8=some ([.agg [.nil,.nil],.lit (.string []),.agg [.lit (.int .i64 0),.lit (.int .i64 0)],.lit (.string [])],[],places) :=
 ⟨[],by kernel_rfl⟩
set_option maxRecDepth 100000 in
theorem lifted (os:Os) (started:os.Started) (H:Type) (enc:TypeId×Value→H) (F:Stop.Interp) :
  ReturnsInHanded {} Tryz.checked os 7 .any ((OpenSpec.ofChange Rows.tallyLikesSpec).preRow enc Tryz.prog Tryz.f7 Rows.tallyLikesRow.domain false Rows.tallyLikesRow.laid) (((OpenSpec.ofChange Rows.tallyLikesSpec).at F).post enc Tryz.prog Tryz.f7 false true false false):=by
 obtain ⟨places,hx⟩:=reads os enc
 refine returnsInHanded_of_row (C:=Tryz.checked) (s:=OpenSpec.ofChange Rows.tallyLikesSpec) own started ai Tryz.func7
  (witness_row_at (enc:=enc) (C:=Tryz.checked) false (laidWorld os) argsW rfl ai ai ai
   (OpenSpec.preRow_of_cond 8 hx ai (fun k hk=>by cases hk) ai (EW os))) ?_
 intro W base args ds gs before hval hW _ _ _ hL _ _
 exact contract H enc W base args ds gs before hval hW hL

set_option maxHeartbeats 4000000 in
/-- What the row says of the program's text, limb by limb (in one piece the kernel's memory does not last). -/
theorem closed:joinedFacts Tryz.pinned.checked.prog 7 Tryz.f7 (OpenSpec.ofChange Rows.tallyLikesSpec).bare Rows.tallyLikesRow=true:=by
 unfold joinedFacts
 simp only [Bool.and_eq_true]
 repeat' apply And.intro
 all_goals (as_aux_lemma=>kernel_rfl)

theorem said:Rows.TallyLikesSaid :=
 OpenClaim.holds_of_cond 7 Tryz.f7 rfl rfl rfl rfl rfl rfl rfl ⟨rfl,rfl,rfl,rfl,rfl⟩ rfl rfl rfl rfl rfl ai Tryz.func7 closed
  (bz ai) (by unfold Func.isWrapper;first|(rw [if_pos (by decide +kernel)];kernel_rfl)|(rw [if_neg (by decide +kernel)];exact ⟨rfl,rfl⟩))
  (fun os started H enc _ F=>by rw [OpenClaim.pre_eq_preRow];exact lifted os started H enc F)

theorem plain (f:FuncId) (fn:Func) (hf:Tryz.pinned.checked.prog.funcNamed "agora/agoralaw28.TallyLikes"=some f) (hfn:Tryz.pinned.checked.prog.funcs[f]?=some fn) :
  false=Tryz.pinned.checked.prog.looks []∧∀ (j:Nat) t,fn.params[j]?=some t→Tryz.pinned.checked.prog.wantsStandIn t=false:=by
 obtain rfl:f=7:=Option.some.inj ((show Tryz.prog.funcNamed "agora/agoralaw28.TallyLikes"=some 7 by kernel_rfl).symm.trans hf) |>.symm
 obtain rfl:fn=Tryz.f7:=(Option.some.inj (Tryz.func7.symm.trans hfn)).symm
 refine ⟨by kernel_rfl,fun j t ht=>?_⟩
 rw [Tryz.params7] at ht
 have hm:t∈[25,9,27,9]:=by simpa using Array.mem_of_getElem? ht
 have h0:∀ t∈[25,9,27,9],Tryz.prog.wantsStandIn t=false:=by decide +kernel
 exact h0 t hm

theorem card:Rows.TallyLikesCardSaid :=
 Claim7.holds_tied_plain_at .later [] _ _ _ _ said (fun _ h=>by cases h) ai (fun _ h=>by cases h) tallyLikes_row_tie rfl ⟨rfl,rfl⟩ ai rfl plain ai
end Go.Proofs.YtaolfiikahlmkaaGreatDoor.tallyLikes
