/- PROVED: for every known set, post, actor, key and direction (whatever their size), agoralaw28.TallyBlocks returns true, does not panic, and leaves its arguments as they were. CONDITION: the two tables of package sum hold what the program text lays there (the row lists them; the card ties them to the text). Nothing else is asked. -/
import Derived.Test.YtaolfiikahlmkaaGreatDoorB17
import Derived.ChangeMaps5
set_option linter.unusedVariables false
set_option linter.unusedSimpArgs false
set_option maxHeartbeats 16000000
set_option maxHeartbeats 16000000
namespace Go.Proofs.YtaolfiikahlmkaaGreatDoor.tallyBlocks
open Go Go.Proofs Sy Go.RowKit Go.Deep Go.ChangeShapes Go.WideShapes Go.ChangeAt Go.ChangeMaps
theorem own:ownKnob Tryz.prog.godebug=none:=by kernel_rfl
set_option maxRecDepth 100000 in
theorem contract (H:Type) (enc:TypeId×Value→H) (W:World) (base:Nat) (args:Array Value) (ds gs:List (DataW H)) (before:List MemPlace)
  (hval:∀ (j:Nat) t v,Tryz.f8.params[j]?=some t→args[j]?=some v→Value.okWide Tryz.prog W .any base t v)
  (hW:DataW.Whole enc Tryz.prog Tryz.f8.params.toList Rows.tallyBlocksSpec.vars false W args.toList ds gs before) (hL:laidMetH Tryz.prog Rows.tallyBlocksRow.laid W) :
  Calls Tryz.prog 8 args W fun e W'=>∃ v,e=.returned v∧Rows.tallyBlocksSpec.post enc Tryz.prog Tryz.f8 false true false false W args v W':=by
 have hW':=hW
 obtain ⟨p,q,hA0,hV,rfl,hfz,hnd⟩:=hW
 have hA:DataW.TrodAll enc Tryz.prog W 0 (fun _=>true) true Tryz.f8.params.toList args.toList ds p:=hA0
 rw [Tryz.params8] at hA hval
 obtain ⟨v0,vs0,d0,ds0,p0,q0,hargs,rfl,rfl,h0,y0⟩:=trodAll_cons hA
 obtain ⟨v1,vs1,d1,ds1,p1,q1,rfl,rfl,rfl,h1,y1⟩:=trodAll_cons y0
 obtain ⟨v2,vs2,d2,ds2,p2,q2,rfl,rfl,rfl,h2,y2⟩:=trodAll_cons y1
 obtain ⟨v3,vs3,d3,ds3,p3,q3,rfl,rfl,rfl,h3,y3⟩:=trodAll_cons y2
 obtain ⟨v4,vs4,d4,ds4,p4,q4,rfl,rfl,rfl,h4,y4⟩:=trodAll_cons y3
 obtain ⟨rfl,rfl,rfl⟩:=trodAll_nil y4
 obtain rfl:args=#[v0,v1,v2,v3,v4]:=by cases args;simp_all
 obtain ⟨rfl,rfl⟩:=trodVars_none hV
 obtain ⟨cs0,rfl,hsz0⟩:=okWide_struct Tryz.underlying25 (hval 0 25 v0 rfl rfl)
 obtain ⟨fuel0,hf0⟩:=h0
 obtain ⟨ks0,ki0,L0,I0,hc0,hm0,hk0,hl0,hq0⟩:=wu hf0
 have e0:(Value.agg cs0)=.agg #[ks0.v,ki0.v]:=by
  have:cs0.toList=[ks0.v,ki0.v]:=by simpa [Value.cells] using hc0
  show Value.agg cs0=Value.agg [ks0.v,ki0.v].toArray
  rw [←this]
 have hd0:=fun i hi=>(hk0.2 i hi).2.len_
 obtain ⟨s1,rfl,rfl,rfl,z1⟩:=open_string Tryz.underlying9 (hval 1 9 v1 rfl rfl) h1
 obtain ⟨s2,rfl,rfl,rfl,z2⟩:=open_string Tryz.underlying9 (hval 2 9 v2 rfl rfl) h2
 obtain ⟨cs3,rfl,hsz3⟩:=okWide_struct Tryz.underlying27 (hval 3 27 v3 rfl rfl)
 obtain ⟨fuel3,hf3⟩:=h3
 obtain ⟨k3,hc3⟩:=DS hf3
 have e3:(Value.agg cs3)=k3.v:=by
  have:cs3.toList=k3.cells:=by simpa [Value.cells] using hc3
  rw [Ed.v,←this]
 obtain ⟨n4,rfl,rfl,rfl⟩:=open_bool Tryz.underlying4 (hval 4 4 v4 rfl rfl) h4
 have hG:=HR hL
 have walk:=vl (w:=W) (X:=fun w=>(fun w=>Ints w ks0 L0) w∧(fun w=>Items w ki0 I0) w∧Xe w) ((Hm (nM ks0 ki0 L0 I0 hq0 hd0 s1 s2 z2 k3 n4) (fun w h=>⟨⟨h.1,h.2.1⟩,h.2.2⟩))) ⟨hm0,hk0,hG⟩ (fun w' h=>⟨Xf.keep hm0 h,Items.keep hk0 h,⟨hG.ini.keep h,hG.k.keep h⟩⟩)
 rw [e0,e3] at hW' hA0 ⊢
 refine walk.mono fun e W' ⟨he,hb⟩=>?_
 subst he
 refine ⟨_,rfl,_,_,_,[],_,[],hW',trodAll_cons_mk (shut_bool Tryz.underlying4 _) trodAll_mk0,je laidOut _ _ _ _ ?_ hA0 (fun x hx=>hb.same (hW'.lt x (List.mem_append_left _ hx))) (fun x hx=>by simpa using hW'.lt x (List.mem_append_left _ hx)),rfl,hb.frame _,fun h=>by cases h⟩
 rw [Tryz.params8]
 decide +kernel

def argsW:Array Value:=#[.agg #[.slice none 0 0,.slice none 0 0],.string ⟨#[]⟩,.string ⟨#[]⟩,.agg #[.int .i64 0,.int .i64 0],.bool false]
theorem EN (os:Os):laidMet Tryz.prog Rows.tallyBlocksRow.laid ((laidWorld os).forCall (fun _ _=>0) ⟨#[],argsW,[]⟩).memory :=
 laidMet_of_run' 8 aj aj
theorem reads (os:Os) {H:Type} (enc:TypeId×Value→H):∃ places,DataW.whole enc Tryz.prog ((laidWorld os).forCall (fun _ _=>0) ⟨#[],argsW,[]⟩).memory Tryz.f8.params.toList Rows.tallyBlocksSpec.vars false argsW.toList 8=some ([.agg [.nil,.nil],.lit (.string []),.lit (.string []),.agg [.lit (.int .i64 0),.lit (.int .i64 0)],.lit (.bool false)],[],places) :=
 ⟨[],by kernel_rfl⟩
set_option maxRecDepth 100000 in
theorem lifted (os:Os) (started:os.Started) (H:Type) (enc:TypeId×Value→H) (F:Stop.Interp) :
  ReturnsInHanded {} Tryz.checked os 8 .any ((OpenSpec.ofChange Rows.tallyBlocksSpec).preRow enc Tryz.prog Tryz.f8 Rows.tallyBlocksRow.domain false Rows.tallyBlocksRow.laid) (((OpenSpec.ofChange Rows.tallyBlocksSpec).at F).post enc Tryz.prog Tryz.f8 false true false false):=by
 obtain ⟨places,hx⟩:=reads os enc
 refine returnsInHanded_of_row (C:=Tryz.checked) (s:=OpenSpec.ofChange Rows.tallyBlocksSpec) own started aj Tryz.func8
  (witness_row_at (enc:=enc) (C:=Tryz.checked) false (laidWorld os) argsW rfl aj aj aj
   (OpenSpec.preRow_of_cond 8 hx aj (fun k hk=>by cases hk) aj (EN os))) ?_
 intro W base args ds gs before hval hW _ _ _ hL _ _
 exact contract H enc W base args ds gs before hval hW hL

set_option maxHeartbeats 4000000 in
/-- What the row says of the program's text, limb by limb (in one piece the kernel's memory does not last). -/
theorem closed:joinedFacts Tryz.pinned.checked.prog 8 Tryz.f8 (OpenSpec.ofChange Rows.tallyBlocksSpec).bare Rows.tallyBlocksRow=true:=by
 unfold joinedFacts
 simp only [Bool.and_eq_true]
 repeat' apply And.intro
 all_goals (as_aux_lemma=>kernel_rfl)

theorem said:Rows.TallyBlocksSaid :=
 OpenClaim.holds_of_cond 8 Tryz.f8 rfl rfl rfl rfl rfl rfl rfl ⟨rfl,rfl,rfl,rfl,rfl⟩ rfl rfl rfl rfl rfl aj Tryz.func8 closed
  (bA aj) (by unfold Func.isWrapper;first|(rw [if_pos (by decide +kernel)];kernel_rfl)|(rw [if_neg (by decide +kernel)];exact ⟨rfl,rfl⟩))
  (fun os started H enc _ F=>by rw [OpenClaim.pre_eq_preRow];exact lifted os started H enc F)

theorem plain (f:FuncId) (fn:Func) (hf:Tryz.pinned.checked.prog.funcNamed "agora/agoralaw28.TallyBlocks"=some f) (hfn:Tryz.pinned.checked.prog.funcs[f]?=some fn) :
  false=Tryz.pinned.checked.prog.looks []∧∀ (j:Nat) t,fn.params[j]?=some t→Tryz.pinned.checked.prog.wantsStandIn t=false:=by
 obtain rfl:f=8:=Option.some.inj ((show Tryz.prog.funcNamed "agora/agoralaw28.TallyBlocks"=some 8 by kernel_rfl).symm.trans hf) |>.symm
 obtain rfl:fn=Tryz.f8:=(Option.some.inj (Tryz.func8.symm.trans hfn)).symm
 refine ⟨by kernel_rfl,fun j t ht=>?_⟩
 rw [Tryz.params8] at ht
 have hm:t∈[25,9,9,27,4]:=by simpa using Array.mem_of_getElem? ht
 have h0:∀ t∈[25,9,9,27,4],Tryz.prog.wantsStandIn t=false:=by decide +kernel
 exact h0 t hm

theorem card:Rows.TallyBlocksCardSaid :=
 Claim7.holds_tied_plain_at .later [] _ _ _ _ said (fun _ h=>by cases h) aj (fun _ h=>by cases h) tallyBlocks_row_tie rfl ⟨rfl,rfl⟩ aj rfl plain aj
end Go.Proofs.YtaolfiikahlmkaaGreatDoor.tallyBlocks
