/- PROVED: for every known set, post and number (whatever their size), agoralaw28.TallyOrder returns true, does not panic, and leaves its arguments as they were. CONDITION: the two tables of package sum hold what the program text lays there (the row lists them; the card ties them to the text). Nothing else is asked. -/
import Derived.Test.YtaolfiikahlmkaaGreatDoorT15
import Derived.ChangeMaps5
set_option linter.unusedVariables false
set_option linter.unusedSimpArgs false
set_option maxHeartbeats 16000000
set_option maxHeartbeats 16000000
namespace Go.Proofs.YtaolfiikahlmkaaGreatDoor.tallyOrder
open Go Go.Proofs Sy Go.RowKit Go.Deep Go.ChangeShapes Go.WideShapes Go.ChangeAt Go.ChangeMaps
theorem own:ownKnob Tryz.prog.godebug=none:=by kernel_rfl
set_option maxRecDepth 100000 in
theorem contract (H:Type) (enc:TypeId×Value→H) (W:World) (base:Nat) (args:Array Value) (ds gs:List (DataW H)) (before:List MemPlace)
  (hval:∀ (j:Nat) t v,Tryz.f4.params[j]?=some t→args[j]?=some v→Value.okWide Tryz.prog W .any base t v)
  (hW:DataW.Whole enc Tryz.prog Tryz.f4.params.toList Rows.tallyOrderSpec.vars false W args.toList ds gs before) (hL:laidMetH Tryz.prog Rows.tallyOrderRow.laid W) :
  Calls Tryz.prog 4 args W fun e W'=>∃ v,e=.returned v∧Rows.tallyOrderSpec.post enc Tryz.prog Tryz.f4 false true false false W args v W':=by
 have hW':=hW
 obtain ⟨p,q,hA0,hV,rfl,hfz,hnd⟩:=hW
 have hA:DataW.TrodAll enc Tryz.prog W 0 (fun _=>true) true Tryz.f4.params.toList args.toList ds p:=hA0
 rw [Tryz.params4] at hA hval
 obtain ⟨v0,vs0,d0,ds0,p0,q0,hargs,rfl,rfl,h0,y0⟩:=trodAll_cons hA
 obtain ⟨v1,vs1,d1,ds1,p1,q1,rfl,rfl,rfl,h1,y1⟩:=trodAll_cons y0
 obtain ⟨v2,vs2,d2,ds2,p2,q2,rfl,rfl,rfl,h2,y2⟩:=trodAll_cons y1
 obtain ⟨rfl,rfl,rfl⟩:=trodAll_nil y2
 obtain rfl:args=#[v0,v1,v2]:=by cases args;simp_all
 obtain ⟨rfl,rfl⟩:=trodVars_none hV
 obtain ⟨cs0,rfl,hsz0⟩:=okWide_struct Tryz.underlying25 (hval 0 25 v0 rfl rfl)
 obtain ⟨fuel0,hf0⟩:=h0
 obtain ⟨ks0,ki0,L0,I0,hc0,hm0,hk0,hl0,hq0⟩:=tT hf0
 have e0:(Value.agg cs0)=.agg #[ks0.v,ki0.v]:=by
  have:cs0.toList=[ks0.v,ki0.v]:=by simpa [Value.cells] using hc0
  show Value.agg cs0=Value.agg [ks0.v,ki0.v].toArray
  rw [←this]
 have hd0:=fun i hi=>(hk0.2 i hi).2.len_
 obtain ⟨s1,rfl,rfl,rfl,z1⟩:=open_string Tryz.underlying9 (hval 1 9 v1 rfl rfl) h1
 obtain ⟨n2,rfl,rfl,rfl,w2⟩:=open_int Tryz.underlying3 (hval 2 3 v2 rfl rfl) h2
 have b2:=Ex w2
 have lo2:=(Go.bounds_i64 w2).1
 have hG:=DI hL
 have walk:=sK (w:=W) (X:=fun w=>(fun w=>Ints w ks0 L0) w∧(fun w=>Items w ki0 I0) w∧Xi w) ((Dj (nC ks0 ki0 L0 I0 hq0 hd0 s1 n2) (fun w h=>⟨⟨h.1,h.2.1⟩,h.2.2⟩))) ⟨hm0,hk0,hG⟩ (fun w' h=>⟨Xf.keep hm0 h,Items.keep hk0 h,⟨hG.ini.keep h,hG.k.keep h⟩⟩)
 rw [e0] at hW' hA0 ⊢
 refine walk.mono fun e W' ⟨he,hb⟩=>?_
 subst he
 refine ⟨_,rfl,_,_,_,[],_,[],hW',trodAll_cons_mk (shut_bool Tryz.underlying4 _) trodAll_mk0,ip laidOut _ _ _ _ ?_ hA0 (fun x hx=>hb.same (hW'.lt x (List.mem_append_left _ hx))) (fun x hx=>by simpa using hW'.lt x (List.mem_append_left _ hx)),rfl,hb.frame _,fun h=>by cases h⟩
 rw [Tryz.params4]
 decide +kernel

def argsW:Array Value:=#[.agg #[.slice none 0 0,.slice none 0 0],.string ⟨#[]⟩,.int .i64 0]
theorem A6 (os:Os):laidMet Tryz.prog Rows.tallyOrderRow.laid ((laidWorld os).forCall (fun _ _=>0) ⟨#[],argsW,[]⟩).memory :=
 laidMet_of_run' 8 ac ac
theorem reads (os:Os) {H:Type} (enc:TypeId×Value→H):∃ places,DataW.whole enc Tryz.prog ((laidWorld os).forCall (fun _ _=>0) ⟨#[],argsW,[]⟩).memory Tryz.f4.params.toList Rows.tallyOrderSpec.vars false argsW.toList 8=some ([.agg [.nil,.nil],.lit (.string []),.lit (.int .i64 0)],[],places) :=
 ⟨[],by kernel_rfl⟩
set_option maxRecDepth 100000 in
theorem lifted (os:Os) (started:os.Started) (H:Type) (enc:TypeId×Value→H) (F:Stop.Interp) :
  ReturnsInHanded {} Tryz.checked os 4 .any ((OpenSpec.ofChange Rows.tallyOrderSpec).preRow enc Tryz.prog Tryz.f4 Rows.tallyOrderRow.domain false Rows.tallyOrderRow.laid) (((OpenSpec.ofChange Rows.tallyOrderSpec).at F).post enc Tryz.prog Tryz.f4 false true false false):=by
 obtain ⟨places,hx⟩:=reads os enc
 refine returnsInHanded_of_row (C:=Tryz.checked) (s:=OpenSpec.ofChange Rows.tallyOrderSpec) own started ac Tryz.func4
  (witness_row_at (enc:=enc) (C:=Tryz.checked) false (laidWorld os) argsW rfl ac ac ac
   (OpenSpec.preRow_of_cond 8 hx ac (fun k hk=>by cases hk) ac (A6 os))) ?_
 intro W base args ds gs before hval hW _ _ _ hL _ _
 exact contract H enc W base args ds gs before hval hW hL

set_option maxHeartbeats 4000000 in
/-- What the row says of the program's text, limb by limb (in one piece the kernel's memory does not last). -/
theorem closed:joinedFacts Tryz.pinned.checked.prog 4 Tryz.f4 (OpenSpec.ofChange Rows.tallyOrderSpec).bare Rows.tallyOrderRow=true:=by
 unfold joinedFacts
 simp only [Bool.and_eq_true]
 repeat' apply And.intro
 all_goals (as_aux_lemma=>kernel_rfl)

theorem said:Rows.TallyOrderSaid :=
 OpenClaim.holds_of_cond 4 Tryz.f4 rfl rfl rfl rfl rfl rfl rfl ⟨rfl,rfl,rfl,rfl,rfl⟩ rfl rfl rfl rfl rfl ac Tryz.func4 closed
  (bz ac) (by unfold Func.isWrapper;first|(rw [if_pos (by decide +kernel)];kernel_rfl)|(rw [if_neg (by decide +kernel)];exact ⟨rfl,rfl⟩))
  (fun os started H enc _ F=>by rw [OpenClaim.pre_eq_preRow];exact lifted os started H enc F)

theorem plain (f:FuncId) (fn:Func) (hf:Tryz.pinned.checked.prog.funcNamed "agora/agoralaw28.TallyOrder"=some f) (hfn:Tryz.pinned.checked.prog.funcs[f]?=some fn) :
  false=Tryz.pinned.checked.prog.looks []∧∀ (j:Nat) t,fn.params[j]?=some t→Tryz.pinned.checked.prog.wantsStandIn t=false:=by
 obtain rfl:f=4:=Option.some.inj ((show Tryz.prog.funcNamed "agora/agoralaw28.TallyOrder"=some 4 by kernel_rfl).symm.trans hf) |>.symm
 obtain rfl:fn=Tryz.f4:=(Option.some.inj (Tryz.func4.symm.trans hfn)).symm
 refine ⟨by kernel_rfl,fun j t ht=>?_⟩
 rw [Tryz.params4] at ht
 have hm:t∈[25,9,3]:=by simpa using Array.mem_of_getElem? ht
 have h0:∀ t∈[25,9,3],Tryz.prog.wantsStandIn t=false:=by decide +kernel
 exact h0 t hm

theorem card:Rows.TallyOrderCardSaid :=
 Claim7.holds_tied_plain_at .later [] _ _ _ _ said (fun _ h=>by cases h) ac (fun _ h=>by cases h) tallyOrder_row_tie rfl ⟨rfl,rfl⟩ ac rfl plain ac
end Go.Proofs.YtaolfiikahlmkaaGreatDoor.tallyOrder
