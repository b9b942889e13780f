/- PROVED: for every case and time (whatever their size), agoralaw36.AppealEnds returns true, does not panic, and leaves its arguments as they were. CONDITION: the two tables of package sum hold what the program text lays there (the row lists them; the card ties them to the text). Nothing else is asked. -/
import Derived.Test.YtgffbiobmamobaaGreatDoorI0
import Derived.Test.YtgffbiobmamobaaGreatDoorI48
import Derived.Test.YtgffbiobmamobaaGreatDoorI52
import Derived.Test.YtgffbiobmamobaaGreatDoorI40
import Derived.Test.YtgffbiobmamobaaGreatDoorI14
import Derived.ChangeMaps5
set_option linter.unusedVariables false
set_option linter.unusedSimpArgs false
set_option maxHeartbeats 16000000
set_option maxHeartbeats 16000000
namespace Go.Proofs.YtgffbiobmamobaaGreatDoor.appealEnds
open Go Go.Proofs Sy Go.RowKit Go.Deep Go.ChangeShapes Go.WideShapes Go.ChangeAt Go.ChangeMaps
set_option maxRecDepth 100000 in
theorem contract (H:Type) (enc:TypeId×Value→H) (W:World) (base:Nat) (args:Array Value) (ds gs:List (DataW H)) (before:List MemPlace)
  (hval:∀ (j:Nat) t v,Tryz.f3.params[j]?=some t→args[j]?=some v→Value.okWide Tryz.prog W .any base t v)
  (hW:DataW.Whole enc Tryz.prog Tryz.f3.params.toList Rows.appealEndsSpec.vars false W args.toList ds gs before) (hL:laidMetH Tryz.prog Rows.appealEndsRow.laid W) :
  Calls Tryz.prog 3 args W fun e W'=>∃ v,e=.returned v∧Rows.appealEndsSpec.post enc Tryz.prog Tryz.f3 false true false false W args v W':=by
 have hW':=hW
 obtain ⟨p,q,hA0,hV,rfl,hfz,hnd⟩:=hW
 have hA:DataW.TrodAll enc Tryz.prog W 0 (fun _=>true) true Tryz.f3.params.toList args.toList ds p:=hA0
 rw [Tryz.params3] at hA hval
 obtain ⟨v0,vs0,d0,ds0,p0,q0,hargs,rfl,rfl,h0,y0⟩:=trodAll_cons hA
 obtain ⟨v1,vs1,d1,ds1,p1,q1,rfl,rfl,rfl,h1,y1⟩:=trodAll_cons y0
 obtain ⟨rfl,rfl,rfl⟩:=trodAll_nil y1
 obtain rfl:args=#[v0,v1]:=by cases args;simp_all
 obtain ⟨rfl,rfl⟩:=trodVars_none hV
 obtain ⟨cs0,rfl,hsz0⟩:=okWide_struct Tryz.underlying26 (hval 0 26 v0 rfl rfl)
 obtain ⟨fuel0,hf0⟩:=h0
 obtain ⟨ch0,W0,O0,Q0,hc0,hm0,hk0,hl0,hq0,ho0⟩:=tB hf0
 have e0:(Value.agg cs0)=ch0.v:=by
  have:cs0.toList=ch0.cells:=by simpa [Value.cells] using hc0
  rw [CaseH.v,←this]
 obtain ⟨n1,rfl,rfl,rfl,w1⟩:=open_int Tryz.underlying3 (hval 1 3 v1 rfl rfl) h1
 have b1:=zB w1
 have lo1:=(Go.bounds_i64 w1).1
 have hG:=yZ hL
 have walk:=px (w:=W) (X:=fun w=>(fun w=>Wishes w ch0.sw W0) w∧(fun w=>Xe w 8 ch0.so (O0.map Xk.cells)) w∧(fun w=>Xe w 4 ch0.sp (Q0.map Xp.cells)) w∧Xg w) (yG (tZ ch0 W0 O0 Q0 n1 hq0 ho0) (fun w h=>⟨h.1,h.2.1,h.2.2.1,h.2.2.2⟩)) ⟨hm0,hk0,hl0,hG⟩ (fun w' h=>⟨Xe.keep hm0 h,Xe.keep hk0 h,Xe.keep hl0 h,⟨hG.ini.keep h,hG.k.keep h⟩⟩)
 rw [e0] at hW' hA0 ⊢
 refine walk.mono fun e W' ⟨he,hb⟩=>?_
 subst he
 refine ⟨_,rfl,_,_,_,[],_,[],hW',trodAll_cons_mk (shut_bool Tryz.underlying4 _) trodAll_mk0,gR laidOut _ _ _ _ ?_ hA0 (fun x hx=>hb.same (hW'.lt x (List.mem_append_left _ hx))) (fun x hx=>by simpa using hW'.lt x (List.mem_append_left _ hx)),rfl,hb.frame _,fun h=>by cases h⟩
 rw [Tryz.params3]
 decide +kernel

set_option maxRecDepth 100000 in
theorem lifted (os:Os) (started:os.Started) (H:Type) (enc:TypeId×Value→H) (F:Stop.Interp) :
  ReturnsInHanded {} Tryz.checked os 3 .any ((OpenSpec.ofChange Rows.appealEndsSpec).preRow enc Tryz.prog Tryz.f3 Rows.appealEndsRow.domain false Rows.appealEndsRow.laid) (((OpenSpec.ofChange Rows.appealEndsSpec).at F).post enc Tryz.prog Tryz.f3 false true false false):=by
 obtain ⟨places,hx⟩:=reads os enc
 refine returnsInHanded_of_row (C:=Tryz.checked) (s:=OpenSpec.ofChange Rows.appealEndsSpec) own started ai Tryz.func3
  (witness_row_at (enc:=enc) (C:=Tryz.checked) false (laidWorld os) argsW rfl ai ai ai
   (OpenSpec.preRow_of_cond 8 hx ai (fun k hk=>by cases hk) ai (wv os))) ?_
 intro W base args ds gs before hval hW _ _ _ hL _ _
 exact contract H enc W base args ds gs before hval hW hL

theorem said:Rows.AppealEndsSaid :=
 OpenClaim.holds_of_cond 3 Tryz.f3 rfl rfl rfl rfl rfl rfl rfl ⟨rfl,rfl,rfl,rfl,rfl⟩ rfl rfl rfl rfl rfl ai Tryz.func3 closed
  (bm ai) (by unfold Func.isWrapper;first|(rw [if_pos (by decide +kernel)];kernel_rfl)|(rw [if_neg (by decide +kernel)];exact ⟨rfl,rfl⟩))
  (fun os started H enc _ F=>by rw [OpenClaim.pre_eq_preRow];exact lifted os started H enc F)

theorem card:Rows.AppealEndsCardSaid :=
 Claim7.holds_tied_plain_at .later [] _ _ _ _ said (fun _ h=>by cases h) ai (fun _ h=>by cases h) appealEnds_row_tie rfl ⟨rfl,rfl⟩ ai rfl plain ai
end Go.Proofs.YtgffbiobmamobaaGreatDoor.appealEnds
