/- Joined by program out of: Uj Uk Ul Um Un Uo Up Ur. -/
import Derived.Test.YtoefdofbekihdaaGreatDoorV8
set_option linter.unusedVariables false
set_option linter.unusedSimpArgs false
namespace Go.Proofs.YtoefdofbekihdaaGreatDoor
open Go Go.Proofs Sy
def okR (k:Int) (a:ActD):Bool :=
 bif decide (k=0) then (isPublicB a.n&&decide (0≤a.m)&&decide (a.m<20))&&isName a.text else bif decide (k=1) then audienceB a else bif decide (k=2) then audienceB a&&decide ((a.object.size:Int)=32) else bif decide (k=3) then audienceB a&&decide ((a.object.size:Int)=32) else bif decide (k=4) then decide ((a.object.size:Int)=32) else bif decide (k=5) then decide ((a.object.size:Int)=32) else bif decide (k=6) then decide ((a.object.size:Int)=32) else bif decide (k=7) then isId a.target else bif decide (k=8) then isId a.target else bif decide (k=9) then isId a.target else bif decide (k=10) then isId a.target else bif decide (k=11) then isId a.target else bif decide (k=12) then decide ((a.object.size:Int)=32)&&decide ((a.text.size:Int)≤500) else bif decide (k=13) then decide ((a.object.size:Int)=32) else bif decide (k=14) then audienceB a&&decide ((a.object.size:Int)=32) else bif decide (k=15) then isIds a.toL&&isName a.group else bif decide (k=16) then isIds a.toL&&decide (1≤a.scope)&&decide (a.scope≤3)&&groupR a&&decide (0≤a.epoch)&&decide (a.epoch≤1073741824)&&wrappedB a else bif decide (k=17) then (bif !seqB a.object ⟨#[]⟩ then isName a.text&&decide ((a.object.size:Int)=32)&&seqB a.target ⟨#[]⟩ else isName a.text&&isId a.target) else bif decide (k=18) then (isPublicB a.n&&decide (0≤a.m)&&decide (a.m<20)) else bif decide (k=19) then isIds a.toL&&decide (0<(a.to.n:Int))&&wrappedB a&&decide (1≤a.n)&&decide (a.n≤(a.to.n:Int))&&isPublicB a.m else bif decide (k=20) then decide ((a.object.size:Int)=32) else bif decide (k=21) then decide ((a.object.size:Int)=32)&&decide ((a.text.size:Int)≤500) else bif decide (k=22) then decide ((a.object.size:Int)=32)&&decide (0≤a.n)&&decide (a.n≤1) else bif decide (k=23) then isId a.target&&decide ((a.text.size:Int)≤500)&&decide (0≤a.n)&&decide (a.n≤1099511627776) else false
def restA (k:Int) (a:ActD):ActD :=
 bif decide (k=0) then { a with text:=⟨#[]⟩,n:=0,m:=0 } else bif decide (k=1) then bareA a else bif decide (k=2) then { bareA a with object:=⟨#[]⟩ } else bif decide (k=3) then { bareA a with object:=⟨#[]⟩ } else bif decide (k=4) then { a with object:=⟨#[]⟩ } else bif decide (k=5) then { a with object:=⟨#[]⟩ } else bif decide (k=6) then { a with object:=⟨#[]⟩ } else bif decide (k=7) then { a with target:=⟨#[]⟩ } else bif decide (k=8) then { a with target:=⟨#[]⟩ } else bif decide (k=9) then { a with target:=⟨#[]⟩ } else bif decide (k=10) then { a with target:=⟨#[]⟩ } else bif decide (k=11) then { a with target:=⟨#[]⟩ } else bif decide (k=12) then { a with object:=⟨#[]⟩,text:=⟨#[]⟩ } else bif decide (k=13) then { a with object:=⟨#[]⟩ } else bif decide (k=14) then { bareA a with object:=⟨#[]⟩ } else bif decide (k=15) then { a with group:=⟨#[]⟩,to:=⟨none,0,0⟩,toL:=[] } else bif decide (k=16) then { a with scope:=0,group:=⟨#[]⟩,to:=⟨none,0,0⟩,toL:=[],epoch:=0,wraps:=⟨none,0,0⟩,wrapsL:=[] } else bif decide (k=17) then { a with text:=⟨#[]⟩,object:=⟨#[]⟩,target:=⟨#[]⟩ } else bif decide (k=18) then { a with n:=0,m:=0 } else bif decide (k=19) then { a with to:=⟨none,0,0⟩,toL:=[],wraps:=⟨none,0,0⟩,wrapsL:=[],n:=0,m:=0 } else bif decide (k=20) then { a with object:=⟨#[]⟩ } else bif decide (k=21) then { a with object:=⟨#[]⟩,text:=⟨#[]⟩ } else bif decide (k=22) then { a with object:=⟨#[]⟩,n:=0 } else bif decide (k=23) then { a with target:=⟨#[]⟩,text:=⟨#[]⟩,n:=0 } else a
def fitsR (a:ActD):Bool:=okR a.kind a&&zeroR (restA a.kind a)
theorem Ei (a:ActD):okR 0 a=((isPublicB a.n&&decide (0≤a.m)&&decide (a.m<20))&&isName a.text):=rfl
theorem vd (a:ActD):restA 0 a=({ a with text:=⟨#[]⟩,n:=0,m:=0 }:ActD):=rfl
theorem Eg (a:ActD):okR 1 a=(audienceB a):=rfl
theorem vc (a:ActD):restA 1 a=(bareA a:ActD):=rfl
theorem Ef (a:ActD):okR 2 a=(audienceB a&&decide ((a.object.size:Int)=32)):=rfl
theorem vb (a:ActD):restA 2 a=({ bareA a with object:=⟨#[]⟩ }:ActD):=rfl
theorem Ee (a:ActD):okR 3 a=(audienceB a&&decide ((a.object.size:Int)=32)):=rfl
theorem va (a:ActD):restA 3 a=({ bareA a with object:=⟨#[]⟩ }:ActD):=rfl
theorem Ed (a:ActD):okR 4 a=(decide ((a.object.size:Int)=32)):=rfl
theorem u9 (a:ActD):restA 4 a=({ a with object:=⟨#[]⟩ }:ActD):=rfl
theorem Ec (a:ActD):okR 5 a=(decide ((a.object.size:Int)=32)):=rfl
theorem u7 (a:ActD):restA 5 a=({ a with object:=⟨#[]⟩ }:ActD):=rfl
theorem Eb (a:ActD):okR 6 a=(decide ((a.object.size:Int)=32)):=rfl
theorem uZ (a:ActD):restA 6 a=({ a with object:=⟨#[]⟩ }:ActD):=rfl
theorem Ea (a:ActD):okR 7 a=(isId a.target):=rfl
theorem uY (a:ActD):restA 7 a=({ a with target:=⟨#[]⟩ }:ActD):=rfl
theorem D9 (a:ActD):okR 8 a=(isId a.target):=rfl
theorem uX (a:ActD):restA 8 a=({ a with target:=⟨#[]⟩ }:ActD):=rfl
theorem D8 (a:ActD):okR 9 a=(isId a.target):=rfl
theorem uW (a:ActD):restA 9 a=({ a with target:=⟨#[]⟩ }:ActD):=rfl
theorem AA (a:ActD):okR 10 a=(isId a.target):=rfl
theorem q9 (a:ActD):restA 10 a=({ a with target:=⟨#[]⟩ }:ActD):=rfl
theorem Az (a:ActD):okR 11 a=(isId a.target):=rfl
theorem q8 (a:ActD):restA 11 a=({ a with target:=⟨#[]⟩ }:ActD):=rfl
theorem Ay (a:ActD):okR 12 a=(decide ((a.object.size:Int)=32)&&decide ((a.text.size:Int)≤500)):=rfl
theorem qZ (a:ActD):restA 12 a=({ a with object:=⟨#[]⟩,text:=⟨#[]⟩ }:ActD):=rfl
theorem Ax (a:ActD):okR 13 a=(decide ((a.object.size:Int)=32)):=rfl
theorem qY (a:ActD):restA 13 a=({ a with object:=⟨#[]⟩ }:ActD):=rfl
theorem Av (a:ActD):okR 14 a=(audienceB a&&decide ((a.object.size:Int)=32)):=rfl
theorem qX (a:ActD):restA 14 a=({ bareA a with object:=⟨#[]⟩ }:ActD):=rfl
theorem Au (a:ActD):okR 15 a=(isIds a.toL&&isName a.group):=rfl
theorem qW (a:ActD):restA 15 a=({ a with group:=⟨#[]⟩,to:=⟨none,0,0⟩,toL:=[] }:ActD):=rfl
theorem As (a:ActD):okR 16 a=(isIds a.toL&&decide (1≤a.scope)&&decide (a.scope≤3)&&groupR a&&decide (0≤a.epoch)&&decide (a.epoch≤1073741824)&&wrappedB a):=rfl
theorem qV (a:ActD):restA 16 a=({ a with scope:=0,group:=⟨#[]⟩,to:=⟨none,0,0⟩,toL:=[],epoch:=0,wraps:=⟨none,0,0⟩,wrapsL:=[] }:ActD):=rfl
theorem Ar (a:ActD):okR 17 a=((bif !seqB a.object ⟨#[]⟩ then isName a.text&&decide ((a.object.size:Int)=32)&&seqB a.target ⟨#[]⟩ else isName a.text&&isId a.target)):=rfl
theorem qU (a:ActD):restA 17 a=({ a with text:=⟨#[]⟩,object:=⟨#[]⟩,target:=⟨#[]⟩ }:ActD):=rfl
theorem Aq (a:ActD):okR 18 a=((isPublicB a.n&&decide (0≤a.m)&&decide (a.m<20))):=rfl
theorem qT (a:ActD):restA 18 a=({ a with n:=0,m:=0 }:ActD):=rfl
theorem Ap (a:ActD):okR 19 a=(isIds a.toL&&decide (0<(a.to.n:Int))&&wrappedB a&&decide (1≤a.n)&&decide (a.n≤(a.to.n:Int))&&isPublicB a.m):=rfl
theorem qS (a:ActD):restA 19 a=({ a with to:=⟨none,0,0⟩,toL:=[],wraps:=⟨none,0,0⟩,wrapsL:=[],n:=0,m:=0 }:ActD):=rfl
theorem Ao (a:ActD):okR 20 a=(decide ((a.object.size:Int)=32)):=rfl
theorem qR (a:ActD):restA 20 a=({ a with object:=⟨#[]⟩ }:ActD):=rfl
theorem An (a:ActD):okR 21 a=(decide ((a.object.size:Int)=32)&&decide ((a.text.size:Int)≤500)):=rfl
theorem qQ (a:ActD):restA 21 a=({ a with object:=⟨#[]⟩,text:=⟨#[]⟩ }:ActD):=rfl
theorem Am (a:ActD):okR 22 a=(decide ((a.object.size:Int)=32)&&decide (0≤a.n)&&decide (a.n≤1)):=rfl
theorem qP (a:ActD):restA 22 a=({ a with object:=⟨#[]⟩,n:=0 }:ActD):=rfl
theorem Al (a:ActD):okR 23 a=(isId a.target&&decide ((a.text.size:Int)≤500)&&decide (0≤a.n)&&decide (a.n≤1099511627776)):=rfl
theorem qO (a:ActD):restA 23 a=({ a with target:=⟨#[]⟩,text:=⟨#[]⟩,n:=0 }:ActD):=rfl
theorem rp {a:ActD} (h:¬ (0≤a.kind∧a.kind≤23)):okR a.kind a=false:=by
 rw [okR]
 rw [Zn (show ¬ a.kind=0 by omega),ZB]
 rw [Zn (show ¬ a.kind=1 by omega),ZB]
 rw [Zn (show ¬ a.kind=2 by omega),ZB]
 rw [Zn (show ¬ a.kind=3 by omega),ZB]
 rw [Zn (show ¬ a.kind=4 by omega),ZB]
 rw [Zn (show ¬ a.kind=5 by omega),ZB]
 rw [Zn (show ¬ a.kind=6 by omega),ZB]
 rw [Zn (show ¬ a.kind=7 by omega),ZB]
 rw [Zn (show ¬ a.kind=8 by omega),ZB]
 rw [Zn (show ¬ a.kind=9 by omega),ZB]
 rw [Zn (show ¬ a.kind=10 by omega),ZB]
 rw [Zn (show ¬ a.kind=11 by omega),ZB]
 rw [Zn (show ¬ a.kind=12 by omega),ZB]
 rw [Zn (show ¬ a.kind=13 by omega),ZB]
 rw [Zn (show ¬ a.kind=14 by omega),ZB]
 rw [Zn (show ¬ a.kind=15 by omega),ZB]
 rw [Zn (show ¬ a.kind=16 by omega),ZB]
 rw [Zn (show ¬ a.kind=17 by omega),ZB]
 rw [Zn (show ¬ a.kind=18 by omega),ZB]
 rw [Zn (show ¬ a.kind=19 by omega),ZB]
 rw [Zn (show ¬ a.kind=20 by omega),ZB]
 rw [Zn (show ¬ a.kind=21 by omega),ZB]
 rw [Zn (show ¬ a.kind=22 by omega),ZB]
 rw [Zn (show ¬ a.kind=23 by omega),ZB]
theorem ou {k:Int} (h:0≤k∧k≤23):k=0∨k=1∨k=2∨k=3∨k=4∨k=5∨k=6∨k=7∨k=8∨k=9∨k=10∨k=11∨k=12∨k=13∨k=14∨k=15∨k=16∨k=17∨k=18∨k=19∨k=20∨k=21∨k=22∨k=23:=by omega
set_option maxRecDepth 20000 in
set_option maxHeartbeats 16000000 in
theorem tj (a:ActD) (hs:a.Str):Pu Tryz.prog 146 #[a.v] (ActD.at_ · a) (.bool (fitsR a)):=by
 refine ak (args:=[_]) _ Tryz.func146 rfl Tryz.ntmps146 rfl fun av bor w0=>?_
 have c1:=fd a.n
 have c2:=fd a.m
 have c3:=iw a.text hs.text
 have c4:=iw a.group hs.group
 have c5:=mu a hs
 have c6:=tq a
 have c7:=fV a.target hs.target
 have c8:=jT a.to a.toL hs.to
 have c9:=kr a hs
 have c10:=nv a
 by_cases hk:0≤a.kind∧a.kind≤23
 · rw [fitsR]
   rcases ou hk with h|h|h|h|h|h|h|h|h|h|h|h|h|h|h|h|h|h|h|h|h|h|h|h
   · rw [h,Ei,vd]
     have c0:=bc ({ a with text:=⟨#[]⟩,n:=0,m:=0 }:ActD)
     repeat' (first|refine aE (hab:=by omega) ?_|refine aD (hab:=by omega) ?_|apply bL|apply Qw|apply Qx|refine br ?_|refine aK ?_|refine cb ?_|refine cC ?_|refine aL ?_|refine aT ?_|refine aU ?_|refine co ?_|refine cr ?_|refine bV ?_|refine cP ?_|refine cD ?_|refine cJ ?_|refine bI ?_|refine bT ?_|refine bH ?_|refine cg ?_|refine bj ?_|refine bn ?_|refine be ?_|refine aZ fun _=>?_|refine ci fun _=>?_|refine bS ?_|refine aR ?_|refine QA ?_|refine QB ?_|apply Qz|apply Qy|apply cw_ret|apply cw_exit|refine sy_beql (h:=?_)|refine bQ ?_|refine bw ?_|refine bu ?_|(refine ab (hc:=c0) (hX:=fun _ _=>trivial) ?_)|(refine ab (hc:=c1) (hX:=fun _ _=>trivial) ?_)|(refine ab (hc:=c2) (hX:=fun _ _=>trivial) ?_)|(refine ab (hc:=c3) (hX:=fun _ _=>trivial) ?_)|(refine ab (hc:=c4) (hX:=fun _ _=>trivial) ?_)|(refine ab (hc:=c5) (hX:=fun w h=>h) ?_)|(refine ab (hc:=c6) (hX:=fun _ _=>trivial) ?_)|(refine ab (hc:=c7) (hX:=fun _ _=>trivial) ?_)|(refine ab (hc:=c8) (hX:=fun w h=>h.1) ?_)|(refine ab (hc:=c9) (hX:=fun _ _=>trivial) ?_)|(refine ab (hc:=c10) (hX:=fun w h=>h) ?_)|((fail_if_success (refine cv ?_));refine bp (ht:=?_) (hf:=?_);all_goals (intro hx_;first|have:=aM hx_|have:=aY hx_|skip))|(refine cw_cond (ht:=?_) (hf:=?_);all_goals (intro hx_;first|have:=aM hx_|have:=aY hx_|skip)))
     all_goals refine ad (ag rfl rfl) ?_
     all_goals first
      | rfl
      | (simp only [*,ZQ,ZO,ZC,ZB,ZE,ZD,ZH,ZG,ZK,ZI,ZP,ZJ,ZN,ZF];done)
      | (simp_all;done)
      | (simp_all;intros;omega)
      | skip
   · rw [h,Eg,vc]
     have c0:=bc (bareA a:ActD)
     repeat' (first|refine aE (hab:=by omega) ?_|refine aD (hab:=by omega) ?_|apply bL|apply Qw|apply Qx|refine br ?_|refine aK ?_|refine cb ?_|refine cC ?_|refine aL ?_|refine aT ?_|refine aU ?_|refine co ?_|refine cr ?_|refine bV ?_|refine cP ?_|refine cD ?_|refine cJ ?_|refine bI ?_|refine bT ?_|refine bH ?_|refine cg ?_|refine bj ?_|refine bn ?_|refine be ?_|refine aZ fun _=>?_|refine ci fun _=>?_|refine bS ?_|refine aR ?_|refine QA ?_|refine QB ?_|apply Qz|apply Qy|apply cw_ret|apply cw_exit|refine sy_beql (h:=?_)|refine bQ ?_|refine bw ?_|refine bu ?_|(refine ab (hc:=c0) (hX:=fun _ _=>trivial) ?_)|(refine ab (hc:=c1) (hX:=fun _ _=>trivial) ?_)|(refine ab (hc:=c2) (hX:=fun _ _=>trivial) ?_)|(refine ab (hc:=c3) (hX:=fun _ _=>trivial) ?_)|(refine ab (hc:=c4) (hX:=fun _ _=>trivial) ?_)|(refine ab (hc:=c5) (hX:=fun w h=>h) ?_)|(refine ab (hc:=c6) (hX:=fun _ _=>trivial) ?_)|(refine ab (hc:=c7) (hX:=fun _ _=>trivial) ?_)|(refine ab (hc:=c8) (hX:=fun w h=>h.1) ?_)|(refine ab (hc:=c9) (hX:=fun _ _=>trivial) ?_)|(refine ab (hc:=c10) (hX:=fun w h=>h) ?_)|((fail_if_success (refine cv ?_));refine bp (ht:=?_) (hf:=?_);all_goals (intro hx_;first|have:=aM hx_|have:=aY hx_|skip))|(refine cw_cond (ht:=?_) (hf:=?_);all_goals (intro hx_;first|have:=aM hx_|have:=aY hx_|skip)))
     all_goals refine ad (ag rfl rfl) ?_
     all_goals first
      | rfl
      | (simp only [*,ZQ,ZO,ZC,ZB,ZE,ZD,ZH,ZG,ZK,ZI,ZP,ZJ,ZN,ZF];done)
      | (simp_all;done)
      | (simp_all;intros;omega)
      | skip
   · rw [h,Ef,vb]
     have c0:=bc ({ bareA a with object:=⟨#[]⟩ }:ActD)
     repeat' (first|refine aE (hab:=by omega) ?_|refine aD (hab:=by omega) ?_|apply bL|apply Qw|apply Qx|refine br ?_|refine aK ?_|refine cb ?_|refine cC ?_|refine aL ?_|refine aT ?_|refine aU ?_|refine co ?_|refine cr ?_|refine bV ?_|refine cP ?_|refine cD ?_|refine cJ ?_|refine bI ?_|refine bT ?_|refine bH ?_|refine cg ?_|refine bj ?_|refine bn ?_|refine be ?_|refine aZ fun _=>?_|refine ci fun _=>?_|refine bS ?_|refine aR ?_|refine QA ?_|refine QB ?_|apply Qz|apply Qy|apply cw_ret|apply cw_exit|refine sy_beql (h:=?_)|refine bQ ?_|refine bw ?_|refine bu ?_|(refine ab (hc:=c0) (hX:=fun _ _=>trivial) ?_)|(refine ab (hc:=c1) (hX:=fun _ _=>trivial) ?_)|(refine ab (hc:=c2) (hX:=fun _ _=>trivial) ?_)|(refine ab (hc:=c3) (hX:=fun _ _=>trivial) ?_)|(refine ab (hc:=c4) (hX:=fun _ _=>trivial) ?_)|(refine ab (hc:=c5) (hX:=fun w h=>h) ?_)|(refine ab (hc:=c6) (hX:=fun _ _=>trivial) ?_)|(refine ab (hc:=c7) (hX:=fun _ _=>trivial) ?_)|(refine ab (hc:=c8) (hX:=fun w h=>h.1) ?_)|(refine ab (hc:=c9) (hX:=fun _ _=>trivial) ?_)|(refine ab (hc:=c10) (hX:=fun w h=>h) ?_)|((fail_if_success (refine cv ?_));refine bp (ht:=?_) (hf:=?_);all_goals (intro hx_;first|have:=aM hx_|have:=aY hx_|skip))|(refine cw_cond (ht:=?_) (hf:=?_);all_goals (intro hx_;first|have:=aM hx_|have:=aY hx_|skip)))
     all_goals refine ad (ag rfl rfl) ?_
     all_goals first
      | rfl
      | (simp only [*,ZQ,ZO,ZC,ZB,ZE,ZD,ZH,ZG,ZK,ZI,ZP,ZJ,ZN,ZF];done)
      | (simp_all;done)
      | (simp_all;intros;omega)
      | skip
   · rw [h,Ee,va]
     have c0:=bc ({ bareA a with object:=⟨#[]⟩ }:ActD)
     repeat' (first|refine aE (hab:=by omega) ?_|refine aD (hab:=by omega) ?_|apply bL|apply Qw|apply Qx|refine br ?_|refine aK ?_|refine cb ?_|refine cC ?_|refine aL ?_|refine aT ?_|refine aU ?_|refine co ?_|refine cr ?_|refine bV ?_|refine cP ?_|refine cD ?_|refine cJ ?_|refine bI ?_|refine bT ?_|refine bH ?_|refine cg ?_|refine bj ?_|refine bn ?_|refine be ?_|refine aZ fun _=>?_|refine ci fun _=>?_|refine bS ?_|refine aR ?_|refine QA ?_|refine QB ?_|apply Qz|apply Qy|apply cw_ret|apply cw_exit|refine sy_beql (h:=?_)|refine bQ ?_|refine bw ?_|refine bu ?_|(refine ab (hc:=c0) (hX:=fun _ _=>trivial) ?_)|(refine ab (hc:=c1) (hX:=fun _ _=>trivial) ?_)|(refine ab (hc:=c2) (hX:=fun _ _=>trivial) ?_)|(refine ab (hc:=c3) (hX:=fun _ _=>trivial) ?_)|(refine ab (hc:=c4) (hX:=fun _ _=>trivial) ?_)|(refine ab (hc:=c5) (hX:=fun w h=>h) ?_)|(refine ab (hc:=c6) (hX:=fun _ _=>trivial) ?_)|(refine ab (hc:=c7) (hX:=fun _ _=>trivial) ?_)|(refine ab (hc:=c8) (hX:=fun w h=>h.1) ?_)|(refine ab (hc:=c9) (hX:=fun _ _=>trivial) ?_)|(refine ab (hc:=c10) (hX:=fun w h=>h) ?_)|((fail_if_success (refine cv ?_));refine bp (ht:=?_) (hf:=?_);all_goals (intro hx_;first|have:=aM hx_|have:=aY hx_|skip))|(refine cw_cond (ht:=?_) (hf:=?_);all_goals (intro hx_;first|have:=aM hx_|have:=aY hx_|skip)))
     all_goals refine ad (ag rfl rfl) ?_
     all_goals first
      | rfl
      | (simp only [*,ZQ,ZO,ZC,ZB,ZE,ZD,ZH,ZG,ZK,ZI,ZP,ZJ,ZN,ZF];done)
      | (simp_all;done)
      | (simp_all;intros;omega)
      | skip
   · rw [h,Ed,u9]
     have c0:=bc ({ a with object:=⟨#[]⟩ }:ActD)
     repeat' (first|refine aE (hab:=by omega) ?_|refine aD (hab:=by omega) ?_|apply bL|apply Qw|apply Qx|refine br ?_|refine aK ?_|refine cb ?_|refine cC ?_|refine aL ?_|refine aT ?_|refine aU ?_|refine co ?_|refine cr ?_|refine bV ?_|refine cP ?_|refine cD ?_|refine cJ ?_|refine bI ?_|refine bT ?_|refine bH ?_|refine cg ?_|refine bj ?_|refine bn ?_|refine be ?_|refine aZ fun _=>?_|refine ci fun _=>?_|refine bS ?_|refine aR ?_|refine QA ?_|refine QB ?_|apply Qz|apply Qy|apply cw_ret|apply cw_exit|refine sy_beql (h:=?_)|refine bQ ?_|refine bw ?_|refine bu ?_|(refine ab (hc:=c0) (hX:=fun _ _=>trivial) ?_)|(refine ab (hc:=c1) (hX:=fun _ _=>trivial) ?_)|(refine ab (hc:=c2) (hX:=fun _ _=>trivial) ?_)|(refine ab (hc:=c3) (hX:=fun _ _=>trivial) ?_)|(refine ab (hc:=c4) (hX:=fun _ _=>trivial) ?_)|(refine ab (hc:=c5) (hX:=fun w h=>h) ?_)|(refine ab (hc:=c6) (hX:=fun _ _=>trivial) ?_)|(refine ab (hc:=c7) (hX:=fun _ _=>trivial) ?_)|(refine ab (hc:=c8) (hX:=fun w h=>h.1) ?_)|(refine ab (hc:=c9) (hX:=fun _ _=>trivial) ?_)|(refine ab (hc:=c10) (hX:=fun w h=>h) ?_)|((fail_if_success (refine cv ?_));refine bp (ht:=?_) (hf:=?_);all_goals (intro hx_;first|have:=aM hx_|have:=aY hx_|skip))|(refine cw_cond (ht:=?_) (hf:=?_);all_goals (intro hx_;first|have:=aM hx_|have:=aY hx_|skip)))
     all_goals refine ad (ag rfl rfl) ?_
     all_goals first
      | rfl
      | (simp only [*,ZQ,ZO,ZC,ZB,ZE,ZD,ZH,ZG,ZK,ZI,ZP,ZJ,ZN,ZF];done)
      | (simp_all;done)
      | (simp_all;intros;omega)
      | skip
   · rw [h,Ec,u7]
     have c0:=bc ({ a with object:=⟨#[]⟩ }:ActD)
     repeat' (first|refine aE (hab:=by omega) ?_|refine aD (hab:=by omega) ?_|apply bL|apply Qw|apply Qx|refine br ?_|refine aK ?_|refine cb ?_|refine cC ?_|refine aL ?_|refine aT ?_|refine aU ?_|refine co ?_|refine cr ?_|refine bV ?_|refine cP ?_|refine cD ?_|refine cJ ?_|refine bI ?_|refine bT ?_|refine bH ?_|refine cg ?_|refine bj ?_|refine bn ?_|refine be ?_|refine aZ fun _=>?_|refine ci fun _=>?_|refine bS ?_|refine aR ?_|refine QA ?_|refine QB ?_|apply Qz|apply Qy|apply cw_ret|apply cw_exit|refine sy_beql (h:=?_)|refine bQ ?_|refine bw ?_|refine bu ?_|(refine ab (hc:=c0) (hX:=fun _ _=>trivial) ?_)|(refine ab (hc:=c1) (hX:=fun _ _=>trivial) ?_)|(refine ab (hc:=c2) (hX:=fun _ _=>trivial) ?_)|(refine ab (hc:=c3) (hX:=fun _ _=>trivial) ?_)|(refine ab (hc:=c4) (hX:=fun _ _=>trivial) ?_)|(refine ab (hc:=c5) (hX:=fun w h=>h) ?_)|(refine ab (hc:=c6) (hX:=fun _ _=>trivial) ?_)|(refine ab (hc:=c7) (hX:=fun _ _=>trivial) ?_)|(refine ab (hc:=c8) (hX:=fun w h=>h.1) ?_)|(refine ab (hc:=c9) (hX:=fun _ _=>trivial) ?_)|(refine ab (hc:=c10) (hX:=fun w h=>h) ?_)|((fail_if_success (refine cv ?_));refine bp (ht:=?_) (hf:=?_);all_goals (intro hx_;first|have:=aM hx_|have:=aY hx_|skip))|(refine cw_cond (ht:=?_) (hf:=?_);all_goals (intro hx_;first|have:=aM hx_|have:=aY hx_|skip)))
     all_goals refine ad (ag rfl rfl) ?_
     all_goals first
      | rfl
      | (simp only [*,ZQ,ZO,ZC,ZB,ZE,ZD,ZH,ZG,ZK,ZI,ZP,ZJ,ZN,ZF];done)
      | (simp_all;done)
      | (simp_all;intros;omega)
      | skip
   · rw [h,Eb,uZ]
     have c0:=bc ({ a with object:=⟨#[]⟩ }:ActD)
     repeat' (first|refine aE (hab:=by omega) ?_|refine aD (hab:=by omega) ?_|apply bL|apply Qw|apply Qx|refine br ?_|refine aK ?_|refine cb ?_|refine cC ?_|refine aL ?_|refine aT ?_|refine aU ?_|refine co ?_|refine cr ?_|refine bV ?_|refine cP ?_|refine cD ?_|refine cJ ?_|refine bI ?_|refine bT ?_|refine bH ?_|refine cg ?_|refine bj ?_|refine bn ?_|refine be ?_|refine aZ fun _=>?_|refine ci fun _=>?_|refine bS ?_|refine aR ?_|refine QA ?_|refine QB ?_|apply Qz|apply Qy|apply cw_ret|apply cw_exit|refine sy_beql (h:=?_)|refine bQ ?_|refine bw ?_|refine bu ?_|(refine ab (hc:=c0) (hX:=fun _ _=>trivial) ?_)|(refine ab (hc:=c1) (hX:=fun _ _=>trivial) ?_)|(refine ab (hc:=c2) (hX:=fun _ _=>trivial) ?_)|(refine ab (hc:=c3) (hX:=fun _ _=>trivial) ?_)|(refine ab (hc:=c4) (hX:=fun _ _=>trivial) ?_)|(refine ab (hc:=c5) (hX:=fun w h=>h) ?_)|(refine ab (hc:=c6) (hX:=fun _ _=>trivial) ?_)|(refine ab (hc:=c7) (hX:=fun _ _=>trivial) ?_)|(refine ab (hc:=c8) (hX:=fun w h=>h.1) ?_)|(refine ab (hc:=c9) (hX:=fun _ _=>trivial) ?_)|(refine ab (hc:=c10) (hX:=fun w h=>h) ?_)|((fail_if_success (refine cv ?_));refine bp (ht:=?_) (hf:=?_);all_goals (intro hx_;first|have:=aM hx_|have:=aY hx_|skip))|(refine cw_cond (ht:=?_) (hf:=?_);all_goals (intro hx_;first|have:=aM hx_|have:=aY hx_|skip)))
     all_goals refine ad (ag rfl rfl) ?_
     all_goals first
      | rfl
      | (simp only [*,ZQ,ZO,ZC,ZB,ZE,ZD,ZH,ZG,ZK,ZI,ZP,ZJ,ZN,ZF];done)
      | (simp_all;done)
      | (simp_all;intros;omega)
      | skip
   · rw [h,Ea,uY]
     have c0:=bc ({ a with target:=⟨#[]⟩ }:ActD)
     repeat' (first|refine aE (hab:=by omega) ?_|refine aD (hab:=by omega) ?_|apply bL|apply Qw|apply Qx|refine br ?_|refine aK ?_|refine cb ?_|refine cC ?_|refine aL ?_|refine aT ?_|refine aU ?_|refine co ?_|refine cr ?_|refine bV ?_|refine cP ?_|refine cD ?_|refine cJ ?_|refine bI ?_|refine bT ?_|refine bH ?_|refine cg ?_|refine bj ?_|refine bn ?_|refine be ?_|refine aZ fun _=>?_|refine ci fun _=>?_|refine bS ?_|refine aR ?_|refine QA ?_|refine QB ?_|apply Qz|apply Qy|apply cw_ret|apply cw_exit|refine sy_beql (h:=?_)|refine bQ ?_|refine bw ?_|refine bu ?_|(refine ab (hc:=c0) (hX:=fun _ _=>trivial) ?_)|(refine ab (hc:=c1) (hX:=fun _ _=>trivial) ?_)|(refine ab (hc:=c2) (hX:=fun _ _=>trivial) ?_)|(refine ab (hc:=c3) (hX:=fun _ _=>trivial) ?_)|(refine ab (hc:=c4) (hX:=fun _ _=>trivial) ?_)|(refine ab (hc:=c5) (hX:=fun w h=>h) ?_)|(refine ab (hc:=c6) (hX:=fun _ _=>trivial) ?_)|(refine ab (hc:=c7) (hX:=fun _ _=>trivial) ?_)|(refine ab (hc:=c8) (hX:=fun w h=>h.1) ?_)|(refine ab (hc:=c9) (hX:=fun _ _=>trivial) ?_)|(refine ab (hc:=c10) (hX:=fun w h=>h) ?_)|((fail_if_success (refine cv ?_));refine bp (ht:=?_) (hf:=?_);all_goals (intro hx_;first|have:=aM hx_|have:=aY hx_|skip))|(refine cw_cond (ht:=?_) (hf:=?_);all_goals (intro hx_;first|have:=aM hx_|have:=aY hx_|skip)))
     all_goals refine ad (ag rfl rfl) ?_
     all_goals first
      | rfl
      | (simp only [*,ZQ,ZO,ZC,ZB,ZE,ZD,ZH,ZG,ZK,ZI,ZP,ZJ,ZN,ZF];done)
      | (simp_all;done)
      | (simp_all;intros;omega)
      | skip
   · rw [h,D9,uX]
     have c0:=bc ({ a with target:=⟨#[]⟩ }:ActD)
     repeat' (first|refine aE (hab:=by omega) ?_|refine aD (hab:=by omega) ?_|apply bL|apply Qw|apply Qx|refine br ?_|refine aK ?_|refine cb ?_|refine cC ?_|refine aL ?_|refine aT ?_|refine aU ?_|refine co ?_|refine cr ?_|refine bV ?_|refine cP ?_|refine cD ?_|refine cJ ?_|refine bI ?_|refine bT ?_|refine bH ?_|refine cg ?_|refine bj ?_|refine bn ?_|refine be ?_|refine aZ fun _=>?_|refine ci fun _=>?_|refine bS ?_|refine aR ?_|refine QA ?_|refine QB ?_|apply Qz|apply Qy|apply cw_ret|apply cw_exit|refine sy_beql (h:=?_)|refine bQ ?_|refine bw ?_|refine bu ?_|(refine ab (hc:=c0) (hX:=fun _ _=>trivial) ?_)|(refine ab (hc:=c1) (hX:=fun _ _=>trivial) ?_)|(refine ab (hc:=c2) (hX:=fun _ _=>trivial) ?_)|(refine ab (hc:=c3) (hX:=fun _ _=>trivial) ?_)|(refine ab (hc:=c4) (hX:=fun _ _=>trivial) ?_)|(refine ab (hc:=c5) (hX:=fun w h=>h) ?_)|(refine ab (hc:=c6) (hX:=fun _ _=>trivial) ?_)|(refine ab (hc:=c7) (hX:=fun _ _=>trivial) ?_)|(refine ab (hc:=c8) (hX:=fun w h=>h.1) ?_)|(refine ab (hc:=c9) (hX:=fun _ _=>trivial) ?_)|(refine ab (hc:=c10) (hX:=fun w h=>h) ?_)|((fail_if_success (refine cv ?_));refine bp (ht:=?_) (hf:=?_);all_goals (intro hx_;first|have:=aM hx_|have:=aY hx_|skip))|(refine cw_cond (ht:=?_) (hf:=?_);all_goals (intro hx_;first|have:=aM hx_|have:=aY hx_|skip)))
     all_goals refine ad (ag rfl rfl) ?_
     all_goals first
      | rfl
      | (simp only [*,ZQ,ZO,ZC,ZB,ZE,ZD,ZH,ZG,ZK,ZI,ZP,ZJ,ZN,ZF];done)
      | (simp_all;done)
      | (simp_all;intros;omega)
      | skip
   · rw [h,D8,uW]
     have c0:=bc ({ a with target:=⟨#[]⟩ }:ActD)
     repeat' (first|refine aE (hab:=by omega) ?_|refine aD (hab:=by omega) ?_|apply bL|apply Qw|apply Qx|refine br ?_|refine aK ?_|refine cb ?_|refine cC ?_|refine aL ?_|refine aT ?_|refine aU ?_|refine co ?_|refine cr ?_|refine bV ?_|refine cP ?_|refine cD ?_|refine cJ ?_|refine bI ?_|refine bT ?_|refine bH ?_|refine cg ?_|refine bj ?_|refine bn ?_|refine be ?_|refine aZ fun _=>?_|refine ci fun _=>?_|refine bS ?_|refine aR ?_|refine QA ?_|refine QB ?_|apply Qz|apply Qy|apply cw_ret|apply cw_exit|refine sy_beql (h:=?_)|refine bQ ?_|refine bw ?_|refine bu ?_|(refine ab (hc:=c0) (hX:=fun _ _=>trivial) ?_)|(refine ab (hc:=c1) (hX:=fun _ _=>trivial) ?_)|(refine ab (hc:=c2) (hX:=fun _ _=>trivial) ?_)|(refine ab (hc:=c3) (hX:=fun _ _=>trivial) ?_)|(refine ab (hc:=c4) (hX:=fun _ _=>trivial) ?_)|(refine ab (hc:=c5) (hX:=fun w h=>h) ?_)|(refine ab (hc:=c6) (hX:=fun _ _=>trivial) ?_)|(refine ab (hc:=c7) (hX:=fun _ _=>trivial) ?_)|(refine ab (hc:=c8) (hX:=fun w h=>h.1) ?_)|(refine ab (hc:=c9) (hX:=fun _ _=>trivial) ?_)|(refine ab (hc:=c10) (hX:=fun w h=>h) ?_)|((fail_if_success (refine cv ?_));refine bp (ht:=?_) (hf:=?_);all_goals (intro hx_;first|have:=aM hx_|have:=aY hx_|skip))|(refine cw_cond (ht:=?_) (hf:=?_);all_goals (intro hx_;first|have:=aM hx_|have:=aY hx_|skip)))
     all_goals refine ad (ag rfl rfl) ?_
     all_goals first
      | rfl
      | (simp only [*,ZQ,ZO,ZC,ZB,ZE,ZD,ZH,ZG,ZK,ZI,ZP,ZJ,ZN,ZF];done)
      | (simp_all;done)
      | (simp_all;intros;omega)
      | skip
   · rw [h,AA,q9]
     have c0:=bc ({ a with target:=⟨#[]⟩ }:ActD)
     repeat' (first|refine aE (hab:=by omega) ?_|refine aD (hab:=by omega) ?_|apply bL|apply Qw|apply Qx|refine br ?_|refine aK ?_|refine cb ?_|refine cC ?_|refine aL ?_|refine aT ?_|refine aU ?_|refine co ?_|refine cr ?_|refine bV ?_|refine cP ?_|refine cD ?_|refine cJ ?_|refine bI ?_|refine bT ?_|refine bH ?_|refine cg ?_|refine bj ?_|refine bn ?_|refine be ?_|refine aZ fun _=>?_|refine ci fun _=>?_|refine bS ?_|refine aR ?_|refine QA ?_|refine QB ?_|apply Qz|apply Qy|apply cw_ret|apply cw_exit|refine sy_beql (h:=?_)|refine bQ ?_|refine bw ?_|refine bu ?_|(refine ab (hc:=c0) (hX:=fun _ _=>trivial) ?_)|(refine ab (hc:=c1) (hX:=fun _ _=>trivial) ?_)|(refine ab (hc:=c2) (hX:=fun _ _=>trivial) ?_)|(refine ab (hc:=c3) (hX:=fun _ _=>trivial) ?_)|(refine ab (hc:=c4) (hX:=fun _ _=>trivial) ?_)|(refine ab (hc:=c5) (hX:=fun w h=>h) ?_)|(refine ab (hc:=c6) (hX:=fun _ _=>trivial) ?_)|(refine ab (hc:=c7) (hX:=fun _ _=>trivial) ?_)|(refine ab (hc:=c8) (hX:=fun w h=>h.1) ?_)|(refine ab (hc:=c9) (hX:=fun _ _=>trivial) ?_)|(refine ab (hc:=c10) (hX:=fun w h=>h) ?_)|((fail_if_success (refine cv ?_));refine bp (ht:=?_) (hf:=?_);all_goals (intro hx_;first|have:=aM hx_|have:=aY hx_|skip))|(refine cw_cond (ht:=?_) (hf:=?_);all_goals (intro hx_;first|have:=aM hx_|have:=aY hx_|skip)))
     all_goals refine ad (ag rfl rfl) ?_
     all_goals first
      | rfl
      | (simp only [*,ZQ,ZO,ZC,ZB,ZE,ZD,ZH,ZG,ZK,ZI,ZP,ZJ,ZN,ZF];done)
      | (simp_all;done)
      | (simp_all;intros;omega)
      | skip
   · rw [h,Az,q8]
     have c0:=bc ({ a with target:=⟨#[]⟩ }:ActD)
     repeat' (first|refine aE (hab:=by omega) ?_|refine aD (hab:=by omega) ?_|apply bL|apply Qw|apply Qx|refine br ?_|refine aK ?_|refine cb ?_|refine cC ?_|refine aL ?_|refine aT ?_|refine aU ?_|refine co ?_|refine cr ?_|refine bV ?_|refine cP ?_|refine cD ?_|refine cJ ?_|refine bI ?_|refine bT ?_|refine bH ?_|refine cg ?_|refine bj ?_|refine bn ?_|refine be ?_|refine aZ fun _=>?_|refine ci fun _=>?_|refine bS ?_|refine aR ?_|refine QA ?_|refine QB ?_|apply Qz|apply Qy|apply cw_ret|apply cw_exit|refine sy_beql (h:=?_)|refine bQ ?_|refine bw ?_|refine bu ?_|(refine ab (hc:=c0) (hX:=fun _ _=>trivial) ?_)|(refine ab (hc:=c1) (hX:=fun _ _=>trivial) ?_)|(refine ab (hc:=c2) (hX:=fun _ _=>trivial) ?_)|(refine ab (hc:=c3) (hX:=fun _ _=>trivial) ?_)|(refine ab (hc:=c4) (hX:=fun _ _=>trivial) ?_)|(refine ab (hc:=c5) (hX:=fun w h=>h) ?_)|(refine ab (hc:=c6) (hX:=fun _ _=>trivial) ?_)|(refine ab (hc:=c7) (hX:=fun _ _=>trivial) ?_)|(refine ab (hc:=c8) (hX:=fun w h=>h.1) ?_)|(refine ab (hc:=c9) (hX:=fun _ _=>trivial) ?_)|(refine ab (hc:=c10) (hX:=fun w h=>h) ?_)|((fail_if_success (refine cv ?_));refine bp (ht:=?_) (hf:=?_);all_goals (intro hx_;first|have:=aM hx_|have:=aY hx_|skip))|(refine cw_cond (ht:=?_) (hf:=?_);all_goals (intro hx_;first|have:=aM hx_|have:=aY hx_|skip)))
     all_goals refine ad (ag rfl rfl) ?_
     all_goals first
      | rfl
      | (simp only [*,ZQ,ZO,ZC,ZB,ZE,ZD,ZH,ZG,ZK,ZI,ZP,ZJ,ZN,ZF];done)
      | (simp_all;done)
      | (simp_all;intros;omega)
      | skip
   · rw [h,Ay,qZ]
     have c0:=bc ({ a with object:=⟨#[]⟩,text:=⟨#[]⟩ }:ActD)
     repeat' (first|refine aE (hab:=by omega) ?_|refine aD (hab:=by omega) ?_|apply bL|apply Qw|apply Qx|refine br ?_|refine aK ?_|refine cb ?_|refine cC ?_|refine aL ?_|refine aT ?_|refine aU ?_|refine co ?_|refine cr ?_|refine bV ?_|refine cP ?_|refine cD ?_|refine cJ ?_|refine bI ?_|refine bT ?_|refine bH ?_|refine cg ?_|refine bj ?_|refine bn ?_|refine be ?_|refine aZ fun _=>?_|refine ci fun _=>?_|refine bS ?_|refine aR ?_|refine QA ?_|refine QB ?_|apply Qz|apply Qy|apply cw_ret|apply cw_exit|refine sy_beql (h:=?_)|refine bQ ?_|refine bw ?_|refine bu ?_|(refine ab (hc:=c0) (hX:=fun _ _=>trivial) ?_)|(refine ab (hc:=c1) (hX:=fun _ _=>trivial) ?_)|(refine ab (hc:=c2) (hX:=fun _ _=>trivial) ?_)|(refine ab (hc:=c3) (hX:=fun _ _=>trivial) ?_)|(refine ab (hc:=c4) (hX:=fun _ _=>trivial) ?_)|(refine ab (hc:=c5) (hX:=fun w h=>h) ?_)|(refine ab (hc:=c6) (hX:=fun _ _=>trivial) ?_)|(refine ab (hc:=c7) (hX:=fun _ _=>trivial) ?_)|(refine ab (hc:=c8) (hX:=fun w h=>h.1) ?_)|(refine ab (hc:=c9) (hX:=fun _ _=>trivial) ?_)|(refine ab (hc:=c10) (hX:=fun w h=>h) ?_)|((fail_if_success (refine cv ?_));refine bp (ht:=?_) (hf:=?_);all_goals (intro hx_;first|have:=aM hx_|have:=aY hx_|skip))|(refine cw_cond (ht:=?_) (hf:=?_);all_goals (intro hx_;first|have:=aM hx_|have:=aY hx_|skip)))
     all_goals refine ad (ag rfl rfl) ?_
     all_goals first
      | rfl
      | (simp only [*,ZQ,ZO,ZC,ZB,ZE,ZD,ZH,ZG,ZK,ZI,ZP,ZJ,ZN,ZF];done)
      | (simp_all;done)
      | (simp_all;intros;omega)
      | skip
   · rw [h,Ax,qY]
     have c0:=bc ({ a with object:=⟨#[]⟩ }:ActD)
     repeat' (first|refine aE (hab:=by omega) ?_|refine aD (hab:=by omega) ?_|apply bL|apply Qw|apply Qx|refine br ?_|refine aK ?_|refine cb ?_|refine cC ?_|refine aL ?_|refine aT ?_|refine aU ?_|refine co ?_|refine cr ?_|refine bV ?_|refine cP ?_|refine cD ?_|refine cJ ?_|refine bI ?_|refine bT ?_|refine bH ?_|refine cg ?_|refine bj ?_|refine bn ?_|refine be ?_|refine aZ fun _=>?_|refine ci fun _=>?_|refine bS ?_|refine aR ?_|refine QA ?_|refine QB ?_|apply Qz|apply Qy|apply cw_ret|apply cw_exit|refine sy_beql (h:=?_)|refine bQ ?_|refine bw ?_|refine bu ?_|(refine ab (hc:=c0) (hX:=fun _ _=>trivial) ?_)|(refine ab (hc:=c1) (hX:=fun _ _=>trivial) ?_)|(refine ab (hc:=c2) (hX:=fun _ _=>trivial) ?_)|(refine ab (hc:=c3) (hX:=fun _ _=>trivial) ?_)|(refine ab (hc:=c4) (hX:=fun _ _=>trivial) ?_)|(refine ab (hc:=c5) (hX:=fun w h=>h) ?_)|(refine ab (hc:=c6) (hX:=fun _ _=>trivial) ?_)|(refine ab (hc:=c7) (hX:=fun _ _=>trivial) ?_)|(refine ab (hc:=c8) (hX:=fun w h=>h.1) ?_)|(refine ab (hc:=c9) (hX:=fun _ _=>trivial) ?_)|(refine ab (hc:=c10) (hX:=fun w h=>h) ?_)|((fail_if_success (refine cv ?_));refine bp (ht:=?_) (hf:=?_);all_goals (intro hx_;first|have:=aM hx_|have:=aY hx_|skip))|(refine cw_cond (ht:=?_) (hf:=?_);all_goals (intro hx_;first|have:=aM hx_|have:=aY hx_|skip)))
     all_goals refine ad (ag rfl rfl) ?_
     all_goals first
      | rfl
      | (simp only [*,ZQ,ZO,ZC,ZB,ZE,ZD,ZH,ZG,ZK,ZI,ZP,ZJ,ZN,ZF];done)
      | (simp_all;done)
      | (simp_all;intros;omega)
      | skip
   · rw [h,Av,qX]
     have c0:=bc ({ bareA a with object:=⟨#[]⟩ }:ActD)
     repeat' (first|refine aE (hab:=by omega) ?_|refine aD (hab:=by omega) ?_|apply bL|apply Qw|apply Qx|refine br ?_|refine aK ?_|refine cb ?_|refine cC ?_|refine aL ?_|refine aT ?_|refine aU ?_|refine co ?_|refine cr ?_|refine bV ?_|refine cP ?_|refine cD ?_|refine cJ ?_|refine bI ?_|refine bT ?_|refine bH ?_|refine cg ?_|refine bj ?_|refine bn ?_|refine be ?_|refine aZ fun _=>?_|refine ci fun _=>?_|refine bS ?_|refine aR ?_|refine QA ?_|refine QB ?_|apply Qz|apply Qy|apply cw_ret|apply cw_exit|refine sy_beql (h:=?_)|refine bQ ?_|refine bw ?_|refine bu ?_|(refine ab (hc:=c0) (hX:=fun _ _=>trivial) ?_)|(refine ab (hc:=c1) (hX:=fun _ _=>trivial) ?_)|(refine ab (hc:=c2) (hX:=fun _ _=>trivial) ?_)|(refine ab (hc:=c3) (hX:=fun _ _=>trivial) ?_)|(refine ab (hc:=c4) (hX:=fun _ _=>trivial) ?_)|(refine ab (hc:=c5) (hX:=fun w h=>h) ?_)|(refine ab (hc:=c6) (hX:=fun _ _=>trivial) ?_)|(refine ab (hc:=c7) (hX:=fun _ _=>trivial) ?_)|(refine ab (hc:=c8) (hX:=fun w h=>h.1) ?_)|(refine ab (hc:=c9) (hX:=fun _ _=>trivial) ?_)|(refine ab (hc:=c10) (hX:=fun w h=>h) ?_)|((fail_if_success (refine cv ?_));refine bp (ht:=?_) (hf:=?_);all_goals (intro hx_;first|have:=aM hx_|have:=aY hx_|skip))|(refine cw_cond (ht:=?_) (hf:=?_);all_goals (intro hx_;first|have:=aM hx_|have:=aY hx_|skip)))
     all_goals refine ad (ag rfl rfl) ?_
     all_goals first
      | rfl
      | (simp only [*,ZQ,ZO,ZC,ZB,ZE,ZD,ZH,ZG,ZK,ZI,ZP,ZJ,ZN,ZF];done)
      | (simp_all;done)
      | (simp_all;intros;omega)
      | skip
   · rw [h,Au,qW]
     have c0:=bc ({ a with group:=⟨#[]⟩,to:=⟨none,0,0⟩,toL:=[] }:ActD)
     repeat' (first|refine aE (hab:=by omega) ?_|refine aD (hab:=by omega) ?_|apply bL|apply Qw|apply Qx|refine br ?_|refine aK ?_|refine cb ?_|refine cC ?_|refine aL ?_|refine aT ?_|refine aU ?_|refine co ?_|refine cr ?_|refine bV ?_|refine cP ?_|refine cD ?_|refine cJ ?_|refine bI ?_|refine bT ?_|refine bH ?_|refine cg ?_|refine bj ?_|refine bn ?_|refine be ?_|refine aZ fun _=>?_|refine ci fun _=>?_|refine bS ?_|refine aR ?_|refine QA ?_|refine QB ?_|apply Qz|apply Qy|apply cw_ret|apply cw_exit|refine sy_beql (h:=?_)|refine bQ ?_|refine bw ?_|refine bu ?_|(refine ab (hc:=c0) (hX:=fun _ _=>trivial) ?_)|(refine ab (hc:=c1) (hX:=fun _ _=>trivial) ?_)|(refine ab (hc:=c2) (hX:=fun _ _=>trivial) ?_)|(refine ab (hc:=c3) (hX:=fun _ _=>trivial) ?_)|(refine ab (hc:=c4) (hX:=fun _ _=>trivial) ?_)|(refine ab (hc:=c5) (hX:=fun w h=>h) ?_)|(refine ab (hc:=c6) (hX:=fun _ _=>trivial) ?_)|(refine ab (hc:=c7) (hX:=fun _ _=>trivial) ?_)|(refine ab (hc:=c8) (hX:=fun w h=>h.1) ?_)|(refine ab (hc:=c9) (hX:=fun _ _=>trivial) ?_)|(refine ab (hc:=c10) (hX:=fun w h=>h) ?_)|((fail_if_success (refine cv ?_));refine bp (ht:=?_) (hf:=?_);all_goals (intro hx_;first|have:=aM hx_|have:=aY hx_|skip))|(refine cw_cond (ht:=?_) (hf:=?_);all_goals (intro hx_;first|have:=aM hx_|have:=aY hx_|skip)))
     all_goals refine ad (ag rfl rfl) ?_
     all_goals first
      | rfl
      | (simp only [*,ZQ,ZO,ZC,ZB,ZE,ZD,ZH,ZG,ZK,ZI,ZP,ZJ,ZN,ZF];done)
      | (simp_all;done)
      | (simp_all;intros;omega)
      | skip
   · rw [h,As,qV]
     have c0:=bc ({ a with scope:=0,group:=⟨#[]⟩,to:=⟨none,0,0⟩,toL:=[],epoch:=0,wraps:=⟨none,0,0⟩,wrapsL:=[] }:ActD)
     repeat' (first|refine aE (hab:=by omega) ?_|refine aD (hab:=by omega) ?_|apply bL|apply Qw|apply Qx|refine br ?_|refine aK ?_|refine cb ?_|refine cC ?_|refine aL ?_|refine aT ?_|refine aU ?_|refine co ?_|refine cr ?_|refine bV ?_|refine cP ?_|refine cD ?_|refine cJ ?_|refine bI ?_|refine bT ?_|refine bH ?_|refine cg ?_|refine bj ?_|refine bn ?_|refine be ?_|refine aZ fun _=>?_|refine ci fun _=>?_|refine bS ?_|refine aR ?_|refine QA ?_|refine QB ?_|apply Qz|apply Qy|apply cw_ret|apply cw_exit|refine sy_beql (h:=?_)|refine bQ ?_|refine bw ?_|refine bu ?_|(refine ab (hc:=c0) (hX:=fun _ _=>trivial) ?_)|(refine ab (hc:=c1) (hX:=fun _ _=>trivial) ?_)|(refine ab (hc:=c2) (hX:=fun _ _=>trivial) ?_)|(refine ab (hc:=c3) (hX:=fun _ _=>trivial) ?_)|(refine ab (hc:=c4) (hX:=fun _ _=>trivial) ?_)|(refine ab (hc:=c5) (hX:=fun w h=>h) ?_)|(refine ab (hc:=c6) (hX:=fun _ _=>trivial) ?_)|(refine ab (hc:=c7) (hX:=fun _ _=>trivial) ?_)|(refine ab (hc:=c8) (hX:=fun w h=>h.1) ?_)|(refine ab (hc:=c9) (hX:=fun _ _=>trivial) ?_)|(refine ab (hc:=c10) (hX:=fun w h=>h) ?_)|((fail_if_success (refine cv ?_));refine bp (ht:=?_) (hf:=?_);all_goals (intro hx_;first|have:=aM hx_|have:=aY hx_|skip))|(refine cw_cond (ht:=?_) (hf:=?_);all_goals (intro hx_;first|have:=aM hx_|have:=aY hx_|skip)))
     all_goals refine ad (ag rfl rfl) ?_
     all_goals first
      | rfl
      | (simp only [*,ZQ,ZO,ZC,ZB,ZE,ZD,ZH,ZG,ZK,ZI,ZP,ZJ,ZN,ZF];done)
      | (simp_all;done)
      | (simp_all;intros;omega)
      | skip
   · rw [h,Ar,qU]
     have c0:=bc ({ a with text:=⟨#[]⟩,object:=⟨#[]⟩,target:=⟨#[]⟩ }:ActD)
     repeat' (first|refine aE (hab:=by omega) ?_|refine aD (hab:=by omega) ?_|apply bL|apply Qw|apply Qx|refine br ?_|refine aK ?_|refine cb ?_|refine cC ?_|refine aL ?_|refine aT ?_|refine aU ?_|refine co ?_|refine cr ?_|refine bV ?_|refine cP ?_|refine cD ?_|refine cJ ?_|refine bI ?_|refine bT ?_|refine bH ?_|refine cg ?_|refine bj ?_|refine bn ?_|refine be ?_|refine aZ fun _=>?_|refine ci fun _=>?_|refine bS ?_|refine aR ?_|refine QA ?_|refine QB ?_|apply Qz|apply Qy|apply cw_ret|apply cw_exit|refine sy_beql (h:=?_)|refine bQ ?_|refine bw ?_|refine bu ?_|(refine ab (hc:=c0) (hX:=fun _ _=>trivial) ?_)|(refine ab (hc:=c1) (hX:=fun _ _=>trivial) ?_)|(refine ab (hc:=c2) (hX:=fun _ _=>trivial) ?_)|(refine ab (hc:=c3) (hX:=fun _ _=>trivial) ?_)|(refine ab (hc:=c4) (hX:=fun _ _=>trivial) ?_)|(refine ab (hc:=c5) (hX:=fun w h=>h) ?_)|(refine ab (hc:=c6) (hX:=fun _ _=>trivial) ?_)|(refine ab (hc:=c7) (hX:=fun _ _=>trivial) ?_)|(refine ab (hc:=c8) (hX:=fun w h=>h.1) ?_)|(refine ab (hc:=c9) (hX:=fun _ _=>trivial) ?_)|(refine ab (hc:=c10) (hX:=fun w h=>h) ?_)|((fail_if_success (refine cv ?_));refine bp (ht:=?_) (hf:=?_);all_goals (intro hx_;first|have:=aM hx_|have:=aY hx_|skip))|(refine cw_cond (ht:=?_) (hf:=?_);all_goals (intro hx_;first|have:=aM hx_|have:=aY hx_|skip)))
     all_goals refine ad (ag rfl rfl) ?_
     all_goals first
      | rfl
      | (simp only [*,ZQ,ZO,ZC,ZB,ZE,ZD,ZH,ZG,ZK,ZI,ZP,ZJ,ZN,ZF];done)
      | (simp_all;done)
      | (simp_all;intros;omega)
      | skip
   · rw [h,Aq,qT]
     have c0:=bc ({ a with n:=0,m:=0 }:ActD)
     repeat' (first|refine aE (hab:=by omega) ?_|refine aD (hab:=by omega) ?_|apply bL|apply Qw|apply Qx|refine br ?_|refine aK ?_|refine cb ?_|refine cC ?_|refine aL ?_|refine aT ?_|refine aU ?_|refine co ?_|refine cr ?_|refine bV ?_|refine cP ?_|refine cD ?_|refine cJ ?_|refine bI ?_|refine bT ?_|refine bH ?_|refine cg ?_|refine bj ?_|refine bn ?_|refine be ?_|refine aZ fun _=>?_|refine ci fun _=>?_|refine bS ?_|refine aR ?_|refine QA ?_|refine QB ?_|apply Qz|apply Qy|apply cw_ret|apply cw_exit|refine sy_beql (h:=?_)|refine bQ ?_|refine bw ?_|refine bu ?_|(refine ab (hc:=c0) (hX:=fun _ _=>trivial) ?_)|(refine ab (hc:=c1) (hX:=fun _ _=>trivial) ?_)|(refine ab (hc:=c2) (hX:=fun _ _=>trivial) ?_)|(refine ab (hc:=c3) (hX:=fun _ _=>trivial) ?_)|(refine ab (hc:=c4) (hX:=fun _ _=>trivial) ?_)|(refine ab (hc:=c5) (hX:=fun w h=>h) ?_)|(refine ab (hc:=c6) (hX:=fun _ _=>trivial) ?_)|(refine ab (hc:=c7) (hX:=fun _ _=>trivial) ?_)|(refine ab (hc:=c8) (hX:=fun w h=>h.1) ?_)|(refine ab (hc:=c9) (hX:=fun _ _=>trivial) ?_)|(refine ab (hc:=c10) (hX:=fun w h=>h) ?_)|((fail_if_success (refine cv ?_));refine bp (ht:=?_) (hf:=?_);all_goals (intro hx_;first|have:=aM hx_|have:=aY hx_|skip))|(refine cw_cond (ht:=?_) (hf:=?_);all_goals (intro hx_;first|have:=aM hx_|have:=aY hx_|skip)))
     all_goals refine ad (ag rfl rfl) ?_
     all_goals first
      | rfl
      | (simp only [*,ZQ,ZO,ZC,ZB,ZE,ZD,ZH,ZG,ZK,ZI,ZP,ZJ,ZN,ZF];done)
      | (simp_all;done)
      | (simp_all;intros;omega)
      | skip
   · rw [h,Ap,qS]
     have c0:=bc ({ a with to:=⟨none,0,0⟩,toL:=[],wraps:=⟨none,0,0⟩,wrapsL:=[],n:=0,m:=0 }:ActD)
     repeat' (first|refine aE (hab:=by omega) ?_|refine aD (hab:=by omega) ?_|apply bL|apply Qw|apply Qx|refine br ?_|refine aK ?_|refine cb ?_|refine cC ?_|refine aL ?_|refine aT ?_|refine aU ?_|refine co ?_|refine cr ?_|refine bV ?_|refine cP ?_|refine cD ?_|refine cJ ?_|refine bI ?_|refine bT ?_|refine bH ?_|refine cg ?_|refine bj ?_|refine bn ?_|refine be ?_|refine aZ fun _=>?_|refine ci fun _=>?_|refine bS ?_|refine aR ?_|refine QA ?_|refine QB ?_|apply Qz|apply Qy|apply cw_ret|apply cw_exit|refine sy_beql (h:=?_)|refine bQ ?_|refine bw ?_|refine bu ?_|(refine ab (hc:=c0) (hX:=fun _ _=>trivial) ?_)|(refine ab (hc:=c1) (hX:=fun _ _=>trivial) ?_)|(refine ab (hc:=c2) (hX:=fun _ _=>trivial) ?_)|(refine ab (hc:=c3) (hX:=fun _ _=>trivial) ?_)|(refine ab (hc:=c4) (hX:=fun _ _=>trivial) ?_)|(refine ab (hc:=c5) (hX:=fun w h=>h) ?_)|(refine ab (hc:=c6) (hX:=fun _ _=>trivial) ?_)|(refine ab (hc:=c7) (hX:=fun _ _=>trivial) ?_)|(refine ab (hc:=c8) (hX:=fun w h=>h.1) ?_)|(refine ab (hc:=c9) (hX:=fun _ _=>trivial) ?_)|(refine ab (hc:=c10) (hX:=fun w h=>h) ?_)|((fail_if_success (refine cv ?_));refine bp (ht:=?_) (hf:=?_);all_goals (intro hx_;first|have:=aM hx_|have:=aY hx_|skip))|(refine cw_cond (ht:=?_) (hf:=?_);all_goals (intro hx_;first|have:=aM hx_|have:=aY hx_|skip)))
     all_goals refine ad (ag rfl rfl) ?_
     all_goals first
      | rfl
      | (simp only [*,ZQ,ZO,ZC,ZB,ZE,ZD,ZH,ZG,ZK,ZI,ZP,ZJ,ZN,ZF];done)
      | (simp_all;done)
      | (simp_all;intros;omega)
      | skip
   · rw [h,Ao,qR]
     have c0:=bc ({ a with object:=⟨#[]⟩ }:ActD)
     repeat' (first|refine aE (hab:=by omega) ?_|refine aD (hab:=by omega) ?_|apply bL|apply Qw|apply Qx|refine br ?_|refine aK ?_|refine cb ?_|refine cC ?_|refine aL ?_|refine aT ?_|refine aU ?_|refine co ?_|refine cr ?_|refine bV ?_|refine cP ?_|refine cD ?_|refine cJ ?_|refine bI ?_|refine bT ?_|refine bH ?_|refine cg ?_|refine bj ?_|refine bn ?_|refine be ?_|refine aZ fun _=>?_|refine ci fun _=>?_|refine bS ?_|refine aR ?_|refine QA ?_|refine QB ?_|apply Qz|apply Qy|apply cw_ret|apply cw_exit|refine sy_beql (h:=?_)|refine bQ ?_|refine bw ?_|refine bu ?_|(refine ab (hc:=c0) (hX:=fun _ _=>trivial) ?_)|(refine ab (hc:=c1) (hX:=fun _ _=>trivial) ?_)|(refine ab (hc:=c2) (hX:=fun _ _=>trivial) ?_)|(refine ab (hc:=c3) (hX:=fun _ _=>trivial) ?_)|(refine ab (hc:=c4) (hX:=fun _ _=>trivial) ?_)|(refine ab (hc:=c5) (hX:=fun w h=>h) ?_)|(refine ab (hc:=c6) (hX:=fun _ _=>trivial) ?_)|(refine ab (hc:=c7) (hX:=fun _ _=>trivial) ?_)|(refine ab (hc:=c8) (hX:=fun w h=>h.1) ?_)|(refine ab (hc:=c9) (hX:=fun _ _=>trivial) ?_)|(refine ab (hc:=c10) (hX:=fun w h=>h) ?_)|((fail_if_success (refine cv ?_));refine bp (ht:=?_) (hf:=?_);all_goals (intro hx_;first|have:=aM hx_|have:=aY hx_|skip))|(refine cw_cond (ht:=?_) (hf:=?_);all_goals (intro hx_;first|have:=aM hx_|have:=aY hx_|skip)))
     all_goals refine ad (ag rfl rfl) ?_
     all_goals first
      | rfl
      | (simp only [*,ZQ,ZO,ZC,ZB,ZE,ZD,ZH,ZG,ZK,ZI,ZP,ZJ,ZN,ZF];done)
      | (simp_all;done)
      | (simp_all;intros;omega)
      | skip
   · rw [h,An,qQ]
     have c0:=bc ({ a with object:=⟨#[]⟩,text:=⟨#[]⟩ }:ActD)
     repeat' (first|refine aE (hab:=by omega) ?_|refine aD (hab:=by omega) ?_|apply bL|apply Qw|apply Qx|refine br ?_|refine aK ?_|refine cb ?_|refine cC ?_|refine aL ?_|refine aT ?_|refine aU ?_|refine co ?_|refine cr ?_|refine bV ?_|refine cP ?_|refine cD ?_|refine cJ ?_|refine bI ?_|refine bT ?_|refine bH ?_|refine cg ?_|refine bj ?_|refine bn ?_|refine be ?_|refine aZ fun _=>?_|refine ci fun _=>?_|refine bS ?_|refine aR ?_|refine QA ?_|refine QB ?_|apply Qz|apply Qy|apply cw_ret|apply cw_exit|refine sy_beql (h:=?_)|refine bQ ?_|refine bw ?_|refine bu ?_|(refine ab (hc:=c0) (hX:=fun _ _=>trivial) ?_)|(refine ab (hc:=c1) (hX:=fun _ _=>trivial) ?_)|(refine ab (hc:=c2) (hX:=fun _ _=>trivial) ?_)|(refine ab (hc:=c3) (hX:=fun _ _=>trivial) ?_)|(refine ab (hc:=c4) (hX:=fun _ _=>trivial) ?_)|(refine ab (hc:=c5) (hX:=fun w h=>h) ?_)|(refine ab (hc:=c6) (hX:=fun _ _=>trivial) ?_)|(refine ab (hc:=c7) (hX:=fun _ _=>trivial) ?_)|(refine ab (hc:=c8) (hX:=fun w h=>h.1) ?_)|(refine ab (hc:=c9) (hX:=fun _ _=>trivial) ?_)|(refine ab (hc:=c10) (hX:=fun w h=>h) ?_)|((fail_if_success (refine cv ?_));refine bp (ht:=?_) (hf:=?_);all_goals (intro hx_;first|have:=aM hx_|have:=aY hx_|skip))|(refine cw_cond (ht:=?_) (hf:=?_);all_goals (intro hx_;first|have:=aM hx_|have:=aY hx_|skip)))
     all_goals refine ad (ag rfl rfl) ?_
     all_goals first
      | rfl
      | (simp only [*,ZQ,ZO,ZC,ZB,ZE,ZD,ZH,ZG,ZK,ZI,ZP,ZJ,ZN,ZF];done)
      | (simp_all;done)
      | (simp_all;intros;omega)
      | skip
   · rw [h,Am,qP]
     have c0:=bc ({ a with object:=⟨#[]⟩,n:=0 }:ActD)
     repeat' (first|refine aE (hab:=by omega) ?_|refine aD (hab:=by omega) ?_|apply bL|apply Qw|apply Qx|refine br ?_|refine aK ?_|refine cb ?_|refine cC ?_|refine aL ?_|refine aT ?_|refine aU ?_|refine co ?_|refine cr ?_|refine bV ?_|refine cP ?_|refine cD ?_|refine cJ ?_|refine bI ?_|refine bT ?_|refine bH ?_|refine cg ?_|refine bj ?_|refine bn ?_|refine be ?_|refine aZ fun _=>?_|refine ci fun _=>?_|refine bS ?_|refine aR ?_|refine QA ?_|refine QB ?_|apply Qz|apply Qy|apply cw_ret|apply cw_exit|refine sy_beql (h:=?_)|refine bQ ?_|refine bw ?_|refine bu ?_|(refine ab (hc:=c0) (hX:=fun _ _=>trivial) ?_)|(refine ab (hc:=c1) (hX:=fun _ _=>trivial) ?_)|(refine ab (hc:=c2) (hX:=fun _ _=>trivial) ?_)|(refine ab (hc:=c3) (hX:=fun _ _=>trivial) ?_)|(refine ab (hc:=c4) (hX:=fun _ _=>trivial) ?_)|(refine ab (hc:=c5) (hX:=fun w h=>h) ?_)|(refine ab (hc:=c6) (hX:=fun _ _=>trivial) ?_)|(refine ab (hc:=c7) (hX:=fun _ _=>trivial) ?_)|(refine ab (hc:=c8) (hX:=fun w h=>h.1) ?_)|(refine ab (hc:=c9) (hX:=fun _ _=>trivial) ?_)|(refine ab (hc:=c10) (hX:=fun w h=>h) ?_)|((fail_if_success (refine cv ?_));refine bp (ht:=?_) (hf:=?_);all_goals (intro hx_;first|have:=aM hx_|have:=aY hx_|skip))|(refine cw_cond (ht:=?_) (hf:=?_);all_goals (intro hx_;first|have:=aM hx_|have:=aY hx_|skip)))
     all_goals refine ad (ag rfl rfl) ?_
     all_goals first
      | rfl
      | (simp only [*,ZQ,ZO,ZC,ZB,ZE,ZD,ZH,ZG,ZK,ZI,ZP,ZJ,ZN,ZF];done)
      | (simp_all;done)
      | (simp_all;intros;omega)
      | skip
   · rw [h,Al,qO]
     have c0:=bc ({ a with target:=⟨#[]⟩,text:=⟨#[]⟩,n:=0 }:ActD)
     repeat' (first|refine aE (hab:=by omega) ?_|refine aD (hab:=by omega) ?_|apply bL|apply Qw|apply Qx|refine br ?_|refine aK ?_|refine cb ?_|refine cC ?_|refine aL ?_|refine aT ?_|refine aU ?_|refine co ?_|refine cr ?_|refine bV ?_|refine cP ?_|refine cD ?_|refine cJ ?_|refine bI ?_|refine bT ?_|refine bH ?_|refine cg ?_|refine bj ?_|refine bn ?_|refine be ?_|refine aZ fun _=>?_|refine ci fun _=>?_|refine bS ?_|refine aR ?_|refine QA ?_|refine QB ?_|apply Qz|apply Qy|apply cw_ret|apply cw_exit|refine sy_beql (h:=?_)|refine bQ ?_|refine bw ?_|refine bu ?_|(refine ab (hc:=c0) (hX:=fun _ _=>trivial) ?_)|(refine ab (hc:=c1) (hX:=fun _ _=>trivial) ?_)|(refine ab (hc:=c2) (hX:=fun _ _=>trivial) ?_)|(refine ab (hc:=c3) (hX:=fun _ _=>trivial) ?_)|(refine ab (hc:=c4) (hX:=fun _ _=>trivial) ?_)|(refine ab (hc:=c5) (hX:=fun w h=>h) ?_)|(refine ab (hc:=c6) (hX:=fun _ _=>trivial) ?_)|(refine ab (hc:=c7) (hX:=fun _ _=>trivial) ?_)|(refine ab (hc:=c8) (hX:=fun w h=>h.1) ?_)|(refine ab (hc:=c9) (hX:=fun _ _=>trivial) ?_)|(refine ab (hc:=c10) (hX:=fun w h=>h) ?_)|((fail_if_success (refine cv ?_));refine bp (ht:=?_) (hf:=?_);all_goals (intro hx_;first|have:=aM hx_|have:=aY hx_|skip))|(refine cw_cond (ht:=?_) (hf:=?_);all_goals (intro hx_;first|have:=aM hx_|have:=aY hx_|skip)))
     all_goals refine ad (ag rfl rfl) ?_
     all_goals first
      | rfl
      | (simp only [*,ZQ,ZO,ZC,ZB,ZE,ZD,ZH,ZG,ZK,ZI,ZP,ZJ,ZN,ZF];done)
      | (simp_all;done)
      | (simp_all;intros;omega)
      | skip
 · rw [fitsR,rp hk,ZG]
   repeat' (first|refine aD (hab:=by omega) ?_|apply bL|apply Qw|apply Qx|refine br ?_|refine aK ?_|refine cb ?_|refine cC ?_|refine aL ?_|refine aT ?_|refine aU ?_|refine co ?_|refine cr ?_|refine bV ?_|refine cP ?_|refine cD ?_|refine cJ ?_|refine bI ?_|refine bT ?_|refine bH ?_|refine cg ?_|refine bj ?_|refine bn ?_|refine be ?_|refine aZ fun _=>?_|refine ci fun _=>?_|refine bS ?_|refine aR ?_|refine QA ?_|refine QB ?_|apply Qz|apply Qy|apply cw_ret|apply cw_exit|refine sy_beql (h:=?_)|refine bQ ?_|refine bw ?_|refine bu ?_|((fail_if_success (refine cv ?_));refine bp (ht:=?_) (hf:=?_);all_goals (intro hx_;first|have:=aM hx_|have:=aY hx_|skip))|(refine cw_cond (ht:=?_) (hf:=?_);all_goals (intro hx_;first|have:=aM hx_|have:=aY hx_|skip)))
   exact ad (ag rfl rfl) rfl
def maskB (fs:Nat) (z0 z1 z2 z3 z4 z5 z6 z7 z8 z9 z10:Bool):Bool:=(fs.testBit 0||z0)&&(fs.testBit 1||z1)&&(fs.testBit 2||z2)&&(fs.testBit 3||z3)&&(fs.testBit 4||z4)&&(fs.testBit 5||z5)&&(fs.testBit 6||z6)&&(fs.testBit 7||z7)&&(fs.testBit 8||z8)&&(fs.testBit 9||z9)&&(fs.testBit 10||z10)
def maskOk (fs:Nat) (z0 z1 z2 z3 z4 z5 z6 z7 z8 z9 z10:Bool):Bool:=decide (bitsV .andNot .i64 (useU z0 z1 z2 z3 z4 z5 z6 z7 z8 z9 z10) fs=0)==maskB fs z0 z1 z2 z3 z4 z5 z6 z7 z8 z9 z10
def maskAll (fs:Nat):Bool:=bools fun z0=>bools fun z1=>bools fun z2=>bools fun z3=>bools fun z4=>bools fun z5=>bools fun z6=>bools fun z7=>bools fun z8=>bools fun z9=>bools fun z10=>maskOk fs z0 z1 z2 z3 z4 z5 z6 z7 z8 z9 z10
theorem rH:([1568,252,253,1,2,33,24,412,35,1536,1808,513,546].all maskAll)=true:=by decide +kernel
theorem cw {fs:Nat} (hfs:fs∈[1568,252,253,1,2,33,24,412,35,1536,1808,513,546]) (z0 z1 z2 z3 z4 z5 z6 z7 z8 z9 z10:Bool):decide (bitsV .andNot .i64 (useU z0 z1 z2 z3 z4 z5 z6 z7 z8 z9 z10) fs=0)=maskB fs z0 z1 z2 z3 z4 z5 z6 z7 z8 z9 z10:=by
 have h:=List.all_eq_true.1 rH fs hfs
 have h1:=bO (bO (bO (bO (bO (bO (bO (bO (bO (bO (bO h z0) z1) z2) z3) z4) z5) z6) z7) z8) z9) z10
 exact eq_of_beq h1
theorem bD (a:ActD):usedV a=useU (seqB a.object ⟨#[]⟩) (seqB a.target ⟨#[]⟩) (decide (a.scope=0)) (seqB a.group ⟨#[]⟩) (decide ((a.to.n:Int)=0)) (seqB a.text ⟨#[]⟩) (boxEq a.body BoxD.zero) (decide (a.epoch=0)) (decide ((a.wraps.n:Int)=0)) (decide (a.n=0)) (decide (a.m=0)):=rfl
theorem lt20 (m:Int):decide (m<20)=decide (m≤19):=decide_eq_decide.2 aa
theorem aO (a:ActD):sealedScopeB a.scope a.group=(decide (1≤a.scope)&&decide (a.scope≤3)&&groupR a):=by
 rw [sealedScopeB,groupR]
 by_cases h2:a.scope=2
 · rw [h2];rfl
 by_cases h1:a.scope=1
 · rw [h1];rfl
 by_cases h3:a.scope=3
 · rw [h3];rfl
 rw [Zn h1,Zn h2,Zn h3]
 by_cases hl:1≤a.scope
 · rw [Zn (show ¬ a.scope≤3 by omega),ZH]
   rfl
 · rw [Zn hl]
   rfl
theorem tU (s:ByteArray) (h:seqB s ⟨#[]⟩=true):decide ((s.size:Int)=32)=false:=by
 rw [dz,ZT] at h
 exact Zn aa
theorem EY {a:ActD} (h:a.kind=0):ruleB a=(maskB 1568 (seqB a.object ⟨#[]⟩) (seqB a.target ⟨#[]⟩) (decide (a.scope=0)) (seqB a.group ⟨#[]⟩) (decide ((a.to.n:Int)=0)) (seqB a.text ⟨#[]⟩) (boxEq a.body BoxD.zero) (decide (a.epoch=0)) (decide ((a.wraps.n:Int)=0)) (decide (a.n=0)) (decide (a.m=0))&&rule3B a):=by
 have hm:mget (ruleL a) a.kind=some (1568,rule3B a):=by rw [h];rfl
 rw [ruleB,hm]
 simp only
 rw [bD]
 exact congrArg (·&&_) (cw (fs:=1568) (by decide) _ _ _ _ _ _ _ _ _ _ _)
theorem EX {a:ActD} (h:a.kind=1):ruleB a=(maskB 252 (seqB a.object ⟨#[]⟩) (seqB a.target ⟨#[]⟩) (decide (a.scope=0)) (seqB a.group ⟨#[]⟩) (decide ((a.to.n:Int)=0)) (seqB a.text ⟨#[]⟩) (boxEq a.body BoxD.zero) (decide (a.epoch=0)) (decide ((a.wraps.n:Int)=0)) (decide (a.n=0)) (decide (a.m=0))&&audienceB a):=by
 have hm:mget (ruleL a) a.kind=some (252,audienceB a):=by rw [h];rfl
 rw [ruleB,hm]
 simp only
 rw [bD]
 exact congrArg (·&&_) (cw (fs:=252) (by decide) _ _ _ _ _ _ _ _ _ _ _)
theorem EW {a:ActD} (h:a.kind=2):ruleB a=(maskB 253 (seqB a.object ⟨#[]⟩) (seqB a.target ⟨#[]⟩) (decide (a.scope=0)) (seqB a.group ⟨#[]⟩) (decide ((a.to.n:Int)=0)) (seqB a.text ⟨#[]⟩) (boxEq a.body BoxD.zero) (decide (a.epoch=0)) (decide ((a.wraps.n:Int)=0)) (decide (a.n=0)) (decide (a.m=0))&&rule1B a):=by
 have hm:mget (ruleL a) a.kind=some (253,rule1B a):=by rw [h];rfl
 rw [ruleB,hm]
 simp only
 rw [bD]
 exact congrArg (·&&_) (cw (fs:=253) (by decide) _ _ _ _ _ _ _ _ _ _ _)
theorem EV {a:ActD} (h:a.kind=3):ruleB a=(maskB 253 (seqB a.object ⟨#[]⟩) (seqB a.target ⟨#[]⟩) (decide (a.scope=0)) (seqB a.group ⟨#[]⟩) (decide ((a.to.n:Int)=0)) (seqB a.text ⟨#[]⟩) (boxEq a.body BoxD.zero) (decide (a.epoch=0)) (decide ((a.wraps.n:Int)=0)) (decide (a.n=0)) (decide (a.m=0))&&rule1B a):=by
 have hm:mget (ruleL a) a.kind=some (253,rule1B a):=by rw [h];rfl
 rw [ruleB,hm]
 simp only
 rw [bD]
 exact congrArg (·&&_) (cw (fs:=253) (by decide) _ _ _ _ _ _ _ _ _ _ _)
theorem EU {a:ActD} (h:a.kind=4):ruleB a=(maskB 1 (seqB a.object ⟨#[]⟩) (seqB a.target ⟨#[]⟩) (decide (a.scope=0)) (seqB a.group ⟨#[]⟩) (decide ((a.to.n:Int)=0)) (seqB a.text ⟨#[]⟩) (boxEq a.body BoxD.zero) (decide (a.epoch=0)) (decide ((a.wraps.n:Int)=0)) (decide (a.n=0)) (decide (a.m=0))&&objectB a):=by
 have hm:mget (ruleL a) a.kind=some (1,objectB a):=by rw [h];rfl
 rw [ruleB,hm]
 simp only
 rw [bD]
 exact congrArg (·&&_) (cw (fs:=1) (by decide) _ _ _ _ _ _ _ _ _ _ _)
theorem ET {a:ActD} (h:a.kind=5):ruleB a=(maskB 1 (seqB a.object ⟨#[]⟩) (seqB a.target ⟨#[]⟩) (decide (a.scope=0)) (seqB a.group ⟨#[]⟩) (decide ((a.to.n:Int)=0)) (seqB a.text ⟨#[]⟩) (boxEq a.body BoxD.zero) (decide (a.epoch=0)) (decide ((a.wraps.n:Int)=0)) (decide (a.n=0)) (decide (a.m=0))&&objectB a):=by
 have hm:mget (ruleL a) a.kind=some (1,objectB a):=by rw [h];rfl
 rw [ruleB,hm]
 simp only
 rw [bD]
 exact congrArg (·&&_) (cw (fs:=1) (by decide) _ _ _ _ _ _ _ _ _ _ _)
theorem ES {a:ActD} (h:a.kind=6):ruleB a=(maskB 1 (seqB a.object ⟨#[]⟩) (seqB a.target ⟨#[]⟩) (decide (a.scope=0)) (seqB a.group ⟨#[]⟩) (decide ((a.to.n:Int)=0)) (seqB a.text ⟨#[]⟩) (boxEq a.body BoxD.zero) (decide (a.epoch=0)) (decide ((a.wraps.n:Int)=0)) (decide (a.n=0)) (decide (a.m=0))&&objectB a):=by
 have hm:mget (ruleL a) a.kind=some (1,objectB a):=by rw [h];rfl
 rw [ruleB,hm]
 simp only
 rw [bD]
 exact congrArg (·&&_) (cw (fs:=1) (by decide) _ _ _ _ _ _ _ _ _ _ _)
theorem ER {a:ActD} (h:a.kind=7):ruleB a=(maskB 2 (seqB a.object ⟨#[]⟩) (seqB a.target ⟨#[]⟩) (decide (a.scope=0)) (seqB a.group ⟨#[]⟩) (decide ((a.to.n:Int)=0)) (seqB a.text ⟨#[]⟩) (boxEq a.body BoxD.zero) (decide (a.epoch=0)) (decide ((a.wraps.n:Int)=0)) (decide (a.n=0)) (decide (a.m=0))&&targetB a):=by
 have hm:mget (ruleL a) a.kind=some (2,targetB a):=by rw [h];rfl
 rw [ruleB,hm]
 simp only
 rw [bD]
 exact congrArg (·&&_) (cw (fs:=2) (by decide) _ _ _ _ _ _ _ _ _ _ _)
theorem EQ {a:ActD} (h:a.kind=8):ruleB a=(maskB 2 (seqB a.object ⟨#[]⟩) (seqB a.target ⟨#[]⟩) (decide (a.scope=0)) (seqB a.group ⟨#[]⟩) (decide ((a.to.n:Int)=0)) (seqB a.text ⟨#[]⟩) (boxEq a.body BoxD.zero) (decide (a.epoch=0)) (decide ((a.wraps.n:Int)=0)) (decide (a.n=0)) (decide (a.m=0))&&targetB a):=by
 have hm:mget (ruleL a) a.kind=some (2,targetB a):=by rw [h];rfl
 rw [ruleB,hm]
 simp only
 rw [bD]
 exact congrArg (·&&_) (cw (fs:=2) (by decide) _ _ _ _ _ _ _ _ _ _ _)
theorem EP {a:ActD} (h:a.kind=9):ruleB a=(maskB 2 (seqB a.object ⟨#[]⟩) (seqB a.target ⟨#[]⟩) (decide (a.scope=0)) (seqB a.group ⟨#[]⟩) (decide ((a.to.n:Int)=0)) (seqB a.text ⟨#[]⟩) (boxEq a.body BoxD.zero) (decide (a.epoch=0)) (decide ((a.wraps.n:Int)=0)) (decide (a.n=0)) (decide (a.m=0))&&targetB a):=by
 have hm:mget (ruleL a) a.kind=some (2,targetB a):=by rw [h];rfl
 rw [ruleB,hm]
 simp only
 rw [bD]
 exact congrArg (·&&_) (cw (fs:=2) (by decide) _ _ _ _ _ _ _ _ _ _ _)
theorem CW {a:ActD} (h:a.kind=10):ruleB a=(maskB 2 (seqB a.object ⟨#[]⟩) (seqB a.target ⟨#[]⟩) (decide (a.scope=0)) (seqB a.group ⟨#[]⟩) (decide ((a.to.n:Int)=0)) (seqB a.text ⟨#[]⟩) (boxEq a.body BoxD.zero) (decide (a.epoch=0)) (decide ((a.wraps.n:Int)=0)) (decide (a.n=0)) (decide (a.m=0))&&targetB a):=by
 have hm:mget (ruleL a) a.kind=some (2,targetB a):=by rw [h];rfl
 rw [ruleB,hm]
 simp only
 rw [bD]
 exact congrArg (·&&_) (cw (fs:=2) (by decide) _ _ _ _ _ _ _ _ _ _ _)
theorem CV {a:ActD} (h:a.kind=11):ruleB a=(maskB 2 (seqB a.object ⟨#[]⟩) (seqB a.target ⟨#[]⟩) (decide (a.scope=0)) (seqB a.group ⟨#[]⟩) (decide ((a.to.n:Int)=0)) (seqB a.text ⟨#[]⟩) (boxEq a.body BoxD.zero) (decide (a.epoch=0)) (decide ((a.wraps.n:Int)=0)) (decide (a.n=0)) (decide (a.m=0))&&targetB a):=by
 have hm:mget (ruleL a) a.kind=some (2,targetB a):=by rw [h];rfl
 rw [ruleB,hm]
 simp only
 rw [bD]
 exact congrArg (·&&_) (cw (fs:=2) (by decide) _ _ _ _ _ _ _ _ _ _ _)
theorem CU {a:ActD} (h:a.kind=12):ruleB a=(maskB 33 (seqB a.object ⟨#[]⟩) (seqB a.target ⟨#[]⟩) (decide (a.scope=0)) (seqB a.group ⟨#[]⟩) (decide ((a.to.n:Int)=0)) (seqB a.text ⟨#[]⟩) (boxEq a.body BoxD.zero) (decide (a.epoch=0)) (decide ((a.wraps.n:Int)=0)) (decide (a.n=0)) (decide (a.m=0))&&rule2B a):=by
 have hm:mget (ruleL a) a.kind=some (33,rule2B a):=by rw [h];rfl
 rw [ruleB,hm]
 simp only
 rw [bD]
 exact congrArg (·&&_) (cw (fs:=33) (by decide) _ _ _ _ _ _ _ _ _ _ _)
theorem CT {a:ActD} (h:a.kind=13):ruleB a=(maskB 1 (seqB a.object ⟨#[]⟩) (seqB a.target ⟨#[]⟩) (decide (a.scope=0)) (seqB a.group ⟨#[]⟩) (decide ((a.to.n:Int)=0)) (seqB a.text ⟨#[]⟩) (boxEq a.body BoxD.zero) (decide (a.epoch=0)) (decide ((a.wraps.n:Int)=0)) (decide (a.n=0)) (decide (a.m=0))&&objectB a):=by
 have hm:mget (ruleL a) a.kind=some (1,objectB a):=by rw [h];rfl
 rw [ruleB,hm]
 simp only
 rw [bD]
 exact congrArg (·&&_) (cw (fs:=1) (by decide) _ _ _ _ _ _ _ _ _ _ _)
theorem CS {a:ActD} (h:a.kind=14):ruleB a=(maskB 253 (seqB a.object ⟨#[]⟩) (seqB a.target ⟨#[]⟩) (decide (a.scope=0)) (seqB a.group ⟨#[]⟩) (decide ((a.to.n:Int)=0)) (seqB a.text ⟨#[]⟩) (boxEq a.body BoxD.zero) (decide (a.epoch=0)) (decide ((a.wraps.n:Int)=0)) (decide (a.n=0)) (decide (a.m=0))&&rule1B a):=by
 have hm:mget (ruleL a) a.kind=some (253,rule1B a):=by rw [h];rfl
 rw [ruleB,hm]
 simp only
 rw [bD]
 exact congrArg (·&&_) (cw (fs:=253) (by decide) _ _ _ _ _ _ _ _ _ _ _)
theorem CR {a:ActD} (h:a.kind=15):ruleB a=(maskB 24 (seqB a.object ⟨#[]⟩) (seqB a.target ⟨#[]⟩) (decide (a.scope=0)) (seqB a.group ⟨#[]⟩) (decide ((a.to.n:Int)=0)) (seqB a.text ⟨#[]⟩) (boxEq a.body BoxD.zero) (decide (a.epoch=0)) (decide ((a.wraps.n:Int)=0)) (decide (a.n=0)) (decide (a.m=0))&&rule4B a):=by
 have hm:mget (ruleL a) a.kind=some (24,rule4B a):=by rw [h];rfl
 rw [ruleB,hm]
 simp only
 rw [bD]
 exact congrArg (·&&_) (cw (fs:=24) (by decide) _ _ _ _ _ _ _ _ _ _ _)
theorem CQ {a:ActD} (h:a.kind=16):ruleB a=(maskB 412 (seqB a.object ⟨#[]⟩) (seqB a.target ⟨#[]⟩) (decide (a.scope=0)) (seqB a.group ⟨#[]⟩) (decide ((a.to.n:Int)=0)) (seqB a.text ⟨#[]⟩) (boxEq a.body BoxD.zero) (decide (a.epoch=0)) (decide ((a.wraps.n:Int)=0)) (decide (a.n=0)) (decide (a.m=0))&&grantB a):=by
 have hm:mget (ruleL a) a.kind=some (412,grantB a):=by rw [h];rfl
 rw [ruleB,hm]
 simp only
 rw [bD]
 exact congrArg (·&&_) (cw (fs:=412) (by decide) _ _ _ _ _ _ _ _ _ _ _)
theorem CP {a:ActD} (h:a.kind=17):ruleB a=(maskB 35 (seqB a.object ⟨#[]⟩) (seqB a.target ⟨#[]⟩) (decide (a.scope=0)) (seqB a.group ⟨#[]⟩) (decide ((a.to.n:Int)=0)) (seqB a.text ⟨#[]⟩) (boxEq a.body BoxD.zero) (decide (a.epoch=0)) (decide ((a.wraps.n:Int)=0)) (decide (a.n=0)) (decide (a.m=0))&&labelB a):=by
 have hm:mget (ruleL a) a.kind=some (35,labelB a):=by rw [h];rfl
 rw [ruleB,hm]
 simp only
 rw [bD]
 exact congrArg (·&&_) (cw (fs:=35) (by decide) _ _ _ _ _ _ _ _ _ _ _)
theorem CO {a:ActD} (h:a.kind=18):ruleB a=(maskB 1536 (seqB a.object ⟨#[]⟩) (seqB a.target ⟨#[]⟩) (decide (a.scope=0)) (seqB a.group ⟨#[]⟩) (decide ((a.to.n:Int)=0)) (seqB a.text ⟨#[]⟩) (boxEq a.body BoxD.zero) (decide (a.epoch=0)) (decide ((a.wraps.n:Int)=0)) (decide (a.n=0)) (decide (a.m=0))&&homeB a):=by
 have hm:mget (ruleL a) a.kind=some (1536,homeB a):=by rw [h];rfl
 rw [ruleB,hm]
 simp only
 rw [bD]
 exact congrArg (·&&_) (cw (fs:=1536) (by decide) _ _ _ _ _ _ _ _ _ _ _)
theorem CN {a:ActD} (h:a.kind=19):ruleB a=(maskB 1808 (seqB a.object ⟨#[]⟩) (seqB a.target ⟨#[]⟩) (decide (a.scope=0)) (seqB a.group ⟨#[]⟩) (decide ((a.to.n:Int)=0)) (seqB a.text ⟨#[]⟩) (boxEq a.body BoxD.zero) (decide (a.epoch=0)) (decide ((a.wraps.n:Int)=0)) (decide (a.n=0)) (decide (a.m=0))&&setupB a):=by
 have hm:mget (ruleL a) a.kind=some (1808,setupB a):=by rw [h];rfl
 rw [ruleB,hm]
 simp only
 rw [bD]
 exact congrArg (·&&_) (cw (fs:=1808) (by decide) _ _ _ _ _ _ _ _ _ _ _)
theorem CM {a:ActD} (h:a.kind=20):ruleB a=(maskB 1 (seqB a.object ⟨#[]⟩) (seqB a.target ⟨#[]⟩) (decide (a.scope=0)) (seqB a.group ⟨#[]⟩) (decide ((a.to.n:Int)=0)) (seqB a.text ⟨#[]⟩) (boxEq a.body BoxD.zero) (decide (a.epoch=0)) (decide ((a.wraps.n:Int)=0)) (decide (a.n=0)) (decide (a.m=0))&&objectB a):=by
 have hm:mget (ruleL a) a.kind=some (1,objectB a):=by rw [h];rfl
 rw [ruleB,hm]
 simp only
 rw [bD]
 exact congrArg (·&&_) (cw (fs:=1) (by decide) _ _ _ _ _ _ _ _ _ _ _)
theorem CL {a:ActD} (h:a.kind=21):ruleB a=(maskB 33 (seqB a.object ⟨#[]⟩) (seqB a.target ⟨#[]⟩) (decide (a.scope=0)) (seqB a.group ⟨#[]⟩) (decide ((a.to.n:Int)=0)) (seqB a.text ⟨#[]⟩) (boxEq a.body BoxD.zero) (decide (a.epoch=0)) (decide ((a.wraps.n:Int)=0)) (decide (a.n=0)) (decide (a.m=0))&&rule2B a):=by
 have hm:mget (ruleL a) a.kind=some (33,rule2B a):=by rw [h];rfl
 rw [ruleB,hm]
 simp only
 rw [bD]
 exact congrArg (·&&_) (cw (fs:=33) (by decide) _ _ _ _ _ _ _ _ _ _ _)
theorem CK {a:ActD} (h:a.kind=22):ruleB a=(maskB 513 (seqB a.object ⟨#[]⟩) (seqB a.target ⟨#[]⟩) (decide (a.scope=0)) (seqB a.group ⟨#[]⟩) (decide ((a.to.n:Int)=0)) (seqB a.text ⟨#[]⟩) (boxEq a.body BoxD.zero) (decide (a.epoch=0)) (decide ((a.wraps.n:Int)=0)) (decide (a.n=0)) (decide (a.m=0))&&rule5B a):=by
 have hm:mget (ruleL a) a.kind=some (513,rule5B a):=by rw [h];rfl
 rw [ruleB,hm]
 simp only
 rw [bD]
 exact congrArg (·&&_) (cw (fs:=513) (by decide) _ _ _ _ _ _ _ _ _ _ _)
theorem CJ {a:ActD} (h:a.kind=23):ruleB a=(maskB 546 (seqB a.object ⟨#[]⟩) (seqB a.target ⟨#[]⟩) (decide (a.scope=0)) (seqB a.group ⟨#[]⟩) (decide ((a.to.n:Int)=0)) (seqB a.text ⟨#[]⟩) (boxEq a.body BoxD.zero) (decide (a.epoch=0)) (decide ((a.wraps.n:Int)=0)) (decide (a.n=0)) (decide (a.m=0))&&rule6B a):=by
 have hm:mget (ruleL a) a.kind=some (546,rule6B a):=by rw [h];rfl
 rw [ruleB,hm]
 simp only
 rw [bD]
 exact congrArg (·&&_) (cw (fs:=546) (by decide) _ _ _ _ _ _ _ _ _ _ _)
theorem wS {a:ActD} (h:¬ (0≤a.kind∧a.kind≤23)):ruleB a=false:=by
 have hm:mget (ruleL a) a.kind=none:=by
  rw [ruleL]
  rw [mget,show KeyT.eqb a.kind 0=false from Zn aa,ZB]
  rw [mget,show KeyT.eqb a.kind 1=false from Zn aa,ZB]
  rw [mget,show KeyT.eqb a.kind 2=false from Zn aa,ZB]
  rw [mget,show KeyT.eqb a.kind 3=false from Zn aa,ZB]
  rw [mget,show KeyT.eqb a.kind 14=false from Zn aa,ZB]
  rw [mget,show KeyT.eqb a.kind 4=false from Zn aa,ZB]
  rw [mget,show KeyT.eqb a.kind 5=false from Zn aa,ZB]
  rw [mget,show KeyT.eqb a.kind 6=false from Zn aa,ZB]
  rw [mget,show KeyT.eqb a.kind 13=false from Zn aa,ZB]
  rw [mget,show KeyT.eqb a.kind 20=false from Zn aa,ZB]
  rw [mget,show KeyT.eqb a.kind 7=false from Zn aa,ZB]
  rw [mget,show KeyT.eqb a.kind 8=false from Zn aa,ZB]
  rw [mget,show KeyT.eqb a.kind 9=false from Zn aa,ZB]
  rw [mget,show KeyT.eqb a.kind 10=false from Zn aa,ZB]
  rw [mget,show KeyT.eqb a.kind 11=false from Zn aa,ZB]
  rw [mget,show KeyT.eqb a.kind 12=false from Zn aa,ZB]
  rw [mget,show KeyT.eqb a.kind 21=false from Zn aa,ZB]
  rw [mget,show KeyT.eqb a.kind 15=false from Zn aa,ZB]
  rw [mget,show KeyT.eqb a.kind 16=false from Zn aa,ZB]
  rw [mget,show KeyT.eqb a.kind 17=false from Zn aa,ZB]
  rw [mget,show KeyT.eqb a.kind 18=false from Zn aa,ZB]
  rw [mget,show KeyT.eqb a.kind 19=false from Zn aa,ZB]
  rw [mget,show KeyT.eqb a.kind 22=false from Zn aa,ZB]
  rw [mget,show KeyT.eqb a.kind 23=false from Zn aa,ZB]
  rfl
 rw [ruleB,hm]
theorem zS:seqB (⟨#[]⟩:ByteArray) ⟨#[]⟩=true:=by kernel_rfl
theorem zB:boxEq BoxD.zero BoxD.zero=true:=by kernel_rfl
theorem zI:decide ((0:Int)=0)=true:=rfl
theorem zN:decide (((0:Nat):Int)=0)=true:=rfl
theorem l5:Nat.testBit 1 0=true:=by decide +kernel
theorem l4:Nat.testBit 1 1=false:=by decide +kernel
theorem lZ:Nat.testBit 1 2=false:=by decide +kernel
theorem lY:Nat.testBit 1 3=false:=by decide +kernel
theorem lX:Nat.testBit 1 4=false:=by decide +kernel
theorem lW:Nat.testBit 1 5=false:=by decide +kernel
theorem lV:Nat.testBit 1 6=false:=by decide +kernel
theorem lU:Nat.testBit 1 7=false:=by decide +kernel
theorem lT:Nat.testBit 1 8=false:=by decide +kernel
theorem lS:Nat.testBit 1 9=false:=by decide +kernel
theorem iJ:Nat.testBit 1 10=false:=by decide +kernel
theorem lH:Nat.testBit 2 0=false:=by decide +kernel
theorem lG:Nat.testBit 2 1=true:=by decide +kernel
theorem lF:Nat.testBit 2 2=false:=by decide +kernel
theorem lE:Nat.testBit 2 3=false:=by decide +kernel
theorem lD:Nat.testBit 2 4=false:=by decide +kernel
theorem lC:Nat.testBit 2 5=false:=by decide +kernel
theorem lB:Nat.testBit 2 6=false:=by decide +kernel
theorem lA:Nat.testBit 2 7=false:=by decide +kernel
theorem lz:Nat.testBit 2 8=false:=by decide +kernel
theorem lw:Nat.testBit 2 9=false:=by decide +kernel
theorem iI:Nat.testBit 2 10=false:=by decide +kernel
theorem Cn:Nat.testBit 24 0=false:=by decide +kernel
theorem Cm:Nat.testBit 24 1=false:=by decide +kernel
theorem Cl:Nat.testBit 24 2=false:=by decide +kernel
theorem Ck:Nat.testBit 24 3=true:=by decide +kernel
theorem Cj:Nat.testBit 24 4=true:=by decide +kernel
theorem Ci:Nat.testBit 24 5=false:=by decide +kernel
theorem Cg:Nat.testBit 24 6=false:=by decide +kernel
theorem Cf:Nat.testBit 24 7=false:=by decide +kernel
theorem Ce:Nat.testBit 24 8=false:=by decide +kernel
theorem Cd:Nat.testBit 24 9=false:=by decide +kernel
theorem zt:Nat.testBit 24 10=false:=by decide +kernel
theorem uH:Nat.testBit 33 0=true:=by decide +kernel
theorem uG:Nat.testBit 33 1=false:=by decide +kernel
theorem uF:Nat.testBit 33 2=false:=by decide +kernel
theorem uE:Nat.testBit 33 3=false:=by decide +kernel
theorem uD:Nat.testBit 33 4=false:=by decide +kernel
theorem uC:Nat.testBit 33 5=true:=by decide +kernel
theorem uB:Nat.testBit 33 6=false:=by decide +kernel
theorem uA:Nat.testBit 33 7=false:=by decide +kernel
theorem uz:Nat.testBit 33 8=false:=by decide +kernel
theorem uy:Nat.testBit 33 9=false:=by decide +kernel
theorem qu:Nat.testBit 33 10=false:=by decide +kernel
theorem Cc:Nat.testBit 35 0=true:=by decide +kernel
theorem Cb:Nat.testBit 35 1=true:=by decide +kernel
theorem Ca:Nat.testBit 35 2=false:=by decide +kernel
theorem B9:Nat.testBit 35 3=false:=by decide +kernel
theorem B8:Nat.testBit 35 4=false:=by decide +kernel
theorem B7:Nat.testBit 35 5=true:=by decide +kernel
theorem B6:Nat.testBit 35 6=false:=by decide +kernel
theorem B5:Nat.testBit 35 7=false:=by decide +kernel
theorem B4:Nat.testBit 35 8=false:=by decide +kernel
theorem B3:Nat.testBit 35 9=false:=by decide +kernel
theorem zg:Nat.testBit 35 10=false:=by decide +kernel
theorem zr:Nat.testBit 252 0=false:=by decide +kernel
theorem zq:Nat.testBit 252 1=false:=by decide +kernel
theorem zp:Nat.testBit 252 2=true:=by decide +kernel
theorem zo:Nat.testBit 252 3=true:=by decide +kernel
theorem zn:Nat.testBit 252 4=true:=by decide +kernel
theorem zm:Nat.testBit 252 5=true:=by decide +kernel
theorem zl:Nat.testBit 252 6=true:=by decide +kernel
theorem zk:Nat.testBit 252 7=true:=by decide +kernel
theorem zj:Nat.testBit 252 8=false:=by decide +kernel
theorem zi:Nat.testBit 252 9=false:=by decide +kernel
theorem vO:Nat.testBit 252 10=false:=by decide +kernel
theorem lR:Nat.testBit 253 0=true:=by decide +kernel
theorem lQ:Nat.testBit 253 1=false:=by decide +kernel
theorem lP:Nat.testBit 253 2=true:=by decide +kernel
theorem lO:Nat.testBit 253 3=true:=by decide +kernel
theorem lN:Nat.testBit 253 4=true:=by decide +kernel
theorem lM:Nat.testBit 253 5=true:=by decide +kernel
theorem lL:Nat.testBit 253 6=true:=by decide +kernel
theorem lK:Nat.testBit 253 7=true:=by decide +kernel
theorem lJ:Nat.testBit 253 8=false:=by decide +kernel
theorem lI:Nat.testBit 253 9=false:=by decide +kernel
theorem jI:Nat.testBit 253 10=false:=by decide +kernel
theorem zf:Nat.testBit 412 0=false:=by decide +kernel
theorem ze:Nat.testBit 412 1=false:=by decide +kernel
theorem zd:Nat.testBit 412 2=true:=by decide +kernel
theorem zc:Nat.testBit 412 3=true:=by decide +kernel
theorem zb:Nat.testBit 412 4=true:=by decide +kernel
theorem za:Nat.testBit 412 5=false:=by decide +kernel
theorem yZ:Nat.testBit 412 6=false:=by decide +kernel
theorem yY:Nat.testBit 412 7=true:=by decide +kernel
theorem yX:Nat.testBit 412 8=true:=by decide +kernel
theorem yW:Nat.testBit 412 9=false:=by decide +kernel
theorem vN:Nat.testBit 412 10=false:=by decide +kernel
theorem yV:Nat.testBit 513 0=true:=by decide +kernel
theorem yU:Nat.testBit 513 1=false:=by decide +kernel
theorem yT:Nat.testBit 513 2=false:=by decide +kernel
theorem yS:Nat.testBit 513 3=false:=by decide +kernel
theorem yR:Nat.testBit 513 4=false:=by decide +kernel
theorem yQ:Nat.testBit 513 5=false:=by decide +kernel
theorem yP:Nat.testBit 513 6=false:=by decide +kernel
theorem yO:Nat.testBit 513 7=false:=by decide +kernel
theorem yN:Nat.testBit 513 8=false:=by decide +kernel
theorem yM:Nat.testBit 513 9=true:=by decide +kernel
theorem vM:Nat.testBit 513 10=false:=by decide +kernel
theorem yL:Nat.testBit 546 0=false:=by decide +kernel
theorem yK:Nat.testBit 546 1=true:=by decide +kernel
theorem yJ:Nat.testBit 546 2=false:=by decide +kernel
theorem yI:Nat.testBit 546 3=false:=by decide +kernel
theorem yH:Nat.testBit 546 4=false:=by decide +kernel
theorem yG:Nat.testBit 546 5=true:=by decide +kernel
theorem yF:Nat.testBit 546 6=false:=by decide +kernel
theorem yE:Nat.testBit 546 7=false:=by decide +kernel
theorem yD:Nat.testBit 546 8=false:=by decide +kernel
theorem yC:Nat.testBit 546 9=true:=by decide +kernel
theorem vL:Nat.testBit 546 10=false:=by decide +kernel
theorem wy:Nat.testBit 1536 0=false:=by decide +kernel
theorem wx:Nat.testBit 1536 1=false:=by decide +kernel
theorem wv:Nat.testBit 1536 2=false:=by decide +kernel
theorem wu:Nat.testBit 1536 3=false:=by decide +kernel
theorem wt:Nat.testBit 1536 4=false:=by decide +kernel
theorem wr:Nat.testBit 1536 5=false:=by decide +kernel
theorem wq:Nat.testBit 1536 6=false:=by decide +kernel
theorem wo:Nat.testBit 1536 7=false:=by decide +kernel
theorem wm:Nat.testBit 1536 8=false:=by decide +kernel
theorem wk:Nat.testBit 1536 9=true:=by decide +kernel
theorem sO:Nat.testBit 1536 10=true:=by decide +kernel
theorem wj:Nat.testBit 1568 0=false:=by decide +kernel
theorem wi:Nat.testBit 1568 1=false:=by decide +kernel
theorem wg:Nat.testBit 1568 2=false:=by decide +kernel
theorem we:Nat.testBit 1568 3=false:=by decide +kernel
theorem wd:Nat.testBit 1568 4=false:=by decide +kernel
theorem wc:Nat.testBit 1568 5=true:=by decide +kernel
theorem wb:Nat.testBit 1568 6=false:=by decide +kernel
theorem wa:Nat.testBit 1568 7=false:=by decide +kernel
theorem v8:Nat.testBit 1568 8=false:=by decide +kernel
theorem vZ:Nat.testBit 1568 9=true:=by decide +kernel
theorem sM:Nat.testBit 1568 10=true:=by decide +kernel
theorem vY:Nat.testBit 1808 0=false:=by decide +kernel
theorem vX:Nat.testBit 1808 1=false:=by decide +kernel
theorem vW:Nat.testBit 1808 2=false:=by decide +kernel
theorem vV:Nat.testBit 1808 3=false:=by decide +kernel
theorem vU:Nat.testBit 1808 4=true:=by decide +kernel
theorem vT:Nat.testBit 1808 5=false:=by decide +kernel
theorem vS:Nat.testBit 1808 6=false:=by decide +kernel
theorem vR:Nat.testBit 1808 7=false:=by decide +kernel
theorem vQ:Nat.testBit 1808 8=true:=by decide +kernel
theorem vP:Nat.testBit 1808 9=true:=by decide +kernel
theorem sL:Nat.testBit 1808 10=true:=by decide +kernel
theorem Fq {a:ActD} (h:a.kind=0):fitsR a=ruleB a:=by
 rw [EY h,fitsR,h,Ei,vd]
 simp only [zeroR,bareA,maskB,zS,zB,zI,zN,wj,wi,wg,we,wd,wc,wb,wa,v8,vZ,sM,ZD,ZE,ZJ,ZF,rule1B,rule2B,rule3B,rule4B,rule5B,rule6B,objectB,targetB,homeB,isDigestB,isShortB,withinB,lt20,grantB,setupB,aO]
 ac_rfl
theorem Fp {a:ActD} (h:a.kind=1):fitsR a=ruleB a:=by
 rw [EX h,fitsR,h,Eg,vc]
 simp only [zeroR,bareA,maskB,zS,zB,zI,zN,zr,zq,zp,zo,zn,zm,zl,zk,zj,zi,vO,ZD,ZE,ZJ,ZF,rule1B,rule2B,rule3B,rule4B,rule5B,rule6B,objectB,targetB,homeB,isDigestB,isShortB,withinB,lt20,grantB,setupB,aO]
 ac_rfl
theorem Fo {a:ActD} (h:a.kind=2):fitsR a=ruleB a:=by
 rw [EW h,fitsR,h,Ef,vb]
 simp only [zeroR,bareA,maskB,zS,zB,zI,zN,lR,lQ,lP,lO,lN,lM,lL,lK,lJ,lI,jI,ZD,ZE,ZJ,ZF,rule1B,rule2B,rule3B,rule4B,rule5B,rule6B,objectB,targetB,homeB,isDigestB,isShortB,withinB,lt20,grantB,setupB,aO]
 ac_rfl
theorem Fm {a:ActD} (h:a.kind=3):fitsR a=ruleB a:=by
 rw [EV h,fitsR,h,Ee,va]
 simp only [zeroR,bareA,maskB,zS,zB,zI,zN,lR,lQ,lP,lO,lN,lM,lL,lK,lJ,lI,jI,ZD,ZE,ZJ,ZF,rule1B,rule2B,rule3B,rule4B,rule5B,rule6B,objectB,targetB,homeB,isDigestB,isShortB,withinB,lt20,grantB,setupB,aO]
 ac_rfl
theorem Fl {a:ActD} (h:a.kind=4):fitsR a=ruleB a:=by
 rw [EU h,fitsR,h,Ed,u9]
 simp only [zeroR,bareA,maskB,zS,zB,zI,zN,l5,l4,lZ,lY,lX,lW,lV,lU,lT,lS,iJ,ZD,ZE,ZJ,ZF,rule1B,rule2B,rule3B,rule4B,rule5B,rule6B,objectB,targetB,homeB,isDigestB,isShortB,withinB,lt20,grantB,setupB,aO]
 ac_rfl
theorem Fk {a:ActD} (h:a.kind=5):fitsR a=ruleB a:=by
 rw [ET h,fitsR,h,Ec,u7]
 simp only [zeroR,bareA,maskB,zS,zB,zI,zN,l5,l4,lZ,lY,lX,lW,lV,lU,lT,lS,iJ,ZD,ZE,ZJ,ZF,rule1B,rule2B,rule3B,rule4B,rule5B,rule6B,objectB,targetB,homeB,isDigestB,isShortB,withinB,lt20,grantB,setupB,aO]
 ac_rfl
theorem Fj {a:ActD} (h:a.kind=6):fitsR a=ruleB a:=by
 rw [ES h,fitsR,h,Eb,uZ]
 simp only [zeroR,bareA,maskB,zS,zB,zI,zN,l5,l4,lZ,lY,lX,lW,lV,lU,lT,lS,iJ,ZD,ZE,ZJ,ZF,rule1B,rule2B,rule3B,rule4B,rule5B,rule6B,objectB,targetB,homeB,isDigestB,isShortB,withinB,lt20,grantB,setupB,aO]
 ac_rfl
theorem Fi {a:ActD} (h:a.kind=7):fitsR a=ruleB a:=by
 rw [ER h,fitsR,h,Ea,uY]
 simp only [zeroR,bareA,maskB,zS,zB,zI,zN,lH,lG,lF,lE,lD,lC,lB,lA,lz,lw,iI,ZD,ZE,ZJ,ZF,rule1B,rule2B,rule3B,rule4B,rule5B,rule6B,objectB,targetB,homeB,isDigestB,isShortB,withinB,lt20,grantB,setupB,aO]
 ac_rfl
theorem Fg {a:ActD} (h:a.kind=8):fitsR a=ruleB a:=by
 rw [EQ h,fitsR,h,D9,uX]
 simp only [zeroR,bareA,maskB,zS,zB,zI,zN,lH,lG,lF,lE,lD,lC,lB,lA,lz,lw,iI,ZD,ZE,ZJ,ZF,rule1B,rule2B,rule3B,rule4B,rule5B,rule6B,objectB,targetB,homeB,isDigestB,isShortB,withinB,lt20,grantB,setupB,aO]
 ac_rfl
theorem Ff {a:ActD} (h:a.kind=9):fitsR a=ruleB a:=by
 rw [EP h,fitsR,h,D8,uW]
 simp only [zeroR,bareA,maskB,zS,zB,zI,zN,lH,lG,lF,lE,lD,lC,lB,lA,lz,lw,iI,ZD,ZE,ZJ,ZF,rule1B,rule2B,rule3B,rule4B,rule5B,rule6B,objectB,targetB,homeB,isDigestB,isShortB,withinB,lt20,grantB,setupB,aO]
 ac_rfl
theorem DG {a:ActD} (h:a.kind=10):fitsR a=ruleB a:=by
 rw [CW h,fitsR,h,AA,q9]
 simp only [zeroR,bareA,maskB,zS,zB,zI,zN,lH,lG,lF,lE,lD,lC,lB,lA,lz,lw,iI,ZD,ZE,ZJ,ZF,rule1B,rule2B,rule3B,rule4B,rule5B,rule6B,objectB,targetB,homeB,isDigestB,isShortB,withinB,lt20,grantB,setupB,aO]
 ac_rfl
theorem DF {a:ActD} (h:a.kind=11):fitsR a=ruleB a:=by
 rw [CV h,fitsR,h,Az,q8]
 simp only [zeroR,bareA,maskB,zS,zB,zI,zN,lH,lG,lF,lE,lD,lC,lB,lA,lz,lw,iI,ZD,ZE,ZJ,ZF,rule1B,rule2B,rule3B,rule4B,rule5B,rule6B,objectB,targetB,homeB,isDigestB,isShortB,withinB,lt20,grantB,setupB,aO]
 ac_rfl
theorem DE {a:ActD} (h:a.kind=12):fitsR a=ruleB a:=by
 rw [CU h,fitsR,h,Ay,qZ]
 simp only [zeroR,bareA,maskB,zS,zB,zI,zN,uH,uG,uF,uE,uD,uC,uB,uA,uz,uy,qu,ZD,ZE,ZJ,ZF,rule1B,rule2B,rule3B,rule4B,rule5B,rule6B,objectB,targetB,homeB,isDigestB,isShortB,withinB,lt20,grantB,setupB,aO]
 ac_rfl
theorem DD {a:ActD} (h:a.kind=13):fitsR a=ruleB a:=by
 rw [CT h,fitsR,h,Ax,qY]
 simp only [zeroR,bareA,maskB,zS,zB,zI,zN,l5,l4,lZ,lY,lX,lW,lV,lU,lT,lS,iJ,ZD,ZE,ZJ,ZF,rule1B,rule2B,rule3B,rule4B,rule5B,rule6B,objectB,targetB,homeB,isDigestB,isShortB,withinB,lt20,grantB,setupB,aO]
 ac_rfl
theorem DC {a:ActD} (h:a.kind=14):fitsR a=ruleB a:=by
 rw [CS h,fitsR,h,Av,qX]
 simp only [zeroR,bareA,maskB,zS,zB,zI,zN,lR,lQ,lP,lO,lN,lM,lL,lK,lJ,lI,jI,ZD,ZE,ZJ,ZF,rule1B,rule2B,rule3B,rule4B,rule5B,rule6B,objectB,targetB,homeB,isDigestB,isShortB,withinB,lt20,grantB,setupB,aO]
 ac_rfl
theorem DB {a:ActD} (h:a.kind=15):fitsR a=ruleB a:=by
 rw [CR h,fitsR,h,Au,qW]
 simp only [zeroR,bareA,maskB,zS,zB,zI,zN,Cn,Cm,Cl,Ck,Cj,Ci,Cg,Cf,Ce,Cd,zt,ZD,ZE,ZJ,ZF,rule1B,rule2B,rule3B,rule4B,rule5B,rule6B,objectB,targetB,homeB,isDigestB,isShortB,withinB,lt20,grantB,setupB,aO]
 ac_rfl
theorem DA {a:ActD} (h:a.kind=16):fitsR a=ruleB a:=by
 rw [CQ h,fitsR,h,As,qV]
 simp only [zeroR,bareA,maskB,zS,zB,zI,zN,zf,ze,zd,zc,zb,za,yZ,yY,yX,yW,vN,ZD,ZE,ZJ,ZF,rule1B,rule2B,rule3B,rule4B,rule5B,rule6B,objectB,targetB,homeB,isDigestB,isShortB,withinB,lt20,grantB,setupB,aO]
 ac_rfl
theorem Dz {a:ActD} (h:a.kind=17):fitsR a=ruleB a:=by
 rw [CP h,fitsR,h,Ar,qU]
 simp only [zeroR,bareA,maskB,zS,zB,zI,zN,Cc,Cb,Ca,B9,B8,B7,B6,B5,B4,B3,zg,ZD,ZE,ZJ,ZF,rule1B,rule2B,rule3B,rule4B,rule5B,rule6B,objectB,targetB,homeB,isDigestB,isShortB,withinB,lt20,grantB,setupB,aO]
 rw [labelB,objectB,targetB,isDigestB]
 cases hz:seqB a.object ⟨#[]⟩ with
 | true =>
  rw [tU _ hz]
  cases isName a.text<;>simp [Bool.and_comm,Bool.and_assoc]
 | false=>cases isName a.text<;>cases decide ((a.object.size:Int)=32)<;>cases seqB a.target ⟨#[]⟩<;>simp [Bool.and_comm,Bool.and_assoc]
theorem Dy {a:ActD} (h:a.kind=18):fitsR a=ruleB a:=by
 rw [CO h,fitsR,h,Aq,qT]
 simp only [zeroR,bareA,maskB,zS,zB,zI,zN,wy,wx,wv,wu,wt,wr,wq,wo,wm,wk,sO,ZD,ZE,ZJ,ZF,rule1B,rule2B,rule3B,rule4B,rule5B,rule6B,objectB,targetB,homeB,isDigestB,isShortB,withinB,lt20,grantB,setupB,aO]
 ac_rfl
theorem Dx {a:ActD} (h:a.kind=19):fitsR a=ruleB a:=by
 rw [CN h,fitsR,h,Ap,qS]
 simp only [zeroR,bareA,maskB,zS,zB,zI,zN,vY,vX,vW,vV,vU,vT,vS,vR,vQ,vP,sL,ZD,ZE,ZJ,ZF,rule1B,rule2B,rule3B,rule4B,rule5B,rule6B,objectB,targetB,homeB,isDigestB,isShortB,withinB,lt20,grantB,setupB,aO]
 ac_rfl
theorem Dv {a:ActD} (h:a.kind=20):fitsR a=ruleB a:=by
 rw [CM h,fitsR,h,Ao,qR]
 simp only [zeroR,bareA,maskB,zS,zB,zI,zN,l5,l4,lZ,lY,lX,lW,lV,lU,lT,lS,iJ,ZD,ZE,ZJ,ZF,rule1B,rule2B,rule3B,rule4B,rule5B,rule6B,objectB,targetB,homeB,isDigestB,isShortB,withinB,lt20,grantB,setupB,aO]
 ac_rfl
theorem Du {a:ActD} (h:a.kind=21):fitsR a=ruleB a:=by
 rw [CL h,fitsR,h,An,qQ]
 simp only [zeroR,bareA,maskB,zS,zB,zI,zN,uH,uG,uF,uE,uD,uC,uB,uA,uz,uy,qu,ZD,ZE,ZJ,ZF,rule1B,rule2B,rule3B,rule4B,rule5B,rule6B,objectB,targetB,homeB,isDigestB,isShortB,withinB,lt20,grantB,setupB,aO]
 ac_rfl
theorem Dt {a:ActD} (h:a.kind=22):fitsR a=ruleB a:=by
 rw [CK h,fitsR,h,Am,qP]
 simp only [zeroR,bareA,maskB,zS,zB,zI,zN,yV,yU,yT,yS,yR,yQ,yP,yO,yN,yM,vM,ZD,ZE,ZJ,ZF,rule1B,rule2B,rule3B,rule4B,rule5B,rule6B,objectB,targetB,homeB,isDigestB,isShortB,withinB,lt20,grantB,setupB,aO]
 ac_rfl
theorem Dr {a:ActD} (h:a.kind=23):fitsR a=ruleB a:=by
 rw [CJ h,fitsR,h,Al,qO]
 simp only [zeroR,bareA,maskB,zS,zB,zI,zN,yL,yK,yJ,yI,yH,yG,yF,yE,yD,yC,vL,ZD,ZE,ZJ,ZF,rule1B,rule2B,rule3B,rule4B,rule5B,rule6B,objectB,targetB,homeB,isDigestB,isShortB,withinB,lt20,grantB,setupB,aO]
 ac_rfl
theorem Dq (a:ActD):fitsR a=ruleB a:=by
 by_cases hk:0≤a.kind∧a.kind≤23
 · rcases ou hk with h|h|h|h|h|h|h|h|h|h|h|h|h|h|h|h|h|h|h|h|h|h|h|h
   · exact Fq h
   · exact Fp h
   · exact Fo h
   · exact Fm h
   · exact Fl h
   · exact Fk h
   · exact Fj h
   · exact Fi h
   · exact Fg h
   · exact Ff h
   · exact DG h
   · exact DF h
   · exact DE h
   · exact DD h
   · exact DC h
   · exact DB h
   · exact DA h
   · exact Dz h
   · exact Dy h
   · exact Dx h
   · exact Dv h
   · exact Du h
   · exact Dt h
   · exact Dr h
 · rw [wS hk,fitsR,rp hk,ZG]
def numsR (a:ActD):Bool:=!isId a.author||(decide (a.seq<0)||(decide (1073741824<a.seq)||(decide (a.time<0)||(decide (1099511627776<a.time)||(decide (a.e<0)||(decide (2305843009213693950≤a.e)||(decide (a.s<0)||decide (2305843009213693950≤a.s))))))))
def seqR (a:ActD):Bool:=decide (a.seq=0)&&(!seqB a.prev ⟨#[]⟩||!decide (a.kind=0))||decide (0<a.seq)&&(!decide ((a.prev.size:Int)=32)||decide (a.kind=0))
theorem dnot {p q:Prop} [Decidable p] [Decidable q] (h:p↔¬ q):decide p=!decide q:=by rw [←decide_not];exact decide_eq_decide.2 h
theorem Aa (a:ActD):(bif numsR a then false else bif seqR a then false else fitsR a)=rightB a:=by
 rw [Dq,rightB,numsR,seqR,placedB,withinB,withinB,withinB,withinB,isDigestB]
 rw [dnot (p:=a.seq<0) (q:=0≤a.seq) aa,dnot (p:=1073741824<a.seq) (q:=a.seq≤1073741824) aa,dnot (p:=a.time<0) (q:=0≤a.time) aa,dnot (p:=1099511627776<a.time) (q:=a.time≤1099511627776) aa,
  dnot (p:=a.e<0) (q:=0≤a.e) aa,dnot (p:=2305843009213693950≤a.e) (q:=a.e≤2305843009213693949) aa,dnot (p:=a.s<0) (q:=0≤a.s) aa,dnot (p:=2305843009213693950≤a.s) (q:=a.s≤2305843009213693949) (by omega)]
 cases isId a.author
 · rfl
 cases decide (0≤a.time)
 · cases decide (0≤a.seq)<;>cases decide (a.seq≤1073741824)<;>simp
 cases decide (a.time≤1099511627776)
 · cases decide (0≤a.seq)<;>cases decide (a.seq≤1073741824)<;>simp
 cases decide (0≤a.e)
 · cases decide (0≤a.seq)<;>cases decide (a.seq≤1073741824)<;>simp
 cases decide (a.e≤2305843009213693949)
 · cases decide (0≤a.seq)<;>cases decide (a.seq≤1073741824)<;>simp
 cases decide (0≤a.s)
 · cases decide (0≤a.seq)<;>cases decide (a.seq≤1073741824)<;>simp
 cases decide (a.s≤2305843009213693949)
 · cases decide (0≤a.seq)<;>cases decide (a.seq≤1073741824)<;>simp
 by_cases h0:a.seq=0
 · rw [h0]
   cases seqB a.prev ⟨#[]⟩<;>cases decide (a.kind=0)<;>simp
 by_cases h1:0<a.seq
 · rw [Zn h0,ZA h1,ZA (show 0≤a.seq by omega),ZA (show 1≤a.seq by omega)]
   cases decide (a.seq≤1073741824)<;>cases decide ((a.prev.size:Int)=32)<;>cases decide (a.kind=0)<;>simp
 · rw [Zn h0,Zn (show ¬ 0≤a.seq by omega),Zn (show ¬ 1≤a.seq by omega)]
   simp
set_option maxRecDepth 8000 in
set_option maxHeartbeats 8000000 in
theorem kq (a:ActD) (hs:a.Str):Pu Tryz.prog 78 #[a.v] (ActD.at_ · a) (.bool (rightB a)):=by
 refine ak (args:=[_]) _ Tryz.func78 rfl Tryz.ntmps78 rfl fun av bor w0=>?_
 rw [←Aa]
 have c1:=fV a.author hs.author
 have c2:=tj a hs
 repeat' (first|(refine ab (hc:=c1) (hX:=fun _ _=>trivial) ?_)|(refine ab (hc:=c2) (hX:=fun w h=>h) ?_)|refine gs ?_|refine gs1 fun _=>?_|(refine gp ?_ ?_<;>intro hx_ this)|fail)
 all_goals refine ad (ag rfl rfl) ?_
 all_goals first
  | rfl
  | (simp only [numsR,seqR, *,ZQ,ZO,ZC,ZB,ZE,ZD,ZH,ZG,ZK,ZI,ZP,ZJ,ZN,ZF];done)
  | (simp_all [numsR,seqR];done)
  | (simp_all [numsR,seqR];intros;omega)
  | skip
theorem oe (b:BoxD) (hb:b.Fit):Pu Tryz.prog 225 #[b.v] (fun _=>True) (.string (boxV b)):=by
 refine ak (args:=[_]) _ Tryz.func225 rfl Tryz.ntmps225 rfl fun av bor w0=>?_
 have h1:=ay b.nonce
 have h2:=ay b.data
 have h3:=ay b.tag
 have k1:=hb.nonce
 have k2:=hb.data
 have k3:=hb.tag
 repeat' (first|refine gs ?_|refine gs1 fun _=>?_|(refine gp ?_ ?_<;>intro hx_ this)|fail)
 (refine aS ⟨[0,1,3,4,7,8],[(2,⟨[],[(5,⟨[6],[(9,⟨[10,11],[]⟩)]⟩)]⟩)]⟩ (h:=?_))
 all_goals repeat' (first|refine ab (hc:=cW _ aa) ?_|refine gd ?_|refine ax (hy:=by first|(apply dq;rfl;rfl;(try simp only [Zl]);omega)) ?_|refine az ?_ (h':=?_)|exact aA|refine gs1 fun _=>?_|(refine gq ?_ ?_<;>intro hx_ this)|fail)
 repeat' (first|refine gs ?_|refine gs1 fun _=>?_|(refine gp ?_ ?_<;>intro hx_ this)|fail)
 all_goals exact ad (ag rfl rfl) rfl
theorem yq {w:World} {p:Option Addr} {q:Nat} {x:WrapD} (h:∀ j u,x.cells[j]?=some u→CellAt w p (q+j) u):∀ j u,x.box.cells[j]?=some u→CellAt w p (q+2+j) u:=fun j u hj=>by
 have h1:=h (j+2) u hj
 rw [show q+2+j=q+(j+2) from by omega]
 exact h1
set_option maxRecDepth 8000 in
set_option maxHeartbeats 8000000 in
theorem tn (a:ActD) (hs:a.Str) (ha:rightB a=true→a.Fit):Pu Tryz.prog 154 #[a.v] (ActD.at_ · a) (.string (actCore a)):=by
 have hri:=kq a hs
 rw [actCore]
 cases hrB:rightB a with
 | false =>
  rw [hrB] at hri
  refine ak (args:=[_]) _ Tryz.func154 rfl Tryz.ntmps154 rfl fun av bor w0=>?_
  repeat' (first|(refine ab (hc:=hri) (hX:=fun w h=>h) ?_)|refine gs ?_|refine gs1 fun _=>?_|(refine gp ?_ ?_<;>intro hx_ this)|fail)
  exact ad (ag rfl rfl) rfl
 | true =>
 rw [hrB] at hri
 replace ha:=ha hrB
 refine ak (args:=[_]) _ Tryz.func154 rfl Tryz.ntmps154 rfl fun av bor w0=>?_
 refine aJ (p:=a.wraps.n=a.wrapsL.length∧a.wraps.n≤maxLen∧(0<a.wrapsL.length→a.wraps.p.isSome=true)) (fun w h=>⟨h.2.len_,Qr (RowsD.cap h.2) (RowsD.max h.2),h.2.some_⟩) fun ⟨hl,hm,hp⟩=>?_
 simp only [maxLen] at hm
 obtain ⟨i1,i2,i3,i4,i5,i6,i7,i8,i9⟩:=ha.ints
 have s1:=ay a.author
 have s2:=ay a.prev
 have s3:=ay a.object
 have s4:=ay a.target
 have s5:=ay a.group
 have s6:=ay a.text
 have s7:=ay ⟨#[97,99,116]⟩
 have s8:=f0 ha.body
 have h1:=ha.author
 have h2:=ha.prev
 have h3:=ha.object
 have h4:=ha.target
 have h5:=ha.group
 have h6:=ha.text
 have h7:=ha.to
 have h8:(⟨#[97,99,116]⟩:ByteArray).size=3:=rfl
 have n1:=ao a.seq
 have n2:=ao a.kind
 have n3:=ao a.time
 have n4:=ao a.scope
 have n5:=ao a.epoch
 have n6:=ao a.wraps.n
 have n7:=ao a.n
 have n8:=ao a.m
 repeat' (first|(refine ab (hc:=hri) (hX:=fun w h=>h) ?_)|refine gs ?_|refine gs1 fun _=>?_|(refine gp ?_ ?_<;>intro hx_ this)|fail)
 (refine aS ⟨[1,2,5,6,9,10,13,14,17,18],[(0,⟨[],[(3,⟨[4],[(7,⟨[8],[(11,⟨[12],[(15,⟨[16],[(19,⟨[20,21],[]⟩)]⟩)]⟩)]⟩)]⟩)]⟩)]⟩ (h:=?_))
 all_goals repeat' (first|refine ab (hc:=cj _ aa) ?_|refine ab (hc:=cW _ aa) ?_|refine gd ?_|refine ax (hy:=by first|(apply dq;rfl;rfl;(try simp only [Zl]);omega)) ?_|refine az ?_ (h':=?_)|exact aA|refine gs1 fun _=>?_|(refine gq ?_ ?_<;>intro hx_ this)|fail)
 repeat' (first|refine gs ?_|refine gs1 fun _=>?_|(refine gp ?_ ?_<;>intro hx_ this)|fail)
 (refine aS ⟨[0,1,2,5,6,9,10,13,14,17,18,21,22],[(3,⟨[4],[(7,⟨[8],[(11,⟨[12],[(15,⟨[16],[(19,⟨[20],[(23,⟨[24,25],[]⟩)]⟩)]⟩)]⟩)]⟩)]⟩)]⟩ (h:=?_))
 all_goals repeat' (first|refine ab (hc:=cj _ aa) ?_|refine ab (hc:=cW _ aa) ?_|refine ab (hc:=ms a.to a.toL aa) ?_|refine gd ?_|refine ax (hy:=by first|(apply dq;rfl;rfl;(try simp only [Zl]);omega)) ?_|refine az ?_ (h':=?_)|exact aA|refine gs1 fun _=>?_|(refine gq ?_ ?_<;>intro hx_ this)|fail)
 repeat' (first|refine gs ?_|refine gs1 fun _=>?_|(refine gp ?_ ?_<;>intro hx_ this)|fail)
 (refine aS ⟨[0,1,2,5,6,9,10,11],[(3,⟨[4],[(7,⟨[8],[(12,⟨[13,14],[]⟩)]⟩)]⟩)]⟩ (h:=?_))
 all_goals repeat' (first|refine ab (hc:=cj _ aa) ?_|refine ab (hc:=oe a.body ha.body) ?_|refine gd ?_|refine ax (hy:=by first|(apply cq;rfl;(repeat (first|exact ar|apply ZS));exact ActD.cells_body _;rfl)|(apply dq;rfl;rfl;(try simp only [Zl]);omega)) ?_|refine az ?_ (h':=?_)|exact aA|refine gs1 fun _=>?_|(refine gq ?_ ?_<;>intro hx_ this)|fail)
 repeat' (first|refine gs ?_|refine gs1 fun _=>?_|(refine gp ?_ ?_<;>intro hx_ this)|fail)
 rename_i b
 have hc4:(core4 a).size≤100000000000:=by
  have:(numV a.wrapsL.length).size≤10:=ao _
  simp only [core4,core3,core2,core1,Zl]
  omega
 have hle:=eP (a.wrapsL.map wrapV)
 have hw:=ha.wrapsV
 have e0:core5 a 0=core4 a:=by simp [core5,cats]
 refine ap (ι:=Kth a.wrapsL.length) (fun i=>⟨[(1,.pointer (some ⟨b,0,none⟩)),(4,.string (core5 a i.k)),(5,.int .i64 (i.k:Nat))],[cel b 50 a.cells],(ActD.at_ · a)⟩) (fun i=>a.wrapsL.length-i.k) ⟨0,Nat.zero_le _⟩ (aj ⟨rfl,?_,rfl,trivial⟩ (al _) fun _ h=>h) fun i=>?_
 · simp only [e0,core4,core3,core2,core1,←hl,ZV];rfl
 have hik:=i.hk
 have hk5:(core5 a i.k).size≤200000000000:=by have:=hle i.k;simp only [core5,Zl];omega
 repeat' (first|refine gs ?_|refine gs1 fun _=>?_|(refine gp ?_ ?_<;>intro hx_ this)|fail)
 · have hlt:i.k<a.wrapsL.length:=by omega
   have hp':=hp aa
   obtain ⟨x,hx⟩:∃ x,a.wrapsL[i.k]?=some x:=⟨_,Zm hlt⟩
   have hxm:x∈a.wrapsL:=List.mem_of_getElem? hx
   have hf:=ha.wraps x hxm
   have hfs:=f0 hf
   obtain ⟨w1,w2⟩:=ha.wints x hxm
   have m1:=ao x.to
   have m2:=ao x.eph
   (refine aq ⟨[0,1,2,3,4,5,6,9,10,11,12,13,14,17,18,19,20,21,22],[(7,⟨[8],[(15,⟨[16],[(23,⟨[24,25],[]⟩)]⟩)]⟩)]⟩ [cel b 50 a.cells] (ActD.at_ · a) (h:=?_))
   all_goals repeat' (first|refine ab (hc:=cj _ aa) ?_|refine ab (hc:=oe x.box hf) ?_|refine gdz ?_|refine ax (hy:=by first|(apply aB (q:=i.k*5);rfl;rfl;omega;omega;assumption;omega)|(apply gG;rfl;assumption;rfl)|(apply eI (q:=i.k*5) (u:=.int .i64 x.to);rfl;exact fun w h=>(Wraps.get h.2 hx).2.2 0 _ rfl)|(apply eI (q:=i.k*5+1) (u:=.int .i64 x.eph);rfl;exact fun w h=>(Wraps.get h.2 hx).2.2 1 _ rfl)|(apply d9 (q:=i.k*5+2) (cs:=x.box.cells);rfl;exact fun w h=>⟨rfl,(Wraps.get h.2 hx).2.1,yq (Wraps.get h.2 hx).2.2⟩)|(apply dq;rfl;rfl;(try simp only [Zl]);omega)) ?_|refine az ?_ (h':=?_)|exact aA|refine gs1 fun _=>?_|(refine gq ?_ ?_<;>intro hx_ this)|fail)
   repeat' (first|refine gs ?_|refine gs1 fun _=>?_|(refine gp ?_ ?_<;>intro hx_ this)|fail)
   have hsucc:=fu (a.wrapsL.map wrapV) (k:=i.k) (by simpa using hlt)
   have hget:(a.wrapsL.map wrapV).getD i.k .empty=wrapV x:=by simp [hx]
   rw [hget] at hsucc
   have e2:core5 a (i.k+1)=core5 a i.k++numV x.to++numV x.eph++boxV x.box:=by simp only [core5,hsucc,ZV,wrapV]
   all_goals exact ⟨(⟨i.k+1,hlt⟩:Kth a.wrapsL.length),(by show a.wrapsL.length-(i.k+1)<a.wrapsL.length-i.k;omega),aj ⟨rfl,by rw [e2];rfl,rfl,trivial⟩ (al _) fun _ h=>h⟩
 have hke:i.k=a.wrapsL.length:=by omega
 (refine aS ⟨[0,1,2,5,6],[(3,⟨[4],[(7,⟨[8,9],[]⟩)]⟩)]⟩ (h:=?_))
 all_goals repeat' (first|refine ab (hc:=cj _ aa) ?_|refine gd ?_|refine ax (hy:=by first|(apply dq;rfl;rfl;(try simp only [Zl]);omega)) ?_|refine az ?_ (h':=?_)|exact aA|refine gs1 fun _=>?_|(refine gq ?_ ?_<;>intro hx_ this)|fail)
 repeat' (first|refine gs ?_|refine gs1 fun _=>?_|(refine gp ?_ ?_<;>intro hx_ this)|fail)
 refine ad (ag rfl rfl) ?_
 simp only [ZC,coreV,←hke]
theorem mv (a:ActD) (hs:a.Str) (ha:rightB a=true→a.Fit) (hi:a.e<9223372036854775808∧a.s<9223372036854775808):Pu Tryz.prog 89 #[a.v] (ActD.at_ · a) (.string (actBytes a)):=by
 refine ak (args:=[_]) _ Tryz.func89 rfl Tryz.ntmps89 rfl fun av bor w0=>?_
 obtain ⟨i8,i9⟩:=hi
 have n7:=ao a.e
 have n8:=ao a.s
 have hc:(actCore a).size≤300000000000:=by
  unfold actCore
  cases hrB:rightB a with
  | true=>exact fy (ha hrB)
  | false=>simp [ByteArray.size]
 have hcp:=tn a hs ha
 repeat' (first|(refine ab (hc:=hcp) (hX:=fun w h=>h) ?_)|refine gs ?_|refine gs1 fun _=>?_|(refine gp ?_ ?_<;>intro hx_ this)|fail)
 · (all_goals (apply ad;apply ag;rfl;rfl));all_goals first|rfl|(simp only [actBytes, *,ZQ,ZO,ZC,ZB,ZE,ZD,ZH,ZG,ZK,ZI,ZP,ZJ,ZN,ZF];done)|(simp_all [actBytes];done)
 (refine aS ⟨[0,1,2,3,6,7,8],[(4,⟨[5],[(9,⟨[10,11],[]⟩)]⟩)]⟩ (h:=?_))
 all_goals repeat' (first|refine ab (hc:=cj _ aa) ?_|refine gd ?_|refine ax (hy:=by first|(apply dq;rfl;rfl;(try simp only [Zl]);omega)) ?_|refine az ?_ (h':=?_)|exact aA|refine gs1 fun _=>?_|(refine gq ?_ ?_<;>intro hx_ this)|fail)
 repeat' (first|refine gs ?_|refine gs1 fun _=>?_|(refine gp ?_ ?_<;>intro hx_ this)|fail)
 all_goals ((all_goals (apply ad;apply ag;rfl;rfl));all_goals first|rfl|(simp only [actBytes, *,ZQ,ZO,ZC,ZB,ZE,ZD,ZH,ZG,ZK,ZI,ZP,ZJ,ZN,ZF];done)|(simp_all [actBytes];done))
theorem sZ:Tryz.prog.underlying 48=some (.struct (Tryz.prog.fieldsOf 48)):=by kernel_rfl
theorem wK:Tryz.prog.stoodInHeld 48=false:=by kernel_rfl
theorem wL:Tryz.prog.eqGuardType Tryz.prog.depth 48=false:=by kernel_rfl
theorem wO (w:World) (a b c d:Int):(Op.equalIn 10000 48 (.agg #[.int .i64 a,.int .i64 b]) (.agg #[.int .i64 c,.int .i64 d])).run Tryz.prog w=.ok (decide (a=c)&&decide (b=d)) w:=by
 have e:(10000:Nat)=9999+1:=rfl
 have e2:(9999:Nat)=9998+1:=rfl
 rw [e,run_equalIn_agg _ _ _ _ _ sZ wK]
 have hf:(Tryz.prog.fieldsOf 48).toList.map (fun f=>(f.name,f.type,f.offset))=[("E",3,0),("S",3,1)]:=by kernel_rfl
 generalize (Tryz.prog.fieldsOf 48).toList=l at hf
 rcases l with _|⟨f1,_|⟨f2,_|⟨f3,l⟩⟩⟩
 case cons.cons.nil =>
  simp only [Qv,List.map_nil,List.cons.injEq,Prod.mk.injEq,and_true] at hf
  obtain ⟨⟨n1,t1,o1⟩,n2,t2,o2⟩:=hf
  have hag:=fun w=>(cd (TyOne.out (P:=Tryz.prog) (t:=3)) w).1
  have hst:=fun (x y:Int) (w:World)=>run_equalIn_int (P:=Tryz.prog) w 9998 3 .i64 .i64 x y TyInt.out
  cases h1:decide (a=c)<;>cases h2:decide (b=d) <;>
  · simp only [ZT,decide_eq_false_iff_not] at h1 h2
    simp [Op.eqFields,n1,n2,t1,t2,o1,o2,part,hag,e2,hst,h1,h2]
 all_goals (have:=congrArg List.length hf;simp at this)
theorem BU {N:Nat} {av bor:List Nat} {w0:World} {E:Env} {loc:List Res} {X:World→Prop} {ty t2:TypeId} {x y:Operand} {a b c d:Int} (hx:ev E x=some (.agg #[.int .i64 a,.int .i64 b])) (hy:ev E y=some (.agg #[.int .i64 c,.int .i64 d])) :
  Sy.Yields Tryz.prog N av bor w0 ⟨E,loc,X⟩ (.binOp .eql 48 x y t2) ty (.bool (decide (a=c)&&decide (b=d))):=Sy.Yields.mk fun A w ok dd pos af g=>by
 have h1:=run_eql_struct (P:=Tryz.prog) w 48 #[.int .i64 a,.int .i64 b] #[.int .i64 c,.int .i64 d]
 have h2:=wO w a b c d
 rw [h2] at h1
 simp [execOp,ok.eval (st:=⟨E,loc,X⟩) hx,ok.eval (st:=⟨E,loc,X⟩) hy,run_eqGuard_agg _ _ _ _ _ _ _ wL,h1]
section
variable {N:Nat} {av bor:List Nat} {w0:World} {ops:Array Oper} {rest:List Oper} {kk:St→Prop} {E:Env} {loc:List Res} {X:World→Prop} {n:Nat} {ty t2:TypeId} {pos:String} {af:Array Edge} {g:Option (Nat×Bool)} {bb want:Bool} {x y:Operand} {a b c d:Int}
theorem zx (h:Sw Tryz.prog N av bor w0 ops rest ⟨(n,.bool (decide (a=c)&&decide (b=d)))::E,loc,X⟩ kk) (hx:ev E x=some (.agg #[.int .i64 a,.int .i64 b]):=by rfl) (hy:ev E y=some (.agg #[.int .i64 c,.int .i64 d]):=by rfl) (hg:gdB ops E g=some (bb,want):=by rfl) (hbb:bb=want:=by exact am) (hd:Nat.blt n N=true:=by rfl) :
  Sw Tryz.prog N av bor w0 ops (⟨some n,.binOp .eql 48 x y t2,ty,pos,af,g⟩::rest) ⟨E,loc,X⟩ kk:=ai (BU hx hy) hg hbb hd h
end
def sameZ (a:ActD):Bool:=decide ((a.to.n:Int)=0)&&(decide ((a.wraps.n:Int)=0)&&(seqB a.author ActD.zero.author&&(decide (a.seq=ActD.zero.seq)&&(seqB a.prev ActD.zero.prev&&(decide (a.kind=ActD.zero.kind)&&(decide (a.time=ActD.zero.time)&&(seqB a.object ActD.zero.object&&(seqB a.target ActD.zero.target&&(decide (a.scope=ActD.zero.scope)&&(seqB a.group ActD.zero.group&&(seqB a.text ActD.zero.text&&(boxEq a.body BoxD.zero&&(decide (a.epoch=ActD.zero.epoch)&&(decide (a.n=ActD.zero.n)&&(decide (a.m=ActD.zero.m)&&(decide (a.e=0)&&decide (a.s=0)))))))))))))))))
set_option maxRecDepth 20000 in
set_option maxHeartbeats 8000000 in
theorem te (a:ActD):Pu Tryz.prog 76 #[a.v,ActD.zero.v] (fun _=>True) (.bool (sameZ a)):=by
 refine ak (args:=[_,_]) _ Tryz.func76 rfl Tryz.ntmps76 rfl fun av bor w0=>?_
 repeat' (first|apply bL|apply Qw|apply Qx|refine br ?_|refine aK ?_|refine cb ?_|refine cC ?_|refine aL ?_|refine aT ?_|refine aU ?_|refine co ?_|refine cr ?_|refine bV ?_|refine bI ?_|refine bT ?_|refine bH ?_|refine cg ?_|refine dH (h:=?_)|refine bj ?_|refine bn ?_|refine be ?_|refine ci fun _=>?_|refine QA ?_|refine QB ?_|apply Qz|apply Qy|apply cw_ret|apply cw_exit|refine sy_beql (h:=?_)|refine bQ ?_|refine bw ?_|refine bu ?_|((fail_if_success (refine cv ?_));refine bp (ht:=?_) (hf:=?_);all_goals (intro hx_;first|have:=aM hx_|have:=aY hx_|skip))|(refine cw_cond (ht:=?_) (hf:=?_);all_goals (intro hx_;first|have:=aM hx_|have:=aY hx_|skip)))
 · refine ad (ag rfl rfl) ?_
   have h0:ActD.zero.to.n=0:=rfl
   rw [h0] at hx_
   simp_all [sameZ]
 · refine ad (ag rfl rfl) ?_
   have h0:ActD.zero.wraps.n=0:=rfl
   rw [h0] at hx_
   simp_all [sameZ]
 rename_i b1 b2 g1
 have n1:a.to.n=0:=by
  have h0:ActD.zero.to.n=0:=rfl
  rw [h0] at g1
  simpa using g1
 have n2:a.wraps.n=0:=by
  have h0:ActD.zero.wraps.n=0:=rfl
  rw [h0] at hx_
  simpa using hx_
 refine ap (ι:=Unit) (fun _=>⟨[(2,.pointer (some ⟨b1,0,none⟩)),(3,.pointer (some ⟨b2,0,none⟩)),(5,.int .i64 0)],[cel b2 50 ActD.zero.cells,cel b1 50 a.cells],fun _=>True⟩) (fun _=>0) () (aj ⟨rfl,rfl,rfl,trivial⟩ (al _) fun _ h=>h) fun _=>?_
 repeat' (first|apply bL|apply Qw|apply Qx|refine br ?_|refine aK ?_|refine cb ?_|refine cC ?_|refine aL ?_|refine aT ?_|refine aU ?_|refine co ?_|refine cr ?_|refine bV ?_|refine bI ?_|refine bT ?_|refine bH ?_|refine cg ?_|refine dH (h:=?_)|refine bj ?_|refine bn ?_|refine be ?_|refine ci fun _=>?_|refine QA ?_|refine QB ?_|apply Qz|apply Qy|apply cw_ret|apply cw_exit|refine sy_beql (h:=?_)|refine bQ ?_|refine bw ?_|refine bu ?_|((fail_if_success (refine cv ?_));refine bp (ht:=?_) (hf:=?_);all_goals (intro hx_;first|have:=aM hx_|have:=aY hx_|skip))|(refine cw_cond (ht:=?_) (hf:=?_);all_goals (intro hx_;first|have:=aM hx_|have:=aY hx_|skip)))
 · exact absurd this (by rw [n1];decide)
 refine ap (ι:=Unit) (fun _=>⟨[(2,.pointer (some ⟨b1,0,none⟩)),(3,.pointer (some ⟨b2,0,none⟩)),(6,.int .i64 0)],[cel b2 50 ActD.zero.cells,cel b1 50 a.cells],fun _=>True⟩) (fun _=>0) () (aj ⟨rfl,rfl,rfl,trivial⟩ (al _) fun _ h=>h) fun _=>?_
 repeat' (first|apply bL|apply Qw|apply Qx|refine br ?_|refine aK ?_|refine cb ?_|refine cC ?_|refine aL ?_|refine aT ?_|refine aU ?_|refine co ?_|refine cr ?_|refine bV ?_|refine bI ?_|refine bT ?_|refine bH ?_|refine cg ?_|refine dH (h:=?_)|refine bj ?_|refine bn ?_|refine be ?_|refine ci fun _=>?_|refine QA ?_|refine QB ?_|apply Qz|apply Qy|apply cw_ret|apply cw_exit|refine sy_beql (h:=?_)|refine bQ ?_|refine bw ?_|refine bu ?_|(refine iK (a:=a.body) (b:=BoxD.zero) ?_)|(refine zx (a:=a.e) (b:=a.s) (c:=0) (d:=0) ?_)|(refine aw ?_)|(refine aw (vs:=[.int .i64 a.e,.int .i64 a.s]) (hv:=rfl) ?_)|(refine aw (vs:=[.int .i64 0,.int .i64 0]) (hv:=rfl) ?_)|((fail_if_success (refine cv ?_));refine bp (ht:=?_) (hf:=?_);all_goals (intro hx_;first|have:=aM hx_|have:=aY hx_|skip))|(refine cw_cond (ht:=?_) (hf:=?_);all_goals (intro hx_;first|have:=aM hx_|have:=aY hx_|skip)))
 · exact absurd this (by rw [n2];decide)
 all_goals (
  refine ad (ag rfl rfl) ?_
  have q1:decide ((a.to.n:Int)=0)=true:=by rw [n1];rfl
  have q2:decide ((a.wraps.n:Int)=0)=true:=by rw [n2];rfl
  rw [sameZ,q1,q2]
  clear q1 q2 n1 n2
  first
   | rfl
   | (simp_all only [ZD,ZG,ZH,ZQ,ZO,ZE];done)
   | (simp_all;done)
   | skip)
theorem CellAt.same {w:World} {p:Option Addr} {q:Nat} {u v:Value} (h1:CellAt w p q u) (h2:CellAt w p q v):u=v:=by
 obtain ⟨a,ha⟩:=Option.isSome_iff_exists.1 h1.1
 have:=(h1.2 a ha).symm.trans (h2.2 a ha)
 exact Option.some.inj this
theorem Strs.same {w:World} {s:SlV} {l m:List ByteArray} (h1:Strs w s l) (h2:Strs w s m):l=m:=by
 have hl:l.length=m.length:=h1.len_.symm.trans h2.len_
 apply List.ext_getElem hl
 intro i i1 i2
 have a1:=h1.at_ (Zm i1)
 have a2:=h2.at_ (Zm i2)
 exact Value.string.inj (CellAt.same a1 a2)
section
variable {H:Type} {enc:TypeId×Value→H} {P:Program} {w:World} {base:Nat} {spare:Nat→Bool} {held:Bool}
theorem SlV.v_inj {s t:SlV} (h:s.v=t.v):s=t:=by
 obtain ⟨p,n,c⟩:=s
 obtain ⟨p',n',c'⟩:=t
 simp only [SlV.v,Value.slice.injEq] at h
 obtain ⟨rfl,rfl,rfl⟩:=h
 rfl
theorem BQ {fuel:Nat} {a:ActD} {x:DataW H×List MemPlace} (h:DataW.trod enc Tryz.prog w base spare held fuel 50 a.cells=some x) (ha:a.at_ w):a.Str:=by
 obtain ⟨n0,y0,h0⟩:=aI (i:=0) (off:=0) (k:=1) (t':=9) Tryz.underlying50 h rfl rfl rfl ae
 obtain ⟨n6,y6,h6⟩:=aI (i:=6) (off:=6) (k:=1) (t':=9) Tryz.underlying50 h rfl rfl rfl ae
 obtain ⟨n8,y8,h8⟩:=aI (i:=8) (off:=8) (k:=1) (t':=9) Tryz.underlying50 h rfl rfl rfl ae
 obtain ⟨n9,y9,h9⟩:=aI (i:=9) (off:=9) (k:=1) (t':=28) Tryz.underlying50 h rfl rfl rfl ae
 obtain ⟨n10,y10,h10⟩:=aI (i:=10) (off:=10) (k:=1) (t':=9) Tryz.underlying50 h rfl rfl rfl ae
 obtain ⟨s0,e0,b0⟩:=bN h0
 obtain ⟨s6,e6,b6⟩:=bN h6
 obtain ⟨s8,e8,b8⟩:=bN h8
 obtain ⟨s9,l9,e9,r9,b9⟩:=fI h9
 obtain ⟨s10,e10,b10⟩:=bN h10
 simp [ActD.cells] at e0 e6 e8 e9 e10
 have e9':=SlV.v_inj e9
 subst e0;subst e6;subst e8;subst e10
 rw [←e9'] at r9
 have e:=Strs.same ha.1 r9
 exact ⟨b0,b6,b8,b10,by rw [e];exact b9⟩
theorem xf {fuel:Nat} {cs:List Value} {x:DataW H×List MemPlace} (h:DataW.trod enc Tryz.prog w base spare held fuel 50 cs=some x):∃ a:ActD,cs=a.cells∧a.at_ w∧a.Rng∧a.target.size≤maxLen∧a.Str:=by
 obtain ⟨a,e,h1,h2,h3⟩:=Ak h
 subst e
 exact ⟨a,rfl,h1,h2,h3,BQ h h1⟩
end
end Go.Proofs.YtoefdofbekihdaaGreatDoor
