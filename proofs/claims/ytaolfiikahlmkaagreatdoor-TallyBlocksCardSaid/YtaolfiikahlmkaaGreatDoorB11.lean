/- Joined. -/
import Derived.Test.YtaolfiikahlmkaaGreatDoorB10
set_option linter.unusedVariables false
set_option linter.unusedSimpArgs false
set_option maxHeartbeats 16000000
namespace Go.Proofs.YtaolfiikahlmkaaGreatDoor
open Go Go.Proofs Sy Tryz
def okR (k:Int) (a:Xa):Bool :=
 bif decide (k=0) then (isPublicB a.n&&decide (0≤a.m)&&decide (a.m<20))&&isName a.text else bif decide (k=1) then audienceB a else bif decide (k=2) then audienceB a&&decide ((a.object.size:Int)=32) else bif decide (k=3) then audienceB a&&decide ((a.object.size:Int)=32) else bif decide (k=4) then decide ((a.object.size:Int)=32) else bif decide (k=5) then decide ((a.object.size:Int)=32) else bif decide (k=6) then decide ((a.object.size:Int)=32) else bif decide (k=7) then isId a.target else bif decide (k=8) then isId a.target else bif decide (k=9) then isId a.target else bif decide (k=10) then isId a.target else bif decide (k=11) then isId a.target else bif decide (k=12) then decide ((a.object.size:Int)=32)&&decide ((a.text.size:Int)≤500) else bif decide (k=13) then decide ((a.object.size:Int)=32) else bif decide (k=14) then audienceB a&&decide ((a.object.size:Int)=32) else bif decide (k=15) then isIds a.toL&&isName a.group else bif decide (k=16) then isIds a.toL&&decide (1≤a.scope)&&decide (a.scope≤3)&&groupR a&&decide (0≤a.epoch)&&decide (a.epoch≤1073741824)&&wrappedB a else bif decide (k=17) then (bif !seqB a.object ⟨#[]⟩ then isName a.text&&decide ((a.object.size:Int)=32)&&seqB a.target ⟨#[]⟩ else isName a.text&&isId a.target) else bif decide (k=18) then (isPublicB a.n&&decide (0≤a.m)&&decide (a.m<20)) else bif decide (k=19) then isIds a.toL&&decide (0<(a.to.n:Int))&&wrappedB a&&decide (1≤a.n)&&decide (a.n≤(a.to.n:Int))&&isPublicB a.m else bif decide (k=20) then decide ((a.object.size:Int)=32) else bif decide (k=21) then decide ((a.object.size:Int)=32)&&decide ((a.text.size:Int)≤500) else bif decide (k=22) then decide ((a.object.size:Int)=32)&&decide (0≤a.n)&&decide (a.n≤1) else bif decide (k=23) then isId a.target&&decide ((a.text.size:Int)≤500)&&decide (0≤a.n)&&decide (a.n≤1099511627776) else false
def restA (k:Int) (a:Xa):Xa :=
 bif decide (k=0) then { a with text:=⟨#[]⟩,n:=0,m:=0 } else bif decide (k=1) then bareA a else bif decide (k=2) then { bareA a with object:=⟨#[]⟩ } else bif decide (k=3) then { bareA a with object:=⟨#[]⟩ } else bif decide (k=4) then { a with object:=⟨#[]⟩ } else bif decide (k=5) then { a with object:=⟨#[]⟩ } else bif decide (k=6) then { a with object:=⟨#[]⟩ } else bif decide (k=7) then { a with target:=⟨#[]⟩ } else bif decide (k=8) then { a with target:=⟨#[]⟩ } else bif decide (k=9) then { a with target:=⟨#[]⟩ } else bif decide (k=10) then { a with target:=⟨#[]⟩ } else bif decide (k=11) then { a with target:=⟨#[]⟩ } else bif decide (k=12) then { a with object:=⟨#[]⟩,text:=⟨#[]⟩ } else bif decide (k=13) then { a with object:=⟨#[]⟩ } else bif decide (k=14) then { bareA a with object:=⟨#[]⟩ } else bif decide (k=15) then { a with group:=⟨#[]⟩,to:=⟨none,0,0⟩,toL:=[] } else bif decide (k=16) then { a with scope:=0,group:=⟨#[]⟩,to:=⟨none,0,0⟩,toL:=[],epoch:=0,wraps:=⟨none,0,0⟩,wrapsL:=[] } else bif decide (k=17) then { a with text:=⟨#[]⟩,object:=⟨#[]⟩,target:=⟨#[]⟩ } else bif decide (k=18) then { a with n:=0,m:=0 } else bif decide (k=19) then { a with to:=⟨none,0,0⟩,toL:=[],wraps:=⟨none,0,0⟩,wrapsL:=[],n:=0,m:=0 } else bif decide (k=20) then { a with object:=⟨#[]⟩ } else bif decide (k=21) then { a with object:=⟨#[]⟩,text:=⟨#[]⟩ } else bif decide (k=22) then { a with object:=⟨#[]⟩,n:=0 } else bif decide (k=23) then { a with target:=⟨#[]⟩,text:=⟨#[]⟩,n:=0 } else a
def fitsR (a:Xa):Bool:=okR a.kind a&&zeroR (restA a.kind a)
theorem IH (a:Xa):okR 0 a=((isPublicB a.n&&decide (0≤a.m)&&decide (a.m<20))&&isName a.text):=rfl
theorem yk (a:Xa):restA 0 a=({ a with text:=⟨#[]⟩,n:=0,m:=0 }:Xa):=rfl
theorem IG (a:Xa):okR 1 a=(audienceB a):=rfl
theorem yj (a:Xa):restA 1 a=(bareA a:Xa):=rfl
theorem IF (a:Xa):okR 2 a=(audienceB a&&decide ((a.object.size:Int)=32)):=rfl
theorem yi (a:Xa):restA 2 a=({ bareA a with object:=⟨#[]⟩ }:Xa):=rfl
theorem IE (a:Xa):okR 3 a=(audienceB a&&decide ((a.object.size:Int)=32)):=rfl
theorem yg (a:Xa):restA 3 a=({ bareA a with object:=⟨#[]⟩ }:Xa):=rfl
theorem ID (a:Xa):okR 4 a=(decide ((a.object.size:Int)=32)):=rfl
theorem yf (a:Xa):restA 4 a=({ a with object:=⟨#[]⟩ }:Xa):=rfl
theorem IC (a:Xa):okR 5 a=(decide ((a.object.size:Int)=32)):=rfl
theorem ye (a:Xa):restA 5 a=({ a with object:=⟨#[]⟩ }:Xa):=rfl
theorem IB (a:Xa):okR 6 a=(decide ((a.object.size:Int)=32)):=rfl
theorem yd (a:Xa):restA 6 a=({ a with object:=⟨#[]⟩ }:Xa):=rfl
theorem IA (a:Xa):okR 7 a=(isId a.target):=rfl
theorem yc (a:Xa):restA 7 a=({ a with target:=⟨#[]⟩ }:Xa):=rfl
theorem Iz (a:Xa):okR 8 a=(isId a.target):=rfl
theorem yb (a:Xa):restA 8 a=({ a with target:=⟨#[]⟩ }:Xa):=rfl
theorem Iy (a:Xa):okR 9 a=(isId a.target):=rfl
theorem ya (a:Xa):restA 9 a=({ a with target:=⟨#[]⟩ }:Xa):=rfl
theorem Eu (a:Xa):okR 10 a=(isId a.target):=rfl
theorem tX (a:Xa):restA 10 a=({ a with target:=⟨#[]⟩ }:Xa):=rfl
theorem Et (a:Xa):okR 11 a=(isId a.target):=rfl
theorem tW (a:Xa):restA 11 a=({ a with target:=⟨#[]⟩ }:Xa):=rfl
theorem D9 (a:Xa):okR 12 a=(decide ((a.object.size:Int)=32)&&decide ((a.text.size:Int)≤500)):=rfl
theorem tV (a:Xa):restA 12 a=({ a with object:=⟨#[]⟩,text:=⟨#[]⟩ }:Xa):=rfl
theorem D8 (a:Xa):okR 13 a=(decide ((a.object.size:Int)=32)):=rfl
theorem tU (a:Xa):restA 13 a=({ a with object:=⟨#[]⟩ }:Xa):=rfl
theorem D7 (a:Xa):okR 14 a=(audienceB a&&decide ((a.object.size:Int)=32)):=rfl
theorem tT (a:Xa):restA 14 a=({ bareA a with object:=⟨#[]⟩ }:Xa):=rfl
theorem D6 (a:Xa):okR 15 a=(isIds a.toL&&isName a.group):=rfl
theorem tS (a:Xa):restA 15 a=({ a with group:=⟨#[]⟩,to:=⟨none,0,0⟩,toL:=[] }:Xa):=rfl
theorem D5 (a:Xa):okR 16 a=(isIds a.toL&&decide (1≤a.scope)&&decide (a.scope≤3)&&groupR a&&decide (0≤a.epoch)&&decide (a.epoch≤1073741824)&&wrappedB a):=rfl
theorem tR (a:Xa):restA 16 a=({ a with scope:=0,group:=⟨#[]⟩,to:=⟨none,0,0⟩,toL:=[],epoch:=0,wraps:=⟨none,0,0⟩,wrapsL:=[] }:Xa):=rfl
theorem D4 (a:Xa):okR 17 a=((bif !seqB a.object ⟨#[]⟩ then isName a.text&&decide ((a.object.size:Int)=32)&&seqB a.target ⟨#[]⟩ else isName a.text&&isId a.target)):=rfl
theorem tQ (a:Xa):restA 17 a=({ a with text:=⟨#[]⟩,object:=⟨#[]⟩,target:=⟨#[]⟩ }:Xa):=rfl
theorem D3 (a:Xa):okR 18 a=((isPublicB a.n&&decide (0≤a.m)&&decide (a.m<20))):=rfl
theorem tP (a:Xa):restA 18 a=({ a with n:=0,m:=0 }:Xa):=rfl
theorem DZ (a:Xa):okR 19 a=(isIds a.toL&&decide (0<(a.to.n:Int))&&wrappedB a&&decide (1≤a.n)&&decide (a.n≤(a.to.n:Int))&&isPublicB a.m):=rfl
theorem tO (a:Xa):restA 19 a=({ a with to:=⟨none,0,0⟩,toL:=[],wraps:=⟨none,0,0⟩,wrapsL:=[],n:=0,m:=0 }:Xa):=rfl
theorem DY (a:Xa):okR 20 a=(decide ((a.object.size:Int)=32)):=rfl
theorem tM (a:Xa):restA 20 a=({ a with object:=⟨#[]⟩ }:Xa):=rfl
theorem DX (a:Xa):okR 21 a=(decide ((a.object.size:Int)=32)&&decide ((a.text.size:Int)≤500)):=rfl
theorem tL (a:Xa):restA 21 a=({ a with object:=⟨#[]⟩,text:=⟨#[]⟩ }:Xa):=rfl
theorem DW (a:Xa):okR 22 a=(decide ((a.object.size:Int)=32)&&decide (0≤a.n)&&decide (a.n≤1)):=rfl
theorem tK (a:Xa):restA 22 a=({ a with object:=⟨#[]⟩,n:=0 }:Xa):=rfl
theorem DV (a:Xa):okR 23 a=(isId a.target&&decide ((a.text.size:Int)≤500)&&decide (0≤a.n)&&decide (a.n≤1099511627776)):=rfl
theorem tJ (a:Xa):restA 23 a=({ a with target:=⟨#[]⟩,text:=⟨#[]⟩,n:=0 }:Xa):=rfl
theorem uq {a:Xa} (h:¬ (0≤a.kind∧a.kind≤23)):okR a.kind a=false:=by
 rw [okR]
 rw [Zd (show ¬ a.kind=0 by omega),Zf]
 rw [Zd (show ¬ a.kind=1 by omega),Zf]
 rw [Zd (show ¬ a.kind=2 by omega),Zf]
 rw [Zd (show ¬ a.kind=3 by omega),Zf]
 rw [Zd (show ¬ a.kind=4 by omega),Zf]
 rw [Zd (show ¬ a.kind=5 by omega),Zf]
 rw [Zd (show ¬ a.kind=6 by omega),Zf]
 rw [Zd (show ¬ a.kind=7 by omega),Zf]
 rw [Zd (show ¬ a.kind=8 by omega),Zf]
 rw [Zd (show ¬ a.kind=9 by omega),Zf]
 rw [Zd (show ¬ a.kind=10 by omega),Zf]
 rw [Zd (show ¬ a.kind=11 by omega),Zf]
 rw [Zd (show ¬ a.kind=12 by omega),Zf]
 rw [Zd (show ¬ a.kind=13 by omega),Zf]
 rw [Zd (show ¬ a.kind=14 by omega),Zf]
 rw [Zd (show ¬ a.kind=15 by omega),Zf]
 rw [Zd (show ¬ a.kind=16 by omega),Zf]
 rw [Zd (show ¬ a.kind=17 by omega),Zf]
 rw [Zd (show ¬ a.kind=18 by omega),Zf]
 rw [Zd (show ¬ a.kind=19 by omega),Zf]
 rw [Zd (show ¬ a.kind=20 by omega),Zf]
 rw [Zd (show ¬ a.kind=21 by omega),Zf]
 rw [Zd (show ¬ a.kind=22 by omega),Zf]
 rw [Zd (show ¬ a.kind=23 by omega),Zf]
theorem qF {k:Int} (h:0≤k∧k≤23):k=0∨k=1∨k=2∨k=3∨k=4∨k=5∨k=6∨k=7∨k=8∨k=9∨k=10∨k=11∨k=12∨k=13∨k=14∨k=15∨k=16∨k=17∨k=18∨k=19∨k=20∨k=21∨k=22∨k=23:=by omega
set_option maxRecDepth 20000 in
theorem wa (a:Xa) (hs:a.Str):Pu prog 231 #[a.v] (Xa.at_ · a) (.bool (fitsR a)):=by
 refine ax func231 ntmps231 fun av bor w0=>?_
 have c1:=fB a.n
 have c2:=fB a.m
 have c3:=jq a.text hs.text
 have c4:=jq a.group hs.group
 have c5:=oi a hs
 have c6:=we a
 have c7:=gH a.target hs.target
 have c8:=k8 a.to a.toL hs.to
 have c9:=lR a hs
 have c10:=pH a
 by_cases hk:0≤a.kind∧a.kind≤23
 · rw [fitsR]
   rcases qF hk with h|h|h|h|h|h|h|h|h|h|h|h|h|h|h|h|h|h|h|h|h|h|h|h
   · rw [h,IH,yk]
     have c0:=bw ({ a with text:=⟨#[]⟩,n:=0,m:=0 }:Xa)
     repeat' (first|refine aF ?_|apply aJ|apply QQ|apply QR|refine aW ?_|refine aO ?_|refine bD ?_|refine bU ?_|refine bm ?_|refine bj ?_|refine aX ?_|refine eX ?_|refine gT ?_|refine bo ?_|refine aY fun _=>?_|refine cD fun _=>?_|refine cj ?_|refine aS ?_|refine QU ?_|apply QT|apply QS|apply ck|(refine ae (hc:=c0) ?_)|(refine ae (hc:=c1) ?_)|(refine ae (hc:=c3) ?_)|((fail_if_success (refine cr ?_));refine bx (ht:=?_) (hf:=?_);all_goals (intro hx_;first|have:=bA hx_|have:=cw hx_|skip))|fail)
     all_goals refine ab (ag rfl rfl) ?_
     all_goals first
      | rfl
      | (simp only [*,Za,Zg,Zf];done)
      | (simp_all;done)
      | (simp_all;intros;omega)
      | skip
   · rw [h,IG,yj]
     have c0:=bw (bareA a:Xa)
     repeat' (first|refine aF ?_|refine aI ?_|apply aJ|apply QQ|apply QR|refine aW ?_|refine aO ?_|refine bD ?_|refine bU ?_|refine bm ?_|refine bj ?_|refine aX ?_|refine bo ?_|refine aY fun _=>?_|refine cD fun _=>?_|refine aS ?_|refine QU ?_|refine QV ?_|apply QS|apply ck|(refine ae (hc:=c0) ?_)|(refine ae (hc:=c5) ?_)|(refine ae (hc:=c6) ?_)|((fail_if_success (refine cr ?_));refine bx (ht:=?_) (hf:=?_);all_goals (intro hx_;skip))|fail)
     all_goals refine ab (ag rfl rfl) ?_
     all_goals first
      | rfl
      | (simp only [*,Za,Zg,Zf];done)
      | (simp_all;done)
      | (simp_all;intros;omega)
      | skip
   · rw [h,IF,yi]
     have c0:=bw ({ bareA a with object:=⟨#[]⟩ }:Xa)
     repeat' (first|refine aF ?_|refine aI ?_|apply aJ|apply QQ|apply QR|refine aW ?_|refine aO ?_|refine bD ?_|refine bU ?_|refine bm ?_|refine bj ?_|refine aX ?_|refine eR ?_|refine dJ ?_|refine bo ?_|refine aY fun _=>?_|refine cD fun _=>?_|refine cj ?_|refine aS ?_|refine QU ?_|refine QV ?_|apply QT|apply QS|apply ck|(refine ae (hc:=c0) ?_)|(refine ae (hc:=c5) ?_)|(refine ae (hc:=c6) ?_)|((fail_if_success (refine cr ?_));refine bx (ht:=?_) (hf:=?_);all_goals (intro hx_;first|have:=bA hx_|have:=cw hx_|skip))|fail)
     all_goals refine ab (ag rfl rfl) ?_
     all_goals first
      | rfl
      | (simp only [*,Za,Zg,Zf];done)
      | (simp_all;done)
      | (simp_all;intros;omega)
      | skip
   · rw [h,IE,yg]
     have c0:=bw ({ bareA a with object:=⟨#[]⟩ }:Xa)
     repeat' (first|refine aF ?_|refine aI ?_|apply aJ|apply QQ|apply QR|refine aW ?_|refine aO ?_|refine bD ?_|refine bU ?_|refine bm ?_|refine bj ?_|refine aX ?_|refine eR ?_|refine dJ ?_|refine bo ?_|refine aY fun _=>?_|refine cD fun _=>?_|refine cj ?_|refine aS ?_|refine QU ?_|refine QV ?_|apply QT|apply QS|apply ck|(refine ae (hc:=c0) ?_)|(refine ae (hc:=c5) ?_)|(refine ae (hc:=c6) ?_)|((fail_if_success (refine cr ?_));refine bx (ht:=?_) (hf:=?_);all_goals (intro hx_;first|have:=bA hx_|have:=cw hx_|skip))|fail)
     all_goals refine ab (ag rfl rfl) ?_
     all_goals first
      | rfl
      | (simp only [*,Za,Zg,Zf];done)
      | (simp_all;done)
      | (simp_all;intros;omega)
      | skip
   · rw [h,ID,yf]
     have c0:=bw ({ a with object:=⟨#[]⟩ }:Xa)
     repeat' (first|refine aF ?_|refine aI ?_|apply aJ|apply QQ|apply QR|refine aW ?_|refine aO ?_|refine bD ?_|refine bU ?_|refine bm ?_|refine bj ?_|refine aX ?_|refine eR ?_|refine dJ ?_|refine bo ?_|refine aY fun _=>?_|refine cD fun _=>?_|refine cj ?_|refine aS ?_|refine QU ?_|refine QV ?_|apply QT|apply QS|apply ck|(refine ae (hc:=c0) ?_)|((fail_if_success (refine cr ?_));refine bx (ht:=?_) (hf:=?_);all_goals (intro hx_;first|have:=bA hx_|have:=cw hx_))|fail)
     all_goals refine ab (ag rfl rfl) ?_
     all_goals first
      | rfl
      | (simp only [*,Za,Zg,Zf];done)
      | (simp_all;done)
      | (simp_all;intros;omega)
      | skip
   · rw [h,IC,ye]
     have c0:=bw ({ a with object:=⟨#[]⟩ }:Xa)
     repeat' (first|refine aF ?_|refine aI ?_|apply aJ|apply QQ|apply QR|refine aW ?_|refine aO ?_|refine bD ?_|refine bU ?_|refine bm ?_|refine bj ?_|refine aX ?_|refine eR ?_|refine dJ ?_|refine bo ?_|refine aY fun _=>?_|refine cD fun _=>?_|refine cj ?_|refine aS ?_|refine QU ?_|refine QV ?_|apply QT|apply QS|apply ck|(refine ae (hc:=c0) ?_)|((fail_if_success (refine cr ?_));refine bx (ht:=?_) (hf:=?_);all_goals (intro hx_;first|have:=bA hx_|have:=cw hx_))|fail)
     all_goals refine ab (ag rfl rfl) ?_
     all_goals first
      | rfl
      | (simp only [*,Za,Zg,Zf];done)
      | (simp_all;done)
      | (simp_all;intros;omega)
      | skip
   · rw [h,IB,yd]
     have c0:=bw ({ a with object:=⟨#[]⟩ }:Xa)
     repeat' (first|refine aF ?_|refine aI ?_|apply aJ|apply QQ|apply QR|refine aW ?_|refine aO ?_|refine bD ?_|refine bU ?_|refine bm ?_|refine bj ?_|refine aX ?_|refine eR ?_|refine dJ ?_|refine bo ?_|refine aY fun _=>?_|refine cD fun _=>?_|refine cj ?_|refine aS ?_|refine QU ?_|refine QV ?_|apply QT|apply QS|apply ck|(refine ae (hc:=c0) ?_)|((fail_if_success (refine cr ?_));refine bx (ht:=?_) (hf:=?_);all_goals (intro hx_;first|have:=bA hx_|have:=cw hx_))|fail)
     all_goals refine ab (ag rfl rfl) ?_
     all_goals first
      | rfl
      | (simp only [*,Za,Zg,Zf];done)
      | (simp_all;done)
      | (simp_all;intros;omega)
      | skip
   · rw [h,IA,yc]
     have c0:=bw ({ a with target:=⟨#[]⟩ }:Xa)
     repeat' (first|refine aF ?_|refine aI ?_|apply aJ|apply QQ|apply QR|refine aW ?_|refine aO ?_|refine bD ?_|refine bU ?_|refine bm ?_|refine bj ?_|refine aX ?_|refine bo ?_|refine aY fun _=>?_|refine cD fun _=>?_|refine cj ?_|refine aS ?_|refine QU ?_|refine QV ?_|apply QT|apply QS|apply ck|(refine ae (hc:=c0) ?_)|(refine ae (hc:=c7) ?_)|((fail_if_success (refine cr ?_));refine bx (ht:=?_) (hf:=?_);all_goals (intro hx_;skip))|fail)
     all_goals refine ab (ag rfl rfl) ?_
     all_goals first
      | rfl
      | (simp only [*,Za,Zg,Zf];done)
      | (simp_all;done)
      | (simp_all;intros;omega)
      | skip
   · rw [h,Iz,yb]
     have c0:=bw ({ a with target:=⟨#[]⟩ }:Xa)
     repeat' (first|refine aF ?_|refine aI ?_|apply aJ|apply QQ|apply QR|refine aW ?_|refine aO ?_|refine bD ?_|refine bU ?_|refine bm ?_|refine bj ?_|refine aX ?_|refine bo ?_|refine aY fun _=>?_|refine cD fun _=>?_|refine cj ?_|refine aS ?_|refine QU ?_|refine QV ?_|apply QT|apply QS|apply ck|(refine ae (hc:=c0) ?_)|(refine ae (hc:=c7) ?_)|((fail_if_success (refine cr ?_));refine bx (ht:=?_) (hf:=?_);all_goals (intro hx_;skip))|fail)
     all_goals refine ab (ag rfl rfl) ?_
     all_goals first
      | rfl
      | (simp only [*,Za,Zg,Zf];done)
      | (simp_all;done)
      | (simp_all;intros;omega)
      | skip
   · rw [h,Iy,ya]
     have c0:=bw ({ a with target:=⟨#[]⟩ }:Xa)
     repeat' (first|refine aF ?_|refine aI ?_|apply aJ|apply QQ|apply QR|refine aW ?_|refine aO ?_|refine bD ?_|refine bU ?_|refine bm ?_|refine bj ?_|refine aX ?_|refine bo ?_|refine aY fun _=>?_|refine cD fun _=>?_|refine cj ?_|refine aS ?_|refine QU ?_|refine QV ?_|apply QT|apply QS|apply ck|(refine ae (hc:=c0) ?_)|(refine ae (hc:=c7) ?_)|((fail_if_success (refine cr ?_));refine bx (ht:=?_) (hf:=?_);all_goals (intro hx_;skip))|fail)
     all_goals refine ab (ag rfl rfl) ?_
     all_goals first
      | rfl
      | (simp only [*,Za,Zg,Zf];done)
      | (simp_all;done)
      | (simp_all;intros;omega)
      | skip
   · rw [h,Eu,tX]
     have c0:=bw ({ a with target:=⟨#[]⟩ }:Xa)
     repeat' (first|refine aF ?_|refine aI ?_|apply aJ|apply QQ|apply QR|refine aW ?_|refine aO ?_|refine bD ?_|refine bU ?_|refine bm ?_|refine bj ?_|refine aX ?_|refine bo ?_|refine aY fun _=>?_|refine cD fun _=>?_|refine cj ?_|refine aS ?_|refine QU ?_|refine QV ?_|apply QT|apply QS|apply ck|(refine ae (hc:=c0) ?_)|(refine ae (hc:=c7) ?_)|((fail_if_success (refine cr ?_));refine bx (ht:=?_) (hf:=?_);all_goals (intro hx_;skip))|fail)
     all_goals refine ab (ag rfl rfl) ?_
     all_goals first
      | rfl
      | (simp only [*,Za,Zg,Zf];done)
      | (simp_all;done)
      | (simp_all;intros;omega)
      | skip
   · rw [h,Et,tW]
     have c0:=bw ({ a with target:=⟨#[]⟩ }:Xa)
     repeat' (first|refine aF ?_|refine aI ?_|apply aJ|apply QQ|apply QR|refine aW ?_|refine aO ?_|refine bD ?_|refine bU ?_|refine bm ?_|refine bj ?_|refine aX ?_|refine bo ?_|refine aY fun _=>?_|refine cD fun _=>?_|refine cj ?_|refine aS ?_|refine QU ?_|refine QV ?_|apply QS|apply ck|(refine ae (hc:=c0) ?_)|(refine ae (hc:=c7) ?_)|((fail_if_success (refine cr ?_));refine bx (ht:=?_) (hf:=?_);all_goals (intro hx_;skip))|fail)
     all_goals refine ab (ag rfl rfl) ?_
     all_goals first
      | rfl
      | (simp only [*,Za,Zg,Zf];done)
      | (simp_all;done)
      | (simp_all;intros;omega)
      | skip
   · rw [h,D9,tV]
     have c0:=bw ({ a with object:=⟨#[]⟩,text:=⟨#[]⟩ }:Xa)
     repeat' (first|refine aF ?_|refine aI ?_|apply aJ|apply QQ|apply QR|refine aW ?_|refine aO ?_|refine bD ?_|refine bU ?_|refine bm ?_|refine bj ?_|refine aX ?_|refine eR ?_|refine jo ?_|refine dJ ?_|refine bo ?_|refine aY fun _=>?_|refine cD fun _=>?_|refine cj ?_|refine aS ?_|refine QU ?_|refine QV ?_|apply QT|apply QS|apply ck|(refine ae (hc:=c0) ?_)|((fail_if_success (refine cr ?_));refine bx (ht:=?_) (hf:=?_);all_goals (intro hx_;first|have:=bA hx_|have:=cw hx_))|fail)
     all_goals refine ab (ag rfl rfl) ?_
     all_goals first
      | rfl
      | (simp only [*,Za,Zg,Zf];done)
      | (simp_all;done)
      | (simp_all;intros;omega)
      | skip
   · rw [h,D8,tU]
     have c0:=bw ({ a with object:=⟨#[]⟩ }:Xa)
     repeat' (first|refine aF ?_|refine aI ?_|apply aJ|apply QQ|apply QR|refine aW ?_|refine aO ?_|refine bD ?_|refine bU ?_|refine bm ?_|refine bj ?_|refine aX ?_|refine eR ?_|refine dJ ?_|refine bo ?_|refine aY fun _=>?_|refine cD fun _=>?_|refine cj ?_|refine aS ?_|refine QU ?_|refine QV ?_|apply QT|apply QS|apply ck|(refine ae (hc:=c0) ?_)|((fail_if_success (refine cr ?_));refine bx (ht:=?_) (hf:=?_);all_goals (intro hx_;first|have:=bA hx_|have:=cw hx_))|fail)
     all_goals refine ab (ag rfl rfl) ?_
     all_goals first
      | rfl
      | (simp only [*,Za,Zg,Zf];done)
      | (simp_all;done)
      | (simp_all;intros;omega)
      | skip
   · rw [h,D7,tT]
     have c0:=bw ({ bareA a with object:=⟨#[]⟩ }:Xa)
     repeat' (first|refine aF ?_|refine aI ?_|apply aJ|apply QQ|apply QR|refine aW ?_|refine aO ?_|refine bD ?_|refine bU ?_|refine bm ?_|refine bj ?_|refine aX ?_|refine eR ?_|refine dJ ?_|refine bo ?_|refine aY fun _=>?_|refine cD fun _=>?_|refine cj ?_|refine aS ?_|refine QU ?_|refine QV ?_|apply QS|apply ck|(refine ae (hc:=c0) ?_)|(refine ae (hc:=c5) ?_)|(refine ae (hc:=c6) ?_)|((fail_if_success (refine cr ?_));refine bx (ht:=?_) (hf:=?_);all_goals (intro hx_;first|have:=bA hx_|have:=cw hx_|skip))|fail)
     all_goals refine ab (ag rfl rfl) ?_
     all_goals first
      | rfl
      | (simp only [*,Za,Zg,Zf];done)
      | (simp_all;done)
      | (simp_all;intros;omega)
      | skip
   · rw [h,D6,tS]
     have c0:=bw ({ a with group:=⟨#[]⟩,to:=⟨none,0,0⟩,toL:=[] }:Xa)
     repeat' (first|refine aF ?_|refine aI ?_|apply aJ|apply QQ|apply QR|refine aW ?_|refine aO ?_|refine bD ?_|refine bU ?_|refine bm ?_|refine bj ?_|refine aX ?_|refine bo ?_|refine aY fun _=>?_|refine cD fun _=>?_|refine cj ?_|refine aS ?_|refine QU ?_|refine QV ?_|apply QS|apply ck|(refine ae (hc:=c0) ?_)|(refine ae (hc:=c4) ?_)|(refine ae (hc:=c8) ?_)|((fail_if_success (refine cr ?_));refine bx (ht:=?_) (hf:=?_);all_goals (intro hx_;skip))|fail)
     all_goals refine ab (ag rfl rfl) ?_
     all_goals first
      | rfl
      | (simp only [*,Za,Zg,Zf];done)
      | (simp_all;done)
      | (simp_all;intros;omega)
      | skip
   · rw [h,D5,tR]
     have c0:=bw ({ a with scope:=0,group:=⟨#[]⟩,to:=⟨none,0,0⟩,toL:=[],epoch:=0,wraps:=⟨none,0,0⟩,wrapsL:=[] }:Xa)
     repeat' (first|refine aF ?_|refine aI ?_|apply aJ|apply QQ|apply QR|refine aW ?_|refine aO ?_|refine bD ?_|refine bU ?_|refine bm ?_|refine bj ?_|refine aX ?_|refine jo ?_|refine gT ?_|refine bo ?_|refine aY fun _=>?_|refine cD fun _=>?_|refine cj ?_|refine aS ?_|refine QU ?_|refine QV ?_|apply QS|apply ck|(refine ae (hc:=c0) ?_)|(refine ae (hc:=c8) ?_)|(refine ae (hc:=c9) ?_)|(refine ae (hc:=c10) ?_)|((fail_if_success (refine cr ?_));refine bx (ht:=?_) (hf:=?_);all_goals (intro hx_;first|have:=bA hx_|have:=cw hx_|skip))|fail)
     all_goals refine ab (ag rfl rfl) ?_
     all_goals first
      | rfl
      | (simp only [*,Za,Zg,Zf];done)
      | (simp_all;done)
      | (simp_all;intros;omega)
      | skip
   · rw [h,D4,tQ]
     have c0:=bw ({ a with text:=⟨#[]⟩,object:=⟨#[]⟩,target:=⟨#[]⟩ }:Xa)
     repeat' (first|refine aF ?_|refine aI ?_|apply aJ|apply QQ|apply QR|refine aW ?_|refine aO ?_|refine bD ?_|refine bU ?_|refine bm ?_|refine bj ?_|refine aX ?_|refine eR ?_|refine rn ?_|refine xI ?_|refine dJ ?_|refine bo ?_|refine aY fun _=>?_|refine cD fun _=>?_|refine cj ?_|refine aS ?_|refine QU ?_|refine QV ?_|apply QS|apply ck|(refine ae (hc:=c0) ?_)|(refine ae (hc:=c3) ?_)|(refine ae (hc:=c7) ?_)|((fail_if_success (refine cr ?_));refine bx (ht:=?_) (hf:=?_);all_goals (intro hx_;first|have:=bA hx_|have:=cw hx_|skip))|(refine dN (ht:=?_) (hf:=?_);all_goals (intro hx_;skip)))
     all_goals refine ab (ag rfl rfl) ?_
     all_goals first
      | rfl
      | (simp only [*,Za,Zg,Zf];done)
      | (simp_all;done)
      | (simp_all;intros;omega)
      | skip
   · rw [h,D3,tP]
     have c0:=bw ({ a with n:=0,m:=0 }:Xa)
     repeat' (first|refine aF ?_|refine aI ?_|apply aJ|apply QQ|apply QR|refine aW ?_|refine aO ?_|refine bD ?_|refine bU ?_|refine bm ?_|refine bj ?_|refine aX ?_|refine eX ?_|refine gT ?_|refine bo ?_|refine aY fun _=>?_|refine cD fun _=>?_|refine cj ?_|refine aS ?_|refine QU ?_|refine QV ?_|apply QT|apply QS|apply ck|(refine ae (hc:=c0) ?_)|(refine ae (hc:=c1) ?_)|((fail_if_success (refine cr ?_));refine bx (ht:=?_) (hf:=?_);all_goals (intro hx_;first|have:=bA hx_|have:=cw hx_|skip))|fail)
     all_goals refine ab (ag rfl rfl) ?_
     all_goals first
      | rfl
      | (simp only [*,Za,Zg,Zf];done)
      | (simp_all;done)
      | (simp_all;intros;omega)
      | skip
   · rw [h,DZ,tO]
     have c0:=bw ({ a with to:=⟨none,0,0⟩,toL:=[],wraps:=⟨none,0,0⟩,wrapsL:=[],n:=0,m:=0 }:Xa)
     repeat' (first|refine aF ?_|refine aI ?_|apply aJ|apply QQ|apply QR|refine aW ?_|refine aO ?_|refine bD ?_|refine bU ?_|refine bm ?_|refine bj ?_|refine aX ?_|refine jo ?_|refine rr ?_|refine gT ?_|refine ii ?_|refine bo ?_|refine aY fun _=>?_|refine cD fun _=>?_|refine cj ?_|refine aS ?_|refine QU ?_|refine QV ?_|apply QS|apply ck|(refine ae (hc:=c0) ?_)|(refine ae (hc:=c2) ?_)|(refine ae (hc:=c8) ?_)|(refine ae (hc:=c10) ?_)|((fail_if_success (refine cr ?_));refine bx (ht:=?_) (hf:=?_);all_goals (intro hx_;first|have:=bA hx_|have:=cw hx_|skip))|fail)
     all_goals refine ab (ag rfl rfl) ?_
     all_goals first
      | rfl
      | (simp only [*,Za,Zg,Zf];done)
      | (simp_all;done)
      | (simp_all;intros;omega)
      | skip
   · rw [h,DY,tM]
     have c0:=bw ({ a with object:=⟨#[]⟩ }:Xa)
     repeat' (first|refine aF ?_|refine aI ?_|apply aJ|apply QQ|apply QR|refine aW ?_|refine aO ?_|refine bD ?_|refine bU ?_|refine bm ?_|refine bj ?_|refine aX ?_|refine eR ?_|refine dJ ?_|refine bo ?_|refine aY fun _=>?_|refine cD fun _=>?_|refine cj ?_|refine aS ?_|refine QU ?_|refine QV ?_|apply QS|apply ck|(refine ae (hc:=c0) ?_)|((fail_if_success (refine cr ?_));refine bx (ht:=?_) (hf:=?_);all_goals (intro hx_;first|have:=bA hx_|have:=cw hx_))|fail)
     all_goals refine ab (ag rfl rfl) ?_
     all_goals first
      | rfl
      | (simp only [*,Za,Zg,Zf];done)
      | (simp_all;done)
      | (simp_all;intros;omega)
      | skip
   · rw [h,DX,tL]
     have c0:=bw ({ a with object:=⟨#[]⟩,text:=⟨#[]⟩ }:Xa)
     repeat' (first|refine aF ?_|refine aI ?_|apply aJ|apply QQ|apply QR|refine aW ?_|refine aO ?_|refine bD ?_|refine bU ?_|refine bm ?_|refine bj ?_|refine aX ?_|refine eR ?_|refine jo ?_|refine dJ ?_|refine bo ?_|refine aY fun _=>?_|refine cD fun _=>?_|refine cj ?_|refine aS ?_|refine QU ?_|refine QV ?_|apply QS|apply ck|(refine ae (hc:=c0) ?_)|((fail_if_success (refine cr ?_));refine bx (ht:=?_) (hf:=?_);all_goals (intro hx_;first|have:=bA hx_|have:=cw hx_))|fail)
     all_goals refine ab (ag rfl rfl) ?_
     all_goals first
      | rfl
      | (simp only [*,Za,Zg,Zf];done)
      | (simp_all;done)
      | (simp_all;intros;omega)
      | skip
   · rw [h,DW,tK]
     have c0:=bw ({ a with object:=⟨#[]⟩,n:=0 }:Xa)
     repeat' (first|refine aF ?_|refine aI ?_|apply aJ|apply QQ|apply QR|refine aW ?_|refine aO ?_|refine bD ?_|refine bU ?_|refine bm ?_|refine bj ?_|refine aX ?_|refine eR ?_|refine jo ?_|refine gT ?_|refine dJ ?_|refine bo ?_|refine aY fun _=>?_|refine cD fun _=>?_|refine cj ?_|refine aS ?_|refine QU ?_|refine QV ?_|apply QS|apply ck|(refine ae (hc:=c0) ?_)|((fail_if_success (refine cr ?_));refine bx (ht:=?_) (hf:=?_);all_goals (intro hx_;first|have:=bA hx_|have:=cw hx_))|fail)
     all_goals refine ab (ag rfl rfl) ?_
     all_goals first
      | rfl
      | (simp only [*,Za,Zg,Zf];done)
      | (simp_all;done)
      | (simp_all;intros;omega)
      | skip
   · rw [h,DV,tJ]
     have c0:=bw ({ a with target:=⟨#[]⟩,text:=⟨#[]⟩,n:=0 }:Xa)
     repeat' (first|refine aF ?_|refine aI ?_|apply aJ|apply QQ|apply QR|refine aW ?_|refine aO ?_|refine bD ?_|refine bU ?_|refine bm ?_|refine bj ?_|refine aX ?_|refine jo ?_|refine gT ?_|refine dJ ?_|refine bo ?_|refine aY fun _=>?_|refine cD fun _=>?_|refine cj ?_|refine aS ?_|refine QU ?_|refine QV ?_|apply QS|apply ck|(refine ae (hc:=c0) ?_)|(refine ae (hc:=c7) ?_)|((fail_if_success (refine cr ?_));refine bx (ht:=?_) (hf:=?_);all_goals (intro hx_;first|have:=bA hx_|have:=cw hx_|skip))|fail)
     all_goals refine ab (ag rfl rfl) ?_
     all_goals first
      | rfl
      | (simp only [*,Za,Zg,Zf];done)
      | (simp_all;done)
      | (simp_all;intros;omega)
      | skip
 · rw [fitsR,uq hk,Zk]
   repeat' (first|refine aI ?_|apply aJ|apply QQ|apply QR|refine aW ?_|refine aO ?_|refine bD ?_|refine bU ?_|refine bm ?_|refine aX ?_|refine bo ?_|refine aY fun _=>?_|refine cD fun _=>?_|refine aS ?_|refine QV ?_|apply QT|apply QS|apply ck|fail)
   exact ab (ag rfl rfl) rfl
end Go.Proofs.YtaolfiikahlmkaaGreatDoor
