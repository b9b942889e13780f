/- Joined. -/
import Derived.Test.YtaolfiikahlmkaaGreatDoorT10
set_option linter.unusedVariables false
set_option linter.unusedSimpArgs false
set_option maxHeartbeats 16000000
namespace Go.Proofs.YtaolfiikahlmkaaGreatDoor
open Go Go.Proofs Sy Tryz
theorem nK (a:Xa):Pu prog 275 #[a.v] (Xa.at_ · a) (.bool (wrappedB a)):=by
 refine aw func275 ntmps275 fun av bor w0=>?_
 refine aR (p:=a.wraps.n=a.wrapsL.length∧a.wraps.n≤maxLen∧(0<a.wrapsL.length→a.wraps.p.isSome=true)) (fun w h=>⟨h.2.len_,ZY (Xf.cap h.2) (Xf.max h.2),h.2.some_⟩) fun ⟨hl,hm,hp⟩=>?_
 simp only [maxLen] at hm
 repeat' (first|refine gs ?_|refine gs1 fun _=>?_|fail)
 rename_i b
 refine ao (ι:=X6 a.wrapsL.length (badW a.wrapsL)) (fun i=>⟨[(1,.pointer (some ⟨b,0,none⟩)),(3,.int .i64 i.k)],[cel b 46 a.cells],(Xa.at_ · a)⟩) (fun i=>a.wrapsL.length-i.k) (X6.zero _ _) (ai al (aj _) fun _ h=>h) fun i=>?_
 have hik:=i.hk
 repeat' (first|refine gs ?_|(refine gp ?_ ?_<;>intro hx_ this)|fail)
 · have hlt:i.k<a.wrapsL.length:=by omega
   have hp':=hp aa
   obtain ⟨x,hx⟩:∃ x,a.wrapsL[i.k]?=some x:=⟨_,Zb hlt⟩
   have hc1:=eY x.to
   have hc2:=eY x.eph
   have hc3:=kA x.box
   repeat' (first|(refine ag (hc:=hc1) ?_)|(refine ag (hc:=hc2) ?_)|(refine ag (hc:=hc3) ?_)|refine gs ?_|refine gs1 fun _=>?_|(refine aD (q:=i.k*5) ?_)|(refine aM (cs:=x.cells) (hF:=fun w h=>Wraps.get h.2 hx) ?_)|(refine aC ?_)|(refine gp ?_ ?_<;>intro hx_ this)|fail)
   all_goals first
    | (refine ab (ae rfl rfl) ?_;rw [wrappedB,cw hlt (by simp only [jF hx, *,Zt,Zr,Zf,Ze,Zh,Zg,Zk,Zj,Zn,Zl,Zs,Zm,Zq,Zi]),Zj])
    | exact ⟨i.next hlt (by simp only [jF hx, *,Zt,Zr,Zf,Ze,Zh,Zg,Zk,Zj,Zn,Zl,Zs,Zm,Zq,Zi]),(by show a.wrapsL.length-(i.k+1)<a.wrapsL.length-i.k;omega),ai al (Z2 _ (aj _)) fun _ h=>h⟩
 · refine ab (ae rfl rfl) ?_
   rw [wrappedB,i.all aa,Zg]
def sealR (a:Xa):Bool:=decide (0≤a.epoch)&&decide (a.epoch≤1073741824)&&seqB a.text ⟨#[]⟩&&isSealedB a.body
def audR (a:Xa):Bool:=bif !isIds a.toL then false else bif !groupR a then false else bif decide (a.scope=0) then decide (a.epoch=0)&&decide ((a.text.size:Int)≤500)&&boxEq a.body Xo.zero
 else bif decide (a.scope=3) then sealR a else bif decide (a.scope=1)||decide (a.scope=2) then sealR a&&decide ((a.to.n:Int)=0) else false
theorem F4 (a:Xa):audR a=audienceB a:=by
 have hw:withinB a.epoch 0 1073741824=(decide (0≤a.epoch)&&decide (a.epoch≤1073741824)):=rfl
 have hz:decide (0<(a.to.n:Int))=!decide ((a.to.n:Int)=0):=by rw [←decide_not];exact decide_eq_decide.2 aa
 have hsh:isShortB a.text=decide ((a.text.size:Int)≤500):=rfl
 rw [audR,audienceB,groupR,sealedScopeB,hw,hz,hsh,sealR]
 cases isIds a.toL
 · rfl
 simp only [Zn,Ze]
 by_cases h0:a.scope=0
 · rw [h0]
   simp only [show decide ((0:Int)=2)=false from rfl,show decide ((0:Int)=0)=true from rfl,Ze,Zf]
   cases seqB a.group ⟨#[]⟩<;>simp [Bool.and_assoc]
 by_cases h3:a.scope=3
 · rw [h3]
   simp only [show decide ((3:Int)=2)=false from rfl,show decide ((3:Int)=0)=false from rfl,show decide ((3:Int)=3)=true from rfl,show decide ((3:Int)=1)=false from rfl,Ze,Zf,Zn,Zk]
   cases seqB a.group ⟨#[]⟩<;>simp [Bool.and_assoc]
 by_cases h1:a.scope=1
 · rw [h1]
   simp only [show decide ((1:Int)=2)=false from rfl,show decide ((1:Int)=0)=false from rfl,show decide ((1:Int)=3)=false from rfl,show decide ((1:Int)=1)=true from rfl,Ze,Zf,Zl,Zh,Zm]
   cases seqB a.group ⟨#[]⟩<;>cases decide ((a.to.n:Int)=0)<;>simp [Bool.and_assoc]
 by_cases h2:a.scope=2
 · rw [h2]
   simp only [show decide ((2:Int)=2)=true from rfl,show decide ((2:Int)=0)=false from rfl,show decide ((2:Int)=3)=false from rfl,show decide ((2:Int)=1)=false from rfl,Ze,Zf,Zl,Zh,Zi]
   cases isName a.group<;>cases decide ((a.to.n:Int)=0)<;>simp [Bool.and_assoc]
 rw [Zc h0,Zc h1,Zc h2,Zc h3]
 cases seqB a.group ⟨#[]⟩<;>cases decide ((a.to.n:Int)=0)<;>rfl
theorem mE (a:Xa) (hs:a.Str):Pu prog 272 #[a.v] (Xa.at_ · a) (.bool (audienceB a)):=by
 refine aw func272 ntmps272 fun av bor w0=>?_
 rw [←F4]
 have hi:=jZ a.to a.toL hs.to
 have hg:=ky a hs
 have hb:=kA a.body
 have he:=kz a.body
 repeat' (first|(refine ag (hc:=hi) ?_)|(refine ag (hc:=hg) ?_)|(refine ag (hc:=hb) ?_)|(refine ag (hc:=he) ?_)|refine gs ?_|refine gs1 fun _=>?_|(refine aC ?_)|(refine gp ?_ ?_<;>intro hx_ this)|fail)
 all_goals refine ab (ae rfl rfl) ?_
 all_goals first
  | rfl
  | (simp_all [audR,sealR];done)
  | (simp_all [audR,sealR];intros;omega)
def bareA (a:Xa):Xa:={ a with scope:=0,group:=⟨#[]⟩,to:=⟨none,0,0⟩,text:=⟨#[]⟩,body:=Xo.zero,epoch:=0,toL:=[] }
theorem tM (a:Xa):Pu prog 273 #[a.v] (fun _=>True) (bareA a).v:=by
 refine aw func273 ntmps273 fun av bor w0=>?_
 repeat' (first|refine jO ?_|refine gs ?_|refine gs1 fun _=>?_|(refine fu ({ a with scope:=0,group:=⟨#[]⟩,to:=⟨none,0,0⟩,text:=⟨#[]⟩,body:=Xo.zero }:Xa).cells (h:=?_))|fail)
 exact ab (cM (cs:=(bareA a).cells) rfl rfl am (by rfl)) rfl
def okR (k:Int) (a:Xa):Bool :=
 bif decide (k=0) then (isPublicB a.n&&decide (0≤a.m)&&decide (a.m<20))&&isName a.text else bif decide (k=1) then audienceB a else bif decide (k=2) then audienceB a&&decide ((a.object.size:Int)=32) else bif decide (k=3) then audienceB a&&decide ((a.object.size:Int)=32) else bif decide (k=4) then decide ((a.object.size:Int)=32) else bif decide (k=5) then decide ((a.object.size:Int)=32) else bif decide (k=6) then decide ((a.object.size:Int)=32) else bif decide (k=7) then isId a.target else bif decide (k=8) then isId a.target else bif decide (k=9) then isId a.target else bif decide (k=10) then isId a.target else bif decide (k=11) then isId a.target else bif decide (k=12) then decide ((a.object.size:Int)=32)&&decide ((a.text.size:Int)≤500) else bif decide (k=13) then decide ((a.object.size:Int)=32) else bif decide (k=14) then audienceB a&&decide ((a.object.size:Int)=32) else bif decide (k=15) then isIds a.toL&&isName a.group else bif decide (k=16) then isIds a.toL&&decide (1≤a.scope)&&decide (a.scope≤3)&&groupR a&&decide (0≤a.epoch)&&decide (a.epoch≤1073741824)&&wrappedB a else bif decide (k=17) then (bif !seqB a.object ⟨#[]⟩ then isName a.text&&decide ((a.object.size:Int)=32)&&seqB a.target ⟨#[]⟩ else isName a.text&&isId a.target) else bif decide (k=18) then (isPublicB a.n&&decide (0≤a.m)&&decide (a.m<20)) else bif decide (k=19) then isIds a.toL&&decide (0<(a.to.n:Int))&&wrappedB a&&decide (1≤a.n)&&decide (a.n≤(a.to.n:Int))&&isPublicB a.m else bif decide (k=20) then decide ((a.object.size:Int)=32) else bif decide (k=21) then decide ((a.object.size:Int)=32)&&decide ((a.text.size:Int)≤500) else bif decide (k=22) then decide ((a.object.size:Int)=32)&&decide (0≤a.n)&&decide (a.n≤1) else bif decide (k=23) then isId a.target&&decide ((a.text.size:Int)≤500)&&decide (0≤a.n)&&decide (a.n≤1099511627776) else false
def restA (k:Int) (a:Xa):Xa :=
 bif decide (k=0) then { a with text:=⟨#[]⟩,n:=0,m:=0 } else bif decide (k=1) then bareA a else bif decide (k=2) then { bareA a with object:=⟨#[]⟩ } else bif decide (k=3) then { bareA a with object:=⟨#[]⟩ } else bif decide (k=4) then { a with object:=⟨#[]⟩ } else bif decide (k=5) then { a with object:=⟨#[]⟩ } else bif decide (k=6) then { a with object:=⟨#[]⟩ } else bif decide (k=7) then { a with target:=⟨#[]⟩ } else bif decide (k=8) then { a with target:=⟨#[]⟩ } else bif decide (k=9) then { a with target:=⟨#[]⟩ } else bif decide (k=10) then { a with target:=⟨#[]⟩ } else bif decide (k=11) then { a with target:=⟨#[]⟩ } else bif decide (k=12) then { a with object:=⟨#[]⟩,text:=⟨#[]⟩ } else bif decide (k=13) then { a with object:=⟨#[]⟩ } else bif decide (k=14) then { bareA a with object:=⟨#[]⟩ } else bif decide (k=15) then { a with group:=⟨#[]⟩,to:=⟨none,0,0⟩,toL:=[] } else bif decide (k=16) then { a with scope:=0,group:=⟨#[]⟩,to:=⟨none,0,0⟩,toL:=[],epoch:=0,wraps:=⟨none,0,0⟩,wrapsL:=[] } else bif decide (k=17) then { a with text:=⟨#[]⟩,object:=⟨#[]⟩,target:=⟨#[]⟩ } else bif decide (k=18) then { a with n:=0,m:=0 } else bif decide (k=19) then { a with to:=⟨none,0,0⟩,toL:=[],wraps:=⟨none,0,0⟩,wrapsL:=[],n:=0,m:=0 } else bif decide (k=20) then { a with object:=⟨#[]⟩ } else bif decide (k=21) then { a with object:=⟨#[]⟩,text:=⟨#[]⟩ } else bif decide (k=22) then { a with object:=⟨#[]⟩,n:=0 } else bif decide (k=23) then { a with target:=⟨#[]⟩,text:=⟨#[]⟩,n:=0 } else a
def fitsR (a:Xa):Bool:=okR a.kind a&&zeroR (restA a.kind a)
theorem EI (a:Xa):okR 0 a=((isPublicB a.n&&decide (0≤a.m)&&decide (a.m<20))&&isName a.text):=rfl
theorem vo (a:Xa):restA 0 a=({ a with text:=⟨#[]⟩,n:=0,m:=0 }:Xa):=rfl
theorem EH (a:Xa):okR 1 a=(audienceB a):=rfl
theorem vn (a:Xa):restA 1 a=(bareA a:Xa):=rfl
theorem EG (a:Xa):okR 2 a=(audienceB a&&decide ((a.object.size:Int)=32)):=rfl
theorem vm (a:Xa):restA 2 a=({ bareA a with object:=⟨#[]⟩ }:Xa):=rfl
theorem EF (a:Xa):okR 3 a=(audienceB a&&decide ((a.object.size:Int)=32)):=rfl
theorem vl (a:Xa):restA 3 a=({ bareA a with object:=⟨#[]⟩ }:Xa):=rfl
theorem EE (a:Xa):okR 4 a=(decide ((a.object.size:Int)=32)):=rfl
theorem vk (a:Xa):restA 4 a=({ a with object:=⟨#[]⟩ }:Xa):=rfl
theorem ED (a:Xa):okR 5 a=(decide ((a.object.size:Int)=32)):=rfl
theorem vj (a:Xa):restA 5 a=({ a with object:=⟨#[]⟩ }:Xa):=rfl
theorem EC (a:Xa):okR 6 a=(decide ((a.object.size:Int)=32)):=rfl
theorem vi (a:Xa):restA 6 a=({ a with object:=⟨#[]⟩ }:Xa):=rfl
theorem EB (a:Xa):okR 7 a=(isId a.target):=rfl
theorem vg (a:Xa):restA 7 a=({ a with target:=⟨#[]⟩ }:Xa):=rfl
theorem EA (a:Xa):okR 8 a=(isId a.target):=rfl
theorem vf (a:Xa):restA 8 a=({ a with target:=⟨#[]⟩ }:Xa):=rfl
theorem Ez (a:Xa):okR 9 a=(isId a.target):=rfl
theorem ve (a:Xa):restA 9 a=({ a with target:=⟨#[]⟩ }:Xa):=rfl
theorem AO (a:Xa):okR 10 a=(isId a.target):=rfl
theorem rB (a:Xa):restA 10 a=({ a with target:=⟨#[]⟩ }:Xa):=rfl
theorem AN (a:Xa):okR 11 a=(isId a.target):=rfl
theorem rA (a:Xa):restA 11 a=({ a with target:=⟨#[]⟩ }:Xa):=rfl
theorem AM (a:Xa):okR 12 a=(decide ((a.object.size:Int)=32)&&decide ((a.text.size:Int)≤500)):=rfl
theorem rz (a:Xa):restA 12 a=({ a with object:=⟨#[]⟩,text:=⟨#[]⟩ }:Xa):=rfl
theorem AL (a:Xa):okR 13 a=(decide ((a.object.size:Int)=32)):=rfl
theorem ry (a:Xa):restA 13 a=({ a with object:=⟨#[]⟩ }:Xa):=rfl
theorem AK (a:Xa):okR 14 a=(audienceB a&&decide ((a.object.size:Int)=32)):=rfl
theorem rx (a:Xa):restA 14 a=({ bareA a with object:=⟨#[]⟩ }:Xa):=rfl
theorem AJ (a:Xa):okR 15 a=(isIds a.toL&&isName a.group):=rfl
theorem rv (a:Xa):restA 15 a=({ a with group:=⟨#[]⟩,to:=⟨none,0,0⟩,toL:=[] }:Xa):=rfl
theorem AI (a:Xa):okR 16 a=(isIds a.toL&&decide (1≤a.scope)&&decide (a.scope≤3)&&groupR a&&decide (0≤a.epoch)&&decide (a.epoch≤1073741824)&&wrappedB a):=rfl
theorem ru (a:Xa):restA 16 a=({ a with scope:=0,group:=⟨#[]⟩,to:=⟨none,0,0⟩,toL:=[],epoch:=0,wraps:=⟨none,0,0⟩,wrapsL:=[] }:Xa):=rfl
theorem AH (a:Xa):okR 17 a=((bif !seqB a.object ⟨#[]⟩ then isName a.text&&decide ((a.object.size:Int)=32)&&seqB a.target ⟨#[]⟩ else isName a.text&&isId a.target)):=rfl
theorem rt (a:Xa):restA 17 a=({ a with text:=⟨#[]⟩,object:=⟨#[]⟩,target:=⟨#[]⟩ }:Xa):=rfl
theorem AG (a:Xa):okR 18 a=((isPublicB a.n&&decide (0≤a.m)&&decide (a.m<20))):=rfl
theorem rs (a:Xa):restA 18 a=({ a with n:=0,m:=0 }:Xa):=rfl
theorem AF (a:Xa):okR 19 a=(isIds a.toL&&decide (0<(a.to.n:Int))&&wrappedB a&&decide (1≤a.n)&&decide (a.n≤(a.to.n:Int))&&isPublicB a.m):=rfl
theorem rr (a:Xa):restA 19 a=({ a with to:=⟨none,0,0⟩,toL:=[],wraps:=⟨none,0,0⟩,wrapsL:=[],n:=0,m:=0 }:Xa):=rfl
theorem AE (a:Xa):okR 20 a=(decide ((a.object.size:Int)=32)):=rfl
theorem rq (a:Xa):restA 20 a=({ a with object:=⟨#[]⟩ }:Xa):=rfl
theorem AD (a:Xa):okR 21 a=(decide ((a.object.size:Int)=32)&&decide ((a.text.size:Int)≤500)):=rfl
theorem rp (a:Xa):restA 21 a=({ a with object:=⟨#[]⟩,text:=⟨#[]⟩ }:Xa):=rfl
theorem AC (a:Xa):okR 22 a=(decide ((a.object.size:Int)=32)&&decide (0≤a.n)&&decide (a.n≤1)):=rfl
theorem ro (a:Xa):restA 22 a=({ a with object:=⟨#[]⟩,n:=0 }:Xa):=rfl
theorem AB (a:Xa):okR 23 a=(isId a.target&&decide ((a.text.size:Int)≤500)&&decide (0≤a.n)&&decide (a.n≤1099511627776)):=rfl
theorem rn (a:Xa):restA 23 a=({ a with target:=⟨#[]⟩,text:=⟨#[]⟩,n:=0 }:Xa):=rfl
theorem rR {a:Xa} (h:¬ (0≤a.kind∧a.kind≤23)):okR a.kind a=false:=by
 rw [okR]
 rw [Zc (show ¬ a.kind=0 by omega),Ze]
 rw [Zc (show ¬ a.kind=1 by omega),Ze]
 rw [Zc (show ¬ a.kind=2 by omega),Ze]
 rw [Zc (show ¬ a.kind=3 by omega),Ze]
 rw [Zc (show ¬ a.kind=4 by omega),Ze]
 rw [Zc (show ¬ a.kind=5 by omega),Ze]
 rw [Zc (show ¬ a.kind=6 by omega),Ze]
 rw [Zc (show ¬ a.kind=7 by omega),Ze]
 rw [Zc (show ¬ a.kind=8 by omega),Ze]
 rw [Zc (show ¬ a.kind=9 by omega),Ze]
 rw [Zc (show ¬ a.kind=10 by omega),Ze]
 rw [Zc (show ¬ a.kind=11 by omega),Ze]
 rw [Zc (show ¬ a.kind=12 by omega),Ze]
 rw [Zc (show ¬ a.kind=13 by omega),Ze]
 rw [Zc (show ¬ a.kind=14 by omega),Ze]
 rw [Zc (show ¬ a.kind=15 by omega),Ze]
 rw [Zc (show ¬ a.kind=16 by omega),Ze]
 rw [Zc (show ¬ a.kind=17 by omega),Ze]
 rw [Zc (show ¬ a.kind=18 by omega),Ze]
 rw [Zc (show ¬ a.kind=19 by omega),Ze]
 rw [Zc (show ¬ a.kind=20 by omega),Ze]
 rw [Zc (show ¬ a.kind=21 by omega),Ze]
 rw [Zc (show ¬ a.kind=22 by omega),Ze]
 rw [Zc (show ¬ a.kind=23 by omega),Ze]
theorem oL {k:Int} (h:0≤k∧k≤23):k=0∨k=1∨k=2∨k=3∨k=4∨k=5∨k=6∨k=7∨k=8∨k=9∨k=10∨k=11∨k=12∨k=13∨k=14∨k=15∨k=16∨k=17∨k=18∨k=19∨k=20∨k=21∨k=22∨k=23:=by omega
set_option maxRecDepth 20000 in
theorem tI (a:Xa) (hs:a.Str):Pu prog 231 #[a.v] (Xa.at_ · a) (.bool (fitsR a)):=by
 refine aw func231 ntmps231 fun av bor w0=>?_
 have c1:=eY a.n
 have c2:=eY a.m
 have c3:=iB a.text hs.text
 have c4:=iB a.group hs.group
 have c5:=mE a hs
 have c6:=tM a
 have c7:=fV a.target hs.target
 have c8:=jZ a.to a.toL hs.to
 have c9:=ky a hs
 have c10:=nK a
 by_cases hk:0≤a.kind∧a.kind≤23
 · rw [fitsR]
   rcases oL hk with h|h|h|h|h|h|h|h|h|h|h|h|h|h|h|h|h|h|h|h|h|h|h|h
   · rw [h,EI,vo]
     have c0:=bt ({ a with text:=⟨#[]⟩,n:=0,m:=0 }:Xa)
     repeat' (first|refine aE ?_|apply aH|apply QS|apply QT|refine aZ ?_|refine aO ?_|refine bC ?_|refine bQ ?_|refine be ?_|refine aY ?_|refine aU ?_|refine eG ?_|refine gj ?_|refine bj ?_|refine bc fun _=>?_|refine cr fun _=>?_|refine bX ?_|refine aP ?_|refine QW ?_|apply QV|apply QU|apply bY|(refine ag (hc:=c0) ?_)|(refine ag (hc:=c1) ?_)|(refine ag (hc:=c3) ?_)|((fail_if_success (refine cf ?_));refine bu (ht:=?_) (hf:=?_);all_goals (intro hx_;first|have:=bz hx_|have:=co hx_|skip))|fail)
     all_goals refine ab (ae rfl rfl) ?_
     all_goals first
      | rfl
      | (simp only [*,Zt,Zr,Zf,Ze,Zh,Zg,Zk,Zj,Zn,Zl,Zs,Zm,Zq,Zi];done)
      | (simp_all;done)
      | (simp_all;intros;omega)
      | skip
   · rw [h,EH,vn]
     have c0:=bt (bareA a:Xa)
     repeat' (first|refine aE ?_|refine aG ?_|apply aH|apply QS|apply QT|refine aZ ?_|refine aO ?_|refine bC ?_|refine bQ ?_|refine be ?_|refine aY ?_|refine aU ?_|refine bj ?_|refine bc fun _=>?_|refine cr fun _=>?_|refine aP ?_|refine QW ?_|refine QX ?_|apply QU|apply bY|(refine ag (hc:=c0) ?_)|(refine ag (hc:=c5) ?_)|(refine ag (hc:=c6) ?_)|((fail_if_success (refine cf ?_));refine bu (ht:=?_) (hf:=?_);all_goals (intro hx_;skip))|fail)
     all_goals refine ab (ae rfl rfl) ?_
     all_goals first
      | rfl
      | (simp only [*,Zt,Zr,Zf,Ze,Zh,Zg,Zk,Zj,Zn,Zl,Zs,Zm,Zq,Zi];done)
      | (simp_all;done)
      | (simp_all;intros;omega)
      | skip
   · rw [h,EG,vm]
     have c0:=bt ({ bareA a with object:=⟨#[]⟩ }:Xa)
     repeat' (first|refine aE ?_|refine aG ?_|apply aH|apply QS|apply QT|refine aZ ?_|refine aO ?_|refine bC ?_|refine bQ ?_|refine be ?_|refine aY ?_|refine aU ?_|refine eC ?_|refine dw ?_|refine bj ?_|refine bc fun _=>?_|refine cr fun _=>?_|refine bX ?_|refine aP ?_|refine QW ?_|refine QX ?_|apply QV|apply QU|apply bY|(refine ag (hc:=c0) ?_)|(refine ag (hc:=c5) ?_)|(refine ag (hc:=c6) ?_)|((fail_if_success (refine cf ?_));refine bu (ht:=?_) (hf:=?_);all_goals (intro hx_;first|have:=bz hx_|have:=co hx_|skip))|fail)
     all_goals refine ab (ae rfl rfl) ?_
     all_goals first
      | rfl
      | (simp only [*,Zt,Zr,Zf,Ze,Zh,Zg,Zk,Zj,Zn,Zl,Zs,Zm,Zq,Zi];done)
      | (simp_all;done)
      | (simp_all;intros;omega)
      | skip
   · rw [h,EF,vl]
     have c0:=bt ({ bareA a with object:=⟨#[]⟩ }:Xa)
     repeat' (first|refine aE ?_|refine aG ?_|apply aH|apply QS|apply QT|refine aZ ?_|refine aO ?_|refine bC ?_|refine bQ ?_|refine be ?_|refine aY ?_|refine aU ?_|refine eC ?_|refine dw ?_|refine bj ?_|refine bc fun _=>?_|refine cr fun _=>?_|refine bX ?_|refine aP ?_|refine QW ?_|refine QX ?_|apply QV|apply QU|apply bY|(refine ag (hc:=c0) ?_)|(refine ag (hc:=c5) ?_)|(refine ag (hc:=c6) ?_)|((fail_if_success (refine cf ?_));refine bu (ht:=?_) (hf:=?_);all_goals (intro hx_;first|have:=bz hx_|have:=co hx_|skip))|fail)
     all_goals refine ab (ae rfl rfl) ?_
     all_goals first
      | rfl
      | (simp only [*,Zt,Zr,Zf,Ze,Zh,Zg,Zk,Zj,Zn,Zl,Zs,Zm,Zq,Zi];done)
      | (simp_all;done)
      | (simp_all;intros;omega)
      | skip
   · rw [h,EE,vk]
     have c0:=bt ({ a with object:=⟨#[]⟩ }:Xa)
     repeat' (first|refine aE ?_|refine aG ?_|apply aH|apply QS|apply QT|refine aZ ?_|refine aO ?_|refine bC ?_|refine bQ ?_|refine be ?_|refine aY ?_|refine aU ?_|refine eC ?_|refine dw ?_|refine bj ?_|refine bc fun _=>?_|refine cr fun _=>?_|refine bX ?_|refine aP ?_|refine QW ?_|refine QX ?_|apply QV|apply QU|apply bY|(refine ag (hc:=c0) ?_)|((fail_if_success (refine cf ?_));refine bu (ht:=?_) (hf:=?_);all_goals (intro hx_;first|have:=bz hx_|have:=co hx_))|fail)
     all_goals refine ab (ae rfl rfl) ?_
     all_goals first
      | rfl
      | (simp only [*,Zt,Zr,Zf,Ze,Zh,Zg,Zk,Zj,Zn,Zl,Zs,Zm,Zq,Zi];done)
      | (simp_all;done)
      | (simp_all;intros;omega)
      | skip
   · rw [h,ED,vj]
     have c0:=bt ({ a with object:=⟨#[]⟩ }:Xa)
     repeat' (first|refine aE ?_|refine aG ?_|apply aH|apply QS|apply QT|refine aZ ?_|refine aO ?_|refine bC ?_|refine bQ ?_|refine be ?_|refine aY ?_|refine aU ?_|refine eC ?_|refine dw ?_|refine bj ?_|refine bc fun _=>?_|refine cr fun _=>?_|refine bX ?_|refine aP ?_|refine QW ?_|refine QX ?_|apply QV|apply QU|apply bY|(refine ag (hc:=c0) ?_)|((fail_if_success (refine cf ?_));refine bu (ht:=?_) (hf:=?_);all_goals (intro hx_;first|have:=bz hx_|have:=co hx_))|fail)
     all_goals refine ab (ae rfl rfl) ?_
     all_goals first
      | rfl
      | (simp only [*,Zt,Zr,Zf,Ze,Zh,Zg,Zk,Zj,Zn,Zl,Zs,Zm,Zq,Zi];done)
      | (simp_all;done)
      | (simp_all;intros;omega)
      | skip
   · rw [h,EC,vi]
     have c0:=bt ({ a with object:=⟨#[]⟩ }:Xa)
     repeat' (first|refine aE ?_|refine aG ?_|apply aH|apply QS|apply QT|refine aZ ?_|refine aO ?_|refine bC ?_|refine bQ ?_|refine be ?_|refine aY ?_|refine aU ?_|refine eC ?_|refine dw ?_|refine bj ?_|refine bc fun _=>?_|refine cr fun _=>?_|refine bX ?_|refine aP ?_|refine QW ?_|refine QX ?_|apply QV|apply QU|apply bY|(refine ag (hc:=c0) ?_)|((fail_if_success (refine cf ?_));refine bu (ht:=?_) (hf:=?_);all_goals (intro hx_;first|have:=bz hx_|have:=co hx_))|fail)
     all_goals refine ab (ae rfl rfl) ?_
     all_goals first
      | rfl
      | (simp only [*,Zt,Zr,Zf,Ze,Zh,Zg,Zk,Zj,Zn,Zl,Zs,Zm,Zq,Zi];done)
      | (simp_all;done)
      | (simp_all;intros;omega)
      | skip
   · rw [h,EB,vg]
     have c0:=bt ({ a with target:=⟨#[]⟩ }:Xa)
     repeat' (first|refine aE ?_|refine aG ?_|apply aH|apply QS|apply QT|refine aZ ?_|refine aO ?_|refine bC ?_|refine bQ ?_|refine be ?_|refine aY ?_|refine aU ?_|refine bj ?_|refine bc fun _=>?_|refine cr fun _=>?_|refine bX ?_|refine aP ?_|refine QW ?_|refine QX ?_|apply QV|apply QU|apply bY|(refine ag (hc:=c0) ?_)|(refine ag (hc:=c7) ?_)|((fail_if_success (refine cf ?_));refine bu (ht:=?_) (hf:=?_);all_goals (intro hx_;skip))|fail)
     all_goals refine ab (ae rfl rfl) ?_
     all_goals first
      | rfl
      | (simp only [*,Zt,Zr,Zf,Ze,Zh,Zg,Zk,Zj,Zn,Zl,Zs,Zm,Zq,Zi];done)
      | (simp_all;done)
      | (simp_all;intros;omega)
      | skip
   · rw [h,EA,vf]
     have c0:=bt ({ a with target:=⟨#[]⟩ }:Xa)
     repeat' (first|refine aE ?_|refine aG ?_|apply aH|apply QS|apply QT|refine aZ ?_|refine aO ?_|refine bC ?_|refine bQ ?_|refine be ?_|refine aY ?_|refine aU ?_|refine bj ?_|refine bc fun _=>?_|refine cr fun _=>?_|refine bX ?_|refine aP ?_|refine QW ?_|refine QX ?_|apply QV|apply QU|apply bY|(refine ag (hc:=c0) ?_)|(refine ag (hc:=c7) ?_)|((fail_if_success (refine cf ?_));refine bu (ht:=?_) (hf:=?_);all_goals (intro hx_;skip))|fail)
     all_goals refine ab (ae rfl rfl) ?_
     all_goals first
      | rfl
      | (simp only [*,Zt,Zr,Zf,Ze,Zh,Zg,Zk,Zj,Zn,Zl,Zs,Zm,Zq,Zi];done)
      | (simp_all;done)
      | (simp_all;intros;omega)
      | skip
   · rw [h,Ez,ve]
     have c0:=bt ({ a with target:=⟨#[]⟩ }:Xa)
     repeat' (first|refine aE ?_|refine aG ?_|apply aH|apply QS|apply QT|refine aZ ?_|refine aO ?_|refine bC ?_|refine bQ ?_|refine be ?_|refine aY ?_|refine aU ?_|refine bj ?_|refine bc fun _=>?_|refine cr fun _=>?_|refine bX ?_|refine aP ?_|refine QW ?_|refine QX ?_|apply QV|apply QU|apply bY|(refine ag (hc:=c0) ?_)|(refine ag (hc:=c7) ?_)|((fail_if_success (refine cf ?_));refine bu (ht:=?_) (hf:=?_);all_goals (intro hx_;skip))|fail)
     all_goals refine ab (ae rfl rfl) ?_
     all_goals first
      | rfl
      | (simp only [*,Zt,Zr,Zf,Ze,Zh,Zg,Zk,Zj,Zn,Zl,Zs,Zm,Zq,Zi];done)
      | (simp_all;done)
      | (simp_all;intros;omega)
      | skip
   · rw [h,AO,rB]
     have c0:=bt ({ a with target:=⟨#[]⟩ }:Xa)
     repeat' (first|refine aE ?_|refine aG ?_|apply aH|apply QS|apply QT|refine aZ ?_|refine aO ?_|refine bC ?_|refine bQ ?_|refine be ?_|refine aY ?_|refine aU ?_|refine bj ?_|refine bc fun _=>?_|refine cr fun _=>?_|refine bX ?_|refine aP ?_|refine QW ?_|refine QX ?_|apply QV|apply QU|apply bY|(refine ag (hc:=c0) ?_)|(refine ag (hc:=c7) ?_)|((fail_if_success (refine cf ?_));refine bu (ht:=?_) (hf:=?_);all_goals (intro hx_;skip))|fail)
     all_goals refine ab (ae rfl rfl) ?_
     all_goals first
      | rfl
      | (simp only [*,Zt,Zr,Zf,Ze,Zh,Zg,Zk,Zj,Zn,Zl,Zs,Zm,Zq,Zi];done)
      | (simp_all;done)
      | (simp_all;intros;omega)
      | skip
   · rw [h,AN,rA]
     have c0:=bt ({ a with target:=⟨#[]⟩ }:Xa)
     repeat' (first|refine aE ?_|refine aG ?_|apply aH|apply QS|apply QT|refine aZ ?_|refine aO ?_|refine bC ?_|refine bQ ?_|refine be ?_|refine aY ?_|refine aU ?_|refine bj ?_|refine bc fun _=>?_|refine cr fun _=>?_|refine bX ?_|refine aP ?_|refine QW ?_|refine QX ?_|apply QU|apply bY|(refine ag (hc:=c0) ?_)|(refine ag (hc:=c7) ?_)|((fail_if_success (refine cf ?_));refine bu (ht:=?_) (hf:=?_);all_goals (intro hx_;skip))|fail)
     all_goals refine ab (ae rfl rfl) ?_
     all_goals first
      | rfl
      | (simp only [*,Zt,Zr,Zf,Ze,Zh,Zg,Zk,Zj,Zn,Zl,Zs,Zm,Zq,Zi];done)
      | (simp_all;done)
      | (simp_all;intros;omega)
      | skip
   · rw [h,AM,rz]
     have c0:=bt ({ a with object:=⟨#[]⟩,text:=⟨#[]⟩ }:Xa)
     repeat' (first|refine aE ?_|refine aG ?_|apply aH|apply QS|apply QT|refine aZ ?_|refine aO ?_|refine bC ?_|refine bQ ?_|refine be ?_|refine aY ?_|refine aU ?_|refine eC ?_|refine ix ?_|refine dw ?_|refine bj ?_|refine bc fun _=>?_|refine cr fun _=>?_|refine bX ?_|refine aP ?_|refine QW ?_|refine QX ?_|apply QV|apply QU|apply bY|(refine ag (hc:=c0) ?_)|((fail_if_success (refine cf ?_));refine bu (ht:=?_) (hf:=?_);all_goals (intro hx_;first|have:=bz hx_|have:=co hx_))|fail)
     all_goals refine ab (ae rfl rfl) ?_
     all_goals first
      | rfl
      | (simp only [*,Zt,Zr,Zf,Ze,Zh,Zg,Zk,Zj,Zn,Zl,Zs,Zm,Zq,Zi];done)
      | (simp_all;done)
      | (simp_all;intros;omega)
      | skip
   · rw [h,AL,ry]
     have c0:=bt ({ a with object:=⟨#[]⟩ }:Xa)
     repeat' (first|refine aE ?_|refine aG ?_|apply aH|apply QS|apply QT|refine aZ ?_|refine aO ?_|refine bC ?_|refine bQ ?_|refine be ?_|refine aY ?_|refine aU ?_|refine eC ?_|refine dw ?_|refine bj ?_|refine bc fun _=>?_|refine cr fun _=>?_|refine bX ?_|refine aP ?_|refine QW ?_|refine QX ?_|apply QV|apply QU|apply bY|(refine ag (hc:=c0) ?_)|((fail_if_success (refine cf ?_));refine bu (ht:=?_) (hf:=?_);all_goals (intro hx_;first|have:=bz hx_|have:=co hx_))|fail)
     all_goals refine ab (ae rfl rfl) ?_
     all_goals first
      | rfl
      | (simp only [*,Zt,Zr,Zf,Ze,Zh,Zg,Zk,Zj,Zn,Zl,Zs,Zm,Zq,Zi];done)
      | (simp_all;done)
      | (simp_all;intros;omega)
      | skip
   · rw [h,AK,rx]
     have c0:=bt ({ bareA a with object:=⟨#[]⟩ }:Xa)
     repeat' (first|refine aE ?_|refine aG ?_|apply aH|apply QS|apply QT|refine aZ ?_|refine aO ?_|refine bC ?_|refine bQ ?_|refine be ?_|refine aY ?_|refine aU ?_|refine eC ?_|refine dw ?_|refine bj ?_|refine bc fun _=>?_|refine cr fun _=>?_|refine bX ?_|refine aP ?_|refine QW ?_|refine QX ?_|apply QU|apply bY|(refine ag (hc:=c0) ?_)|(refine ag (hc:=c5) ?_)|(refine ag (hc:=c6) ?_)|((fail_if_success (refine cf ?_));refine bu (ht:=?_) (hf:=?_);all_goals (intro hx_;first|have:=bz hx_|have:=co hx_|skip))|fail)
     all_goals refine ab (ae rfl rfl) ?_
     all_goals first
      | rfl
      | (simp only [*,Zt,Zr,Zf,Ze,Zh,Zg,Zk,Zj,Zn,Zl,Zs,Zm,Zq,Zi];done)
      | (simp_all;done)
      | (simp_all;intros;omega)
      | skip
   · rw [h,AJ,rv]
     have c0:=bt ({ a with group:=⟨#[]⟩,to:=⟨none,0,0⟩,toL:=[] }:Xa)
     repeat' (first|refine aE ?_|refine aG ?_|apply aH|apply QS|apply QT|refine aZ ?_|refine aO ?_|refine bC ?_|refine bQ ?_|refine be ?_|refine aY ?_|refine aU ?_|refine bj ?_|refine bc fun _=>?_|refine cr fun _=>?_|refine bX ?_|refine aP ?_|refine QW ?_|refine QX ?_|apply QU|apply bY|(refine ag (hc:=c0) ?_)|(refine ag (hc:=c4) ?_)|(refine ag (hc:=c8) ?_)|((fail_if_success (refine cf ?_));refine bu (ht:=?_) (hf:=?_);all_goals (intro hx_;skip))|fail)
     all_goals refine ab (ae rfl rfl) ?_
     all_goals first
      | rfl
      | (simp only [*,Zt,Zr,Zf,Ze,Zh,Zg,Zk,Zj,Zn,Zl,Zs,Zm,Zq,Zi];done)
      | (simp_all;done)
      | (simp_all;intros;omega)
      | skip
   · rw [h,AI,ru]
     have c0:=bt ({ a with scope:=0,group:=⟨#[]⟩,to:=⟨none,0,0⟩,toL:=[],epoch:=0,wraps:=⟨none,0,0⟩,wrapsL:=[] }:Xa)
     repeat' (first|refine aE ?_|refine aG ?_|apply aH|apply QS|apply QT|refine aZ ?_|refine aO ?_|refine bC ?_|refine bQ ?_|refine be ?_|refine aY ?_|refine aU ?_|refine ix ?_|refine gj ?_|refine bj ?_|refine bc fun _=>?_|refine cr fun _=>?_|refine bX ?_|refine aP ?_|refine QW ?_|refine QX ?_|apply QU|apply bY|(refine ag (hc:=c0) ?_)|(refine ag (hc:=c8) ?_)|(refine ag (hc:=c9) ?_)|(refine ag (hc:=c10) ?_)|((fail_if_success (refine cf ?_));refine bu (ht:=?_) (hf:=?_);all_goals (intro hx_;first|have:=bz hx_|have:=co hx_|skip))|fail)
     all_goals refine ab (ae rfl rfl) ?_
     all_goals first
      | rfl
      | (simp only [*,Zt,Zr,Zf,Ze,Zh,Zg,Zk,Zj,Zn,Zl,Zs,Zm,Zq,Zi];done)
      | (simp_all;done)
      | (simp_all;intros;omega)
      | skip
   · rw [h,AH,rt]
     have c0:=bt ({ a with text:=⟨#[]⟩,object:=⟨#[]⟩,target:=⟨#[]⟩ }:Xa)
     repeat' (first|refine aE ?_|refine aG ?_|apply aH|apply QS|apply QT|refine aZ ?_|refine aO ?_|refine bC ?_|refine bQ ?_|refine be ?_|refine aY ?_|refine aU ?_|refine eC ?_|refine pw ?_|refine uT ?_|refine dw ?_|refine bj ?_|refine bc fun _=>?_|refine cr fun _=>?_|refine bX ?_|refine aP ?_|refine QW ?_|refine QX ?_|apply QU|apply bY|(refine ag (hc:=c0) ?_)|(refine ag (hc:=c3) ?_)|(refine ag (hc:=c7) ?_)|((fail_if_success (refine cf ?_));refine bu (ht:=?_) (hf:=?_);all_goals (intro hx_;first|have:=bz hx_|have:=co hx_|skip))|(refine dD (ht:=?_) (hf:=?_);all_goals (intro hx_;skip)))
     all_goals refine ab (ae rfl rfl) ?_
     all_goals first
      | rfl
      | (simp only [*,Zt,Zr,Zf,Ze,Zh,Zg,Zk,Zj,Zn,Zl,Zs,Zm,Zq,Zi];done)
      | (simp_all;done)
      | (simp_all;intros;omega)
      | skip
   · rw [h,AG,rs]
     have c0:=bt ({ a with n:=0,m:=0 }:Xa)
     repeat' (first|refine aE ?_|refine aG ?_|apply aH|apply QS|apply QT|refine aZ ?_|refine aO ?_|refine bC ?_|refine bQ ?_|refine be ?_|refine aY ?_|refine aU ?_|refine eG ?_|refine gj ?_|refine bj ?_|refine bc fun _=>?_|refine cr fun _=>?_|refine bX ?_|refine aP ?_|refine QW ?_|refine QX ?_|apply QV|apply QU|apply bY|(refine ag (hc:=c0) ?_)|(refine ag (hc:=c1) ?_)|((fail_if_success (refine cf ?_));refine bu (ht:=?_) (hf:=?_);all_goals (intro hx_;first|have:=bz hx_|have:=co hx_|skip))|fail)
     all_goals refine ab (ae rfl rfl) ?_
     all_goals first
      | rfl
      | (simp only [*,Zt,Zr,Zf,Ze,Zh,Zg,Zk,Zj,Zn,Zl,Zs,Zm,Zq,Zi];done)
      | (simp_all;done)
      | (simp_all;intros;omega)
      | skip
   · rw [h,AF,rr]
     have c0:=bt ({ a with to:=⟨none,0,0⟩,toL:=[],wraps:=⟨none,0,0⟩,wrapsL:=[],n:=0,m:=0 }:Xa)
     repeat' (first|refine aE ?_|refine aG ?_|apply aH|apply QS|apply QT|refine aZ ?_|refine aO ?_|refine bC ?_|refine bQ ?_|refine be ?_|refine aY ?_|refine aU ?_|refine ix ?_|refine pA ?_|refine gj ?_|refine iy ?_|refine bj ?_|refine bc fun _=>?_|refine cr fun _=>?_|refine bX ?_|refine aP ?_|refine QW ?_|refine QX ?_|apply QU|apply bY|(refine ag (hc:=c0) ?_)|(refine ag (hc:=c2) ?_)|(refine ag (hc:=c8) ?_)|(refine ag (hc:=c10) ?_)|((fail_if_success (refine cf ?_));refine bu (ht:=?_) (hf:=?_);all_goals (intro hx_;first|have:=bz hx_|have:=co hx_|skip))|fail)
     all_goals refine ab (ae rfl rfl) ?_
     all_goals first
      | rfl
      | (simp only [*,Zt,Zr,Zf,Ze,Zh,Zg,Zk,Zj,Zn,Zl,Zs,Zm,Zq,Zi];done)
      | (simp_all;done)
      | (simp_all;intros;omega)
      | skip
   · rw [h,AE,rq]
     have c0:=bt ({ a with object:=⟨#[]⟩ }:Xa)
     repeat' (first|refine aE ?_|refine aG ?_|apply aH|apply QS|apply QT|refine aZ ?_|refine aO ?_|refine bC ?_|refine bQ ?_|refine be ?_|refine aY ?_|refine aU ?_|refine eC ?_|refine dw ?_|refine bj ?_|refine bc fun _=>?_|refine cr fun _=>?_|refine bX ?_|refine aP ?_|refine QW ?_|refine QX ?_|apply QU|apply bY|(refine ag (hc:=c0) ?_)|((fail_if_success (refine cf ?_));refine bu (ht:=?_) (hf:=?_);all_goals (intro hx_;first|have:=bz hx_|have:=co hx_))|fail)
     all_goals refine ab (ae rfl rfl) ?_
     all_goals first
      | rfl
      | (simp only [*,Zt,Zr,Zf,Ze,Zh,Zg,Zk,Zj,Zn,Zl,Zs,Zm,Zq,Zi];done)
      | (simp_all;done)
      | (simp_all;intros;omega)
      | skip
   · rw [h,AD,rp]
     have c0:=bt ({ a with object:=⟨#[]⟩,text:=⟨#[]⟩ }:Xa)
     repeat' (first|refine aE ?_|refine aG ?_|apply aH|apply QS|apply QT|refine aZ ?_|refine aO ?_|refine bC ?_|refine bQ ?_|refine be ?_|refine aY ?_|refine aU ?_|refine eC ?_|refine ix ?_|refine dw ?_|refine bj ?_|refine bc fun _=>?_|refine cr fun _=>?_|refine bX ?_|refine aP ?_|refine QW ?_|refine QX ?_|apply QU|apply bY|(refine ag (hc:=c0) ?_)|((fail_if_success (refine cf ?_));refine bu (ht:=?_) (hf:=?_);all_goals (intro hx_;first|have:=bz hx_|have:=co hx_))|fail)
     all_goals refine ab (ae rfl rfl) ?_
     all_goals first
      | rfl
      | (simp only [*,Zt,Zr,Zf,Ze,Zh,Zg,Zk,Zj,Zn,Zl,Zs,Zm,Zq,Zi];done)
      | (simp_all;done)
      | (simp_all;intros;omega)
      | skip
   · rw [h,AC,ro]
     have c0:=bt ({ a with object:=⟨#[]⟩,n:=0 }:Xa)
     repeat' (first|refine aE ?_|refine aG ?_|apply aH|apply QS|apply QT|refine aZ ?_|refine aO ?_|refine bC ?_|refine bQ ?_|refine be ?_|refine aY ?_|refine aU ?_|refine eC ?_|refine ix ?_|refine gj ?_|refine dw ?_|refine bj ?_|refine bc fun _=>?_|refine cr fun _=>?_|refine bX ?_|refine aP ?_|refine QW ?_|refine QX ?_|apply QU|apply bY|(refine ag (hc:=c0) ?_)|((fail_if_success (refine cf ?_));refine bu (ht:=?_) (hf:=?_);all_goals (intro hx_;first|have:=bz hx_|have:=co hx_))|fail)
     all_goals refine ab (ae rfl rfl) ?_
     all_goals first
      | rfl
      | (simp only [*,Zt,Zr,Zf,Ze,Zh,Zg,Zk,Zj,Zn,Zl,Zs,Zm,Zq,Zi];done)
      | (simp_all;done)
      | (simp_all;intros;omega)
      | skip
   · rw [h,AB,rn]
     have c0:=bt ({ a with target:=⟨#[]⟩,text:=⟨#[]⟩,n:=0 }:Xa)
     repeat' (first|refine aE ?_|refine aG ?_|apply aH|apply QS|apply QT|refine aZ ?_|refine aO ?_|refine bC ?_|refine bQ ?_|refine be ?_|refine aY ?_|refine aU ?_|refine ix ?_|refine gj ?_|refine dw ?_|refine bj ?_|refine bc fun _=>?_|refine cr fun _=>?_|refine bX ?_|refine aP ?_|refine QW ?_|refine QX ?_|apply QU|apply bY|(refine ag (hc:=c0) ?_)|(refine ag (hc:=c7) ?_)|((fail_if_success (refine cf ?_));refine bu (ht:=?_) (hf:=?_);all_goals (intro hx_;first|have:=bz hx_|have:=co hx_|skip))|fail)
     all_goals refine ab (ae rfl rfl) ?_
     all_goals first
      | rfl
      | (simp only [*,Zt,Zr,Zf,Ze,Zh,Zg,Zk,Zj,Zn,Zl,Zs,Zm,Zq,Zi];done)
      | (simp_all;done)
      | (simp_all;intros;omega)
      | skip
 · rw [fitsR,rR hk,Zj]
   repeat' (first|refine aG ?_|apply aH|apply QS|apply QT|refine aZ ?_|refine aO ?_|refine bC ?_|refine bQ ?_|refine be ?_|refine aU ?_|refine bj ?_|refine bc fun _=>?_|refine cr fun _=>?_|refine aP ?_|refine QX ?_|apply QV|apply QU|apply bY|fail)
   exact ab (ae rfl rfl) rfl
end Go.Proofs.YtaolfiikahlmkaaGreatDoor
