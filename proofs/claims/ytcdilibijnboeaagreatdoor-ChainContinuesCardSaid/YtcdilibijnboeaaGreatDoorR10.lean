/- Joined by program out of: Uh Ui Uj Uk Ul Um Un Uo Up Ur. -/
import Derived.Test.YtcdilibijnboeaaGreatDoorR9
set_option linter.unusedVariables false
set_option linter.unusedSimpArgs false
namespace Go.Proofs.YtcdilibijnboeaaGreatDoor
open Go Go.Proofs Sy
structure ActD.Str (a:ActD):Prop where
 author:a.author.size≤maxLen
 target:a.target.size≤maxLen
 group:a.group.size≤maxLen
 text:a.text.size≤maxLen
 to:∀ x∈a.toL,x.size≤maxLen
def badIdsR (l:List ByteArray) (k:Nat):Bool:=!isId (l.getD k .empty)||decide (0<(k:Int))&&!Op.bytesLess (l.getD (k-1) .empty).toList (l.getD k .empty).toList
theorem AQ (a b:ByteArray):(Op.bytesLess a.toList b.toList||seqB a b)=!Op.bytesLess b.toList a.toList:=by
 show (ltB a b||seqB a b)=!ltB b a
 cases h:ltB a b with
 | true=>rw [nD h];rfl
 | false =>
  cases k:ltB b a with
  | true =>
   have:a≠b:=fun e=>yX k e.symm
   rw [seqB_ne.2 this]
   rfl
  | false =>
   rw [nC h k,bN]
   rfl
theorem ze (l:List ByteArray):isIds l=(allB l.length (badIdsR l)&&decide ((l.length:Int)≤64)):=by
 rw [isIds,Bool.and_comm]
 congr 1
 · refine congrArg (allB l.length) (funext fun k=>?_)
   rw [badIds,badIdsR,AQ]
 · rw [←decide_not]
   exact decide_eq_decide.2 ae
set_option maxHeartbeats 4000000 in
theorem jD (s:SlV) (l:List ByteArray) (hz:∀ x∈l,x.size≤maxLen):Pu Tryz.prog 211 #[s.v] (fun w=>Strs w s l) (.bool (isIds l)):=by
 refine ay (args:=[_]) _ Tryz.func211 rfl Tryz.ntmps211 rfl fun av bor w0=>?_
 refine bK (p:=s.n=l.length∧s.n≤maxLen∧(0<l.length→s.p.isSome=true)) (fun w h=>⟨h.len_,Qq (RowsD.cap h) (RowsD.max h),h.some_⟩) fun ⟨hl,hm,hp⟩=>?_
 simp only [maxLen] at hm
 rw [ze]
 repeat' (first|apply ab|apply Qu|apply Qv|refine ad ?_|apply Qw|fail)
 refine aT (ι:=Upto l.length (badIdsR l)) (fun i=>⟨[(0,s.v),(3,.int .i64 (i.k:Nat))],[],fun w=>Strs w s l⟩) (fun i=>l.length-i.k) (Upto.zero _ _) (ax ⟨rfl,rfl,trivial⟩ (aG _) fun _ h=>h) fun i=>?_
 have hik:=i.hk
 by_cases hlt:i.k<l.length
 · have hp':=hp ae
   have hid:=fU (l.getD i.k .empty) (hz _ (by rw [ZL,Zm hlt];exact Qh hlt))
   repeat' (first|apply ab|apply Qu|apply Qv|refine aj ?_|refine ad ?_|refine bj ?_|refine cB ?_|refine aW ?_|apply Qx|apply Qw|apply ar|apply aS|(refine aF (ht:=?_) (hf:=?_);all_goals (intro hx_;first|have:=aO hx_|have:=aQ hx_)))
   · (apply bI;kernel_rfl)
     all_goals refine aa 0 ?_<;>refine aa 1 ?_<;>(refine aa 2 (hy:=by (apply aN (q:=i.k);rfl;rfl;omega;omega;assumption;omega)) ?_)<;>(refine aa 3 (hy:=by (apply dT (q:=i.k);rfl;exact fun w h=>Strs.get h hlt)) ?_)<;>(refine ag 4 ?_;(refine ao (hc:=hid) (hX:=fun _ _=>trivial) ?_);apply ab;refine ai ?_)<;>refine aa 5 ?_<;>refine aa 6 ?_<;>(refine jn 7 (ht:=?_) (hf:=?_);all_goals (intro hx_;skip);all_goals (first|(refine aa 7 ?_)|(refine gT 7 ?_)))<;>(first|(refine aa 8 ?_)|(refine gT 8 ?_))<;>(first|(refine aa 9 ?_)|(refine gT 9 ?_))<;>(first|(refine ek 10 ?_)|(refine jn 10 (ht:=?_) (hf:=?_);all_goals (intro hx_;first|have:=aO hx_|have:=aQ hx_);all_goals (first|(refine aa 10 ?_)|(refine aM 10 ?_))))<;>(first|(refine aa 11 ?_)|(refine aM 11 ?_)|(refine ek 11 ?_))<;>(first|(refine aa 12 ?_)|(refine aM 12 ?_)|(refine ek 12 ?_))<;>(first|(refine aa 13 (hy:=by (apply aN (q:=i.k-1);rfl;rfl;omega;omega;assumption;omega)) ?_)|(refine aM 13 ?_)|(refine ek 13 ?_))<;>(first|(refine aa 14 (hy:=by (apply dT (q:=i.k-1);rfl;exact fun w h=>Strs.get h (by omega:i.k-1<l.length))) ?_)|(refine aM 14 ?_)|(refine ek 14 ?_))<;>(first|(refine aa 15 ?_)|(refine aM 15 ?_)|(refine ek 15 ?_))<;>(first|(refine aa 16 ?_)|(refine aM 16 ?_)|(refine ek 16 ?_))<;>(first|(refine aa 17 (hy:=by (apply aN (q:=i.k);rfl;rfl;omega;omega;assumption;omega)) ?_)|(refine aM 17 ?_)|(refine ek 17 ?_))<;>(first|(refine aa 18 (hy:=by (apply dT (q:=i.k);rfl;exact fun w h=>Strs.get h hlt)) ?_)|(refine aM 18 ?_)|(refine ek 18 ?_))<;>(first|(refine aa 19 (hy:=by (apply rl;rfl;rfl)) ?_)|(refine aM 19 ?_)|(refine ek 19 ?_))<;>(first|(refine aa 20 ?_)|(refine gT 20 ?_))<;>refine aa 21 ?_<;>(refine aw ?_)
     all_goals
      repeat' (first|apply ab|apply Qu|apply Qv|refine aj ?_|refine ad ?_|refine be (h:=?_)|refine Qy ?_|refine Qz ?_|apply Qx|apply ar|(refine aF (ht:=?_) (hf:=?_);all_goals (intro hx_;skip)))
      all_goals first
       | (refine ak (ap rfl rfl) ?_;rw [dE hlt (by simp only [badIdsR, *,ZQ,ZO,ZC,ZB,ZE,ZD,ZH,ZG,ZK,ZI,ZP,ZJ,ZN,ZF]),ZG])
       | exact ⟨i.next hlt (by simp only [badIdsR, *,ZQ,ZO,ZC,ZB,ZE,ZD,ZH,ZG,ZK,ZI,ZP,ZJ,ZN,ZF]),(by show l.length-(i.k+1)<l.length-i.k;omega),ax ⟨rfl,rfl,trivial⟩ (aG _) fun _ h=>h⟩
   · exfalso;omega
 · rw [i.all hlt,ZD]
   repeat' (first|apply ab|apply Qu|apply Qv|refine aj ?_|refine ad ?_|refine bj ?_|refine cB ?_|refine aW ?_|apply Qx|apply Qw|apply ar|apply aS|(refine aF (ht:=?_) (hf:=?_);all_goals (intro hx_;first|have:=aO hx_|have:=aQ hx_)))
   all_goals first
    | (exfalso;omega)
    | (refine ak (ap rfl rfl) ?_;rw [hl];done)
theorem fd (n:Int):Pu Tryz.prog 238 #[.int .i64 n] (fun _=>True) (.bool (isPublicB n)):=by
 refine ay (args:=[_]) _ Tryz.func238 rfl Tryz.ntmps238 rfl fun av bor w0=>?_
 have e:isPublicB n=(decide (1≤n)&&decide (n<2305843009213693951)):=by
  rw [isPublicB,withinB]
  congr 1
  exact decide_eq_decide.2 ae
 rw [e]
 clear e
 repeat' (first|apply ab|apply Qu|apply Qv|refine aj ?_|refine ad ?_|refine aB ?_|refine aC ?_|refine bj ?_|refine da ?_|refine aL ?_|apply ar|((fail_if_success (refine aZ ?_));refine aP (ht:=?_) (hf:=?_);all_goals (intro hx_;first|have:=aO hx_|have:=aQ hx_))|fail)
 (all_goals (apply ak;apply ap;rfl;rfl));all_goals (simp only [ZA, *,ZQ,ZO,ZC,ZB,ZE,ZD,ZH,ZG,ZK,ZI,ZP,ZJ,ZN,ZF];done)
theorem j5 (b:BoxD):Pu Tryz.prog 261 #[b.v] (fun _=>True) (.bool (isSealedB b)):=by
 refine ay (args:=[_]) _ Tryz.func261 rfl Tryz.ntmps261 rfl fun av bor w0=>?_
 repeat' (first|apply ab|apply Qu|apply Qv|refine aj ?_|refine ad ?_|refine az ?_|refine aA ?_|refine aB ?_|refine aC ?_|refine bM ?_|refine cB ?_|refine bU ?_|refine aL ?_|refine aK fun _=>?_|apply ar|((fail_if_success (refine aZ ?_));refine aP (ht:=?_) (hf:=?_);all_goals (intro hx_;first|have:=aO hx_|have:=aQ hx_))|fail)
 (all_goals (apply ak;apply ap;rfl;rfl));all_goals (simp only [isSealedB,isShortB, *,ZQ,ZO,ZC,ZB,ZE,ZD,ZH,ZG,ZK,ZI,ZP,ZJ,ZN,ZF];done)
theorem j4 (b:BoxD):Pu Tryz.prog 260 #[b.v] (fun _=>True) (.bool (boxEq b BoxD.zero)):=by
 refine ay (args:=[_]) _ Tryz.func260 rfl Tryz.ntmps260 rfl fun av bor w0=>?_
 repeat' (first|apply ab|apply Qu|apply Qv|refine aj ?_|refine ad ?_|refine az ?_|refine aA ?_|refine aB ?_|refine aC ?_|refine cE ?_|refine aL ?_|refine aK fun _=>?_|apply ar|((fail_if_success (refine aZ ?_));refine aP (ht:=?_) (hf:=?_);all_goals (intro hx_;skip))|fail)
 (all_goals (apply ak;apply ap;rfl;rfl));all_goals (simp only [boxEq,BoxD.zero, *,ZQ,ZO,ZC,ZB,ZE,ZD,ZH,ZG,ZK,ZI,ZP,ZJ,ZN,ZF];done)
def groupR (a:ActD):Bool:=bif decide (a.scope=2) then isName a.group else seqB a.group ⟨#[]⟩
theorem j3 (a:ActD) (hs:a.Str):Pu Tryz.prog 242 #[a.v] (fun _=>True) (.bool (groupR a)):=by
 refine ay (args:=[_]) _ Tryz.func242 rfl Tryz.ntmps242 rfl fun av bor w0=>?_
 have hn:=ik a.group hs.group
 repeat' (first|apply ab|apply Qu|apply Qv|refine ad ?_|refine az ?_|refine aA ?_|refine bM ?_|refine cE ?_|refine aK fun _=>?_|apply Qx|apply ar|(refine ao (hc:=hn) (hX:=fun _ _=>trivial) ?_)|(refine aF (ht:=?_) (hf:=?_);all_goals (intro hx_;first|have:=aO hx_|have:=aQ hx_)))
 (all_goals (apply ak;apply ap;rfl;rfl));all_goals (simp only [groupR, *,ZQ,ZO,ZC,ZB,ZE,ZD,ZH,ZG,ZK,ZI,ZP,ZJ,ZN,ZF];done)
def zeroR (a:ActD):Bool:=seqB a.object ⟨#[]⟩&&seqB a.target ⟨#[]⟩&&decide (a.scope=0)&&seqB a.group ⟨#[]⟩&&decide ((a.to.n:Int)=0)&&seqB a.text ⟨#[]⟩&&boxEq a.body BoxD.zero&&decide (a.epoch=0)&&decide ((a.wraps.n:Int)=0)&&decide (a.n=0)&&decide (a.m=0)
theorem bV (a:ActD):Pu Tryz.prog 244 #[a.v] (fun _=>True) (.bool (zeroR a)):=by
 refine ay (args:=[_]) _ Tryz.func244 rfl Tryz.ntmps244 rfl fun av bor w0=>?_
 have hn:=j4 a.body
 repeat' (first|apply ab|apply Qu|apply Qv|refine aj ?_|refine ad ?_|refine az ?_|refine aA ?_|refine aB ?_|refine aC ?_|refine bM ?_|refine cE ?_|refine aW ?_|refine aL ?_|refine aK fun _=>?_|apply ar|(refine ao (hc:=hn) (hX:=fun _ _=>trivial) ?_)|(refine aX ?_)|((fail_if_success (refine aZ ?_));refine aP (ht:=?_) (hf:=?_);all_goals (intro hx_;first|have:=aO hx_|have:=aQ hx_|skip))|fail)
 (all_goals (apply ak;apply ap;rfl;rfl));all_goals (simp only [zeroR, *,ZQ,ZO,ZC,ZB,ZE,ZD,ZH,ZG,ZK,ZI,ZP,ZJ,ZN,ZF];done)
theorem mQ (a:ActD):Pu Tryz.prog 243 #[a.v] (ActD.at_ · a) (.bool (wrappedB a)):=by
 refine ay (args:=[_]) _ Tryz.func243 rfl Tryz.ntmps243 rfl fun av bor w0=>?_
 refine bK (p:=a.wraps.n=a.wrapsL.length∧a.wraps.n≤maxLen∧(0<a.wrapsL.length→a.wraps.p.isSome=true)) (fun w h=>⟨h.2.len_,Qq (RowsD.cap h.2) (RowsD.max h.2),h.2.some_⟩) fun ⟨hl,hm,hp⟩=>?_
 simp only [maxLen] at hm
 repeat' (first|apply ab|apply Qu|apply Qv|refine ad ?_|refine aK fun _=>?_|apply Qw|fail)
 rename_i b
 refine aT (ι:=Upto a.wrapsL.length (badW a.wrapsL)) (fun i=>⟨[(1,.pointer (some ⟨b,0,none⟩)),(3,.int .i64 i.k)],[cel b 46 a.cells],(ActD.at_ · a)⟩) (fun i=>a.wrapsL.length-i.k) (Upto.zero _ _) (ax ⟨rfl,rfl,trivial⟩ (aG _) fun _ h=>h) fun i=>?_
 have hik:=i.hk
 repeat' (first|apply ab|apply Qu|apply Qv|refine aj ?_|refine ad ?_|refine az ?_|refine aA ?_|refine bM ?_|refine bj ?_|refine aW ?_|apply Qx|apply Qw|apply ar|apply aS|(refine aF (ht:=?_) (hf:=?_);all_goals (intro hx_;first|have:=aO hx_|have:=aQ hx_)))
 · have hlt:i.k<a.wrapsL.length:=by omega
   have hp':=hp ae
   obtain ⟨x,hx⟩:∃ x,a.wrapsL[i.k]?=some x:=⟨_,Zm hlt⟩
   have hc1:=fd x.to
   have hc2:=fd x.eph
   have hc3:=j5 x.box
   repeat' (first|apply ab|apply Qu|apply Qv|refine aj ?_|refine ad ?_|refine az ?_|refine aA ?_|refine aB ?_|refine aC ?_|refine bu ?_|refine be (h:=?_)|refine bC ?_|refine aI fun _=>?_|refine aH ?_|refine Qy ?_|apply Qx|apply ar|(refine ao (hc:=hc1) (hX:=fun _ _=>trivial) ?_)|(refine ao (hc:=hc2) (hX:=fun _ _=>trivial) ?_)|(refine ao (hc:=hc3) (hX:=fun _ _=>trivial) ?_)|(refine bz (q:=i.k*5) ?_)|(refine cq (cs:=x.cells) (hF:=fun w h=>Wraps.get h.2 hx) ?_)|(refine aX ?_)|((fail_if_success (refine aZ ?_));refine aP (ht:=?_) (hf:=?_);all_goals (intro hx_;skip))|(refine aF (ht:=?_) (hf:=?_);all_goals (intro hx_;skip)))
   all_goals first
    | (refine ak (ap rfl rfl) ?_;rw [wrappedB,dE hlt (by simp only [jl hx, *,ZQ,ZO,ZC,ZB,ZE,ZD,ZH,ZG,ZK,ZI,ZP,ZJ,ZN,ZF]),ZG])
    | exact ⟨i.next hlt (by simp only [jl hx, *,ZQ,ZO,ZC,ZB,ZE,ZD,ZH,ZG,ZK,ZI,ZP,ZJ,ZN,ZF]),(by show a.wrapsL.length-(i.k+1)<a.wrapsL.length-i.k;omega),ax ⟨rfl,rfl,trivial⟩ (List.Sublist.cons _ (aG _)) fun _ h=>h⟩
 · refine ak (ap rfl rfl) ?_
   rw [wrappedB,i.all ae,ZD]
def sealR (a:ActD):Bool:=decide (0≤a.epoch)&&decide (a.epoch≤1073741824)&&seqB a.text ⟨#[]⟩&&isSealedB a.body
def audR (a:ActD):Bool:=bif !isIds a.toL then false else bif !groupR a then false else bif decide (a.scope=0) then decide (a.epoch=0)&&decide ((a.text.size:Int)≤500)&&boxEq a.body BoxD.zero
 else bif decide (a.scope=3) then sealR a else bif decide (a.scope=1)||decide (a.scope=2) then sealR a&&decide ((a.to.n:Int)=0) else false
theorem DD (a:ActD):audR a=audienceB a:=by
 have hw:withinB a.epoch 0 1073741824=(decide (0≤a.epoch)&&decide (a.epoch≤1073741824)):=rfl
 have hz:decide (0<(a.to.n:Int))=!decide ((a.to.n:Int)=0):=by rw [←decide_not];exact decide_eq_decide.2 ae
 have hsh:isShortB a.text=decide ((a.text.size:Int)≤500):=rfl
 rw [audR,audienceB,groupR,sealedScopeB,hw,hz,hsh,sealR]
 cases isIds a.toL
 · rfl
 simp only [ZK,ZB]
 by_cases h0:a.scope=0
 · rw [h0]
   simp only [show decide ((0:Int)=2)=false from rfl,show decide ((0:Int)=0)=true from rfl,ZB,ZC]
   cases seqB a.group ⟨#[]⟩<;>simp [Bool.and_assoc]
 by_cases h3:a.scope=3
 · rw [h3]
   simp only [show decide ((3:Int)=2)=false from rfl,show decide ((3:Int)=0)=false from rfl,show decide ((3:Int)=3)=true from rfl,show decide ((3:Int)=1)=false from rfl,ZB,ZC,ZK,ZH]
   cases seqB a.group ⟨#[]⟩<;>simp [Bool.and_assoc]
 by_cases h1:a.scope=1
 · rw [h1]
   simp only [show decide ((1:Int)=2)=false from rfl,show decide ((1:Int)=0)=false from rfl,show decide ((1:Int)=3)=false from rfl,show decide ((1:Int)=1)=true from rfl,ZB,ZC,ZI,ZE,ZJ]
   cases seqB a.group ⟨#[]⟩<;>cases decide ((a.to.n:Int)=0)<;>simp [Bool.and_assoc]
 by_cases h2:a.scope=2
 · rw [h2]
   simp only [show decide ((2:Int)=2)=true from rfl,show decide ((2:Int)=0)=false from rfl,show decide ((2:Int)=3)=false from rfl,show decide ((2:Int)=1)=false from rfl,ZB,ZC,ZI,ZE,ZF]
   cases isName a.group<;>cases decide ((a.to.n:Int)=0)<;>simp [Bool.and_assoc]
 rw [Zn h0,Zn h1,Zn h2,Zn h3]
 cases seqB a.group ⟨#[]⟩<;>cases decide ((a.to.n:Int)=0)<;>rfl
set_option maxHeartbeats 2000000 in
theorem lT (a:ActD) (hs:a.Str):Pu Tryz.prog 240 #[a.v] (ActD.at_ · a) (.bool (audienceB a)):=by
 refine ay (args:=[_]) _ Tryz.func240 rfl Tryz.ntmps240 rfl fun av bor w0=>?_
 rw [←DD]
 have hi:=jD a.to a.toL hs.to
 have hg:=j3 a hs
 have hb:=j5 a.body
 have he:=j4 a.body
 repeat' (first|apply ab|apply Qu|apply Qv|refine aj ?_|refine ad ?_|refine az ?_|refine aA ?_|refine aD ?_|refine aB ?_|refine aC ?_|refine bu ?_|refine bM ?_|refine cB ?_|refine da ?_|refine cE ?_|refine bU ?_|refine aW ?_|refine aL ?_|refine bC ?_|refine aK fun _=>?_|refine Qy ?_|apply Qx|apply Qw|apply ar|(refine ao (hc:=hi) (hX:=fun w h=>h.1) ?_)|(refine ao (hc:=hg) (hX:=fun _ _=>trivial) ?_)|(refine ao (hc:=hb) (hX:=fun _ _=>trivial) ?_)|(refine ao (hc:=he) (hX:=fun _ _=>trivial) ?_)|(refine aX ?_)|((fail_if_success (refine aZ ?_));refine aP (ht:=?_) (hf:=?_);all_goals (intro hx_;first|have:=aO hx_|have:=aQ hx_|skip))|(refine aF (ht:=?_) (hf:=?_);all_goals (intro hx_;first|have:=aO hx_|have:=aQ hx_|skip)))
 all_goals refine ak (ap rfl rfl) ?_
 all_goals first
  | rfl
  | (simp_all [audR,sealR];done)
  | (simp_all [audR,sealR];intros;omega)
def bareA (a:ActD):ActD:={ a with scope:=0,group:=⟨#[]⟩,to:=⟨none,0,0⟩,text:=⟨#[]⟩,body:=BoxD.zero,epoch:=0,toL:=[] }
theorem rV (a:ActD):Pu Tryz.prog 241 #[a.v] (fun _=>True) (bareA a).v:=by
 refine ay (args:=[_]) _ Tryz.func241 rfl Tryz.ntmps241 rfl fun av bor w0=>?_
 repeat' (first|refine ju ?_|apply ab|apply Qu|apply Qv|refine az ?_|refine aD ?_|refine aI fun _=>?_|refine aK fun _=>?_|refine bc ?_|refine aH ?_|apply ar|(refine db ({ a with scope:=0,group:=⟨#[]⟩,to:=⟨none,0,0⟩,text:=⟨#[]⟩,body:=BoxD.zero }:ActD).cells (h:=?_))|fail)
 exact ak (cJ (cs:=(bareA a).cells) rfl rfl aJ (by rfl)) rfl
def okR (k:Int) (a:ActD):Bool :=
 bif decide (k=0) then (isPublicB a.n&&decide (0≤a.m)&&decide (a.m<20))&&isName a.text else bif decide (k=1) then audienceB a else bif decide (k=2) then audienceB a&&decide ((a.object.size:Int)=32) else bif decide (k=3) then audienceB a&&decide ((a.object.size:Int)=32) else bif decide (k=4) then decide ((a.object.size:Int)=32) else bif decide (k=5) then decide ((a.object.size:Int)=32) else bif decide (k=6) then decide ((a.object.size:Int)=32) else bif decide (k=7) then isId a.target else bif decide (k=8) then isId a.target else bif decide (k=9) then isId a.target else bif decide (k=10) then isId a.target else bif decide (k=11) then isId a.target else bif decide (k=12) then decide ((a.object.size:Int)=32)&&decide ((a.text.size:Int)≤500) else bif decide (k=13) then decide ((a.object.size:Int)=32) else bif decide (k=14) then audienceB a&&decide ((a.object.size:Int)=32) else bif decide (k=15) then isIds a.toL&&isName a.group else bif decide (k=16) then isIds a.toL&&decide (1≤a.scope)&&decide (a.scope≤3)&&groupR a&&decide (0≤a.epoch)&&decide (a.epoch≤1073741824)&&wrappedB a else bif decide (k=17) then (bif !seqB a.object ⟨#[]⟩ then isName a.text&&decide ((a.object.size:Int)=32)&&seqB a.target ⟨#[]⟩ else isName a.text&&isId a.target) else bif decide (k=18) then (isPublicB a.n&&decide (0≤a.m)&&decide (a.m<20)) else bif decide (k=19) then isIds a.toL&&decide (0<(a.to.n:Int))&&wrappedB a&&decide (1≤a.n)&&decide (a.n≤(a.to.n:Int))&&isPublicB a.m else bif decide (k=20) then decide ((a.object.size:Int)=32) else bif decide (k=21) then decide ((a.object.size:Int)=32)&&decide ((a.text.size:Int)≤500) else bif decide (k=22) then decide ((a.object.size:Int)=32)&&decide (0≤a.n)&&decide (a.n≤1) else bif decide (k=23) then isId a.target&&decide ((a.text.size:Int)≤500)&&decide (0≤a.n)&&decide (a.n≤1099511627776) else false
def restA (k:Int) (a:ActD):ActD :=
 bif decide (k=0) then { a with text:=⟨#[]⟩,n:=0,m:=0 } else bif decide (k=1) then bareA a else bif decide (k=2) then { bareA a with object:=⟨#[]⟩ } else bif decide (k=3) then { bareA a with object:=⟨#[]⟩ } else bif decide (k=4) then { a with object:=⟨#[]⟩ } else bif decide (k=5) then { a with object:=⟨#[]⟩ } else bif decide (k=6) then { a with object:=⟨#[]⟩ } else bif decide (k=7) then { a with target:=⟨#[]⟩ } else bif decide (k=8) then { a with target:=⟨#[]⟩ } else bif decide (k=9) then { a with target:=⟨#[]⟩ } else bif decide (k=10) then { a with target:=⟨#[]⟩ } else bif decide (k=11) then { a with target:=⟨#[]⟩ } else bif decide (k=12) then { a with object:=⟨#[]⟩,text:=⟨#[]⟩ } else bif decide (k=13) then { a with object:=⟨#[]⟩ } else bif decide (k=14) then { bareA a with object:=⟨#[]⟩ } else bif decide (k=15) then { a with group:=⟨#[]⟩,to:=⟨none,0,0⟩,toL:=[] } else bif decide (k=16) then { a with scope:=0,group:=⟨#[]⟩,to:=⟨none,0,0⟩,toL:=[],epoch:=0,wraps:=⟨none,0,0⟩,wrapsL:=[] } else bif decide (k=17) then { a with text:=⟨#[]⟩,object:=⟨#[]⟩,target:=⟨#[]⟩ } else bif decide (k=18) then { a with n:=0,m:=0 } else bif decide (k=19) then { a with to:=⟨none,0,0⟩,toL:=[],wraps:=⟨none,0,0⟩,wrapsL:=[],n:=0,m:=0 } else bif decide (k=20) then { a with object:=⟨#[]⟩ } else bif decide (k=21) then { a with object:=⟨#[]⟩,text:=⟨#[]⟩ } else bif decide (k=22) then { a with object:=⟨#[]⟩,n:=0 } else bif decide (k=23) then { a with target:=⟨#[]⟩,text:=⟨#[]⟩,n:=0 } else a
def fitsR (a:ActD):Bool:=okR a.kind a&&zeroR (restA a.kind a)
theorem Cy (a:ActD):okR 0 a=((isPublicB a.n&&decide (0≤a.m)&&decide (a.m<20))&&isName a.text):=rfl
theorem tM (a:ActD):restA 0 a=({ a with text:=⟨#[]⟩,n:=0,m:=0 }:ActD):=rfl
theorem Cx (a:ActD):okR 1 a=(audienceB a):=rfl
theorem tL (a:ActD):restA 1 a=(bareA a:ActD):=rfl
theorem Cv (a:ActD):okR 2 a=(audienceB a&&decide ((a.object.size:Int)=32)):=rfl
theorem tK (a:ActD):restA 2 a=({ bareA a with object:=⟨#[]⟩ }:ActD):=rfl
theorem Cu (a:ActD):okR 3 a=(audienceB a&&decide ((a.object.size:Int)=32)):=rfl
theorem tJ (a:ActD):restA 3 a=({ bareA a with object:=⟨#[]⟩ }:ActD):=rfl
theorem Cs (a:ActD):okR 4 a=(decide ((a.object.size:Int)=32)):=rfl
theorem tI (a:ActD):restA 4 a=({ a with object:=⟨#[]⟩ }:ActD):=rfl
theorem Cq (a:ActD):okR 5 a=(decide ((a.object.size:Int)=32)):=rfl
theorem tH (a:ActD):restA 5 a=({ a with object:=⟨#[]⟩ }:ActD):=rfl
theorem Cp (a:ActD):okR 6 a=(decide ((a.object.size:Int)=32)):=rfl
theorem tG (a:ActD):restA 6 a=({ a with object:=⟨#[]⟩ }:ActD):=rfl
theorem Co (a:ActD):okR 7 a=(isId a.target):=rfl
theorem tF (a:ActD):restA 7 a=({ a with target:=⟨#[]⟩ }:ActD):=rfl
theorem Cn (a:ActD):okR 8 a=(isId a.target):=rfl
theorem tE (a:ActD):restA 8 a=({ a with target:=⟨#[]⟩ }:ActD):=rfl
theorem Cm (a:ActD):okR 9 a=(isId a.target):=rfl
theorem tD (a:ActD):restA 9 a=({ a with target:=⟨#[]⟩ }:ActD):=rfl
theorem yP (a:ActD):okR 10 a=(isId a.target):=rfl
theorem qi (a:ActD):restA 10 a=({ a with target:=⟨#[]⟩ }:ActD):=rfl
theorem yO (a:ActD):okR 11 a=(isId a.target):=rfl
theorem qg (a:ActD):restA 11 a=({ a with target:=⟨#[]⟩ }:ActD):=rfl
theorem yN (a:ActD):okR 12 a=(decide ((a.object.size:Int)=32)&&decide ((a.text.size:Int)≤500)):=rfl
theorem qf (a:ActD):restA 12 a=({ a with object:=⟨#[]⟩,text:=⟨#[]⟩ }:ActD):=rfl
theorem yM (a:ActD):okR 13 a=(decide ((a.object.size:Int)=32)):=rfl
theorem qe (a:ActD):restA 13 a=({ a with object:=⟨#[]⟩ }:ActD):=rfl
theorem yL (a:ActD):okR 14 a=(audienceB a&&decide ((a.object.size:Int)=32)):=rfl
theorem qd (a:ActD):restA 14 a=({ bareA a with object:=⟨#[]⟩ }:ActD):=rfl
theorem yK (a:ActD):okR 15 a=(isIds a.toL&&isName a.group):=rfl
theorem qc (a:ActD):restA 15 a=({ a with group:=⟨#[]⟩,to:=⟨none,0,0⟩,toL:=[] }:ActD):=rfl
theorem yJ (a:ActD):okR 16 a=(isIds a.toL&&decide (1≤a.scope)&&decide (a.scope≤3)&&groupR a&&decide (0≤a.epoch)&&decide (a.epoch≤1073741824)&&wrappedB a):=rfl
theorem qb (a:ActD):restA 16 a=({ a with scope:=0,group:=⟨#[]⟩,to:=⟨none,0,0⟩,toL:=[],epoch:=0,wraps:=⟨none,0,0⟩,wrapsL:=[] }:ActD):=rfl
theorem yI (a:ActD):okR 17 a=((bif !seqB a.object ⟨#[]⟩ then isName a.text&&decide ((a.object.size:Int)=32)&&seqB a.target ⟨#[]⟩ else isName a.text&&isId a.target)):=rfl
theorem qa (a:ActD):restA 17 a=({ a with text:=⟨#[]⟩,object:=⟨#[]⟩,target:=⟨#[]⟩ }:ActD):=rfl
theorem yH (a:ActD):okR 18 a=((isPublicB a.n&&decide (0≤a.m)&&decide (a.m<20))):=rfl
theorem p9 (a:ActD):restA 18 a=({ a with n:=0,m:=0 }:ActD):=rfl
theorem yG (a:ActD):okR 19 a=(isIds a.toL&&decide (0<(a.to.n:Int))&&wrappedB a&&decide (1≤a.n)&&decide (a.n≤(a.to.n:Int))&&isPublicB a.m):=rfl
theorem p8 (a:ActD):restA 19 a=({ a with to:=⟨none,0,0⟩,toL:=[],wraps:=⟨none,0,0⟩,wrapsL:=[],n:=0,m:=0 }:ActD):=rfl
theorem yF (a:ActD):okR 20 a=(decide ((a.object.size:Int)=32)):=rfl
theorem p7 (a:ActD):restA 20 a=({ a with object:=⟨#[]⟩ }:ActD):=rfl
theorem yE (a:ActD):okR 21 a=(decide ((a.object.size:Int)=32)&&decide ((a.text.size:Int)≤500)):=rfl
theorem p6 (a:ActD):restA 21 a=({ a with object:=⟨#[]⟩,text:=⟨#[]⟩ }:ActD):=rfl
theorem yD (a:ActD):okR 22 a=(decide ((a.object.size:Int)=32)&&decide (0≤a.n)&&decide (a.n≤1)):=rfl
theorem p5 (a:ActD):restA 22 a=({ a with object:=⟨#[]⟩,n:=0 }:ActD):=rfl
theorem yC (a:ActD):okR 23 a=(isId a.target&&decide ((a.text.size:Int)≤500)&&decide (0≤a.n)&&decide (a.n≤1099511627776)):=rfl
theorem pZ (a:ActD):restA 23 a=({ a with target:=⟨#[]⟩,text:=⟨#[]⟩,n:=0 }:ActD):=rfl
theorem qv {a:ActD} (h:¬ (0≤a.kind∧a.kind≤23)):okR a.kind a=false:=by
 rw [okR]
 rw [Zn (show ¬ a.kind=0 by omega),ZB]
 rw [Zn (show ¬ a.kind=1 by omega),ZB]
 rw [Zn (show ¬ a.kind=2 by omega),ZB]
 rw [Zn (show ¬ a.kind=3 by omega),ZB]
 rw [Zn (show ¬ a.kind=4 by omega),ZB]
 rw [Zn (show ¬ a.kind=5 by omega),ZB]
 rw [Zn (show ¬ a.kind=6 by omega),ZB]
 rw [Zn (show ¬ a.kind=7 by omega),ZB]
 rw [Zn (show ¬ a.kind=8 by omega),ZB]
 rw [Zn (show ¬ a.kind=9 by omega),ZB]
 rw [Zn (show ¬ a.kind=10 by omega),ZB]
 rw [Zn (show ¬ a.kind=11 by omega),ZB]
 rw [Zn (show ¬ a.kind=12 by omega),ZB]
 rw [Zn (show ¬ a.kind=13 by omega),ZB]
 rw [Zn (show ¬ a.kind=14 by omega),ZB]
 rw [Zn (show ¬ a.kind=15 by omega),ZB]
 rw [Zn (show ¬ a.kind=16 by omega),ZB]
 rw [Zn (show ¬ a.kind=17 by omega),ZB]
 rw [Zn (show ¬ a.kind=18 by omega),ZB]
 rw [Zn (show ¬ a.kind=19 by omega),ZB]
 rw [Zn (show ¬ a.kind=20 by omega),ZB]
 rw [Zn (show ¬ a.kind=21 by omega),ZB]
 rw [Zn (show ¬ a.kind=22 by omega),ZB]
 rw [Zn (show ¬ a.kind=23 by omega),ZB]
theorem nG {k:Int} (h:0≤k∧k≤23):k=0∨k=1∨k=2∨k=3∨k=4∨k=5∨k=6∨k=7∨k=8∨k=9∨k=10∨k=11∨k=12∨k=13∨k=14∨k=15∨k=16∨k=17∨k=18∨k=19∨k=20∨k=21∨k=22∨k=23:=by omega
set_option maxRecDepth 20000 in
set_option maxHeartbeats 16000000 in
theorem rR (a:ActD) (hs:a.Str):Pu Tryz.prog 208 #[a.v] (ActD.at_ · a) (.bool (fitsR a)):=by
 refine ay (args:=[_]) _ Tryz.func208 rfl Tryz.ntmps208 rfl fun av bor w0=>?_
 have c1:=fd a.n
 have c2:=fd a.m
 have c3:=ik a.text hs.text
 have c4:=ik a.group hs.group
 have c5:=lT a hs
 have c6:=rV a
 have c7:=fU a.target hs.target
 have c8:=jD a.to a.toL hs.to
 have c9:=j3 a hs
 have c10:=mQ a
 by_cases hk:0≤a.kind∧a.kind≤23
 · rw [fitsR]
   rcases nG hk with h|h|h|h|h|h|h|h|h|h|h|h|h|h|h|h|h|h|h|h|h|h|h|h
   · rw [h,Cy,tM]
     have c0:=bV ({ a with text:=⟨#[]⟩,n:=0,m:=0 }:ActD)
     repeat' (first|refine bn (hab:=by omega) ?_|apply ab|apply Qu|apply Qv|refine aj ?_|refine ad ?_|refine az ?_|refine aA ?_|refine aD ?_|refine aB ?_|refine aC ?_|refine bj ?_|refine da ?_|refine aL ?_|refine aI fun _=>?_|refine aK fun _=>?_|refine bc ?_|refine aH ?_|refine Qy ?_|apply Qx|apply Qw|apply ar|(refine ao (hc:=c0) (hX:=fun _ _=>trivial) ?_)|(refine ao (hc:=c1) (hX:=fun _ _=>trivial) ?_)|(refine ao (hc:=c3) (hX:=fun _ _=>trivial) ?_)|((fail_if_success (refine aZ ?_));refine aP (ht:=?_) (hf:=?_);all_goals (intro hx_;first|have:=aO hx_|have:=aQ hx_|skip))|fail)
     all_goals refine ak (ap rfl rfl) ?_
     all_goals first
      | rfl
      | (simp only [*,ZQ,ZO,ZC,ZB,ZE,ZD,ZH,ZG,ZK,ZI,ZP,ZJ,ZN,ZF];done)
      | (simp_all;done)
      | (simp_all;intros;omega)
      | skip
   · rw [h,Cx,tL]
     have c0:=bV (bareA a:ActD)
     repeat' (first|refine bn (hab:=by omega) ?_|refine bt (hab:=by omega) ?_|apply ab|apply Qu|apply Qv|refine aj ?_|refine ad ?_|refine az ?_|refine aA ?_|refine aD ?_|refine aB ?_|refine aC ?_|refine aL ?_|refine aI fun _=>?_|refine aK fun _=>?_|refine aH ?_|refine Qy ?_|refine Qz ?_|apply Qw|apply ar|(refine ao (hc:=c0) (hX:=fun _ _=>trivial) ?_)|(refine ao (hc:=c5) (hX:=fun w h=>h) ?_)|(refine ao (hc:=c6) (hX:=fun _ _=>trivial) ?_)|((fail_if_success (refine aZ ?_));refine aP (ht:=?_) (hf:=?_);all_goals (intro hx_;skip))|fail)
     all_goals refine ak (ap rfl rfl) ?_
     all_goals first
      | rfl
      | (simp only [*,ZQ,ZO,ZC,ZB,ZE,ZD,ZH,ZG,ZK,ZI,ZP,ZJ,ZN,ZF];done)
      | (simp_all;done)
      | (simp_all;intros;omega)
      | skip
   · rw [h,Cv,tK]
     have c0:=bV ({ bareA a with object:=⟨#[]⟩ }:ActD)
     repeat' (first|refine bn (hab:=by omega) ?_|refine bt (hab:=by omega) ?_|apply ab|apply Qu|apply Qv|refine aj ?_|refine ad ?_|refine az ?_|refine aA ?_|refine aD ?_|refine aB ?_|refine aC ?_|refine bM ?_|refine bU ?_|refine aL ?_|refine aI fun _=>?_|refine aK fun _=>?_|refine bc ?_|refine aH ?_|refine Qy ?_|refine Qz ?_|apply Qx|apply Qw|apply ar|(refine ao (hc:=c0) (hX:=fun _ _=>trivial) ?_)|(refine ao (hc:=c5) (hX:=fun w h=>h) ?_)|(refine ao (hc:=c6) (hX:=fun _ _=>trivial) ?_)|((fail_if_success (refine aZ ?_));refine aP (ht:=?_) (hf:=?_);all_goals (intro hx_;first|have:=aO hx_|have:=aQ hx_|skip))|fail)
     all_goals refine ak (ap rfl rfl) ?_
     all_goals first
      | rfl
      | (simp only [*,ZQ,ZO,ZC,ZB,ZE,ZD,ZH,ZG,ZK,ZI,ZP,ZJ,ZN,ZF];done)
      | (simp_all;done)
      | (simp_all;intros;omega)
      | skip
   · rw [h,Cu,tJ]
     have c0:=bV ({ bareA a with object:=⟨#[]⟩ }:ActD)
     repeat' (first|refine bn (hab:=by omega) ?_|refine bt (hab:=by omega) ?_|apply ab|apply Qu|apply Qv|refine aj ?_|refine ad ?_|refine az ?_|refine aA ?_|refine aD ?_|refine aB ?_|refine aC ?_|refine bM ?_|refine bU ?_|refine aL ?_|refine aI fun _=>?_|refine aK fun _=>?_|refine bc ?_|refine aH ?_|refine Qy ?_|refine Qz ?_|apply Qx|apply Qw|apply ar|(refine ao (hc:=c0) (hX:=fun _ _=>trivial) ?_)|(refine ao (hc:=c5) (hX:=fun w h=>h) ?_)|(refine ao (hc:=c6) (hX:=fun _ _=>trivial) ?_)|((fail_if_success (refine aZ ?_));refine aP (ht:=?_) (hf:=?_);all_goals (intro hx_;first|have:=aO hx_|have:=aQ hx_|skip))|fail)
     all_goals refine ak (ap rfl rfl) ?_
     all_goals first
      | rfl
      | (simp only [*,ZQ,ZO,ZC,ZB,ZE,ZD,ZH,ZG,ZK,ZI,ZP,ZJ,ZN,ZF];done)
      | (simp_all;done)
      | (simp_all;intros;omega)
      | skip
   · rw [h,Cs,tI]
     have c0:=bV ({ a with object:=⟨#[]⟩ }:ActD)
     repeat' (first|refine bn (hab:=by omega) ?_|refine bt (hab:=by omega) ?_|apply ab|apply Qu|apply Qv|refine aj ?_|refine ad ?_|refine az ?_|refine aA ?_|refine aD ?_|refine aB ?_|refine aC ?_|refine bM ?_|refine bU ?_|refine aL ?_|refine aI fun _=>?_|refine aK fun _=>?_|refine bc ?_|refine aH ?_|refine Qy ?_|refine Qz ?_|apply Qx|apply Qw|apply ar|(refine ao (hc:=c0) (hX:=fun _ _=>trivial) ?_)|((fail_if_success (refine aZ ?_));refine aP (ht:=?_) (hf:=?_);all_goals (intro hx_;first|have:=aO hx_|have:=aQ hx_))|fail)
     all_goals refine ak (ap rfl rfl) ?_
     all_goals first
      | rfl
      | (simp only [*,ZQ,ZO,ZC,ZB,ZE,ZD,ZH,ZG,ZK,ZI,ZP,ZJ,ZN,ZF];done)
      | (simp_all;done)
      | (simp_all;intros;omega)
      | skip
   · rw [h,Cq,tH]
     have c0:=bV ({ a with object:=⟨#[]⟩ }:ActD)
     repeat' (first|refine bn (hab:=by omega) ?_|refine bt (hab:=by omega) ?_|apply ab|apply Qu|apply Qv|refine aj ?_|refine ad ?_|refine az ?_|refine aA ?_|refine aD ?_|refine aB ?_|refine aC ?_|refine bM ?_|refine bU ?_|refine aL ?_|refine aI fun _=>?_|refine aK fun _=>?_|refine bc ?_|refine aH ?_|refine Qy ?_|refine Qz ?_|apply Qx|apply Qw|apply ar|(refine ao (hc:=c0) (hX:=fun _ _=>trivial) ?_)|((fail_if_success (refine aZ ?_));refine aP (ht:=?_) (hf:=?_);all_goals (intro hx_;first|have:=aO hx_|have:=aQ hx_))|fail)
     all_goals refine ak (ap rfl rfl) ?_
     all_goals first
      | rfl
      | (simp only [*,ZQ,ZO,ZC,ZB,ZE,ZD,ZH,ZG,ZK,ZI,ZP,ZJ,ZN,ZF];done)
      | (simp_all;done)
      | (simp_all;intros;omega)
      | skip
   · rw [h,Cp,tG]
     have c0:=bV ({ a with object:=⟨#[]⟩ }:ActD)
     repeat' (first|refine bn (hab:=by omega) ?_|refine bt (hab:=by omega) ?_|apply ab|apply Qu|apply Qv|refine aj ?_|refine ad ?_|refine az ?_|refine aA ?_|refine aD ?_|refine aB ?_|refine aC ?_|refine bM ?_|refine bU ?_|refine aL ?_|refine aI fun _=>?_|refine aK fun _=>?_|refine bc ?_|refine aH ?_|refine Qy ?_|refine Qz ?_|apply Qx|apply Qw|apply ar|(refine ao (hc:=c0) (hX:=fun _ _=>trivial) ?_)|((fail_if_success (refine aZ ?_));refine aP (ht:=?_) (hf:=?_);all_goals (intro hx_;first|have:=aO hx_|have:=aQ hx_))|fail)
     all_goals refine ak (ap rfl rfl) ?_
     all_goals first
      | rfl
      | (simp only [*,ZQ,ZO,ZC,ZB,ZE,ZD,ZH,ZG,ZK,ZI,ZP,ZJ,ZN,ZF];done)
      | (simp_all;done)
      | (simp_all;intros;omega)
      | skip
   · rw [h,Co,tF]
     have c0:=bV ({ a with target:=⟨#[]⟩ }:ActD)
     repeat' (first|refine bn (hab:=by omega) ?_|refine bt (hab:=by omega) ?_|apply ab|apply Qu|apply Qv|refine aj ?_|refine ad ?_|refine az ?_|refine aA ?_|refine aD ?_|refine aB ?_|refine aC ?_|refine aL ?_|refine aI fun _=>?_|refine aK fun _=>?_|refine bc ?_|refine aH ?_|refine Qy ?_|refine Qz ?_|apply Qx|apply Qw|apply ar|(refine ao (hc:=c0) (hX:=fun _ _=>trivial) ?_)|(refine ao (hc:=c7) (hX:=fun _ _=>trivial) ?_)|((fail_if_success (refine aZ ?_));refine aP (ht:=?_) (hf:=?_);all_goals (intro hx_;skip))|fail)
     all_goals refine ak (ap rfl rfl) ?_
     all_goals first
      | rfl
      | (simp only [*,ZQ,ZO,ZC,ZB,ZE,ZD,ZH,ZG,ZK,ZI,ZP,ZJ,ZN,ZF];done)
      | (simp_all;done)
      | (simp_all;intros;omega)
      | skip
   · rw [h,Cn,tE]
     have c0:=bV ({ a with target:=⟨#[]⟩ }:ActD)
     repeat' (first|refine bn (hab:=by omega) ?_|refine bt (hab:=by omega) ?_|apply ab|apply Qu|apply Qv|refine aj ?_|refine ad ?_|refine az ?_|refine aA ?_|refine aD ?_|refine aB ?_|refine aC ?_|refine aL ?_|refine aI fun _=>?_|refine aK fun _=>?_|refine bc ?_|refine aH ?_|refine Qy ?_|refine Qz ?_|apply Qx|apply Qw|apply ar|(refine ao (hc:=c0) (hX:=fun _ _=>trivial) ?_)|(refine ao (hc:=c7) (hX:=fun _ _=>trivial) ?_)|((fail_if_success (refine aZ ?_));refine aP (ht:=?_) (hf:=?_);all_goals (intro hx_;skip))|fail)
     all_goals refine ak (ap rfl rfl) ?_
     all_goals first
      | rfl
      | (simp only [*,ZQ,ZO,ZC,ZB,ZE,ZD,ZH,ZG,ZK,ZI,ZP,ZJ,ZN,ZF];done)
      | (simp_all;done)
      | (simp_all;intros;omega)
      | skip
   · rw [h,Cm,tD]
     have c0:=bV ({ a with target:=⟨#[]⟩ }:ActD)
     repeat' (first|refine bn (hab:=by omega) ?_|refine bt (hab:=by omega) ?_|apply ab|apply Qu|apply Qv|refine aj ?_|refine ad ?_|refine az ?_|refine aA ?_|refine aD ?_|refine aB ?_|refine aC ?_|refine aL ?_|refine aI fun _=>?_|refine aK fun _=>?_|refine bc ?_|refine aH ?_|refine Qy ?_|refine Qz ?_|apply Qx|apply Qw|apply ar|(refine ao (hc:=c0) (hX:=fun _ _=>trivial) ?_)|(refine ao (hc:=c7) (hX:=fun _ _=>trivial) ?_)|((fail_if_success (refine aZ ?_));refine aP (ht:=?_) (hf:=?_);all_goals (intro hx_;skip))|fail)
     all_goals refine ak (ap rfl rfl) ?_
     all_goals first
      | rfl
      | (simp only [*,ZQ,ZO,ZC,ZB,ZE,ZD,ZH,ZG,ZK,ZI,ZP,ZJ,ZN,ZF];done)
      | (simp_all;done)
      | (simp_all;intros;omega)
      | skip
   · rw [h,yP,qi]
     have c0:=bV ({ a with target:=⟨#[]⟩ }:ActD)
     repeat' (first|refine bn (hab:=by omega) ?_|refine bt (hab:=by omega) ?_|apply ab|apply Qu|apply Qv|refine aj ?_|refine ad ?_|refine az ?_|refine aA ?_|refine aD ?_|refine aB ?_|refine aC ?_|refine aL ?_|refine aI fun _=>?_|refine aK fun _=>?_|refine bc ?_|refine aH ?_|refine Qy ?_|refine Qz ?_|apply Qx|apply Qw|apply ar|(refine ao (hc:=c0) (hX:=fun _ _=>trivial) ?_)|(refine ao (hc:=c7) (hX:=fun _ _=>trivial) ?_)|((fail_if_success (refine aZ ?_));refine aP (ht:=?_) (hf:=?_);all_goals (intro hx_;skip))|fail)
     all_goals refine ak (ap rfl rfl) ?_
     all_goals first
      | rfl
      | (simp only [*,ZQ,ZO,ZC,ZB,ZE,ZD,ZH,ZG,ZK,ZI,ZP,ZJ,ZN,ZF];done)
      | (simp_all;done)
      | (simp_all;intros;omega)
      | skip
   · rw [h,yO,qg]
     have c0:=bV ({ a with target:=⟨#[]⟩ }:ActD)
     repeat' (first|refine bn (hab:=by omega) ?_|refine bt (hab:=by omega) ?_|apply ab|apply Qu|apply Qv|refine aj ?_|refine ad ?_|refine az ?_|refine aA ?_|refine aD ?_|refine aB ?_|refine aC ?_|refine aL ?_|refine aI fun _=>?_|refine aK fun _=>?_|refine bc ?_|refine aH ?_|refine Qy ?_|refine Qz ?_|apply Qw|apply ar|(refine ao (hc:=c0) (hX:=fun _ _=>trivial) ?_)|(refine ao (hc:=c7) (hX:=fun _ _=>trivial) ?_)|((fail_if_success (refine aZ ?_));refine aP (ht:=?_) (hf:=?_);all_goals (intro hx_;skip))|fail)
     all_goals refine ak (ap rfl rfl) ?_
     all_goals first
      | rfl
      | (simp only [*,ZQ,ZO,ZC,ZB,ZE,ZD,ZH,ZG,ZK,ZI,ZP,ZJ,ZN,ZF];done)
      | (simp_all;done)
      | (simp_all;intros;omega)
      | skip
   · rw [h,yN,qf]
     have c0:=bV ({ a with object:=⟨#[]⟩,text:=⟨#[]⟩ }:ActD)
     repeat' (first|refine bn (hab:=by omega) ?_|refine bt (hab:=by omega) ?_|apply ab|apply Qu|apply Qv|refine aj ?_|refine ad ?_|refine az ?_|refine aA ?_|refine aD ?_|refine aB ?_|refine aC ?_|refine bM ?_|refine cB ?_|refine bU ?_|refine aL ?_|refine aI fun _=>?_|refine aK fun _=>?_|refine bc ?_|refine aH ?_|refine Qy ?_|refine Qz ?_|apply Qx|apply Qw|apply ar|(refine ao (hc:=c0) (hX:=fun _ _=>trivial) ?_)|((fail_if_success (refine aZ ?_));refine aP (ht:=?_) (hf:=?_);all_goals (intro hx_;first|have:=aO hx_|have:=aQ hx_))|fail)
     all_goals refine ak (ap rfl rfl) ?_
     all_goals first
      | rfl
      | (simp only [*,ZQ,ZO,ZC,ZB,ZE,ZD,ZH,ZG,ZK,ZI,ZP,ZJ,ZN,ZF];done)
      | (simp_all;done)
      | (simp_all;intros;omega)
      | skip
   · rw [h,yM,qe]
     have c0:=bV ({ a with object:=⟨#[]⟩ }:ActD)
     repeat' (first|refine bn (hab:=by omega) ?_|refine bt (hab:=by omega) ?_|apply ab|apply Qu|apply Qv|refine aj ?_|refine ad ?_|refine az ?_|refine aA ?_|refine aD ?_|refine aB ?_|refine aC ?_|refine bM ?_|refine bU ?_|refine aL ?_|refine aI fun _=>?_|refine aK fun _=>?_|refine bc ?_|refine aH ?_|refine Qy ?_|refine Qz ?_|apply Qx|apply Qw|apply ar|(refine ao (hc:=c0) (hX:=fun _ _=>trivial) ?_)|((fail_if_success (refine aZ ?_));refine aP (ht:=?_) (hf:=?_);all_goals (intro hx_;first|have:=aO hx_|have:=aQ hx_))|fail)
     all_goals refine ak (ap rfl rfl) ?_
     all_goals first
      | rfl
      | (simp only [*,ZQ,ZO,ZC,ZB,ZE,ZD,ZH,ZG,ZK,ZI,ZP,ZJ,ZN,ZF];done)
      | (simp_all;done)
      | (simp_all;intros;omega)
      | skip
   · rw [h,yL,qd]
     have c0:=bV ({ bareA a with object:=⟨#[]⟩ }:ActD)
     repeat' (first|refine bn (hab:=by omega) ?_|refine bt (hab:=by omega) ?_|apply ab|apply Qu|apply Qv|refine aj ?_|refine ad ?_|refine az ?_|refine aA ?_|refine aD ?_|refine aB ?_|refine aC ?_|refine bM ?_|refine bU ?_|refine aL ?_|refine aI fun _=>?_|refine aK fun _=>?_|refine bc ?_|refine aH ?_|refine Qy ?_|refine Qz ?_|apply Qw|apply ar|(refine ao (hc:=c0) (hX:=fun _ _=>trivial) ?_)|(refine ao (hc:=c5) (hX:=fun w h=>h) ?_)|(refine ao (hc:=c6) (hX:=fun _ _=>trivial) ?_)|((fail_if_success (refine aZ ?_));refine aP (ht:=?_) (hf:=?_);all_goals (intro hx_;first|have:=aO hx_|have:=aQ hx_|skip))|fail)
     all_goals refine ak (ap rfl rfl) ?_
     all_goals first
      | rfl
      | (simp only [*,ZQ,ZO,ZC,ZB,ZE,ZD,ZH,ZG,ZK,ZI,ZP,ZJ,ZN,ZF];done)
      | (simp_all;done)
      | (simp_all;intros;omega)
      | skip
   · rw [h,yK,qc]
     have c0:=bV ({ a with group:=⟨#[]⟩,to:=⟨none,0,0⟩,toL:=[] }:ActD)
     repeat' (first|refine bn (hab:=by omega) ?_|refine bt (hab:=by omega) ?_|apply ab|apply Qu|apply Qv|refine aj ?_|refine ad ?_|refine az ?_|refine aA ?_|refine aD ?_|refine aB ?_|refine aC ?_|refine aL ?_|refine aI fun _=>?_|refine aK fun _=>?_|refine bc ?_|refine aH ?_|refine Qy ?_|refine Qz ?_|apply Qw|apply ar|(refine ao (hc:=c0) (hX:=fun _ _=>trivial) ?_)|(refine ao (hc:=c4) (hX:=fun _ _=>trivial) ?_)|(refine ao (hc:=c8) (hX:=fun w h=>h.1) ?_)|((fail_if_success (refine aZ ?_));refine aP (ht:=?_) (hf:=?_);all_goals (intro hx_;skip))|fail)
     all_goals refine ak (ap rfl rfl) ?_
     all_goals first
      | rfl
      | (simp only [*,ZQ,ZO,ZC,ZB,ZE,ZD,ZH,ZG,ZK,ZI,ZP,ZJ,ZN,ZF];done)
      | (simp_all;done)
      | (simp_all;intros;omega)
      | skip
   · rw [h,yJ,qb]
     have c0:=bV ({ a with scope:=0,group:=⟨#[]⟩,to:=⟨none,0,0⟩,toL:=[],epoch:=0,wraps:=⟨none,0,0⟩,wrapsL:=[] }:ActD)
     repeat' (first|refine bn (hab:=by omega) ?_|refine bt (hab:=by omega) ?_|apply ab|apply Qu|apply Qv|refine aj ?_|refine ad ?_|refine az ?_|refine aA ?_|refine aD ?_|refine aB ?_|refine aC ?_|refine cB ?_|refine da ?_|refine aL ?_|refine aI fun _=>?_|refine aK fun _=>?_|refine bc ?_|refine aH ?_|refine Qy ?_|refine Qz ?_|apply Qw|apply ar|(refine ao (hc:=c0) (hX:=fun _ _=>trivial) ?_)|(refine ao (hc:=c8) (hX:=fun w h=>h.1) ?_)|(refine ao (hc:=c9) (hX:=fun _ _=>trivial) ?_)|(refine ao (hc:=c10) (hX:=fun w h=>h) ?_)|((fail_if_success (refine aZ ?_));refine aP (ht:=?_) (hf:=?_);all_goals (intro hx_;first|have:=aO hx_|have:=aQ hx_|skip))|fail)
     all_goals refine ak (ap rfl rfl) ?_
     all_goals first
      | rfl
      | (simp only [*,ZQ,ZO,ZC,ZB,ZE,ZD,ZH,ZG,ZK,ZI,ZP,ZJ,ZN,ZF];done)
      | (simp_all;done)
      | (simp_all;intros;omega)
      | skip
   · rw [h,yI,qa]
     have c0:=bV ({ a with text:=⟨#[]⟩,object:=⟨#[]⟩,target:=⟨#[]⟩ }:ActD)
     repeat' (first|refine bn (hab:=by omega) ?_|refine bt (hab:=by omega) ?_|apply ab|apply Qu|apply Qv|refine aj ?_|refine ad ?_|refine az ?_|refine aA ?_|refine aD ?_|refine aB ?_|refine aC ?_|refine bM ?_|refine cE ?_|refine fC ?_|refine bU ?_|refine aL ?_|refine aI fun _=>?_|refine aK fun _=>?_|refine bc ?_|refine aH ?_|refine Qy ?_|refine Qz ?_|apply Qw|apply ar|(refine ao (hc:=c0) (hX:=fun _ _=>trivial) ?_)|(refine ao (hc:=c3) (hX:=fun _ _=>trivial) ?_)|(refine ao (hc:=c7) (hX:=fun _ _=>trivial) ?_)|((fail_if_success (refine aZ ?_));refine aP (ht:=?_) (hf:=?_);all_goals (intro hx_;first|have:=aO hx_|have:=aQ hx_|skip))|(refine aF (ht:=?_) (hf:=?_);all_goals (intro hx_;skip)))
     all_goals refine ak (ap rfl rfl) ?_
     all_goals first
      | rfl
      | (simp only [*,ZQ,ZO,ZC,ZB,ZE,ZD,ZH,ZG,ZK,ZI,ZP,ZJ,ZN,ZF];done)
      | (simp_all;done)
      | (simp_all;intros;omega)
      | skip
   · rw [h,yH,p9]
     have c0:=bV ({ a with n:=0,m:=0 }:ActD)
     repeat' (first|refine bn (hab:=by omega) ?_|refine bt (hab:=by omega) ?_|apply ab|apply Qu|apply Qv|refine aj ?_|refine ad ?_|refine az ?_|refine aA ?_|refine aD ?_|refine aB ?_|refine aC ?_|refine bj ?_|refine da ?_|refine aL ?_|refine aI fun _=>?_|refine aK fun _=>?_|refine bc ?_|refine aH ?_|refine Qy ?_|refine Qz ?_|apply Qx|apply Qw|apply ar|(refine ao (hc:=c0) (hX:=fun _ _=>trivial) ?_)|(refine ao (hc:=c1) (hX:=fun _ _=>trivial) ?_)|((fail_if_success (refine aZ ?_));refine aP (ht:=?_) (hf:=?_);all_goals (intro hx_;first|have:=aO hx_|have:=aQ hx_|skip))|fail)
     all_goals refine ak (ap rfl rfl) ?_
     all_goals first
      | rfl
      | (simp only [*,ZQ,ZO,ZC,ZB,ZE,ZD,ZH,ZG,ZK,ZI,ZP,ZJ,ZN,ZF];done)
      | (simp_all;done)
      | (simp_all;intros;omega)
      | skip
   · rw [h,yG,p8]
     have c0:=bV ({ a with to:=⟨none,0,0⟩,toL:=[],wraps:=⟨none,0,0⟩,wrapsL:=[],n:=0,m:=0 }:ActD)
     repeat' (first|refine bn (hab:=by omega) ?_|refine bt (hab:=by omega) ?_|apply ab|apply Qu|apply Qv|refine aj ?_|refine ad ?_|refine az ?_|refine aA ?_|refine aD ?_|refine aB ?_|refine aC ?_|refine cB ?_|refine cF ?_|refine da ?_|refine aW ?_|refine aL ?_|refine aI fun _=>?_|refine aK fun _=>?_|refine bc ?_|refine aH ?_|refine Qy ?_|refine Qz ?_|apply Qw|apply ar|(refine ao (hc:=c0) (hX:=fun _ _=>trivial) ?_)|(refine ao (hc:=c2) (hX:=fun _ _=>trivial) ?_)|(refine ao (hc:=c8) (hX:=fun w h=>h.1) ?_)|(refine ao (hc:=c10) (hX:=fun w h=>h) ?_)|((fail_if_success (refine aZ ?_));refine aP (ht:=?_) (hf:=?_);all_goals (intro hx_;first|have:=aO hx_|have:=aQ hx_|skip))|fail)
     all_goals refine ak (ap rfl rfl) ?_
     all_goals first
      | rfl
      | (simp only [*,ZQ,ZO,ZC,ZB,ZE,ZD,ZH,ZG,ZK,ZI,ZP,ZJ,ZN,ZF];done)
      | (simp_all;done)
      | (simp_all;intros;omega)
      | skip
   · rw [h,yF,p7]
     have c0:=bV ({ a with object:=⟨#[]⟩ }:ActD)
     repeat' (first|refine bn (hab:=by omega) ?_|refine bt (hab:=by omega) ?_|apply ab|apply Qu|apply Qv|refine aj ?_|refine ad ?_|refine az ?_|refine aA ?_|refine aD ?_|refine aB ?_|refine aC ?_|refine bM ?_|refine bU ?_|refine aL ?_|refine aI fun _=>?_|refine aK fun _=>?_|refine bc ?_|refine aH ?_|refine Qy ?_|refine Qz ?_|apply Qw|apply ar|(refine ao (hc:=c0) (hX:=fun _ _=>trivial) ?_)|((fail_if_success (refine aZ ?_));refine aP (ht:=?_) (hf:=?_);all_goals (intro hx_;first|have:=aO hx_|have:=aQ hx_))|fail)
     all_goals refine ak (ap rfl rfl) ?_
     all_goals first
      | rfl
      | (simp only [*,ZQ,ZO,ZC,ZB,ZE,ZD,ZH,ZG,ZK,ZI,ZP,ZJ,ZN,ZF];done)
      | (simp_all;done)
      | (simp_all;intros;omega)
      | skip
   · rw [h,yE,p6]
     have c0:=bV ({ a with object:=⟨#[]⟩,text:=⟨#[]⟩ }:ActD)
     repeat' (first|refine bn (hab:=by omega) ?_|refine bt (hab:=by omega) ?_|apply ab|apply Qu|apply Qv|refine aj ?_|refine ad ?_|refine az ?_|refine aA ?_|refine aD ?_|refine aB ?_|refine aC ?_|refine bM ?_|refine cB ?_|refine bU ?_|refine aL ?_|refine aI fun _=>?_|refine aK fun _=>?_|refine bc ?_|refine aH ?_|refine Qy ?_|refine Qz ?_|apply Qw|apply ar|(refine ao (hc:=c0) (hX:=fun _ _=>trivial) ?_)|((fail_if_success (refine aZ ?_));refine aP (ht:=?_) (hf:=?_);all_goals (intro hx_;first|have:=aO hx_|have:=aQ hx_))|fail)
     all_goals refine ak (ap rfl rfl) ?_
     all_goals first
      | rfl
      | (simp only [*,ZQ,ZO,ZC,ZB,ZE,ZD,ZH,ZG,ZK,ZI,ZP,ZJ,ZN,ZF];done)
      | (simp_all;done)
      | (simp_all;intros;omega)
      | skip
   · rw [h,yD,p5]
     have c0:=bV ({ a with object:=⟨#[]⟩,n:=0 }:ActD)
     repeat' (first|refine bn (hab:=by omega) ?_|refine bt (hab:=by omega) ?_|apply ab|apply Qu|apply Qv|refine aj ?_|refine ad ?_|refine az ?_|refine aA ?_|refine aD ?_|refine aB ?_|refine aC ?_|refine bM ?_|refine cB ?_|refine da ?_|refine bU ?_|refine aL ?_|refine aI fun _=>?_|refine aK fun _=>?_|refine bc ?_|refine aH ?_|refine Qy ?_|refine Qz ?_|apply Qw|apply ar|(refine ao (hc:=c0) (hX:=fun _ _=>trivial) ?_)|((fail_if_success (refine aZ ?_));refine aP (ht:=?_) (hf:=?_);all_goals (intro hx_;first|have:=aO hx_|have:=aQ hx_))|fail)
     all_goals refine ak (ap rfl rfl) ?_
     all_goals first
      | rfl
      | (simp only [*,ZQ,ZO,ZC,ZB,ZE,ZD,ZH,ZG,ZK,ZI,ZP,ZJ,ZN,ZF];done)
      | (simp_all;done)
      | (simp_all;intros;omega)
      | skip
   · rw [h,yC,pZ]
     have c0:=bV ({ a with target:=⟨#[]⟩,text:=⟨#[]⟩,n:=0 }:ActD)
     repeat' (first|refine bn (hab:=by omega) ?_|refine bt (hab:=by omega) ?_|apply ab|apply Qu|apply Qv|refine aj ?_|refine ad ?_|refine az ?_|refine aA ?_|refine aD ?_|refine aB ?_|refine aC ?_|refine cB ?_|refine da ?_|refine bU ?_|refine aL ?_|refine aI fun _=>?_|refine aK fun _=>?_|refine bc ?_|refine aH ?_|refine Qy ?_|refine Qz ?_|apply Qw|apply ar|(refine ao (hc:=c0) (hX:=fun _ _=>trivial) ?_)|(refine ao (hc:=c7) (hX:=fun _ _=>trivial) ?_)|((fail_if_success (refine aZ ?_));refine aP (ht:=?_) (hf:=?_);all_goals (intro hx_;first|have:=aO hx_|have:=aQ hx_|skip))|fail)
     all_goals refine ak (ap rfl rfl) ?_
     all_goals first
      | rfl
      | (simp only [*,ZQ,ZO,ZC,ZB,ZE,ZD,ZH,ZG,ZK,ZI,ZP,ZJ,ZN,ZF];done)
      | (simp_all;done)
      | (simp_all;intros;omega)
      | skip
 · rw [fitsR,qv hk,ZG]
   repeat' (first|refine bt (hab:=by omega) ?_|apply ab|apply Qu|apply Qv|refine aj ?_|refine ad ?_|refine az ?_|refine aA ?_|refine aD ?_|refine aC ?_|refine aL ?_|refine aI fun _=>?_|refine aK fun _=>?_|refine aH ?_|refine Qz ?_|apply Qx|apply Qw|apply ar|fail)
   exact ak (ap rfl rfl) rfl
def maskB (fs:Nat) (z0 z1 z2 z3 z4 z5 z6 z7 z8 z9 z10:Bool):Bool:=(fs.testBit 0||z0)&&(fs.testBit 1||z1)&&(fs.testBit 2||z2)&&(fs.testBit 3||z3)&&(fs.testBit 4||z4)&&(fs.testBit 5||z5)&&(fs.testBit 6||z6)&&(fs.testBit 7||z7)&&(fs.testBit 8||z8)&&(fs.testBit 9||z9)&&(fs.testBit 10||z10)
def maskOk (fs:Nat) (z0 z1 z2 z3 z4 z5 z6 z7 z8 z9 z10:Bool):Bool:=decide (bitsV .andNot .i64 (useU z0 z1 z2 z3 z4 z5 z6 z7 z8 z9 z10) fs=0)==maskB fs z0 z1 z2 z3 z4 z5 z6 z7 z8 z9 z10
def maskAll (fs:Nat):Bool:=bools fun z0=>bools fun z1=>bools fun z2=>bools fun z3=>bools fun z4=>bools fun z5=>bools fun z6=>bools fun z7=>bools fun z8=>bools fun z9=>bools fun z10=>maskOk fs z0 z1 z2 z3 z4 z5 z6 z7 z8 z9 z10
theorem qD:([1568,252,253,1,2,33,24,412,35,1536,1808,513,546].all maskAll)=true:=by decide +kernel
theorem cO {fs:Nat} (hfs:fs∈[1568,252,253,1,2,33,24,412,35,1536,1808,513,546]) (z0 z1 z2 z3 z4 z5 z6 z7 z8 z9 z10:Bool):decide (bitsV .andNot .i64 (useU z0 z1 z2 z3 z4 z5 z6 z7 z8 z9 z10) fs=0)=maskB fs z0 z1 z2 z3 z4 z5 z6 z7 z8 z9 z10:=by
 have h:=List.all_eq_true.1 qD fs hfs
 have h1:=co (co (co (co (co (co (co (co (co (co (co h z0) z1) z2) z3) z4) z5) z6) z7) z8) z9) z10
 exact eq_of_beq h1
theorem cd (a:ActD):usedV a=useU (seqB a.object ⟨#[]⟩) (seqB a.target ⟨#[]⟩) (decide (a.scope=0)) (seqB a.group ⟨#[]⟩) (decide ((a.to.n:Int)=0)) (seqB a.text ⟨#[]⟩) (boxEq a.body BoxD.zero) (decide (a.epoch=0)) (decide ((a.wraps.n:Int)=0)) (decide (a.n=0)) (decide (a.m=0)):=rfl
theorem lt20 (m:Int):decide (m<20)=decide (m≤19):=decide_eq_decide.2 ae
theorem bE (a:ActD):sealedScopeB a.scope a.group=(decide (1≤a.scope)&&decide (a.scope≤3)&&groupR a):=by
 rw [sealedScopeB,groupR]
 by_cases h2:a.scope=2
 · rw [h2];rfl
 by_cases h1:a.scope=1
 · rw [h1];rfl
 by_cases h3:a.scope=3
 · rw [h3];rfl
 rw [Zn h1,Zn h2,Zn h3]
 by_cases hl:1≤a.scope
 · rw [Zn (show ¬ a.scope≤3 by omega),ZH]
   rfl
 · rw [Zn hl]
   rfl
theorem sE (s:ByteArray) (h:seqB s ⟨#[]⟩=true):decide ((s.size:Int)=32)=false:=by
 rw [dL,ZT] at h
 exact Zn ae
theorem Da {a:ActD} (h:a.kind=0):ruleB a=(maskB 1568 (seqB a.object ⟨#[]⟩) (seqB a.target ⟨#[]⟩) (decide (a.scope=0)) (seqB a.group ⟨#[]⟩) (decide ((a.to.n:Int)=0)) (seqB a.text ⟨#[]⟩) (boxEq a.body BoxD.zero) (decide (a.epoch=0)) (decide ((a.wraps.n:Int)=0)) (decide (a.n=0)) (decide (a.m=0))&&rule3B a):=by
 have hm:mget (ruleL a) a.kind=some (1568,rule3B a):=by rw [h];rfl
 rw [ruleB,hm]
 simp only
 rw [cd]
 exact congrArg (·&&_) (cO (fs:=1568) (by decide) _ _ _ _ _ _ _ _ _ _ _)
theorem C9 {a:ActD} (h:a.kind=1):ruleB a=(maskB 252 (seqB a.object ⟨#[]⟩) (seqB a.target ⟨#[]⟩) (decide (a.scope=0)) (seqB a.group ⟨#[]⟩) (decide ((a.to.n:Int)=0)) (seqB a.text ⟨#[]⟩) (boxEq a.body BoxD.zero) (decide (a.epoch=0)) (decide ((a.wraps.n:Int)=0)) (decide (a.n=0)) (decide (a.m=0))&&audienceB a):=by
 have hm:mget (ruleL a) a.kind=some (252,audienceB a):=by rw [h];rfl
 rw [ruleB,hm]
 simp only
 rw [cd]
 exact congrArg (·&&_) (cO (fs:=252) (by decide) _ _ _ _ _ _ _ _ _ _ _)
theorem C8 {a:ActD} (h:a.kind=2):ruleB a=(maskB 253 (seqB a.object ⟨#[]⟩) (seqB a.target ⟨#[]⟩) (decide (a.scope=0)) (seqB a.group ⟨#[]⟩) (decide ((a.to.n:Int)=0)) (seqB a.text ⟨#[]⟩) (boxEq a.body BoxD.zero) (decide (a.epoch=0)) (decide ((a.wraps.n:Int)=0)) (decide (a.n=0)) (decide (a.m=0))&&rule1B a):=by
 have hm:mget (ruleL a) a.kind=some (253,rule1B a):=by rw [h];rfl
 rw [ruleB,hm]
 simp only
 rw [cd]
 exact congrArg (·&&_) (cO (fs:=253) (by decide) _ _ _ _ _ _ _ _ _ _ _)
theorem C7 {a:ActD} (h:a.kind=3):ruleB a=(maskB 253 (seqB a.object ⟨#[]⟩) (seqB a.target ⟨#[]⟩) (decide (a.scope=0)) (seqB a.group ⟨#[]⟩) (decide ((a.to.n:Int)=0)) (seqB a.text ⟨#[]⟩) (boxEq a.body BoxD.zero) (decide (a.epoch=0)) (decide ((a.wraps.n:Int)=0)) (decide (a.n=0)) (decide (a.m=0))&&rule1B a):=by
 have hm:mget (ruleL a) a.kind=some (253,rule1B a):=by rw [h];rfl
 rw [ruleB,hm]
 simp only
 rw [cd]
 exact congrArg (·&&_) (cO (fs:=253) (by decide) _ _ _ _ _ _ _ _ _ _ _)
theorem C6 {a:ActD} (h:a.kind=4):ruleB a=(maskB 1 (seqB a.object ⟨#[]⟩) (seqB a.target ⟨#[]⟩) (decide (a.scope=0)) (seqB a.group ⟨#[]⟩) (decide ((a.to.n:Int)=0)) (seqB a.text ⟨#[]⟩) (boxEq a.body BoxD.zero) (decide (a.epoch=0)) (decide ((a.wraps.n:Int)=0)) (decide (a.n=0)) (decide (a.m=0))&&objectB a):=by
 have hm:mget (ruleL a) a.kind=some (1,objectB a):=by rw [h];rfl
 rw [ruleB,hm]
 simp only
 rw [cd]
 exact congrArg (·&&_) (cO (fs:=1) (by decide) _ _ _ _ _ _ _ _ _ _ _)
theorem C5 {a:ActD} (h:a.kind=5):ruleB a=(maskB 1 (seqB a.object ⟨#[]⟩) (seqB a.target ⟨#[]⟩) (decide (a.scope=0)) (seqB a.group ⟨#[]⟩) (decide ((a.to.n:Int)=0)) (seqB a.text ⟨#[]⟩) (boxEq a.body BoxD.zero) (decide (a.epoch=0)) (decide ((a.wraps.n:Int)=0)) (decide (a.n=0)) (decide (a.m=0))&&objectB a):=by
 have hm:mget (ruleL a) a.kind=some (1,objectB a):=by rw [h];rfl
 rw [ruleB,hm]
 simp only
 rw [cd]
 exact congrArg (·&&_) (cO (fs:=1) (by decide) _ _ _ _ _ _ _ _ _ _ _)
theorem C4 {a:ActD} (h:a.kind=6):ruleB a=(maskB 1 (seqB a.object ⟨#[]⟩) (seqB a.target ⟨#[]⟩) (decide (a.scope=0)) (seqB a.group ⟨#[]⟩) (decide ((a.to.n:Int)=0)) (seqB a.text ⟨#[]⟩) (boxEq a.body BoxD.zero) (decide (a.epoch=0)) (decide ((a.wraps.n:Int)=0)) (decide (a.n=0)) (decide (a.m=0))&&objectB a):=by
 have hm:mget (ruleL a) a.kind=some (1,objectB a):=by rw [h];rfl
 rw [ruleB,hm]
 simp only
 rw [cd]
 exact congrArg (·&&_) (cO (fs:=1) (by decide) _ _ _ _ _ _ _ _ _ _ _)
theorem C3 {a:ActD} (h:a.kind=7):ruleB a=(maskB 2 (seqB a.object ⟨#[]⟩) (seqB a.target ⟨#[]⟩) (decide (a.scope=0)) (seqB a.group ⟨#[]⟩) (decide ((a.to.n:Int)=0)) (seqB a.text ⟨#[]⟩) (boxEq a.body BoxD.zero) (decide (a.epoch=0)) (decide ((a.wraps.n:Int)=0)) (decide (a.n=0)) (decide (a.m=0))&&targetB a):=by
 have hm:mget (ruleL a) a.kind=some (2,targetB a):=by rw [h];rfl
 rw [ruleB,hm]
 simp only
 rw [cd]
 exact congrArg (·&&_) (cO (fs:=2) (by decide) _ _ _ _ _ _ _ _ _ _ _)
theorem C2 {a:ActD} (h:a.kind=8):ruleB a=(maskB 2 (seqB a.object ⟨#[]⟩) (seqB a.target ⟨#[]⟩) (decide (a.scope=0)) (seqB a.group ⟨#[]⟩) (decide ((a.to.n:Int)=0)) (seqB a.text ⟨#[]⟩) (boxEq a.body BoxD.zero) (decide (a.epoch=0)) (decide ((a.wraps.n:Int)=0)) (decide (a.n=0)) (decide (a.m=0))&&targetB a):=by
 have hm:mget (ruleL a) a.kind=some (2,targetB a):=by rw [h];rfl
 rw [ruleB,hm]
 simp only
 rw [cd]
 exact congrArg (·&&_) (cO (fs:=2) (by decide) _ _ _ _ _ _ _ _ _ _ _)
theorem C1 {a:ActD} (h:a.kind=9):ruleB a=(maskB 2 (seqB a.object ⟨#[]⟩) (seqB a.target ⟨#[]⟩) (decide (a.scope=0)) (seqB a.group ⟨#[]⟩) (decide ((a.to.n:Int)=0)) (seqB a.text ⟨#[]⟩) (boxEq a.body BoxD.zero) (decide (a.epoch=0)) (decide ((a.wraps.n:Int)=0)) (decide (a.n=0)) (decide (a.m=0))&&targetB a):=by
 have hm:mget (ruleL a) a.kind=some (2,targetB a):=by rw [h];rfl
 rw [ruleB,hm]
 simp only
 rw [cd]
 exact congrArg (·&&_) (cO (fs:=2) (by decide) _ _ _ _ _ _ _ _ _ _ _)
theorem Bf {a:ActD} (h:a.kind=10):ruleB a=(maskB 2 (seqB a.object ⟨#[]⟩) (seqB a.target ⟨#[]⟩) (decide (a.scope=0)) (seqB a.group ⟨#[]⟩) (decide ((a.to.n:Int)=0)) (seqB a.text ⟨#[]⟩) (boxEq a.body BoxD.zero) (decide (a.epoch=0)) (decide ((a.wraps.n:Int)=0)) (decide (a.n=0)) (decide (a.m=0))&&targetB a):=by
 have hm:mget (ruleL a) a.kind=some (2,targetB a):=by rw [h];rfl
 rw [ruleB,hm]
 simp only
 rw [cd]
 exact congrArg (·&&_) (cO (fs:=2) (by decide) _ _ _ _ _ _ _ _ _ _ _)
theorem Be {a:ActD} (h:a.kind=11):ruleB a=(maskB 2 (seqB a.object ⟨#[]⟩) (seqB a.target ⟨#[]⟩) (decide (a.scope=0)) (seqB a.group ⟨#[]⟩) (decide ((a.to.n:Int)=0)) (seqB a.text ⟨#[]⟩) (boxEq a.body BoxD.zero) (decide (a.epoch=0)) (decide ((a.wraps.n:Int)=0)) (decide (a.n=0)) (decide (a.m=0))&&targetB a):=by
 have hm:mget (ruleL a) a.kind=some (2,targetB a):=by rw [h];rfl
 rw [ruleB,hm]
 simp only
 rw [cd]
 exact congrArg (·&&_) (cO (fs:=2) (by decide) _ _ _ _ _ _ _ _ _ _ _)
theorem Bd {a:ActD} (h:a.kind=12):ruleB a=(maskB 33 (seqB a.object ⟨#[]⟩) (seqB a.target ⟨#[]⟩) (decide (a.scope=0)) (seqB a.group ⟨#[]⟩) (decide ((a.to.n:Int)=0)) (seqB a.text ⟨#[]⟩) (boxEq a.body BoxD.zero) (decide (a.epoch=0)) (decide ((a.wraps.n:Int)=0)) (decide (a.n=0)) (decide (a.m=0))&&rule2B a):=by
 have hm:mget (ruleL a) a.kind=some (33,rule2B a):=by rw [h];rfl
 rw [ruleB,hm]
 simp only
 rw [cd]
 exact congrArg (·&&_) (cO (fs:=33) (by decide) _ _ _ _ _ _ _ _ _ _ _)
theorem Bc {a:ActD} (h:a.kind=13):ruleB a=(maskB 1 (seqB a.object ⟨#[]⟩) (seqB a.target ⟨#[]⟩) (decide (a.scope=0)) (seqB a.group ⟨#[]⟩) (decide ((a.to.n:Int)=0)) (seqB a.text ⟨#[]⟩) (boxEq a.body BoxD.zero) (decide (a.epoch=0)) (decide ((a.wraps.n:Int)=0)) (decide (a.n=0)) (decide (a.m=0))&&objectB a):=by
 have hm:mget (ruleL a) a.kind=some (1,objectB a):=by rw [h];rfl
 rw [ruleB,hm]
 simp only
 rw [cd]
 exact congrArg (·&&_) (cO (fs:=1) (by decide) _ _ _ _ _ _ _ _ _ _ _)
theorem Bb {a:ActD} (h:a.kind=14):ruleB a=(maskB 253 (seqB a.object ⟨#[]⟩) (seqB a.target ⟨#[]⟩) (decide (a.scope=0)) (seqB a.group ⟨#[]⟩) (decide ((a.to.n:Int)=0)) (seqB a.text ⟨#[]⟩) (boxEq a.body BoxD.zero) (decide (a.epoch=0)) (decide ((a.wraps.n:Int)=0)) (decide (a.n=0)) (decide (a.m=0))&&rule1B a):=by
 have hm:mget (ruleL a) a.kind=some (253,rule1B a):=by rw [h];rfl
 rw [ruleB,hm]
 simp only
 rw [cd]
 exact congrArg (·&&_) (cO (fs:=253) (by decide) _ _ _ _ _ _ _ _ _ _ _)
theorem Ba {a:ActD} (h:a.kind=15):ruleB a=(maskB 24 (seqB a.object ⟨#[]⟩) (seqB a.target ⟨#[]⟩) (decide (a.scope=0)) (seqB a.group ⟨#[]⟩) (decide ((a.to.n:Int)=0)) (seqB a.text ⟨#[]⟩) (boxEq a.body BoxD.zero) (decide (a.epoch=0)) (decide ((a.wraps.n:Int)=0)) (decide (a.n=0)) (decide (a.m=0))&&rule4B a):=by
 have hm:mget (ruleL a) a.kind=some (24,rule4B a):=by rw [h];rfl
 rw [ruleB,hm]
 simp only
 rw [cd]
 exact congrArg (·&&_) (cO (fs:=24) (by decide) _ _ _ _ _ _ _ _ _ _ _)
theorem A9 {a:ActD} (h:a.kind=16):ruleB a=(maskB 412 (seqB a.object ⟨#[]⟩) (seqB a.target ⟨#[]⟩) (decide (a.scope=0)) (seqB a.group ⟨#[]⟩) (decide ((a.to.n:Int)=0)) (seqB a.text ⟨#[]⟩) (boxEq a.body BoxD.zero) (decide (a.epoch=0)) (decide ((a.wraps.n:Int)=0)) (decide (a.n=0)) (decide (a.m=0))&&grantB a):=by
 have hm:mget (ruleL a) a.kind=some (412,grantB a):=by rw [h];rfl
 rw [ruleB,hm]
 simp only
 rw [cd]
 exact congrArg (·&&_) (cO (fs:=412) (by decide) _ _ _ _ _ _ _ _ _ _ _)
theorem A8 {a:ActD} (h:a.kind=17):ruleB a=(maskB 35 (seqB a.object ⟨#[]⟩) (seqB a.target ⟨#[]⟩) (decide (a.scope=0)) (seqB a.group ⟨#[]⟩) (decide ((a.to.n:Int)=0)) (seqB a.text ⟨#[]⟩) (boxEq a.body BoxD.zero) (decide (a.epoch=0)) (decide ((a.wraps.n:Int)=0)) (decide (a.n=0)) (decide (a.m=0))&&labelB a):=by
 have hm:mget (ruleL a) a.kind=some (35,labelB a):=by rw [h];rfl
 rw [ruleB,hm]
 simp only
 rw [cd]
 exact congrArg (·&&_) (cO (fs:=35) (by decide) _ _ _ _ _ _ _ _ _ _ _)
theorem A7 {a:ActD} (h:a.kind=18):ruleB a=(maskB 1536 (seqB a.object ⟨#[]⟩) (seqB a.target ⟨#[]⟩) (decide (a.scope=0)) (seqB a.group ⟨#[]⟩) (decide ((a.to.n:Int)=0)) (seqB a.text ⟨#[]⟩) (boxEq a.body BoxD.zero) (decide (a.epoch=0)) (decide ((a.wraps.n:Int)=0)) (decide (a.n=0)) (decide (a.m=0))&&homeB a):=by
 have hm:mget (ruleL a) a.kind=some (1536,homeB a):=by rw [h];rfl
 rw [ruleB,hm]
 simp only
 rw [cd]
 exact congrArg (·&&_) (cO (fs:=1536) (by decide) _ _ _ _ _ _ _ _ _ _ _)
theorem A6 {a:ActD} (h:a.kind=19):ruleB a=(maskB 1808 (seqB a.object ⟨#[]⟩) (seqB a.target ⟨#[]⟩) (decide (a.scope=0)) (seqB a.group ⟨#[]⟩) (decide ((a.to.n:Int)=0)) (seqB a.text ⟨#[]⟩) (boxEq a.body BoxD.zero) (decide (a.epoch=0)) (decide ((a.wraps.n:Int)=0)) (decide (a.n=0)) (decide (a.m=0))&&setupB a):=by
 have hm:mget (ruleL a) a.kind=some (1808,setupB a):=by rw [h];rfl
 rw [ruleB,hm]
 simp only
 rw [cd]
 exact congrArg (·&&_) (cO (fs:=1808) (by decide) _ _ _ _ _ _ _ _ _ _ _)
theorem AZ {a:ActD} (h:a.kind=20):ruleB a=(maskB 1 (seqB a.object ⟨#[]⟩) (seqB a.target ⟨#[]⟩) (decide (a.scope=0)) (seqB a.group ⟨#[]⟩) (decide ((a.to.n:Int)=0)) (seqB a.text ⟨#[]⟩) (boxEq a.body BoxD.zero) (decide (a.epoch=0)) (decide ((a.wraps.n:Int)=0)) (decide (a.n=0)) (decide (a.m=0))&&objectB a):=by
 have hm:mget (ruleL a) a.kind=some (1,objectB a):=by rw [h];rfl
 rw [ruleB,hm]
 simp only
 rw [cd]
 exact congrArg (·&&_) (cO (fs:=1) (by decide) _ _ _ _ _ _ _ _ _ _ _)
theorem AY {a:ActD} (h:a.kind=21):ruleB a=(maskB 33 (seqB a.object ⟨#[]⟩) (seqB a.target ⟨#[]⟩) (decide (a.scope=0)) (seqB a.group ⟨#[]⟩) (decide ((a.to.n:Int)=0)) (seqB a.text ⟨#[]⟩) (boxEq a.body BoxD.zero) (decide (a.epoch=0)) (decide ((a.wraps.n:Int)=0)) (decide (a.n=0)) (decide (a.m=0))&&rule2B a):=by
 have hm:mget (ruleL a) a.kind=some (33,rule2B a):=by rw [h];rfl
 rw [ruleB,hm]
 simp only
 rw [cd]
 exact congrArg (·&&_) (cO (fs:=33) (by decide) _ _ _ _ _ _ _ _ _ _ _)
theorem AX {a:ActD} (h:a.kind=22):ruleB a=(maskB 513 (seqB a.object ⟨#[]⟩) (seqB a.target ⟨#[]⟩) (decide (a.scope=0)) (seqB a.group ⟨#[]⟩) (decide ((a.to.n:Int)=0)) (seqB a.text ⟨#[]⟩) (boxEq a.body BoxD.zero) (decide (a.epoch=0)) (decide ((a.wraps.n:Int)=0)) (decide (a.n=0)) (decide (a.m=0))&&rule5B a):=by
 have hm:mget (ruleL a) a.kind=some (513,rule5B a):=by rw [h];rfl
 rw [ruleB,hm]
 simp only
 rw [cd]
 exact congrArg (·&&_) (cO (fs:=513) (by decide) _ _ _ _ _ _ _ _ _ _ _)
theorem AW {a:ActD} (h:a.kind=23):ruleB a=(maskB 546 (seqB a.object ⟨#[]⟩) (seqB a.target ⟨#[]⟩) (decide (a.scope=0)) (seqB a.group ⟨#[]⟩) (decide ((a.to.n:Int)=0)) (seqB a.text ⟨#[]⟩) (boxEq a.body BoxD.zero) (decide (a.epoch=0)) (decide ((a.wraps.n:Int)=0)) (decide (a.n=0)) (decide (a.m=0))&&rule6B a):=by
 have hm:mget (ruleL a) a.kind=some (546,rule6B a):=by rw [h];rfl
 rw [ruleB,hm]
 simp only
 rw [cd]
 exact congrArg (·&&_) (cO (fs:=546) (by decide) _ _ _ _ _ _ _ _ _ _ _)
theorem vC {a:ActD} (h:¬ (0≤a.kind∧a.kind≤23)):ruleB a=false:=by
 have hm:mget (ruleL a) a.kind=none:=by
  rw [ruleL]
  rw [mget,show KeyT.eqb a.kind 0=false from Zn ae,ZB]
  rw [mget,show KeyT.eqb a.kind 1=false from Zn ae,ZB]
  rw [mget,show KeyT.eqb a.kind 2=false from Zn ae,ZB]
  rw [mget,show KeyT.eqb a.kind 3=false from Zn ae,ZB]
  rw [mget,show KeyT.eqb a.kind 14=false from Zn ae,ZB]
  rw [mget,show KeyT.eqb a.kind 4=false from Zn ae,ZB]
  rw [mget,show KeyT.eqb a.kind 5=false from Zn ae,ZB]
  rw [mget,show KeyT.eqb a.kind 6=false from Zn ae,ZB]
  rw [mget,show KeyT.eqb a.kind 13=false from Zn ae,ZB]
  rw [mget,show KeyT.eqb a.kind 20=false from Zn ae,ZB]
  rw [mget,show KeyT.eqb a.kind 7=false from Zn ae,ZB]
  rw [mget,show KeyT.eqb a.kind 8=false from Zn ae,ZB]
  rw [mget,show KeyT.eqb a.kind 9=false from Zn ae,ZB]
  rw [mget,show KeyT.eqb a.kind 10=false from Zn ae,ZB]
  rw [mget,show KeyT.eqb a.kind 11=false from Zn ae,ZB]
  rw [mget,show KeyT.eqb a.kind 12=false from Zn ae,ZB]
  rw [mget,show KeyT.eqb a.kind 21=false from Zn ae,ZB]
  rw [mget,show KeyT.eqb a.kind 15=false from Zn ae,ZB]
  rw [mget,show KeyT.eqb a.kind 16=false from Zn ae,ZB]
  rw [mget,show KeyT.eqb a.kind 17=false from Zn ae,ZB]
  rw [mget,show KeyT.eqb a.kind 18=false from Zn ae,ZB]
  rw [mget,show KeyT.eqb a.kind 19=false from Zn ae,ZB]
  rw [mget,show KeyT.eqb a.kind 22=false from Zn ae,ZB]
  rw [mget,show KeyT.eqb a.kind 23=false from Zn ae,ZB]
  rfl
 rw [ruleB,hm]
theorem zS:seqB (⟨#[]⟩:ByteArray) ⟨#[]⟩=true:=by kernel_rfl
theorem zB:boxEq BoxD.zero BoxD.zero=true:=by kernel_rfl
theorem zI:decide ((0:Int)=0)=true:=rfl
theorem zN:decide (((0:Nat):Int)=0)=true:=rfl
theorem lC:Nat.testBit 1 0=true:=by decide +kernel
theorem lB:Nat.testBit 1 1=false:=by decide +kernel
theorem lA:Nat.testBit 1 2=false:=by decide +kernel
theorem lz:Nat.testBit 1 3=false:=by decide +kernel
theorem lw:Nat.testBit 1 4=false:=by decide +kernel
theorem lv:Nat.testBit 1 5=false:=by decide +kernel
theorem lu:Nat.testBit 1 6=false:=by decide +kernel
theorem ls:Nat.testBit 1 7=false:=by decide +kernel
theorem lr:Nat.testBit 1 8=false:=by decide +kernel
theorem lq:Nat.testBit 1 9=false:=by decide +kernel
theorem iy:Nat.testBit 1 10=false:=by decide +kernel
theorem lc:Nat.testBit 2 0=false:=by decide +kernel
theorem la:Nat.testBit 2 1=true:=by decide +kernel
theorem k9:Nat.testBit 2 2=false:=by decide +kernel
theorem k8:Nat.testBit 2 3=false:=by decide +kernel
theorem k7:Nat.testBit 2 4=false:=by decide +kernel
theorem k0:Nat.testBit 2 5=false:=by decide +kernel
theorem kZ:Nat.testBit 2 6=false:=by decide +kernel
theorem kY:Nat.testBit 2 7=false:=by decide +kernel
theorem kX:Nat.testBit 2 8=false:=by decide +kernel
theorem kW:Nat.testBit 2 9=false:=by decide +kernel
theorem ix:Nat.testBit 2 10=false:=by decide +kernel
theorem AD:Nat.testBit 24 0=false:=by decide +kernel
theorem AC:Nat.testBit 24 1=false:=by decide +kernel
theorem AB:Nat.testBit 24 2=false:=by decide +kernel
theorem AA:Nat.testBit 24 3=true:=by decide +kernel
theorem Az:Nat.testBit 24 4=true:=by decide +kernel
theorem Ay:Nat.testBit 24 5=false:=by decide +kernel
theorem Ax:Nat.testBit 24 6=false:=by decide +kernel
theorem Av:Nat.testBit 24 7=false:=by decide +kernel
theorem Au:Nat.testBit 24 8=false:=by decide +kernel
theorem As:Nat.testBit 24 9=false:=by decide +kernel
theorem xS:Nat.testBit 24 10=false:=by decide +kernel
theorem tn:Nat.testBit 33 0=true:=by decide +kernel
theorem tk:Nat.testBit 33 1=false:=by decide +kernel
theorem tj:Nat.testBit 33 2=false:=by decide +kernel
theorem ti:Nat.testBit 33 3=false:=by decide +kernel
theorem tf:Nat.testBit 33 4=false:=by decide +kernel
theorem te:Nat.testBit 33 5=true:=by decide +kernel
theorem td:Nat.testBit 33 6=false:=by decide +kernel
theorem tc:Nat.testBit 33 7=false:=by decide +kernel
theorem tb:Nat.testBit 33 8=false:=by decide +kernel
theorem ta:Nat.testBit 33 9=false:=by decide +kernel
theorem pH:Nat.testBit 33 10=false:=by decide +kernel
theorem Ar:Nat.testBit 35 0=true:=by decide +kernel
theorem Aq:Nat.testBit 35 1=true:=by decide +kernel
theorem Ap:Nat.testBit 35 2=false:=by decide +kernel
theorem Ao:Nat.testBit 35 3=false:=by decide +kernel
theorem An:Nat.testBit 35 4=false:=by decide +kernel
theorem Am:Nat.testBit 35 5=true:=by decide +kernel
theorem Al:Nat.testBit 35 6=false:=by decide +kernel
theorem Ak:Nat.testBit 35 7=false:=by decide +kernel
theorem Aj:Nat.testBit 35 8=false:=by decide +kernel
theorem Ai:Nat.testBit 35 9=false:=by decide +kernel
theorem xH:Nat.testBit 35 10=false:=by decide +kernel
theorem xR:Nat.testBit 252 0=false:=by decide +kernel
theorem xQ:Nat.testBit 252 1=false:=by decide +kernel
theorem xP:Nat.testBit 252 2=true:=by decide +kernel
theorem xO:Nat.testBit 252 3=true:=by decide +kernel
theorem xN:Nat.testBit 252 4=true:=by decide +kernel
theorem xM:Nat.testBit 252 5=true:=by decide +kernel
theorem xL:Nat.testBit 252 6=true:=by decide +kernel
theorem xK:Nat.testBit 252 7=true:=by decide +kernel
theorem xJ:Nat.testBit 252 8=false:=by decide +kernel
theorem xI:Nat.testBit 252 9=false:=by decide +kernel
theorem uz:Nat.testBit 252 10=false:=by decide +kernel
theorem lp:Nat.testBit 253 0=true:=by decide +kernel
theorem ln:Nat.testBit 253 1=false:=by decide +kernel
theorem lm:Nat.testBit 253 2=true:=by decide +kernel
theorem ll:Nat.testBit 253 3=true:=by decide +kernel
theorem lk:Nat.testBit 253 4=true:=by decide +kernel
theorem lj:Nat.testBit 253 5=true:=by decide +kernel
theorem li:Nat.testBit 253 6=true:=by decide +kernel
theorem lg:Nat.testBit 253 7=true:=by decide +kernel
theorem lf:Nat.testBit 253 8=false:=by decide +kernel
theorem ld:Nat.testBit 253 9=false:=by decide +kernel
theorem js:Nat.testBit 253 10=false:=by decide +kernel
theorem xG:Nat.testBit 412 0=false:=by decide +kernel
theorem xF:Nat.testBit 412 1=false:=by decide +kernel
theorem xE:Nat.testBit 412 2=true:=by decide +kernel
theorem xD:Nat.testBit 412 3=true:=by decide +kernel
theorem xC:Nat.testBit 412 4=true:=by decide +kernel
theorem xB:Nat.testBit 412 5=false:=by decide +kernel
theorem xA:Nat.testBit 412 6=false:=by decide +kernel
theorem xz:Nat.testBit 412 7=true:=by decide +kernel
theorem xy:Nat.testBit 412 8=true:=by decide +kernel
theorem xx:Nat.testBit 412 9=false:=by decide +kernel
theorem uy:Nat.testBit 412 10=false:=by decide +kernel
theorem xw:Nat.testBit 513 0=true:=by decide +kernel
theorem xv:Nat.testBit 513 1=false:=by decide +kernel
theorem xu:Nat.testBit 513 2=false:=by decide +kernel
theorem xt:Nat.testBit 513 3=false:=by decide +kernel
theorem xr:Nat.testBit 513 4=false:=by decide +kernel
theorem xq:Nat.testBit 513 5=false:=by decide +kernel
theorem xp:Nat.testBit 513 6=false:=by decide +kernel
theorem xo:Nat.testBit 513 7=false:=by decide +kernel
theorem xn:Nat.testBit 513 8=false:=by decide +kernel
theorem xm:Nat.testBit 513 9=true:=by decide +kernel
theorem ux:Nat.testBit 513 10=false:=by decide +kernel
theorem xl:Nat.testBit 546 0=false:=by decide +kernel
theorem xk:Nat.testBit 546 1=true:=by decide +kernel
theorem xj:Nat.testBit 546 2=false:=by decide +kernel
theorem xi:Nat.testBit 546 3=false:=by decide +kernel
theorem xg:Nat.testBit 546 4=false:=by decide +kernel
theorem xf:Nat.testBit 546 5=true:=by decide +kernel
theorem xe:Nat.testBit 546 6=false:=by decide +kernel
theorem xd:Nat.testBit 546 7=false:=by decide +kernel
theorem xc:Nat.testBit 546 8=false:=by decide +kernel
theorem xb:Nat.testBit 546 9=true:=by decide +kernel
theorem uw:Nat.testBit 546 10=false:=by decide +kernel
theorem vc:Nat.testBit 1536 0=false:=by decide +kernel
theorem va:Nat.testBit 1536 1=false:=by decide +kernel
theorem u9:Nat.testBit 1536 2=false:=by decide +kernel
theorem u7:Nat.testBit 1536 3=false:=by decide +kernel
theorem uZ:Nat.testBit 1536 4=false:=by decide +kernel
theorem uY:Nat.testBit 1536 5=false:=by decide +kernel
theorem uX:Nat.testBit 1536 6=false:=by decide +kernel
theorem uW:Nat.testBit 1536 7=false:=by decide +kernel
theorem uV:Nat.testBit 1536 8=false:=by decide +kernel
theorem uU:Nat.testBit 1536 9=true:=by decide +kernel
theorem rv:Nat.testBit 1536 10=true:=by decide +kernel
theorem uT:Nat.testBit 1568 0=false:=by decide +kernel
theorem uS:Nat.testBit 1568 1=false:=by decide +kernel
theorem uR:Nat.testBit 1568 2=false:=by decide +kernel
theorem uQ:Nat.testBit 1568 3=false:=by decide +kernel
theorem uP:Nat.testBit 1568 4=false:=by decide +kernel
theorem uO:Nat.testBit 1568 5=true:=by decide +kernel
theorem uN:Nat.testBit 1568 6=false:=by decide +kernel
theorem uM:Nat.testBit 1568 7=false:=by decide +kernel
theorem uL:Nat.testBit 1568 8=false:=by decide +kernel
theorem uK:Nat.testBit 1568 9=true:=by decide +kernel
theorem ru:Nat.testBit 1568 10=true:=by decide +kernel
theorem uJ:Nat.testBit 1808 0=false:=by decide +kernel
theorem uI:Nat.testBit 1808 1=false:=by decide +kernel
theorem uH:Nat.testBit 1808 2=false:=by decide +kernel
theorem uG:Nat.testBit 1808 3=false:=by decide +kernel
theorem uF:Nat.testBit 1808 4=true:=by decide +kernel
theorem uE:Nat.testBit 1808 5=false:=by decide +kernel
theorem uD:Nat.testBit 1808 6=false:=by decide +kernel
theorem uC:Nat.testBit 1808 7=false:=by decide +kernel
theorem uB:Nat.testBit 1808 8=true:=by decide +kernel
theorem uA:Nat.testBit 1808 9=true:=by decide +kernel
theorem rt:Nat.testBit 1808 10=true:=by decide +kernel
theorem Dx {a:ActD} (h:a.kind=0):fitsR a=ruleB a:=by
 rw [Da h,fitsR,h,Cy,tM]
 simp only [zeroR,bareA,maskB,zS,zB,zI,zN,uT,uS,uR,uQ,uP,uO,uN,uM,uL,uK,ru,ZD,ZE,ZJ,ZF,rule1B,rule2B,rule3B,rule4B,rule5B,rule6B,objectB,targetB,homeB,isDigestB,isShortB,withinB,lt20,grantB,setupB,bE]
 ac_rfl
theorem Dw {a:ActD} (h:a.kind=1):fitsR a=ruleB a:=by
 rw [C9 h,fitsR,h,Cx,tL]
 simp only [zeroR,bareA,maskB,zS,zB,zI,zN,xR,xQ,xP,xO,xN,xM,xL,xK,xJ,xI,uz,ZD,ZE,ZJ,ZF,rule1B,rule2B,rule3B,rule4B,rule5B,rule6B,objectB,targetB,homeB,isDigestB,isShortB,withinB,lt20,grantB,setupB,bE]
 ac_rfl
theorem Dv {a:ActD} (h:a.kind=2):fitsR a=ruleB a:=by
 rw [C8 h,fitsR,h,Cv,tK]
 simp only [zeroR,bareA,maskB,zS,zB,zI,zN,lp,ln,lm,ll,lk,lj,li,lg,lf,ld,js,ZD,ZE,ZJ,ZF,rule1B,rule2B,rule3B,rule4B,rule5B,rule6B,objectB,targetB,homeB,isDigestB,isShortB,withinB,lt20,grantB,setupB,bE]
 ac_rfl
theorem Du {a:ActD} (h:a.kind=3):fitsR a=ruleB a:=by
 rw [C7 h,fitsR,h,Cu,tJ]
 simp only [zeroR,bareA,maskB,zS,zB,zI,zN,lp,ln,lm,ll,lk,lj,li,lg,lf,ld,js,ZD,ZE,ZJ,ZF,rule1B,rule2B,rule3B,rule4B,rule5B,rule6B,objectB,targetB,homeB,isDigestB,isShortB,withinB,lt20,grantB,setupB,bE]
 ac_rfl
theorem Dt {a:ActD} (h:a.kind=4):fitsR a=ruleB a:=by
 rw [C6 h,fitsR,h,Cs,tI]
 simp only [zeroR,bareA,maskB,zS,zB,zI,zN,lC,lB,lA,lz,lw,lv,lu,ls,lr,lq,iy,ZD,ZE,ZJ,ZF,rule1B,rule2B,rule3B,rule4B,rule5B,rule6B,objectB,targetB,homeB,isDigestB,isShortB,withinB,lt20,grantB,setupB,bE]
 ac_rfl
theorem Ds {a:ActD} (h:a.kind=5):fitsR a=ruleB a:=by
 rw [C5 h,fitsR,h,Cq,tH]
 simp only [zeroR,bareA,maskB,zS,zB,zI,zN,lC,lB,lA,lz,lw,lv,lu,ls,lr,lq,iy,ZD,ZE,ZJ,ZF,rule1B,rule2B,rule3B,rule4B,rule5B,rule6B,objectB,targetB,homeB,isDigestB,isShortB,withinB,lt20,grantB,setupB,bE]
 ac_rfl
theorem Dr {a:ActD} (h:a.kind=6):fitsR a=ruleB a:=by
 rw [C4 h,fitsR,h,Cp,tG]
 simp only [zeroR,bareA,maskB,zS,zB,zI,zN,lC,lB,lA,lz,lw,lv,lu,ls,lr,lq,iy,ZD,ZE,ZJ,ZF,rule1B,rule2B,rule3B,rule4B,rule5B,rule6B,objectB,targetB,homeB,isDigestB,isShortB,withinB,lt20,grantB,setupB,bE]
 ac_rfl
theorem Dq {a:ActD} (h:a.kind=7):fitsR a=ruleB a:=by
 rw [C3 h,fitsR,h,Co,tF]
 simp only [zeroR,bareA,maskB,zS,zB,zI,zN,lc,la,k9,k8,k7,k0,kZ,kY,kX,kW,ix,ZD,ZE,ZJ,ZF,rule1B,rule2B,rule3B,rule4B,rule5B,rule6B,objectB,targetB,homeB,isDigestB,isShortB,withinB,lt20,grantB,setupB,bE]
 ac_rfl
theorem Dp {a:ActD} (h:a.kind=8):fitsR a=ruleB a:=by
 rw [C2 h,fitsR,h,Cn,tE]
 simp only [zeroR,bareA,maskB,zS,zB,zI,zN,lc,la,k9,k8,k7,k0,kZ,kY,kX,kW,ix,ZD,ZE,ZJ,ZF,rule1B,rule2B,rule3B,rule4B,rule5B,rule6B,objectB,targetB,homeB,isDigestB,isShortB,withinB,lt20,grantB,setupB,bE]
 ac_rfl
theorem Do {a:ActD} (h:a.kind=9):fitsR a=ruleB a:=by
 rw [C1 h,fitsR,h,Cm,tD]
 simp only [zeroR,bareA,maskB,zS,zB,zI,zN,lc,la,k9,k8,k7,k0,kZ,kY,kX,kW,ix,ZD,ZE,ZJ,ZF,rule1B,rule2B,rule3B,rule4B,rule5B,rule6B,objectB,targetB,homeB,isDigestB,isShortB,withinB,lt20,grantB,setupB,bE]
 ac_rfl
theorem BX {a:ActD} (h:a.kind=10):fitsR a=ruleB a:=by
 rw [Bf h,fitsR,h,yP,qi]
 simp only [zeroR,bareA,maskB,zS,zB,zI,zN,lc,la,k9,k8,k7,k0,kZ,kY,kX,kW,ix,ZD,ZE,ZJ,ZF,rule1B,rule2B,rule3B,rule4B,rule5B,rule6B,objectB,targetB,homeB,isDigestB,isShortB,withinB,lt20,grantB,setupB,bE]
 ac_rfl
theorem BW {a:ActD} (h:a.kind=11):fitsR a=ruleB a:=by
 rw [Be h,fitsR,h,yO,qg]
 simp only [zeroR,bareA,maskB,zS,zB,zI,zN,lc,la,k9,k8,k7,k0,kZ,kY,kX,kW,ix,ZD,ZE,ZJ,ZF,rule1B,rule2B,rule3B,rule4B,rule5B,rule6B,objectB,targetB,homeB,isDigestB,isShortB,withinB,lt20,grantB,setupB,bE]
 ac_rfl
theorem BV {a:ActD} (h:a.kind=12):fitsR a=ruleB a:=by
 rw [Bd h,fitsR,h,yN,qf]
 simp only [zeroR,bareA,maskB,zS,zB,zI,zN,tn,tk,tj,ti,tf,te,td,tc,tb,ta,pH,ZD,ZE,ZJ,ZF,rule1B,rule2B,rule3B,rule4B,rule5B,rule6B,objectB,targetB,homeB,isDigestB,isShortB,withinB,lt20,grantB,setupB,bE]
 ac_rfl
theorem BU {a:ActD} (h:a.kind=13):fitsR a=ruleB a:=by
 rw [Bc h,fitsR,h,yM,qe]
 simp only [zeroR,bareA,maskB,zS,zB,zI,zN,lC,lB,lA,lz,lw,lv,lu,ls,lr,lq,iy,ZD,ZE,ZJ,ZF,rule1B,rule2B,rule3B,rule4B,rule5B,rule6B,objectB,targetB,homeB,isDigestB,isShortB,withinB,lt20,grantB,setupB,bE]
 ac_rfl
theorem BT {a:ActD} (h:a.kind=14):fitsR a=ruleB a:=by
 rw [Bb h,fitsR,h,yL,qd]
 simp only [zeroR,bareA,maskB,zS,zB,zI,zN,lp,ln,lm,ll,lk,lj,li,lg,lf,ld,js,ZD,ZE,ZJ,ZF,rule1B,rule2B,rule3B,rule4B,rule5B,rule6B,objectB,targetB,homeB,isDigestB,isShortB,withinB,lt20,grantB,setupB,bE]
 ac_rfl
theorem BS {a:ActD} (h:a.kind=15):fitsR a=ruleB a:=by
 rw [Ba h,fitsR,h,yK,qc]
 simp only [zeroR,bareA,maskB,zS,zB,zI,zN,AD,AC,AB,AA,Az,Ay,Ax,Av,Au,As,xS,ZD,ZE,ZJ,ZF,rule1B,rule2B,rule3B,rule4B,rule5B,rule6B,objectB,targetB,homeB,isDigestB,isShortB,withinB,lt20,grantB,setupB,bE]
 ac_rfl
theorem BR {a:ActD} (h:a.kind=16):fitsR a=ruleB a:=by
 rw [A9 h,fitsR,h,yJ,qb]
 simp only [zeroR,bareA,maskB,zS,zB,zI,zN,xG,xF,xE,xD,xC,xB,xA,xz,xy,xx,uy,ZD,ZE,ZJ,ZF,rule1B,rule2B,rule3B,rule4B,rule5B,rule6B,objectB,targetB,homeB,isDigestB,isShortB,withinB,lt20,grantB,setupB,bE]
 ac_rfl
theorem BQ {a:ActD} (h:a.kind=17):fitsR a=ruleB a:=by
 rw [A8 h,fitsR,h,yI,qa]
 simp only [zeroR,bareA,maskB,zS,zB,zI,zN,Ar,Aq,Ap,Ao,An,Am,Al,Ak,Aj,Ai,xH,ZD,ZE,ZJ,ZF,rule1B,rule2B,rule3B,rule4B,rule5B,rule6B,objectB,targetB,homeB,isDigestB,isShortB,withinB,lt20,grantB,setupB,bE]
 rw [labelB,objectB,targetB,isDigestB]
 cases hz:seqB a.object ⟨#[]⟩ with
 | true =>
  rw [sE _ hz]
  cases isName a.text<;>simp [Bool.and_comm,Bool.and_assoc]
 | false=>cases isName a.text<;>cases decide ((a.object.size:Int)=32)<;>cases seqB a.target ⟨#[]⟩<;>simp [Bool.and_comm,Bool.and_assoc]
theorem BP {a:ActD} (h:a.kind=18):fitsR a=ruleB a:=by
 rw [A7 h,fitsR,h,yH,p9]
 simp only [zeroR,bareA,maskB,zS,zB,zI,zN,vc,va,u9,u7,uZ,uY,uX,uW,uV,uU,rv,ZD,ZE,ZJ,ZF,rule1B,rule2B,rule3B,rule4B,rule5B,rule6B,objectB,targetB,homeB,isDigestB,isShortB,withinB,lt20,grantB,setupB,bE]
 ac_rfl
theorem BO {a:ActD} (h:a.kind=19):fitsR a=ruleB a:=by
 rw [A6 h,fitsR,h,yG,p8]
 simp only [zeroR,bareA,maskB,zS,zB,zI,zN,uJ,uI,uH,uG,uF,uE,uD,uC,uB,uA,rt,ZD,ZE,ZJ,ZF,rule1B,rule2B,rule3B,rule4B,rule5B,rule6B,objectB,targetB,homeB,isDigestB,isShortB,withinB,lt20,grantB,setupB,bE]
 ac_rfl
theorem BN {a:ActD} (h:a.kind=20):fitsR a=ruleB a:=by
 rw [AZ h,fitsR,h,yF,p7]
 simp only [zeroR,bareA,maskB,zS,zB,zI,zN,lC,lB,lA,lz,lw,lv,lu,ls,lr,lq,iy,ZD,ZE,ZJ,ZF,rule1B,rule2B,rule3B,rule4B,rule5B,rule6B,objectB,targetB,homeB,isDigestB,isShortB,withinB,lt20,grantB,setupB,bE]
 ac_rfl
theorem BM {a:ActD} (h:a.kind=21):fitsR a=ruleB a:=by
 rw [AY h,fitsR,h,yE,p6]
 simp only [zeroR,bareA,maskB,zS,zB,zI,zN,tn,tk,tj,ti,tf,te,td,tc,tb,ta,pH,ZD,ZE,ZJ,ZF,rule1B,rule2B,rule3B,rule4B,rule5B,rule6B,objectB,targetB,homeB,isDigestB,isShortB,withinB,lt20,grantB,setupB,bE]
 ac_rfl
theorem BL {a:ActD} (h:a.kind=22):fitsR a=ruleB a:=by
 rw [AX h,fitsR,h,yD,p5]
 simp only [zeroR,bareA,maskB,zS,zB,zI,zN,xw,xv,xu,xt,xr,xq,xp,xo,xn,xm,ux,ZD,ZE,ZJ,ZF,rule1B,rule2B,rule3B,rule4B,rule5B,rule6B,objectB,targetB,homeB,isDigestB,isShortB,withinB,lt20,grantB,setupB,bE]
 ac_rfl
theorem BK {a:ActD} (h:a.kind=23):fitsR a=ruleB a:=by
 rw [AW h,fitsR,h,yC,pZ]
 simp only [zeroR,bareA,maskB,zS,zB,zI,zN,xl,xk,xj,xi,xg,xf,xe,xd,xc,xb,uw,ZD,ZE,ZJ,ZF,rule1B,rule2B,rule3B,rule4B,rule5B,rule6B,objectB,targetB,homeB,isDigestB,isShortB,withinB,lt20,grantB,setupB,bE]
 ac_rfl
theorem BJ (a:ActD):fitsR a=ruleB a:=by
 by_cases hk:0≤a.kind∧a.kind≤23
 · rcases nG hk with h|h|h|h|h|h|h|h|h|h|h|h|h|h|h|h|h|h|h|h|h|h|h|h
   · exact Dx h
   · exact Dw h
   · exact Dv h
   · exact Du h
   · exact Dt h
   · exact Ds h
   · exact Dr h
   · exact Dq h
   · exact Dp h
   · exact Do h
   · exact BX h
   · exact BW h
   · exact BV h
   · exact BU h
   · exact BT h
   · exact BS h
   · exact BR h
   · exact BQ h
   · exact BP h
   · exact BO h
   · exact BN h
   · exact BM h
   · exact BL h
   · exact BK h
 · rw [vC hk,fitsR,qv hk,ZG]
def numsR (a:ActD):Bool:=!isId a.author||(decide (a.seq<0)||(decide (1073741824<a.seq)||(decide (a.time<0)||(decide (1099511627776<a.time)||(decide (a.e<0)||(decide (2305843009213693950≤a.e)||(decide (a.s<0)||decide (2305843009213693950≤a.s))))))))
def seqR (a:ActD):Bool:=decide (a.seq=0)&&(!seqB a.prev ⟨#[]⟩||!decide (a.kind=0))||decide (0<a.seq)&&(!decide ((a.prev.size:Int)=32)||decide (a.kind=0))
theorem dnot {p q:Prop} [Decidable p] [Decidable q] (h:p↔¬ q):decide p=!decide q:=by rw [←decide_not];exact decide_eq_decide.2 h
theorem yu (a:ActD):(bif numsR a then false else bif seqR a then false else fitsR a)=rightB a:=by
 rw [BJ,rightB,numsR,seqR,placedB,withinB,withinB,withinB,withinB,isDigestB]
 rw [dnot (p:=a.seq<0) (q:=0≤a.seq) ae,dnot (p:=1073741824<a.seq) (q:=a.seq≤1073741824) ae,dnot (p:=a.time<0) (q:=0≤a.time) ae,dnot (p:=1099511627776<a.time) (q:=a.time≤1099511627776) ae,
  dnot (p:=a.e<0) (q:=0≤a.e) ae,dnot (p:=2305843009213693950≤a.e) (q:=a.e≤2305843009213693949) ae,dnot (p:=a.s<0) (q:=0≤a.s) ae,dnot (p:=2305843009213693950≤a.s) (q:=a.s≤2305843009213693949) (by omega)]
 cases isId a.author
 · rfl
 cases decide (0≤a.time)
 · cases decide (0≤a.seq)<;>cases decide (a.seq≤1073741824)<;>simp
 cases decide (a.time≤1099511627776)
 · cases decide (0≤a.seq)<;>cases decide (a.seq≤1073741824)<;>simp
 cases decide (0≤a.e)
 · cases decide (0≤a.seq)<;>cases decide (a.seq≤1073741824)<;>simp
 cases decide (a.e≤2305843009213693949)
 · cases decide (0≤a.seq)<;>cases decide (a.seq≤1073741824)<;>simp
 cases decide (0≤a.s)
 · cases decide (0≤a.seq)<;>cases decide (a.seq≤1073741824)<;>simp
 cases decide (a.s≤2305843009213693949)
 · cases decide (0≤a.seq)<;>cases decide (a.seq≤1073741824)<;>simp
 by_cases h0:a.seq=0
 · rw [h0]
   cases seqB a.prev ⟨#[]⟩<;>cases decide (a.kind=0)<;>simp
 by_cases h1:0<a.seq
 · rw [Zn h0,ZA h1,ZA (show 0≤a.seq by omega),ZA (show 1≤a.seq by omega)]
   cases decide (a.seq≤1073741824)<;>cases decide ((a.prev.size:Int)=32)<;>cases decide (a.kind=0)<;>simp
 · rw [Zn h0,Zn (show ¬ 0≤a.seq by omega),Zn (show ¬ 1≤a.seq by omega)]
   simp
set_option maxRecDepth 8000 in
set_option maxHeartbeats 8000000 in
theorem j2 (a:ActD) (hs:a.Str):Pu Tryz.prog 168 #[a.v] (ActD.at_ · a) (.bool (rightB a)):=by
 refine ay (args:=[_]) _ Tryz.func168 rfl Tryz.ntmps168 rfl fun av bor w0=>?_
 rw [←yu]
 have c1:=fU a.author hs.author
 have c2:=rR a hs
 repeat' (first|apply ab|apply Qu|apply Qv|refine aj ?_|refine ad ?_|refine az ?_|refine aA ?_|refine aD ?_|refine aB ?_|refine aC ?_|refine bu ?_|refine bM ?_|refine df ?_|refine bj ?_|refine cF ?_|refine da ?_|refine fC ?_|refine bU ?_|refine aL ?_|refine bC ?_|refine eU ?_|refine aK fun _=>?_|refine Qy ?_|refine Qz ?_|apply Qx|apply ar|(refine ao (hc:=c1) (hX:=fun _ _=>trivial) ?_)|(refine ao (hc:=c2) (hX:=fun w h=>h) ?_)|((fail_if_success (refine aZ ?_));refine aP (ht:=?_) (hf:=?_);all_goals (intro hx_;first|have:=aO hx_|have:=aQ hx_|skip))|(refine aF (ht:=?_) (hf:=?_);all_goals (intro hx_;first|have:=aO hx_|have:=aQ hx_)))
 all_goals refine ak (ap rfl rfl) ?_
 all_goals first
  | rfl
  | (simp only [numsR,seqR, *,ZQ,ZO,ZC,ZB,ZE,ZD,ZH,ZG,ZK,ZI,ZP,ZJ,ZN,ZF];done)
  | (simp_all [numsR,seqR];done)
  | (simp_all [numsR,seqR];intros;omega)
  | skip
theorem nv (b:BoxD) (hb:b.Fit):Pu Tryz.prog 248 #[b.v] (fun _=>True) (.string (boxV b)):=by
 refine ay (args:=[_]) _ Tryz.func248 rfl Tryz.ntmps248 rfl fun av bor w0=>?_
 have h1:=aY b.nonce
 have h2:=aY b.data
 have h3:=aY b.tag
 have k1:=hb.nonce
 have k2:=hb.data
 have k3:=hb.tag
 repeat' (first|apply ab|apply Qu|apply Qv|refine ad ?_|refine aK fun _=>?_|fail)
 (apply bI;kernel_rfl)
 all_goals refine aa 0 ?_<;>refine aa 1 ?_<;>refine aa 3 ?_<;>refine aa 4 ?_<;>refine aa 7 ?_<;>refine aa 8 ?_<;>(refine ag 2 ?_;(refine ao (hc:=bY _ ae) ?_);apply ab;refine ai ?_)<;>(refine ag 5 ?_;(refine ao (hc:=bY _ ae) ?_);apply ab;refine ai ?_)<;>(refine aa 6 (hy:=by (apply bF;rfl;rfl;(try simp only [Zl]);omega)) ?_)<;>(refine ag 9 ?_;(refine ao (hc:=bY _ ae) ?_);apply ab;refine ai ?_)<;>(refine aa 10 (hy:=by (apply bF;rfl;rfl;(try simp only [Zl]);omega)) ?_)<;>refine aa 11 ?_<;>(refine aw ?_)
 repeat' (first|apply ar|fail)
 all_goals exact ak (ap rfl rfl) rfl
theorem wP {w:World} {p:Option Addr} {q:Nat} {x:WrapD} (h:∀ j u,x.cells[j]?=some u→CellAt w p (q+j) u):∀ j u,x.box.cells[j]?=some u→CellAt w p (q+2+j) u:=fun j u hj=>by
 have h1:=h (j+2) u hj
 rw [show q+2+j=q+(j+2) from by omega]
 exact h1
set_option maxRecDepth 8000 in
set_option maxHeartbeats 8000000 in
theorem rT (a:ActD) (hs:a.Str) (ha:rightB a=true→a.Fit):Pu Tryz.prog 216 #[a.v] (ActD.at_ · a) (.string (actCore a)):=by
 have hri:=j2 a hs
 rw [actCore]
 cases hrB:rightB a with
 | false =>
  rw [hrB] at hri
  refine ay (args:=[_]) _ Tryz.func216 rfl Tryz.ntmps216 rfl fun av bor w0=>?_
  repeat' (first|apply ab|apply Qu|apply Qv|refine aj ?_|refine ad ?_|refine aD ?_|refine bu ?_|refine aK fun _=>?_|refine Qy ?_|apply ar|(refine ao (hc:=hri) (hX:=fun w h=>h) ?_)|fail)
  exact ak (ap rfl rfl) rfl
 | true =>
 rw [hrB] at hri
 replace ha:=ha hrB
 refine ay (args:=[_]) _ Tryz.func216 rfl Tryz.ntmps216 rfl fun av bor w0=>?_
 refine bK (p:=a.wraps.n=a.wrapsL.length∧a.wraps.n≤maxLen∧(0<a.wrapsL.length→a.wraps.p.isSome=true)) (fun w h=>⟨h.2.len_,Qq (RowsD.cap h.2) (RowsD.max h.2),h.2.some_⟩) fun ⟨hl,hm,hp⟩=>?_
 simp only [maxLen] at hm
 obtain ⟨i1,i2,i3,i4,i5,i6,i7,i8,i9⟩:=ha.ints
 have s1:=aY a.author
 have s2:=aY a.prev
 have s3:=aY a.object
 have s4:=aY a.target
 have s5:=aY a.group
 have s6:=aY a.text
 have s7:=aY ⟨#[97,99,116]⟩
 have s8:=f0 ha.body
 have h1:=ha.author
 have h2:=ha.prev
 have h3:=ha.object
 have h4:=ha.target
 have h5:=ha.group
 have h6:=ha.text
 have h7:=ha.to
 have h8:(⟨#[97,99,116]⟩:ByteArray).size=3:=rfl
 have n1:=aR a.seq
 have n2:=aR a.kind
 have n3:=aR a.time
 have n4:=aR a.scope
 have n5:=aR a.epoch
 have n6:=aR a.wraps.n
 have n7:=aR a.n
 have n8:=aR a.m
 repeat' (first|apply ab|apply Qu|apply Qv|refine aj ?_|refine ad ?_|refine aD ?_|refine bu ?_|refine aK fun _=>?_|refine Qz ?_|apply Qx|(refine ao (hc:=hri) (hX:=fun w h=>h) ?_)|fail)
 (apply bI;kernel_rfl)
 all_goals refine aa 1 ?_<;>refine aa 2 ?_<;>refine aa 5 ?_<;>refine aa 6 ?_<;>refine aa 9 ?_<;>refine aa 10 ?_<;>refine aa 13 ?_<;>refine aa 14 ?_<;>refine aa 17 ?_<;>refine aa 18 ?_<;>(refine ag 0 ?_;(refine ao (hc:=bY _ ae) ?_);apply ab;refine ai ?_)<;>(refine ag 3 ?_;(refine ao (hc:=bY _ ae) ?_);apply ab;refine ai ?_)<;>(refine aa 4 (hy:=by (apply bF;rfl;rfl;(try simp only [Zl]);omega)) ?_)<;>(refine ag 7 ?_;(refine ao (hc:=bD _ ae) ?_);apply ab;refine ai ?_)<;>(refine aa 8 (hy:=by (apply bF;rfl;rfl;(try simp only [Zl]);omega)) ?_)<;>(refine ag 11 ?_;(refine ao (hc:=bY _ ae) ?_);apply ab;refine ai ?_)<;>(refine aa 12 (hy:=by (apply bF;rfl;rfl;(try simp only [Zl]);omega)) ?_)<;>(refine ag 15 ?_;(refine ao (hc:=bD _ ae) ?_);apply ab;refine ai ?_)<;>(refine aa 16 (hy:=by (apply bF;rfl;rfl;(try simp only [Zl]);omega)) ?_)<;>(refine ag 19 ?_;(refine ao (hc:=bD _ ae) ?_);apply ab;refine ai ?_)<;>(refine aa 20 (hy:=by (apply bF;rfl;rfl;(try simp only [Zl]);omega)) ?_)<;>refine aa 21 ?_<;>(refine aw ?_)
 repeat' (first|apply Qu|fail)
 (apply bI;kernel_rfl)
 all_goals refine aa 0 ?_<;>refine aa 1 ?_<;>refine aa 2 ?_<;>refine aa 5 ?_<;>refine aa 6 ?_<;>refine aa 9 ?_<;>refine aa 10 ?_<;>refine aa 13 ?_<;>refine aa 14 ?_<;>refine aa 17 ?_<;>refine aa 18 ?_<;>refine aa 21 ?_<;>refine aa 22 ?_<;>(refine ag 3 ?_;(refine ao (hc:=bY _ ae) ?_);apply ab;refine ai ?_)<;>(refine aa 4 (hy:=by (apply bF;rfl;rfl;(try simp only [Zl]);omega)) ?_)<;>(refine ag 7 ?_;(refine ao (hc:=bY _ ae) ?_);apply ab;refine ai ?_)<;>(refine aa 8 (hy:=by (apply bF;rfl;rfl;(try simp only [Zl]);omega)) ?_)<;>(refine ag 11 ?_;(refine ao (hc:=bD _ ae) ?_);apply ab;refine ai ?_)<;>(refine aa 12 (hy:=by (apply bF;rfl;rfl;(try simp only [Zl]);omega)) ?_)<;>(refine ag 15 ?_;(refine ao (hc:=bY _ ae) ?_);apply ab;refine ai ?_)<;>(refine aa 16 (hy:=by (apply bF;rfl;rfl;(try simp only [Zl]);omega)) ?_)<;>(refine ag 19 ?_;(refine ao (hc:=lR a.to a.toL ae) ?_);apply ab;refine ai ?_)<;>(refine aa 20 (hy:=by (apply bF;rfl;rfl;(try simp only [Zl]);omega)) ?_)<;>(refine ag 23 ?_;(refine ao (hc:=bY _ ae) ?_);apply ab;refine ai ?_)<;>(refine aa 24 (hy:=by (apply bF;rfl;rfl;(try simp only [Zl]);omega)) ?_)<;>refine aa 25 ?_<;>(refine aw ?_)
 repeat' (first|apply Qu|fail)
 (apply bI;kernel_rfl)
 all_goals refine aa 0 ?_<;>refine aa 1 ?_<;>(refine aa 2 (hy:=by (apply cK;rfl;(repeat (exact aJ));exact ActD.cells_body _;rfl)) ?_)<;>refine aa 5 ?_<;>refine aa 6 ?_<;>refine aa 9 ?_<;>refine aa 10 ?_<;>refine aa 11 ?_<;>(refine ag 3 ?_;(refine ao (hc:=nv a.body ha.body) ?_);apply ab;refine ai ?_)<;>(refine aa 4 (hy:=by (apply bF;rfl;rfl;(try simp only [Zl]);omega)) ?_)<;>(refine ag 7 ?_;(refine ao (hc:=bD _ ae) ?_);apply ab;refine ai ?_)<;>(refine aa 8 (hy:=by (apply bF;rfl;rfl;(try simp only [Zl]);omega)) ?_)<;>(refine ag 12 ?_;(refine ao (hc:=bD _ ae) ?_);apply ab;refine ai ?_)<;>(refine aa 13 (hy:=by (apply bF;rfl;rfl;(try simp only [Zl]);omega)) ?_)<;>refine aa 14 ?_<;>(refine aw ?_)
 repeat' (first|apply ab|apply Qu|apply Qv|refine ad ?_|apply Qw|fail)
 rename_i b
 have hc4:(core4 a).size≤100000000000:=by
  have:(numV a.wrapsL.length).size≤10:=aR _
  simp only [core4,core3,core2,core1,Zl]
  omega
 have hle:=eR (a.wrapsL.map wrapV)
 have hw:=ha.wrapsV
 have e0:core5 a 0=core4 a:=by simp [core5,cats]
 refine aT (ι:=Kth a.wrapsL.length) (fun i=>⟨[(1,.pointer (some ⟨b,0,none⟩)),(4,.string (core5 a i.k)),(5,.int .i64 (i.k:Nat))],[cel b 46 a.cells],(ActD.at_ · a)⟩) (fun i=>a.wrapsL.length-i.k) ⟨0,Nat.zero_le _⟩ (ax ⟨rfl,?_,rfl,trivial⟩ (aG _) fun _ h=>h) fun i=>?_
 · simp only [e0,core4,core3,core2,core1,←hl,ZV];rfl
 have hik:=i.hk
 have hk5:(core5 a i.k).size≤200000000000:=by have:=hle i.k;simp only [core5,Zl];omega
 repeat' (first|apply ab|apply Qu|apply Qv|refine aj ?_|refine az ?_|refine aA ?_|refine bj ?_|refine aW ?_|apply Qx|apply Qw|apply aS|(refine aF (ht:=?_) (hf:=?_);all_goals (intro hx_;first|have:=aO hx_|have:=aQ hx_)))
 · have hlt:i.k<a.wrapsL.length:=by omega
   have hp':=hp ae
   obtain ⟨x,hx⟩:∃ x,a.wrapsL[i.k]?=some x:=⟨_,Zm hlt⟩
   have hxm:x∈a.wrapsL:=List.mem_of_getElem? hx
   have hf:=ha.wraps x hxm
   have hfs:=f0 hf
   obtain ⟨w1,w2⟩:=ha.wints x hxm
   have m1:=aR x.to
   have m2:=aR x.eph
   (refine aU [cel b 46 a.cells] (ActD.at_ · a) al ?_)
   all_goals refine aa 0 ?_<;>refine aa 1 ?_<;>refine aa 2 ?_<;>refine aa 3 ?_<;>(refine aa 4 (hy:=by (apply aN (q:=i.k*5);rfl;rfl;omega;omega;assumption;omega)) ?_)<;>(refine aa 5 (hy:=by (apply fI;rfl;assumption;rfl)) ?_)<;>(refine aa 6 (hy:=by (apply dT (q:=i.k*5) (u:=.int .i64 x.to);rfl;exact fun w h=>(Wraps.get h.2 hx).2.2 0 _ rfl)) ?_)<;>refine aa 9 ?_<;>refine aa 10 ?_<;>refine aa 11 ?_<;>(refine aa 12 (hy:=by (apply aN (q:=i.k*5);rfl;rfl;omega;omega;assumption;omega)) ?_)<;>(refine aa 13 (hy:=by (apply fI;rfl;assumption;rfl)) ?_)<;>(refine aa 14 (hy:=by (apply dT (q:=i.k*5+1) (u:=.int .i64 x.eph);rfl;exact fun w h=>(Wraps.get h.2 hx).2.2 1 _ rfl)) ?_)<;>refine aa 17 ?_<;>refine aa 18 ?_<;>refine aa 19 ?_<;>(refine aa 20 (hy:=by (apply aN (q:=i.k*5);rfl;rfl;omega;omega;assumption;omega)) ?_)<;>(refine aa 21 (hy:=by (apply fI;rfl;assumption;rfl)) ?_)<;>(refine aa 22 (hy:=by (apply cZ (q:=i.k*5+2) (cs:=x.box.cells);rfl;exact fun w h=>⟨rfl,(Wraps.get h.2 hx).2.1,wP (Wraps.get h.2 hx).2.2⟩)) ?_)<;>(refine ag 7 ?_;(refine ao (hc:=bD _ ae) ?_);apply ab;refine ai ?_)<;>(refine aa 8 (hy:=by (apply bF;rfl;rfl;(try simp only [Zl]);omega)) ?_)<;>(refine ag 15 ?_;(refine ao (hc:=bD _ ae) ?_);apply ab;refine ai ?_)<;>(refine aa 16 (hy:=by (apply bF;rfl;rfl;(try simp only [Zl]);omega)) ?_)<;>(refine ag 23 ?_;(refine ao (hc:=nv x.box hf) ?_);apply ab;refine ai ?_)<;>(refine aa 24 (hy:=by (apply bF;rfl;rfl;(try simp only [Zl]);omega)) ?_)<;>refine aa 25 ?_<;>(refine aw ?_)
   repeat' (first|apply ab|apply Qv|refine aj ?_|refine ad ?_|refine be (h:=?_)|fail)
   have hsucc:=fq (a.wrapsL.map wrapV) (k:=i.k) (by simpa using hlt)
   have hget:(a.wrapsL.map wrapV).getD i.k .empty=wrapV x:=by simp [hx]
   rw [hget] at hsucc
   have e2:core5 a (i.k+1)=core5 a i.k++numV x.to++numV x.eph++boxV x.box:=by simp only [core5,hsucc,ZV,wrapV]
   all_goals exact ⟨(⟨i.k+1,hlt⟩:Kth a.wrapsL.length),(by show a.wrapsL.length-(i.k+1)<a.wrapsL.length-i.k;omega),ax ⟨rfl,by rw [e2];rfl,rfl,trivial⟩ (aG _) fun _ h=>h⟩
 have hke:i.k=a.wrapsL.length:=by omega
 (apply bI;kernel_rfl)
 all_goals refine aa 0 ?_<;>refine aa 1 ?_<;>refine aa 2 ?_<;>refine aa 5 ?_<;>refine aa 6 ?_<;>(refine ag 3 ?_;(refine ao (hc:=bD _ ae) ?_);apply ab;refine ai ?_)<;>(refine aa 4 (hy:=by (apply bF;rfl;rfl;(try simp only [Zl]);omega)) ?_)<;>(refine ag 7 ?_;(refine ao (hc:=bD _ ae) ?_);apply ab;refine ai ?_)<;>(refine aa 8 (hy:=by (apply bF;rfl;rfl;(try simp only [Zl]);omega)) ?_)<;>refine aa 9 ?_<;>(refine aw ?_)
 repeat' (first|apply ar|fail)
 refine ak (ap rfl rfl) ?_
 simp only [ZC,coreV,←hke]
theorem lU (a:ActD) (hs:a.Str) (ha:rightB a=true→a.Fit) (hi:a.e<9223372036854775808∧a.s<9223372036854775808):Pu Tryz.prog 179 #[a.v] (ActD.at_ · a) (.string (actBytes a)):=by
 refine ay (args:=[_]) _ Tryz.func179 rfl Tryz.ntmps179 rfl fun av bor w0=>?_
 obtain ⟨i8,i9⟩:=hi
 have n7:=aR a.e
 have n8:=aR a.s
 have hc:(actCore a).size≤300000000000:=by
  unfold actCore
  cases hrB:rightB a with
  | true=>exact fA (ha hrB)
  | false=>simp [ByteArray.size]
 have hcp:=rT a hs ha
 repeat' (first|apply ab|apply Qu|apply Qv|refine aj ?_|refine ad ?_|refine aD ?_|refine cE ?_|refine aK fun _=>?_|apply Qx|apply ar|(refine ao (hc:=hcp) (hX:=fun w h=>h) ?_)|(refine aF (ht:=?_) (hf:=?_);all_goals (intro hx_;skip)))
 · (all_goals (apply ak;apply ap;rfl;rfl));all_goals (simp only [actBytes, *,ZQ,ZO,ZC,ZB,ZE,ZD,ZH,ZG,ZK,ZI,ZP,ZJ,ZN,ZF];done)
 (apply bI;kernel_rfl)
 all_goals refine aa 0 ?_<;>refine aa 1 ?_<;>refine aa 2 ?_<;>refine aa 3 ?_<;>refine aa 6 ?_<;>refine aa 7 ?_<;>refine aa 8 ?_<;>(refine ag 4 ?_;(refine ao (hc:=bD _ ae) ?_);apply ab;refine ai ?_)<;>(refine aa 5 (hy:=by (apply bF;rfl;rfl;(try simp only [Zl]);omega)) ?_)<;>(refine ag 9 ?_;(refine ao (hc:=bD _ ae) ?_);apply ab;refine ai ?_)<;>(refine aa 10 (hy:=by (apply bF;rfl;rfl;(try simp only [Zl]);omega)) ?_)<;>refine aa 11 ?_<;>(refine aw ?_)
 repeat' (first|apply ar|fail)
 all_goals ((all_goals (apply ak;apply ap;rfl;rfl));all_goals (simp only [actBytes, *,ZQ,ZO,ZC,ZB,ZE,ZD,ZH,ZG,ZK,ZI,ZP,ZJ,ZN,ZF];done))
theorem rE:Tryz.prog.underlying 44=some (.struct (Tryz.prog.fieldsOf 44)):=by kernel_rfl
theorem vq:Tryz.prog.stoodInHeld 44=false:=by kernel_rfl
theorem vr:Tryz.prog.eqGuardType Tryz.prog.depth 44=false:=by kernel_rfl
theorem vy (w:World) (a b c d:Int):(Op.equalIn 10000 44 (.agg #[.int .i64 a,.int .i64 b]) (.agg #[.int .i64 c,.int .i64 d])).run Tryz.prog w=.ok (decide (a=c)&&decide (b=d)) w:=by
 have e:(10000:Nat)=9999+1:=rfl
 have e2:(9999:Nat)=9998+1:=rfl
 rw [e,run_equalIn_agg _ _ _ _ _ rE vq]
 have hf:(Tryz.prog.fieldsOf 44).toList.map (fun f=>(f.name,f.type,f.offset))=[("E",3,0),("S",3,1)]:=by kernel_rfl
 generalize (Tryz.prog.fieldsOf 44).toList=l at hf
 rcases l with _|⟨f1,_|⟨f2,_|⟨f3,l⟩⟩⟩
 case cons.cons.nil =>
  simp only [Qt,List.map_nil,List.cons.injEq,Prod.mk.injEq,and_true] at hf
  obtain ⟨⟨n1,t1,o1⟩,n2,t2,o2⟩:=hf
  have hag:=fun w=>(cH (TyOne.out (P:=Tryz.prog) (t:=3)) w).1
  have hst:=fun (x y:Int) (w:World)=>run_equalIn_int (P:=Tryz.prog) w 9998 3 .i64 .i64 x y TyInt.out
  cases h1:decide (a=c)<;>cases h2:decide (b=d) <;>
  · simp only [ZT,decide_eq_false_iff_not] at h1 h2
    simp [Op.eqFields,n1,n2,t1,t2,o1,o2,part,hag,e2,hst,h1,h2]
 all_goals (have:=congrArg List.length hf;simp at this)
theorem sT {N:Nat} {av bor:List Nat} {w0:World} {E:Env} {loc:List Res} {X:World→Prop} {ty t2:TypeId} {x y:Operand} {a b c d:Int} (hx:ev E x=some (.agg #[.int .i64 a,.int .i64 b])) (hy:ev E y=some (.agg #[.int .i64 c,.int .i64 d])) :
  Sy.Yields Tryz.prog N av bor w0 ⟨E,loc,X⟩ (.binOp .eql 44 x y t2) ty (.bool (decide (a=c)&&decide (b=d))):=Sy.Yields.mk fun A w ok dd pos af g=>by
 have h1:=run_eql_struct (P:=Tryz.prog) w 44 #[.int .i64 a,.int .i64 b] #[.int .i64 c,.int .i64 d]
 have h2:=vy w a b c d
 rw [h2] at h1
 simp [execOp,ok.eval (st:=⟨E,loc,X⟩) hx,ok.eval (st:=⟨E,loc,X⟩) hy,run_eqGuard_agg _ _ _ _ _ _ _ vr,h1]
section
variable {N:Nat} {av bor:List Nat} {w0:World} {ops:Array Oper} {rest:List Oper} {kk:St→Prop} {E:Env} {loc:List Res} {X:World→Prop} {n:Nat} {ty t2:TypeId} {pos:String} {af:Array Edge} {g:Option (Nat×Bool)} {bb want:Bool} {x y:Operand} {a b c d:Int}
theorem pI (h:Sw Tryz.prog N av bor w0 ops rest ⟨(n,.bool (decide (a=c)&&decide (b=d)))::E,loc,X⟩ kk) (hx:ev E x=some (.agg #[.int .i64 a,.int .i64 b]):=by rfl) (hy:ev E y=some (.agg #[.int .i64 c,.int .i64 d]):=by rfl) (hg:gdB ops E g=some (bb,want):=by rfl) (hbb:bb=want:=by exact aE) (hd:Nat.blt n N=true:=by rfl) :
  Sw Tryz.prog N av bor w0 ops (⟨some n,.binOp .eql 44 x y t2,ty,pos,af,g⟩::rest) ⟨E,loc,X⟩ kk:=am (sT hx hy) hg hbb hd h
end
def sameZ (a:ActD):Bool:=decide ((a.to.n:Int)=0)&&(decide ((a.wraps.n:Int)=0)&&(seqB a.author ActD.zero.author&&(decide (a.seq=ActD.zero.seq)&&(seqB a.prev ActD.zero.prev&&(decide (a.kind=ActD.zero.kind)&&(decide (a.time=ActD.zero.time)&&(seqB a.object ActD.zero.object&&(seqB a.target ActD.zero.target&&(decide (a.scope=ActD.zero.scope)&&(seqB a.group ActD.zero.group&&(seqB a.text ActD.zero.text&&(boxEq a.body BoxD.zero&&(decide (a.epoch=ActD.zero.epoch)&&(decide (a.n=ActD.zero.n)&&(decide (a.m=ActD.zero.m)&&(decide (a.e=0)&&decide (a.s=0)))))))))))))))))
set_option maxRecDepth 20000 in
set_option maxHeartbeats 8000000 in
theorem rO (a:ActD):Pu Tryz.prog 42 #[a.v,ActD.zero.v] (fun _=>True) (.bool (sameZ a)):=by
 refine ay (args:=[_,_]) _ Tryz.func42 rfl Tryz.ntmps42 rfl fun av bor w0=>?_
 repeat' (first|apply ab|apply Qu|apply Qv|refine aj ?_|refine ad ?_|refine az ?_|refine aA ?_|refine aB ?_|refine aC ?_|refine df ?_|refine aW ?_|refine bC ?_|refine aK fun _=>?_|refine Qy ?_|apply Qx|apply Qw|apply ar|((fail_if_success (refine aZ ?_));refine aP (ht:=?_) (hf:=?_);all_goals (intro hx_;skip))|(refine aF (ht:=?_) (hf:=?_);all_goals (intro hx_;skip)))
 · refine ak (ap rfl rfl) ?_
   have h0:ActD.zero.to.n=0:=rfl
   rw [h0] at hx_
   simp_all [sameZ]
 · refine ak (ap rfl rfl) ?_
   have h0:ActD.zero.wraps.n=0:=rfl
   rw [h0] at hx_
   simp_all [sameZ]
 rename_i b1 b2 g1
 have n1:a.to.n=0:=by
  have h0:ActD.zero.to.n=0:=rfl
  rw [h0] at g1
  simpa using g1
 have n2:a.wraps.n=0:=by
  have h0:ActD.zero.wraps.n=0:=rfl
  rw [h0] at hx_
  simpa using hx_
 refine aT (ι:=Unit) (fun _=>⟨[(2,.pointer (some ⟨b1,0,none⟩)),(3,.pointer (some ⟨b2,0,none⟩)),(5,.int .i64 0)],[cel b2 46 ActD.zero.cells,cel b1 46 a.cells],fun _=>True⟩) (fun _=>0) () (ax ⟨rfl,rfl,rfl,trivial⟩ (aG _) fun _ h=>h) fun _=>?_
 repeat' (first|apply ab|apply Qu|apply Qv|refine aj ?_|refine ad ?_|refine az ?_|refine aA ?_|refine bj ?_|refine aW ?_|apply Qx|apply Qw|apply aS|(refine aF (ht:=?_) (hf:=?_);all_goals (intro hx_;first|have:=aO hx_|have:=aQ hx_)))
 · exact absurd this (by rw [n1];decide)
 refine aT (ι:=Unit) (fun _=>⟨[(2,.pointer (some ⟨b1,0,none⟩)),(3,.pointer (some ⟨b2,0,none⟩)),(6,.int .i64 0)],[cel b2 46 ActD.zero.cells,cel b1 46 a.cells],fun _=>True⟩) (fun _=>0) () (ax ⟨rfl,rfl,rfl,trivial⟩ (aG _) fun _ h=>h) fun _=>?_
 repeat' (first|apply ab|apply Qu|apply Qv|refine aj ?_|refine ad ?_|refine az ?_|refine aA ?_|refine aB ?_|refine aC ?_|refine bM ?_|refine bj ?_|refine cE ?_|refine aW ?_|refine aL ?_|apply Qx|apply Qw|apply ar|apply aS|(refine gz (a:=a.body) (b:=BoxD.zero) ?_)|(refine pI (a:=a.e) (b:=a.s) (c:=0) (d:=0) ?_)|(refine aX ?_)|((fail_if_success (refine aZ ?_));refine aP (ht:=?_) (hf:=?_);all_goals (intro hx_;first|have:=aO hx_|have:=aQ hx_|skip))|(refine aF (ht:=?_) (hf:=?_);all_goals (intro hx_;first|have:=aO hx_|have:=aQ hx_)))
 · exact absurd this (by rw [n2];decide)
 all_goals (
  refine ak (ap rfl rfl) ?_
  have q1:decide ((a.to.n:Int)=0)=true:=by rw [n1];rfl
  have q2:decide ((a.wraps.n:Int)=0)=true:=by rw [n2];rfl
  rw [sameZ,q1,q2]
  clear q1 q2 n1 n2
  first
   | rfl
   | (simp_all only [ZD,ZG,ZH,ZQ,ZO,ZE];done)
   | (simp_all;done)
   | skip)
theorem CellAt.same {w:World} {p:Option Addr} {q:Nat} {u v:Value} (h1:CellAt w p q u) (h2:CellAt w p q v):u=v:=by
 obtain ⟨a,ha⟩:=Option.isSome_iff_exists.1 h1.1
 have:=(h1.2 a ha).symm.trans (h2.2 a ha)
 exact Option.some.inj this
theorem Strs.same {w:World} {s:SlV} {l m:List ByteArray} (h1:Strs w s l) (h2:Strs w s m):l=m:=by
 have hl:l.length=m.length:=h1.len_.symm.trans h2.len_
 apply List.ext_getElem hl
 intro i i1 i2
 have a1:=h1.at_ (Zm i1)
 have a2:=h2.at_ (Zm i2)
 exact Value.string.inj (CellAt.same a1 a2)
section
variable {H:Type} {enc:TypeId×Value→H} {P:Program} {w:World} {base:Nat} {spare:Nat→Bool} {held:Bool}
theorem SlV.v_inj {s t:SlV} (h:s.v=t.v):s=t:=by
 obtain ⟨p,n,c⟩:=s
 obtain ⟨p',n',c'⟩:=t
 simp only [SlV.v,Value.slice.injEq] at h
 obtain ⟨rfl,rfl,rfl⟩:=h
 rfl
theorem zW {fuel:Nat} {a:ActD} {x:DataW H×List MemPlace} (h:DataW.trod enc Tryz.prog w base spare held fuel 46 a.cells=some x) (ha:a.at_ w):a.Str:=by
 obtain ⟨n0,y0,h0⟩:=bA (i:=0) (off:=0) (k:=1) (t':=9) Tryz.underlying46 h rfl rfl rfl al
 obtain ⟨n6,y6,h6⟩:=bA (i:=6) (off:=6) (k:=1) (t':=9) Tryz.underlying46 h rfl rfl rfl al
 obtain ⟨n8,y8,h8⟩:=bA (i:=8) (off:=8) (k:=1) (t':=9) Tryz.underlying46 h rfl rfl rfl al
 obtain ⟨n9,y9,h9⟩:=bA (i:=9) (off:=9) (k:=1) (t':=39) Tryz.underlying46 h rfl rfl rfl al
 obtain ⟨n10,y10,h10⟩:=bA (i:=10) (off:=10) (k:=1) (t':=9) Tryz.underlying46 h rfl rfl rfl al
 obtain ⟨s0,e0,b0⟩:=ck h0
 obtain ⟨s6,e6,b6⟩:=ck h6
 obtain ⟨s8,e8,b8⟩:=ck h8
 obtain ⟨s9,l9,e9,r9,b9⟩:=ic h9
 obtain ⟨s10,e10,b10⟩:=ck h10
 simp [ActD.cells] at e0 e6 e8 e9 e10
 have e9':=SlV.v_inj e9
 subst e0;subst e6;subst e8;subst e10
 rw [←e9'] at r9
 have e:=Strs.same ha.1 r9
 exact ⟨b0,b6,b8,b10,by rw [e];exact b9⟩
theorem vP {fuel:Nat} {cs:List Value} {x:DataW H×List MemPlace} (h:DataW.trod enc Tryz.prog w base spare held fuel 46 cs=some x):∃ a:ActD,cs=a.cells∧a.at_ w∧a.Rng∧a.target.size≤maxLen∧a.Str:=by
 obtain ⟨a,e,h1,h2,h3⟩:=qu h
 subst e
 exact ⟨a,rfl,h1,h2,h3,zW h h1⟩
end
end Go.Proofs.YtcdilibijnboeaaGreatDoor
