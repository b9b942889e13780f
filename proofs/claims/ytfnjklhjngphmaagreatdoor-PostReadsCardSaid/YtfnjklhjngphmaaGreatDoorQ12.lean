/- Joined by program out of: Ju Jw Jx Jh Jc Jd Je Ji Nb. -/
import Derived.Test.YtfnjklhjngphmaaGreatDoorQ11
set_option linter.unusedVariables false
set_option linter.unusedSimpArgs false
namespace Go.Proofs.YtfnjklhjngphmaaGreatDoor
open Go Go.Proofs Sy
def ofClaimI (c:ClaimD):ItemD:=⟨1,ActD.zero,c,BallotD.zero,DecD.zero⟩
theorem qW (c:ClaimD):Pu Tryz.prog 62 #[c.v] (fun _=>True) (ofClaimI c).v:=by
 refine aN (args:=[_]) _ Tryz.func62 rfl Tryz.ntmps62 rfl fun av bor w0=>?_
 repeat' (first|refine bV (cs:=(ofClaimI c).cells) (hf:=by rfl) ?_|apply ab|apply aj|apply ai|refine aG ?_|refine aP fun _=>?_|refine aT fun _=>?_|refine aK ?_|apply aA|fail)
 exact aq (bT rfl rfl bF (by rfl)) rfl
theorem mg (b:Nat) (h:BldH) (sa sk:SlV) (st:ChS) (pl:List (ByteArray×Value)) (ok:BldOk sa sk st pl) (hw:h.wn=false) (Y:World→Prop) :
  Ct Tryz.prog 43 #[.pointer (some ⟨b,0,none⟩)] (bldR b h sa sk st pl) Y (fun u R _=>BldAt b h st (.bool false) u R):=by
 obtain ⟨ks,ki,id,fork,q1,q2,cl,wn⟩:=h
 simp only at hw
 subst hw
 refine dD (args:=[_]) _ Tryz.func43 rfl Tryz.ntmps43 rfl fun av bor w0=>?_
 unfold bldR
 repeat' (first|apply ab|apply aj|apply ai|refine ae ?_|refine ac ?_|refine bX ?_|refine aM ?_|fail)
 (refine bo [cel b 96 (bldC ⟨ks,ki,id,fork,q1,q2,cl,false⟩ sa sk st.prev (st.gen:Nat)),actR sa st.acts,keyR sk st.keys,mapr q2 pl] (fun w=>Y w) ar ?_)
 all_goals refine az 0 ?_
 all_goals refine az 1 ?_
 all_goals refine az 2 ?_
 all_goals (refine az 3 (hy:=by (apply l8 (v:=.bool false);rfl;(repeat (exact aU));rfl)) ?_)
 all_goals refine az 4 ?_
 all_goals refine az 5 ?_
 all_goals refine bG 6 ?_
 all_goals refine bG 7 ?_
 all_goals refine bG 8 ?_
 all_goals refine bG 9 ?_
 all_goals refine bG 10 ?_
 all_goals refine bG 11 ?_
 all_goals refine bG 12 ?_
 all_goals refine bG 13 ?_
 all_goals refine bG 14 ?_
 all_goals refine bG 15 ?_
 all_goals refine bG 16 ?_
 all_goals refine az 17 ?_
 all_goals refine az 18 ?_
 all_goals refine bG 19 ?_
 all_goals refine bG 20 ?_
 all_goals refine bG 21 ?_
 all_goals refine bG 22 ?_
 all_goals refine bG 23 ?_
 all_goals refine bG 24 ?_
 all_goals refine bG 25 ?_
 all_goals refine bG 26 ?_
 all_goals refine bG 27 ?_
 all_goals refine bG 28 ?_
 all_goals refine az 29 ?_
 all_goals (refine aI ?_)
 repeat' (first|apply ab|apply aj|apply ai|refine ac ?_|refine aE ?_|apply aA|fail)
 exact aq (aB rfl rfl) ⟨_,aQ _,rfl,sa,sk,pl,ok,rfl⟩
structure SetI (l:List ActD) where
 k:Nat
 hk:k≤l.length
 hs:setI l l.length=setI l k
set_option maxHeartbeats 16000000 in
theorem mf (b:Nat) (h:BldH) (sa sk:SlV) (st:ChS) (pl:List (ByteArray×Value)) (ok:BldOk sa sk st pl) (W:OfW) (c0:ClaimD) (hwc:W.won st.gen=some c0) (hcl:h.cl=c0) (hwn:h.wn=true) (Y:World→Prop)
  (hl:st.acts.length≤1000000) (hl2:st.keys.length≤1000000) (hg:st.gen≤1000000)
  (hclm:∀ p:Int,Pu Tryz.prog 61 #[.int .i64 p,c0.v] (fun w=>Y w∧Glob w) (.bool (W.clm p c0)))
  (hdg:Pu Tryz.prog 15 #[(ofClaimI c0).v] (fun w=>Y w∧Glob w) (.string (W.dgC c0)))
  (hwon:Pu Tryz.prog 60 #[.agg #[h.ks.v,h.ki.v],.string h.id,.int .i64 ((st.gen+1:Nat):Int)] (fun w=>Y w∧Glob w) (.tuple #[((W.won (st.gen+1)).getD ClaimD.zero).v,.bool (W.won (st.gen+1)).isSome])) :
  Ct Tryz.prog 43 #[.pointer (some ⟨b,0,none⟩)] (bldR b h sa sk st pl) (fun w=>Y w∧Glob w)
   (fun u R _=>(∀ s,regS W st=some s→BldAt b (h.look (W.won (st.gen+1))) s (.bool true) u R)∧(regS W st=none→BldAt b h st (.bool false) u R)):=by
 obtain ⟨ks,ki,id,fork,q1,q2,c,wn⟩:=h
 simp only at hcl hwn
 subst hcl
 subst hwn
 have ok':=ok
 obtain ⟨hn,hk,hp⟩:=ok
 refine dD (args:=[_]) _ Tryz.func43 rfl Tryz.ntmps43 rfl fun av bor w0=>?_
 have hreg:regS W st=bif decide (c.base=(st.acts.length:Int))&&seqB c.prev st.prev then (match setI st.acts st.acts.length with
  | none=>none
  | some i=>bif W.clm (st.acts.getD i ActD.zero).m c then some ⟨st.acts,st.keys++[⟨(st.acts.length:Nat),c.pub,c.home⟩],W.dgC c,st.gen+1⟩ else none) else none:=by rw [regS,hwc];rfl
 generalize hgo:regS W st=go at *
 unfold bldR actR keyR
 repeat' (first|apply ab|apply aj|apply ai|refine ae ?_|refine ac ?_|refine bX ?_|refine aM ?_|fail)
 cases hb:decide (c.base=(st.acts.length:Int)) with
 | false =>
  rw [hb] at hreg
  have hb':(!decide (c.base=(sa.n:Int)))=true:=by rw [hn,hb];rfl
  (refine bo [cel b 96 (bldC ⟨ks,ki,id,fork,q1,q2,c,true⟩ sa sk st.prev (st.gen:Nat)),orow 46 20 (.slice sa.p sa.n sa.c) sa.n (st.acts.map ActD.cells).flatten,orow 35 3 (.slice sk.p sk.n sk.c) sk.n (st.keys.map KeyD.cells).flatten,mapr q2 pl] (fun w=>Y w∧Glob w) ar ?_)
  all_goals refine az 0 ?_
  all_goals refine az 1 ?_
  all_goals refine az 2 ?_
  all_goals (refine az 3 (hy:=by (apply l8 (v:=.bool true);rfl;(repeat (exact aU));rfl)) ?_)
  all_goals refine az 4 ?_
  all_goals refine az 5 ?_
  all_goals refine az 6 ?_
  all_goals refine az 7 ?_
  all_goals refine az 8 ?_
  all_goals refine az 9 ?_
  all_goals refine az 10 ?_
  all_goals refine az 11 ?_
  all_goals refine az 12 ?_
  all_goals refine az 13 ?_
  all_goals refine az 14 ?_
  all_goals refine az 15 ?_
  all_goals (refine az 16 (hy:=by (apply kn true;rfl;rfl;exact hb')) ?_)
  all_goals refine az 17 ?_
  all_goals refine az 18 ?_
  all_goals refine bG 19 ?_
  all_goals refine bG 20 ?_
  all_goals refine bG 21 ?_
  all_goals refine bG 22 ?_
  all_goals refine bG 23 ?_
  all_goals refine bG 24 ?_
  all_goals refine bG 25 ?_
  all_goals refine bG 26 ?_
  all_goals refine bG 27 ?_
  all_goals refine bG 28 ?_
  all_goals refine az 29 ?_
  all_goals (refine aI ?_)
  all_goals
   repeat' (first|apply ab|apply aj|apply ai|refine ac ?_|refine aE ?_|apply aA|fail)
   exact aq (aB rfl rfl) ⟨bldR b ⟨ks,ki,id,fork,q1,q2,c,true⟩ sa sk st pl,aQ _,⟨fun s hs=>(by rw [hreg] at hs;cases hs),fun _=>⟨rfl,sa,sk,pl,ok',rfl⟩⟩⟩
 | true =>
 rw [hb] at hreg
 have hb':(!decide (c.base=(sa.n:Int)))=false:=by rw [hn,hb];rfl
 have hbe:c.base=(st.acts.length:Int):=aY hb
 cases hpv:seqB c.prev st.prev with
 | false =>
  rw [hpv] at hreg
  have hpv':(!seqB c.prev st.prev)=true:=by rw [hpv];rfl
  (refine bo [cel b 96 (bldC ⟨ks,ki,id,fork,q1,q2,c,true⟩ sa sk st.prev (st.gen:Nat)),orow 46 20 (.slice sa.p sa.n sa.c) sa.n (st.acts.map ActD.cells).flatten,orow 35 3 (.slice sk.p sk.n sk.c) sk.n (st.keys.map KeyD.cells).flatten,mapr q2 pl] (fun w=>Y w∧Glob w) ar ?_)
  all_goals refine az 0 ?_
  all_goals refine az 1 ?_
  all_goals refine az 2 ?_
  all_goals (refine az 3 (hy:=by (apply l8 (v:=.bool true);rfl;(repeat (exact aU));rfl)) ?_)
  all_goals refine az 4 ?_
  all_goals refine az 5 ?_
  all_goals refine az 6 ?_
  all_goals refine az 7 ?_
  all_goals refine az 8 ?_
  all_goals refine az 9 ?_
  all_goals refine az 10 ?_
  all_goals refine az 11 ?_
  all_goals refine az 12 ?_
  all_goals refine az 13 ?_
  all_goals refine az 14 ?_
  all_goals refine az 15 ?_
  all_goals (refine az 16 (hy:=by (apply kn false;rfl;rfl;exact hb')) ?_)
  all_goals refine az 17 ?_
  all_goals refine az 18 ?_
  all_goals refine az 19 ?_
  all_goals refine az 20 ?_
  all_goals refine az 21 ?_
  all_goals refine az 22 ?_
  all_goals refine az 23 ?_
  all_goals refine az 24 ?_
  all_goals refine az 25 ?_
  all_goals refine az 26 ?_
  all_goals refine az 27 ?_
  all_goals (refine az 28 (hy:=by (apply fK true;rfl;rfl;exact hpv')) ?_)
  all_goals refine az 29 ?_
  all_goals (refine aI ?_)
  all_goals
   repeat' (first|apply ab|apply aj|apply ai|refine ac ?_|refine aE ?_|apply aA|fail)
   exact aq (aB rfl rfl) ⟨bldR b ⟨ks,ki,id,fork,q1,q2,c,true⟩ sa sk st pl,aQ _,⟨fun s hs=>(by rw [hreg] at hs;cases hs),fun _=>⟨rfl,sa,sk,pl,ok',rfl⟩⟩⟩
 | true =>
 rw [hpv] at hreg
 have hpv':(!seqB c.prev st.prev)=false:=by rw [hpv];rfl
 (refine bo [cel b 96 (bldC ⟨ks,ki,id,fork,q1,q2,c,true⟩ sa sk st.prev (st.gen:Nat)),orow 46 20 (.slice sa.p sa.n sa.c) sa.n (st.acts.map ActD.cells).flatten,orow 35 3 (.slice sk.p sk.n sk.c) sk.n (st.keys.map KeyD.cells).flatten,mapr q2 pl] (fun w=>Y w∧Glob w) ar ?_)
 all_goals refine az 0 ?_
 all_goals refine az 1 ?_
 all_goals refine az 2 ?_
 all_goals (refine az 3 (hy:=by (apply l8 (v:=.bool true);rfl;(repeat (exact aU));rfl)) ?_)
 all_goals refine az 4 ?_
 all_goals refine az 5 ?_
 all_goals refine az 6 ?_
 all_goals refine az 7 ?_
 all_goals refine az 8 ?_
 all_goals refine az 9 ?_
 all_goals refine az 10 ?_
 all_goals refine az 11 ?_
 all_goals refine az 12 ?_
 all_goals refine az 13 ?_
 all_goals refine az 14 ?_
 all_goals refine az 15 ?_
 all_goals (refine az 16 (hy:=by (apply kn false;rfl;rfl;exact hb')) ?_)
 all_goals refine az 17 ?_
 all_goals refine az 18 ?_
 all_goals refine az 19 ?_
 all_goals refine az 20 ?_
 all_goals refine az 21 ?_
 all_goals refine az 22 ?_
 all_goals refine az 23 ?_
 all_goals refine az 24 ?_
 all_goals refine az 25 ?_
 all_goals refine az 26 ?_
 all_goals refine az 27 ?_
 all_goals (refine az 28 (hy:=by (apply fK false;rfl;rfl;exact hpv')) ?_)
 all_goals refine az 29 ?_
 all_goals (refine aI ?_)
 repeat' (first|apply ab|apply aj|apply ai|refine ae ?_|refine ac ?_|refine bX ?_|refine aM ?_|refine aL ?_|refine bg ?_|refine cJ (h:=?_)|refine aD ?_|apply ay|apply aw|fail)
 refine be (ι:=SetI st.acts) (fun i=>⟨[(0,.pointer (some ⟨b,0,none⟩)),(3,.pointer (some ⟨b,2,none⟩)),(4,.int .i64 ((i.k:Nat)-1))],[cel b 96 (bldC ⟨ks,ki,id,fork,q1,q2,c,true⟩ sa sk st.prev (st.gen:Nat)),orow 46 20 (.slice sa.p sa.n sa.c) sa.n (st.acts.map ActD.cells).flatten,orow 35 3 (.slice sk.p sk.n sk.c) sk.n (st.keys.map KeyD.cells).flatten,mapr q2 pl],fun w=>Y w∧Glob w⟩) (fun i=>i.k) ⟨sa.n,by omega,by rw [hn]⟩ (aF ⟨rfl,rfl,rfl,trivial⟩ (aQ _) fun _ h=>h) fun i=>?_
 obtain ⟨k,hk',hs⟩:=i
 simp only
 cases k with
 | zero =>
  have hset:setI st.acts st.acts.length=none:=hs
  rw [hset] at hreg
  simp only [Bool.and_true,Bool.true_and,cond_true] at hreg
  repeat' (first|refine nI (hab:=by omega) ?_|apply ab|apply aj|apply ai|refine ae ?_|refine aH ?_|refine aW ?_|refine aD ?_|apply aV|fail)
  (refine bo [cel b 96 (bldC ⟨ks,ki,id,fork,q1,q2,c,true⟩ sa sk st.prev (st.gen:Nat)),orow 46 20 (.slice sa.p sa.n sa.c) sa.n (st.acts.map ActD.cells).flatten,orow 35 3 (.slice sk.p sk.n sk.c) sk.n (st.keys.map KeyD.cells).flatten,mapr q2 pl] (fun w=>Y w∧Glob w) ar ?_)
  all_goals refine az 0 ?_
  all_goals (refine az 1 (hy:=by (apply bK true;rfl;rfl;exact decide_eq_true ag)) ?_)
  all_goals refine az 2 ?_
  all_goals refine bG 3 ?_
  all_goals refine bG 4 ?_
  all_goals refine bG 5 ?_
  all_goals refine bG 6 ?_
  all_goals refine bG 7 ?_
  all_goals refine bG 8 ?_
  all_goals refine bG 9 ?_
  all_goals refine bG 10 ?_
  all_goals refine bG 11 ?_
  all_goals refine bG 12 ?_
  all_goals refine bG 13 ?_
  all_goals refine bG 14 ?_
  all_goals (refine ao 15 ?_;(refine bI ?_);apply ab;refine dA ?_)
  all_goals refine bG 16 ?_
  all_goals refine az 17 ?_
  all_goals (refine aI ?_)
  all_goals
   repeat' (first|apply ab|apply aj|apply ai|refine ac ?_|refine aE ?_|apply aA|fail)
   exact aq (aB rfl rfl) ⟨bldR b ⟨ks,ki,id,fork,q1,q2,c,true⟩ sa sk st pl,aQ _,⟨fun s hs=>(by rw [hreg] at hs;cases hs),fun _=>⟨rfl,sa,sk,pl,ok',rfl⟩⟩⟩
 | succ k =>
  obtain ⟨a,ha⟩:∃ a,st.acts[k]?=some a:=⟨_,List.getElem?_eq_getElem ag⟩
  have haD:st.acts.getD k ActD.zero=a:=by rw [List.getD_eq_getElem?_getD,ha];rfl
  refine de (r:=orow 46 20 (.slice sa.p sa.n sa.c) sa.n (st.acts.map ActD.cells).flatten) bF (p:=sa.p.isSome=true) (fun w h=>cR h ag) fun hap=>?_
  have hm1:(sa.n:Nat)=(st.acts.map ActD.cells).length:=by rw [List.length_map];exact hn
  have hi1:(st.acts.map ActD.cells)[k]?=some a.cells:=by simp [ha]
  have hrow:orow 46 20 (.slice sa.p sa.n sa.c) sa.n (st.acts.map ActD.cells).flatten∈[cel b 96 (bldC ⟨ks,ki,id,fork,q1,q2,c,true⟩ sa sk st.prev (st.gen:Nat)),orow 46 20 (.slice sa.p sa.n sa.c) sa.n (st.acts.map ActD.cells).flatten,orow 35 3 (.slice sk.p sk.n sk.c) sk.n (st.keys.map KeyD.cells).flatten,mapr q2 pl]:=.tail _ (.head _)
  by_cases hk19:a.kind=19
  · have hset:setI st.acts st.acts.length=some k:=by rw [hs,setI,haD,decide_eq_true hk19];rfl
    rw [hset] at hreg
    simp only [Bool.and_true,Bool.true_and,cond_true,haD] at hreg
    have hcl:=hclm a.m
    repeat' (first|refine ax (dl true rfl rfl (decide_eq_true ag)) rfl rfl rfl ?_|refine fN (hab:=hk19) ?_|apply ab|apply aj|apply ai|refine ae ?_|refine bX ?_|refine aM ?_|refine aL ?_|refine aJ ?_|refine aD ?_|apply aV|(refine bf (q:=k*20) ?_)|(refine cT ?_)|(refine ax (eJ (i:=k) (j:=3) (cs:=a.cells) (u:=.int .i64 a.kind) rfl hrow hm1 (fF _) hi1 rfl) rfl rfl rfl ?_)|fail)
    cases hcm:W.clm a.m c with
    | false =>
     rw [hcm] at hcl hreg
     (refine bo [cel b 96 (bldC ⟨ks,ki,id,fork,q1,q2,c,true⟩ sa sk st.prev (st.gen:Nat)),orow 46 20 (.slice sa.p sa.n sa.c) sa.n (st.acts.map ActD.cells).flatten,orow 35 3 (.slice sk.p sk.n sk.c) sk.n (st.keys.map KeyD.cells).flatten,mapr q2 pl] (fun w=>Y w∧Glob w) ar ?_)
     all_goals refine az 0 ?_
     all_goals (refine az 1 (hy:=by (apply bK false;rfl;rfl;exact decide_eq_false ag)) ?_)
     all_goals refine az 2 ?_
     all_goals refine az 3 ?_
     all_goals refine az 4 ?_
     all_goals refine az 5 ?_
     all_goals refine az 6 ?_
     all_goals refine az 7 ?_
     all_goals (refine az 8 (hy:=by (apply bp (q:=k*20);rfl;rfl;omega;omega;assumption;omega)) ?_)
     all_goals (refine az 9 (hy:=by (apply cw;rfl;assumption;rfl)) ?_)
     all_goals (refine az 10 (hy:=by (apply eJ (i:=k) (j:=17) (cs:=a.cells) (u:=.int .i64 a.m);rfl;exact hrow;exact hm1;exact fF _;exact hi1;rfl)) ?_)
     all_goals refine az 11 ?_
     all_goals refine az 12 ?_
     all_goals refine az 13 ?_
     all_goals (refine az 14 (hy:=by (apply dE (vs:=c.cells);rfl;exact .head _;rfl;rfl)) ?_)
     all_goals (refine ao 15 ?_;(refine aC (hc:=hcl) (hX:=fun w h=>h) ?_);apply ab;refine dA ?_)
     all_goals refine az 16 ?_
     all_goals refine az 17 ?_
     all_goals (refine aI ?_)
     all_goals
      repeat' (first|apply ab|apply aj|apply ai|refine ac ?_|refine aE ?_|apply aA|fail)
      exact aq (aB rfl rfl) ⟨bldR b ⟨ks,ki,id,fork,q1,q2,c,true⟩ sa sk st pl,aQ _,⟨fun s hs=>(by rw [hreg] at hs;cases hs),fun _=>⟨rfl,sa,sk,pl,ok',rfl⟩⟩⟩
    | true =>
     rw [hcm] at hcl hreg
     simp only [cond_true] at hreg
     (refine bo [cel b 96 (bldC ⟨ks,ki,id,fork,q1,q2,c,true⟩ sa sk st.prev (st.gen:Nat)),orow 46 20 (.slice sa.p sa.n sa.c) sa.n (st.acts.map ActD.cells).flatten,orow 35 3 (.slice sk.p sk.n sk.c) sk.n (st.keys.map KeyD.cells).flatten,mapr q2 pl] (fun w=>Y w∧Glob w) ar ?_)
     all_goals refine az 0 ?_
     all_goals (refine az 1 (hy:=by (apply bK false;rfl;rfl;exact decide_eq_false ag)) ?_)
     all_goals refine az 2 ?_
     all_goals refine az 3 ?_
     all_goals refine az 4 ?_
     all_goals refine az 5 ?_
     all_goals refine az 6 ?_
     all_goals refine az 7 ?_
     all_goals (refine az 8 (hy:=by (apply bp (q:=k*20);rfl;rfl;omega;omega;assumption;omega)) ?_)
     all_goals (refine az 9 (hy:=by (apply cw;rfl;assumption;rfl)) ?_)
     all_goals (refine az 10 (hy:=by (apply eJ (i:=k) (j:=17) (cs:=a.cells) (u:=.int .i64 a.m);rfl;exact hrow;exact hm1;exact fF _;exact hi1;rfl)) ?_)
     all_goals refine az 11 ?_
     all_goals refine az 12 ?_
     all_goals refine az 13 ?_
     all_goals (refine az 14 (hy:=by (apply dE (vs:=c.cells);rfl;exact .head _;rfl;rfl)) ?_)
     all_goals (refine ao 15 ?_;(refine aC (hc:=hcl) (hX:=fun w h=>h) ?_);apply ab;refine dA ?_)
     all_goals refine az 16 ?_
     all_goals refine az 17 ?_
     all_goals (refine aI ?_)
     all_goals
      repeat' (first|apply aj|refine aD ?_|apply ay|fail)
      refine ez (ι:=Option Addr×Nat) (fun i=>⟨[(0,.pointer (some ⟨b,0,none⟩)),(3,.pointer (some ⟨b,2,none⟩))],[cel b 96 (bldC ⟨ks,ki,id,fork,q1,q2,c,true⟩ sa ⟨i.1,sk.n+1,i.2⟩ st.prev (st.gen:Nat)),orow 46 20 (.slice sa.p sa.n sa.c) sa.n (st.acts.map ActD.cells).flatten,orow 35 3 (.slice i.1 (sk.n+1) i.2) (sk.n+1) ((st.keys.map KeyD.cells).flatten++(⟨((sa.n:Nat):Int),c.pub,c.home⟩:KeyD).cells),mapr q2 pl],fun w=>Y w∧Glob w⟩) ?_ fun i=>?_
      · (refine bo [] (fun _=>True) ar ?_)
        all_goals refine aa 0 ?_
        all_goals refine aa 1 ?_
        all_goals refine aa 2 ?_
        all_goals refine aa 3 ?_
        all_goals refine aa 5 ?_
        all_goals refine aa 6 ?_
        all_goals refine aa 7 ?_
        all_goals refine aa 10 ?_
        all_goals refine aa 11 ?_
        all_goals refine aa 12 ?_
        all_goals refine aa 13 ?_
        all_goals refine aa 15 ?_
        all_goals refine aa 16 ?_
        all_goals refine aa 17 ?_
        all_goals refine aa 18 ?_
        all_goals (refine By 4 8 14 19 (h:=?_) (h':=?_) (h'':=?_) (h3:=?_);(focus (((refine aL ?_);apply ab;refine ak ?_);all_goals ((refine fI 8 14 19 (h:=?_) (h':=?_) (h'':=?_);(focus (((refine aL ?_);apply ab;refine ak ?_);all_goals ((refine aa 9 ?_);all_goals (refine bS 14 19 (h:=?_) (h':=?_);(focus (((refine aL ?_);apply ab;refine ak ?_);all_goals ((refine ao 19 ?_;(refine aL ?_);apply ab;refine ak ?_);all_goals (refine aa 20 (hy:=by (apply cd (cs:=(⟨((sa.n:Nat):Int),c.pub,c.home⟩:KeyD).cells);rfl;rfl)) ?_);all_goals (refine ao 21 ?_;(refine bH (size:=3) (vs:=[(⟨((sa.n:Nat):Int),c.pub,c.home⟩:KeyD).v]) (css:=(⟨((sa.n:Nat):Int),c.pub,c.home⟩:KeyD).cells) (hsz:=by rfl) (hcs:=by rfl) fun _=>?_);apply ab;refine ak ?_);all_goals (refine ao 22 ?_;(refine aS (size:=3) (news:=(⟨((sa.n:Nat):Int),c.pub,c.home⟩:KeyD).cells) (q:=1) rfl rfl rfl rfl (fun _=>At.there _ (At.there _ (At.there _ (At.here _)))) (fun w G=>bq G aU rfl rfl 1) ag (by simp only [maxLen];omega) rfl ?_ rfl ?_;(with_reducible rfl);intro A3 c3);apply ab;refine ak ?_);all_goals (refine aa 23 ?_);all_goals (refine aa 24 ?_);all_goals (refine ao 25 ?_;(refine br ?_);apply ab;refine ak ?_);all_goals (refine aI ?_))));rotate_right;(focus (((refine aL ?_);apply ab;refine ak ?_);all_goals ((refine ao 14 ?_;(refine aL ?_);apply ab;refine ak ?_);all_goals (refine aa 20 (hy:=by (apply cd (cs:=(⟨((sa.n:Nat):Int),c.pub,c.home⟩:KeyD).cells);rfl;rfl)) ?_);all_goals (refine ao 21 ?_;(refine bH (size:=3) (vs:=[(⟨((sa.n:Nat):Int),c.pub,c.home⟩:KeyD).v]) (css:=(⟨((sa.n:Nat):Int),c.pub,c.home⟩:KeyD).cells) (hsz:=by rfl) (hcs:=by rfl) fun _=>?_);apply ab;refine ak ?_);all_goals (refine ao 22 ?_;(refine aS (size:=3) (news:=(⟨((sa.n:Nat):Int),c.pub,c.home⟩:KeyD).cells) (q:=1) rfl rfl rfl rfl (fun _=>At.there _ (At.there _ (At.there _ (At.here _)))) (fun w G=>bq G aU rfl rfl 1) ag (by simp only [maxLen];omega) rfl ?_ rfl ?_;(with_reducible rfl);intro A3 c3);apply ab;refine ak ?_);all_goals (refine aa 23 ?_);all_goals (refine aa 24 ?_);all_goals (refine ao 25 ?_;(refine br ?_);apply ab;refine ak ?_);all_goals (refine aI ?_))))))));rotate_right;(focus (((refine aL ?_);apply ab;refine ak ?_);all_goals ((refine bS 8 14 (h:=?_) (h':=?_);(focus (((refine aL ?_);apply ab;refine ak ?_);all_goals ((refine aa 9 ?_);all_goals (refine ao 14 ?_;(refine aL ?_);apply ab;refine ak ?_);all_goals (refine aa 20 (hy:=by (apply cd (cs:=(⟨((sa.n:Nat):Int),c.pub,c.home⟩:KeyD).cells);rfl;rfl)) ?_);all_goals (refine ao 21 ?_;(refine bH (size:=3) (vs:=[(⟨((sa.n:Nat):Int),c.pub,c.home⟩:KeyD).v]) (css:=(⟨((sa.n:Nat):Int),c.pub,c.home⟩:KeyD).cells) (hsz:=by rfl) (hcs:=by rfl) fun _=>?_);apply ab;refine ak ?_);all_goals (refine ao 22 ?_;(refine aS (size:=3) (news:=(⟨((sa.n:Nat):Int),c.pub,c.home⟩:KeyD).cells) (q:=1) rfl rfl rfl rfl (fun _=>At.there _ (At.there _ (At.there _ (At.here _)))) (fun w G=>bq G aU rfl rfl 1) ag (by simp only [maxLen];omega) rfl ?_ rfl ?_;(with_reducible rfl);intro A3 c3);apply ab;refine ak ?_);all_goals (refine aa 23 ?_);all_goals (refine aa 24 ?_);all_goals (refine ao 25 ?_;(refine br ?_);apply ab;refine ak ?_);all_goals (refine aI ?_))));rotate_right;(focus (((refine aL ?_);apply ab;refine ak ?_);all_goals ((refine ao 8 ?_;(refine aL ?_);apply ab;refine ak ?_);all_goals (refine aa 9 ?_);all_goals (refine aa 20 (hy:=by (apply cd (cs:=(⟨((sa.n:Nat):Int),c.pub,c.home⟩:KeyD).cells);rfl;rfl)) ?_);all_goals (refine ao 21 ?_;(refine bH (size:=3) (vs:=[(⟨((sa.n:Nat):Int),c.pub,c.home⟩:KeyD).v]) (css:=(⟨((sa.n:Nat):Int),c.pub,c.home⟩:KeyD).cells) (hsz:=by rfl) (hcs:=by rfl) fun _=>?_);apply ab;refine ak ?_);all_goals (refine ao 22 ?_;(refine aS (size:=3) (news:=(⟨((sa.n:Nat):Int),c.pub,c.home⟩:KeyD).cells) (q:=1) rfl rfl rfl rfl (fun _=>At.there _ (At.there _ (At.there _ (At.here _)))) (fun w G=>bq G aU rfl rfl 1) ag (by simp only [maxLen];omega) rfl ?_ rfl ?_;(with_reducible rfl);intro A3 c3);apply ab;refine ak ?_);all_goals (refine aa 23 ?_);all_goals (refine aa 24 ?_);all_goals (refine ao 25 ?_;(refine br ?_);apply ab;refine ak ?_);all_goals (refine aI ?_))))))));rotate_right;(focus (((refine aL ?_);apply ab;refine ak ?_);all_goals ((refine bS 8 19 (h:=?_) (h':=?_);(focus (((refine aL ?_);apply ab;refine ak ?_);all_goals ((refine aa 9 ?_);all_goals (refine ao 19 ?_;(refine aL ?_);apply ab;refine ak ?_);all_goals (refine aa 20 (hy:=by (apply cd (cs:=(⟨((sa.n:Nat):Int),c.pub,c.home⟩:KeyD).cells);rfl;rfl)) ?_);all_goals (refine ao 21 ?_;(refine bH (size:=3) (vs:=[(⟨((sa.n:Nat):Int),c.pub,c.home⟩:KeyD).v]) (css:=(⟨((sa.n:Nat):Int),c.pub,c.home⟩:KeyD).cells) (hsz:=by rfl) (hcs:=by rfl) fun _=>?_);apply ab;refine ak ?_);all_goals (refine ao 22 ?_;(refine aS (size:=3) (news:=(⟨((sa.n:Nat):Int),c.pub,c.home⟩:KeyD).cells) (q:=1) rfl rfl rfl rfl (fun _=>At.there _ (At.there _ (At.there _ (At.here _)))) (fun w G=>bq G aU rfl rfl 1) ag (by simp only [maxLen];omega) rfl ?_ rfl ?_;(with_reducible rfl);intro A3 c3);apply ab;refine ak ?_);all_goals (refine aa 23 ?_);all_goals (refine aa 24 ?_);all_goals (refine ao 25 ?_;(refine br ?_);apply ab;refine ak ?_);all_goals (refine aI ?_))));rotate_right;(focus (((refine aL ?_);apply ab;refine ak ?_);all_goals ((refine ao 8 ?_;(refine aL ?_);apply ab;refine ak ?_);all_goals (refine aa 9 ?_);all_goals (refine aa 20 (hy:=by (apply cd (cs:=(⟨((sa.n:Nat):Int),c.pub,c.home⟩:KeyD).cells);rfl;rfl)) ?_);all_goals (refine ao 21 ?_;(refine bH (size:=3) (vs:=[(⟨((sa.n:Nat):Int),c.pub,c.home⟩:KeyD).v]) (css:=(⟨((sa.n:Nat):Int),c.pub,c.home⟩:KeyD).cells) (hsz:=by rfl) (hcs:=by rfl) fun _=>?_);apply ab;refine ak ?_);all_goals (refine ao 22 ?_;(refine aS (size:=3) (news:=(⟨((sa.n:Nat):Int),c.pub,c.home⟩:KeyD).cells) (q:=1) rfl rfl rfl rfl (fun _=>At.there _ (At.there _ (At.there _ (At.here _)))) (fun w G=>bq G aU rfl rfl 1) ag (by simp only [maxLen];omega) rfl ?_ rfl ?_;(with_reducible rfl);intro A3 c3);apply ab;refine ak ?_);all_goals (refine aa 23 ?_);all_goals (refine aa 24 ?_);all_goals (refine ao 25 ?_;(refine br ?_);apply ab;refine ak ?_);all_goals (refine aI ?_))))))))))));rotate_right;(focus (((refine aL ?_);apply ab;refine ak ?_);all_goals ((refine fI 4 8 14 (h:=?_) (h':=?_) (h'':=?_);(focus (((refine aL ?_);apply ab;refine ak ?_);all_goals ((refine bS 8 14 (h:=?_) (h':=?_);(focus (((refine aL ?_);apply ab;refine ak ?_);all_goals ((refine aa 9 ?_);all_goals (refine ao 14 ?_;(refine aL ?_);apply ab;refine ak ?_);all_goals (refine aa 20 (hy:=by (apply cd (cs:=(⟨((sa.n:Nat):Int),c.pub,c.home⟩:KeyD).cells);rfl;rfl)) ?_);all_goals (refine ao 21 ?_;(refine bH (size:=3) (vs:=[(⟨((sa.n:Nat):Int),c.pub,c.home⟩:KeyD).v]) (css:=(⟨((sa.n:Nat):Int),c.pub,c.home⟩:KeyD).cells) (hsz:=by rfl) (hcs:=by rfl) fun _=>?_);apply ab;refine ak ?_);all_goals (refine ao 22 ?_;(refine aS (size:=3) (news:=(⟨((sa.n:Nat):Int),c.pub,c.home⟩:KeyD).cells) (q:=1) rfl rfl rfl rfl (fun _=>At.there _ (At.there _ (At.there _ (At.here _)))) (fun w G=>bq G aU rfl rfl 1) ag (by simp only [maxLen];omega) rfl ?_ rfl ?_;(with_reducible rfl);intro A3 c3);apply ab;refine ak ?_);all_goals (refine aa 23 ?_);all_goals (refine aa 24 ?_);all_goals (refine ao 25 ?_;(refine br ?_);apply ab;refine ak ?_);all_goals (refine aI ?_))));rotate_right;(focus (((refine aL ?_);apply ab;refine ak ?_);all_goals ((refine ao 8 ?_;(refine aL ?_);apply ab;refine ak ?_);all_goals (refine aa 9 ?_);all_goals (refine aa 20 (hy:=by (apply cd (cs:=(⟨((sa.n:Nat):Int),c.pub,c.home⟩:KeyD).cells);rfl;rfl)) ?_);all_goals (refine ao 21 ?_;(refine bH (size:=3) (vs:=[(⟨((sa.n:Nat):Int),c.pub,c.home⟩:KeyD).v]) (css:=(⟨((sa.n:Nat):Int),c.pub,c.home⟩:KeyD).cells) (hsz:=by rfl) (hcs:=by rfl) fun _=>?_);apply ab;refine ak ?_);all_goals (refine ao 22 ?_;(refine aS (size:=3) (news:=(⟨((sa.n:Nat):Int),c.pub,c.home⟩:KeyD).cells) (q:=1) rfl rfl rfl rfl (fun _=>At.there _ (At.there _ (At.there _ (At.here _)))) (fun w G=>bq G aU rfl rfl 1) ag (by simp only [maxLen];omega) rfl ?_ rfl ?_;(with_reducible rfl);intro A3 c3);apply ab;refine ak ?_);all_goals (refine aa 23 ?_);all_goals (refine aa 24 ?_);all_goals (refine ao 25 ?_;(refine br ?_);apply ab;refine ak ?_);all_goals (refine aI ?_))))))));rotate_right;(focus (((refine aL ?_);apply ab;refine ak ?_);all_goals ((refine bS 4 8 (h:=?_) (h':=?_);(focus (((refine aL ?_);apply ab;refine ak ?_);all_goals ((refine ao 8 ?_;(refine aL ?_);apply ab;refine ak ?_);all_goals (refine aa 9 ?_);all_goals (refine aa 20 (hy:=by (apply cd (cs:=(⟨((sa.n:Nat):Int),c.pub,c.home⟩:KeyD).cells);rfl;rfl)) ?_);all_goals (refine ao 21 ?_;(refine bH (size:=3) (vs:=[(⟨((sa.n:Nat):Int),c.pub,c.home⟩:KeyD).v]) (css:=(⟨((sa.n:Nat):Int),c.pub,c.home⟩:KeyD).cells) (hsz:=by rfl) (hcs:=by rfl) fun _=>?_);apply ab;refine ak ?_);all_goals (refine ao 22 ?_;(refine aS (size:=3) (news:=(⟨((sa.n:Nat):Int),c.pub,c.home⟩:KeyD).cells) (q:=1) rfl rfl rfl rfl (fun _=>At.there _ (At.there _ (At.there _ (At.here _)))) (fun w G=>bq G aU rfl rfl 1) ag (by simp only [maxLen];omega) rfl ?_ rfl ?_;(with_reducible rfl);intro A3 c3);apply ab;refine ak ?_);all_goals (refine aa 23 ?_);all_goals (refine aa 24 ?_);all_goals (refine ao 25 ?_;(refine br ?_);apply ab;refine ak ?_);all_goals (refine aI ?_))));rotate_right;(focus (((refine aL ?_);apply ab;refine ak ?_);all_goals ((refine aa 9 ?_);all_goals (refine aa 20 (hy:=by (apply cd (cs:=(⟨((sa.n:Nat):Int),c.pub,c.home⟩:KeyD).cells);rfl;rfl)) ?_);all_goals (refine bS 4 21 (h:=?_) (h':=?_);(focus (((refine aL ?_);apply ab;refine ak ?_);all_goals ((refine ao 21 ?_;(refine bH (size:=3) (vs:=[(⟨((sa.n:Nat):Int),c.pub,c.home⟩:KeyD).v]) (css:=(⟨((sa.n:Nat):Int),c.pub,c.home⟩:KeyD).cells) (hsz:=by rfl) (hcs:=by rfl) fun _=>?_);apply ab;refine ak ?_);all_goals (refine ao 22 ?_;(refine aS (size:=3) (news:=(⟨((sa.n:Nat):Int),c.pub,c.home⟩:KeyD).cells) (q:=1) rfl rfl rfl rfl (fun _=>At.there _ (At.there _ (At.there _ (At.here _)))) (fun w G=>bq G aU rfl rfl 1) ag (by simp only [maxLen];omega) rfl ?_ rfl ?_;(with_reducible rfl);intro A3 c3);apply ab;refine ak ?_);all_goals (refine aa 23 ?_);all_goals (refine aa 24 ?_);all_goals (refine ao 25 ?_;(refine br ?_);apply ab;refine ak ?_);all_goals (refine aI ?_))));rotate_right;(focus (((refine bH (size:=3) (vs:=[(⟨((sa.n:Nat):Int),c.pub,c.home⟩:KeyD).v]) (css:=(⟨((sa.n:Nat):Int),c.pub,c.home⟩:KeyD).cells) (hsz:=by rfl) (hcs:=by rfl) fun _=>?_);apply ab;refine ak ?_);all_goals ((refine ao 4 ?_;(refine aL ?_);apply ab;refine ak ?_);all_goals (refine ao 22 ?_;(refine aS (size:=3) (news:=(⟨((sa.n:Nat):Int),c.pub,c.home⟩:KeyD).cells) (q:=1) rfl rfl rfl rfl (fun _=>At.there _ (At.there _ (At.there _ (At.here _)))) (fun w G=>bq G aU rfl rfl 1) ag (by simp only [maxLen];omega) rfl ?_ rfl ?_;(with_reducible rfl);intro A3 c3);apply ab;refine ak ?_);all_goals (refine aa 23 ?_);all_goals (refine aa 24 ?_);all_goals (refine ao 25 ?_;(refine br ?_);apply ab;refine ak ?_);all_goals (refine aI ?_))))))))))));rotate_right;(focus (((refine aL ?_);apply ab;refine ak ?_);all_goals ((refine aa 9 ?_);all_goals (refine bS 4 14 (h:=?_) (h':=?_);(focus (((refine aL ?_);apply ab;refine ak ?_);all_goals ((refine ao 14 ?_;(refine aL ?_);apply ab;refine ak ?_);all_goals (refine aa 20 (hy:=by (apply cd (cs:=(⟨((sa.n:Nat):Int),c.pub,c.home⟩:KeyD).cells);rfl;rfl)) ?_);all_goals (refine ao 21 ?_;(refine bH (size:=3) (vs:=[(⟨((sa.n:Nat):Int),c.pub,c.home⟩:KeyD).v]) (css:=(⟨((sa.n:Nat):Int),c.pub,c.home⟩:KeyD).cells) (hsz:=by rfl) (hcs:=by rfl) fun _=>?_);apply ab;refine ak ?_);all_goals (refine ao 22 ?_;(refine aS (size:=3) (news:=(⟨((sa.n:Nat):Int),c.pub,c.home⟩:KeyD).cells) (q:=1) rfl rfl rfl rfl (fun _=>At.there _ (At.there _ (At.there _ (At.here _)))) (fun w G=>bq G aU rfl rfl 1) ag (by simp only [maxLen];omega) rfl ?_ rfl ?_;(with_reducible rfl);intro A3 c3);apply ab;refine ak ?_);all_goals (refine aa 23 ?_);all_goals (refine aa 24 ?_);all_goals (refine ao 25 ?_;(refine br ?_);apply ab;refine ak ?_);all_goals (refine aI ?_))));rotate_right;(focus (((refine aL ?_);apply ab;refine ak ?_);all_goals ((refine aa 20 (hy:=by (apply cd (cs:=(⟨((sa.n:Nat):Int),c.pub,c.home⟩:KeyD).cells);rfl;rfl)) ?_);all_goals (refine bS 4 21 (h:=?_) (h':=?_);(focus (((refine aL ?_);apply ab;refine ak ?_);all_goals ((refine ao 21 ?_;(refine bH (size:=3) (vs:=[(⟨((sa.n:Nat):Int),c.pub,c.home⟩:KeyD).v]) (css:=(⟨((sa.n:Nat):Int),c.pub,c.home⟩:KeyD).cells) (hsz:=by rfl) (hcs:=by rfl) fun _=>?_);apply ab;refine ak ?_);all_goals (refine ao 22 ?_;(refine aS (size:=3) (news:=(⟨((sa.n:Nat):Int),c.pub,c.home⟩:KeyD).cells) (q:=1) rfl rfl rfl rfl (fun _=>At.there _ (At.there _ (At.there _ (At.here _)))) (fun w G=>bq G aU rfl rfl 1) ag (by simp only [maxLen];omega) rfl ?_ rfl ?_;(with_reducible rfl);intro A3 c3);apply ab;refine ak ?_);all_goals (refine aa 23 ?_);all_goals (refine aa 24 ?_);all_goals (refine ao 25 ?_;(refine br ?_);apply ab;refine ak ?_);all_goals (refine aI ?_))));rotate_right;(focus (((refine bH (size:=3) (vs:=[(⟨((sa.n:Nat):Int),c.pub,c.home⟩:KeyD).v]) (css:=(⟨((sa.n:Nat):Int),c.pub,c.home⟩:KeyD).cells) (hsz:=by rfl) (hcs:=by rfl) fun _=>?_);apply ab;refine ak ?_);all_goals ((refine ao 4 ?_;(refine aL ?_);apply ab;refine ak ?_);all_goals (refine ao 22 ?_;(refine aS (size:=3) (news:=(⟨((sa.n:Nat):Int),c.pub,c.home⟩:KeyD).cells) (q:=1) rfl rfl rfl rfl (fun _=>At.there _ (At.there _ (At.there _ (At.here _)))) (fun w G=>bq G aU rfl rfl 1) ag (by simp only [maxLen];omega) rfl ?_ rfl ?_;(with_reducible rfl);intro A3 c3);apply ab;refine ak ?_);all_goals (refine aa 23 ?_);all_goals (refine aa 24 ?_);all_goals (refine ao 25 ?_;(refine br ?_);apply ab;refine ak ?_);all_goals (refine aI ?_))))))))))))))));rotate_right;(focus (((refine aL ?_);apply ab;refine ak ?_);all_goals ((refine fI 4 8 19 (h:=?_) (h':=?_) (h'':=?_);(focus (((refine aL ?_);apply ab;refine ak ?_);all_goals ((refine bS 8 19 (h:=?_) (h':=?_);(focus (((refine aL ?_);apply ab;refine ak ?_);all_goals ((refine aa 9 ?_);all_goals (refine ao 19 ?_;(refine aL ?_);apply ab;refine ak ?_);all_goals (refine aa 20 (hy:=by (apply cd (cs:=(⟨((sa.n:Nat):Int),c.pub,c.home⟩:KeyD).cells);rfl;rfl)) ?_);all_goals (refine ao 21 ?_;(refine bH (size:=3) (vs:=[(⟨((sa.n:Nat):Int),c.pub,c.home⟩:KeyD).v]) (css:=(⟨((sa.n:Nat):Int),c.pub,c.home⟩:KeyD).cells) (hsz:=by rfl) (hcs:=by rfl) fun _=>?_);apply ab;refine ak ?_);all_goals (refine ao 22 ?_;(refine aS (size:=3) (news:=(⟨((sa.n:Nat):Int),c.pub,c.home⟩:KeyD).cells) (q:=1) rfl rfl rfl rfl (fun _=>At.there _ (At.there _ (At.there _ (At.here _)))) (fun w G=>bq G aU rfl rfl 1) ag (by simp only [maxLen];omega) rfl ?_ rfl ?_;(with_reducible rfl);intro A3 c3);apply ab;refine ak ?_);all_goals (refine aa 23 ?_);all_goals (refine aa 24 ?_);all_goals (refine ao 25 ?_;(refine br ?_);apply ab;refine ak ?_);all_goals (refine aI ?_))));rotate_right;(focus (((refine aL ?_);apply ab;refine ak ?_);all_goals ((refine ao 8 ?_;(refine aL ?_);apply ab;refine ak ?_);all_goals (refine aa 9 ?_);all_goals (refine aa 20 (hy:=by (apply cd (cs:=(⟨((sa.n:Nat):Int),c.pub,c.home⟩:KeyD).cells);rfl;rfl)) ?_);all_goals (refine ao 21 ?_;(refine bH (size:=3) (vs:=[(⟨((sa.n:Nat):Int),c.pub,c.home⟩:KeyD).v]) (css:=(⟨((sa.n:Nat):Int),c.pub,c.home⟩:KeyD).cells) (hsz:=by rfl) (hcs:=by rfl) fun _=>?_);apply ab;refine ak ?_);all_goals (refine ao 22 ?_;(refine aS (size:=3) (news:=(⟨((sa.n:Nat):Int),c.pub,c.home⟩:KeyD).cells) (q:=1) rfl rfl rfl rfl (fun _=>At.there _ (At.there _ (At.there _ (At.here _)))) (fun w G=>bq G aU rfl rfl 1) ag (by simp only [maxLen];omega) rfl ?_ rfl ?_;(with_reducible rfl);intro A3 c3);apply ab;refine ak ?_);all_goals (refine aa 23 ?_);all_goals (refine aa 24 ?_);all_goals (refine ao 25 ?_;(refine br ?_);apply ab;refine ak ?_);all_goals (refine aI ?_))))))));rotate_right;(focus (((refine aL ?_);apply ab;refine ak ?_);all_goals ((refine bS 4 8 (h:=?_) (h':=?_);(focus (((refine aL ?_);apply ab;refine ak ?_);all_goals ((refine ao 8 ?_;(refine aL ?_);apply ab;refine ak ?_);all_goals (refine aa 9 ?_);all_goals (refine aa 20 (hy:=by (apply cd (cs:=(⟨((sa.n:Nat):Int),c.pub,c.home⟩:KeyD).cells);rfl;rfl)) ?_);all_goals (refine ao 21 ?_;(refine bH (size:=3) (vs:=[(⟨((sa.n:Nat):Int),c.pub,c.home⟩:KeyD).v]) (css:=(⟨((sa.n:Nat):Int),c.pub,c.home⟩:KeyD).cells) (hsz:=by rfl) (hcs:=by rfl) fun _=>?_);apply ab;refine ak ?_);all_goals (refine ao 22 ?_;(refine aS (size:=3) (news:=(⟨((sa.n:Nat):Int),c.pub,c.home⟩:KeyD).cells) (q:=1) rfl rfl rfl rfl (fun _=>At.there _ (At.there _ (At.there _ (At.here _)))) (fun w G=>bq G aU rfl rfl 1) ag (by simp only [maxLen];omega) rfl ?_ rfl ?_;(with_reducible rfl);intro A3 c3);apply ab;refine ak ?_);all_goals (refine aa 23 ?_);all_goals (refine aa 24 ?_);all_goals (refine ao 25 ?_;(refine br ?_);apply ab;refine ak ?_);all_goals (refine aI ?_))));rotate_right;(focus (((refine aL ?_);apply ab;refine ak ?_);all_goals ((refine aa 9 ?_);all_goals (refine aa 20 (hy:=by (apply cd (cs:=(⟨((sa.n:Nat):Int),c.pub,c.home⟩:KeyD).cells);rfl;rfl)) ?_);all_goals (refine bS 4 21 (h:=?_) (h':=?_);(focus (((refine aL ?_);apply ab;refine ak ?_);all_goals ((refine ao 21 ?_;(refine bH (size:=3) (vs:=[(⟨((sa.n:Nat):Int),c.pub,c.home⟩:KeyD).v]) (css:=(⟨((sa.n:Nat):Int),c.pub,c.home⟩:KeyD).cells) (hsz:=by rfl) (hcs:=by rfl) fun _=>?_);apply ab;refine ak ?_);all_goals (refine ao 22 ?_;(refine aS (size:=3) (news:=(⟨((sa.n:Nat):Int),c.pub,c.home⟩:KeyD).cells) (q:=1) rfl rfl rfl rfl (fun _=>At.there _ (At.there _ (At.there _ (At.here _)))) (fun w G=>bq G aU rfl rfl 1) ag (by simp only [maxLen];omega) rfl ?_ rfl ?_;(with_reducible rfl);intro A3 c3);apply ab;refine ak ?_);all_goals (refine aa 23 ?_);all_goals (refine aa 24 ?_);all_goals (refine ao 25 ?_;(refine br ?_);apply ab;refine ak ?_);all_goals (refine aI ?_))));rotate_right;(focus (((refine bH (size:=3) (vs:=[(⟨((sa.n:Nat):Int),c.pub,c.home⟩:KeyD).v]) (css:=(⟨((sa.n:Nat):Int),c.pub,c.home⟩:KeyD).cells) (hsz:=by rfl) (hcs:=by rfl) fun _=>?_);apply ab;refine ak ?_);all_goals ((refine ao 4 ?_;(refine aL ?_);apply ab;refine ak ?_);all_goals (refine ao 22 ?_;(refine aS (size:=3) (news:=(⟨((sa.n:Nat):Int),c.pub,c.home⟩:KeyD).cells) (q:=1) rfl rfl rfl rfl (fun _=>At.there _ (At.there _ (At.there _ (At.here _)))) (fun w G=>bq G aU rfl rfl 1) ag (by simp only [maxLen];omega) rfl ?_ rfl ?_;(with_reducible rfl);intro A3 c3);apply ab;refine ak ?_);all_goals (refine aa 23 ?_);all_goals (refine aa 24 ?_);all_goals (refine ao 25 ?_;(refine br ?_);apply ab;refine ak ?_);all_goals (refine aI ?_))))))))))));rotate_right;(focus (((refine aL ?_);apply ab;refine ak ?_);all_goals ((refine aa 9 ?_);all_goals (refine bS 4 19 (h:=?_) (h':=?_);(focus (((refine aL ?_);apply ab;refine ak ?_);all_goals ((refine ao 19 ?_;(refine aL ?_);apply ab;refine ak ?_);all_goals (refine aa 20 (hy:=by (apply cd (cs:=(⟨((sa.n:Nat):Int),c.pub,c.home⟩:KeyD).cells);rfl;rfl)) ?_);all_goals (refine ao 21 ?_;(refine bH (size:=3) (vs:=[(⟨((sa.n:Nat):Int),c.pub,c.home⟩:KeyD).v]) (css:=(⟨((sa.n:Nat):Int),c.pub,c.home⟩:KeyD).cells) (hsz:=by rfl) (hcs:=by rfl) fun _=>?_);apply ab;refine ak ?_);all_goals (refine ao 22 ?_;(refine aS (size:=3) (news:=(⟨((sa.n:Nat):Int),c.pub,c.home⟩:KeyD).cells) (q:=1) rfl rfl rfl rfl (fun _=>At.there _ (At.there _ (At.there _ (At.here _)))) (fun w G=>bq G aU rfl rfl 1) ag (by simp only [maxLen];omega) rfl ?_ rfl ?_;(with_reducible rfl);intro A3 c3);apply ab;refine ak ?_);all_goals (refine aa 23 ?_);all_goals (refine aa 24 ?_);all_goals (refine ao 25 ?_;(refine br ?_);apply ab;refine ak ?_);all_goals (refine aI ?_))));rotate_right;(focus (((refine aL ?_);apply ab;refine ak ?_);all_goals ((refine aa 20 (hy:=by (apply cd (cs:=(⟨((sa.n:Nat):Int),c.pub,c.home⟩:KeyD).cells);rfl;rfl)) ?_);all_goals (refine bS 4 21 (h:=?_) (h':=?_);(focus (((refine aL ?_);apply ab;refine ak ?_);all_goals ((refine ao 21 ?_;(refine bH (size:=3) (vs:=[(⟨((sa.n:Nat):Int),c.pub,c.home⟩:KeyD).v]) (css:=(⟨((sa.n:Nat):Int),c.pub,c.home⟩:KeyD).cells) (hsz:=by rfl) (hcs:=by rfl) fun _=>?_);apply ab;refine ak ?_);all_goals (refine ao 22 ?_;(refine aS (size:=3) (news:=(⟨((sa.n:Nat):Int),c.pub,c.home⟩:KeyD).cells) (q:=1) rfl rfl rfl rfl (fun _=>At.there _ (At.there _ (At.there _ (At.here _)))) (fun w G=>bq G aU rfl rfl 1) ag (by simp only [maxLen];omega) rfl ?_ rfl ?_;(with_reducible rfl);intro A3 c3);apply ab;refine ak ?_);all_goals (refine aa 23 ?_);all_goals (refine aa 24 ?_);all_goals (refine ao 25 ?_;(refine br ?_);apply ab;refine ak ?_);all_goals (refine aI ?_))));rotate_right;(focus (((refine bH (size:=3) (vs:=[(⟨((sa.n:Nat):Int),c.pub,c.home⟩:KeyD).v]) (css:=(⟨((sa.n:Nat):Int),c.pub,c.home⟩:KeyD).cells) (hsz:=by rfl) (hcs:=by rfl) fun _=>?_);apply ab;refine ak ?_);all_goals ((refine ao 4 ?_;(refine aL ?_);apply ab;refine ak ?_);all_goals (refine ao 22 ?_;(refine aS (size:=3) (news:=(⟨((sa.n:Nat):Int),c.pub,c.home⟩:KeyD).cells) (q:=1) rfl rfl rfl rfl (fun _=>At.there _ (At.there _ (At.there _ (At.here _)))) (fun w G=>bq G aU rfl rfl 1) ag (by simp only [maxLen];omega) rfl ?_ rfl ?_;(with_reducible rfl);intro A3 c3);apply ab;refine ak ?_);all_goals (refine aa 23 ?_);all_goals (refine aa 24 ?_);all_goals (refine ao 25 ?_;(refine br ?_);apply ab;refine ak ?_);all_goals (refine aI ?_))))))))))))))));rotate_right;(focus (((refine aL ?_);apply ab;refine ak ?_);all_goals ((refine aa 9 ?_);all_goals (refine fI 4 14 19 (h:=?_) (h':=?_) (h'':=?_);(focus (((refine aL ?_);apply ab;refine ak ?_);all_goals ((refine bS 14 19 (h:=?_) (h':=?_);(focus (((refine aL ?_);apply ab;refine ak ?_);all_goals ((refine ao 19 ?_;(refine aL ?_);apply ab;refine ak ?_);all_goals (refine aa 20 (hy:=by (apply cd (cs:=(⟨((sa.n:Nat):Int),c.pub,c.home⟩:KeyD).cells);rfl;rfl)) ?_);all_goals (refine ao 21 ?_;(refine bH (size:=3) (vs:=[(⟨((sa.n:Nat):Int),c.pub,c.home⟩:KeyD).v]) (css:=(⟨((sa.n:Nat):Int),c.pub,c.home⟩:KeyD).cells) (hsz:=by rfl) (hcs:=by rfl) fun _=>?_);apply ab;refine ak ?_);all_goals (refine ao 22 ?_;(refine aS (size:=3) (news:=(⟨((sa.n:Nat):Int),c.pub,c.home⟩:KeyD).cells) (q:=1) rfl rfl rfl rfl (fun _=>At.there _ (At.there _ (At.there _ (At.here _)))) (fun w G=>bq G aU rfl rfl 1) ag (by simp only [maxLen];omega) rfl ?_ rfl ?_;(with_reducible rfl);intro A3 c3);apply ab;refine ak ?_);all_goals (refine aa 23 ?_);all_goals (refine aa 24 ?_);all_goals (refine ao 25 ?_;(refine br ?_);apply ab;refine ak ?_);all_goals (refine aI ?_))));rotate_right;(focus (((refine aL ?_);apply ab;refine ak ?_);all_goals ((refine ao 14 ?_;(refine aL ?_);apply ab;refine ak ?_);all_goals (refine aa 20 (hy:=by (apply cd (cs:=(⟨((sa.n:Nat):Int),c.pub,c.home⟩:KeyD).cells);rfl;rfl)) ?_);all_goals (refine ao 21 ?_;(refine bH (size:=3) (vs:=[(⟨((sa.n:Nat):Int),c.pub,c.home⟩:KeyD).v]) (css:=(⟨((sa.n:Nat):Int),c.pub,c.home⟩:KeyD).cells) (hsz:=by rfl) (hcs:=by rfl) fun _=>?_);apply ab;refine ak ?_);all_goals (refine ao 22 ?_;(refine aS (size:=3) (news:=(⟨((sa.n:Nat):Int),c.pub,c.home⟩:KeyD).cells) (q:=1) rfl rfl rfl rfl (fun _=>At.there _ (At.there _ (At.there _ (At.here _)))) (fun w G=>bq G aU rfl rfl 1) ag (by simp only [maxLen];omega) rfl ?_ rfl ?_;(with_reducible rfl);intro A3 c3);apply ab;refine ak ?_);all_goals (refine aa 23 ?_);all_goals (refine aa 24 ?_);all_goals (refine ao 25 ?_;(refine br ?_);apply ab;refine ak ?_);all_goals (refine aI ?_))))))));rotate_right;(focus (((refine aL ?_);apply ab;refine ak ?_);all_goals ((refine bS 4 14 (h:=?_) (h':=?_);(focus (((refine aL ?_);apply ab;refine ak ?_);all_goals ((refine ao 14 ?_;(refine aL ?_);apply ab;refine ak ?_);all_goals (refine aa 20 (hy:=by (apply cd (cs:=(⟨((sa.n:Nat):Int),c.pub,c.home⟩:KeyD).cells);rfl;rfl)) ?_);all_goals (refine ao 21 ?_;(refine bH (size:=3) (vs:=[(⟨((sa.n:Nat):Int),c.pub,c.home⟩:KeyD).v]) (css:=(⟨((sa.n:Nat):Int),c.pub,c.home⟩:KeyD).cells) (hsz:=by rfl) (hcs:=by rfl) fun _=>?_);apply ab;refine ak ?_);all_goals (refine ao 22 ?_;(refine aS (size:=3) (news:=(⟨((sa.n:Nat):Int),c.pub,c.home⟩:KeyD).cells) (q:=1) rfl rfl rfl rfl (fun _=>At.there _ (At.there _ (At.there _ (At.here _)))) (fun w G=>bq G aU rfl rfl 1) ag (by simp only [maxLen];omega) rfl ?_ rfl ?_;(with_reducible rfl);intro A3 c3);apply ab;refine ak ?_);all_goals (refine aa 23 ?_);all_goals (refine aa 24 ?_);all_goals (refine ao 25 ?_;(refine br ?_);apply ab;refine ak ?_);all_goals (refine aI ?_))));rotate_right;(focus (((refine aL ?_);apply ab;refine ak ?_);all_goals ((refine aa 20 (hy:=by (apply cd (cs:=(⟨((sa.n:Nat):Int),c.pub,c.home⟩:KeyD).cells);rfl;rfl)) ?_);all_goals (refine bS 4 21 (h:=?_) (h':=?_);(focus (((refine aL ?_);apply ab;refine ak ?_);all_goals ((refine ao 21 ?_;(refine bH (size:=3) (vs:=[(⟨((sa.n:Nat):Int),c.pub,c.home⟩:KeyD).v]) (css:=(⟨((sa.n:Nat):Int),c.pub,c.home⟩:KeyD).cells) (hsz:=by rfl) (hcs:=by rfl) fun _=>?_);apply ab;refine ak ?_);all_goals (refine ao 22 ?_;(refine aS (size:=3) (news:=(⟨((sa.n:Nat):Int),c.pub,c.home⟩:KeyD).cells) (q:=1) rfl rfl rfl rfl (fun _=>At.there _ (At.there _ (At.there _ (At.here _)))) (fun w G=>bq G aU rfl rfl 1) ag (by simp only [maxLen];omega) rfl ?_ rfl ?_;(with_reducible rfl);intro A3 c3);apply ab;refine ak ?_);all_goals (refine aa 23 ?_);all_goals (refine aa 24 ?_);all_goals (refine ao 25 ?_;(refine br ?_);apply ab;refine ak ?_);all_goals (refine aI ?_))));rotate_right;(focus (((refine bH (size:=3) (vs:=[(⟨((sa.n:Nat):Int),c.pub,c.home⟩:KeyD).v]) (css:=(⟨((sa.n:Nat):Int),c.pub,c.home⟩:KeyD).cells) (hsz:=by rfl) (hcs:=by rfl) fun _=>?_);apply ab;refine ak ?_);all_goals ((refine ao 4 ?_;(refine aL ?_);apply ab;refine ak ?_);all_goals (refine ao 22 ?_;(refine aS (size:=3) (news:=(⟨((sa.n:Nat):Int),c.pub,c.home⟩:KeyD).cells) (q:=1) rfl rfl rfl rfl (fun _=>At.there _ (At.there _ (At.there _ (At.here _)))) (fun w G=>bq G aU rfl rfl 1) ag (by simp only [maxLen];omega) rfl ?_ rfl ?_;(with_reducible rfl);intro A3 c3);apply ab;refine ak ?_);all_goals (refine aa 23 ?_);all_goals (refine aa 24 ?_);all_goals (refine ao 25 ?_;(refine br ?_);apply ab;refine ak ?_);all_goals (refine aI ?_))))))))))));rotate_right;(focus (((refine aL ?_);apply ab;refine ak ?_);all_goals ((refine bS 4 19 (h:=?_) (h':=?_);(focus (((refine aL ?_);apply ab;refine ak ?_);all_goals ((refine ao 19 ?_;(refine aL ?_);apply ab;refine ak ?_);all_goals (refine aa 20 (hy:=by (apply cd (cs:=(⟨((sa.n:Nat):Int),c.pub,c.home⟩:KeyD).cells);rfl;rfl)) ?_);all_goals (refine ao 21 ?_;(refine bH (size:=3) (vs:=[(⟨((sa.n:Nat):Int),c.pub,c.home⟩:KeyD).v]) (css:=(⟨((sa.n:Nat):Int),c.pub,c.home⟩:KeyD).cells) (hsz:=by rfl) (hcs:=by rfl) fun _=>?_);apply ab;refine ak ?_);all_goals (refine ao 22 ?_;(refine aS (size:=3) (news:=(⟨((sa.n:Nat):Int),c.pub,c.home⟩:KeyD).cells) (q:=1) rfl rfl rfl rfl (fun _=>At.there _ (At.there _ (At.there _ (At.here _)))) (fun w G=>bq G aU rfl rfl 1) ag (by simp only [maxLen];omega) rfl ?_ rfl ?_;(with_reducible rfl);intro A3 c3);apply ab;refine ak ?_);all_goals (refine aa 23 ?_);all_goals (refine aa 24 ?_);all_goals (refine ao 25 ?_;(refine br ?_);apply ab;refine ak ?_);all_goals (refine aI ?_))));rotate_right;(focus (((refine aL ?_);apply ab;refine ak ?_);all_goals ((refine aa 20 (hy:=by (apply cd (cs:=(⟨((sa.n:Nat):Int),c.pub,c.home⟩:KeyD).cells);rfl;rfl)) ?_);all_goals (refine bS 4 21 (h:=?_) (h':=?_);(focus (((refine aL ?_);apply ab;refine ak ?_);all_goals ((refine ao 21 ?_;(refine bH (size:=3) (vs:=[(⟨((sa.n:Nat):Int),c.pub,c.home⟩:KeyD).v]) (css:=(⟨((sa.n:Nat):Int),c.pub,c.home⟩:KeyD).cells) (hsz:=by rfl) (hcs:=by rfl) fun _=>?_);apply ab;refine ak ?_);all_goals (refine ao 22 ?_;(refine aS (size:=3) (news:=(⟨((sa.n:Nat):Int),c.pub,c.home⟩:KeyD).cells) (q:=1) rfl rfl rfl rfl (fun _=>At.there _ (At.there _ (At.there _ (At.here _)))) (fun w G=>bq G aU rfl rfl 1) ag (by simp only [maxLen];omega) rfl ?_ rfl ?_;(with_reducible rfl);intro A3 c3);apply ab;refine ak ?_);all_goals (refine aa 23 ?_);all_goals (refine aa 24 ?_);all_goals (refine ao 25 ?_;(refine br ?_);apply ab;refine ak ?_);all_goals (refine aI ?_))));rotate_right;(focus (((refine bH (size:=3) (vs:=[(⟨((sa.n:Nat):Int),c.pub,c.home⟩:KeyD).v]) (css:=(⟨((sa.n:Nat):Int),c.pub,c.home⟩:KeyD).cells) (hsz:=by rfl) (hcs:=by rfl) fun _=>?_);apply ab;refine ak ?_);all_goals ((refine ao 4 ?_;(refine aL ?_);apply ab;refine ak ?_);all_goals (refine ao 22 ?_;(refine aS (size:=3) (news:=(⟨((sa.n:Nat):Int),c.pub,c.home⟩:KeyD).cells) (q:=1) rfl rfl rfl rfl (fun _=>At.there _ (At.there _ (At.there _ (At.here _)))) (fun w G=>bq G aU rfl rfl 1) ag (by simp only [maxLen];omega) rfl ?_ rfl ?_;(with_reducible rfl);intro A3 c3);apply ab;refine ak ?_);all_goals (refine aa 23 ?_);all_goals (refine aa 24 ?_);all_goals (refine ao 25 ?_;(refine br ?_);apply ab;refine ak ?_);all_goals (refine aI ?_)))))))))))))))))
        all_goals exact ⟨(_,_),aF ⟨rfl,rfl,trivial⟩ (List.Sublist.cons _ (aQ _)) fun w h=>h⟩
      obtain ⟨A3,c3⟩:=i
      simp only
      have hlk:=sX b ⟨ks,ki,id,fork,q1,q2,c,true⟩ sa ⟨A3,sk.n+1,c3⟩ ⟨st.acts,st.keys++[(⟨((sa.n:Nat):Int),c.pub,c.home⟩:KeyD)],W.dgC c,st.gen+1⟩ (W.won (st.gen+1)) (fun w=>Y w∧Glob w) hwon
      repeat' (first|apply ab|apply aj|apply ai|refine ae ?_|refine bX ?_|refine aM ?_|refine aL ?_|refine bm (h:=?_)|refine br ?_|(refine bZ (vs:=c.cells) (hv:=rfl) ?_)|(refine aC (hc:=qW c) (hX:=fun _ _=>trivial) ?_)|(refine aC (hc:=hdg) (hX:=fun _ h=>h) ?_)|fail)
      refine dj (pre:=[bldCel b ⟨ks,ki,id,fork,q1,q2,c,true⟩ sa ⟨A3,sk.n+1,c3⟩ (⟨st.acts,st.keys++[(⟨((sa.n:Nat):Int),c.pub,c.home⟩:KeyD)],W.dgC c,st.gen+1⟩:ChS)]) (fr:=[orow 46 20 (.slice sa.p sa.n sa.c) sa.n (st.acts.map ActD.cells).flatten,orow 35 3 (.slice A3 (sk.n+1) c3) (sk.n+1) ((st.keys.map KeyD.cells).flatten++(⟨((sa.n:Nat):Int),c.pub,c.home⟩:KeyD).cells),mapr q2 pl]) (first:=#[]) (caps:=#[]) (hc:=hlk) (hX:=fun _ h=>h) (h:=?_)
      rintro v R X' ⟨rfl,rfl⟩
      repeat' (first|apply ab|apply aj|apply ai|refine ac ?_|apply aA|fail)
      have hfk:((st.keys++[(⟨((sa.n:Nat):Int),c.pub,c.home⟩:KeyD)]).map KeyD.cells).flatten=(st.keys.map KeyD.cells).flatten++(⟨((sa.n:Nat):Int),c.pub,c.home⟩:KeyD).cells:=by simp
      rw [←hn] at hreg
      refine aq (aB rfl rfl) ⟨bldR b ((⟨ks,ki,id,fork,q1,q2,c,true⟩:BldH).look (W.won (st.gen+1))) sa ⟨A3,sk.n+1,c3⟩ (⟨st.acts,st.keys++[(⟨((sa.n:Nat):Int),c.pub,c.home⟩:KeyD)],W.dgC c,st.gen+1⟩:ChS) pl,?_,⟨fun s hs=>?_,fun hs=>?_⟩⟩
      · unfold bldR actR keyR
        rw [hfk]
        exact aQ _
      · rw [hreg,Option.some.injEq] at hs
        subst hs
        exact ⟨rfl,sa,⟨A3,sk.n+1,c3⟩,pl,⟨hn,by rw [List.length_append,←hk];rfl,hp⟩,rfl⟩
      · rw [hreg] at hs
        cases hs
  · have hne:(!decide (a.kind=(19:Int)))=true:=by rw [decide_eq_false hk19];rfl
    repeat' (first|refine ax (dl true rfl rfl (decide_eq_true ag)) rfl rfl rfl ?_|refine ax (kn true rfl rfl hne) rfl aR rfl ?_|apply ab|apply aj|apply ai|refine ae ?_|refine ac ?_|refine bX ?_|refine aM ?_|refine aL ?_|refine aJ ?_|refine cJ (h:=?_)|refine aE ?_|apply ay|apply aw|(refine bf (q:=k*20) ?_)|(refine cT ?_)|(refine ax (eJ (i:=k) (j:=3) (cs:=a.cells) (u:=.int .i64 a.kind) rfl hrow hm1 (fF _) hi1 rfl) rfl rfl rfl ?_)|fail)
    exact ⟨(⟨k,by omega,by rw [hs,setI,haD,decide_eq_false hk19];rfl⟩:SetI st.acts),Nat.lt_succ_self k,aF ⟨rfl,rfl,(by show some (Value.int IntKind.i64 (((k+1:Nat):Int)-1-1))=some (Value.int IntKind.i64 ((k:Int)-1));rw [show ((k+1:Nat):Int)-1-1=(k:Int)-1 from by omega]),trivial⟩ (aQ _) fun _ h=>h⟩
end Go.Proofs.YtfnjklhjngphmaaGreatDoor
namespace Go.Proofs.YtfnjklhjngphmaaGreatDoor
open Go Go.Proofs Sy
structure Grp where
 s:SlV
 l:List ActD
def grpR (g:PosK×Grp):Res:=actR g.2.s g.2.l
theorem pZ {κ β γ:Type} [DecidableEq κ] (f:β→γ):∀ (l:List (κ×β)) (k:κ) (v:β),(dput l k v).map (fun p=>(p.1,f p.2))=dput (l.map fun p=>(p.1,f p.2)) k (f v)
 | [],_,_=>rfl
 | (k',v')::r,k,v=>by
  simp only [dput,List.map_cons,←pZ f r k v]
  cases decide (k=k')<;>rfl
theorem pU {κ β:Type} [DecidableEq κ] (R:κ×β→Res):∀ (G:List (κ×β)) (k:κ),∃ rest:List Res,(∀ g',((dput G k g').map R).Perm (R (k,g')::rest))∧(∀ g,dget G k=some g→(G.map R).Perm (R (k,g)::rest))∧(dget G k=none→rest=G.map R)
 | [],k=>⟨[],fun g'=>List.Perm.refl _,fun g h=>(by cases h),fun _=>rfl⟩
 | (k',v')::r,k=>by
  by_cases e:k=k'
  · subst e
    refine ⟨r.map R,fun g'=>?_,fun g h=>?_,fun h=>?_⟩
    · simp [dput]
    · simp only [dget,decide_true,cond_true,Option.some.injEq] at h
      subst h
      exact List.Perm.refl _
    · simp [dget] at h
  · obtain ⟨rest,h1,h2,h3⟩:=pU R r k
    refine ⟨R (k',v')::rest,fun g'=>?_,fun g h=>?_,fun h=>?_⟩
    · have:=(h1 g').cons (R (k',v'))
      simp only [dput,e,decide_false,cond_false,List.map_cons]
      exact this.trans (List.Perm.swap _ _ _)
    · simp only [dget,e,decide_false,cond_false] at h
      exact ((h2 g h).cons (R (k',v'))).trans (List.Perm.swap _ _ _)
    · simp only [dget,e,decide_false,cond_false] at h
      rw [h3 h]
      rfl
theorem permG {x O:Res} {C rest R:List Res} (h:R.Perm (O::rest)):(x::O::(C++rest)).Perm (x::(C++R)):=((List.perm_middle.symm).trans (h.symm.append_left C)).cons x
theorem permH {c m sm c4:Res} {R:List Res}:([c,m,sm,c4]++R).Perm ((sm::R)++[c,m,c4]):=(List.perm_middle (l₁:=[c,m])).trans (List.Perm.cons sm (List.perm_append_comm (l₁:=[c,m,c4])))
theorem permK {an kb o c m c4:Res}:[an,kb,o,c,m,c4].Perm [c,an,kb,m,o,c4]:=(List.perm_middle (l₁:=[an,kb,o])).trans (.cons _ (.cons _ (.cons _ (.swap _ _ _))))
def grpL (o:Option Grp):List ActD:=(o.map Grp.l).getD []
def grpS (o:Option Grp):SlV:=(o.map Grp.s).getD ⟨none,0,0⟩
structure GrpOk (G:List (PosK×Grp)) (L:List ActD):Prop where
 all:∀ k,grpL (dget G k)=actsFor L k
 len:∀ k g,dget G k=some g→g.s.n=g.l.length
theorem ow (L:List ActD) (a:ActD) (k:PosK):actsFor (L++[a]) k=actsFor L k++(bif decide (k=((a.seq,a.prev):PosK)) then [a] else []):=by
 rw [actsFor,actsFor,List.filter_append]
 congr 1
 obtain ⟨n,p⟩:=k
 by_cases h1:a.seq=n
 · by_cases h2:a.prev=p
   · subst h1;subst h2;simp [List.filter,cG]
   · have hb:seqB a.prev p=false:=by
      cases h:seqB a.prev p with
      | false=>rfl
      | true=>exact absurd (seqB_iff.1 h) h2
     have hne:¬ ((n,p):PosK)=(a.seq,a.prev):=fun e=>h2 (congrArg Prod.snd e).symm
     simp [List.filter,hb,hne]
 · have hne:¬ ((n,p):PosK)=(a.seq,a.prev):=fun e=>h1 (congrArg Prod.fst e).symm
   simp [List.filter,h1,hne]
theorem GrpOk.step {G:List (PosK×Grp)} {L:List ActD} (h:GrpOk G L) (a:ActD) (s':SlV) (hs:s'.n=(grpL (dget G ((a.seq,a.prev):PosK))).length+1) :
  GrpOk (dput G ((a.seq,a.prev):PosK) ⟨s',grpL (dget G ((a.seq,a.prev):PosK))++[a]⟩) (L++[a]):=by
 refine ⟨fun k=>?_,fun k g hg=>?_⟩
 · rw [ow,jr]
   by_cases e:k=((a.seq,a.prev):PosK)
   · subst e
     simp only [decide_true,cond_true]
     rw [←h.all]
     rfl
   · rw [decide_eq_false e,cond_false,cond_false,List.append_nil]
     exact h.all k
 · rw [jr] at hg
   by_cases e:k=((a.seq,a.prev):PosK)
   · subst e
     simp only [decide_true,cond_true,Option.some.injEq] at hg
     subst hg
     rw [List.length_append]
     exact hs
   · rw [decide_eq_false e,cond_false] at hg
     exact h.len k g hg
namespace Sy
section
variable {P:Program} {N:Nat} {av bor:List Nat} {w0:World} {E:Env} {loc:List Res} {X:World→Prop} {K:Exit→St→Prop} {c:Code}
theorem Gam.giveL {w:World}:∀ (L:List Res) {X:World→Prop},Gam av bor w0 (L++loc) X w→Gam av bor w0 loc (fun w=>X w∧∀ r∈L,r.F w) w
  | [],X,G=>G.imp fun _ h=>⟨h,by simp⟩
  | r :: L,X,G=>(Gam.giveL L (Gam.give (r:=r) (loc:=L++loc) G)).imp fun w h=>⟨h.1.1,fun q hq=>by
      rcases List.mem_cons.1 hq with rfl|hq
      · exact h.1.2
      · exact h.2 q hq⟩
theorem xf {ops:Array Oper} {rest:List Oper} {k:St→Prop} (L:List Res) (h:Sw P N av bor w0 ops rest ⟨E,loc,fun w=>X w∧∀ r∈L,r.F w⟩ k):Sw P N av bor w0 ops rest ⟨E,L++loc,X⟩ k:=Sw.mk fun a w ok=>h.run a w (ok.via fun M G=>by
 rw [List.append_assoc] at G
 exact G.giveL L)
theorem yR {b e:Nat} {cs:List Value} (size m:Nat) (hl:cs.length=m*size:=by rfl) (hm:m≤maxLen) (h:Cw P N av bor w0 c ⟨E,orow e size (.slice (some ⟨b,0,none⟩) m m) m cs::loc,X⟩ K):Cw P N av bor w0 c ⟨E,cel b e cs::loc,X⟩ K:=Cw.mk fun a w ok=>h.run a w (ok.via fun M G=>G.orow hl hm)
theorem lY {l:List Res} (hs:loc.Perm l) (h:Cw P N av bor w0 c ⟨E,l,X⟩ K):Cw P N av bor w0 c ⟨E,loc,X⟩ K:=Cw.mk fun a w ok=>h.run a w (ok.via fun M G=>G.perm (hs.append_right M))
end
end Sy
section
variable {N:Nat} {av bor:List Nat} {w0:World} {E:Env} {X:World→Prop} {K:Exit→St→Prop} {c:Code}
theorem CP {G:List (PosK×Grp)} {k:PosK} {rest:List Res} (C:List Res) (h2:∀ g,dget G k=some g→(G.map grpR).Perm (grpR (k,g)::rest)) (h3:dget G k=none→rest=G.map grpR)
  (h:Cw Tryz.prog N av bor w0 c ⟨E,actR (grpS (dget G k)) (grpL (dget G k))::(C++rest),X⟩ K):Cw Tryz.prog N av bor w0 c ⟨E,C++G.map grpR,X⟩ K:=by
 cases hd:dget G k with
 | none =>
  rw [hd,h3 hd] at h
  exact cf 46 20 h
 | some g =>
  rw [hd] at h
  exact lY (((h2 g hd).append_left C).trans List.perm_middle) h
end
theorem AQ {q:Nat} {G:List (PosK×Grp)} {L:List ActD} (h:GrpOk G L) {w:World} (hm:SMapAt Tryz.prog 98 w q (G.map fun g=>(g.1,g.2.s.v))) (hr:∀ r∈G.map grpR,r.F w) (ha:∀ a∈L,a.at_ w) :
  NextD q (G.map fun g=>(g.1,g.2.s)) L w:=by
 refine ⟨by rw [List.map_map];exact hm,fun k=>?_⟩
 rw [gz,←h.all k]
 have hsub:∀ a∈grpL (dget G k),a.at_ w:=fun a h1=>by
  rw [h.all k] at h1
  exact ha a (List.mem_filter.1 h1).1
 cases hd:dget G k with
 | none=>exact ⟨bz w 20,fun a h=>by cases h⟩
 | some g =>
  rw [hd] at hsub
  have hg:=hr (grpR (k,g)) (List.mem_map_of_mem (p3 hd))
  exact eg hg (h.len k g hd) hsub
end Go.Proofs.YtfnjklhjngphmaaGreatDoor
namespace Go.Proofs.YtfnjklhjngphmaaGreatDoor
open Go Go.Proofs Sy
def OfW.at (W:OfW) (L:List ActD):OfW:={ W with L:=L }
def OfRes (W:OfW) (st:ChS) (fork:Bool):Prop:=match oneA (firstL W) with
 | some a=>st=finS W a∧fork=decide (1<(candL W (finS W a)).length)
 | none=>st=⟨[],[],⟨#[]⟩,0⟩∧fork=decide (1<(firstL W).length)
def OfAt19 (W:OfW) (PL:List ActD→Prop) (u:Value) (X:World→Prop):Prop:=∃ (L:List ActD) (sa sk:SlV) (st:ChS) (fork:Bool),PL L∧OfRes (W.at L) st fork∧u=(⟨W.id,sa,sk,st.prev,(st.gen:Nat),fork,st.acts⟩:ChainD).v∧∀ w,X w→Acts w sa st.acts∧Keyz w sk st.keys
structure OfHyp (ks ki:SlV) (W:OfW) (PL:List ActD→Prop) (Y:World→Prop):Prop where
 acts:Mk Tryz.prog 27 #[.agg #[ks.v,ki.v],.string W.id] (fun w=>Y w∧Glob w) (fun u X'=>∃ (s:SlV) (L:List ActD),u=s.v∧PL L∧∀ w,X' w→Acts w s L)
 ok:∀ L,PL L→ActsOk L∧L.length≤100000
 bB:W.B≤100000
 won:∀ g:Nat,g≤W.B→Pu Tryz.prog 60 #[.agg #[ks.v,ki.v],.string W.id,.int .i64 (g:Nat)] (fun w=>Y w∧Glob w) (.tuple #[((W.won g).getD ClaimD.zero).v,.bool (W.won g).isSome])
 bnd:∀ g c,W.won g=some c→g<W.B
 clm:∀ g c,W.won g=some c→∀ p:Int,Pu Tryz.prog 61 #[.int .i64 p,c.v] (fun w=>Y w∧Glob w) (.bool (W.clm p c))
 dg:∀ g c,W.won g=some c→Pu Tryz.prog 15 #[(ofClaimI c).v] (fun w=>Y w∧Glob w) (.string (W.dgC c))
 ver:∀ L,PL L→∀ a∈L,∀ p:Int,Pu Tryz.prog 25 #[.int .i64 p,a.v] (fun w=>a.at_ w∧Glob w) (.bool (W.ver p a))
def chZ (id:ByteArray):List Value:=[.string id,.slice none 0 0,.slice none 0 0,.string ⟨#[]⟩,.int .i64 0,.bool false]
def bldH0 (ks ki:SlV) (id:ByteArray) (q1 q2:Nat):BldH:=⟨ks,ki,id,false,q1,q2,ClaimD.zero,false⟩
structure GroI (L:List ActD) where
 k:Nat
 hk:k≤L.length
 G:List (PosK×Grp)
 hG:GrpOk G (L.take k)
theorem pj {ks ki:SlV} {W:OfW} {PL:List ActD→Prop} {Y:World→Prop} (H:OfHyp ks ki W PL Y) (L:List ActD) (b q1 q2:Nat) (sa sk:SlV) (st:ChS) (pl:List (ByteArray×Value)) (ok:BldOk sa sk st pl)
  (hl:st.acts.length≤1000000) (hl2:st.keys.length≤1000000) :
  Ct Tryz.prog 43 #[.pointer (some ⟨b,0,none⟩)] (bldR b ((bldH0 ks ki W.id q1 q2).look (W.won st.gen)) sa sk st pl) (fun w=>Y w∧Glob w)
   (fun u R _=>(∀ s,regS (W.at L) st=some s→BldAt b ((bldH0 ks ki W.id q1 q2).look (W.won s.gen)) s (.bool true) u R)∧(regS (W.at L) st=none→BldAt b ((bldH0 ks ki W.id q1 q2).look (W.won st.gen)) st (.bool false) u R)):=by
 have hwA:(W.at L).won=W.won:=rfl
 cases hw:W.won st.gen with
 | none =>
  refine (mg b ((bldH0 ks ki W.id q1 q2).look none) sa sk st pl ok rfl _).mono fun v R X' h=>⟨fun s hs=>?_,fun _=>h⟩
  rw [regS,hwA,hw] at hs
  cases hs
 | some c =>
  have hg:=H.bnd _ _ hw
  have hB:=H.bB
  refine (mf b ((bldH0 ks ki W.id q1 q2).look (some c)) sa sk st pl ok (W.at L) c hw rfl rfl Y hl hl2 ag (H.clm _ _ hw) (H.dg _ _ hw) (H.won (st.gen+1) hg)).mono fun v R X' h=>⟨fun s hs=>?_,h.2⟩
  obtain ⟨_,_,_,e,_⟩:=mJ hs
  rw [e]
  exact h.1 s hs
structure RunI (W:OfW) (a:ActD) where
 st:ChS
 sa:SlV
 sk:SlV
 pl:List (ByteArray×Value)
 ok:BldOk sa sk st pl
 inv:InvS W st
 j:Nat
 hj:muS W st≤j
 hr:runS W j st=finS W a
theorem RunI.next {W:OfW} (hB:∀ g c,W.won g=some c→g<W.B) {a:ActD} {st s:ChS} {j:Nat} (hI:InvS W st) (hj:muS W st≤j) (hr:runS W j st=finS W a) (hs:stepS W st=some s):InvS W s∧muS W s<muS W st∧muS W s≤j-1∧runS W (j-1) s=finS W a:=by
 obtain ⟨h1,h2⟩:=xg hB hI hs
 cases j with
 | zero=>omega
 | succ j=>exact ⟨h1,by omega,by rw [Nat.add_sub_cancel];omega,by rw [xn hs] at hr;exact hr⟩
set_option maxHeartbeats 16000000 in
theorem AI (ks ki:SlV) (W:OfW) (PL:List ActD→Prop) (Y:World→Prop) (H:OfHyp ks ki W PL Y) :
  Mk Tryz.prog 10 #[.agg #[ks.v,ki.v],.string W.id] (fun w=>Y w∧Glob w) (OfAt19 W PL):=by
 refine bL (args:=[_,_]) _ Tryz.func10 rfl Tryz.ntmps10 rfl fun av bor w0=>?_
 repeat' (first|refine bV (cs:=chZ W.id) (hf:=by rfl) ?_|apply ab|apply aj|apply ai|refine ae ?_|refine aG ?_|refine aP fun _=>?_|refine aT fun _=>?_|fail)
 refine oM PosK 98 (h:=fun q1=>?_)
 refine eV ByteArray (h:=fun q2=>?_)
 repeat' (first|refine bV (cs:=bldC (bldH0 ks ki W.id q1 q2) ⟨none,0,0⟩ ⟨none,0,0⟩ ⟨#[]⟩ ((0:Nat):Int)) (hf:=by rfl) ?_|apply ab|apply aj|apply ai|refine ae ?_|refine ac ?_|refine aG ?_|refine bg ?_|refine aT fun _=>?_|apply aw|(refine bN (hc:=H.acts) (hX:=fun w h=>h) fun v1 X1 h1=>?_;obtain ⟨s,L,rfl,hPL,hw1⟩:=h1)|fail)
 rename_i b2 b4 b
 refine bt (p:=s.n=L.length∧s.n≤maxLen∧(0<L.length→s.p.isSome=true)) (fun w h=>⟨(hw1 w h.2).len_,(hw1 w h.2).max_,(hw1 w h.2).some_⟩) fun ⟨hsn,hsm,hsp⟩=>?_
 simp only [maxLen] at hsm
 obtain ⟨hok,hL⟩:=H.ok L hPL
 refine be (ι:=GroI L) (fun i=>⟨[(1,.string W.id),(4,.pointer (some ⟨b4,0,none⟩)),(5,.pointer (some ⟨b,0,none⟩)),(21,s.v),(22,.int .i64 (s.n:Nat)),(23,.int .i64 (i.k:Nat))],[cel b 96 (bldC (bldH0 ks ki W.id q1 q2) ⟨none,0,0⟩ ⟨none,0,0⟩ ⟨#[]⟩ ((0:Nat):Int)),mapr q2 ([]:List (ByteArray×Value)),smapr Tryz.prog 98 q1 (i.G.map fun g=>(g.1,g.2.s.v)),cel b4 31 (chZ ⟨#[]⟩)]++i.G.map grpR,fun w=>(Y w∧Glob w)∧X1 w⟩) (fun i=>L.length-i.k) ⟨0,Nat.zero_le _,[],⟨fun _=>rfl,fun _ _ h=>by cases h⟩⟩ ?_ fun i=>?_
 · exact aF ⟨rfl,rfl,rfl,rfl,rfl,rfl,trivial⟩ (.cons_cons _ (.cons_cons _ (.cons_cons _ (.cons_cons _ (List.nil_sublist _))))) fun _ h=>h
 obtain ⟨k,hk,G,hG⟩:=i
 simp only
 repeat' (first|apply ab|apply aj|apply ai|refine ae ?_|refine ac ?_|refine bX ?_|refine aM ?_|refine aL ?_|refine bu ?_|apply ay|apply aw|apply aV|(refine aO (ht:=?_) (hf:=?_);all_goals (intro hx_;first|have:=aY hx_|have:=aZ hx_)))
 · have hlt:k<L.length:=by omega
   have hsp':=hsp ag
   obtain ⟨a,ha⟩:∃ a,L[k]?=some a:=⟨_,List.getElem?_eq_getElem hlt⟩
   have ham:=List.mem_of_getElem? ha
   repeat' (first|apply ab|apply aj|apply ai|refine aM ?_|refine aL ?_|refine aP fun _=>?_|refine aK ?_|(refine bf (q:=k*20) ?_)|(refine bD (cs:=a.cells) (hF:=fun w h=>Acts.get (hw1 w h.2) ha) ?_)|(refine bV (cs:=[.int .i64 a.seq,.string a.prev]) (hf:=by rfl) ?_)|fail)
   rename_i b7 b8
   obtain ⟨rest,hp1,hp2,hp3⟩:=pU grpR G ((a.seq,a.prev):PosK)
   obtain ⟨l,hl⟩:∃ l,grpL (dget G ((a.seq,a.prev):PosK))=l:=⟨_,rfl⟩
   have hns:(grpS (dget G ((a.seq,a.prev):PosK))).n=l.length:=by
    rw [←hl]
    cases hd:dget G ((a.seq,a.prev):PosK) with
    | none=>rfl
    | some g=>exact hG.len _ g hd
   have hll:l.length≤100000:=by
    rw [←hl,hG.all]
    have h1:=List.length_filter_le (fun x:ActD=>decide (x.seq=a.seq)&&seqB x.prev a.prev) (L.take k)
    rw [List.length_take] at h1
    exact Nat.le_trans h1 ag
   have hof:(dget (G.map fun g=>(g.1,g.2.s.v)) ((a.seq,a.prev):PosK)).getD (.slice none 0 0)=(grpS (dget G ((a.seq,a.prev):PosK))).v:=by
    rw [gz (fun g:Grp=>g.s.v)]
    cases dget G ((a.seq,a.prev):PosK)<;>rfl
   have hst:=fun (s':SlV) (h:s'.n=l.length+1)=>hG.step a s' (by rw [hl];exact h)
   rw [hl] at hst
   obtain ⟨⟨A,n,c⟩,hs⟩:∃ s',grpS (dget G ((a.seq,a.prev):PosK))=s':=⟨_,rfl⟩
   rw [hs] at hns hof
   simp only at hns
   refine CP (k:=((a.seq,a.prev):PosK)) (rest:=rest) [cel b8 98 [.int .i64 a.seq,.string a.prev],cel b7 46 a.cells,cel b 96 (bldC (bldH0 ks ki W.id q1 q2) ⟨none,0,0⟩ ⟨none,0,0⟩ ⟨#[]⟩ ((0:Nat):Int)),mapr q2 ([]:List (ByteArray×Value)),smapr Tryz.prog 98 q1 (G.map fun g=>(g.1,g.2.s.v)),cel b4 31 (chZ ⟨#[]⟩)] hp2 hp3 ?_
   rw [hs,hl]
   unfold actR
   simp only [List.cons_append,List.nil_append]
   (refine bo [cel b8 98 [.int .i64 a.seq,.string a.prev],cel b7 46 a.cells,cel b 96 (bldC (bldH0 ks ki W.id q1 q2) ⟨none,0,0⟩ ⟨none,0,0⟩ ⟨#[]⟩ ((0:Nat):Int))] (fun w=>(Y w∧Glob w)∧X1 w) ar ?_)
   all_goals refine aa 0 ?_
   all_goals refine aa 1 ?_
   all_goals refine aa 2 ?_
   all_goals refine aa 3 ?_
   all_goals refine aa 4 ?_
   all_goals refine aa 5 ?_
   all_goals (refine ao 6 ?_;(refine bH (size:=20) (vs:=[a.v]) (css:=a.cells) (hsz:=by rfl) (hcs:=by rfl) fun _=>?_);apply ab;refine ak ?_)
   all_goals (refine ao 7 ?_;(refine nL (κ:=PosK) (kk:=((a.seq,a.prev):PosK)) (z:=.slice none 0 0) (u:=.slice A n c) rfl rfl rfl hof (fun _=>At.there _ (At.there _ (At.there _ (At.there _ (At.there _ (At.there _ (At.here _))))))) rfl rfl rfl (fun _=>?_));apply ab;refine ak ?_)
   all_goals refine aa 8 ?_
   all_goals refine aa 10 ?_
   all_goals (refine ao 9 ?_;(refine aS (size:=20) (news:=a.cells) (q:=1) rfl rfl rfl rfl (fun _=>At.there _ (At.here _)) (fun w G=>bq G aU rfl rfl 1) ag (by simp only [maxLen];omega) rfl ?_ rfl ?_;(with_reducible rfl);intro A2 c2);apply ab;refine ak ?_)
   all_goals (refine ao 11 ?_;(refine ll (κ:=PosK) (kk:=((a.seq,a.prev):PosK)) rfl rfl rfl (At.there _ (At.there _ (At.there _ (At.there _ (At.there _ (At.there _ (At.here _))))))) rfl rfl rfl ?_);apply ab;refine ak ?_)
   all_goals (refine aI ?_)
   all_goals
    have hmp:dput (dput (G.map fun g=>(g.1,g.2.s.v)) ((a.seq,a.prev):PosK) (.slice A n c)) ((a.seq,a.prev):PosK) (.slice A2 (n+1) c2)=(dput G ((a.seq,a.prev):PosK) ⟨⟨A2,n+1,c2⟩,l++[a]⟩).map (fun g=>(g.1,g.2.s.v)):=by
     rw [jo]
     exact (pZ (fun g:Grp=>g.s.v) G ((a.seq,a.prev):PosK) ⟨⟨A2,n+1,c2⟩,l++[a]⟩).symm
    have hfl:((l++[a]).map ActD.cells).flatten=(l.map ActD.cells).flatten++a.cells:=by simp
    rw [hmp,←hfl]
    refine lY (permG (C:=[cel b8 98 [.int .i64 a.seq,.string a.prev],cel b7 46 a.cells,cel b 96 (bldC (bldH0 ks ki W.id q1 q2) ⟨none,0,0⟩ ⟨none,0,0⟩ ⟨#[]⟩ ((0:Nat):Int)),mapr q2 ([]:List (ByteArray×Value)),smapr Tryz.prog 98 q1 ((dput G ((a.seq,a.prev):PosK) ⟨⟨A2,n+1,c2⟩,l++[a]⟩).map (fun g=>(g.1,g.2.s.v))),cel b4 31 (chZ ⟨#[]⟩)]) (hp1 ⟨⟨A2,n+1,c2⟩,l++[a]⟩)) ?_
    repeat' (first|apply ab|apply ai|refine ae ?_|refine bm (h:=?_)|fail)
    exact ⟨(⟨k+1,hlt,dput G ((a.seq,a.prev):PosK) ⟨⟨A2,n+1,c2⟩,l++[a]⟩,by rw [List.take_add_one,ha];exact hst _ (by show n+1=_;rw [hns])⟩:GroI L),(by show L.length-(k+1)<L.length-k;omega),aF ⟨rfl,rfl,rfl,rfl,rfl,rfl,trivial⟩ (.cons _ (.cons _ (.cons _ (aQ _)))) fun w h=>h⟩
 have hkE:k=L.length:=by omega
 rw [hkE,List.take_length] at hG
 refine eu permH ?_
 refine xf _ ?_
 refine dr (X':=fun w=>(Y w∧Glob w)∧(NextD q1 (G.map fun g=>(g.1,g.2.s)) L w∧∀ a∈L,a.at_ w)) (fun w h=>⟨h.1.1,AQ hG (h.2 _ (.head _)) (fun r hr=>h.2 r (.tail _ hr)) (hw1 w h.1.2).2,(hw1 w h.1.2).2⟩) ?_
 clear hsp hsn hk
 obtain ⟨M,hM⟩:∃ M,actsFor L ((0:Int),⟨#[]⟩)=M:=⟨_,rfl⟩
 have hfl:firstL (W.at L)=M.filter (firstB (W.at L)):=by rw [←hM];rfl
 have hMm:∀ a∈M,a∈L:=fun a ha=>by rw [←hM] at ha;exact (List.mem_filter.1 ha).1
 have hMl:M.length≤L.length:=by rw [←hM];exact List.length_filter_le _ _
 obtain ⟨G',hG'⟩:∃ G',(G.map fun g=>(g.1,g.2.s))=G':=⟨_,rfl⟩
 rw [hG']
 obtain ⟨s0,hs0⟩:∃ s0,(dget G' ((0:Int),⟨#[]⟩)).getD ⟨none,0,0⟩=s0:=⟨_,rfl⟩
 have hgl:∃ o,dget (G'.map fun g=>(g.1,g.2.v)) ((0:Int),⟨#[]⟩)=o∧o.getD (.slice none 0 0)=s0.v:=by
  refine ⟨_,rfl,?_⟩
  rw [gz,←hs0]
  cases dget G' ((0:Int),⟨#[]⟩)<;>rfl
 obtain ⟨o,ho,hov⟩:=hgl
 have hro:∀ w,((Y w∧Glob w)∧(NextD q1 G' L w∧∀ a∈L,a.at_ w))→Acts w s0 M:=fun w h=>by
  have h1:=h.2.1.rows ((0:Int),⟨#[]⟩)
  rwa [hs0,hM] at h1
 repeat' (first|apply ab|refine ae ?_|refine bg ?_|apply aw|(refine bV (cs:=[.int .i64 0,.string ⟨#[]⟩]) (hf:=by rfl) ?_)|(refine ax (mn (κ:=PosK) (kk:=((0:Int),⟨#[]⟩)) (z:=.slice none 0 0) (o:=o) (v:=s0.v) rfl rfl (oO fun w h=>h.2.1.map) ho hov) rfl rfl rfl ?_)|fail)
 refine bt (p:=s0.n=M.length∧s0.n≤maxLen∧(0<M.length→s0.p.isSome=true)) (fun w h=>⟨(hro w h).len_,(hro w h).max_,(hro w h).some_⟩) fun ⟨hsn,hsm,hsp⟩=>?_
 simp only [maxLen] at hsm
 refine cf 46 20 ?_
 refine be (ι:=CanI M (firstB (W.at L))) (fun i=>⟨[(1,.string W.id),(4,.pointer (some ⟨b4,0,none⟩)),(5,.pointer (some ⟨b,0,none⟩)),(9,.slice i.A i.n i.c),(49,s0.v),(50,.int .i64 (s0.n:Nat)),(51,.int .i64 (i.k:Nat))],[orow 46 20 (.slice i.A i.n i.c) i.n i.xs,cel b 96 (bldC (bldH0 ks ki W.id q1 q2) ⟨none,0,0⟩ ⟨none,0,0⟩ ⟨#[]⟩ ((0:Nat):Int)),mapr q2 ([]:List (ByteArray×Value)),cel b4 31 (chZ ⟨#[]⟩)],fun w=>(Y w∧Glob w)∧(NextD q1 G' L w∧∀ a∈L,a.at_ w)⟩) (fun i=>M.length-i.k) ⟨0,Nat.zero_le _,none,0,0,rfl,[],rfl⟩ (aF ⟨rfl,rfl,rfl,rfl,rfl,rfl,rfl,trivial⟩ (aQ _) fun _ h=>h) fun i=>?_
 clear hkE this
 obtain ⟨k,hk',A,cc,n,hn',xs,hxs⟩:=i
 simp only
 have hnl:n≤100000:=by have h1:=List.length_filter_le (firstB (W.at L)) (M.take k);rw [←hn',List.length_take] at h1;omega
 repeat' (first|apply ab|apply aj|apply ai|refine ae ?_|refine bX ?_|refine aM ?_|refine cZ ?_|refine bu ?_|refine cP ?_|refine bg ?_|refine br ?_|apply ay|apply aw|apply aV|(refine aO (ht:=?_) (hf:=?_);all_goals (intro hx_;first|have:=aY hx_|have:=aZ hx_|skip)))
 · have hlt:k<M.length:=by omega
   have hsp':=hsp ag
   obtain ⟨a,ha⟩:∃ a,M[k]?=some a:=⟨_,List.getElem?_eq_getElem hlt⟩
   have ham:a∈M:=List.mem_of_getElem? ha
   have hamL:=hMm a ham
   have hnn:a.n<9223372036854775808:=(hok.rng a hamL).ints.2.2.2.2.2.1
   have hv:=H.ver L hPL a hamL a.n
   have htk:((M.take (k+1)).filter (firstB (W.at L)))=(M.take k).filter (firstB (W.at L))++(bif firstB (W.at L) a then [a] else []):=by
    rw [List.take_add_one,ha,List.filter_append,Option.toList_some]
    congr 1
   have hfb:firstB (W.at L) a=(decide (a.kind=0)&&seqB (idV a.n) W.id&&W.ver a.n a):=rfl
   by_cases h0:a.kind=0
   · cases hid:seqB (idV a.n) W.id with
     | false =>
      have hno:(M.take (k+1)).filter (firstB (W.at L))=(M.take k).filter (firstB (W.at L)):=by simp [htk,hfb,hid]
      repeat' (first|refine bM (hab:=h0) ?_|refine ax (dv _ rfl rfl hid) rfl aR rfl ?_|apply ab|apply aj|apply ai|refine ae ?_|refine aM ?_|refine aL ?_|refine aJ ?_|refine aH ?_|refine bm (h:=?_)|refine aW ?_|refine aP fun _=>?_|refine aK ?_|refine aD ?_|apply ay|(refine bf (q:=k*20) ?_)|(refine bD (cs:=a.cells) (hF:=fun w h=>Acts.get (hro w h) ha) ?_)|(refine aC (hc:=gd a.n hnn) (hX:=fun w h=>h.1.2) ?_)|fail)
      exact ⟨(⟨k+1,hlt,A,cc,n,by rw [hno];exact hn',xs,by rw [hno];exact hxs⟩:CanI M (firstB (W.at L))),(by show M.length-(k+1)<M.length-k;omega),aF ⟨rfl,rfl,rfl,rfl,rfl,rfl,rfl,trivial⟩ (List.Sublist.cons _ (aQ _)) fun _ h=>h⟩
     | true =>
      cases hve:W.ver a.n a with
      | false =>
       rw [hve] at hv
       have hno:(M.take (k+1)).filter (firstB (W.at L))=(M.take k).filter (firstB (W.at L)):=by simp [htk,hfb,hve]
       repeat' (first|refine bM (hab:=h0) ?_|refine ax (dv _ rfl rfl hid) rfl aR rfl ?_|apply ab|apply aj|apply ai|refine ae ?_|refine aM ?_|refine aL ?_|refine aG ?_|refine aJ ?_|refine bm (h:=?_)|refine aP fun _=>?_|refine aK ?_|refine aD ?_|apply ay|(refine bf (q:=k*20) ?_)|(refine bD (cs:=a.cells) (hF:=fun w h=>Acts.get (hro w h) ha) ?_)|(refine aC (hc:=gd a.n hnn) (hX:=fun w h=>h.1.2) ?_)|(refine aC (hc:=hv) (hX:=fun w h=>⟨h.2.2 a hamL,h.1.2⟩) ?_)|fail)
       exact ⟨(⟨k+1,hlt,A,cc,n,by rw [hno];exact hn',xs,by rw [hno];exact hxs⟩:CanI M (firstB (W.at L))),(by show M.length-(k+1)<M.length-k;omega),aF ⟨rfl,rfl,rfl,rfl,rfl,rfl,rfl,trivial⟩ (List.Sublist.cons _ (aQ _)) fun _ h=>h⟩
      | true =>
       rw [hve] at hv
       have hyes:(M.take (k+1)).filter (firstB (W.at L))=(M.take k).filter (firstB (W.at L))++[a]:=by rw [htk,hfb,hid,hve,decide_eq_true h0];rfl
       repeat' (first|refine bH (size:=20) (vs:=[a.v]) (css:=a.cells) (hsz:=by rfl) (hcs:=by rfl) fun _=>?_|refine bM (hab:=h0) ?_|refine ax (dv _ rfl rfl hid) rfl aR rfl ?_|apply ab|apply aj|apply ai|refine ae ?_|refine aM ?_|refine aL ?_|refine aG ?_|refine aJ ?_|refine aP fun _=>?_|refine aK ?_|refine aE ?_|(refine bf (q:=k*20) ?_)|(refine bD (cs:=a.cells) (hF:=fun w h=>Acts.get (hro w h) ha) ?_)|(refine aC (hc:=gd a.n hnn) (hX:=fun w h=>h.1.2) ?_)|(refine aC (hc:=hv) (hX:=fun w h=>⟨h.2.2 a hamL,h.1.2⟩) ?_)|fail)
       refine aS (size:=20) (news:=a.cells) (q:=1) rfl rfl rfl rfl (fun _=>At.there _ (At.there _ (At.here _))) (fun w G=>bq G aU rfl rfl 1) ag (by simp only [maxLen];omega) rfl ?_ rfl ?_
       · (with_reducible rfl)
       intro A2 c2
       repeat' (first|apply ab|apply ai|refine ae ?_|refine ac ?_|refine bm (h:=?_)|fail)
       exact ⟨(⟨k+1,hlt,A2,c2,n+1,by rw [hyes,List.length_append,←hn'];rfl,xs++a.cells,by rw [hyes,hxs];simp⟩:CanI M (firstB (W.at L))),(by show M.length-(k+1)<M.length-k;omega),aF ⟨rfl,rfl,rfl,rfl,rfl,rfl,rfl,trivial⟩ (List.Sublist.cons _ (List.Sublist.cons _ (aQ _))) fun _ h=>h⟩
   · have hno:(M.take (k+1)).filter (firstB (W.at L))=(M.take k).filter (firstB (W.at L)):=by simp [htk,hfb,h0]
     repeat' (first|refine bQ (hab:=h0) ?_|apply ab|apply aj|apply ai|refine ae ?_|refine aM ?_|refine aL ?_|refine aH ?_|refine bm (h:=?_)|refine aW ?_|refine aP fun _=>?_|refine aK ?_|refine aD ?_|apply ay|(refine bf (q:=k*20) ?_)|(refine bD (cs:=a.cells) (hF:=fun w h=>Acts.get (hro w h) ha) ?_)|fail)
     exact ⟨(⟨k+1,hlt,A,cc,n,by rw [hno];exact hn',xs,by rw [hno];exact hxs⟩:CanI M (firstB (W.at L))),(by show M.length-(k+1)<M.length-k;omega),aF ⟨rfl,rfl,rfl,rfl,rfl,rfl,rfl,trivial⟩ (List.Sublist.cons _ (aQ _)) fun _ h=>h⟩
 have hkE:k=M.length:=by omega
 have hfin:firstL (W.at L)=(M.take k).filter (firstB (W.at L)):=by rw [hfl,hkE,List.take_length]
 have hnc:n=(firstL (W.at L)).length:=by rw [hfin];exact hn'
 · have hn1:n≠1:=by
    intro e
    rw [e] at hx_
    exact absurd hx_ (by decide)
   have hone:oneA (firstL (W.at L))=none:=mT ag
   have hdc:decide ((1:Int)<(n:Int))=decide (1<(firstL (W.at L)).length):=by
    rw [←hnc]
    by_cases h1:1<n
    · rw [decide_eq_true h1,decide_eq_true (by omega)]
    · rw [decide_eq_false h1,decide_eq_false (by omega)]
   repeat' (first|apply ab|refine aK ?_|apply aA|(refine bZ (vs:=[.string W.id,.slice none 0 0,.slice none 0 0,.string ⟨#[]⟩,.int .i64 0,.bool (decide ((1:Int)<(n:Int)))]) (hv:=rfl) ?_)|fail)
   exact aq (bT rfl rfl bF (by rfl)) ⟨L,⟨none,0,0⟩,⟨none,0,0⟩,⟨[],[],⟨#[]⟩,0⟩,decide ((1:Int)<(n:Int)),hPL,(by rw [OfRes,hone];exact ⟨rfl,hdc⟩),rfl,fun w h=>⟨⟨bz w 20,fun a h=>by cases h⟩,bz w 3⟩⟩
 have hkE:k=M.length:=by omega
 have hfin:firstL (W.at L)=(M.take k).filter (firstB (W.at L)):=by rw [hfl,hkE,List.take_length]
 have hnc:n=(firstL (W.at L)).length:=by rw [hfin];exact hn'
 have hn1:n=1:=by
  by_cases e:n=1
  · exact e
  · exact absurd hx_ (by simp;omega)
 obtain ⟨a,ha⟩:∃ a,firstL (W.at L)=[a]:=List.length_eq_one_iff.1 ag
 have ham:a∈firstL (W.at L):=by rw [ha];exact List.mem_singleton.2 rfl
 have hamL:a∈L:=hMm a (by rw [hfl] at ham;exact (List.mem_filter.1 ham).1)
 have hxa:xs=a.cells:=by rw [hxs,←hfin,ha];simp
 subst hxa
 subst hn1
 refine de (r:=orow 46 20 (.slice A 1 cc) 1 a.cells) bF (p:=A.isSome=true) (fun w h=>cR h (by decide)) fun hAp=>?_
 have hcr:orow 46 20 (.slice A 1 cc) 1 a.cells∈[orow 46 20 (.slice A 1 cc) 1 a.cells]:=.head _
 (refine bo [orow 46 20 (.slice A 1 cc) 1 a.cells] (fun w=>(Y w∧Glob w)∧(NextD q1 G' L w∧∀ a∈L,a.at_ w)) ar ?_)
 all_goals refine aa 0 ?_
 all_goals refine aa 1 ?_
 all_goals (refine aa 2 (hy:=by (apply bp (q:=0);rfl;rfl;omega;omega;assumption;rfl)) ?_)
 all_goals (refine aa 3 (hy:=by (apply cw;rfl;assumption;rfl)) ?_)
 all_goals (refine aa 4 (hy:=by (apply eJ (size:=20) (i:=0) (j:=16) (xs:=[a.cells]) (cs:=a.cells) (u:=.int .i64 a.n);rfl;exact .head _;rfl;exact (fun r hr=>by rw [List.mem_singleton.1 hr];rfl);rfl;rfl)) ?_)
 all_goals refine aa 5 ?_
 all_goals (refine aa 6 (hy:=by (apply bp (q:=0);rfl;rfl;omega;omega;assumption;rfl)) ?_)
 all_goals (refine aa 7 (hy:=by (apply cw;rfl;assumption;rfl)) ?_)
 all_goals (refine aa 8 (hy:=by (apply eJ (size:=20) (i:=0) (j:=17) (xs:=[a.cells]) (cs:=a.cells) (u:=.int .i64 a.m);rfl;exact .head _;rfl;exact (fun r hr=>by rw [List.mem_singleton.1 hr];rfl);rfl;rfl)) ?_)
 all_goals (refine aa 9 (hy:=by (apply cd (cs:=KeyD.cells ⟨0,a.n,a.m⟩);rfl;rfl)) ?_)
 all_goals (refine ao 10 ?_;(refine bH (size:=3) (vs:=[KeyD.v ⟨0,a.n,a.m⟩]) (css:=KeyD.cells ⟨0,a.n,a.m⟩) (hsz:=by rfl) (hcs:=by rfl) fun bk=>?_);apply ab;refine ak ?_)
 all_goals refine aa 11 ?_
 all_goals refine aa 12 ?_
 all_goals refine aa 13 ?_
 all_goals (refine ao 14 ?_;(refine br ?_);apply ab;refine ak ?_)
 all_goals (refine aI ?_)
 refine yR 3 1 rfl (by decide) ?_
 refine cf 46 20 ?_
 refine lY permK ?_
 have hadd:=yY b (bldH0 ks ki W.id q1 q2) ⟨none,0,0⟩ ⟨some ⟨bk,0,none⟩,1,1⟩ (⟨[],[⟨0,a.n,a.m⟩],⟨#[]⟩,0⟩:ChS) [] ⟨rfl,rfl,fun d=>rfl⟩ a (hok.rng a hamL) (hok.sm a hamL) (by simp) (by simp)
 repeat' (first|apply aj|apply ai|refine ae ?_|(refine bf (q:=0) ?_)|(refine ax (iV (size:=20) (m:=1) (i:=0) (xs:=[a.cells]) (cs:=a.cells) rfl (.tail _ (.tail _ (.tail _ (.tail _ (.head _))))) rfl (fun r hr=>by rw [List.mem_singleton.1 hr];rfl) rfl) rfl rfl rfl ?_)|fail)
 refine dj (pre:=bldR b (bldH0 ks ki W.id q1 q2) ⟨none,0,0⟩ ⟨some ⟨bk,0,none⟩,1,1⟩ (⟨[],[⟨0,a.n,a.m⟩],⟨#[]⟩,0⟩:ChS) []) (fr:=[orow 46 20 (.slice A 1 cc) 1 a.cells,cel b4 31 (chZ ⟨#[]⟩)]) (first:=#[]) (caps:=#[]) (hc:=hadd) (hX:=fun w h=>⟨h.2.2 a hamL,h.1.2⟩) (h:=?_)
 rintro v R X' ⟨rfl,sa,sk,pl,ok,rfl⟩
 refine dr (X':=fun w=>(Y w∧Glob w)∧(NextD q1 G' L w∧∀ a∈L,a.at_ w)) (fun w h=>h.1) ?_
 repeat' (first|apply ab|apply aj|apply ai|refine ae ?_|fail)
 have hlook:=sX b (bldH0 ks ki W.id q1 q2) sa sk (begS a) (W.won 0) (fun w=>Y w∧Glob w) (H.won 0 (Nat.zero_le _))
 refine dj (pre:=[bldCel b (bldH0 ks ki W.id q1 q2) sa sk (begS a)]) (fr:=[actR sa (begS a).acts,keyR sk (begS a).keys,mapr q2 pl,orow 46 20 (.slice A 1 cc) 1 a.cells,cel b4 31 (chZ ⟨#[]⟩)]) (first:=#[]) (caps:=#[]) (hc:=hlook) (hX:=fun w h=>h.1) (h:=?_)
 rintro v R X' ⟨rfl,rfl⟩
 repeat' (first|apply ab|apply aj|apply aw|fail)
 have hbI:=Bx ham
 refine be (ι:=RunI (W.at L) a) (fun i=>⟨[(4,.pointer (some ⟨b4,0,none⟩)),(5,.pointer (some ⟨b,0,none⟩))],bldR b ((bldH0 ks ki W.id q1 q2).look (W.won i.st.gen)) i.sa i.sk i.st i.pl++[cel b4 31 (chZ ⟨#[]⟩)],fun w=>(Y w∧Glob w)∧(NextD q1 G' L w∧∀ a∈L,a.at_ w)⟩) (fun i=>muS (W.at L) i.st) ⟨begS a,sa,sk,pl,ok,hbI.1,L.length+W.B,Nat.le_of_succ_le hbI.2,rfl⟩ (aF ⟨rfl,rfl,trivial⟩ (.cons_cons _ (.cons_cons _ (.cons_cons _ (.cons_cons _ (.cons _ (aQ _)))))) fun w h=>h.1) fun i=>?_
 clear ok hlook hadd
 obtain ⟨st,sa2,sk2,pl2,ok2,inv,j,hj,hr⟩:=i
 simp only
 have hlen:=inv.len
 have hlen':st.acts.length≤L.length:=hlen
 have hkn:=inv.keyn
 have hgn:st.gen≤W.B:=inv.gen
 have hbB:=H.bB
 have hreg:=pj H L b q1 q2 sa2 sk2 st pl2 ok2 ag ag
 repeat' (first|apply aj|apply ai|refine ae ?_|fail)
 refine dj (pre:=bldR b ((bldH0 ks ki W.id q1 q2).look (W.won st.gen)) sa2 sk2 st pl2) (fr:=[cel b4 31 (chZ ⟨#[]⟩)]) (first:=#[]) (caps:=#[]) (hc:=hreg) (hX:=fun w h=>h.1) (h:=?_)
 rintro v R X' ⟨h1,h2⟩
 refine dr (X':=fun w=>(Y w∧Glob w)∧(NextD q1 G' L w∧∀ a∈L,a.at_ w)) (fun w h=>h.1) ?_
 cases hrg:regS (W.at L) st with
 | some s1 =>
  obtain ⟨rfl,sa3,sk3,pl3,ok3,rfl⟩:=h1 s1 hrg
  have hstep:stepS (W.at L) st=some s1:=by rw [stepS,hrg]
  obtain ⟨n1,n2,n3,n4⟩:=RunI.next (W:=W.at L) H.bnd inv hj hr hstep
  repeat' (first|apply ab|refine ae ?_|refine aJ ?_|refine bI ?_|refine aE ?_|apply ay|apply aw|fail)
  exact ⟨(⟨s1,sa3,sk3,pl3,ok3,n1,j-1,n3,n4⟩:RunI (W.at L) a),n2,aF ⟨rfl,rfl,trivial⟩ (aQ _) fun w h=>h⟩
 | none =>
  obtain ⟨rfl,sa3,sk3,pl3,ok3,rfl⟩:=h2 hrg
  have hct:=ot b ((bldH0 ks ki W.id q1 q2).look (W.won st.gen)) sa3 sk3 st pl3 ok3 (W.at L) G' inv rfl hok hL H.bB (H.ver L hPL)
  repeat' (first|refine ae ?_|fail)
  refine dj (pre:=bldR b ((bldH0 ks ki W.id q1 q2).look (W.won st.gen)) sa3 sk3 st pl3) (fr:=[cel b4 31 (chZ ⟨#[]⟩)]) (first:=#[]) (caps:=#[]) (hc:=hct) (hX:=fun w h=>⟨h.2,h.1.2⟩) (h:=?_)
  rintro v R X' ⟨g1,g2⟩
  refine dr (X':=fun w=>(Y w∧Glob w)∧(NextD q1 G' L w∧∀ a∈L,a.at_ w)) (fun w h=>h.1) ?_
  cases ho2:oneA (candL (W.at L) st) with
  | some a2 =>
   obtain ⟨rfl,sa4,sk4,pl4,ok4,rfl⟩:=g1 a2 ho2
   have hstep:stepS (W.at L) st=some (addS st a2):=by rw [stepS,hrg,ho2];rfl
   obtain ⟨n1,n2,n3,n4⟩:=RunI.next (W:=W.at L) H.bnd inv hj hr hstep
   repeat' (first|apply ab|refine aH ?_|refine aE ?_|apply ay|apply aw|fail)
   exact ⟨(⟨addS st a2,sa4,sk4,pl4,ok4,n1,j-1,n3,n4⟩:RunI (W.at L) a),n2,aF ⟨rfl,rfl,trivial⟩ (aQ _) fun w h=>h⟩
  | none =>
   obtain ⟨rfl,sa4,sk4,pl4,ok4,rfl⟩:=g2 ho2
   have hstep:stepS (W.at L) st=none:=by rw [stepS,hrg,ho2];rfl
   rw [oS hstep] at hr
   repeat' (first|apply ab|apply aj|apply ai|refine ae ?_|refine bX ?_|refine aM ?_|refine aH ?_|refine aK ?_|refine aD ?_|apply aA|apply aV|(refine bZ (vs:=[.string W.id,.slice sa4.p sa4.n sa4.c,.slice sk4.p sk4.n sk4.c,.string st.prev,.int .i64 (st.gen:Nat),.bool (decide (1<(candL (W.at L) st).length))]) (hv:=rfl) ?_)|fail)
   refine aq (bT rfl rfl bF (by rfl)) ⟨L,sa4,sk4,st,decide (1<(candL (W.at L) st).length),hPL,?_,rfl,fun w h=>⟨?_,?_⟩⟩
   · rw [OfRes,show oneA (firstL (W.at L))=some a from by rw [ha];rfl]
     exact ⟨hr,by rw [←hr]⟩
   · exact eg (h.2 (actR sa4 st.acts) (.tail _ (.head _))) ok4.hn fun x hx=>h.1.2.2 x (inv.mem x hx)
   · exact bJ (h.2 (keyR sk4 st.keys) (.tail _ (.tail _ (.head _)))) (by rw [List.length_map];exact ok4.hk) (m8 _)
theorem qw (s:Value) (a:ActD) (hR:rightB a=true):Pu Tryz.prog 54 #[s,(ofActI a).v] (fun w=>(ofActI a).at_ w∧Glob w) (.bool true):=by
 refine aN (args:=[_,_]) _ Tryz.func54 rfl Tryz.ntmps54 rfl fun av bor w0=>?_
 have hri:=eN a
 rw [hR] at hri
 repeat' (first|apply ab|apply aj|apply ai|refine ac ?_|refine aM ?_|refine aL ?_|refine aG ?_|refine bE ?_|refine bR ?_|refine aT fun _=>?_|refine aD ?_|apply ay|apply aw|apply aA|(refine aC (hc:=hri) (hX:=fun _ h=>h.1.1) ?_)|(refine aO (ht:=?_) (hf:=?_);all_goals (intro hx_;first|have:=aY hx_|have:=aZ hx_)))
 all_goals first
  | exact aq (aB rfl rfl) rfl
  | exact absurd (show (0:Int)=2 from by assumption) (by decide)
  | exact absurd (show (0:Int)=3 from by assumption) (by decide)
theorem rt:Pu Tryz.prog 52 #[.slice none 0 0] (fun _=>True) (.slice none 0 0):=by
 refine aN (args:=[_]) _ Tryz.func52 rfl Tryz.ntmps52 rfl fun av bor w0=>?_
 repeat' (first|refine lc ?_|apply ab|apply aj|apply ai|refine ae ?_|refine ac ?_|refine ca fun _=>?_|apply ay|apply aA|(refine aO (ht:=?_) (hf:=?_);all_goals (intro hx_;skip)))
 all_goals first
  | exact aq (aB rfl rfl) rfl
  | exact absurd hx_ (by decide)
theorem sU:Pu Tryz.prog 18 #[.slice none 0 0] (fun _=>True) (.agg #[.slice none 0 0,.slice none 0 0]):=by
 refine aN (args:=[_]) _ Tryz.func18 rfl Tryz.ntmps18 rfl fun av bor w0=>?_
 repeat' (first|apply ab|apply aj|apply ai|refine ae ?_|refine aP fun _=>?_|refine aK ?_|apply aA|(refine aC (hc:=rt) (hX:=fun _ _=>trivial) ?_)|(refine bV (cs:=[.slice none 0 0,.slice none 0 0]) (hf:=by rfl) ?_)|fail)
 exact aq (bT rfl rfl bF (by rfl)) rfl
structure FndC where
 rank:Int
 dg:ByteArray
 a:ClaimD
def FndC.cells (f:FndC):List Value:=.int .i64 f.rank::.string f.dg::f.a.cells
def fndRC (s:SlV) (P:List FndC):Res:=orow 268 11 (.slice s.p s.n s.c) s.n (P.map FndC.cells).flatten
theorem yE (P:List FndC):∀ r∈P.map FndC.cells,r.length=11:=fun r hr=>by
 obtain ⟨c,_,rfl⟩:=List.mem_map.1 hr
 rfl
def cmpC:Value:=.func (.func 251) #[] #[]
def PermC (s:SlV) (P:List FndC) (u:Value) (R:List Res) (X:World→Prop):Prop:=u=.tuple #[]∧∃ Q:List FndC,Q.Perm P∧R=[fndRC s Q]
def SortC (n:Nat):Prop:=∀ (s:SlV) (P:List FndC),s.n=P.length→P.length≤n→Ct Tryz.prog 250 #[s.v,cmpC] [fndRC s P] (fun _=>True) (PermC s P)
theorem yx (s:SlV) (P:List FndC) (hs:s.n=P.length) (h1:P.length≤1):Ct Tryz.prog 327 #[s.v,.int .i64 0,.int .i64 (s.n:Nat),cmpC] [fndRC s P] (fun _=>True) (PermC s P):=by
 refine cB (args:=[_,_,_,_]) _ Tryz.func327 rfl Tryz.ntmps327 rfl fun av bor w0=>?_
 repeat' (first|apply ab|apply aj|apply ai|refine ae ?_|refine ac ?_|refine bm (h:=?_)|apply aw|fail)
 refine be (ι:=Unit) (fun _=>⟨[(2,.int .i64 (s.n:Nat)),(8,.int .i64 1)],[fndRC s P],fun _=>True⟩) (fun _=>0) () (aF ⟨rfl,rfl,trivial⟩ (aQ _) fun _ h=>h) fun _=>?_
 repeat' (first|apply ab|apply aj|apply ai|refine ae ?_|refine ac ?_|refine bu ?_|apply ay|apply aw|apply aV|(refine aO (ht:=?_) (hf:=?_);all_goals (intro hx_;first|have:=aY hx_|have:=aZ hx_)))
 all_goals first
  | (exfalso;omega)
  | exact cb (bP rfl) ⟨rfl,P,List.Perm.refl _,rfl⟩
theorem uy (s:SlV) (P:List FndC) (hs:s.n=P.length) (h1:P.length≤1):Ct Tryz.prog 292 #[s.v,.int .i64 (s.n:Nat),cmpC] [fndRC s P] (fun _=>True) (PermC s P):=by
 refine cB (args:=[_,_,_]) _ Tryz.func292 rfl Tryz.ntmps292 rfl fun av bor w0=>?_
 repeat' (first|apply ab|apply aj|apply ai|refine ae ?_|refine ac ?_|apply aw|fail)
 refine be (ι:=Unit) (fun _=>⟨[(0,s.v),(1,.int .i64 (s.n:Nat)),(2,cmpC),(6,.int .i64 20),(7,.int .i64 0),(8,.int .i64 20)],[fndRC s P],fun _=>True⟩) (fun _=>0) () (aF ⟨rfl,rfl,rfl,rfl,rfl,rfl,trivial⟩ (aQ _) fun _ h=>h) fun _=>?_
 repeat' (first|apply ab|apply aj|apply ai|refine ae ?_|refine cF ?_|apply ay|apply aw|apply aV|(refine aO (ht:=?_) (hf:=?_);all_goals (intro hx_;first|have:=aY hx_|have:=aZ hx_)))
 · exfalso;omega
 refine dj (pre:=[fndRC s P]) (fr:=[]) (first:=#[]) (caps:=#[]) (hc:=yx s P hs h1) (hX:=fun _ _=>trivial) (h:=?_)
 rintro v R X' ⟨rfl,Q,hQ,rfl⟩
 repeat' (first|apply ab|apply aw|fail)
 refine be (ι:=Unit) (fun _=>⟨[(1,.int .i64 (s.n:Nat)),(6,.int .i64 20)],[fndRC s Q],fun _=>True⟩) (fun _=>0) () (aF ⟨rfl,rfl,trivial⟩ (aQ _) fun _ h=>trivial) fun _=>?_
 repeat' (first|apply ab|apply aj|apply ai|refine ae ?_|refine ac ?_|refine bu ?_|apply ay|apply aw|apply aV|refine dw (h:=?_)|(refine aO (ht:=?_) (hf:=?_);all_goals (intro hx_;first|have:=aY hx_|have:=aZ hx_)))
 · exfalso;omega
 exact cb (bP rfl) ⟨rfl,Q,hQ,rfl⟩
theorem uA:SortC 1:=fun s P hs h1=>by
 refine cB (args:=[_,_]) _ Tryz.func250 rfl Tryz.ntmps250 rfl fun av bor w0=>?_
 repeat' (first|apply ai|refine ae ?_|refine bg ?_|fail)
 refine dj (pre:=[fndRC s P]) (fr:=[]) (first:=#[]) (caps:=#[]) (hc:=uy s P hs h1) (hX:=fun _ _=>trivial) (h:=?_)
 rintro v R X' ⟨rfl,Q,hQ,rfl⟩
 repeat' (first|apply ab|fail)
 exact cb (bP rfl) ⟨rfl,Q,hQ,rfl⟩
def Claims (w:World) (s:SlV) (l:List ClaimD):Prop:=RowsD w 9 s (l.map ClaimD.cells)
theorem p5 (l:List ClaimD):∀ r∈l.map ClaimD.cells,r.length=9:=fun r hr=>by
 obtain ⟨c,_,rfl⟩:=List.mem_map.1 hr
 rfl
def wantC (au:ByteArray) (it:ItemD):Bool:=decide (it.kind=1)&&seqB it.claim.actor au
theorem vP (bW:Nat) (au:ByteArray) (it:ItemD):Pu Tryz.prog 172 #[it.v,.pointer (some ⟨bW,0,none⟩)] (CelD bW [.string au]) (.tuple #[it.claim.v,.int .i64 0,.bool (wantC au it)]):=by
 refine aN (args:=[_,_]) _ Tryz.func172 rfl Tryz.ntmps172 rfl fun av bor w0=>?_
 repeat' (first|apply ab|apply aj|apply ai|refine ac ?_|refine aP fun _=>?_|refine aT fun _=>?_|fail)
 rename_i b2 b3
 by_cases h0:it.kind=1
 · (refine bo [cel b2 57 it.cells] (CelD bW [.string au]) ar ?_)
   all_goals refine aa 0 ?_
   all_goals (refine aa 1 (hy:=by (apply dE (vs:=it.claim.cells);rfl;exact .head _;rfl;rfl)) ?_)
   all_goals refine aa 2 ?_
   all_goals refine aa 3 ?_
   all_goals (refine aa 4 (hy:=by (apply dS true;rfl;rfl;exact decide_eq_true h0)) ?_)
   all_goals refine aa 5 ?_
   all_goals refine aa 6 ?_
   all_goals refine aa 7 ?_
   all_goals refine aa 8 ?_
   all_goals (refine aa 9 (hy:=by (apply iW;rfl;exact (fun w h=>h 0 _ rfl))) ?_)
   all_goals refine aa 10 ?_
   all_goals refine aa 11 ?_
   all_goals (refine ao 12 ?_;(refine aK ?_);apply ab;refine ak ?_)
   all_goals refine aa 13 ?_
   all_goals refine aa 14 ?_
   all_goals (refine aI ?_)
   all_goals
    repeat' (first|apply aA|fail)
    exact aq (eK rfl rfl rfl rfl (.head _) rfl) (by rw [wantC,decide_eq_true h0];rfl)
 · (refine bo [cel b2 57 it.cells] (CelD bW [.string au]) ar ?_)
   all_goals refine aa 0 ?_
   all_goals (refine aa 1 (hy:=by (apply dE (vs:=it.claim.cells);rfl;exact .head _;rfl;rfl)) ?_)
   all_goals refine aa 2 ?_
   all_goals refine aa 3 ?_
   all_goals (refine aa 4 (hy:=by (apply dS false;rfl;rfl;exact decide_eq_false h0)) ?_)
   all_goals refine aa 5 ?_
   all_goals refine aX 6 ?_
   all_goals refine aX 7 ?_
   all_goals refine aX 8 ?_
   all_goals refine aX 9 ?_
   all_goals refine aX 10 ?_
   all_goals refine aa 11 ?_
   all_goals (refine ao 12 ?_;(refine aK ?_);apply ab;refine ak ?_)
   all_goals refine aa 13 ?_
   all_goals refine aa 14 ?_
   all_goals (refine aI ?_)
   all_goals
    repeat' (first|apply aA|fail)
    exact aq (eK rfl rfl rfl rfl (.head _) rfl) (by rw [wantC,decide_eq_false h0];rfl)
def fndOfC (dI:ItemD→ByteArray) (it:ItemD):FndC:=⟨0,dI it,it.claim⟩
def selBC (au:ByteArray) (rI:ItemD→Bool) (it:ItemD):Bool:=wantC au it&&rI it
def selFC (au:ByteArray) (rI:ItemD→Bool) (dI:ItemD→ByteArray) (I:List ItemD):List FndC:=(I.filter (selBC au rI)).map (fndOfC dI)
def selC (au:ByteArray) (rI:ItemD→Bool) (I:List ItemD):List ClaimD:=(I.filter (selBC au rI)).map ItemD.claim
theorem Ad (au:ByteArray) (rI:ItemD→Bool) (dI:ItemD→ByteArray) (I:List ItemD):(selFC au rI dI I).map FndC.a=selC au rI I:=by rw [selFC,selC,List.map_map];rfl
structure PikIC (I:List ItemD) (au:ByteArray) (rI:ItemD→Bool) (dI:ItemD→ByteArray) where
 k:Nat
 hk:k≤I.length
 A:Option Addr
 c:Nat
 n:Nat
 hn:n=(selFC au rI dI (I.take k)).length
 xs:List Value
 hxs:xs=((selFC au rI dI (I.take k)).map FndC.cells).flatten
structure ValIC (Q:List FndC) where
 k:Nat
 hk:k≤Q.length
 A:Option Addr
 c:Nat
 xs:List Value
 hxs:xs=((Q.take k).map fun f=>f.a.cells).flatten
def wantVC (bW:Nat):Value:=.func (.func 172) #[] #[.pointer (some ⟨bW,0,none⟩)]
set_option maxHeartbeats 16000000 in
theorem xF (ks ki:SlV) (I:List ItemD) (bW:Nat) (au:ByteArray) (rI:ItemD→Bool) (dI:ItemD→ByteArray)
  (hR:∀ it∈I,Pu Tryz.prog 53 #[it.v] (fun w=>it.at_ w) (.bool (rI it)))
  (hD:∀ it∈I,Pu Tryz.prog 15 #[it.v] (fun w=>it.at_ w∧Glob w) (.string (dI it)))
  (hI:I.length≤1000) (hsort:SortC I.length) :
  Mk Tryz.prog 171 #[.agg #[ks.v,ki.v],wantVC bW] (fun w=>(Items w ki I∧CelD bW [.string au] w)∧Glob w)
   (fun u X'=>∃ (s:SlV) (L:List ClaimD),u=s.v∧L.Perm (selC au rI I)∧∀ w,X' w→Claims w s L):=by
 refine bL (args:=[_,_]) _ Tryz.func171 rfl Tryz.ntmps171 rfl fun av bor w0=>?_
 refine bt (p:=ki.n=I.length∧ki.n≤maxLen∧(0<I.length→ki.p.isSome=true)) (fun w h=>⟨h.1.1.len_,h.1.1.max_,h.1.1.some_⟩) fun ⟨hkn,hkm,hkp⟩=>?_
 simp only [maxLen] at hkm
 repeat' (first|apply ab|apply aj|apply ai|refine ae ?_|refine ac ?_|refine aM ?_|refine aL ?_|refine bg ?_|refine aT fun _=>?_|apply aw|fail)
 rename_i b2
 refine cf 268 11 ?_
 refine be (ι:=PikIC I au rI dI) (fun i=>⟨[(1,wantVC bW),(5,.slice i.A i.n i.c),(15,ki.v),(16,.int .i64 (ki.n:Nat)),(17,.int .i64 (i.k:Nat))],[orow 268 11 (.slice i.A i.n i.c) i.n i.xs],fun w=>(Items w ki I∧CelD bW [.string au] w)∧Glob w⟩) (fun i=>I.length-i.k) ⟨0,Nat.zero_le _,none,0,0,rfl,[],rfl⟩ (aF ⟨rfl,rfl,rfl,rfl,rfl,trivial⟩ (.cons_cons _ (List.nil_sublist _)) fun _ h=>h) fun i=>?_
 obtain ⟨k,hk,A,c,n,hn,xs,hxs⟩:=i
 simp only
 repeat' (first|apply ab|apply aj|apply ai|refine ae ?_|refine bu ?_|apply ay|apply aw|apply aV|(refine aO (ht:=?_) (hf:=?_);all_goals (intro hx_;first|have:=aY hx_|have:=aZ hx_)))
 · have hlt:k<I.length:=by omega
   have hkp':=hkp ag
   obtain ⟨it,hit⟩:∃ it,I[k]?=some it:=⟨_,List.getElem?_eq_getElem hlt⟩
   have him:=List.mem_of_getElem? hit
   have hnl:n≤1000:=by
    rw [hn,selFC,List.length_map]
    exact Nat.le_trans (List.length_filter_le _ _) (by rw [List.length_take];omega)
   repeat' (first|apply ab|apply aj|apply ai|refine ae ?_|refine aG ?_|refine aP fun _=>?_|refine aK ?_|(refine bf (q:=k*49) ?_)|(refine bD (cs:=it.cells) (hF:=fun w h=>h.1.1.get hit) ?_)|fail)
   rename_i b7
   have hri:=hR it him
   have hdi:=hD it him
   have hwa:=vP bW au it
   have htk:selFC au rI dI (I.take (k+1))=selFC au rI dI (I.take k)++(bif selBC au rI it then [fndOfC dI it] else []):=by
    rw [selFC,selFC,List.take_add_one,hit,List.filter_append,List.map_append,Option.toList_some]
    congr 1
    cases hb:selBC au rI it with
    | true=>simp [hb]
    | false=>simp [hb]
   cases hwt:wantC au it with
   | false =>
    rw [hwt] at hwa
    have hno:selFC au rI dI (I.take (k+1))=selFC au rI dI (I.take k):=by rw [htk,selBC,hwt];exact List.append_nil _
    refine fR (args:=[it.v]) (all:=[it.v,.pointer (some ⟨bW,0,none⟩)]) (first:=#[]) (caps:=#[.pointer (some ⟨bW,0,none⟩)]) (hx:=rfl) (ha:=rfl) (hall:=rfl) (hc:=hwa) (hX:=fun w h=>h.1.2) (h:=?_)
    repeat' (first|apply ab|apply aj|apply ai|refine ae ?_|refine ac ?_|refine aH ?_|refine bC ?_|refine bm (h:=?_)|refine aW ?_|refine aP fun _=>?_|refine aK ?_|refine aD ?_|apply ay|fail)
    exact ⟨(⟨k+1,hlt,A,c,n,by rw [hno];exact hn,xs,by rw [hno];exact hxs⟩:PikIC I au rI dI),(by show I.length-(k+1)<I.length-k;omega),aF ⟨rfl,rfl,rfl,rfl,rfl,trivial⟩ (.cons _ (.cons _ (aQ _))) fun _ h=>h⟩
   | true =>
    rw [hwt] at hwa
    cases hrt:rI it with
    | false =>
     rw [hrt] at hri
     have hno:selFC au rI dI (I.take (k+1))=selFC au rI dI (I.take k):=by rw [htk,selBC,hwt,hrt];exact List.append_nil _
     refine fR (args:=[it.v]) (all:=[it.v,.pointer (some ⟨bW,0,none⟩)]) (first:=#[]) (caps:=#[.pointer (some ⟨bW,0,none⟩)]) (hx:=rfl) (ha:=rfl) (hall:=rfl) (hc:=hwa) (hX:=fun w h=>h.1.2) (h:=?_)
     repeat' (first|apply ab|apply aj|apply ai|refine ae ?_|refine ac ?_|refine aG ?_|refine aJ ?_|refine bC ?_|refine bm (h:=?_)|refine aP fun _=>?_|refine aK ?_|refine aD ?_|apply ay|(refine aC (hc:=hri) (hX:=fun w h=>h.1.1.2 it him) ?_)|fail)
     exact ⟨(⟨k+1,hlt,A,c,n,by rw [hno];exact hn,xs,by rw [hno];exact hxs⟩:PikIC I au rI dI),(by show I.length-(k+1)<I.length-k;omega),aF ⟨rfl,rfl,rfl,rfl,rfl,trivial⟩ (.cons _ (.cons _ (aQ _))) fun _ h=>h⟩
    | true =>
     rw [hrt] at hri
     have hyes:selFC au rI dI (I.take (k+1))=selFC au rI dI (I.take k)++[fndOfC dI it]:=by rw [htk,selBC,hwt,hrt];rfl
     refine fR (args:=[it.v]) (all:=[it.v,.pointer (some ⟨bW,0,none⟩)]) (first:=#[]) (caps:=#[.pointer (some ⟨bW,0,none⟩)]) (hx:=rfl) (ha:=rfl) (hall:=rfl) (hc:=hwa) (hX:=fun w h=>h.1.2) (h:=?_)
     repeat' (first|apply ab|apply aj|apply ai|refine ae ?_|refine ac ?_|refine aG ?_|refine aJ ?_|refine bC ?_|refine aP fun _=>?_|refine aK ?_|refine aE ?_|(refine aC (hc:=hri) (hX:=fun w h=>h.1.1.2 it him) ?_)|fail)
     rename_i b8
     (refine bo [cel b8 51 it.claim.cells,cel b7 57 it.cells] (fun w=>(Items w ki I∧CelD bW [.string au] w)∧Glob w) ar ?_)
     all_goals refine aa 0 ?_
     all_goals refine aa 1 ?_
     all_goals refine aa 2 ?_
     all_goals refine aa 4 ?_
     all_goals (refine ao 3 ?_;(refine aC (hc:=hdi) (hX:=fun w h=>⟨h.1.1.2 it him,h.2⟩) ?_);apply ab;refine ak ?_)
     all_goals (refine aa 5 (hy:=by (apply cd (cs:=(fndOfC dI it).cells);rfl;rfl)) ?_)
     all_goals (refine ao 6 ?_;(refine bH (size:=11) (vs:=[.agg (fndOfC dI it).cells.toArray]) (css:=(fndOfC dI it).cells) (hsz:=by rfl) (hcs:=by rfl) fun _=>?_);apply ab;refine ak ?_)
     all_goals (refine ao 7 ?_;(refine aS (size:=11) (news:=(fndOfC dI it).cells) (q:=1) rfl rfl rfl rfl (fun _=>At.there _ (At.there _ (At.there _ (At.here _)))) (fun w G=>bq G aU rfl rfl 1) ag (by simp only [maxLen];omega) rfl ?_ rfl ?_;(with_reducible rfl);intro A2 c2);apply ab;refine ak ?_)
     all_goals refine aa 8 ?_
     all_goals (refine aI ?_)
     all_goals
      repeat' (first|apply ab|apply ai|refine ae ?_|refine bm (h:=?_)|fail)
      exact ⟨(⟨k+1,hlt,A2,c2,n+1,by rw [hyes,List.length_append,←hn];rfl,xs++(fndOfC dI it).cells,by rw [hyes,hxs];simp⟩:PikIC I au rI dI),(by show I.length-(k+1)<I.length-k;omega),aF ⟨rfl,rfl,rfl,rfl,rfl,trivial⟩ (.cons _ (.cons _ (.cons _ (aQ _)))) fun _ h=>h⟩
 have hkE:k=I.length:=by omega
 rw [hkE,List.take_length] at hn hxs
 obtain ⟨P,hP⟩:∃ P,selFC au rI dI I=P:=⟨_,rfl⟩
 rw [hP] at hn hxs
 have hPl:P.length≤I.length:=by rw [←hP,selFC,List.length_map];exact List.length_filter_le _ _
 subst hxs
 refine dj (pre:=[fndRC ⟨A,n,c⟩ P]) (fr:=[]) (first:=#[]) (caps:=#[]) (hc:=hsort ⟨A,n,c⟩ P hn hPl) (hX:=fun _ _=>trivial) (h:=?_)
 rintro v R X' ⟨rfl,Q,hQ,rfl⟩
 have hQl:Q.length=n:=hQ.length_eq.trans hn.symm
 have hnI:n≤1000:=by omega
 refine dr (X':=fun w=>(Items w ki I∧CelD bW [.string au] w)∧Glob w) (fun w h=>h.1) ?_
 repeat' (first|apply ab|apply aj|apply ai|refine ae ?_|refine ac ?_|refine bg ?_|apply aw|(refine ik (c:=n) (hm:=Nat.ble_eq_true_of_le ag) (hm2:=Nat.ble_eq_true_of_le ag) fun bv=>?_)|fail)
 refine de (r:=fndRC ⟨A,n,c⟩ Q) bF (p:=0<n→A.isSome=true) (fun w h h0=>cR h h0) fun hAp=>?_
 refine be (ι:=ValIC Q) (fun i=>⟨[(11,.slice i.A i.k i.c),(47,.slice A n c),(48,.int .i64 (n:Nat)),(49,.int .i64 (i.k:Nat))],[orow 51 9 (.slice i.A i.k i.c) i.k i.xs,fndRC ⟨A,n,c⟩ Q],fun w=>(Items w ki I∧CelD bW [.string au] w)∧Glob w⟩) (fun i=>Q.length-i.k) ⟨0,Nat.zero_le _,_,_,[],rfl⟩ (aF ⟨rfl,rfl,rfl,rfl,trivial⟩ (aQ _) fun _ h=>h) fun i=>?_
 obtain ⟨k2,hk2,A2,c2,xs2,hxs2⟩:=i
 simp only
 repeat' (first|apply ab|apply aj|apply ai|refine ae ?_|refine ac ?_|refine bu ?_|apply ay|apply aw|apply aA|apply aV|(refine aO (ht:=?_) (hf:=?_);all_goals (intro hx_;first|have:=aY hx_|have:=aZ hx_)))
 · have hlt:k2<Q.length:=by omega
   have hAp':=hAp ag
   obtain ⟨f,hf⟩:∃ f,Q[k2]?=some f:=⟨_,List.getElem?_eq_getElem hlt⟩
   repeat' (first|refine bH (size:=9) (vs:=[f.a.v]) (css:=f.a.cells) (hsz:=by rfl) (hcs:=by rfl) fun _=>?_|apply ab|apply ai|refine ae ?_|refine aM ?_|refine aP fun _=>?_|refine aK ?_|(refine bf (q:=k2*11) ?_)|(refine ax (iV (size:=11) (m:=n) (i:=k2) (xs:=Q.map FndC.cells) (cs:=f.cells) rfl (.tail _ (.head _)) (by rw [List.length_map];exact hQl.symm) (yE Q) (by simp [hf])) rfl rfl rfl ?_)|(refine bZ (vs:=f.a.cells) (hv:=rfl) ?_)|fail)
   refine aS (size:=9) (news:=f.a.cells) (q:=1) rfl rfl rfl rfl (fun _=>At.there _ (At.there _ (At.here _))) (fun w G=>bq G aU rfl rfl 1) ag (by simp only [maxLen];omega) rfl ?_ rfl ?_
   · (with_reducible rfl)
   intro A3 c3
   repeat' (first|apply ab|apply ai|refine ae ?_|refine ac ?_|refine bm (h:=?_)|fail)
   exact ⟨(⟨k2+1,hlt,A3,c3,xs2++f.a.cells,by rw [List.take_add_one,hf,hxs2];simp⟩:ValIC Q),(by show Q.length-(k2+1)<Q.length-k2;omega),aF ⟨rfl,rfl,rfl,rfl,trivial⟩ (.cons _ (.cons _ (aQ _))) fun _ h=>h⟩
 have hk2E:k2=Q.length:=by omega
 rw [hk2E,List.take_length] at hxs2
 have hLp:(Q.map FndC.a).Perm (selC au rI I):=by rw [←Ad au rI dI I,hP];exact hQ.map _
 refine aq (aB rfl rfl) ⟨⟨A2,k2,c2⟩,Q.map FndC.a,rfl,hLp,fun w h=>?_⟩
 have hr:=h.2 (orow 51 9 (.slice A2 k2 c2) k2 xs2) (.head _)
 exact bJ (xs:=(Q.map FndC.a).map ClaimD.cells) (by rw [List.map_map];rw [hxs2] at hr;exact hr) (by rw [List.length_map,List.length_map];exact hk2E) (p5 _)
theorem lK (ks ki:SlV) (I:List ItemD) (au:ByteArray) (rI:ItemD→Bool) (dI:ItemD→ByteArray)
  (hR:∀ it∈I,Pu Tryz.prog 53 #[it.v] (fun w=>it.at_ w) (.bool (rI it)))
  (hD:∀ it∈I,Pu Tryz.prog 15 #[it.v] (fun w=>it.at_ w∧Glob w) (.string (dI it)))
  (hI:I.length≤1000) (hsort:SortC I.length) :
  Mk Tryz.prog 101 #[.agg #[ks.v,ki.v],.string au] (fun w=>Items w ki I∧Glob w)
   (fun u X'=>∃ (s:SlV) (L:List ClaimD),u=s.v∧L.Perm (selC au rI I)∧∀ w,X' w→Claims w s L):=by
 refine bL (args:=[_,_]) _ Tryz.func101 rfl Tryz.ntmps101 rfl fun av bor w0=>?_
 repeat' (first|apply ab|apply aj|apply ai|refine ac ?_|refine aG ?_|refine aT fun _=>?_|(refine eA ?_)|fail)
 rename_i b2 b3
 refine dX ?_
 refine bN (hc:=xF ks ki I b3 au rI dI hR hD hI hsort) (hX:=fun w h=>⟨⟨h.1.1,ke h.2⟩,h.1.2⟩) fun v X1 h1=>?_
 obtain ⟨s,L,rfl,hL,hw⟩:=h1
 repeat' (first|apply ab|refine ac ?_|apply aA|fail)
 exact aq (aB rfl rfl) ⟨s,L,rfl,hL,fun w h=>hw w h.1.2⟩
theorem qQ:Pu Tryz.prog 100 #[.int .i64 0] (fun _=>True) (.int .i64 1):=by
 refine aN (args:=[_]) _ Tryz.func100 rfl Tryz.ntmps100 rfl fun av bor w0=>?_
 repeat' (first|apply ab|apply aj|apply ai|refine ae ?_|refine ac ?_|refine cF ?_|apply ay|apply aA|(refine aO (ht:=?_) (hf:=?_);all_goals (intro hx_;first|have:=aY hx_|have:=aZ hx_)))
 · exact aq (aB rfl rfl) rfl
 · exact absurd this (by decide)
theorem qo (ki:SlV) (I:List ItemD) (id:ByteArray) (g:Int) (rI:ItemD→Bool) (dI:ItemD→ByteArray)
  (hR:∀ it∈I,Pu Tryz.prog 53 #[it.v] (fun w=>it.at_ w) (.bool (rI it)))
  (hD:∀ it∈I,Pu Tryz.prog 15 #[it.v] (fun w=>it.at_ w∧Glob w) (.string (dI it)))
  (hI:I.length≤1000) (hsort:SortC I.length) (hno:selC id rI I=[]) :
  Pu Tryz.prog 60 #[.agg #[.slice none 0 0,ki.v],.string id,.int .i64 g] (fun w=>Items w ki I∧Glob w) (.tuple #[ClaimD.zero.v,.bool false]):=by
 refine aN (args:=[_,_,_]) _ Tryz.func60 rfl Tryz.ntmps60 rfl fun av bor w0=>?_
 have hcl:=lK ⟨none,0,0⟩ ki I id rI dI hR hD hI hsort
 repeat' (first|apply ab|apply aj|apply ai|refine ae ?_|refine ac ?_|refine aM ?_|refine aL ?_|refine aG ?_|refine bg ?_|refine aP fun _=>?_|refine aT fun _=>?_|apply aw|(refine aC (hc:=qQ) (hX:=fun _ _=>trivial) ?_)|(refine bN (hc:=hcl) (hX:=fun w h=>h) fun v1 X1 h1=>?_;obtain ⟨s,L,rfl,hL,hw⟩:=h1)|fail)
 rename_i b3 b6
 obtain rfl:L=[]:=by rw [hno] at hL;exact List.Perm.eq_nil hL
 refine bt (p:=s.n=0) (fun w h=>by have h1:=RowsD.len (hw w h.2);simpa using h1) fun hs0=>?_
 refine be (ι:=Unit) (fun _=>⟨[(6,.pointer (some ⟨b6,0,none⟩)),(19,.int .i64 (s.n:Nat)),(20,.int .i64 0)],[cel b6 51 ClaimD.zero.cells],fun w=>True⟩) (fun _=>0) () (aF ⟨rfl,rfl,rfl,trivial⟩ (.cons_cons _ (List.nil_sublist _)) fun _ _=>trivial) fun _=>?_
 repeat' (first|apply ab|apply aj|apply ai|refine ac ?_|refine bu ?_|refine aK ?_|apply ay|apply aw|apply aA|apply aV|(refine bV (cs:=ClaimD.zero.cells) (hf:=by rfl) ?_)|(refine aO (ht:=?_) (hf:=?_);all_goals (intro hx_;first|have:=aY hx_|have:=aZ hx_)))
 · exfalso;omega
 exact aq (cN rfl rfl rfl bF (by rfl)) rfl
theorem iB {P:Program} {f:FuncId} {args:Array Value} {X:World→Prop} {Φ Ψ:Value→(World→Prop)→Prop} (h:Mk P f args X Φ) (hp:∀ u X',Φ u X'→Ψ u X'):Mk P f args X Ψ:=by
 unfold Mk at *
 exact Ct.mono h fun v R X' ⟨a,b⟩=>⟨hp _ _ a,b⟩
def rI0 (it:ItemD):Bool:=rightB it.act
def dI0 (it:ItemD):ByteArray:=digV it.act
theorem rightI0 (a:ActD):Pu Tryz.prog 53 #[(ofActI a).v] (fun w=>(ofActI a).at_ w) (.bool (rI0 (ofActI a))):=sE (eN a) fun w h=>h.1
theorem digI0 (a:ActD) (hr:a.Rng):Pu Tryz.prog 15 #[(ofActI a).v] (fun w=>(ofActI a).at_ w∧Glob w) (.string (dI0 (ofActI a))):=sE (fE a hr) fun w h=>⟨h.1.1,h.2⟩
def oneW (id:ByteArray):OfW:=⟨[],id,fun _=>none,fun _ _=>false,fun _=>⟨#[]⟩,verV,0⟩
structure BegOk (a:ActD):Prop where
 rng:a.Rng
 sm:a.Sm
 right:rightB a=true
 kind:a.kind=0
 seq:a.seq=0
 prev:a.prev=⟨#[]⟩
 id:idV a.n=a.author
 ver:verV a.n a=true
theorem oneHyp (ki:SlV) (a:ActD) (h:BegOk a):OfHyp ⟨none,0,0⟩ ki (oneW a.author) (fun L=>L=[a]) (fun w=>Items w ki [ofActI a]) where
 acts:=by
  have hm:=oa ⟨none,0,0⟩ ki [ofActI a] a.author rI0 dI0 (fun it hit=>by rw [List.mem_singleton.1 hit];exact rightI0 a) (fun it hit=>by rw [List.mem_singleton.1 hit];exact digI0 a h.rng) (show (1:Nat)≤1000 by decide) uB
  refine iB hm fun u X' hu=>?_
  obtain ⟨s,L,h1,h2,h3⟩:=hu
  have hsel:selA a.author rI0 [ofActI a]=[a]:=by
   have:selB a.author rI0 (ofActI a)=true:=by
    show ((decide ((0:Int)=0)&&seqB a.author a.author)&&rightB a)=true
    rw [cG,h.right]
    rfl
   rw [selA,List.filter_cons,if_pos this,List.filter_nil]
   rfl
  rw [hsel] at h2
  exact ⟨s,L,h1,List.perm_singleton.1 h2,h3⟩
 ok:=fun L hL=>by
  subst hL
  exact ⟨⟨fun x hx=>by rw [List.mem_singleton.1 hx];exact h.rng,fun x hx=>by rw [List.mem_singleton.1 hx];exact h.sm⟩,show (1:Nat)≤100000 by decide⟩
 bB:=Nat.zero_le _
 won:=fun g _=>by
  have hno:selC a.author rI0 [ofActI a]=[]:=by
   have:selBC a.author rI0 (ofActI a)=false:=rfl
   rw [selC,List.filter_cons,this]
   rfl
  exact qo ki [ofActI a] a.author (g:Nat) rI0 dI0 (fun it hit=>by rw [List.mem_singleton.1 hit];exact rightI0 a) (fun it hit=>by rw [List.mem_singleton.1 hit];exact digI0 a h.rng) (show (1:Nat)≤1000 by decide) uA hno
 bnd:=fun g c hc=>by cases hc
 clm:=fun g c hc=>by cases hc
 dg:=fun g c hc=>by cases hc
 ver:=fun L hL x hx p=>by
  subst hL
  rw [List.mem_singleton.1 hx]
  exact ox p a h.rng
theorem ya (ki:SlV) (a:ActD) (h:BegOk a):Mk Tryz.prog 10 #[.agg #[.slice none 0 0,ki.v],.string a.author] (fun w=>Items w ki [ofActI a]∧Glob w)
  (fun u X'=>∃ sa sk:SlV,u=(⟨a.author,sa,sk,digV a,0,false,[a]⟩:ChainD).v∧∀ w,X' w→Acts w sa [a]∧Keyz w sk [⟨0,a.n,a.m⟩]):=by
 refine iB (AI ⟨none,0,0⟩ ki (oneW a.author) _ _ (oneHyp ki a h)) fun u X' hu=>?_
 obtain ⟨L,sa,sk,st,fork,hL,hres,h1,h2⟩:=hu
 subst hL
 have hpos:posB 0 ⟨#[]⟩ a=true:=by rw [posB,h.seq,h.prev,cG];rfl
 have hfirst:firstB ((oneW a.author).at [a]) a=true:=by
  show (decide (a.kind=0)&&seqB (idV a.n) a.author&&verV a.n a)=true
  rw [h.kind,h.id,cG,h.ver]
  rfl
 have hfl:firstL ((oneW a.author).at [a])=[a]:=by
  show ([a].filter (posB 0 ⟨#[]⟩)).filter _=[a]
  simp [hpos,hfirst]
 have hbeg:begS a=⟨[a],[⟨0,a.n,a.m⟩],digV a,0⟩:=by
  rw [begS,addS,h.kind]
  rfl
 have hcand:candL ((oneW a.author).at [a]) (begS a)=[]:=by
  have:posB 1 (digV a) a=false:=by rw [posB,h.seq];rfl
  rw [candL,hbeg]
  show ([a].filter (posB 1 (digV a))).filter _=[]
  simp [this]
 have hstep:stepS ((oneW a.author).at [a]) (begS a)=none:=by
  have hr:regS ((oneW a.author).at [a]) (begS a)=none:=rfl
  rw [stepS,hr,hcand]
  rfl
 have hfin:finS ((oneW a.author).at [a]) a=begS a:=oS hstep _
 rw [OfRes,hfl] at hres
 obtain ⟨e1,e2⟩:=(show st=finS ((oneW a.author).at [a]) a∧fork=decide (1<(candL ((oneW a.author).at [a]) (finS ((oneW a.author).at [a]) a)).length) from hres)
 rw [hfin] at e1 e2
 rw [hcand] at e2
 subst e1
 subst e2
 refine ⟨sa,sk,?_,fun w hw=>?_⟩
 · rw [h1,hbeg]
   rfl
 · have:=h2 w hw
   rw [hbeg] at this
   exact this
def ItemTo (b:ActD) (u:Value) (X:World→Prop):Prop:=∃ s1 s2:SlV,u=(ofActI (b.re s1 s2)).v∧s1.n=b.to.n∧s2.n=b.wraps.n∧∀ w,X w→(b.re s1 s2).at_ w
set_option maxRecDepth 20000 in
theorem mV (a:ActD) (hr:a.Rng) (hs:a.Sm):Mk Tryz.prog 16 #[a.v] (ActD.at_ · a) (ItemTo a):=by
 refine bL (args:=[_]) _ Tryz.func16 rfl Tryz.ntmps16 rfl fun av bor w0=>?_
 repeat' (first|apply ab|apply aj|apply ai|refine aM ?_|refine aL ?_|refine aP fun _=>?_|refine aT fun _=>?_|fail)
 refine bN (hc:=eR a.to (strs a.toL) hs.to (fun cs hcs=>by simp only [strs,List.mem_map] at hcs;obtain ⟨x,_,rfl⟩:=hcs;rfl)) (hX:=fun w h=>h.1) fun v1 X1 h1=>?_
 obtain ⟨s1,rfl,hn1,hw1⟩:=h1
 repeat' (first|apply ab|apply aj|apply ai|refine aM ?_|refine aL ?_|refine br ?_|fail)
 refine bN (hc:=js a.wraps (a.wrapsL.map WrapD.cells) hs.wraps (fun cs hcs=>by simp only [List.mem_map] at hcs;obtain ⟨x,_,rfl⟩:=hcs;rfl)) (hX:=fun w h=>h.1.2) fun v2 X2 h2=>?_
 obtain ⟨s2,rfl,hn2,hw2⟩:=h2
 repeat' (first|apply ab|apply aj|apply ai|refine aM ?_|refine aG ?_|refine br ?_|refine aK ?_|apply aA|(refine bV ?_))
 have e1:s1.n=a.to.n:=by rw [hn1,hr.to_len];simp [strs]
 have e2:s2.n=a.wraps.n:=by rw [hn2,hr.wraps_len];simp
 apply aq;refine bT rfl rfl bF ?_
 · rfl
 refine ⟨s1,s2,rfl,e1,e2,fun w h=>⟨?_,?_⟩⟩
 · exact hw1 w h.1.1.2
 · exact hw2 w h.1.2
theorem fd {a:ActD} (h:a.Rng) {s1 s2:SlV} (h1:s1.n=a.to.n) (h2:s2.n=a.wraps.n):(a.re s1 s2).Rng:=⟨h.ints,h.wints,h1.trans h.to_len,h2.trans h.wraps_len⟩
theorem gU {a:ActD} (h:a.Sm) {s1 s2:SlV} (h1:s1.n=a.to.n) (h2:s2.n=a.wraps.n):(a.re s1 s2).Sm:=⟨by show s1.n*16≤_;rw [h1];exact h.to,by show s2.n*64≤_;rw [h2];exact h.wraps,h.target⟩
theorem B3 {a:ActD} (p:Int) {s1 s2:SlV} (h1:s1.n=a.to.n) (h2:s2.n=a.wraps.n):verV p (a.re s1 s2)=verV p a:=by
 have hr:=fA h1 h2
 have hc:coreV (a.re s1 s2)=coreV a:=rfl
 have he:(a.re s1 s2).e=a.e:=rfl
 have hs:(a.re s1 s2).s=a.s:=rfl
 simp only [verV,actCore,hr,hc,he,hs]
theorem BegOk.re {a:ActD} (h:BegOk a) {s1 s2:SlV} (h1:s1.n=a.to.n) (h2:s2.n=a.wraps.n):BegOk (a.re s1 s2) :=
 ⟨fd h.rng h1 h2,gU h.sm h1 h2,(fA h1 h2).trans h.right,h.kind,h.seq,h.prev,h.id,(B3 _ h1 h2).trans h.ver⟩
theorem AM:nkU0.Rng:=⟨by decide +kernel,fun w hw=>(List.not_mem_nil hw).elim,rfl,rfl⟩
theorem Cp:nkU0.Sm:=⟨by decide,by decide,by decide⟩
theorem sT:nkA0.Rng:=⟨by decide +kernel,fun w hw=>(List.not_mem_nil hw).elim,rfl,rfl⟩
theorem ye:nkA0.Sm:=⟨by decide,by decide,by decide⟩
theorem nk_beg:BegOk nkA0:=⟨sT,ye,yb,rfl,rfl,rfl,BP,Co⟩
theorem qE {P:Program} {fn:Func} {N t u ty ty2 n n2:Nat} {s:St} {b b2 T T2:Nat} {cs cs2:List Value} [hI:TyAgg P ty n] [hI2:TyAgg P ty2 n2] (hr:fn.results=#[.cell t ty,.cell u ty2]) (h:Sy.look s.env t=some (.pointer (some ⟨b,0,none⟩))) (h':Sy.look s.env u=some (.pointer (some ⟨b2,0,none⟩))) (hm:cel b T cs∈s.loc) (hn:cs.length=n) (hm2:cel b2 T2 cs2∈s.loc) (hn2:cs2.length=n2) :
  Res1 P fn N s (.tuple #[.agg cs.toArray,.agg cs2.toArray]):=fun av bor w0 a w ok=>by
 obtain ⟨D,h1,h2,h3⟩:=cW hI.out
 obtain ⟨D2,g1,g2,g3⟩:=cW hI2.out
 have ht:=ok.env t _ h
 have hu:=ok.env u _ h'
 have l1:(loadVar ty ⟨b,0,none⟩).run P w=.ok (.agg cs.toArray) w:=by
  cases D<;>simp at h2
  · exact run_loadVar_row w b T ty cs.toArray (0,0) _ (ef ok hm) h1 rfl (by rw [h3];simp [hn])
  · exact run_loadVar_row w b T ty cs.toArray (0,0) _ (ef ok hm) h1 rfl (by rw [h3];simp [hn])
 have l2:(loadVar ty2 ⟨b2,0,none⟩).run P w=.ok (.agg cs2.toArray) w:=by
  cases D2<;>simp at g2
  · exact run_loadVar_row w b2 T2 ty2 cs2.toArray (0,0) _ (ef ok hm2) g1 rfl (by rw [g3];simp [hn2])
  · exact run_loadVar_row w b2 T2 ty2 cs2.toArray (0,0) _ (ef ok hm2) g1 rfl (by rw [g3];simp [hn2])
 simp [results,hr,ht,hu,asAddr,l1,l2]
end Go.Proofs.YtfnjklhjngphmaaGreatDoor
