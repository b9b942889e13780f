/- Joined by program out of: Ju Zw Za Zb Zc Zd Io Jf. -/
import Derived.Test.YtcdilibijnboeaaGreatDoorR7
set_option linter.unusedVariables false
set_option linter.unusedSimpArgs false
namespace Go.Proofs.YtcdilibijnboeaaGreatDoor
open Go Go.Proofs Sy
def ofClaimI (c:ClaimD):ItemD:=⟨1,ActD.zero,c,BallotD.zero,DecD.zero⟩
theorem gl (c:ClaimD):Pu Tryz.prog 53 #[c.v] (fun _=>True) (ofClaimI c).v:=by
 refine ay (args:=[_]) _ Tryz.func53 rfl Tryz.ntmps53 rfl fun av bor w0=>?_
 repeat' (first|refine bm (cs:=(ofClaimI c).cells) (hf:=by rfl) ?_|apply ab|apply Qu|apply Qv|refine aD ?_|refine aI fun _=>?_|refine aK fun _=>?_|refine aH ?_|apply ar|fail)
 exact ak (cJ rfl rfl bL (by rfl)) rfl
theorem mP (b:Nat) (h:BldH) (sa sk:SlV) (st:ChS) (pl:List (ByteArray×Value)) (ok:BldOk sa sk st pl) (hw:h.wn=false) (Y:World→Prop) :
  Ct Tryz.prog 34 #[.pointer (some ⟨b,0,none⟩)] (bldR b h sa sk st pl) Y (fun u R _=>BldAt b h st (.bool false) u R):=by
 obtain ⟨ks,ki,id,fork,q1,q2,cl,wn⟩:=h
 simp only at hw
 subst hw
 refine ef (args:=[_]) _ Tryz.func34 rfl Tryz.ntmps34 rfl fun av bor w0=>?_
 unfold bldR
 repeat' (first|apply ab|apply Qu|apply Qv|refine aj ?_|refine ad ?_|refine cA ?_|refine az ?_|fail)
 (refine aU [cel b 87 (bldC ⟨ks,ki,id,fork,q1,q2,cl,false⟩ sa sk st.prev (st.gen:Nat)),actR sa st.acts,keyR sk st.keys,mapr q2 pl] (fun w=>Y w) al ?_)
 all_goals refine aq 0 ?_<;>refine aq 1 ?_<;>refine aq 2 ?_<;>(refine aq 3 (hy:=by (apply mH (v:=.bool false);rfl;(repeat (exact aJ));rfl)) ?_)<;>refine aq 4 ?_<;>refine aq 5 ?_<;>refine bp 6 ?_<;>refine bp 7 ?_<;>refine bp 8 ?_<;>refine bp 9 ?_<;>refine bp 10 ?_<;>refine bp 11 ?_<;>refine bp 12 ?_<;>refine bp 13 ?_<;>refine bp 14 ?_<;>refine bp 15 ?_<;>refine bp 16 ?_<;>refine aq 17 ?_<;>refine aq 18 ?_<;>refine bp 19 ?_<;>refine bp 20 ?_<;>refine bp 21 ?_<;>refine bp 22 ?_<;>refine bp 23 ?_<;>refine bp 24 ?_<;>refine bp 25 ?_<;>refine bp 26 ?_<;>refine bp 27 ?_<;>refine bp 28 ?_<;>refine aq 29 ?_<;>(refine aw ?_)
 repeat' (first|apply ab|apply Qu|apply Qv|refine ad ?_|refine Qy ?_|apply ar|fail)
 exact ak (ap rfl rfl) ⟨_,aG _,rfl,sa,sk,pl,ok,rfl⟩
structure SetI (l:List ActD) where
 k:Nat
 hk:k≤l.length
 hs:setI l l.length=setI l k
set_option maxHeartbeats 16000000 in
theorem mO (b:Nat) (h:BldH) (sa sk:SlV) (st:ChS) (pl:List (ByteArray×Value)) (ok:BldOk sa sk st pl) (W:OfW) (c0:ClaimD) (hwc:W.won st.gen=some c0) (hcl:h.cl=c0) (hwn:h.wn=true) (Y:World→Prop)
  (hl:st.acts.length≤1000000) (hl2:st.keys.length≤1000000) (hg:st.gen≤1000000)
  (hclm:∀ p:Int,Pu Tryz.prog 52 #[.int .i64 p,c0.v] (fun w=>Y w∧Glob w) (.bool (W.clm p c0)))
  (hdg:Pu Tryz.prog 14 #[(ofClaimI c0).v] (fun w=>Y w∧Glob w) (.string (W.dgC c0)))
  (hwon:Pu Tryz.prog 51 #[.agg #[h.ks.v,h.ki.v],.string h.id,.int .i64 ((st.gen+1:Nat):Int)] (fun w=>Y w∧Glob w) (.tuple #[((W.won (st.gen+1)).getD ClaimD.zero).v,.bool (W.won (st.gen+1)).isSome])) :
  Ct Tryz.prog 34 #[.pointer (some ⟨b,0,none⟩)] (bldR b h sa sk st pl) (fun w=>Y w∧Glob w)
   (fun u R _=>(∀ s,regS W st=some s→BldAt b (h.look (W.won (st.gen+1))) s (.bool true) u R)∧(regS W st=none→BldAt b h st (.bool false) u R)):=by
 obtain ⟨ks,ki,id,fork,q1,q2,c,wn⟩:=h
 simp only at hcl hwn
 subst hcl
 subst hwn
 have ok':=ok
 obtain ⟨hn,hk,hp⟩:=ok
 refine ef (args:=[_]) _ Tryz.func34 rfl Tryz.ntmps34 rfl fun av bor w0=>?_
 have hreg:regS W st=bif decide (c.base=(st.acts.length:Int))&&seqB c.prev st.prev then (match setI st.acts st.acts.length with
  | none=>none
  | some i=>bif W.clm (st.acts.getD i ActD.zero).m c then some ⟨st.acts,st.keys++[⟨(st.acts.length:Nat),c.pub,c.home⟩],W.dgC c,st.gen+1⟩ else none) else none:=by rw [regS,hwc];rfl
 generalize hgo:regS W st=go at *
 unfold bldR actR keyR
 repeat' (first|apply ab|apply Qu|apply Qv|refine aj ?_|refine ad ?_|refine cA ?_|refine az ?_|fail)
 cases hb:decide (c.base=(st.acts.length:Int)) with
 | false =>
  rw [hb] at hreg
  have hb':(!decide (c.base=(sa.n:Int)))=true:=by rw [hn,hb];rfl
  (refine aU [cel b 87 (bldC ⟨ks,ki,id,fork,q1,q2,c,true⟩ sa sk st.prev (st.gen:Nat)),orow 46 20 (.slice sa.p sa.n sa.c) sa.n (st.acts.map ActD.cells).flatten,orow 35 3 (.slice sk.p sk.n sk.c) sk.n (st.keys.map KeyD.cells).flatten,mapr q2 pl] (fun w=>Y w∧Glob w) al ?_)
  all_goals refine aq 0 ?_<;>refine aq 1 ?_<;>refine aq 2 ?_<;>(refine aq 3 (hy:=by (apply mH (v:=.bool true);rfl;(repeat (exact aJ));rfl)) ?_)<;>refine aq 4 ?_<;>refine aq 5 ?_<;>refine aq 6 ?_<;>refine aq 7 ?_<;>refine aq 8 ?_<;>refine aq 9 ?_<;>refine aq 10 ?_<;>refine aq 11 ?_<;>refine aq 12 ?_<;>refine aq 13 ?_<;>refine aq 14 ?_<;>refine aq 15 ?_<;>(refine aq 16 (hy:=by (apply ei true;rfl;rfl;exact hb')) ?_)<;>refine aq 17 ?_<;>refine aq 18 ?_<;>refine bp 19 ?_<;>refine bp 20 ?_<;>refine bp 21 ?_<;>refine bp 22 ?_<;>refine bp 23 ?_<;>refine bp 24 ?_<;>refine bp 25 ?_<;>refine bp 26 ?_<;>refine bp 27 ?_<;>refine bp 28 ?_<;>refine aq 29 ?_<;>(refine aw ?_)
  all_goals
   repeat' (first|apply ab|apply Qu|apply Qv|refine ad ?_|refine Qy ?_|apply ar|fail)
   exact ak (ap rfl rfl) ⟨bldR b ⟨ks,ki,id,fork,q1,q2,c,true⟩ sa sk st pl,aG _,⟨fun s hs=>(by rw [hreg] at hs;cases hs),fun _=>⟨rfl,sa,sk,pl,ok',rfl⟩⟩⟩
 | true =>
 rw [hb] at hreg
 have hb':(!decide (c.base=(sa.n:Int)))=false:=by rw [hn,hb];rfl
 have hbe:c.base=(st.acts.length:Int):=aO hb
 cases hpv:seqB c.prev st.prev with
 | false =>
  rw [hpv] at hreg
  have hpv':(!seqB c.prev st.prev)=true:=by rw [hpv];rfl
  (refine aU [cel b 87 (bldC ⟨ks,ki,id,fork,q1,q2,c,true⟩ sa sk st.prev (st.gen:Nat)),orow 46 20 (.slice sa.p sa.n sa.c) sa.n (st.acts.map ActD.cells).flatten,orow 35 3 (.slice sk.p sk.n sk.c) sk.n (st.keys.map KeyD.cells).flatten,mapr q2 pl] (fun w=>Y w∧Glob w) al ?_)
  all_goals refine aq 0 ?_<;>refine aq 1 ?_<;>refine aq 2 ?_<;>(refine aq 3 (hy:=by (apply mH (v:=.bool true);rfl;(repeat (exact aJ));rfl)) ?_)<;>refine aq 4 ?_<;>refine aq 5 ?_<;>refine aq 6 ?_<;>refine aq 7 ?_<;>refine aq 8 ?_<;>refine aq 9 ?_<;>refine aq 10 ?_<;>refine aq 11 ?_<;>refine aq 12 ?_<;>refine aq 13 ?_<;>refine aq 14 ?_<;>refine aq 15 ?_<;>(refine aq 16 (hy:=by (apply ei false;rfl;rfl;exact hb')) ?_)<;>refine aq 17 ?_<;>refine aq 18 ?_<;>refine aq 19 ?_<;>refine aq 20 ?_<;>refine aq 21 ?_<;>refine aq 22 ?_<;>refine aq 23 ?_<;>refine aq 24 ?_<;>refine aq 25 ?_<;>refine aq 26 ?_<;>refine aq 27 ?_<;>(refine aq 28 (hy:=by (apply kB true;rfl;rfl;exact hpv')) ?_)<;>refine aq 29 ?_<;>(refine aw ?_)
  all_goals
   repeat' (first|apply ab|apply Qu|apply Qv|refine ad ?_|refine Qy ?_|apply ar|fail)
   exact ak (ap rfl rfl) ⟨bldR b ⟨ks,ki,id,fork,q1,q2,c,true⟩ sa sk st pl,aG _,⟨fun s hs=>(by rw [hreg] at hs;cases hs),fun _=>⟨rfl,sa,sk,pl,ok',rfl⟩⟩⟩
 | true =>
 rw [hpv] at hreg
 have hpv':(!seqB c.prev st.prev)=false:=by rw [hpv];rfl
 (refine aU [cel b 87 (bldC ⟨ks,ki,id,fork,q1,q2,c,true⟩ sa sk st.prev (st.gen:Nat)),orow 46 20 (.slice sa.p sa.n sa.c) sa.n (st.acts.map ActD.cells).flatten,orow 35 3 (.slice sk.p sk.n sk.c) sk.n (st.keys.map KeyD.cells).flatten,mapr q2 pl] (fun w=>Y w∧Glob w) al ?_)
 all_goals refine aq 0 ?_<;>refine aq 1 ?_<;>refine aq 2 ?_<;>(refine aq 3 (hy:=by (apply mH (v:=.bool true);rfl;(repeat (exact aJ));rfl)) ?_)<;>refine aq 4 ?_<;>refine aq 5 ?_<;>refine aq 6 ?_<;>refine aq 7 ?_<;>refine aq 8 ?_<;>refine aq 9 ?_<;>refine aq 10 ?_<;>refine aq 11 ?_<;>refine aq 12 ?_<;>refine aq 13 ?_<;>refine aq 14 ?_<;>refine aq 15 ?_<;>(refine aq 16 (hy:=by (apply ei false;rfl;rfl;exact hb')) ?_)<;>refine aq 17 ?_<;>refine aq 18 ?_<;>refine aq 19 ?_<;>refine aq 20 ?_<;>refine aq 21 ?_<;>refine aq 22 ?_<;>refine aq 23 ?_<;>refine aq 24 ?_<;>refine aq 25 ?_<;>refine aq 26 ?_<;>refine aq 27 ?_<;>(refine aq 28 (hy:=by (apply kB false;rfl;rfl;exact hpv')) ?_)<;>refine aq 29 ?_<;>(refine aw ?_)
 repeat' (first|apply ab|apply Qu|apply Qv|refine aj ?_|refine ad ?_|refine cA ?_|refine az ?_|refine aA ?_|refine aW ?_|refine cL (h:=?_)|refine Qz ?_|apply Qx|apply Qw|fail)
 refine aT (ι:=SetI st.acts) (fun i=>⟨[(0,.pointer (some ⟨b,0,none⟩)),(3,.pointer (some ⟨b,2,none⟩)),(4,.int .i64 ((i.k:Nat)-1))],[cel b 87 (bldC ⟨ks,ki,id,fork,q1,q2,c,true⟩ sa sk st.prev (st.gen:Nat)),orow 46 20 (.slice sa.p sa.n sa.c) sa.n (st.acts.map ActD.cells).flatten,orow 35 3 (.slice sk.p sk.n sk.c) sk.n (st.keys.map KeyD.cells).flatten,mapr q2 pl],fun w=>Y w∧Glob w⟩) (fun i=>i.k) ⟨sa.n,by omega,by rw [hn]⟩ (ax ⟨rfl,rfl,rfl,trivial⟩ (aG _) fun _ h=>h) fun i=>?_
 obtain ⟨k,hk',hs⟩:=i
 simp only
 cases k with
 | zero =>
  have hset:setI st.acts st.acts.length=none:=hs
  rw [hset] at hreg
  simp only [ZE,ZD,ZC] at hreg
  repeat' (first|refine AJ (hab:=by omega) ?_|apply ab|apply Qu|apply Qv|refine aj ?_|refine aC ?_|refine aL ?_|refine Qz ?_|apply aS|fail)
  (refine aU [cel b 87 (bldC ⟨ks,ki,id,fork,q1,q2,c,true⟩ sa sk st.prev (st.gen:Nat)),orow 46 20 (.slice sa.p sa.n sa.c) sa.n (st.acts.map ActD.cells).flatten,orow 35 3 (.slice sk.p sk.n sk.c) sk.n (st.keys.map KeyD.cells).flatten,mapr q2 pl] (fun w=>Y w∧Glob w) al ?_)
  all_goals refine aq 0 ?_<;>(refine aq 1 (hy:=by (apply bQ true;rfl;rfl;exact ZA ae)) ?_)<;>refine aq 2 ?_<;>refine bp 3 ?_<;>refine bp 4 ?_<;>refine bp 5 ?_<;>refine bp 6 ?_<;>refine bp 7 ?_<;>refine bp 8 ?_<;>refine bp 9 ?_<;>refine bp 10 ?_<;>refine bp 11 ?_<;>refine bp 12 ?_<;>refine bp 13 ?_<;>refine bp 14 ?_<;>(refine ag 15 ?_;(refine bC ?_);apply ab;refine dV ?_)<;>refine bp 16 ?_<;>refine aq 17 ?_<;>(refine aw ?_)
  all_goals
   repeat' (first|apply ab|apply Qu|apply Qv|refine ad ?_|refine Qy ?_|apply ar|fail)
   exact ak (ap rfl rfl) ⟨bldR b ⟨ks,ki,id,fork,q1,q2,c,true⟩ sa sk st pl,aG _,⟨fun s hs=>(by rw [hreg] at hs;cases hs),fun _=>⟨rfl,sa,sk,pl,ok',rfl⟩⟩⟩
 | succ k =>
  obtain ⟨a,ha⟩:∃ a,st.acts[k]?=some a:=⟨_,Zm ae⟩
  have haD:st.acts.getD k ActD.zero=a:=by rw [ZL,ha];rfl
  refine cS (r:=orow 46 20 (.slice sa.p sa.n sa.c) sa.n (st.acts.map ActD.cells).flatten) bL (p:=sa.p.isSome=true) (fun w h=>cI h ae) fun hap=>?_
  have hm1:(sa.n:Nat)=(st.acts.map ActD.cells).length:=by rw [Z3];exact hn
  have hi1:(st.acts.map ActD.cells)[k]?=some a.cells:=by simp [ha]
  have hrow:orow 46 20 (.slice sa.p sa.n sa.c) sa.n (st.acts.map ActD.cells).flatten∈[cel b 87 (bldC ⟨ks,ki,id,fork,q1,q2,c,true⟩ sa sk st.prev (st.gen:Nat)),orow 46 20 (.slice sa.p sa.n sa.c) sa.n (st.acts.map ActD.cells).flatten,orow 35 3 (.slice sk.p sk.n sk.c) sk.n (st.keys.map KeyD.cells).flatten,mapr q2 pl]:=.tail _ (.head _)
  by_cases hk19:a.kind=19
  · have hset:setI st.acts st.acts.length=some k:=by rw [hs,setI,haD,ZA hk19];rfl
    rw [hset] at hreg
    simp only [ZE,ZD,ZC,haD] at hreg
    have hcl:=hclm a.m
    repeat' (first|refine am (gd true rfl rfl (ZA ae)) rfl rfl rfl ?_|refine dJ (hab:=hk19) ?_|apply ab|apply Qu|apply Qv|refine aj ?_|refine cA ?_|refine az ?_|refine aA ?_|refine aB ?_|refine Qz ?_|apply aS|(refine bz (q:=k*20) ?_)|(refine gX ?_)|(refine am (gc (i:=k) (j:=3) (cs:=a.cells) (u:=.int .i64 a.kind) rfl hrow hm1 (fZ _) hi1 rfl) rfl rfl rfl ?_)|fail)
    cases hcm:W.clm a.m c with
    | false =>
     rw [hcm] at hcl hreg
     (refine aU [cel b 87 (bldC ⟨ks,ki,id,fork,q1,q2,c,true⟩ sa sk st.prev (st.gen:Nat)),orow 46 20 (.slice sa.p sa.n sa.c) sa.n (st.acts.map ActD.cells).flatten,orow 35 3 (.slice sk.p sk.n sk.c) sk.n (st.keys.map KeyD.cells).flatten,mapr q2 pl] (fun w=>Y w∧Glob w) al ?_)
     all_goals refine aq 0 ?_<;>(refine aq 1 (hy:=by (apply bQ false;rfl;rfl;exact Zn ae)) ?_)<;>refine aq 2 ?_<;>refine aq 3 ?_<;>refine aq 4 ?_<;>refine aq 5 ?_<;>refine aq 6 ?_<;>refine aq 7 ?_<;>(refine aq 8 (hy:=by (apply aN (q:=k*20);rfl;rfl;omega;omega;assumption;omega)) ?_)<;>(refine aq 9 (hy:=by (apply fI;rfl;assumption;rfl)) ?_)<;>(refine aq 10 (hy:=by (apply gc (i:=k) (j:=17) (cs:=a.cells) (u:=.int .i64 a.m);rfl;exact hrow;exact hm1;exact fZ _;exact hi1;rfl)) ?_)<;>refine aq 11 ?_<;>refine aq 12 ?_<;>refine aq 13 ?_<;>(refine aq 14 (hy:=by (apply cK (vs:=c.cells);rfl;exact .head _;rfl;rfl)) ?_)<;>(refine ag 15 ?_;(refine ao (hc:=hcl) (hX:=fun w h=>h) ?_);apply ab;refine dV ?_)<;>refine aq 16 ?_<;>refine aq 17 ?_<;>(refine aw ?_)
     all_goals
      repeat' (first|apply ab|apply Qu|apply Qv|refine ad ?_|refine Qy ?_|apply ar|fail)
      exact ak (ap rfl rfl) ⟨bldR b ⟨ks,ki,id,fork,q1,q2,c,true⟩ sa sk st pl,aG _,⟨fun s hs=>(by rw [hreg] at hs;cases hs),fun _=>⟨rfl,sa,sk,pl,ok',rfl⟩⟩⟩
    | true =>
     rw [hcm] at hcl hreg
     simp only [ZC] at hreg
     (refine aU [cel b 87 (bldC ⟨ks,ki,id,fork,q1,q2,c,true⟩ sa sk st.prev (st.gen:Nat)),orow 46 20 (.slice sa.p sa.n sa.c) sa.n (st.acts.map ActD.cells).flatten,orow 35 3 (.slice sk.p sk.n sk.c) sk.n (st.keys.map KeyD.cells).flatten,mapr q2 pl] (fun w=>Y w∧Glob w) al ?_)
     all_goals refine aq 0 ?_<;>(refine aq 1 (hy:=by (apply bQ false;rfl;rfl;exact Zn ae)) ?_)<;>refine aq 2 ?_<;>refine aq 3 ?_<;>refine aq 4 ?_<;>refine aq 5 ?_<;>refine aq 6 ?_<;>refine aq 7 ?_<;>(refine aq 8 (hy:=by (apply aN (q:=k*20);rfl;rfl;omega;omega;assumption;omega)) ?_)<;>(refine aq 9 (hy:=by (apply fI;rfl;assumption;rfl)) ?_)<;>(refine aq 10 (hy:=by (apply gc (i:=k) (j:=17) (cs:=a.cells) (u:=.int .i64 a.m);rfl;exact hrow;exact hm1;exact fZ _;exact hi1;rfl)) ?_)<;>refine aq 11 ?_<;>refine aq 12 ?_<;>refine aq 13 ?_<;>(refine aq 14 (hy:=by (apply cK (vs:=c.cells);rfl;exact .head _;rfl;rfl)) ?_)<;>(refine ag 15 ?_;(refine ao (hc:=hcl) (hX:=fun w h=>h) ?_);apply ab;refine dV ?_)<;>refine aq 16 ?_<;>refine aq 17 ?_<;>(refine aw ?_)
     all_goals
      repeat' (first|apply Qu|refine Qz ?_|apply Qx|fail)
      refine kI (ι:=Option Addr×Nat) (fun i=>⟨[(0,.pointer (some ⟨b,0,none⟩)),(3,.pointer (some ⟨b,2,none⟩))],[cel b 87 (bldC ⟨ks,ki,id,fork,q1,q2,c,true⟩ sa ⟨i.1,sk.n+1,i.2⟩ st.prev (st.gen:Nat)),orow 46 20 (.slice sa.p sa.n sa.c) sa.n (st.acts.map ActD.cells).flatten,orow 35 3 (.slice i.1 (sk.n+1) i.2) (sk.n+1) ((st.keys.map KeyD.cells).flatten++(⟨((sa.n:Nat):Int),c.pub,c.home⟩:KeyD).cells),mapr q2 pl],fun w=>Y w∧Glob w⟩) ?_ fun i=>?_
      · (refine aU [] (fun _=>True) al ?_)
        all_goals refine aa 0 ?_<;>refine aa 1 ?_<;>refine aa 2 ?_<;>refine aa 3 ?_<;>refine aa 5 ?_<;>refine aa 6 ?_<;>refine aa 7 ?_<;>refine aa 10 ?_<;>refine aa 11 ?_<;>refine aa 12 ?_<;>refine aa 13 ?_<;>refine aa 15 ?_<;>refine aa 16 ?_<;>refine aa 17 ?_<;>refine aa 18 ?_<;>(refine Ce 4 8 14 19 (h:=?_) (h':=?_) (h'':=?_) (h3:=?_);(focus (((refine aA ?_);apply ab;refine ai ?_);all_goals ((refine gS 8 14 19 (h:=?_) (h':=?_) (h'':=?_);(focus (((refine aA ?_);apply ab;refine ai ?_);all_goals ((refine aa 9 ?_);all_goals (refine bw 14 19 (h:=?_) (h':=?_);(focus (((refine aA ?_);apply ab;refine ai ?_);all_goals ((refine ag 19 ?_;(refine aA ?_);apply ab;refine ai ?_);all_goals (refine aa 20 (hy:=by (apply ci (cs:=(⟨((sa.n:Nat):Int),c.pub,c.home⟩:KeyD).cells);rfl;rfl)) ?_);all_goals (refine ag 21 ?_;(refine bH (size:=3) (vs:=[(⟨((sa.n:Nat):Int),c.pub,c.home⟩:KeyD).v]) (css:=(⟨((sa.n:Nat):Int),c.pub,c.home⟩:KeyD).cells) (hsz:=by rfl) (hcs:=by rfl) fun _=>?_);apply ab;refine ai ?_);all_goals (refine ag 22 ?_;(refine aV (size:=3) (news:=(⟨((sa.n:Nat):Int),c.pub,c.home⟩:KeyD).cells) (q:=1) rfl rfl rfl rfl (fun _=>At.there _ (At.there _ (At.there _ (At.here _)))) (fun w G=>bo G aJ rfl rfl 1) ae (by simp only [maxLen];omega) rfl ?_ rfl ?_;(with_reducible rfl);intro A3 c3);apply ab;refine ai ?_);all_goals (refine aa 23 ?_);all_goals (refine aa 24 ?_);all_goals (refine ag 25 ?_;(refine bc ?_);apply ab;refine ai ?_);all_goals (refine aw ?_))));rotate_right;(focus (((refine aA ?_);apply ab;refine ai ?_);all_goals ((refine ag 14 ?_;(refine aA ?_);apply ab;refine ai ?_);all_goals (refine aa 20 (hy:=by (apply ci (cs:=(⟨((sa.n:Nat):Int),c.pub,c.home⟩:KeyD).cells);rfl;rfl)) ?_);all_goals (refine ag 21 ?_;(refine bH (size:=3) (vs:=[(⟨((sa.n:Nat):Int),c.pub,c.home⟩:KeyD).v]) (css:=(⟨((sa.n:Nat):Int),c.pub,c.home⟩:KeyD).cells) (hsz:=by rfl) (hcs:=by rfl) fun _=>?_);apply ab;refine ai ?_);all_goals (refine ag 22 ?_;(refine aV (size:=3) (news:=(⟨((sa.n:Nat):Int),c.pub,c.home⟩:KeyD).cells) (q:=1) rfl rfl rfl rfl (fun _=>At.there _ (At.there _ (At.there _ (At.here _)))) (fun w G=>bo G aJ rfl rfl 1) ae (by simp only [maxLen];omega) rfl ?_ rfl ?_;(with_reducible rfl);intro A3 c3);apply ab;refine ai ?_);all_goals (refine aa 23 ?_);all_goals (refine aa 24 ?_);all_goals (refine ag 25 ?_;(refine bc ?_);apply ab;refine ai ?_);all_goals (refine aw ?_))))))));rotate_right;(focus (((refine aA ?_);apply ab;refine ai ?_);all_goals ((refine bw 8 14 (h:=?_) (h':=?_);(focus (((refine aA ?_);apply ab;refine ai ?_);all_goals ((refine aa 9 ?_);all_goals (refine ag 14 ?_;(refine aA ?_);apply ab;refine ai ?_);all_goals (refine aa 20 (hy:=by (apply ci (cs:=(⟨((sa.n:Nat):Int),c.pub,c.home⟩:KeyD).cells);rfl;rfl)) ?_);all_goals (refine ag 21 ?_;(refine bH (size:=3) (vs:=[(⟨((sa.n:Nat):Int),c.pub,c.home⟩:KeyD).v]) (css:=(⟨((sa.n:Nat):Int),c.pub,c.home⟩:KeyD).cells) (hsz:=by rfl) (hcs:=by rfl) fun _=>?_);apply ab;refine ai ?_);all_goals (refine ag 22 ?_;(refine aV (size:=3) (news:=(⟨((sa.n:Nat):Int),c.pub,c.home⟩:KeyD).cells) (q:=1) rfl rfl rfl rfl (fun _=>At.there _ (At.there _ (At.there _ (At.here _)))) (fun w G=>bo G aJ rfl rfl 1) ae (by simp only [maxLen];omega) rfl ?_ rfl ?_;(with_reducible rfl);intro A3 c3);apply ab;refine ai ?_);all_goals (refine aa 23 ?_);all_goals (refine aa 24 ?_);all_goals (refine ag 25 ?_;(refine bc ?_);apply ab;refine ai ?_);all_goals (refine aw ?_))));rotate_right;(focus (((refine aA ?_);apply ab;refine ai ?_);all_goals ((refine ag 8 ?_;(refine aA ?_);apply ab;refine ai ?_);all_goals (refine aa 9 ?_);all_goals (refine aa 20 (hy:=by (apply ci (cs:=(⟨((sa.n:Nat):Int),c.pub,c.home⟩:KeyD).cells);rfl;rfl)) ?_);all_goals (refine ag 21 ?_;(refine bH (size:=3) (vs:=[(⟨((sa.n:Nat):Int),c.pub,c.home⟩:KeyD).v]) (css:=(⟨((sa.n:Nat):Int),c.pub,c.home⟩:KeyD).cells) (hsz:=by rfl) (hcs:=by rfl) fun _=>?_);apply ab;refine ai ?_);all_goals (refine ag 22 ?_;(refine aV (size:=3) (news:=(⟨((sa.n:Nat):Int),c.pub,c.home⟩:KeyD).cells) (q:=1) rfl rfl rfl rfl (fun _=>At.there _ (At.there _ (At.there _ (At.here _)))) (fun w G=>bo G aJ rfl rfl 1) ae (by simp only [maxLen];omega) rfl ?_ rfl ?_;(with_reducible rfl);intro A3 c3);apply ab;refine ai ?_);all_goals (refine aa 23 ?_);all_goals (refine aa 24 ?_);all_goals (refine ag 25 ?_;(refine bc ?_);apply ab;refine ai ?_);all_goals (refine aw ?_))))))));rotate_right;(focus (((refine aA ?_);apply ab;refine ai ?_);all_goals ((refine bw 8 19 (h:=?_) (h':=?_);(focus (((refine aA ?_);apply ab;refine ai ?_);all_goals ((refine aa 9 ?_);all_goals (refine ag 19 ?_;(refine aA ?_);apply ab;refine ai ?_);all_goals (refine aa 20 (hy:=by (apply ci (cs:=(⟨((sa.n:Nat):Int),c.pub,c.home⟩:KeyD).cells);rfl;rfl)) ?_);all_goals (refine ag 21 ?_;(refine bH (size:=3) (vs:=[(⟨((sa.n:Nat):Int),c.pub,c.home⟩:KeyD).v]) (css:=(⟨((sa.n:Nat):Int),c.pub,c.home⟩:KeyD).cells) (hsz:=by rfl) (hcs:=by rfl) fun _=>?_);apply ab;refine ai ?_);all_goals (refine ag 22 ?_;(refine aV (size:=3) (news:=(⟨((sa.n:Nat):Int),c.pub,c.home⟩:KeyD).cells) (q:=1) rfl rfl rfl rfl (fun _=>At.there _ (At.there _ (At.there _ (At.here _)))) (fun w G=>bo G aJ rfl rfl 1) ae (by simp only [maxLen];omega) rfl ?_ rfl ?_;(with_reducible rfl);intro A3 c3);apply ab;refine ai ?_);all_goals (refine aa 23 ?_);all_goals (refine aa 24 ?_);all_goals (refine ag 25 ?_;(refine bc ?_);apply ab;refine ai ?_);all_goals (refine aw ?_))));rotate_right;(focus (((refine aA ?_);apply ab;refine ai ?_);all_goals ((refine ag 8 ?_;(refine aA ?_);apply ab;refine ai ?_);all_goals (refine aa 9 ?_);all_goals (refine aa 20 (hy:=by (apply ci (cs:=(⟨((sa.n:Nat):Int),c.pub,c.home⟩:KeyD).cells);rfl;rfl)) ?_);all_goals (refine ag 21 ?_;(refine bH (size:=3) (vs:=[(⟨((sa.n:Nat):Int),c.pub,c.home⟩:KeyD).v]) (css:=(⟨((sa.n:Nat):Int),c.pub,c.home⟩:KeyD).cells) (hsz:=by rfl) (hcs:=by rfl) fun _=>?_);apply ab;refine ai ?_);all_goals (refine ag 22 ?_;(refine aV (size:=3) (news:=(⟨((sa.n:Nat):Int),c.pub,c.home⟩:KeyD).cells) (q:=1) rfl rfl rfl rfl (fun _=>At.there _ (At.there _ (At.there _ (At.here _)))) (fun w G=>bo G aJ rfl rfl 1) ae (by simp only [maxLen];omega) rfl ?_ rfl ?_;(with_reducible rfl);intro A3 c3);apply ab;refine ai ?_);all_goals (refine aa 23 ?_);all_goals (refine aa 24 ?_);all_goals (refine ag 25 ?_;(refine bc ?_);apply ab;refine ai ?_);all_goals (refine aw ?_))))))))))));rotate_right;(focus (((refine aA ?_);apply ab;refine ai ?_);all_goals ((refine gS 4 8 14 (h:=?_) (h':=?_) (h'':=?_);(focus (((refine aA ?_);apply ab;refine ai ?_);all_goals ((refine bw 8 14 (h:=?_) (h':=?_);(focus (((refine aA ?_);apply ab;refine ai ?_);all_goals ((refine aa 9 ?_);all_goals (refine ag 14 ?_;(refine aA ?_);apply ab;refine ai ?_);all_goals (refine aa 20 (hy:=by (apply ci (cs:=(⟨((sa.n:Nat):Int),c.pub,c.home⟩:KeyD).cells);rfl;rfl)) ?_);all_goals (refine ag 21 ?_;(refine bH (size:=3) (vs:=[(⟨((sa.n:Nat):Int),c.pub,c.home⟩:KeyD).v]) (css:=(⟨((sa.n:Nat):Int),c.pub,c.home⟩:KeyD).cells) (hsz:=by rfl) (hcs:=by rfl) fun _=>?_);apply ab;refine ai ?_);all_goals (refine ag 22 ?_;(refine aV (size:=3) (news:=(⟨((sa.n:Nat):Int),c.pub,c.home⟩:KeyD).cells) (q:=1) rfl rfl rfl rfl (fun _=>At.there _ (At.there _ (At.there _ (At.here _)))) (fun w G=>bo G aJ rfl rfl 1) ae (by simp only [maxLen];omega) rfl ?_ rfl ?_;(with_reducible rfl);intro A3 c3);apply ab;refine ai ?_);all_goals (refine aa 23 ?_);all_goals (refine aa 24 ?_);all_goals (refine ag 25 ?_;(refine bc ?_);apply ab;refine ai ?_);all_goals (refine aw ?_))));rotate_right;(focus (((refine aA ?_);apply ab;refine ai ?_);all_goals ((refine ag 8 ?_;(refine aA ?_);apply ab;refine ai ?_);all_goals (refine aa 9 ?_);all_goals (refine aa 20 (hy:=by (apply ci (cs:=(⟨((sa.n:Nat):Int),c.pub,c.home⟩:KeyD).cells);rfl;rfl)) ?_);all_goals (refine ag 21 ?_;(refine bH (size:=3) (vs:=[(⟨((sa.n:Nat):Int),c.pub,c.home⟩:KeyD).v]) (css:=(⟨((sa.n:Nat):Int),c.pub,c.home⟩:KeyD).cells) (hsz:=by rfl) (hcs:=by rfl) fun _=>?_);apply ab;refine ai ?_);all_goals (refine ag 22 ?_;(refine aV (size:=3) (news:=(⟨((sa.n:Nat):Int),c.pub,c.home⟩:KeyD).cells) (q:=1) rfl rfl rfl rfl (fun _=>At.there _ (At.there _ (At.there _ (At.here _)))) (fun w G=>bo G aJ rfl rfl 1) ae (by simp only [maxLen];omega) rfl ?_ rfl ?_;(with_reducible rfl);intro A3 c3);apply ab;refine ai ?_);all_goals (refine aa 23 ?_);all_goals (refine aa 24 ?_);all_goals (refine ag 25 ?_;(refine bc ?_);apply ab;refine ai ?_);all_goals (refine aw ?_))))))));rotate_right;(focus (((refine aA ?_);apply ab;refine ai ?_);all_goals ((refine bw 4 8 (h:=?_) (h':=?_);(focus (((refine aA ?_);apply ab;refine ai ?_);all_goals ((refine ag 8 ?_;(refine aA ?_);apply ab;refine ai ?_);all_goals (refine aa 9 ?_);all_goals (refine aa 20 (hy:=by (apply ci (cs:=(⟨((sa.n:Nat):Int),c.pub,c.home⟩:KeyD).cells);rfl;rfl)) ?_);all_goals (refine ag 21 ?_;(refine bH (size:=3) (vs:=[(⟨((sa.n:Nat):Int),c.pub,c.home⟩:KeyD).v]) (css:=(⟨((sa.n:Nat):Int),c.pub,c.home⟩:KeyD).cells) (hsz:=by rfl) (hcs:=by rfl) fun _=>?_);apply ab;refine ai ?_);all_goals (refine ag 22 ?_;(refine aV (size:=3) (news:=(⟨((sa.n:Nat):Int),c.pub,c.home⟩:KeyD).cells) (q:=1) rfl rfl rfl rfl (fun _=>At.there _ (At.there _ (At.there _ (At.here _)))) (fun w G=>bo G aJ rfl rfl 1) ae (by simp only [maxLen];omega) rfl ?_ rfl ?_;(with_reducible rfl);intro A3 c3);apply ab;refine ai ?_);all_goals (refine aa 23 ?_);all_goals (refine aa 24 ?_);all_goals (refine ag 25 ?_;(refine bc ?_);apply ab;refine ai ?_);all_goals (refine aw ?_))));rotate_right;(focus (((refine aA ?_);apply ab;refine ai ?_);all_goals ((refine aa 9 ?_);all_goals (refine aa 20 (hy:=by (apply ci (cs:=(⟨((sa.n:Nat):Int),c.pub,c.home⟩:KeyD).cells);rfl;rfl)) ?_);all_goals (refine bw 4 21 (h:=?_) (h':=?_);(focus (((refine aA ?_);apply ab;refine ai ?_);all_goals ((refine ag 21 ?_;(refine bH (size:=3) (vs:=[(⟨((sa.n:Nat):Int),c.pub,c.home⟩:KeyD).v]) (css:=(⟨((sa.n:Nat):Int),c.pub,c.home⟩:KeyD).cells) (hsz:=by rfl) (hcs:=by rfl) fun _=>?_);apply ab;refine ai ?_);all_goals (refine ag 22 ?_;(refine aV (size:=3) (news:=(⟨((sa.n:Nat):Int),c.pub,c.home⟩:KeyD).cells) (q:=1) rfl rfl rfl rfl (fun _=>At.there _ (At.there _ (At.there _ (At.here _)))) (fun w G=>bo G aJ rfl rfl 1) ae (by simp only [maxLen];omega) rfl ?_ rfl ?_;(with_reducible rfl);intro A3 c3);apply ab;refine ai ?_);all_goals (refine aa 23 ?_);all_goals (refine aa 24 ?_);all_goals (refine ag 25 ?_;(refine bc ?_);apply ab;refine ai ?_);all_goals (refine aw ?_))));rotate_right;(focus (((refine bH (size:=3) (vs:=[(⟨((sa.n:Nat):Int),c.pub,c.home⟩:KeyD).v]) (css:=(⟨((sa.n:Nat):Int),c.pub,c.home⟩:KeyD).cells) (hsz:=by rfl) (hcs:=by rfl) fun _=>?_);apply ab;refine ai ?_);all_goals ((refine ag 4 ?_;(refine aA ?_);apply ab;refine ai ?_);all_goals (refine ag 22 ?_;(refine aV (size:=3) (news:=(⟨((sa.n:Nat):Int),c.pub,c.home⟩:KeyD).cells) (q:=1) rfl rfl rfl rfl (fun _=>At.there _ (At.there _ (At.there _ (At.here _)))) (fun w G=>bo G aJ rfl rfl 1) ae (by simp only [maxLen];omega) rfl ?_ rfl ?_;(with_reducible rfl);intro A3 c3);apply ab;refine ai ?_);all_goals (refine aa 23 ?_);all_goals (refine aa 24 ?_);all_goals (refine ag 25 ?_;(refine bc ?_);apply ab;refine ai ?_);all_goals (refine aw ?_))))))))))));rotate_right;(focus (((refine aA ?_);apply ab;refine ai ?_);all_goals ((refine aa 9 ?_);all_goals (refine bw 4 14 (h:=?_) (h':=?_);(focus (((refine aA ?_);apply ab;refine ai ?_);all_goals ((refine ag 14 ?_;(refine aA ?_);apply ab;refine ai ?_);all_goals (refine aa 20 (hy:=by (apply ci (cs:=(⟨((sa.n:Nat):Int),c.pub,c.home⟩:KeyD).cells);rfl;rfl)) ?_);all_goals (refine ag 21 ?_;(refine bH (size:=3) (vs:=[(⟨((sa.n:Nat):Int),c.pub,c.home⟩:KeyD).v]) (css:=(⟨((sa.n:Nat):Int),c.pub,c.home⟩:KeyD).cells) (hsz:=by rfl) (hcs:=by rfl) fun _=>?_);apply ab;refine ai ?_);all_goals (refine ag 22 ?_;(refine aV (size:=3) (news:=(⟨((sa.n:Nat):Int),c.pub,c.home⟩:KeyD).cells) (q:=1) rfl rfl rfl rfl (fun _=>At.there _ (At.there _ (At.there _ (At.here _)))) (fun w G=>bo G aJ rfl rfl 1) ae (by simp only [maxLen];omega) rfl ?_ rfl ?_;(with_reducible rfl);intro A3 c3);apply ab;refine ai ?_);all_goals (refine aa 23 ?_);all_goals (refine aa 24 ?_);all_goals (refine ag 25 ?_;(refine bc ?_);apply ab;refine ai ?_);all_goals (refine aw ?_))));rotate_right;(focus (((refine aA ?_);apply ab;refine ai ?_);all_goals ((refine aa 20 (hy:=by (apply ci (cs:=(⟨((sa.n:Nat):Int),c.pub,c.home⟩:KeyD).cells);rfl;rfl)) ?_);all_goals (refine bw 4 21 (h:=?_) (h':=?_);(focus (((refine aA ?_);apply ab;refine ai ?_);all_goals ((refine ag 21 ?_;(refine bH (size:=3) (vs:=[(⟨((sa.n:Nat):Int),c.pub,c.home⟩:KeyD).v]) (css:=(⟨((sa.n:Nat):Int),c.pub,c.home⟩:KeyD).cells) (hsz:=by rfl) (hcs:=by rfl) fun _=>?_);apply ab;refine ai ?_);all_goals (refine ag 22 ?_;(refine aV (size:=3) (news:=(⟨((sa.n:Nat):Int),c.pub,c.home⟩:KeyD).cells) (q:=1) rfl rfl rfl rfl (fun _=>At.there _ (At.there _ (At.there _ (At.here _)))) (fun w G=>bo G aJ rfl rfl 1) ae (by simp only [maxLen];omega) rfl ?_ rfl ?_;(with_reducible rfl);intro A3 c3);apply ab;refine ai ?_);all_goals (refine aa 23 ?_);all_goals (refine aa 24 ?_);all_goals (refine ag 25 ?_;(refine bc ?_);apply ab;refine ai ?_);all_goals (refine aw ?_))));rotate_right;(focus (((refine bH (size:=3) (vs:=[(⟨((sa.n:Nat):Int),c.pub,c.home⟩:KeyD).v]) (css:=(⟨((sa.n:Nat):Int),c.pub,c.home⟩:KeyD).cells) (hsz:=by rfl) (hcs:=by rfl) fun _=>?_);apply ab;refine ai ?_);all_goals ((refine ag 4 ?_;(refine aA ?_);apply ab;refine ai ?_);all_goals (refine ag 22 ?_;(refine aV (size:=3) (news:=(⟨((sa.n:Nat):Int),c.pub,c.home⟩:KeyD).cells) (q:=1) rfl rfl rfl rfl (fun _=>At.there _ (At.there _ (At.there _ (At.here _)))) (fun w G=>bo G aJ rfl rfl 1) ae (by simp only [maxLen];omega) rfl ?_ rfl ?_;(with_reducible rfl);intro A3 c3);apply ab;refine ai ?_);all_goals (refine aa 23 ?_);all_goals (refine aa 24 ?_);all_goals (refine ag 25 ?_;(refine bc ?_);apply ab;refine ai ?_);all_goals (refine aw ?_))))))))))))))));rotate_right;(focus (((refine aA ?_);apply ab;refine ai ?_);all_goals ((refine gS 4 8 19 (h:=?_) (h':=?_) (h'':=?_);(focus (((refine aA ?_);apply ab;refine ai ?_);all_goals ((refine bw 8 19 (h:=?_) (h':=?_);(focus (((refine aA ?_);apply ab;refine ai ?_);all_goals ((refine aa 9 ?_);all_goals (refine ag 19 ?_;(refine aA ?_);apply ab;refine ai ?_);all_goals (refine aa 20 (hy:=by (apply ci (cs:=(⟨((sa.n:Nat):Int),c.pub,c.home⟩:KeyD).cells);rfl;rfl)) ?_);all_goals (refine ag 21 ?_;(refine bH (size:=3) (vs:=[(⟨((sa.n:Nat):Int),c.pub,c.home⟩:KeyD).v]) (css:=(⟨((sa.n:Nat):Int),c.pub,c.home⟩:KeyD).cells) (hsz:=by rfl) (hcs:=by rfl) fun _=>?_);apply ab;refine ai ?_);all_goals (refine ag 22 ?_;(refine aV (size:=3) (news:=(⟨((sa.n:Nat):Int),c.pub,c.home⟩:KeyD).cells) (q:=1) rfl rfl rfl rfl (fun _=>At.there _ (At.there _ (At.there _ (At.here _)))) (fun w G=>bo G aJ rfl rfl 1) ae (by simp only [maxLen];omega) rfl ?_ rfl ?_;(with_reducible rfl);intro A3 c3);apply ab;refine ai ?_);all_goals (refine aa 23 ?_);all_goals (refine aa 24 ?_);all_goals (refine ag 25 ?_;(refine bc ?_);apply ab;refine ai ?_);all_goals (refine aw ?_))));rotate_right;(focus (((refine aA ?_);apply ab;refine ai ?_);all_goals ((refine ag 8 ?_;(refine aA ?_);apply ab;refine ai ?_);all_goals (refine aa 9 ?_);all_goals (refine aa 20 (hy:=by (apply ci (cs:=(⟨((sa.n:Nat):Int),c.pub,c.home⟩:KeyD).cells);rfl;rfl)) ?_);all_goals (refine ag 21 ?_;(refine bH (size:=3) (vs:=[(⟨((sa.n:Nat):Int),c.pub,c.home⟩:KeyD).v]) (css:=(⟨((sa.n:Nat):Int),c.pub,c.home⟩:KeyD).cells) (hsz:=by rfl) (hcs:=by rfl) fun _=>?_);apply ab;refine ai ?_);all_goals (refine ag 22 ?_;(refine aV (size:=3) (news:=(⟨((sa.n:Nat):Int),c.pub,c.home⟩:KeyD).cells) (q:=1) rfl rfl rfl rfl (fun _=>At.there _ (At.there _ (At.there _ (At.here _)))) (fun w G=>bo G aJ rfl rfl 1) ae (by simp only [maxLen];omega) rfl ?_ rfl ?_;(with_reducible rfl);intro A3 c3);apply ab;refine ai ?_);all_goals (refine aa 23 ?_);all_goals (refine aa 24 ?_);all_goals (refine ag 25 ?_;(refine bc ?_);apply ab;refine ai ?_);all_goals (refine aw ?_))))))));rotate_right;(focus (((refine aA ?_);apply ab;refine ai ?_);all_goals ((refine bw 4 8 (h:=?_) (h':=?_);(focus (((refine aA ?_);apply ab;refine ai ?_);all_goals ((refine ag 8 ?_;(refine aA ?_);apply ab;refine ai ?_);all_goals (refine aa 9 ?_);all_goals (refine aa 20 (hy:=by (apply ci (cs:=(⟨((sa.n:Nat):Int),c.pub,c.home⟩:KeyD).cells);rfl;rfl)) ?_);all_goals (refine ag 21 ?_;(refine bH (size:=3) (vs:=[(⟨((sa.n:Nat):Int),c.pub,c.home⟩:KeyD).v]) (css:=(⟨((sa.n:Nat):Int),c.pub,c.home⟩:KeyD).cells) (hsz:=by rfl) (hcs:=by rfl) fun _=>?_);apply ab;refine ai ?_);all_goals (refine ag 22 ?_;(refine aV (size:=3) (news:=(⟨((sa.n:Nat):Int),c.pub,c.home⟩:KeyD).cells) (q:=1) rfl rfl rfl rfl (fun _=>At.there _ (At.there _ (At.there _ (At.here _)))) (fun w G=>bo G aJ rfl rfl 1) ae (by simp only [maxLen];omega) rfl ?_ rfl ?_;(with_reducible rfl);intro A3 c3);apply ab;refine ai ?_);all_goals (refine aa 23 ?_);all_goals (refine aa 24 ?_);all_goals (refine ag 25 ?_;(refine bc ?_);apply ab;refine ai ?_);all_goals (refine aw ?_))));rotate_right;(focus (((refine aA ?_);apply ab;refine ai ?_);all_goals ((refine aa 9 ?_);all_goals (refine aa 20 (hy:=by (apply ci (cs:=(⟨((sa.n:Nat):Int),c.pub,c.home⟩:KeyD).cells);rfl;rfl)) ?_);all_goals (refine bw 4 21 (h:=?_) (h':=?_);(focus (((refine aA ?_);apply ab;refine ai ?_);all_goals ((refine ag 21 ?_;(refine bH (size:=3) (vs:=[(⟨((sa.n:Nat):Int),c.pub,c.home⟩:KeyD).v]) (css:=(⟨((sa.n:Nat):Int),c.pub,c.home⟩:KeyD).cells) (hsz:=by rfl) (hcs:=by rfl) fun _=>?_);apply ab;refine ai ?_);all_goals (refine ag 22 ?_;(refine aV (size:=3) (news:=(⟨((sa.n:Nat):Int),c.pub,c.home⟩:KeyD).cells) (q:=1) rfl rfl rfl rfl (fun _=>At.there _ (At.there _ (At.there _ (At.here _)))) (fun w G=>bo G aJ rfl rfl 1) ae (by simp only [maxLen];omega) rfl ?_ rfl ?_;(with_reducible rfl);intro A3 c3);apply ab;refine ai ?_);all_goals (refine aa 23 ?_);all_goals (refine aa 24 ?_);all_goals (refine ag 25 ?_;(refine bc ?_);apply ab;refine ai ?_);all_goals (refine aw ?_))));rotate_right;(focus (((refine bH (size:=3) (vs:=[(⟨((sa.n:Nat):Int),c.pub,c.home⟩:KeyD).v]) (css:=(⟨((sa.n:Nat):Int),c.pub,c.home⟩:KeyD).cells) (hsz:=by rfl) (hcs:=by rfl) fun _=>?_);apply ab;refine ai ?_);all_goals ((refine ag 4 ?_;(refine aA ?_);apply ab;refine ai ?_);all_goals (refine ag 22 ?_;(refine aV (size:=3) (news:=(⟨((sa.n:Nat):Int),c.pub,c.home⟩:KeyD).cells) (q:=1) rfl rfl rfl rfl (fun _=>At.there _ (At.there _ (At.there _ (At.here _)))) (fun w G=>bo G aJ rfl rfl 1) ae (by simp only [maxLen];omega) rfl ?_ rfl ?_;(with_reducible rfl);intro A3 c3);apply ab;refine ai ?_);all_goals (refine aa 23 ?_);all_goals (refine aa 24 ?_);all_goals (refine ag 25 ?_;(refine bc ?_);apply ab;refine ai ?_);all_goals (refine aw ?_))))))))))));rotate_right;(focus (((refine aA ?_);apply ab;refine ai ?_);all_goals ((refine aa 9 ?_);all_goals (refine bw 4 19 (h:=?_) (h':=?_);(focus (((refine aA ?_);apply ab;refine ai ?_);all_goals ((refine ag 19 ?_;(refine aA ?_);apply ab;refine ai ?_);all_goals (refine aa 20 (hy:=by (apply ci (cs:=(⟨((sa.n:Nat):Int),c.pub,c.home⟩:KeyD).cells);rfl;rfl)) ?_);all_goals (refine ag 21 ?_;(refine bH (size:=3) (vs:=[(⟨((sa.n:Nat):Int),c.pub,c.home⟩:KeyD).v]) (css:=(⟨((sa.n:Nat):Int),c.pub,c.home⟩:KeyD).cells) (hsz:=by rfl) (hcs:=by rfl) fun _=>?_);apply ab;refine ai ?_);all_goals (refine ag 22 ?_;(refine aV (size:=3) (news:=(⟨((sa.n:Nat):Int),c.pub,c.home⟩:KeyD).cells) (q:=1) rfl rfl rfl rfl (fun _=>At.there _ (At.there _ (At.there _ (At.here _)))) (fun w G=>bo G aJ rfl rfl 1) ae (by simp only [maxLen];omega) rfl ?_ rfl ?_;(with_reducible rfl);intro A3 c3);apply ab;refine ai ?_);all_goals (refine aa 23 ?_);all_goals (refine aa 24 ?_);all_goals (refine ag 25 ?_;(refine bc ?_);apply ab;refine ai ?_);all_goals (refine aw ?_))));rotate_right;(focus (((refine aA ?_);apply ab;refine ai ?_);all_goals ((refine aa 20 (hy:=by (apply ci (cs:=(⟨((sa.n:Nat):Int),c.pub,c.home⟩:KeyD).cells);rfl;rfl)) ?_);all_goals (refine bw 4 21 (h:=?_) (h':=?_);(focus (((refine aA ?_);apply ab;refine ai ?_);all_goals ((refine ag 21 ?_;(refine bH (size:=3) (vs:=[(⟨((sa.n:Nat):Int),c.pub,c.home⟩:KeyD).v]) (css:=(⟨((sa.n:Nat):Int),c.pub,c.home⟩:KeyD).cells) (hsz:=by rfl) (hcs:=by rfl) fun _=>?_);apply ab;refine ai ?_);all_goals (refine ag 22 ?_;(refine aV (size:=3) (news:=(⟨((sa.n:Nat):Int),c.pub,c.home⟩:KeyD).cells) (q:=1) rfl rfl rfl rfl (fun _=>At.there _ (At.there _ (At.there _ (At.here _)))) (fun w G=>bo G aJ rfl rfl 1) ae (by simp only [maxLen];omega) rfl ?_ rfl ?_;(with_reducible rfl);intro A3 c3);apply ab;refine ai ?_);all_goals (refine aa 23 ?_);all_goals (refine aa 24 ?_);all_goals (refine ag 25 ?_;(refine bc ?_);apply ab;refine ai ?_);all_goals (refine aw ?_))));rotate_right;(focus (((refine bH (size:=3) (vs:=[(⟨((sa.n:Nat):Int),c.pub,c.home⟩:KeyD).v]) (css:=(⟨((sa.n:Nat):Int),c.pub,c.home⟩:KeyD).cells) (hsz:=by rfl) (hcs:=by rfl) fun _=>?_);apply ab;refine ai ?_);all_goals ((refine ag 4 ?_;(refine aA ?_);apply ab;refine ai ?_);all_goals (refine ag 22 ?_;(refine aV (size:=3) (news:=(⟨((sa.n:Nat):Int),c.pub,c.home⟩:KeyD).cells) (q:=1) rfl rfl rfl rfl (fun _=>At.there _ (At.there _ (At.there _ (At.here _)))) (fun w G=>bo G aJ rfl rfl 1) ae (by simp only [maxLen];omega) rfl ?_ rfl ?_;(with_reducible rfl);intro A3 c3);apply ab;refine ai ?_);all_goals (refine aa 23 ?_);all_goals (refine aa 24 ?_);all_goals (refine ag 25 ?_;(refine bc ?_);apply ab;refine ai ?_);all_goals (refine aw ?_))))))))))))))));rotate_right;(focus (((refine aA ?_);apply ab;refine ai ?_);all_goals ((refine aa 9 ?_);all_goals (refine gS 4 14 19 (h:=?_) (h':=?_) (h'':=?_);(focus (((refine aA ?_);apply ab;refine ai ?_);all_goals ((refine bw 14 19 (h:=?_) (h':=?_);(focus (((refine aA ?_);apply ab;refine ai ?_);all_goals ((refine ag 19 ?_;(refine aA ?_);apply ab;refine ai ?_);all_goals (refine aa 20 (hy:=by (apply ci (cs:=(⟨((sa.n:Nat):Int),c.pub,c.home⟩:KeyD).cells);rfl;rfl)) ?_);all_goals (refine ag 21 ?_;(refine bH (size:=3) (vs:=[(⟨((sa.n:Nat):Int),c.pub,c.home⟩:KeyD).v]) (css:=(⟨((sa.n:Nat):Int),c.pub,c.home⟩:KeyD).cells) (hsz:=by rfl) (hcs:=by rfl) fun _=>?_);apply ab;refine ai ?_);all_goals (refine ag 22 ?_;(refine aV (size:=3) (news:=(⟨((sa.n:Nat):Int),c.pub,c.home⟩:KeyD).cells) (q:=1) rfl rfl rfl rfl (fun _=>At.there _ (At.there _ (At.there _ (At.here _)))) (fun w G=>bo G aJ rfl rfl 1) ae (by simp only [maxLen];omega) rfl ?_ rfl ?_;(with_reducible rfl);intro A3 c3);apply ab;refine ai ?_);all_goals (refine aa 23 ?_);all_goals (refine aa 24 ?_);all_goals (refine ag 25 ?_;(refine bc ?_);apply ab;refine ai ?_);all_goals (refine aw ?_))));rotate_right;(focus (((refine aA ?_);apply ab;refine ai ?_);all_goals ((refine ag 14 ?_;(refine aA ?_);apply ab;refine ai ?_);all_goals (refine aa 20 (hy:=by (apply ci (cs:=(⟨((sa.n:Nat):Int),c.pub,c.home⟩:KeyD).cells);rfl;rfl)) ?_);all_goals (refine ag 21 ?_;(refine bH (size:=3) (vs:=[(⟨((sa.n:Nat):Int),c.pub,c.home⟩:KeyD).v]) (css:=(⟨((sa.n:Nat):Int),c.pub,c.home⟩:KeyD).cells) (hsz:=by rfl) (hcs:=by rfl) fun _=>?_);apply ab;refine ai ?_);all_goals (refine ag 22 ?_;(refine aV (size:=3) (news:=(⟨((sa.n:Nat):Int),c.pub,c.home⟩:KeyD).cells) (q:=1) rfl rfl rfl rfl (fun _=>At.there _ (At.there _ (At.there _ (At.here _)))) (fun w G=>bo G aJ rfl rfl 1) ae (by simp only [maxLen];omega) rfl ?_ rfl ?_;(with_reducible rfl);intro A3 c3);apply ab;refine ai ?_);all_goals (refine aa 23 ?_);all_goals (refine aa 24 ?_);all_goals (refine ag 25 ?_;(refine bc ?_);apply ab;refine ai ?_);all_goals (refine aw ?_))))))));rotate_right;(focus (((refine aA ?_);apply ab;refine ai ?_);all_goals ((refine bw 4 14 (h:=?_) (h':=?_);(focus (((refine aA ?_);apply ab;refine ai ?_);all_goals ((refine ag 14 ?_;(refine aA ?_);apply ab;refine ai ?_);all_goals (refine aa 20 (hy:=by (apply ci (cs:=(⟨((sa.n:Nat):Int),c.pub,c.home⟩:KeyD).cells);rfl;rfl)) ?_);all_goals (refine ag 21 ?_;(refine bH (size:=3) (vs:=[(⟨((sa.n:Nat):Int),c.pub,c.home⟩:KeyD).v]) (css:=(⟨((sa.n:Nat):Int),c.pub,c.home⟩:KeyD).cells) (hsz:=by rfl) (hcs:=by rfl) fun _=>?_);apply ab;refine ai ?_);all_goals (refine ag 22 ?_;(refine aV (size:=3) (news:=(⟨((sa.n:Nat):Int),c.pub,c.home⟩:KeyD).cells) (q:=1) rfl rfl rfl rfl (fun _=>At.there _ (At.there _ (At.there _ (At.here _)))) (fun w G=>bo G aJ rfl rfl 1) ae (by simp only [maxLen];omega) rfl ?_ rfl ?_;(with_reducible rfl);intro A3 c3);apply ab;refine ai ?_);all_goals (refine aa 23 ?_);all_goals (refine aa 24 ?_);all_goals (refine ag 25 ?_;(refine bc ?_);apply ab;refine ai ?_);all_goals (refine aw ?_))));rotate_right;(focus (((refine aA ?_);apply ab;refine ai ?_);all_goals ((refine aa 20 (hy:=by (apply ci (cs:=(⟨((sa.n:Nat):Int),c.pub,c.home⟩:KeyD).cells);rfl;rfl)) ?_);all_goals (refine bw 4 21 (h:=?_) (h':=?_);(focus (((refine aA ?_);apply ab;refine ai ?_);all_goals ((refine ag 21 ?_;(refine bH (size:=3) (vs:=[(⟨((sa.n:Nat):Int),c.pub,c.home⟩:KeyD).v]) (css:=(⟨((sa.n:Nat):Int),c.pub,c.home⟩:KeyD).cells) (hsz:=by rfl) (hcs:=by rfl) fun _=>?_);apply ab;refine ai ?_);all_goals (refine ag 22 ?_;(refine aV (size:=3) (news:=(⟨((sa.n:Nat):Int),c.pub,c.home⟩:KeyD).cells) (q:=1) rfl rfl rfl rfl (fun _=>At.there _ (At.there _ (At.there _ (At.here _)))) (fun w G=>bo G aJ rfl rfl 1) ae (by simp only [maxLen];omega) rfl ?_ rfl ?_;(with_reducible rfl);intro A3 c3);apply ab;refine ai ?_);all_goals (refine aa 23 ?_);all_goals (refine aa 24 ?_);all_goals (refine ag 25 ?_;(refine bc ?_);apply ab;refine ai ?_);all_goals (refine aw ?_))));rotate_right;(focus (((refine bH (size:=3) (vs:=[(⟨((sa.n:Nat):Int),c.pub,c.home⟩:KeyD).v]) (css:=(⟨((sa.n:Nat):Int),c.pub,c.home⟩:KeyD).cells) (hsz:=by rfl) (hcs:=by rfl) fun _=>?_);apply ab;refine ai ?_);all_goals ((refine ag 4 ?_;(refine aA ?_);apply ab;refine ai ?_);all_goals (refine ag 22 ?_;(refine aV (size:=3) (news:=(⟨((sa.n:Nat):Int),c.pub,c.home⟩:KeyD).cells) (q:=1) rfl rfl rfl rfl (fun _=>At.there _ (At.there _ (At.there _ (At.here _)))) (fun w G=>bo G aJ rfl rfl 1) ae (by simp only [maxLen];omega) rfl ?_ rfl ?_;(with_reducible rfl);intro A3 c3);apply ab;refine ai ?_);all_goals (refine aa 23 ?_);all_goals (refine aa 24 ?_);all_goals (refine ag 25 ?_;(refine bc ?_);apply ab;refine ai ?_);all_goals (refine aw ?_))))))))))));rotate_right;(focus (((refine aA ?_);apply ab;refine ai ?_);all_goals ((refine bw 4 19 (h:=?_) (h':=?_);(focus (((refine aA ?_);apply ab;refine ai ?_);all_goals ((refine ag 19 ?_;(refine aA ?_);apply ab;refine ai ?_);all_goals (refine aa 20 (hy:=by (apply ci (cs:=(⟨((sa.n:Nat):Int),c.pub,c.home⟩:KeyD).cells);rfl;rfl)) ?_);all_goals (refine ag 21 ?_;(refine bH (size:=3) (vs:=[(⟨((sa.n:Nat):Int),c.pub,c.home⟩:KeyD).v]) (css:=(⟨((sa.n:Nat):Int),c.pub,c.home⟩:KeyD).cells) (hsz:=by rfl) (hcs:=by rfl) fun _=>?_);apply ab;refine ai ?_);all_goals (refine ag 22 ?_;(refine aV (size:=3) (news:=(⟨((sa.n:Nat):Int),c.pub,c.home⟩:KeyD).cells) (q:=1) rfl rfl rfl rfl (fun _=>At.there _ (At.there _ (At.there _ (At.here _)))) (fun w G=>bo G aJ rfl rfl 1) ae (by simp only [maxLen];omega) rfl ?_ rfl ?_;(with_reducible rfl);intro A3 c3);apply ab;refine ai ?_);all_goals (refine aa 23 ?_);all_goals (refine aa 24 ?_);all_goals (refine ag 25 ?_;(refine bc ?_);apply ab;refine ai ?_);all_goals (refine aw ?_))));rotate_right;(focus (((refine aA ?_);apply ab;refine ai ?_);all_goals ((refine aa 20 (hy:=by (apply ci (cs:=(⟨((sa.n:Nat):Int),c.pub,c.home⟩:KeyD).cells);rfl;rfl)) ?_);all_goals (refine bw 4 21 (h:=?_) (h':=?_);(focus (((refine aA ?_);apply ab;refine ai ?_);all_goals ((refine ag 21 ?_;(refine bH (size:=3) (vs:=[(⟨((sa.n:Nat):Int),c.pub,c.home⟩:KeyD).v]) (css:=(⟨((sa.n:Nat):Int),c.pub,c.home⟩:KeyD).cells) (hsz:=by rfl) (hcs:=by rfl) fun _=>?_);apply ab;refine ai ?_);all_goals (refine ag 22 ?_;(refine aV (size:=3) (news:=(⟨((sa.n:Nat):Int),c.pub,c.home⟩:KeyD).cells) (q:=1) rfl rfl rfl rfl (fun _=>At.there _ (At.there _ (At.there _ (At.here _)))) (fun w G=>bo G aJ rfl rfl 1) ae (by simp only [maxLen];omega) rfl ?_ rfl ?_;(with_reducible rfl);intro A3 c3);apply ab;refine ai ?_);all_goals (refine aa 23 ?_);all_goals (refine aa 24 ?_);all_goals (refine ag 25 ?_;(refine bc ?_);apply ab;refine ai ?_);all_goals (refine aw ?_))));rotate_right;(focus (((refine bH (size:=3) (vs:=[(⟨((sa.n:Nat):Int),c.pub,c.home⟩:KeyD).v]) (css:=(⟨((sa.n:Nat):Int),c.pub,c.home⟩:KeyD).cells) (hsz:=by rfl) (hcs:=by rfl) fun _=>?_);apply ab;refine ai ?_);all_goals ((refine ag 4 ?_;(refine aA ?_);apply ab;refine ai ?_);all_goals (refine ag 22 ?_;(refine aV (size:=3) (news:=(⟨((sa.n:Nat):Int),c.pub,c.home⟩:KeyD).cells) (q:=1) rfl rfl rfl rfl (fun _=>At.there _ (At.there _ (At.there _ (At.here _)))) (fun w G=>bo G aJ rfl rfl 1) ae (by simp only [maxLen];omega) rfl ?_ rfl ?_;(with_reducible rfl);intro A3 c3);apply ab;refine ai ?_);all_goals (refine aa 23 ?_);all_goals (refine aa 24 ?_);all_goals (refine ag 25 ?_;(refine bc ?_);apply ab;refine ai ?_);all_goals (refine aw ?_)))))))))))))))))
        all_goals exact ⟨(_,_),ax ⟨rfl,rfl,trivial⟩ (List.Sublist.cons _ (aG _)) fun w h=>h⟩
      obtain ⟨A3,c3⟩:=i
      simp only
      have hlk:=tV b ⟨ks,ki,id,fork,q1,q2,c,true⟩ sa ⟨A3,sk.n+1,c3⟩ ⟨st.acts,st.keys++[(⟨((sa.n:Nat):Int),c.pub,c.home⟩:KeyD)],W.dgC c,st.gen+1⟩ (W.won (st.gen+1)) (fun w=>Y w∧Glob w) hwon
      repeat' (first|apply ab|apply Qu|apply Qv|refine aj ?_|refine cA ?_|refine az ?_|refine aA ?_|refine be (h:=?_)|refine bc ?_|(refine aX (vs:=c.cells) (hv:=rfl) ?_)|(refine ao (hc:=gl c) (hX:=fun _ _=>trivial) ?_)|(refine ao (hc:=hdg) (hX:=fun _ h=>h) ?_)|fail)
      refine cC (pre:=[bldCel b ⟨ks,ki,id,fork,q1,q2,c,true⟩ sa ⟨A3,sk.n+1,c3⟩ (⟨st.acts,st.keys++[(⟨((sa.n:Nat):Int),c.pub,c.home⟩:KeyD)],W.dgC c,st.gen+1⟩:ChS)]) (fr:=[orow 46 20 (.slice sa.p sa.n sa.c) sa.n (st.acts.map ActD.cells).flatten,orow 35 3 (.slice A3 (sk.n+1) c3) (sk.n+1) ((st.keys.map KeyD.cells).flatten++(⟨((sa.n:Nat):Int),c.pub,c.home⟩:KeyD).cells),mapr q2 pl]) (first:=#[]) (caps:=#[]) (hc:=hlk) (hX:=fun _ h=>h) (h:=?_)
      rintro v R X' ⟨rfl,rfl⟩
      repeat' (first|apply ab|apply Qu|apply Qv|refine ad ?_|apply ar|fail)
      have hfk:((st.keys++[(⟨((sa.n:Nat):Int),c.pub,c.home⟩:KeyD)]).map KeyD.cells).flatten=(st.keys.map KeyD.cells).flatten++(⟨((sa.n:Nat):Int),c.pub,c.home⟩:KeyD).cells:=by simp
      rw [←hn] at hreg
      refine ak (ap rfl rfl) ⟨bldR b ((⟨ks,ki,id,fork,q1,q2,c,true⟩:BldH).look (W.won (st.gen+1))) sa ⟨A3,sk.n+1,c3⟩ (⟨st.acts,st.keys++[(⟨((sa.n:Nat):Int),c.pub,c.home⟩:KeyD)],W.dgC c,st.gen+1⟩:ChS) pl,?_,⟨fun s hs=>?_,fun hs=>?_⟩⟩
      · unfold bldR actR keyR
        rw [hfk]
        exact aG _
      · rw [hreg,Qc] at hs
        subst hs
        exact ⟨rfl,sa,⟨A3,sk.n+1,c3⟩,pl,⟨hn,by rw [ZX,←hk];rfl,hp⟩,rfl⟩
      · rw [hreg] at hs
        cases hs
  · have hne:(!decide (a.kind=(19:Int)))=true:=by rw [Zn hk19];rfl
    repeat' (first|refine am (gd true rfl rfl (ZA ae)) rfl rfl rfl ?_|refine am (ei true rfl rfl hne) rfl aE rfl ?_|apply ab|apply Qu|apply Qv|refine aj ?_|refine ad ?_|refine cA ?_|refine az ?_|refine aA ?_|refine aB ?_|refine cL (h:=?_)|refine Qy ?_|apply Qx|apply Qw|(refine bz (q:=k*20) ?_)|(refine gX ?_)|(refine am (gc (i:=k) (j:=3) (cs:=a.cells) (u:=.int .i64 a.kind) rfl hrow hm1 (fZ _) hi1 rfl) rfl rfl rfl ?_)|fail)
    exact ⟨(⟨k,by omega,by rw [hs,setI,haD,Zn hk19];rfl⟩:SetI st.acts),Nat.lt_succ_self k,ax ⟨rfl,rfl,(by show some (Value.int IntKind.i64 (((k+1:Nat):Int)-1-1))=some (Value.int IntKind.i64 ((k:Int)-1));rw [show ((k+1:Nat):Int)-1-1=(k:Int)-1 from by omega]),trivial⟩ (aG _) fun _ h=>h⟩
def quoN (n:Nat):Nat:=if n=0 then 1 else n/3*2+n%3*2/3+1
theorem vJ (n:Nat) (hn:n≤1000000):Pu Tryz.prog 81 #[.int .i64 (n:Nat)] (fun _=>True) (.int .i64 (quoN n:Nat)):=by
 refine ay (args:=[_]) _ Tryz.func81 rfl Tryz.ntmps81 rfl fun av bor w0=>?_
 by_cases h0:n=0
 · subst h0
   repeat' (first|apply ab|apply Qu|apply Qv|refine aj ?_|refine ad ?_|refine cB ?_|apply Qx|apply ar|(refine aF (ht:=?_) (hf:=?_);all_goals (intro hx_;first|have:=aO hx_|have:=aQ hx_)))
   · exact ak (ap rfl rfl) rfl
   · exact absurd this (by decide)
 · have q1:IntKind.i64.wrap ((n:Int).tdiv 3)=((n/3:Nat):Int):=IntWalk.i64_in _ (by show _≤((n/3:Nat):Int)∧((n/3:Nat):Int)≤_;omega)
   have q2:IntKind.i64.wrap (((n/3:Nat):Int)*2)=((n/3*2:Nat):Int):=IntWalk.i64_in _ ae
   have q3:(n:Int).tmod 3=((n%3:Nat):Int):=rfl
   have q4:IntKind.i64.wrap (((n%3:Nat):Int)*2)=((n%3*2:Nat):Int):=IntWalk.i64_in _ ae
   have q5:IntKind.i64.wrap (((n%3*2:Nat):Int).tdiv 3)=((n%3*2/3:Nat):Int):=IntWalk.i64_in _ (by show _≤((n%3*2/3:Nat):Int)∧((n%3*2/3:Nat):Int)≤_;omega)
   have hV:quoN n=n/3*2+n%3*2/3+1:=by rw [quoN,Qg h0]
   have b1:n/3*2≤2*n:=by omega
   have b2:n%3*2/3≤2:=by omega
   rw [hV]
   generalize n/3=x1 at *
   generalize n%3=x2 at *
   generalize x2*2/3=x3 at *
   repeat' (first|refine am (kL rfl rfl (by decide) q1) rfl rfl rfl ?_|refine am (kL rfl rfl (by decide) q5) rfl rfl rfl ?_|refine am (pw rfl rfl q2) rfl rfl rfl ?_|refine am (pw rfl rfl q4) rfl rfl rfl ?_|refine am (mZ rfl rfl (by decide) q3) rfl rfl rfl ?_|apply ab|apply Qu|apply Qv|refine aj ?_|refine ad ?_|refine cB ?_|refine be (h:=?_)|apply Qx|apply ar|(refine aF (ht:=?_) (hf:=?_);all_goals (intro hx_;first|have:=aO hx_|have:=aQ hx_)))
   all_goals first
    | (exfalso;omega)
    | exact ak (ap rfl rfl) (congrArg (Value.int .i64) ae)
def wonB (sv:Nat) (dC:ClaimD→ByteArray) (B:List BallotD) (gn:Int) (c:ClaimD):Bool:=decide (c.gen=gn)&&decide (quoN sv≤(votV (dC c) B).length)
def wonO (sv:Nat) (C:List ClaimD) (dC:ClaimD→ByteArray) (B:List BallotD) (gn:Int):Option ClaimD:=C.find? (wonB sv dC B gn)
structure WonI (C:List ClaimD) (p:ClaimD→Bool) where
 k:Nat
 hk:k≤C.length
 hs:C.find? p=(C.drop k).find? p
set_option maxHeartbeats 4000000 in
theorem CO (ks ki:SlV) (L:List Int) (I:List ItemD) (au:ByteArray) (gn:Int) (C:List ClaimD) (B:List BallotD) (dC:ClaimD→ByteArray) (hB:B.length≤1000000) (hL:L.length≤1000000)
  (hC:Mk Tryz.prog 82 #[.agg #[ks.v,ki.v],.string au] (fun w=>Items w ki I∧Glob w) (fun u X'=>∃ s:SlV,u=s.v∧∀ w,X' w→Claims w s C))
  (hK:Mk Tryz.prog 194 #[.agg #[ks.v,ki.v],.string au,.int .i64 gn] (fun w=>Items w ki I∧Glob w) (fun u X'=>∃ s:SlV,u=s.v∧∀ w,X' w→Ballots w s B))
  (hD:∀ c∈C,Pu Tryz.prog 14 #[(ofClaimI c).v] Glob (.string (dC c))) :
  Pu Tryz.prog 51 #[.agg #[ks.v,ki.v],.string au,.int .i64 gn] (fun w=>(Ints w ks L∧Items w ki I)∧Glob w) (.tuple #[((wonO L.length C dC B gn).getD ClaimD.zero).v,.bool (wonO L.length C dC B gn).isSome]):=by
 refine ay (args:=[_,_,_]) _ Tryz.func51 rfl Tryz.ntmps51 rfl fun av bor w0=>?_
 refine bK (p:=ks.n=L.length) (fun w h=>h.1.1.len_) fun hkn=>?_
 have hqu:=vJ ks.n ae
 rw [wonO]
 have hpd:∀ c,wonB L.length dC B gn c=(decide (c.gen=gn)&&decide (quoN ks.n≤(votV (dC c) B).length)):=fun c=>by rw [hkn];rfl
 generalize wonB L.length dC B gn=p at *
 generalize quoN ks.n=qn at *
 repeat' (first|apply ab|apply Qu|apply Qv|refine aj ?_|refine ad ?_|refine az ?_|refine aA ?_|refine aD ?_|refine aW ?_|refine aI fun _=>?_|refine aK fun _=>?_|apply Qw|(refine ao (hc:=hqu) (hX:=fun _ _=>trivial) ?_)|(refine cM (hc:=hC) (hX:=fun w h=>⟨h.1.2,h.2⟩) fun v1 X1 h1=>?_;obtain ⟨s,rfl,hw⟩:=h1)|fail)
 rename_i b3 b6
 refine bK (p:=s.n=C.length∧s.n≤maxLen∧(0<C.length→s.p.isSome=true)) (fun w h=>⟨by simpa using RowsD.len (hw w h.2),Qq (RowsD.cap (hw w h.2)) (RowsD.max (hw w h.2)),fun h0=>(RowsD.row (hw w h.2) 0 C[0].cells (by simp [Zm h0])).2.1⟩) fun ⟨hsn,hsm,hsp⟩=>?_
 simp only [maxLen] at hsm
 refine aT (ι:=WonI C p) (fun i=>⟨[(1,.string au),(2,.int .i64 gn),(3,.pointer (some ⟨b3,0,none⟩)),(6,.pointer (some ⟨b6,0,none⟩)),(8,.int .i64 (qn:Nat)),(18,s.v),(19,.int .i64 (s.n:Nat)),(20,.int .i64 (i.k:Nat))],[cel b6 51 ClaimD.zero.cells,cel b3 25 [ks.v,ki.v]],fun w=>((Ints w ks L∧Items w ki I)∧Glob w)∧X1 w⟩) (fun i=>C.length-i.k) ⟨0,Nat.zero_le _,rfl⟩ (ax ⟨rfl,rfl,rfl,rfl,rfl,rfl,rfl,rfl,trivial⟩ (aG _) fun _ h=>h) fun i=>?_
 obtain ⟨k,hk,hs⟩:=i
 simp only
 by_cases hlt:k<C.length
 · have hsp':=hsp ae
   obtain ⟨c,hc⟩:∃ c,C[k]?=some c:=⟨_,Zm hlt⟩
   have hcm:=List.mem_of_getElem? hc
   have hdr:C.drop k=c::C.drop (k+1):=by
    rw [List.drop_eq_getElem_cons hlt]
    rw [Zm hlt,Qc] at hc
    rw [hc]
   have hrow:∀ w,((Ints w ks L∧Items w ki I)∧Glob w)∧X1 w→c.cells.length=9∧s.p.isSome=true∧∀ i u,c.cells[i]?=some u→CellAt w s.p (k*9+i) u:=fun w h=>RowsD.row (hw w h.2) k c.cells (by simp [hc])
   have hvo:=uu ks ki I au gn (dC c) B hB hK
   have hdi:=hD c hcm
   have hpc:=hpd c
   generalize votV (dC c) B=V at *
   by_cases hg:c.gen=gn
   · rw [ZA hg,ZD] at hpc
     by_cases hq:qn≤V.length
     · have hF:C.find? p=some c:=by rw [hs,hdr,List.find?_cons,hpc,ZA hq]
       rw [hF]
       repeat' (first|refine am (bQ true rfl rfl (ZA ae)) rfl aE rfl ?_|refine am (ei false rfl rfl (by simp [hg])) rfl aE rfl ?_|refine am (gd true rfl rfl (ZA ae)) rfl aE rfl ?_|apply ab|apply Qu|apply Qv|refine aj ?_|refine ad ?_|refine az ?_|refine aA ?_|refine aD ?_|refine aW ?_|refine aI fun _=>?_|refine aH ?_|refine Qy ?_|refine Qz ?_|apply Qx|apply Qw|apply ar|(refine bz (q:=k*9) ?_)|(refine cq (cs:=c.cells) (hF:=hrow) ?_)|(refine ao (hc:=gl c) (hX:=fun _ _=>trivial) ?_)|(refine ao (hc:=hdi) (hX:=fun w h=>h.1.2) ?_)|(refine cM (hc:=hvo) (hX:=fun w h=>⟨h.1.1.2,h.1.2⟩) fun v2 X2 h2=>?_;obtain ⟨A2,c2,rfl⟩:=h2)|fail)
       all_goals first
        | exact ak (dc rfl rfl rfl bL (by rfl)) rfl
     · have hF:C.find? p=(C.drop (k+1)).find? p:=by rw [hs,hdr,List.find?_cons,hpc,Zn hq]
       repeat' (first|refine am (bQ true rfl rfl (ZA ae)) rfl aE rfl ?_|refine am (ei false rfl rfl (by simp [hg])) rfl aE rfl ?_|refine am (gd false rfl rfl (Zn ae)) rfl aE rfl ?_|apply ab|apply Qu|apply Qv|refine aj ?_|refine ad ?_|refine az ?_|refine aA ?_|refine aD ?_|refine aW ?_|refine be (h:=?_)|refine aI fun _=>?_|refine aH ?_|refine Qy ?_|refine Qz ?_|apply Qx|apply Qw|(refine bz (q:=k*9) ?_)|(refine cq (cs:=c.cells) (hF:=hrow) ?_)|(refine ao (hc:=gl c) (hX:=fun _ _=>trivial) ?_)|(refine ao (hc:=hdi) (hX:=fun w h=>h.1.2) ?_)|(refine cM (hc:=hvo) (hX:=fun w h=>⟨h.1.1.2,h.1.2⟩) fun v2 X2 h2=>?_;obtain ⟨A2,c2,rfl⟩:=h2)|fail)
       all_goals first
        | exact ⟨(⟨k+1,hlt,hF⟩:WonI C p),(by show C.length-(k+1)<C.length-k;omega),ax ⟨rfl,rfl,rfl,rfl,rfl,rfl,rfl,rfl,trivial⟩ (.cons _ (aG _)) fun _ h=>h.1⟩
   · have hF:C.find? p=(C.drop (k+1)).find? p:=by rw [hs,hdr,List.find?_cons,hpc,Zn hg,ZG]
     repeat' (first|refine am (bQ true rfl rfl (ZA ae)) rfl aE rfl ?_|refine am (ei true rfl rfl (by simp [hg])) rfl aE rfl ?_|apply ab|apply Qu|apply Qv|refine aj ?_|refine az ?_|refine aA ?_|refine be (h:=?_)|refine aI fun _=>?_|refine aH ?_|refine Qy ?_|apply Qx|apply Qw|apply aS|(refine bz (q:=k*9) ?_)|(refine cq (cs:=c.cells) (hF:=hrow) ?_)|fail)
     all_goals first
      | exact ⟨(⟨k+1,hlt,hF⟩:WonI C p),(by show C.length-(k+1)<C.length-k;omega),ax ⟨rfl,rfl,rfl,rfl,rfl,rfl,rfl,rfl,trivial⟩ (.cons _ (aG _)) fun _ h=>h⟩
 · have hF:C.find? p=none:=by rw [hs,List.drop_of_length_le (by omega)];rfl
   rw [hF]
   repeat' (first|refine am (bQ false rfl rfl (Zn ae)) rfl aE rfl ?_|apply ab|apply Qu|apply Qv|refine ad ?_|refine aH ?_|refine Qz ?_|apply ar|apply aS|(refine bm (cs:=ClaimD.zero.cells) (hf:=by rfl) ?_)|fail)
   all_goals first
    | exact ak (dc rfl rfl rfl bL (by rfl)) rfl
theorem cr {P:Program} {d:Nat} {xs ys:Array Value} {f:Field} {fs:List Field} {a b:Value} {r q:Bool} {w:World}
  (hn:f.name≠ "_") (ha:(part f.type xs f.offset).run P w=.ok a w) (hb:(part f.type ys f.offset).run P w=.ok b w)
  (hr:(Op.equalIn d f.type a b).run P w=.ok r w) (hq:(Op.eqFields d xs ys fs).run P w=.ok q w) :
  (Op.eqFields d xs ys (f::fs)).run P w=.ok (r&&q) w:=by
 rw [Op.eqFields,Qf hn]
 simp only [Sem.run_bind,ha,hb,hr,Result.andThen_ok]
 cases r<;>simp [hq]
theorem g8 {P:Program} {d:Nat} {xs ys:Array Value} {w:World}:(Op.eqFields d xs ys []).run P w=.ok true w:=by simp [Op.eqFields]
theorem bx {P:Program} {t:TypeId} {cs:Array Value} {o:Nat} {v:Value} {w:World} [h1:TyOne P t] (hx:cs[o]?=some v):(part t cs o).run P w=.ok v w:=by
 have hag:=(cH (TyOne.out (P:=P) (t:=t)) w).1
 simp [part,hag,hx]
theorem di {P:Program} {d:Nat} {t:TypeId} {k:IntKind} {a b:Int} {w:World} [TyInt P t k]:(Op.equalIn (d+1) t (.int k a) (.int k b)).run P w=.ok (decide (a=b)) w:=by
 rw [run_equalIn_int (P:=P) w d t k k a b TyInt.out]
 congr 1
theorem fy {P:Program} {d:Nat} {t:TypeId} {a b:ByteArray} {w:World} [TyStr P t]:(Op.equalIn (d+1) t (.string a) (.string b)).run P w=.ok (seqB a b) w :=
 run_equalIn_string (P:=P) w d t a b TyStr.out
theorem pN:Tryz.prog.underlying 44=some (.struct (Tryz.prog.fieldsOf 44)):=by kernel_rfl
theorem rA:Tryz.prog.stoodInHeld 44=false:=by kernel_rfl
theorem yd (w:World):(isAgg 44).run Tryz.prog w=.ok true w:=by kernel_rfl
theorem vl (w:World):(Go.sizeOf 44).run Tryz.prog w=.ok 2 w:=by kernel_rfl
theorem gH {cs:Array Value} {o:Nat} {w:World}:(part 44 cs o).run Tryz.prog w=.ok (.agg (cs.extract o (o+2))) w:=by
 simp [part,yd,vl]
theorem mu {d:Nat} {a b c e:Int} {w:World}:(Op.equalIn (d+2) 44 (.agg #[.int .i64 a,.int .i64 b]) (.agg #[.int .i64 c,.int .i64 e])).run Tryz.prog w=.ok (decide (a=c)&&(decide (b=e)&&true)) w:=by
 rw [run_equalIn_agg w (d+1) _ _ _ pN rA]
 have hf:(Tryz.prog.fieldsOf 44).toList.map (fun f=>(f.name,f.type,f.offset))=[("E",3,0),("S",3,1)]:=by kernel_rfl
 generalize (Tryz.prog.fieldsOf 44).toList=l at hf
 rcases l with _|⟨⟨n1,t1,o1,_⟩,_|⟨⟨n2,t2,o2,_⟩,_|⟨f3,l⟩⟩⟩
 case cons.cons.nil =>
  simp only [Qt,List.map_nil,List.cons.injEq,Prod.mk.injEq,and_true] at hf
  obtain ⟨⟨rfl,rfl,rfl⟩,rfl,rfl,rfl⟩:=hf
  exact cr (by dsimp only;decide) (bx rfl) (bx rfl) di (cr (by dsimp only;decide) (bx rfl) (bx rfl) di g8)
 all_goals (have:=congrArg List.length hf;simp at this)
def claimEq (a b:ClaimD):Bool:=seqB a.actor b.actor&&(decide (a.base=b.base)&&(seqB a.prev b.prev&&(decide (a.gen=b.gen)&&(decide (a.home=b.home)&&(decide (a.pub=b.pub)&&(decide (a.time=b.time)&&((decide (a.e=b.e)&&(decide (a.s=b.s)&&true))&&true)))))))
theorem my:Tryz.prog.underlying 51=some (.struct (Tryz.prog.fieldsOf 51)):=by kernel_rfl
theorem mV:Tryz.prog.stoodInHeld 51=false:=by kernel_rfl
theorem mW:Tryz.prog.eqGuardType Tryz.prog.depth 51=false:=by kernel_rfl
theorem pT (w:World) (a b:ClaimD):(Op.equalIn 10000 51 (.agg a.cells.toArray) (.agg b.cells.toArray)).run Tryz.prog w=.ok (claimEq a b) w:=by
 rw [show (10000:Nat)=9999+1 from rfl,run_equalIn_agg w 9999 _ _ _ my mV]
 have hf:(Tryz.prog.fieldsOf 51).toList.map (fun f=>(f.name,f.type,f.offset))=[("Actor",9,0),("Base",3,1),("Prev",9,2),("Gen",3,3),("Home",3,4),("Public",3,5),("Time",3,6),("Sig",44,7)]:=by kernel_rfl
 generalize (Tryz.prog.fieldsOf 51).toList=l at hf
 rcases l with _|⟨⟨n1,t1,o1,_⟩,_|⟨⟨n2,t2,o2,_⟩,_|⟨⟨n3,t3,o3,_⟩,_|⟨⟨n4,t4,o4,_⟩,_|⟨⟨n5,t5,o5,_⟩,_|⟨⟨n6,t6,o6,_⟩,_|⟨⟨n7,t7,o7,_⟩,_|⟨⟨n8,t8,o8,_⟩,_|⟨g,l⟩⟩⟩⟩⟩⟩⟩⟩⟩
 case cons.cons.cons.cons.cons.cons.cons.cons.nil =>
  simp only [Qt,List.map_nil,List.cons.injEq,Prod.mk.injEq,and_true] at hf
  obtain ⟨⟨rfl,rfl,rfl⟩,⟨rfl,rfl,rfl⟩,⟨rfl,rfl,rfl⟩,⟨rfl,rfl,rfl⟩,⟨rfl,rfl,rfl⟩,⟨rfl,rfl,rfl⟩,⟨rfl,rfl,rfl⟩,rfl,rfl,rfl⟩:=hf
  exact cr (by dsimp only;decide) (bx rfl) (bx rfl) fy (cr (by dsimp only;decide) (bx rfl) (bx rfl) di (cr (by dsimp only;decide) (bx rfl) (bx rfl) fy (cr (by dsimp only;decide) (bx rfl) (bx rfl) di (cr (by dsimp only;decide) (bx rfl) (bx rfl) di (cr (by dsimp only;decide) (bx rfl) (bx rfl) di (cr (by dsimp only;decide) (bx rfl) (bx rfl) di (cr (by dsimp only;decide) gH gH mu (g8))))))))
 all_goals (have:=congrArg List.length hf;simp at this)
theorem mI {N:Nat} {av bor:List Nat} {w0:World} {st:St} {ty t2:TypeId} {x y:Operand} {a b:ClaimD} (hx:ev st.env x=some (.agg a.cells.toArray)) (hy:ev st.env y=some (.agg b.cells.toArray)) :
  Sy.Yields Tryz.prog N av bor w0 st (.binOp .eql 51 x y t2) ty (.bool (claimEq a b)):=Sy.Yields.mk fun A w ok d pos af g=>by
 have h1:=run_eql_struct (P:=Tryz.prog) w 51 a.cells.toArray b.cells.toArray
 rw [pT w a b] at h1
 simp [execOp,ok.eval (st:=st) hx,ok.eval (st:=st) hy,run_eqGuard_agg _ _ _ _ _ _ _ mW,h1]
def ballotEq (a b:BallotD):Bool:=decide (a.server=b.server)&&(seqB a.actor b.actor&&(decide (a.gen=b.gen)&&(seqB a.claim b.claim&&(decide (a.time=b.time)&&((decide (a.e=b.e)&&(decide (a.s=b.s)&&true))&&true)))))
theorem kz:Tryz.prog.underlying 53=some (.struct (Tryz.prog.fieldsOf 53)):=by kernel_rfl
theorem mE:Tryz.prog.stoodInHeld 53=false:=by kernel_rfl
theorem mF:Tryz.prog.eqGuardType Tryz.prog.depth 53=false:=by kernel_rfl
theorem oB (w:World) (a b:BallotD):(Op.equalIn 10000 53 (.agg a.cells.toArray) (.agg b.cells.toArray)).run Tryz.prog w=.ok (ballotEq a b) w:=by
 rw [show (10000:Nat)=9999+1 from rfl,run_equalIn_agg w 9999 _ _ _ kz mE]
 have hf:(Tryz.prog.fieldsOf 53).toList.map (fun f=>(f.name,f.type,f.offset))=[("Server",3,0),("Actor",9,1),("Gen",3,2),("Claim",9,3),("Time",3,4),("Sig",44,5)]:=by kernel_rfl
 generalize (Tryz.prog.fieldsOf 53).toList=l at hf
 rcases l with _|⟨⟨n1,t1,o1,_⟩,_|⟨⟨n2,t2,o2,_⟩,_|⟨⟨n3,t3,o3,_⟩,_|⟨⟨n4,t4,o4,_⟩,_|⟨⟨n5,t5,o5,_⟩,_|⟨⟨n6,t6,o6,_⟩,_|⟨g,l⟩⟩⟩⟩⟩⟩⟩
 case cons.cons.cons.cons.cons.cons.nil =>
  simp only [Qt,List.map_nil,List.cons.injEq,Prod.mk.injEq,and_true] at hf
  obtain ⟨⟨rfl,rfl,rfl⟩,⟨rfl,rfl,rfl⟩,⟨rfl,rfl,rfl⟩,⟨rfl,rfl,rfl⟩,⟨rfl,rfl,rfl⟩,rfl,rfl,rfl⟩:=hf
  exact cr (by dsimp only;decide) (bx rfl) (bx rfl) di (cr (by dsimp only;decide) (bx rfl) (bx rfl) fy (cr (by dsimp only;decide) (bx rfl) (bx rfl) di (cr (by dsimp only;decide) (bx rfl) (bx rfl) fy (cr (by dsimp only;decide) (bx rfl) (bx rfl) di (cr (by dsimp only;decide) gH gH mu (g8))))))
 all_goals (have:=congrArg List.length hf;simp at this)
theorem kQ {N:Nat} {av bor:List Nat} {w0:World} {st:St} {ty t2:TypeId} {x y:Operand} {a b:BallotD} (hx:ev st.env x=some (.agg a.cells.toArray)) (hy:ev st.env y=some (.agg b.cells.toArray)) :
  Sy.Yields Tryz.prog N av bor w0 st (.binOp .eql 53 x y t2) ty (.bool (ballotEq a b)):=Sy.Yields.mk fun A w ok d pos af g=>by
 have h1:=run_eql_struct (P:=Tryz.prog) w 53 a.cells.toArray b.cells.toArray
 rw [oB w a b] at h1
 simp [execOp,ok.eval (st:=st) hx,ok.eval (st:=st) hy,run_eqGuard_agg _ _ _ _ _ _ _ mF,h1]
def keyEq (a b:KeyD):Bool:=decide (a.from_=b.from_)&&(decide (a.public_=b.public_)&&(decide (a.home=b.home)&&true))
theorem oW:Tryz.prog.underlying 35=some (.struct (Tryz.prog.fieldsOf 35)):=by kernel_rfl
theorem qG:Tryz.prog.stoodInHeld 35=false:=by kernel_rfl
theorem kc:Tryz.prog.eqGuardType Tryz.prog.depth 35=false:=by kernel_rfl
theorem nq (w:World) (a b:KeyD):(Op.equalIn 10000 35 (.agg a.cells.toArray) (.agg b.cells.toArray)).run Tryz.prog w=.ok (keyEq a b) w:=by
 rw [show (10000:Nat)=9999+1 from rfl,run_equalIn_agg w 9999 _ _ _ oW qG]
 have hf:(Tryz.prog.fieldsOf 35).toList.map (fun f=>(f.name,f.type,f.offset))=[("From",3,0),("Public",3,1),("Home",3,2)]:=by kernel_rfl
 generalize (Tryz.prog.fieldsOf 35).toList=l at hf
 rcases l with _|⟨⟨n1,t1,o1,_⟩,_|⟨⟨n2,t2,o2,_⟩,_|⟨⟨n3,t3,o3,_⟩,_|⟨g,l⟩⟩⟩⟩
 case cons.cons.cons.nil =>
  simp only [Qt,List.map_nil,List.cons.injEq,Prod.mk.injEq,and_true] at hf
  obtain ⟨⟨rfl,rfl,rfl⟩,⟨rfl,rfl,rfl⟩,rfl,rfl,rfl⟩:=hf
  exact cr (by dsimp only;decide) (bx rfl) (bx rfl) di (cr (by dsimp only;decide) (bx rfl) (bx rfl) di (cr (by dsimp only;decide) (bx rfl) (bx rfl) di (g8)))
 all_goals (have:=congrArg List.length hf;simp at this)
theorem px {N:Nat} {av bor:List Nat} {w0:World} {st:St} {ty t2:TypeId} {x y:Operand} {a b:KeyD} (hx:ev st.env x=some (.agg a.cells.toArray)) (hy:ev st.env y=some (.agg b.cells.toArray)) :
  Sy.Yields Tryz.prog N av bor w0 st (.binOp .eql 35 x y t2) ty (.bool (keyEq a b)):=Sy.Yields.mk fun A w ok d pos af g=>by
 have h1:=run_eql_struct (P:=Tryz.prog) w 35 a.cells.toArray b.cells.toArray
 rw [nq w a b] at h1
 simp [execOp,ok.eval (st:=st) hx,ok.eval (st:=st) hy,run_eqGuard_agg _ _ _ _ _ _ _ kc,h1]
theorem jV {N:Nat} {av bor:List Nat} {w0:World} {st:St} {ty t2:TypeId} {x y:Operand} {a b:KeyD} (hx:ev st.env x=some (.agg a.cells.toArray)) (hy:ev st.env y=some (.agg b.cells.toArray)) :
  Sy.Yields Tryz.prog N av bor w0 st (.binOp .neq 35 x y t2) ty (.bool (!keyEq a b)):=Sy.Yields.mk fun A w ok d pos af g=>by
 have h1:=run_neq_struct (P:=Tryz.prog) w 35 a.cells.toArray b.cells.toArray
 rw [nq w a b] at h1
 simp [execOp,ok.eval (st:=st) hx,ok.eval (st:=st) hy,run_eqGuard_agg _ _ _ _ _ _ _ kc,h1]
theorem eu (n l h:Int):Pu Tryz.prog 115 #[.int .i64 n,.int .i64 l,.int .i64 h] (fun _=>True) (.bool (withinB n l h)):=by
 refine ay (args:=[_,_,_]) _ Tryz.func115 rfl Tryz.ntmps115 rfl fun av bor w0=>?_
 repeat' (first|apply ab|apply Qu|apply Qv|refine aj ?_|refine ad ?_|refine aB ?_|refine aC ?_|refine cB ?_|refine aL ?_|apply ar|((fail_if_success (refine aZ ?_));refine aP (ht:=?_) (hf:=?_);all_goals (intro hx_;first|have:=aO hx_|have:=aQ hx_))|fail)
 (all_goals (apply ak;apply ap;rfl;rfl));all_goals (simp only [withinB, *,ZQ,ZO,ZC,ZB,ZE,ZD,ZH,ZG,ZK,ZI,ZP,ZJ,ZN,ZF];done)
theorem gu (n:Int):Pu Tryz.prog 117 #[.int .i64 n] (fun _=>True) (.bool (withinB n 0 19)):=by
 refine ay (args:=[_]) _ Tryz.func117 rfl Tryz.ntmps117 rfl fun av bor w0=>?_
 repeat' (first|apply ab|apply Qu|apply Qv|refine aj ?_|refine ad ?_|apply ar|refine ao (hc:=eu _ _ _) ?_|fail)
 all_goals exact ak (ap rfl rfl) rfl
theorem ip (n:Int):Pu Tryz.prog 118 #[.int .i64 n] (fun _=>True) (.bool (withinB n 0 1099511627776)):=by
 refine ay (args:=[_]) _ Tryz.func118 rfl Tryz.ntmps118 rfl fun av bor w0=>?_
 repeat' (first|apply ab|apply Qu|apply Qv|refine aj ?_|refine ad ?_|apply ar|refine ao (hc:=eu _ _ _) ?_|fail)
 all_goals exact ak (ap rfl rfl) rfl
theorem gv (s:ByteArray):Pu Tryz.prog 116 #[.string s] (fun _=>True) (.bool (isDigestB s)):=by
 refine ay (args:=[_]) _ Tryz.func116 rfl Tryz.ntmps116 rfl fun av bor w0=>?_
 repeat' (first|apply ab|apply Qu|apply Qv|refine aj ?_|refine ad ?_|refine bM ?_|refine bU ?_|apply ar|fail)
 all_goals exact ak (ap rfl rfl) rfl
def sigB (e s:Int):Bool:=withinB e 0 2305843009213693949&&withinB s 0 2305843009213693949
theorem gF (e s:Int):Pu Tryz.prog 119 #[.agg #[.int .i64 e,.int .i64 s]] (fun _=>True) (.bool (sigB e s)):=by
 refine ay (args:=[_]) _ Tryz.func119 rfl Tryz.ntmps119 rfl fun av bor w0=>?_
 repeat' (first|apply ab|apply Qu|apply Qv|refine aj ?_|refine ad ?_|refine az ?_|refine aA ?_|refine aB ?_|refine aC ?_|refine aL ?_|refine aK fun _=>?_|apply ar|refine ao (hc:=eu _ _ _) ?_|((fail_if_success (refine aZ ?_));refine aP (ht:=?_) (hf:=?_);all_goals (intro hx_;skip))|fail)
 (all_goals (apply ak;apply ap;rfl;rfl));all_goals (simp only [sigB, *,ZQ,ZO,ZC,ZB,ZE,ZD,ZH,ZG,ZK,ZI,ZP,ZJ,ZN,ZF];done)
def claimR (c:ClaimD):Bool:=isId c.actor&&(withinB c.base 1 1073741824&&(isDigestB c.prev&&(withinB c.gen 0 1073741824&&(withinB c.home 0 19&&(withinB c.pub 1 2305843009213693950&&(withinB c.time 0 1099511627776&&sigB c.e c.s))))))
set_option maxHeartbeats 4000000 in
theorem mN (c:ClaimD):Pu Tryz.prog 74 #[c.v] (fun _=>True) (.bool (claimR c)):=by
 refine ay (args:=[_]) _ Tryz.func74 rfl Tryz.ntmps74 rfl fun av bor w0=>?_
 repeat' (first|apply ab|apply Qu|apply Qv|refine aj ?_|refine ad ?_|refine az ?_|refine aA ?_|refine aB ?_|refine aC ?_|refine aL ?_|refine aK fun _=>?_|apply ar|refine ao (hc:=fT _) ?_|refine ao (hc:=eu _ _ _) ?_|refine ao (hc:=gv _) ?_|refine ao (hc:=gu _) ?_|refine ao (hc:=ip _) ?_|refine ao (hc:=gF c.e c.s) ?_|(refine aX (vs:=[.int .i64 c.e,.int .i64 c.s]) (hv:=rfl) ?_)|((fail_if_success (refine aZ ?_));refine aP (ht:=?_) (hf:=?_);all_goals (intro hx_;first|have:=aO hx_|have:=aQ hx_|skip))|fail)
 (all_goals (apply ak;apply ap;rfl;rfl));all_goals (simp only [claimR, *,ZQ,ZO,ZC,ZB,ZE,ZD,ZH,ZG,ZK,ZI,ZP,ZJ,ZN,ZF];done)
def ballotR (b:BallotD):Bool:=withinB b.server 0 19&&(isId b.actor&&(withinB b.gen 0 1073741824&&(isDigestB b.claim&&(withinB b.time 0 1099511627776&&sigB b.e b.s))))
set_option maxHeartbeats 4000000 in
theorem lQ (b:BallotD):Pu Tryz.prog 75 #[b.v] (fun _=>True) (.bool (ballotR b)):=by
 refine ay (args:=[_]) _ Tryz.func75 rfl Tryz.ntmps75 rfl fun av bor w0=>?_
 repeat' (first|apply ab|apply Qu|apply Qv|refine aj ?_|refine ad ?_|refine az ?_|refine aA ?_|refine aB ?_|refine aC ?_|refine aL ?_|refine aK fun _=>?_|apply ar|refine ao (hc:=fT _) ?_|refine ao (hc:=eu _ _ _) ?_|refine ao (hc:=gv _) ?_|refine ao (hc:=gu _) ?_|refine ao (hc:=ip _) ?_|refine ao (hc:=gF b.e b.s) ?_|(refine aX (vs:=[.int .i64 b.e,.int .i64 b.s]) (hv:=rfl) ?_)|((fail_if_success (refine aZ ?_));refine aP (ht:=?_) (hf:=?_);all_goals (intro hx_;first|have:=aO hx_|have:=aQ hx_|skip))|fail)
 (all_goals (apply ak;apply ap;rfl;rfl));all_goals (simp only [ballotR, *,ZQ,ZO,ZC,ZB,ZE,ZD,ZH,ZG,ZK,ZI,ZP,ZJ,ZN,ZF];done)
def plainD (d:DecD):Bool:=decide ((d.to.n:Int)=0)&&decide (d.n=0)
def reasonD (d:DecD):Bool:=decide ((d.text.size:Int)≤500)
def kindA (k:Int):Bool:=decide (k=0)||(decide (k=1)||(decide (k=4)||(decide (k=6)||decide (k=7))))
def kindO (k:Int):Bool:=decide (k=2)||(decide (k=3)||decide (k=5))
def termsB (d:DecD):Bool :=
 bif kindA d.kind then isId d.actor&&(seqB d.object ⟨#[]⟩&&(reasonD d&&plainD d))
 else bif kindO d.kind then seqB d.actor ⟨#[]⟩&&(isDigestB d.object&&(reasonD d&&plainD d))
 else bif decide (d.kind=8) then seqB d.actor ⟨#[]⟩&&(seqB d.object ⟨#[]⟩&&(reasonD d&&(isIds d.toL&&withinB d.n 1 (d.to.n:Nat))))
 else bif decide (d.kind=9) then seqB d.actor ⟨#[]⟩&&(seqB d.object ⟨#[]⟩&&(decide ((d.text.size:Int)≤4096)&&plainD d))
 else false
set_option maxHeartbeats 16000000 in
theorem mM (d:DecD):Pu Tryz.prog 120 #[d.v] (fun w=>d.at_ w) (.bool (termsB d)):=by
 refine ay (args:=[_]) _ Tryz.func120 rfl Tryz.ntmps120 rfl fun av bor w0=>?_
 have hids:=me d.to d.toL
 repeat' (first|apply ab|apply Qu|apply Qv|refine aj ?_|refine ad ?_|refine az ?_|refine aA ?_|refine aB ?_|refine aC ?_|refine bM ?_|refine cB ?_|refine cE ?_|refine bU ?_|refine aW ?_|refine aL ?_|refine aK fun _=>?_|refine Qy ?_|apply Qx|apply Qw|apply ar|refine ao (hc:=fT _) ?_|refine ao (hc:=eu _ _ _) ?_|refine ao (hc:=gv _) ?_|(refine ao (hc:=hids) (hX:=fun w h=>h) ?_)|((fail_if_success (refine aZ ?_));refine aP (ht:=?_) (hf:=?_);all_goals (intro hx_;first|have:=aO hx_|have:=aQ hx_|skip))|(refine aF (ht:=?_) (hf:=?_);all_goals (intro hx_;first|have:=aO hx_|have:=aQ hx_)))
 all_goals (apply ak;apply ap;rfl;rfl)
 all_goals first
  | rfl
  | (simp_all [termsB,plainD,reasonD,kindA,kindO];done)
  | (simp_all [termsB,plainD,reasonD,kindA,kindO];intros;omega)
def decR (d:DecD):Bool:=withinB d.server 0 19&&(withinB d.number 0 1073741824&&(withinB d.from_ 0 1099511627776&&(withinB d.until_ 0 1099511627776&&(decide (d.from_<d.until_)&&(termsB d&&sigB d.e d.s)))))
set_option maxHeartbeats 4000000 in
theorem jz (d:DecD):Pu Tryz.prog 76 #[d.v] (fun w=>d.at_ w) (.bool (decR d)):=by
 refine ay (args:=[_]) _ Tryz.func76 rfl Tryz.ntmps76 rfl fun av bor w0=>?_
 have hte:=mM d
 repeat' (first|apply ab|apply Qu|apply Qv|refine aj ?_|refine ad ?_|refine az ?_|refine aA ?_|refine aD ?_|refine aB ?_|refine aC ?_|refine bj ?_|refine aL ?_|refine aK fun _=>?_|apply ar|refine ao (hc:=eu _ _ _) ?_|refine ao (hc:=gu _) ?_|refine ao (hc:=ip _) ?_|(refine ao (hc:=hte) (hX:=fun w h=>h) ?_)|refine ao (hc:=gF d.e d.s) ?_|(refine aX (vs:=[.int .i64 d.e,.int .i64 d.s]) (hv:=rfl) ?_)|((fail_if_success (refine aZ ?_));refine aP (ht:=?_) (hf:=?_);all_goals (intro hx_;first|have:=aO hx_|have:=aQ hx_|skip))|fail)
 (all_goals (apply ak;apply ap;rfl;rfl));all_goals (simp only [decR, *,ZQ,ZO,ZC,ZB,ZE,ZD,ZH,ZG,ZK,ZI,ZP,ZJ,ZN,ZF];done)
theorem mt (s:SlV):Pu Tryz.prog 62 #[s.v,.slice none 0 0] (fun _=>True) (.bool (decide ((s.n:Int)=0))):=by
 refine ay (args:=[_,_]) _ Tryz.func62 rfl Tryz.ntmps62 rfl fun av bor w0=>?_
 by_cases h0:s.n=0
 · rw [h0]
   repeat' (first|refine am (ei false rfl rfl (by rw [h0];rfl)) rfl aE rfl ?_|apply ab|apply Qu|apply Qv|refine aj ?_|refine ad ?_|refine aW ?_|refine Qz ?_|apply Qx|apply Qw|fail)
   refine aT (ι:=Unit) (fun _=>⟨[(12,.int .i64 (s.n:Nat)),(13,.int .i64 0)],[],fun _=>True⟩) (fun _=>0) () (ax ⟨rfl,rfl,trivial⟩ (aG _) fun _ h=>h) fun _=>?_
   repeat' (first|refine am (bQ false rfl rfl (by rw [h0];rfl)) rfl aE rfl ?_|apply ab|apply Qu|apply Qv|refine ad ?_|refine Qz ?_|apply ar|apply aS|fail)
   all_goals exact ak (ap rfl rfl) rfl
 · rw [Zn (by omega)]
   repeat' (first|refine am (ei true rfl rfl (by simp;omega)) rfl aE rfl ?_|apply ab|apply Qu|apply Qv|refine aj ?_|refine ad ?_|refine aW ?_|refine Qy ?_|apply ar|fail)
   all_goals exact ak (ap rfl rfl) rfl
theorem sC (s:SlV):Pu Tryz.prog 63 #[s.v,.slice none 0 0] (fun _=>True) (.bool (decide ((s.n:Int)=0))):=by
 refine ay (args:=[_,_]) _ Tryz.func63 rfl Tryz.ntmps63 rfl fun av bor w0=>?_
 by_cases h0:s.n=0
 · rw [h0]
   repeat' (first|refine am (ei false rfl rfl (by rw [h0];rfl)) rfl aE rfl ?_|apply ab|apply Qu|apply Qv|refine aj ?_|refine ad ?_|refine aW ?_|refine Qz ?_|apply Qx|apply Qw|fail)
   refine aT (ι:=Unit) (fun _=>⟨[(12,.int .i64 (s.n:Nat)),(13,.int .i64 0)],[],fun _=>True⟩) (fun _=>0) () (ax ⟨rfl,rfl,trivial⟩ (aG _) fun _ h=>h) fun _=>?_
   repeat' (first|refine am (bQ false rfl rfl (by rw [h0];rfl)) rfl aE rfl ?_|apply ab|apply Qu|apply Qv|refine ad ?_|refine Qz ?_|apply ar|apply aS|fail)
   all_goals exact ak (ap rfl rfl) rfl
 · rw [Zn (by omega)]
   repeat' (first|refine am (ei true rfl rfl (by simp;omega)) rfl aE rfl ?_|apply ab|apply Qu|apply Qv|refine aj ?_|refine ad ?_|refine aW ?_|refine Qy ?_|apply ar|fail)
   all_goals exact ak (ap rfl rfl) rfl
section
variable {P:Program} {N:Nat} {av bor:List Nat} {w0:World} {ops:Array Oper} {rest:List Oper} {kk:St→Prop} {E:Env} {loc:List Res} {X:World→Prop} {n:Nat} {ty t2:TypeId} {pos:String} {af:Array Edge} {g:Option (Nat×Bool)} {bb want:Bool} {x y:Operand}
theorem eP {a b:ClaimD} (h:Sw Tryz.prog N av bor w0 ops rest ⟨(n,.bool (claimEq a b))::E,loc,X⟩ kk) (hx:ev E x=some (.agg a.cells.toArray):=by rfl) (hy:ev E y=some (.agg b.cells.toArray):=by rfl) (hg:gdB ops E g=some (bb,want):=by rfl) (hbb:bb=want:=by exact aE) (hd:Nat.blt n N=true:=by rfl) :
  Sw Tryz.prog N av bor w0 ops (⟨some n,.binOp .eql 51 x y t2,ty,pos,af,g⟩::rest) ⟨E,loc,X⟩ kk:=am (mI hx hy) hg hbb hd h
theorem ez {a b:BallotD} (h:Sw Tryz.prog N av bor w0 ops rest ⟨(n,.bool (ballotEq a b))::E,loc,X⟩ kk) (hx:ev E x=some (.agg a.cells.toArray):=by rfl) (hy:ev E y=some (.agg b.cells.toArray):=by rfl) (hg:gdB ops E g=some (bb,want):=by rfl) (hbb:bb=want:=by exact aE) (hd:Nat.blt n N=true:=by rfl) :
  Sw Tryz.prog N av bor w0 ops (⟨some n,.binOp .eql 53 x y t2,ty,pos,af,g⟩::rest) ⟨E,loc,X⟩ kk:=am (kQ hx hy) hg hbb hd h
theorem wD {st:St} {a b c e:Int} (hx:ev st.env x=some (.agg #[.int .i64 a,.int .i64 b])) (hy:ev st.env y=some (.agg #[.int .i64 c,.int .i64 e])) :
  Sy.Yields Tryz.prog N av bor w0 st (.binOp .eql 44 x y t2) ty (.bool (decide (a=c)&&(decide (b=e)&&true))):=Sy.Yields.mk fun A w ok d pos af g=>by
 have h1:=run_eql_struct (P:=Tryz.prog) w 44 #[.int .i64 a,.int .i64 b] #[.int .i64 c,.int .i64 e]
 rw [show (10000:Nat)=9998+2 from rfl,mu] at h1
 have hgu:Tryz.prog.eqGuardType Tryz.prog.depth 44=false:=by kernel_rfl
 simp [execOp,ok.eval (st:=st) hx,ok.eval (st:=st) hy,run_eqGuard_agg _ _ _ _ _ _ _ hgu,h1]
theorem jt {a b c e:Int} (h:Sw Tryz.prog N av bor w0 ops rest ⟨(n,.bool (decide (a=c)&&(decide (b=e)&&true)))::E,loc,X⟩ kk) (hx:ev E x=some (.agg #[.int .i64 a,.int .i64 b]):=by rfl) (hy:ev E y=some (.agg #[.int .i64 c,.int .i64 e]):=by rfl) (hg:gdB ops E g=some (bb,want):=by rfl) (hbb:bb=want:=by exact aE) (hd:Nat.blt n N=true:=by rfl) :
  Sw Tryz.prog N av bor w0 ops (⟨some n,.binOp .eql 44 x y t2,ty,pos,af,g⟩::rest) ⟨E,loc,X⟩ kk:=am (wD hx hy) hg hbb hd h
end
def actZ (a:ActD):Bool:=seqB a.author ⟨#[]⟩&&(decide (a.seq=0)&&(seqB a.prev ⟨#[]⟩&&(decide (a.kind=0)&&(decide (a.time=0)&&(seqB a.object ⟨#[]⟩&&(seqB a.target ⟨#[]⟩&&(decide (a.scope=0)&&(seqB a.group ⟨#[]⟩&&(decide ((a.to.n:Int)=0)&&(seqB a.text ⟨#[]⟩&&(boxEq a.body BoxD.zero&&(decide (a.epoch=0)&&(decide ((a.wraps.n:Int)=0)&&(decide (a.n=0)&&(decide (a.m=0)&&(decide (a.e=0)&&(decide (a.s=0)&&true)))))))))))))))))
set_option maxRecDepth 20000 in
set_option maxHeartbeats 8000000 in
theorem q9 (a:ActD):Pu Tryz.prog 30 #[a.v,ActD.zero.v] (fun _=>True) (.bool (actZ a)):=by
 refine ay (args:=[_,_]) _ Tryz.func30 rfl Tryz.ntmps30 rfl fun av bor w0=>?_
 repeat' (first|apply ab|apply Qu|apply Qv|refine aj ?_|refine ad ?_|refine az ?_|refine aA ?_|refine aB ?_|refine aC ?_|refine bM ?_|refine cE ?_|refine aL ?_|refine aK fun _=>?_|apply ar|refine ao (hc:=mt a.to) ?_|refine ao (hc:=sC a.wraps) ?_|(refine gz (a:=a.body) (b:=BoxD.zero) ?_)|(refine jt (a:=a.e) (b:=a.s) (c:=0) (e:=0) ?_)|(refine aX ?_)|((fail_if_success (refine aZ ?_));refine aP (ht:=?_) (hf:=?_);all_goals (intro hx_;first|have:=aO hx_|have:=aQ hx_|skip))|fail)
 all_goals refine ak (ap rfl rfl) ?_
 all_goals rw [actZ]
 all_goals simp_all [ActD.zero]
def decZ (d:DecD):Bool:=decide (d.server=0)&&(decide (d.number=0)&&(decide (d.kind=0)&&(seqB d.actor ⟨#[]⟩&&(seqB d.object ⟨#[]⟩&&(seqB d.text ⟨#[]⟩&&(decide ((d.to.n:Int)=0)&&(decide (d.n=0)&&(decide (d.from_=0)&&(decide (d.until_=0)&&(decide (d.e=0)&&(decide (d.s=0)&&true)))))))))))
set_option maxRecDepth 20000 in
set_option maxHeartbeats 8000000 in
theorem qW (d:DecD):Pu Tryz.prog 121 #[d.v,DecD.zero.v] (fun _=>True) (.bool (decZ d)):=by
 refine ay (args:=[_,_]) _ Tryz.func121 rfl Tryz.ntmps121 rfl fun av bor w0=>?_
 repeat' (first|apply ab|apply Qu|apply Qv|refine aj ?_|refine ad ?_|refine az ?_|refine aA ?_|refine aB ?_|refine aC ?_|refine bM ?_|refine cE ?_|refine aL ?_|refine aK fun _=>?_|apply ar|refine ao (hc:=mt d.to) ?_|(refine jt (a:=d.e) (b:=d.s) (c:=0) (e:=0) ?_)|(refine aX (vs:=[.int .i64 d.e,.int .i64 d.s]) (hv:=rfl) ?_)|(refine aX (vs:=[.int .i64 0,.int .i64 0]) (hv:=rfl) ?_)|((fail_if_success (refine aZ ?_));refine aP (ht:=?_) (hf:=?_);all_goals (intro hx_;first|have:=aO hx_|have:=aQ hx_|skip))|fail)
 all_goals refine ak (ap rfl rfl) ?_
 all_goals rw [decZ]
 all_goals simp_all [DecD.zero]
def sameIZ (i:ItemD):Bool:=decide (i.kind=0)&&(actZ i.act&&(claimEq i.claim ClaimD.zero&&(ballotEq i.ballot BallotD.zero&&decZ i.dec)))
set_option maxRecDepth 20000 in
set_option maxHeartbeats 8000000 in
theorem ff (i:ItemD):Pu Tryz.prog 77 #[i.v,ItemD.zero.v] (fun _=>True) (.bool (sameIZ i)):=by
 refine ay (args:=[_,_]) _ Tryz.func77 rfl Tryz.ntmps77 rfl fun av bor w0=>?_
 repeat' (first|apply ab|apply Qu|apply Qv|refine aj ?_|refine ad ?_|refine az ?_|refine aA ?_|refine aB ?_|refine aC ?_|refine bM ?_|refine aL ?_|refine aK fun _=>?_|apply ar|refine ao (hc:=q9 i.act) ?_|refine ao (hc:=qW i.dec) ?_|(refine eP (a:=i.claim) (b:=ClaimD.zero) ?_)|(refine ez (a:=i.ballot) (b:=BallotD.zero) ?_)|(refine aX (vs:=i.act.cells) (hv:=rfl) ?_)|(refine aX (vs:=i.claim.cells) (hv:=rfl) ?_)|(refine aX (vs:=i.ballot.cells) (hv:=rfl) ?_)|(refine aX (vs:=i.dec.cells) (hv:=rfl) ?_)|(refine aX (vs:=ActD.zero.cells) (hv:=rfl) ?_)|(refine aX (vs:=ClaimD.zero.cells) (hv:=rfl) ?_)|(refine aX (vs:=BallotD.zero.cells) (hv:=rfl) ?_)|(refine aX (vs:=DecD.zero.cells) (hv:=rfl) ?_)|((fail_if_success (refine aZ ?_));refine aP (ht:=?_) (hf:=?_);all_goals (intro hx_;first|have:=aO hx_|have:=aQ hx_|skip))|fail)
 all_goals refine ak (ap rfl rfl) ?_
 all_goals rw [sameIZ]
 all_goals simp_all [ItemD.zero,ofActI]
def textsV (l:List ByteArray):ByteArray:=cats (l.map textV)
structure TxtS (n:Nat) where
 k:Nat
 hk:k≤n
 A:Option Addr
 c:Nat
theorem eT (b:Nat) (A:Option Addr) (c:Nat) (s:ByteArray) (sl:SlV) (l:List ByteArray) (hs:s.size+(textsV l).size≤1099511627776) :
  Ct Tryz.prog 184 #[.pointer (some ⟨b,0,none⟩),sl.v] (bld b A c s) (fun w=>Strs w sl l) fun u R _=>∃ A' c',u=.tuple #[]∧R=bld b A' c' (s++textsV l):=by
 refine cj (args:=[_,_]) _ Tryz.func184 rfl Tryz.ntmps184 rfl fun av bor w0=>?_
 refine bK (p:=sl.n=l.length∧sl.n≤maxLen∧(0<l.length→sl.p.isSome=true)) (fun w h=>⟨h.len_,Qq (RowsD.cap h) (RowsD.max h),h.some_⟩) fun ⟨hn,hm,hp⟩=>?_
 simp only [maxLen] at hm
 repeat' (first|apply ab|apply Qu|apply Qv|refine aj ?_|refine aW ?_|apply Qw|fail)
 have hle:=eR (l.map textV)
 have e0:s++cats ((l.map textV).take 0)=s:=by simp [cats]
 have hs':s.size+(cats (l.map textV)).size≤1099511627776:=hs
 refine aT (ι:=TxtS l.length) (fun i=>⟨[(0,.pointer (some ⟨b,0,none⟩)),(6,sl.v),(7,.int .i64 sl.n),(8,.int .i64 i.k)],bld b i.A i.c (s++cats ((l.map textV).take i.k)),fun w=>Strs w sl l⟩) (fun i=>l.length-i.k) ⟨0,Nat.zero_le _,A,c⟩ (ax ⟨rfl,rfl,rfl,rfl,trivial⟩ (by rw [e0];exact aG _) fun _ h=>h) fun i=>?_
 have hik:=i.hk
 have hout:(s++cats ((l.map textV).take i.k)).size≤1099511627776:=by rw [Zl];have:=hle i.k;omega
 have hout2:(s++cats ((l.map textV).take (i.k+1))).size≤1099511627776:=by rw [Zl];have:=hle (i.k+1);omega
 generalize ho:s++cats ((l.map textV).take i.k)=out at *
 unfold bld
 repeat' (first|apply ab|apply Qu|apply Qv|refine bj ?_|apply Qx|apply Qw|apply aS|(refine aF (ht:=?_) (hf:=?_);all_goals (intro hx_;first|have:=aO hx_|have:=aQ hx_)))
 · have hlt:i.k<l.length:=by omega
   have hp':=hp ae
   obtain ⟨x,hx⟩:∃ x,l[i.k]?=some x:=⟨_,Zm hlt⟩
   have hsucc:=fq (l.map textV) (k:=i.k) (by simpa using hlt)
   have hget:(l.map textV).getD i.k .empty=textV x:=by simp [hx]
   rw [hget] at hsucc
   have e2:s++cats ((l.map textV).take (i.k+1))=out++textV x:=by rw [hsucc,←ZV,ho]
   have hxs:out.size+(textV x).size≤1099511627776:=by rw [e2,Zl] at hout2;exact hout2
   have hxx:x.size≤1099511627776:=by rw [textV,Zl] at hxs;omega
   repeat' (first|apply ab|refine ad ?_|(refine bz (q:=i.k) ?_)|(refine eH (u:=.string x) (hF:=fun w h=>h.at_ hx) ?_)|fail)
   (refine aU [] (fun _=>True) al ?_)
   all_goals refine aa 0 ?_<;>refine aa 1 ?_<;>refine aa 2 ?_<;>refine aa 3 ?_<;>refine aa 5 ?_<;>(refine bw 4 6 (h:=?_) (h':=?_);(focus (((refine aA ?_);apply ab;refine ai ?_);all_goals ((refine ag 6 ?_;(refine ao (hc:=dq _ ae) ?_);apply ab;refine ai ?_);all_goals (refine ag 7 ?_;(refine aV (size:=1) (z:=.int .u8 0) rfl rfl rfl rfl (fun _=>At.there _ (At.here _)) (fun w G=>em ae) ae (by simp only [maxLen];omega) rfl ?_ rfl ?_;(with_reducible rfl);intro A1 c1);apply ab;refine ai ?_);all_goals (refine aa 8 ?_);all_goals (refine aa 9 ?_);all_goals (refine ag 10 ?_;(refine bc ?_);apply ab;refine ai ?_);all_goals (refine aw ?_))));rotate_right;(focus (((refine ao (hc:=dq _ ae) ?_);apply ab;refine ai ?_);all_goals ((refine ag 4 ?_;(refine aA ?_);apply ab;refine ai ?_);all_goals (refine ag 7 ?_;(refine aV (size:=1) (z:=.int .u8 0) rfl rfl rfl rfl (fun _=>At.there _ (At.here _)) (fun w G=>em ae) ae (by simp only [maxLen];omega) rfl ?_ rfl ?_;(with_reducible rfl);intro A1 c1);apply ab;refine ai ?_);all_goals (refine aa 8 ?_);all_goals (refine aa 9 ?_);all_goals (refine ag 10 ?_;(refine bc ?_);apply ab;refine ai ?_);all_goals (refine aw ?_)))))<;>(repeat' (first|apply ab|apply Qv|refine aj ?_|refine be (h:=?_)|fail))
   all_goals exact ⟨(⟨i.k+1,hlt,A1,c1⟩:TxtS l.length),(by show l.length-(i.k+1)<l.length-i.k;omega),ax ⟨rfl,rfl,rfl,rfl,trivial⟩ (by
    show List.Sublist (bld b A1 c1 (s++cats ((l.map textV).take (i.k+1)))) _
    rw [e2]
    simp only [bld,Zl,dR,cv]
    exact aG _) fun _ h=>h⟩
 · have hk:i.k=l.length:=by omega
   refine ca (bP rfl) ⟨i.A,i.c,rfl,?_⟩
   rw [textsV,←ho,hk,List.take_of_length_le (by simp)]
theorem ef {P:Program} {f:FuncId} {fn:Func} {c:Code} {args:List Value} {pre:List Res} {X:World→Prop} {Post:Value→List Res→(World→Prop)→Prop} (N:Nat)
  (hf:P.funcs[f]?=some fn) (hb:fn.body=some c) (hN:fn.ntmps=N) (hn:Nat.ble args.length N=true)
  (h:∀ av bor w0,Cw P N av bor w0 c ⟨params 0 args,pre,X⟩ (ends P fn N fun u R X'=>∃ R',R'.Sublist R∧Post u R' X')):Ct P f args.toArray pre X Post:=Ct.mk fun w av G=>by
 have h1:=(cj (P:=P) (Post:=fun u R X'=>∃ R',R'.Sublist R∧Post u R' X') N hf hb hN hn h).run w av G
 refine h1.mono fun e w' ⟨u,R,X',he,⟨R',hs,hp⟩,G'⟩=>⟨u,R',X',he,hp,G'.drop hs⟩
def coreCl (c:ClaimD):ByteArray:=textsV [c.actor]++numsV [c.base]++textsV [c.prev]++numsV [c.gen,c.home,c.pub,c.time]
def coreBa (b:BallotD):ByteArray:=numsV [b.server]++textsV [b.actor]++numsV [b.gen]++textsV [b.claim]++numsV [b.time]
def coreDe (d:DecD):ByteArray:=numsV [d.server,d.number,d.kind]++textsV [d.actor,d.object,d.text]++listV d.toL++numsV [d.n,d.from_,d.until_]
structure ClaimD.Lt (c:ClaimD):Prop where
 base:c.base<9223372036854775808
 gen:c.gen<9223372036854775808
 home:c.home<9223372036854775808
 pub:c.pub<9223372036854775808
 time:c.time<9223372036854775808
 e:c.e<9223372036854775808
 s:c.s<9223372036854775808
structure BallotD.Lt (c:BallotD):Prop where
 server:c.server<9223372036854775808
 gen:c.gen<9223372036854775808
 time:c.time<9223372036854775808
 e:c.e<9223372036854775808
 s:c.s<9223372036854775808
structure DecD.Lt (c:DecD):Prop where
 server:c.server<9223372036854775808
 number:c.number<9223372036854775808
 kind:c.kind<9223372036854775808
 n:c.n<9223372036854775808
 from_:c.from_<9223372036854775808
 until_:c.until_<9223372036854775808
 e:c.e<9223372036854775808
 s:c.s<9223372036854775808
set_option maxHeartbeats 8000000 in
theorem nP (b:Nat) (A:Option Addr) (c:Nat) (s:ByteArray) (it:ItemD) (hl:it.claim.Lt) (hs:s.size+(coreCl it.claim).size≤1099511627776) :
  Ct Tryz.prog 110 #[.pointer (some ⟨b,0,none⟩),it.v] (bld b A c s) (fun _=>True) fun u R _=>∃ A' c',u=.tuple #[]∧R=bld b A' c' (s++coreCl it.claim):=by
 refine ef (args:=[_,_]) _ Tryz.func110 rfl Tryz.ntmps110 rfl fun av bor w0=>?_
 rw [coreCl] at hs ⊢
 simp only [Zl] at hs
 obtain ⟨p0,hp0⟩:∃ p,textsV [it.claim.actor]=p:=⟨_,rfl⟩
 obtain ⟨p1,hp1⟩:∃ p,numsV [it.claim.base]=p:=⟨_,rfl⟩
 obtain ⟨p2,hp2⟩:∃ p,textsV [it.claim.prev]=p:=⟨_,rfl⟩
 obtain ⟨p3,hp3⟩:∃ p,numsV [it.claim.gen,it.claim.home,it.claim.pub,it.claim.time]=p:=⟨_,rfl⟩
 rw [hp0,hp1,hp2,hp3] at hs ⊢
 rw [←ZV,←ZV,←ZV]
 repeat' (first|apply ab|apply Qu|apply Qv|refine aj ?_|refine az ?_|refine aA ?_|refine aI fun _=>?_|refine aK fun _=>?_|refine bX fun _=>?_|refine aH ?_|(refine aX (vs:=it.claim.cells) (hv:=rfl) ?_)|fail)
 rename_i b3 b4 bs
 refine cu ?_
 refine dk (l:=bld b A c s++[cel b4 51 it.claim.cells,cel b3 57 it.cells]) (by show List.Perm [_,_,_,_] [_,_,_,_];exact (List.perm_append_comm (l₁:=[_,_]) (l₂:=[_,_]))) ?_
 refine cC (pre:=bld b A c (s)) (fr:=[cel b4 51 it.claim.cells,cel b3 57 it.cells]) (hc:=eT b A c (s) ⟨some ⟨bs,0,none⟩,1,1⟩ [it.claim.actor] (by rw [hp0];(try simp only [Zl]);omega)) (hX:=fun w h=>bO (xs:=[[encB it.claim.actor]]) h.2 rfl (by decide) (by simp)) (h:=?_)
 rintro v R X' ⟨A1,c1,rfl,rfl⟩
 refine cT (X':=(fun _=>True)) (fun w h=>trivial) ?_
 rw [hp0]
 unfold bld
 repeat' (first|apply ab|apply Qu|apply Qv|refine aj ?_|refine az ?_|refine aA ?_|refine bX fun _=>?_|fail)
 rename_i bs
 refine cu ?_
 refine cC (pre:=bld b A1 c1 (s++p0)) (fr:=[cel b4 51 it.claim.cells,cel b3 57 it.cells]) (hc:=er b A1 c1 (s++p0) ⟨some ⟨bs,0,none⟩,1,1⟩ [it.claim.base] (by simp;exact hl.base) (by rw [hp1];(try simp only [Zl]);omega)) (hX:=fun w h=>bO (xs:=[[.int .i64 it.claim.base]]) h.2 rfl (by decide) (by simp)) (h:=?_)
 rintro v R X' ⟨A2,c2,rfl,rfl⟩
 refine cT (X':=(fun _=>True)) (fun w h=>trivial) ?_
 rw [hp1]
 unfold bld
 repeat' (first|apply ab|apply Qu|apply Qv|refine aj ?_|refine az ?_|refine aA ?_|refine bX fun _=>?_|fail)
 rename_i bs
 refine cu ?_
 refine cC (pre:=bld b A2 c2 (s++p0++p1)) (fr:=[cel b4 51 it.claim.cells,cel b3 57 it.cells]) (hc:=eT b A2 c2 (s++p0++p1) ⟨some ⟨bs,0,none⟩,1,1⟩ [it.claim.prev] (by rw [hp2];(try simp only [Zl]);omega)) (hX:=fun w h=>bO (xs:=[[encB it.claim.prev]]) h.2 rfl (by decide) (by simp)) (h:=?_)
 rintro v R X' ⟨A3,c3,rfl,rfl⟩
 refine cT (X':=(fun _=>True)) (fun w h=>trivial) ?_
 rw [hp2]
 unfold bld
 repeat' (first|apply ab|apply Qv|refine aj ?_|refine az ?_|refine aA ?_|refine bX fun _=>?_|fail)
 rename_i bs
 refine cu ?_
 refine cC (pre:=bld b A3 c3 (s++p0++p1++p2)) (fr:=[cel b4 51 it.claim.cells,cel b3 57 it.cells]) (hc:=er b A3 c3 (s++p0++p1++p2) ⟨some ⟨bs,0,none⟩,4,4⟩ [it.claim.gen,it.claim.home,it.claim.pub,it.claim.time] (by simp;exact ⟨hl.gen,hl.home,hl.pub,hl.time⟩) (by rw [hp3];(try simp only [Zl]);omega)) (hX:=fun w h=>bO (xs:=[[.int .i64 it.claim.gen],[.int .i64 it.claim.home],[.int .i64 it.claim.pub],[.int .i64 it.claim.time]]) h.2 rfl (by decide) (by simp)) (h:=?_)
 rintro v R X' ⟨A4,c4,rfl,rfl⟩
 refine cT (X':=(fun _=>True)) (fun w h=>trivial) ?_
 rw [hp3]
 repeat' (first|apply ab|fail)
 all_goals exact ca (bP rfl) ⟨_,List.sublist_append_left _ _,A4,c4,rfl,rfl⟩
set_option maxHeartbeats 8000000 in
theorem mG (b:Nat) (A:Option Addr) (c:Nat) (s:ByteArray) (it:ItemD) (hl:it.ballot.Lt) (hs:s.size+(coreBa it.ballot).size≤1099511627776) :
  Ct Tryz.prog 111 #[.pointer (some ⟨b,0,none⟩),it.v] (bld b A c s) (fun _=>True) fun u R _=>∃ A' c',u=.tuple #[]∧R=bld b A' c' (s++coreBa it.ballot):=by
 refine ef (args:=[_,_]) _ Tryz.func111 rfl Tryz.ntmps111 rfl fun av bor w0=>?_
 rw [coreBa] at hs ⊢
 simp only [Zl] at hs
 obtain ⟨p0,hp0⟩:∃ p,numsV [it.ballot.server]=p:=⟨_,rfl⟩
 obtain ⟨p1,hp1⟩:∃ p,textsV [it.ballot.actor]=p:=⟨_,rfl⟩
 obtain ⟨p2,hp2⟩:∃ p,numsV [it.ballot.gen]=p:=⟨_,rfl⟩
 obtain ⟨p3,hp3⟩:∃ p,textsV [it.ballot.claim]=p:=⟨_,rfl⟩
 obtain ⟨p4,hp4⟩:∃ p,numsV [it.ballot.time]=p:=⟨_,rfl⟩
 rw [hp0,hp1,hp2,hp3,hp4] at hs ⊢
 rw [←ZV,←ZV,←ZV,←ZV]
 repeat' (first|apply ab|apply Qu|apply Qv|refine aj ?_|refine az ?_|refine aA ?_|refine aI fun _=>?_|refine aK fun _=>?_|refine bX fun _=>?_|refine aH ?_|(refine aX (vs:=it.ballot.cells) (hv:=rfl) ?_)|fail)
 rename_i b3 b4 bs
 refine cu ?_
 refine dk (l:=bld b A c s++[cel b4 53 it.ballot.cells,cel b3 57 it.cells]) (by show List.Perm [_,_,_,_] [_,_,_,_];exact (List.perm_append_comm (l₁:=[_,_]) (l₂:=[_,_]))) ?_
 refine cC (pre:=bld b A c (s)) (fr:=[cel b4 53 it.ballot.cells,cel b3 57 it.cells]) (hc:=er b A c (s) ⟨some ⟨bs,0,none⟩,1,1⟩ [it.ballot.server] (by simp;exact hl.server) (by rw [hp0];(try simp only [Zl]);omega)) (hX:=fun w h=>bO (xs:=[[.int .i64 it.ballot.server]]) h.2 rfl (by decide) (by simp)) (h:=?_)
 rintro v R X' ⟨A1,c1,rfl,rfl⟩
 refine cT (X':=(fun _=>True)) (fun w h=>trivial) ?_
 rw [hp0]
 unfold bld
 repeat' (first|apply ab|apply Qu|apply Qv|refine aj ?_|refine az ?_|refine aA ?_|refine bX fun _=>?_|fail)
 rename_i bs
 refine cu ?_
 refine cC (pre:=bld b A1 c1 (s++p0)) (fr:=[cel b4 53 it.ballot.cells,cel b3 57 it.cells]) (hc:=eT b A1 c1 (s++p0) ⟨some ⟨bs,0,none⟩,1,1⟩ [it.ballot.actor] (by rw [hp1];(try simp only [Zl]);omega)) (hX:=fun w h=>bO (xs:=[[encB it.ballot.actor]]) h.2 rfl (by decide) (by simp)) (h:=?_)
 rintro v R X' ⟨A2,c2,rfl,rfl⟩
 refine cT (X':=(fun _=>True)) (fun w h=>trivial) ?_
 rw [hp1]
 unfold bld
 repeat' (first|apply ab|apply Qu|apply Qv|refine aj ?_|refine az ?_|refine aA ?_|refine bX fun _=>?_|fail)
 rename_i bs
 refine cu ?_
 refine cC (pre:=bld b A2 c2 (s++p0++p1)) (fr:=[cel b4 53 it.ballot.cells,cel b3 57 it.cells]) (hc:=er b A2 c2 (s++p0++p1) ⟨some ⟨bs,0,none⟩,1,1⟩ [it.ballot.gen] (by simp;exact hl.gen) (by rw [hp2];(try simp only [Zl]);omega)) (hX:=fun w h=>bO (xs:=[[.int .i64 it.ballot.gen]]) h.2 rfl (by decide) (by simp)) (h:=?_)
 rintro v R X' ⟨A3,c3,rfl,rfl⟩
 refine cT (X':=(fun _=>True)) (fun w h=>trivial) ?_
 rw [hp2]
 unfold bld
 repeat' (first|apply ab|apply Qu|apply Qv|refine aj ?_|refine az ?_|refine aA ?_|refine bX fun _=>?_|fail)
 rename_i bs
 refine cu ?_
 refine cC (pre:=bld b A3 c3 (s++p0++p1++p2)) (fr:=[cel b4 53 it.ballot.cells,cel b3 57 it.cells]) (hc:=eT b A3 c3 (s++p0++p1++p2) ⟨some ⟨bs,0,none⟩,1,1⟩ [it.ballot.claim] (by rw [hp3];(try simp only [Zl]);omega)) (hX:=fun w h=>bO (xs:=[[encB it.ballot.claim]]) h.2 rfl (by decide) (by simp)) (h:=?_)
 rintro v R X' ⟨A4,c4,rfl,rfl⟩
 refine cT (X':=(fun _=>True)) (fun w h=>trivial) ?_
 rw [hp3]
 unfold bld
 repeat' (first|apply ab|apply Qv|refine aj ?_|refine az ?_|refine aA ?_|refine bX fun _=>?_|fail)
 rename_i bs
 refine cu ?_
 refine cC (pre:=bld b A4 c4 (s++p0++p1++p2++p3)) (fr:=[cel b4 53 it.ballot.cells,cel b3 57 it.cells]) (hc:=er b A4 c4 (s++p0++p1++p2++p3) ⟨some ⟨bs,0,none⟩,1,1⟩ [it.ballot.time] (by simp;exact hl.time) (by rw [hp4];(try simp only [Zl]);omega)) (hX:=fun w h=>bO (xs:=[[.int .i64 it.ballot.time]]) h.2 rfl (by decide) (by simp)) (h:=?_)
 rintro v R X' ⟨A5,c5,rfl,rfl⟩
 refine cT (X':=(fun _=>True)) (fun w h=>trivial) ?_
 rw [hp4]
 repeat' (first|apply ab|fail)
 all_goals exact ca (bP rfl) ⟨_,List.sublist_append_left _ _,A5,c5,rfl,rfl⟩
set_option maxHeartbeats 8000000 in
theorem jd (b:Nat) (A:Option Addr) (c:Nat) (s:ByteArray) (it:ItemD) (hl:it.dec.Lt) (hs:s.size+(coreDe it.dec).size≤1099511627776) :
  Ct Tryz.prog 112 #[.pointer (some ⟨b,0,none⟩),it.v] (bld b A c s) (fun w=>it.at_ w) fun u R _=>∃ A' c',u=.tuple #[]∧R=bld b A' c' (s++coreDe it.dec):=by
 refine ef (args:=[_,_]) _ Tryz.func112 rfl Tryz.ntmps112 rfl fun av bor w0=>?_
 rw [coreDe] at hs ⊢
 simp only [Zl] at hs
 obtain ⟨p0,hp0⟩:∃ p,numsV [it.dec.server,it.dec.number,it.dec.kind]=p:=⟨_,rfl⟩
 obtain ⟨p1,hp1⟩:∃ p,textsV [it.dec.actor,it.dec.object,it.dec.text]=p:=⟨_,rfl⟩
 obtain ⟨p2,hp2⟩:∃ p,listV it.dec.toL=p:=⟨_,rfl⟩
 obtain ⟨p3,hp3⟩:∃ p,numsV [it.dec.n,it.dec.from_,it.dec.until_]=p:=⟨_,rfl⟩
 rw [hp0,hp1,hp2,hp3] at hs ⊢
 rw [←ZV,←ZV,←ZV]
 repeat' (first|apply ab|apply Qu|apply Qv|refine aj ?_|refine az ?_|refine aA ?_|refine aI fun _=>?_|refine aK fun _=>?_|refine bX fun _=>?_|refine aH ?_|(refine aX (vs:=it.dec.cells) (hv:=rfl) ?_)|fail)
 rename_i b3 b4 bs
 refine cu ?_
 refine dk (l:=bld b A c s++[cel b4 55 it.dec.cells,cel b3 57 it.cells]) (by show List.Perm [_,_,_,_] [_,_,_,_];exact (List.perm_append_comm (l₁:=[_,_]) (l₂:=[_,_]))) ?_
 refine cC (pre:=bld b A c (s)) (fr:=[cel b4 55 it.dec.cells,cel b3 57 it.cells]) (hc:=er b A c (s) ⟨some ⟨bs,0,none⟩,3,3⟩ [it.dec.server,it.dec.number,it.dec.kind] (by simp;exact ⟨hl.server,hl.number,hl.kind⟩) (by rw [hp0];(try simp only [Zl]);omega)) (hX:=fun w h=>bO (xs:=[[.int .i64 it.dec.server],[.int .i64 it.dec.number],[.int .i64 it.dec.kind]]) h.2 rfl (by decide) (by simp)) (h:=?_)
 rintro v R X' ⟨A1,c1,rfl,rfl⟩
 refine cT (X':=(fun w=>it.at_ w)) (fun w h=>h.1.1) ?_
 rw [hp0]
 unfold bld
 repeat' (first|apply ab|apply Qu|apply Qv|refine aj ?_|refine az ?_|refine aA ?_|refine bX fun _=>?_|fail)
 rename_i bs
 refine cu ?_
 refine cC (pre:=bld b A1 c1 (s++p0)) (fr:=[cel b4 55 it.dec.cells,cel b3 57 it.cells]) (hc:=eT b A1 c1 (s++p0) ⟨some ⟨bs,0,none⟩,3,3⟩ [it.dec.actor,it.dec.object,it.dec.text] (by rw [hp1];(try simp only [Zl]);omega)) (hX:=fun w h=>bO (xs:=[[encB it.dec.actor],[encB it.dec.object],[encB it.dec.text]]) h.2 rfl (by decide) (by simp)) (h:=?_)
 rintro v R X' ⟨A2,c2,rfl,rfl⟩
 refine cT (X':=(fun w=>it.at_ w)) (fun w h=>h.1.1) ?_
 rw [hp1]
 have hli:=tW it.dec.to it.dec.toL (by rw [hp2];omega)
 rw [hp2] at hli
 unfold bld
 have hsz:(s++p0++p1).size+p2.size≤1099511627776:=by simp only [Zl];omega
 generalize hgo:s++p0++p1=out at *
 have hos:out.size=s.size+p0.size+p1.size:=by rw [←hgo];simp only [Zl]
 repeat' (first|apply ab|apply Qu|fail)
 simp only [Qa,Qb]
 (refine aU [cel b4 55 it.dec.cells] (fun w=>it.at_ w) al ?_)
 all_goals refine aa 0 ?_<;>refine aa 1 ?_<;>refine aa 2 ?_<;>refine aa 3 ?_<;>refine aa 5 ?_<;>refine aa 6 ?_<;>(refine bw 4 7 (h:=?_) (h':=?_);(focus (((refine aA ?_);apply ab;refine ai ?_);all_goals ((refine ag 7 ?_;(refine ao (hc:=hli) (hX:=fun w h=>h.2) ?_);apply ab;refine ai ?_);all_goals (refine ag 8 ?_;(refine aV (size:=1) (z:=.int .u8 0) rfl rfl rfl rfl (fun _=>At.there _ (At.here _)) (fun w G=>em ae) ae (by simp only [maxLen];omega) rfl ?_ rfl ?_;(with_reducible rfl);intro A3 c3);apply ab;refine ai ?_);all_goals (refine aa 9 ?_);all_goals (refine aa 10 ?_);all_goals (refine ag 11 ?_;(refine bc ?_);apply ab;refine ai ?_);all_goals (refine aw ?_))));rotate_right;(focus (((refine ao (hc:=hli) (hX:=fun w h=>h.2) ?_);apply ab;refine ai ?_);all_goals ((refine ag 4 ?_;(refine aA ?_);apply ab;refine ai ?_);all_goals (refine ag 8 ?_;(refine aV (size:=1) (z:=.int .u8 0) rfl rfl rfl rfl (fun _=>At.there _ (At.here _)) (fun w G=>em ae) ae (by simp only [maxLen];omega) rfl ?_ rfl ?_;(with_reducible rfl);intro A3 c3);apply ab;refine ai ?_);all_goals (refine aa 9 ?_);all_goals (refine aa 10 ?_);all_goals (refine ag 11 ?_;(refine bc ?_);apply ab;refine ai ?_);all_goals (refine aw ?_)))))
 all_goals
  have eb:bld b A3 c3 (out++p2)=[cel b 121 ([(.slice A2 out.size c2:Value)].set 0 (.slice A3 (out.size+p2.size) c3)),orow 5 1 (.slice A3 (out.size+p2.size) c3) (out.size+p2.size) (u8s (bytesI out)++u8s (bytesI p2))]:=by simp [bld,Zl,dR,cv]
  repeat' (first|apply Qv|refine aj ?_|refine az ?_|refine aA ?_|refine bX fun _=>?_|fail)
  rename_i bs
  refine cu ?_
  refine dk (l:=bld b A3 c3 (out++p2)++[cel b4 55 it.dec.cells,cel b3 57 it.cells]) (by rw [eb];exact List.Perm.refl _) ?_
  refine cC (pre:=bld b A3 c3 (out++p2)) (fr:=[cel b4 55 it.dec.cells,cel b3 57 it.cells]) (hc:=er b A3 c3 (out++p2) ⟨some ⟨bs,0,none⟩,3,3⟩ [it.dec.n,it.dec.from_,it.dec.until_] (by simp;exact ⟨hl.n,hl.from_,hl.until_⟩) (by rw [hp3];(try simp only [Zl]);omega)) (hX:=fun w h=>bO (xs:=[[.int .i64 it.dec.n],[.int .i64 it.dec.from_],[.int .i64 it.dec.until_]]) h.2 rfl (by decide) (by simp)) (h:=?_)
  rintro v R X' ⟨A4,c4,rfl,rfl⟩
  refine cT (X':=(fun w=>it.at_ w)) (fun w h=>h.1.1) ?_
  rw [hp3]
  repeat' (first|apply ab|fail)
  all_goals exact ca (bP rfl) ⟨_,List.sublist_append_left _ _,A4,c4,rfl,rfl⟩
def ordV (n:Int):Bool:=decide (0≤n)&&decide (n<2305843009213693950)
theorem md (n:Int):Pu Tryz.prog 89 #[.int .i64 n] (fun _=>True) (.bool (ordV n)):=by
 refine ay (args:=[_]) _ Tryz.func89 rfl Tryz.ntmps89 rfl fun av bor w0=>?_
 repeat' (first|apply ab|apply Qu|apply Qv|refine aj ?_|refine ad ?_|refine aB ?_|refine aC ?_|refine bj ?_|refine da ?_|refine aL ?_|apply ar|((fail_if_success (refine aZ ?_));refine aP (ht:=?_) (hf:=?_);all_goals (intro hx_;first|have:=aO hx_|have:=aQ hx_))|fail)
 (all_goals (apply ak;apply ap;rfl;rfl));all_goals (simp only [ordV, *,ZQ,ZO,ZC,ZB,ZE,ZD,ZH,ZG,ZK,ZI,ZP,ZJ,ZN,ZF];done)
def verN (p:Int) (msg:ByteArray) (e s:Int):Bool :=
 bif decide (p<1)||decide (2305843009213693951≤p)||!ordV e||!ordV s then false
 else decide (e=(chalN (expV 37 s.toNat * expV p.toNat (2305843009213693950-e.toNat)%2305843009213693951) p.toNat msg:Nat))
set_option maxHeartbeats 4000000 in
theorem gU (p:Int) (msg:ByteArray) (e s:Int) (hm:msg.size≤1000000000000):Pu Tryz.prog 55 #[.int .i64 p,.string msg,(SgD.v ⟨e,s⟩)] Glob (.bool (verN p msg e s)):=by
 refine ay (args:=[_,_,_]) _ Tryz.func55 rfl Tryz.ntmps55 rfl fun av bor w0=>?_
 have hoe:=md e
 have hos:=md s
 cases hbad:(decide (p<1)||decide (2305843009213693951≤p)||!ordV e||!ordV s) with
 | true =>
  rw [show verN p msg e s=false from by rw [verN,hbad];rfl]
  repeat' (first|apply ab|apply Qu|apply Qv|refine aj ?_|refine ad ?_|refine az ?_|refine aA ?_|refine aB ?_|refine aC ?_|refine bu ?_|refine bj ?_|refine da ?_|refine bC ?_|refine aK fun _=>?_|refine Qy ?_|apply Qx|apply ar|(refine ao (hc:=hoe) (hX:=fun _ _=>trivial) ?_)|(refine ao (hc:=hos) (hX:=fun _ _=>trivial) ?_)|((fail_if_success (refine aZ ?_));refine aP (ht:=?_) (hf:=?_);all_goals (intro hx_;first|have:=aO hx_|have:=aQ hx_|skip))|(refine aF (ht:=?_) (hf:=?_);all_goals (intro hx_;skip)))
  all_goals first
   | (apply ak;apply ap;rfl;rfl;rfl)
   | (exfalso;simp_all;done)
 | false =>
  have hb:=hbad
  simp only [Bool.or_eq_false_iff,decide_eq_false_iff_not,Bool.not_eq_false'] at hb
  obtain ⟨⟨⟨h1,h2⟩,h3⟩,h4⟩:=hb
  have h3':=h3
  have h4':=h4
  simp only [ordV,ZM,ZT] at h3' h4'
  rw [h3] at hoe
  rw [h4] at hos
  obtain ⟨pn,rfl⟩:∃ n:Nat,p=(n:Int):=⟨p.toNat,by omega⟩
  obtain ⟨en,rfl⟩:∃ n:Nat,e=(n:Int):=⟨e.toNat,by omega⟩
  obtain ⟨sn,rfl⟩:∃ n:Nat,s=(n:Int):=⟨s.toNat,by omega⟩
  obtain ⟨d,hd⟩:∃ d,2305843009213693950-en=d:=⟨_,rfl⟩
  have hsub:IntKind.i64.wrap ((2305843009213693950:Int)-(en:Int))=(d:Int):=by
   rw [show (2305843009213693950:Int)-(en:Int)=(d:Int) from by omega]
   exact IntWalk.i64_in _ ae
  have he1:=o0 37 sn ae
  have he2:=o0 pn d ae
  obtain ⟨x1,hx1⟩:∃ x,expV 37 sn=x:=⟨_,rfl⟩
  obtain ⟨x2,hx2⟩:∃ x,expV pn d=x:=⟨_,rfl⟩
  rw [hx1] at he1
  rw [hx2] at he2
  have hmu:=sR x1 x2
  obtain ⟨r,hr⟩:∃ r,x1*x2%2305843009213693951=r:=⟨_,rfl⟩
  have hrl:r<2305843009213693951:=by rw [←hr];exact Nat.mod_lt _ (by decide)
  rw [hr] at hmu
  have hch:=uq r pn msg ae ae hm
  have hV:verN (pn:Int) msg (en:Int) (sn:Int)=decide (((en:Nat):Int)=(chalN r pn msg:Nat)):=by
   rw [verN,hbad,ZB,Qr,Qr,Qr,hd,hx1,hx2,hr]
  rw [hV]
  have hbg:¬ (2305843009213693951:Int)≤(pn:Int):=h2
  have hbl:¬ (pn:Int)<1:=h1
  clear hbad hV hr hx1 hx2 hd
  generalize hcn:chalN r pn msg=cn at hch
  repeat' (first|refine am (bQ false rfl rfl (Zn hbl)) rfl aE rfl ?_|refine am (gd false rfl rfl (Zn hbg)) rfl aE rfl ?_|apply ab|apply Qu|apply Qv|refine aj ?_|refine ad ?_|refine az ?_|refine aA ?_|refine aC ?_|refine bu ?_|refine aK fun _=>?_|refine Qz ?_|apply Qx|(refine ao (hc:=hoe) (hX:=fun _ _=>trivial) ?_)|(refine ao (hc:=hos) (hX:=fun _ _=>trivial) ?_)|fail)
  rename_i bs
  (refine aU [cel bs 44 (SgD.cells ⟨(en:Int),(sn:Int)⟩)] Glob al ?_)
  all_goals refine aa 0 ?_<;>refine aa 1 ?_<;>refine aa 3 ?_<;>refine aa 4 ?_<;>refine aa 5 ?_<;>(refine aa 6 (hy:=by (apply mY (c:=(d:Int));rfl;rfl;exact hsub)) ?_)<;>(refine ag 2 ?_;(refine ao (hc:=he1) (hX:=fun _ h=>by trivial) ?_);apply ab;refine ai ?_)<;>(refine ag 7 ?_;(refine ao (hc:=he2) (hX:=fun _ h=>by trivial) ?_);apply ab;refine ai ?_)<;>(refine ag 8 ?_;(refine ao (hc:=hmu) (hX:=fun _ h=>by trivial) ?_);apply ab;refine ai ?_)<;>refine aa 9 ?_<;>(refine aw ?_)
  all_goals
   repeat' (first|apply Qu|fail)
   (refine aU [cel bs 44 (SgD.cells ⟨(en:Int),(sn:Int)⟩)] Glob al ?_)
   all_goals refine aa 0 ?_<;>refine aa 1 ?_<;>refine aa 2 ?_<;>refine aa 3 ?_<;>refine aa 4 ?_<;>(refine ag 5 ?_;(refine ao (hc:=hch) (hX:=fun _ h=>h) ?_);apply ab;refine ai ?_)<;>refine aa 6 ?_<;>refine aa 7 ?_<;>(refine aw ?_)
   all_goals
    repeat' (first|apply ar|fail)
    exact ak (ap rfl rfl) rfl
def verV (p:Int) (a:ActD):Bool:=rightB a&&verN p (actCore a) a.e a.s
theorem pt (p:Int) (a:ActD) (hr:a.Rng):Pu Tryz.prog 24 #[.int .i64 p,a.v] (fun w=>a.at_ w∧Glob w) (.bool (verV p a)):=by
 refine ay (args:=[_,_]) _ Tryz.func24 rfl Tryz.ntmps24 rfl fun av bor w0=>?_
 have hri:=d5 a
 cases hR:rightB a with
 | false =>
  rw [hR] at hri
  rw [show verV p a=false from by rw [verV,hR];rfl]
  repeat' (first|apply ab|apply Qu|apply Qv|refine ad ?_|refine aK fun _=>?_|fail)
  rename_i b3
  (refine aU [cel b3 46 a.cells] (fun w=>a.at_ w∧Glob w) al ?_)
  all_goals refine aa 0 ?_<;>(refine ag 1 ?_;(refine ao (hc:=hri) (hX:=fun _ h=>h.1) ?_);apply ab;refine ai ?_)<;>refine aa 2 ?_<;>refine aM 3 ?_<;>refine aM 4 ?_<;>refine aM 6 ?_<;>refine aM 7 ?_<;>(refine ag 5 ?_;(refine aL ?_);apply ab;refine ai ?_)<;>(refine ag 8 ?_;(refine aL ?_);apply ab;refine ai ?_)<;>refine aa 9 ?_<;>refine aa 10 ?_<;>(refine aw ?_)
  all_goals
   repeat' (first|apply ar|fail)
   exact ak (ap rfl rfl) rfl
 | true =>
  rw [hR] at hri
  have hco:=o9 a (dv hr)
  have hsz:=fA (dv hr hR)
  rw [hR,ZC] at hco
  have hve:=gU p (coreV a) a.e a.s ae
  have hV:verV p a=verN p (coreV a) a.e a.s:=by rw [verV,actCore,hR];rfl
  rw [hV]
  generalize verN p (coreV a) a.e a.s=V at *
  repeat' (first|apply ab|apply Qu|apply Qv|refine ad ?_|refine aK fun _=>?_|fail)
  rename_i b3
  (refine aU [cel b3 46 a.cells] (fun w=>a.at_ w∧Glob w) al ?_)
  all_goals refine aa 0 ?_<;>(refine ag 1 ?_;(refine ao (hc:=hri) (hX:=fun _ h=>h.1) ?_);apply ab;refine ai ?_)<;>refine aa 2 ?_<;>refine aa 3 ?_<;>refine aa 4 ?_<;>refine aa 6 ?_<;>(refine aa 7 (hy:=by (apply cK (vs:=SgD.cells ⟨a.e,a.s⟩);rfl;exact .head _;rfl;rfl)) ?_)<;>(refine ag 5 ?_;(refine ao (hc:=hco) (hX:=fun _ h=>h.1) ?_);apply ab;refine ai ?_)<;>(refine ag 8 ?_;(refine ao (hc:=hve) (hX:=fun _ h=>h.2) ?_);apply ab;refine ai ?_)<;>refine aa 9 ?_<;>refine aa 10 ?_<;>(refine aw ?_)
  all_goals
   repeat' (first|apply ar|fail)
   exact ak (ap rfl rfl) rfl
end Go.Proofs.YtcdilibijnboeaaGreatDoor
