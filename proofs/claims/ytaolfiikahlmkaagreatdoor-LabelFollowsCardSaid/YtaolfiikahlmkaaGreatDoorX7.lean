/- Joined. -/
import Derived.Test.YtaolfiikahlmkaaGreatDoorX6
set_option linter.unusedVariables false
set_option linter.unusedSimpArgs false
set_option maxHeartbeats 16000000
namespace Go.Proofs.YtaolfiikahlmkaaGreatDoor
open Go Go.Proofs Sy
def vpre (d:ByteArray) (l:List BallotD):List Int:=(l.filter fun b=>seqB b.claim d).map BallotD.server
def votV (d:ByteArray) (l:List BallotD):List Int:=Lib.compact ((vpre d l).mergeSort (fun a b=>decide (a≤b)))
theorem FB {d:ByteArray} {l:List BallotD} {x:BallotD} (h:seqB x.claim d=true):vpre d (l++[x])=vpre d l++[x.server]:=by simp [vpre,Qv,QR,h]
theorem FC {d:ByteArray} {l:List BallotD} {x:BallotD} (h:seqB x.claim d=false):vpre d (l++[x])=vpre d l:=by simp [vpre,Qv,QR,h]
theorem u9 (d:ByteArray) (l:List BallotD):(vpre d l).length≤l.length:=by rw [vpre,ZF];exact Qa _ _
theorem wx (ks ki:SlV) (I:List ItemD) (au:ByteArray) (gn:Int) (d:ByteArray) (L:List BallotD) (hL:L.length≤1000000)
  (hK:Mk Tryz.prog 287 #[.agg #[ks.v,ki.v],.string au,.int .i64 gn] (fun w=>Items w ki I∧Glob w) (fun u X'=>∃ s:SlV,u=s.v∧∀ w,X' w→Ballots w s L)) :
  Mk Tryz.prog 191 #[.agg #[ks.v,ki.v],.string d,.string au,.int .i64 gn] (fun w=>Items w ki I∧Glob w) (fun u _=>∃ A c,u=.slice A (votV d L).length c):=by
 refine bM (args:=[_,_,_,_]) _ Tryz.func191 rfl Tryz.ntmps191 rfl fun av bor w0=>?_
 refine cS 3 1 ?_
 repeat' (first|(refine bZ (hc:=uO ks ki au gn) (hX:=fun w h=>trivial) fun v1 X1 h1=>?_;obtain ⟨bk,ba,bg,rfl,hb⟩:=h1)|refine gs ?_|refine gs1 fun _=>?_|(refine gp ?_ ?_<;>intro hx_ this)|fail)
 rename_i b4 b5 b9
 refine Ca (ps:=[15]) (xs:=L) (enc:=encBal) (X1:=BalX ks ki I bk ba bg au gn) rfl inferInstance (tc ks ki I bk ba bg au gn L hL hK) (fun w h=>⟨h.1.1,h.1.2,(hb w h.2).1,(hb w h.2).2.1,(hb w h.2).2.2⟩) (fun _=>rfl) rfl
  (fun pre loc1=>∃ A q,loc1=[cel b9 22 [.slice A (vpre d pre).length q],cel b5 9 [.string d],cel b4 25 [ks.v,ki.v],orow 3 1 (.slice A (vpre d pre).length q) (vpre d pre).length ((vpre d pre).map encJ)])
  ⟨none,0,rfl⟩ ?_ ?_
 · rintro lo pre x suf loc1 hsp ⟨A,q,rfl⟩ av bor w0
   have hpx:pre.length<L.length:=by rw [hsp];simp
   have hfl:=u9 d pre
   repeat' (first|apply bF|apply Rd.QS|refine Rd.QT (h:=?_)|refine bo ?_|refine aK ?_|refine bY ?_|refine cD ?_|refine aM ?_|refine cg ?_|refine bx ?_|refine aY fun _=>?_|refine ci fun _=>?_|refine cQ fun _=>?_|refine bO ?_|refine aQ ?_|refine Rd.QW (ht:=?_)|refine Rd.QX (hf:=?_)|apply Rd.QV|apply Rd.QU|apply Rd.cw_ret|apply Rd.cw_exit|refine sy_beql (h:=?_)|refine br ?_|refine bq ?_)
   intro av bor w0
   cases hmv:seqB x.claim d with
   | true =>
    rw [FB hmv]
    generalize vpre d pre=ys at *
    repeat' (first|refine ai (dj true rfl rfl hmv) rfl ao rfl ?_|apply bF|apply Rd.QS|refine Rd.QT (h:=?_)|refine bo ?_|refine aK ?_|refine bY ?_|refine cD ?_|refine aM ?_|refine cg ?_|refine bx ?_|refine aY fun _=>?_|refine ci fun _=>?_|refine cQ fun _=>?_|refine bO ?_|refine aQ ?_|refine Rd.QW (ht:=?_)|refine Rd.QX (hf:=?_)|apply Rd.QV|apply Rd.QU|apply Rd.cw_ret|apply Rd.cw_exit|refine sy_beql (h:=?_)|refine br ?_|refine bq ?_|(refine cQ (len:=1) (vs:=[encJ x.server]) fun _=>?_)|(refine aF (size:=1) (news:=[encJ x.server]) (q:=1) rfl rfl rfl rfl (fun _=>At.there _ (At.there _ (At.there _ (At.there _ (At.there _ (At.here _)))))) (fun w G=>bT G aw rfl rfl 1) aa (by simp only [maxLen];omega) rfl ?_ rfl ?_;(first|with_reducible rfl|with_reducible assumption);intro A3 c3)|(refine Rd.cw_cond (ht:=?_) (hf:=?_);all_goals (intro hx_;first|have:=aL hx_|have:=aX hx_|skip)))
    have e1:(ys++[x.server]).length=ys.length+1:=by simp
    have e2:(ys++[x.server]).map encJ=ys.map encJ++[encJ x.server]:=by simp
    rw [e1,e2]
    exact ⟨_,.cons _ (.cons _ (al _)),A3,c3,rfl⟩
   | false =>
    rw [FC hmv]
    generalize vpre d pre=ys at *
    repeat' (first|refine ai (dj false rfl rfl hmv) rfl ao rfl ?_|apply bF|apply Rd.QS|refine Rd.QT (h:=?_)|refine bo ?_|refine aK ?_|refine bY ?_|refine cD ?_|refine aM ?_|refine cg ?_|refine bx ?_|refine aY fun _=>?_|refine ci fun _=>?_|refine cQ fun _=>?_|refine bO ?_|refine aQ ?_|refine Rd.QW (ht:=?_)|refine Rd.QX (hf:=?_)|apply Rd.QV|apply Rd.QU|apply Rd.cw_ret|apply Rd.cw_exit|refine sy_beql (h:=?_)|refine br ?_|refine bq ?_|(refine Rd.cw_cond (ht:=?_) (hf:=?_);all_goals (intro hx_;first|have:=aL hx_|have:=aX hx_|skip)))
    exact ⟨_,.cons _ (al _),A,q,rfl⟩
 · rintro loc1 ⟨A,q,rfl⟩
   have hfl:=u9 d L
   have hvo:votV d L=Lib.compact ((vpre d L).mergeSort (fun a b=>decide (a≤b))):=rfl
   rw [hvo]
   generalize vpre d L=ys at *
   repeat' (first|refine gs ?_|refine gs1 fun _=>?_|fail)
   refine pF (hc:=sortI_c.ct (e:=3) (n:=ys.length) (ss:=ys) aa) (hX:=fun _ _=>trivial) ?_
   repeat' (first|refine gs ?_|refine gs1 fun _=>?_|fail)
   refine pI (hc:=compI_c.ct) (hX:=fun _ _=>trivial) ?_
   rintro _ _ X2 ⟨A3,c3,rfl,rfl⟩
   repeat' (first|refine gs ?_|refine gs1 fun _=>?_|fail)
   exact ad (ag rfl rfl) ⟨A3,c3,rfl⟩
def ofClaimI (c:ClaimD):ItemD:=⟨1,ActD.zero,c,BallotD.zero,DecD.zero⟩
theorem gH (c:ClaimD):Pu Tryz.prog 117 #[c.v] (fun _=>True) (ofClaimI c).v:=by
 refine ak (args:=[_]) _ Tryz.func117 rfl Tryz.ntmps117 rfl fun av bor w0=>?_
 repeat' (first|refine aD (cs:=(ofClaimI c).cells) (hf:=by rfl) ?_|refine gs ?_|refine gs1 fun _=>?_|(refine gp ?_ ?_<;>intro hx_ this)|fail)
 exact ad (cL rfl rfl aW (by rfl)) rfl
theorem nW (b:Nat) (h:BldH) (sa sk:SlV) (st:ChS) (pl:List (ByteArray×Value)) (ok:BldOk sa sk st pl) (hw:h.wn=false) (Y:World→Prop) :
  Ct Tryz.prog 67 #[.pointer (some ⟨b,0,none⟩)] (bldR b h sa sk st pl) Y (fun u R _=>BldAt b h st (.bool false) u R):=by
 obtain ⟨ks,ki,id,fork,q1,q2,cl,wn⟩:=h
 simp only at hw
 subst hw
 refine eY (args:=[_]) _ Tryz.func67 rfl Tryz.ntmps67 rfl fun av bor w0=>?_
 unfold bldR
 repeat' (first|refine gs ?_|refine gs1 fun _=>?_|(refine gp ?_ ?_<;>intro hx_ this)|fail)
 (refine ar ⟨[0,1,2,3,4,5,6,7,8,9,10,11,12,13,14,15,16,17,18,19,20,21,22,23,24,25,26,27,28,29],[]⟩ [cel b 126 (bldC ⟨ks,ki,id,fork,q1,q2,cl,false⟩ sa sk st.prev (st.gen:Nat)),actR sa st.acts,keyR sk st.keys,mapr q2 pl] (fun w=>Y w) (h:=?_))
 all_goals repeat' (first|refine ay (hsub:=by exact aE) (hy:=by first|(apply pt (v:=.bool false);rfl;(repeat (first|exact aw|apply Zv));rfl)) ?_|refine gdz ?_|refine aA ?_ (h':=?_)|exact aB|refine gs1 fun _=>?_|(refine gq ?_ ?_<;>intro hx_ this)|fail)
 repeat' (first|refine gs ?_|refine gs1 fun _=>?_|(refine gp ?_ ?_<;>intro hx_ this)|fail)
 exact ad (ag rfl rfl) ⟨_,al _,rfl,sa,sk,pl,ok,rfl⟩
structure SetI (l:List ActD) where
 k:Nat
 hk:k≤l.length
 hs:setI l l.length=setI l k
theorem nV (b:Nat) (h:BldH) (sa sk:SlV) (st:ChS) (pl:List (ByteArray×Value)) (ok:BldOk sa sk st pl) (W:OfW) (c0:ClaimD) (hwc:W.won st.gen=some c0) (hcl:h.cl=c0) (hwn:h.wn=true) (Y:World→Prop)
  (hl:st.acts.length≤1000000) (hl2:st.keys.length≤1000000) (hg:st.gen≤1000000)
  (hclm:∀ p:Int,Pu Tryz.prog 116 #[.int .i64 p,c0.v] (fun w=>Y w∧Glob w) (.bool (W.clm p c0)))
  (hdg:Pu Tryz.prog 18 #[(ofClaimI c0).v] (fun w=>Y w∧Glob w) (.string (W.dgC c0)))
  (hwon:Pu Tryz.prog 115 #[.agg #[h.ks.v,h.ki.v],.string h.id,.int .i64 ((st.gen+1:Nat):Int)] (fun w=>Y w∧Glob w) (.tuple #[((W.won (st.gen+1)).getD ClaimD.zero).v,.bool (W.won (st.gen+1)).isSome])) :
  Ct Tryz.prog 67 #[.pointer (some ⟨b,0,none⟩)] (bldR b h sa sk st pl) (fun w=>Y w∧Glob w)
   (fun u R _=>(∀ s,regS W st=some s→BldAt b (h.look (W.won (st.gen+1))) s (.bool true) u R)∧(regS W st=none→BldAt b h st (.bool false) u R)):=by
 obtain ⟨ks,ki,id,fork,q1,q2,c,wn⟩:=h
 simp only at hcl hwn
 subst hcl
 subst hwn
 have ok':=ok
 obtain ⟨hn,hk,hp⟩:=ok
 refine eY (args:=[_]) _ Tryz.func67 rfl Tryz.ntmps67 rfl fun av bor w0=>?_
 have hreg:regS W st=bif decide (c.base=(st.acts.length:Int))&&seqB c.prev st.prev then (match setI st.acts st.acts.length with
  | none=>none
  | some i=>bif W.clm (st.acts.getD i ActD.zero).m c then some ⟨st.acts,st.keys++[⟨(st.acts.length:Nat),c.pub,c.home⟩],W.dgC c,st.gen+1⟩ else none) else none:=by rw [regS,hwc];rfl
 generalize hgo:regS W st=go at *
 unfold bldR actR keyR
 repeat' (first|refine gs ?_|refine gs1 fun _=>?_|(refine gp ?_ ?_<;>intro hx_ this)|fail)
 cases hb:decide (c.base=(st.acts.length:Int)) with
 | false =>
  rw [hb] at hreg
  have hb':(!decide (c.base=(sa.n:Int)))=true:=by rw [hn,hb];rfl
  (refine ar ⟨[0,1,2,3,4,5,6,7,8,9,10,11,12,13,14,15,16,17,18,19,20,21,22,23,24,25,26,27,28,29],[]⟩ [cel b 126 (bldC ⟨ks,ki,id,fork,q1,q2,c,true⟩ sa sk st.prev (st.gen:Nat)),orow 46 20 (.slice sa.p sa.n sa.c) sa.n (st.acts.map ActD.cells).flatten,orow 133 3 (.slice sk.p sk.n sk.c) sk.n (st.keys.map KeyD.cells).flatten,mapr q2 pl] (fun w=>Y w∧Glob w) (h:=?_))
  all_goals repeat' (first|refine ay (hsub:=by exact aE) (hy:=by first|(apply pt (v:=.bool true);rfl;(repeat (first|exact aw|apply Zv));rfl)|(apply eF true;rfl;rfl;exact hb')) ?_|refine gdz ?_|refine aA ?_ (h':=?_)|exact aB|refine gs1 fun _=>?_|(refine gq ?_ ?_<;>intro hx_ this)|fail)
  all_goals
   repeat' (first|refine gs ?_|refine gs1 fun _=>?_|(refine gp ?_ ?_<;>intro hx_ this)|fail)
   exact ad (ag rfl rfl) ⟨bldR b ⟨ks,ki,id,fork,q1,q2,c,true⟩ sa sk st pl,al _,⟨fun s hs=>(by rw [hreg] at hs;cases hs),fun _=>⟨rfl,sa,sk,pl,ok',rfl⟩⟩⟩
 | true =>
 rw [hb] at hreg
 have hb':(!decide (c.base=(sa.n:Int)))=false:=by rw [hn,hb];rfl
 have hbe:c.base=(st.acts.length:Int):=aL hb
 cases hpv:seqB c.prev st.prev with
 | false =>
  rw [hpv] at hreg
  have hpv':(!seqB c.prev st.prev)=true:=by rw [hpv];rfl
  (refine ar ⟨[0,1,2,3,4,5,6,7,8,9,10,11,12,13,14,15,16,17,18,19,20,21,22,23,24,25,26,27,28,29],[]⟩ [cel b 126 (bldC ⟨ks,ki,id,fork,q1,q2,c,true⟩ sa sk st.prev (st.gen:Nat)),orow 46 20 (.slice sa.p sa.n sa.c) sa.n (st.acts.map ActD.cells).flatten,orow 133 3 (.slice sk.p sk.n sk.c) sk.n (st.keys.map KeyD.cells).flatten,mapr q2 pl] (fun w=>Y w∧Glob w) (h:=?_))
  all_goals repeat' (first|refine ay (hsub:=by exact aE) (hy:=by first|(apply pt (v:=.bool true);rfl;(repeat (first|exact aw|apply Zv));rfl)|(apply eF false;rfl;rfl;exact hb')|(apply lr true;rfl;rfl;exact hpv')) ?_|refine gdz ?_|refine aA ?_ (h':=?_)|exact aB|refine gs1 fun _=>?_|(refine gq ?_ ?_<;>intro hx_ this)|fail)
  all_goals
   repeat' (first|refine gs ?_|refine gs1 fun _=>?_|(refine gp ?_ ?_<;>intro hx_ this)|fail)
   exact ad (ag rfl rfl) ⟨bldR b ⟨ks,ki,id,fork,q1,q2,c,true⟩ sa sk st pl,al _,⟨fun s hs=>(by rw [hreg] at hs;cases hs),fun _=>⟨rfl,sa,sk,pl,ok',rfl⟩⟩⟩
 | true =>
 rw [hpv] at hreg
 have hpv':(!seqB c.prev st.prev)=false:=by rw [hpv];rfl
 (refine ar ⟨[0,1,2,3,4,5,6,7,8,9,10,11,12,13,14,15,16,17,18,19,20,21,22,23,24,25,26,27,28,29],[]⟩ [cel b 126 (bldC ⟨ks,ki,id,fork,q1,q2,c,true⟩ sa sk st.prev (st.gen:Nat)),orow 46 20 (.slice sa.p sa.n sa.c) sa.n (st.acts.map ActD.cells).flatten,orow 133 3 (.slice sk.p sk.n sk.c) sk.n (st.keys.map KeyD.cells).flatten,mapr q2 pl] (fun w=>Y w∧Glob w) (h:=?_))
 all_goals repeat' (first|refine ay (hsub:=by exact aE) (hy:=by first|(apply pt (v:=.bool true);rfl;(repeat (first|exact aw|apply Zv));rfl)|(apply eF false;rfl;rfl;exact hb')|(apply lr false;rfl;rfl;exact hpv')) ?_|refine gdz ?_|refine aA ?_ (h':=?_)|exact aB|refine gs1 fun _=>?_|(refine gq ?_ ?_<;>intro hx_ this)|fail)
 repeat' (first|refine gs ?_|refine gs1 fun _=>?_|(refine gp ?_ ?_<;>intro hx_ this)|fail)
 refine aq (ι:=SetI st.acts) (fun i=>⟨[(0,.pointer (some ⟨b,0,none⟩)),(3,.pointer (some ⟨b,2,none⟩)),(4,.int .i64 ((i.k:Nat)-1))],[cel b 126 (bldC ⟨ks,ki,id,fork,q1,q2,c,true⟩ sa sk st.prev (st.gen:Nat)),orow 46 20 (.slice sa.p sa.n sa.c) sa.n (st.acts.map ActD.cells).flatten,orow 133 3 (.slice sk.p sk.n sk.c) sk.n (st.keys.map KeyD.cells).flatten,mapr q2 pl],fun w=>Y w∧Glob w⟩) (fun i=>i.k) ⟨sa.n,by omega,by rw [hn]⟩ (aj am (al _) fun _ h=>h) fun i=>?_
 obtain ⟨k,hk',hs⟩:=i
 simp only
 cases k with
 | zero =>
  have hset:setI st.acts st.acts.length=none:=hs
  rw [hset] at hreg
  simp only [Zh,Zg,Zf] at hreg
  repeat' (first|refine Dg (hab:=by omega) ?_|refine gs ?_|refine gs1 fun _=>?_|(refine gp ?_ ?_<;>intro hx_ this)|fail)
  (refine ar ⟨[0,1,2,3,4,5,6,7,8,9,10,11,12,13,14],[(15,⟨[16,17],[]⟩)]⟩ [cel b 126 (bldC ⟨ks,ki,id,fork,q1,q2,c,true⟩ sa sk st.prev (st.gen:Nat)),orow 46 20 (.slice sa.p sa.n sa.c) sa.n (st.acts.map ActD.cells).flatten,orow 133 3 (.slice sk.p sk.n sk.c) sk.n (st.keys.map KeyD.cells).flatten,mapr q2 pl] (fun w=>Y w∧Glob w) (h:=?_))
  all_goals repeat' (first|refine ay (hsub:=by exact aE) (hy:=by first|(apply cd true;rfl;rfl;exact Zd aa)) ?_|refine gdz ?_|refine aA ?_ (h':=?_)|exact aB|refine gs1 fun _=>?_|(refine gq ?_ ?_<;>intro hx_ this)|fail)
  all_goals
   repeat' (first|refine gs ?_|refine gs1 fun _=>?_|(refine gp ?_ ?_<;>intro hx_ this)|fail)
   exact ad (ag rfl rfl) ⟨bldR b ⟨ks,ki,id,fork,q1,q2,c,true⟩ sa sk st pl,al _,⟨fun s hs=>(by rw [hreg] at hs;cases hs),fun _=>⟨rfl,sa,sk,pl,ok',rfl⟩⟩⟩
 | succ k =>
  obtain ⟨a,ha⟩:∃ a,st.acts[k]?=some a:=⟨_,Zb aa⟩
  have haD:st.acts.getD k ActD.zero=a:=by rw [Zo,ha];rfl
  refine cO (r:=orow 46 20 (.slice sa.p sa.n sa.c) sa.n (st.acts.map ActD.cells).flatten) aW (p:=sa.p.isSome=true) (fun w h=>cC h aa) fun hap=>?_
  have hm1:(sa.n:Nat)=(st.acts.map ActD.cells).length:=by rw [ZF];exact hn
  have hi1:(st.acts.map ActD.cells)[k]?=some a.cells:=by simp [ha]
  have hrow:orow 46 20 (.slice sa.p sa.n sa.c) sa.n (st.acts.map ActD.cells).flatten∈[cel b 126 (bldC ⟨ks,ki,id,fork,q1,q2,c,true⟩ sa sk st.prev (st.gen:Nat)),orow 46 20 (.slice sa.p sa.n sa.c) sa.n (st.acts.map ActD.cells).flatten,orow 133 3 (.slice sk.p sk.n sk.c) sk.n (st.keys.map KeyD.cells).flatten,mapr q2 pl]:=.tail _ (.head _)
  by_cases hk19:a.kind=19
  · have hset:setI st.acts st.acts.length=some k:=by rw [hs,setI,haD,Zd hk19];rfl
    rw [hset] at hreg
    simp only [Zh,Zg,Zf,haD] at hreg
    have hcl:=hclm a.m
    repeat' (first|refine ai (lH true rfl rfl (Zd aa)) rfl rfl rfl ?_|refine gB (hab:=hk19) ?_|refine gs ?_|refine gs1 fun _=>?_|(refine aI (q:=k*20) ?_)|(refine je ?_)|(refine ai (gz (i:=k) (j:=3) (cs:=a.cells) (u:=.int .i64 a.kind) rfl hrow hm1 (fF _) hi1 rfl) rfl rfl rfl ?_)|(refine gp ?_ ?_<;>intro hx_ this)|fail)
    cases hcm:W.clm a.m c with
    | false =>
     rw [hcm] at hcl hreg
     (refine ar ⟨[0,1,2,3,4,5,6,7,8,9,10,11,12,13,14],[(15,⟨[16,17],[]⟩)]⟩ [cel b 126 (bldC ⟨ks,ki,id,fork,q1,q2,c,true⟩ sa sk st.prev (st.gen:Nat)),orow 46 20 (.slice sa.p sa.n sa.c) sa.n (st.acts.map ActD.cells).flatten,orow 133 3 (.slice sk.p sk.n sk.c) sk.n (st.keys.map KeyD.cells).flatten,mapr q2 pl] (fun w=>Y w∧Glob w) (h:=?_))
     all_goals repeat' (first|refine ay (hsub:=by exact aE) (hy:=by first|(apply cd false;rfl;rfl;exact Zc aa)) ?_|(refine ab (hc:=hcl) (hX:=fun w h=>h) ?_)|refine gdz ?_|refine ay (hsub:=by exact aE) (hy:=by first|(apply aC (q:=k*20);rfl;rfl;omega;omega;assumption;omega)|(apply gT;rfl;assumption;rfl)|(apply gz (i:=k) (j:=17) (cs:=a.cells) (u:=.int .i64 a.m);rfl;exact hrow;exact hm1;exact fF _;exact hi1;rfl)|(apply cE (vs:=c.cells);rfl;exact .head _;rfl;rfl)) ?_|refine aA ?_ (h':=?_)|exact aB|refine gs1 fun _=>?_|(refine gq ?_ ?_<;>intro hx_ this)|fail)
     all_goals
      repeat' (first|refine gs ?_|refine gs1 fun _=>?_|(refine gp ?_ ?_<;>intro hx_ this)|fail)
      exact ad (ag rfl rfl) ⟨bldR b ⟨ks,ki,id,fork,q1,q2,c,true⟩ sa sk st pl,al _,⟨fun s hs=>(by rw [hreg] at hs;cases hs),fun _=>⟨rfl,sa,sk,pl,ok',rfl⟩⟩⟩
    | true =>
     rw [hcm] at hcl hreg
     simp only [Zf] at hreg
     (refine ar ⟨[0,1,2,3,4,5,6,7,8,9,10,11,12,13,14],[(15,⟨[16,17],[]⟩)]⟩ [cel b 126 (bldC ⟨ks,ki,id,fork,q1,q2,c,true⟩ sa sk st.prev (st.gen:Nat)),orow 46 20 (.slice sa.p sa.n sa.c) sa.n (st.acts.map ActD.cells).flatten,orow 133 3 (.slice sk.p sk.n sk.c) sk.n (st.keys.map KeyD.cells).flatten,mapr q2 pl] (fun w=>Y w∧Glob w) (h:=?_))
     all_goals repeat' (first|refine ay (hsub:=by exact aE) (hy:=by first|(apply cd false;rfl;rfl;exact Zc aa)) ?_|(refine ab (hc:=hcl) (hX:=fun w h=>h) ?_)|refine gdz ?_|refine ay (hsub:=by exact aE) (hy:=by first|(apply aC (q:=k*20);rfl;rfl;omega;omega;assumption;omega)|(apply gT;rfl;assumption;rfl)|(apply gz (i:=k) (j:=17) (cs:=a.cells) (u:=.int .i64 a.m);rfl;exact hrow;exact hm1;exact fF _;exact hi1;rfl)|(apply cE (vs:=c.cells);rfl;exact .head _;rfl;rfl)) ?_|refine aA ?_ (h':=?_)|exact aB|refine gs1 fun _=>?_|(refine gq ?_ ?_<;>intro hx_ this)|fail)
     all_goals
      repeat' (first|refine gs ?_|refine gs1 fun _=>?_|(refine gp ?_ ?_<;>intro hx_ this)|fail)
      refine fS (ι:=Option Addr×Nat) (fun i=>⟨[(0,.pointer (some ⟨b,0,none⟩)),(3,.pointer (some ⟨b,2,none⟩))],[cel b 126 (bldC ⟨ks,ki,id,fork,q1,q2,c,true⟩ sa ⟨i.1,sk.n+1,i.2⟩ st.prev (st.gen:Nat)),orow 46 20 (.slice sa.p sa.n sa.c) sa.n (st.acts.map ActD.cells).flatten,orow 133 3 (.slice i.1 (sk.n+1) i.2) (sk.n+1) ((st.keys.map KeyD.cells).flatten++(⟨((sa.n:Nat):Int),c.pub,c.home⟩:KeyD).cells),mapr q2 pl],fun w=>Y w∧Glob w⟩) ?_ fun i=>?_
      · (refine ar ⟨[0,1,2,3,5,6,7,10,11,12,13,15,16,17,18],[(4,⟨[],[(8,⟨[9],[(14,⟨[],[(19,⟨[20],[(21,⟨[],[(22,⟨[23,24],[(25,⟨[],[]⟩)]⟩)]⟩)]⟩)]⟩),(19,⟨[],[(14,⟨[20],[(21,⟨[],[(22,⟨[23,24],[(25,⟨[],[]⟩)]⟩)]⟩)]⟩)]⟩)]⟩),(14,⟨[],[(8,⟨[9],[(19,⟨[20],[(21,⟨[],[(22,⟨[23,24],[(25,⟨[],[]⟩)]⟩)]⟩)]⟩)]⟩),(19,⟨[],[(8,⟨[9,20],[(21,⟨[],[(22,⟨[23,24],[(25,⟨[],[]⟩)]⟩)]⟩)]⟩)]⟩)]⟩),(19,⟨[],[(8,⟨[9],[(14,⟨[20],[(21,⟨[],[(22,⟨[23,24],[(25,⟨[],[]⟩)]⟩)]⟩)]⟩)]⟩),(14,⟨[],[(8,⟨[9,20],[(21,⟨[],[(22,⟨[23,24],[(25,⟨[],[]⟩)]⟩)]⟩)]⟩)]⟩)]⟩)]⟩),(8,⟨[9],[(4,⟨[],[(14,⟨[],[(19,⟨[20],[(21,⟨[],[(22,⟨[23,24],[(25,⟨[],[]⟩)]⟩)]⟩)]⟩)]⟩),(19,⟨[],[(14,⟨[20],[(21,⟨[],[(22,⟨[23,24],[(25,⟨[],[]⟩)]⟩)]⟩)]⟩)]⟩)]⟩),(14,⟨[],[(4,⟨[],[(19,⟨[20],[(21,⟨[],[(22,⟨[23,24],[(25,⟨[],[]⟩)]⟩)]⟩)]⟩)]⟩),(19,⟨[20],[(4,⟨[],[(21,⟨[],[(22,⟨[23,24],[(25,⟨[],[]⟩)]⟩)]⟩)]⟩),(21,⟨[],[(4,⟨[],[(22,⟨[23,24],[(25,⟨[],[]⟩)]⟩)]⟩)]⟩)]⟩)]⟩),(19,⟨[],[(4,⟨[],[(14,⟨[20],[(21,⟨[],[(22,⟨[23,24],[(25,⟨[],[]⟩)]⟩)]⟩)]⟩)]⟩),(14,⟨[20],[(4,⟨[],[(21,⟨[],[(22,⟨[23,24],[(25,⟨[],[]⟩)]⟩)]⟩)]⟩),(21,⟨[],[(4,⟨[],[(22,⟨[23,24],[(25,⟨[],[]⟩)]⟩)]⟩)]⟩)]⟩)]⟩)]⟩),(14,⟨[],[(4,⟨[],[(8,⟨[9],[(19,⟨[20],[(21,⟨[],[(22,⟨[23,24],[(25,⟨[],[]⟩)]⟩)]⟩)]⟩)]⟩),(19,⟨[],[(8,⟨[9,20],[(21,⟨[],[(22,⟨[23,24],[(25,⟨[],[]⟩)]⟩)]⟩)]⟩)]⟩)]⟩),(8,⟨[9],[(4,⟨[],[(19,⟨[20],[(21,⟨[],[(22,⟨[23,24],[(25,⟨[],[]⟩)]⟩)]⟩)]⟩)]⟩),(19,⟨[20],[(4,⟨[],[(21,⟨[],[(22,⟨[23,24],[(25,⟨[],[]⟩)]⟩)]⟩)]⟩),(21,⟨[],[(4,⟨[],[(22,⟨[23,24],[(25,⟨[],[]⟩)]⟩)]⟩)]⟩)]⟩)]⟩),(19,⟨[],[(4,⟨[],[(8,⟨[9,20],[(21,⟨[],[(22,⟨[23,24],[(25,⟨[],[]⟩)]⟩)]⟩)]⟩)]⟩),(8,⟨[9,20],[(4,⟨[],[(21,⟨[],[(22,⟨[23,24],[(25,⟨[],[]⟩)]⟩)]⟩)]⟩),(21,⟨[],[(4,⟨[],[(22,⟨[23,24],[(25,⟨[],[]⟩)]⟩)]⟩)]⟩)]⟩)]⟩)]⟩),(19,⟨[],[(4,⟨[],[(8,⟨[9],[(14,⟨[20],[(21,⟨[],[(22,⟨[23,24],[(25,⟨[],[]⟩)]⟩)]⟩)]⟩)]⟩),(14,⟨[],[(8,⟨[9,20],[(21,⟨[],[(22,⟨[23,24],[(25,⟨[],[]⟩)]⟩)]⟩)]⟩)]⟩)]⟩),(8,⟨[9],[(4,⟨[],[(14,⟨[20],[(21,⟨[],[(22,⟨[23,24],[(25,⟨[],[]⟩)]⟩)]⟩)]⟩)]⟩),(14,⟨[20],[(4,⟨[],[(21,⟨[],[(22,⟨[23,24],[(25,⟨[],[]⟩)]⟩)]⟩)]⟩),(21,⟨[],[(4,⟨[],[(22,⟨[23,24],[(25,⟨[],[]⟩)]⟩)]⟩)]⟩)]⟩)]⟩),(14,⟨[],[(4,⟨[],[(8,⟨[9,20],[(21,⟨[],[(22,⟨[23,24],[(25,⟨[],[]⟩)]⟩)]⟩)]⟩)]⟩),(8,⟨[9,20],[(4,⟨[],[(21,⟨[],[(22,⟨[23,24],[(25,⟨[],[]⟩)]⟩)]⟩)]⟩),(21,⟨[],[(4,⟨[],[(22,⟨[23,24],[(25,⟨[],[]⟩)]⟩)]⟩)]⟩)]⟩)]⟩)]⟩)]⟩ [] (fun _=>True) (h:=?_))
        all_goals repeat' (first|refine gd ?_|refine ay (hy:=by first|(apply fa (cs:=(⟨((sa.n:Nat):Int),c.pub,c.home⟩:KeyD).cells);rfl;rfl)) ?_|refine aA ?_ (h':=?_)|exact aB|refine cA (size:=3) (vs:=[(⟨((sa.n:Nat):Int),c.pub,c.home⟩:KeyD).v]) (css:=(⟨((sa.n:Nat):Int),c.pub,c.home⟩:KeyD).cells) (hsz:=by rfl) (hcs:=by rfl) fun _=>?_|(refine iS ?_;refine aF (size:=3) (news:=(⟨((sa.n:Nat):Int),c.pub,c.home⟩:KeyD).cells) (q:=1) rfl rfl rfl rfl (fun _=>At.there _ (At.there _ (At.there _ (At.here _)))) (fun w G=>bT G aw rfl rfl 1) aa (by simp only [maxLen];omega) rfl ?_ rfl ?_;(first|with_reducible rfl|with_reducible assumption|with_reducible exact Zl|with_reducible exact Zn);intro A3 c3)|refine gs1 fun _=>?_|(refine gq ?_ ?_<;>intro hx_ this)|fail)
        all_goals exact ⟨(_,_),aj am (Z2 _ (al _)) fun w h=>h⟩
      obtain ⟨A3,c3⟩:=i
      simp only
      have hlk:=vR b ⟨ks,ki,id,fork,q1,q2,c,true⟩ sa ⟨A3,sk.n+1,c3⟩ ⟨st.acts,st.keys++[(⟨((sa.n:Nat):Int),c.pub,c.home⟩:KeyD)],W.dgC c,st.gen+1⟩ (W.won (st.gen+1)) (fun w=>Y w∧Glob w) hwon
      repeat' (first|(refine ab (hc:=gH c) (hX:=fun _ _=>trivial) ?_)|(refine ab (hc:=hdg) (hX:=fun _ h=>h) ?_)|refine gs ?_|refine gs1 fun _=>?_|(refine ax (vs:=c.cells) (hv:=rfl) ?_)|(refine gp ?_ ?_<;>intro hx_ this)|fail)
      refine cj (pre:=[bldCel b ⟨ks,ki,id,fork,q1,q2,c,true⟩ sa ⟨A3,sk.n+1,c3⟩ (⟨st.acts,st.keys++[(⟨((sa.n:Nat):Int),c.pub,c.home⟩:KeyD)],W.dgC c,st.gen+1⟩:ChS)]) (fr:=[orow 46 20 (.slice sa.p sa.n sa.c) sa.n (st.acts.map ActD.cells).flatten,orow 133 3 (.slice A3 (sk.n+1) c3) (sk.n+1) ((st.keys.map KeyD.cells).flatten++(⟨((sa.n:Nat):Int),c.pub,c.home⟩:KeyD).cells),mapr q2 pl]) (first:=#[]) (caps:=#[]) (hc:=hlk) (hX:=fun _ h=>h) (h:=?_)
      rintro v R X' ⟨rfl,rfl⟩
      repeat' (first|refine gs ?_|refine gs1 fun _=>?_|(refine gp ?_ ?_<;>intro hx_ this)|fail)
      have hfk:((st.keys++[(⟨((sa.n:Nat):Int),c.pub,c.home⟩:KeyD)]).map KeyD.cells).flatten=(st.keys.map KeyD.cells).flatten++(⟨((sa.n:Nat):Int),c.pub,c.home⟩:KeyD).cells:=by simp
      rw [←hn] at hreg
      refine ad (ag rfl rfl) ⟨bldR b ((⟨ks,ki,id,fork,q1,q2,c,true⟩:BldH).look (W.won (st.gen+1))) sa ⟨A3,sk.n+1,c3⟩ (⟨st.acts,st.keys++[(⟨((sa.n:Nat):Int),c.pub,c.home⟩:KeyD)],W.dgC c,st.gen+1⟩:ChS) pl,?_,⟨fun s hs=>?_,fun hs=>?_⟩⟩
      · unfold bldR actR keyR
        rw [hfk]
        exact al _
      · rw [hreg,ZM] at hs
        subst hs
        exact ⟨rfl,sa,⟨A3,sk.n+1,c3⟩,pl,⟨hn,by rw [ZA,←hk];rfl,hp⟩,rfl⟩
      · rw [hreg] at hs
        cases hs
  · have hne:(!decide (a.kind=(19:Int)))=true:=by rw [Zc hk19];rfl
    repeat' (first|refine ai (lH true rfl rfl (Zd aa)) rfl rfl rfl ?_|refine ai (eF true rfl rfl hne) rfl ao rfl ?_|refine gs ?_|refine gs1 fun _=>?_|(refine aI (q:=k*20) ?_)|(refine je ?_)|(refine ai (gz (i:=k) (j:=3) (cs:=a.cells) (u:=.int .i64 a.kind) rfl hrow hm1 (fF _) hi1 rfl) rfl rfl rfl ?_)|(refine gp ?_ ?_<;>intro hx_ this)|fail)
    exact ⟨(⟨k,by omega,by rw [hs,setI,haD,Zc hk19];rfl⟩:SetI st.acts),Nat.lt_succ_self k,aj ⟨rfl,rfl,(by show some (Value.int IntKind.i64 (((k+1:Nat):Int)-1-1))=some (Value.int IntKind.i64 ((k:Int)-1));rw [show ((k+1:Nat):Int)-1-1=(k:Int)-1 from by omega]),trivial⟩ (al _) fun _ h=>h⟩
def quoN (n:Nat):Nat:=if n=0 then 1 else n/3*2+n%3*2/3+1
theorem xN (n:Nat) (hn:n≤1000000):Pu Tryz.prog 189 #[.int .i64 (n:Nat)] (fun _=>True) (.int .i64 (quoN n:Nat)):=by
 refine ak (args:=[_]) _ Tryz.func189 rfl Tryz.ntmps189 rfl fun av bor w0=>?_
 by_cases h0:n=0
 · subst h0
   repeat' (first|refine gs ?_|(refine gp ?_ ?_<;>intro hx_ this)|fail)
   · exact ad (ag rfl rfl) rfl
   · exact absurd this (by decide)
 · have q1:IntKind.i64.wrap ((n:Int).tdiv 3)=((n/3:Nat):Int):=IntWalk.i64_in _ (by show _≤((n/3:Nat):Int)∧((n/3:Nat):Int)≤_;omega)
   have q2:IntKind.i64.wrap (((n/3:Nat):Int)*2)=((n/3*2:Nat):Int):=IntWalk.i64_in _ aa
   have q3:(n:Int).tmod 3=((n%3:Nat):Int):=rfl
   have q4:IntKind.i64.wrap (((n%3:Nat):Int)*2)=((n%3*2:Nat):Int):=IntWalk.i64_in _ aa
   have q5:IntKind.i64.wrap (((n%3*2:Nat):Int).tdiv 3)=((n%3*2/3:Nat):Int):=IntWalk.i64_in _ (by show _≤((n%3*2/3:Nat):Int)∧((n%3*2/3:Nat):Int)≤_;omega)
   have hV:quoN n=n/3*2+n%3*2/3+1:=by rw [quoN,ZP h0]
   have b1:n/3*2≤2*n:=by omega
   have b2:n%3*2/3≤2:=by omega
   rw [hV]
   generalize n/3=x1 at *
   generalize n%3=x2 at *
   generalize x2*2/3=x3 at *
   repeat' (first|refine ai (lE rfl rfl (by decide) q1) rfl rfl rfl ?_|refine ai (lE rfl rfl (by decide) q5) rfl rfl rfl ?_|refine ai (qH rfl rfl q2) rfl rfl rfl ?_|refine ai (qH rfl rfl q4) rfl rfl rfl ?_|refine ai (om rfl rfl (by decide) q3) rfl rfl rfl ?_|refine gs ?_|(refine gp ?_ ?_<;>intro hx_ this)|fail)
   all_goals first
    | (exfalso;omega)
    | exact ad (ag rfl rfl) (congrArg (Value.int .i64) aa)
def wonB (sv:Nat) (dC:ClaimD→ByteArray) (B:List BallotD) (gn:Int) (c:ClaimD):Bool:=decide (c.gen=gn)&&decide (quoN sv≤(votV (dC c) B).length)
def wonO (sv:Nat) (C:List ClaimD) (dC:ClaimD→ByteArray) (B:List BallotD) (gn:Int):Option ClaimD:=C.find? (wonB sv dC B gn)
structure WonI (C:List ClaimD) (p:ClaimD→Bool) where
 k:Nat
 hk:k≤C.length
 hs:C.find? p=(C.drop k).find? p
theorem Fv (ks ki:SlV) (L:List Int) (I:List ItemD) (au:ByteArray) (gn:Int) (C:List ClaimD) (B:List BallotD) (dC:ClaimD→ByteArray) (hB:B.length≤1000000) (hL:L.length≤1000000)
  (hC:Mk Tryz.prog 190 #[.agg #[ks.v,ki.v],.string au] (fun w=>Items w ki I∧Glob w) (fun u X'=>∃ s:SlV,u=s.v∧∀ w,X' w→Claims w s C))
  (hK:Mk Tryz.prog 287 #[.agg #[ks.v,ki.v],.string au,.int .i64 gn] (fun w=>Items w ki I∧Glob w) (fun u X'=>∃ s:SlV,u=s.v∧∀ w,X' w→Ballots w s B))
  (hD:∀ c∈C,Pu Tryz.prog 18 #[(ofClaimI c).v] Glob (.string (dC c))) :
  Pu Tryz.prog 115 #[.agg #[ks.v,ki.v],.string au,.int .i64 gn] (fun w=>(Ints w ks L∧Items w ki I)∧Glob w) (.tuple #[((wonO L.length C dC B gn).getD ClaimD.zero).v,.bool (wonO L.length C dC B gn).isSome]):=by
 refine ak (args:=[_,_,_]) _ Tryz.func115 rfl Tryz.ntmps115 rfl fun av bor w0=>?_
 refine aP (p:=ks.n=L.length) (fun w h=>h.1.1.len_) fun hkn=>?_
 have hqu:=xN ks.n aa
 rw [wonO]
 have hpd:∀ c,wonB L.length dC B gn c=(decide (c.gen=gn)&&decide (quoN ks.n≤(votV (dC c) B).length)):=fun c=>by rw [hkn];rfl
 generalize wonB L.length dC B gn=p at *
 generalize quoN ks.n=qn at *
 repeat' (first|(refine ab (hc:=hqu) (hX:=fun _ _=>trivial) ?_)|(refine bZ (hc:=hC) (hX:=fun w h=>⟨h.1.2,h.2⟩) fun v1 X1 h1=>?_;obtain ⟨s,rfl,hw⟩:=h1)|refine gs ?_|refine gs1 fun _=>?_|(refine gp ?_ ?_<;>intro hx_ this)|fail)
 rename_i b3 b6
 refine aP (p:=s.n=C.length∧s.n≤maxLen∧(0<C.length→s.p.isSome=true)) (fun w h=>⟨by simpa using RowsD.len (hw w h.2),ZY (RowsD.cap (hw w h.2)) (RowsD.max (hw w h.2)),fun h0=>(RowsD.row (hw w h.2) 0 C[0].cells (by simp [Zb h0])).2.1⟩) fun ⟨hsn,hsm,hsp⟩=>?_
 simp only [maxLen] at hsm
 refine aq (ι:=WonI C p) (fun i=>⟨[(1,.string au),(2,.int .i64 gn),(3,.pointer (some ⟨b3,0,none⟩)),(6,.pointer (some ⟨b6,0,none⟩)),(8,.int .i64 (qn:Nat)),(18,s.v),(19,.int .i64 (s.n:Nat)),(20,.int .i64 (i.k:Nat))],[cel b6 54 ClaimD.zero.cells,cel b3 25 [ks.v,ki.v]],fun w=>((Ints w ks L∧Items w ki I)∧Glob w)∧X1 w⟩) (fun i=>C.length-i.k) ⟨0,Z4 _,rfl⟩ (aj am (al _) fun _ h=>h) fun i=>?_
 obtain ⟨k,hk,hs⟩:=i
 simp only
 by_cases hlt:k<C.length
 · have hsp':=hsp aa
   obtain ⟨c,hc⟩:∃ c,C[k]?=some c:=⟨_,Zb hlt⟩
   have hcm:=Z6 hc
   have hdr:C.drop k=c::C.drop (k+1):=by
    rw [List.drop_eq_getElem_cons hlt]
    rw [Zb hlt,ZM] at hc
    rw [hc]
   have hrow:∀ w,((Ints w ks L∧Items w ki I)∧Glob w)∧X1 w→c.cells.length=9∧s.p.isSome=true∧∀ i u,c.cells[i]?=some u→CellAt w s.p (k*9+i) u:=fun w h=>RowsD.row (hw w h.2) k c.cells (by simp [hc])
   have hvo:=wx ks ki I au gn (dC c) B hB hK
   have hdi:=hD c hcm
   have hpc:=hpd c
   generalize votV (dC c) B=V at *
   by_cases hg:c.gen=gn
   · rw [Zd hg,Zg] at hpc
     by_cases hq:qn≤V.length
     · have hF:C.find? p=some c:=by rw [hs,hdr,List.find?_cons,hpc,Zd hq]
       rw [hF]
       repeat' (first|refine ai (cd true rfl rfl (Zd aa)) rfl ao rfl ?_|refine ai (eF false rfl rfl (by simp [hg])) rfl ao rfl ?_|refine ai (lH true rfl rfl (Zd aa)) rfl ao rfl ?_|(refine ab (hc:=gH c) (hX:=fun _ _=>trivial) ?_)|(refine ab (hc:=hdi) (hX:=fun w h=>h.1.2) ?_)|(refine bZ (hc:=hvo) (hX:=fun w h=>⟨h.1.1.2,h.1.2⟩) fun v2 X2 h2=>?_;obtain ⟨A2,c2,rfl⟩:=h2)|refine gs ?_|refine gs1 fun _=>?_|(refine aI (q:=k*9) ?_)|(refine ca (cs:=c.cells) (hF:=hrow) ?_)|(refine gp ?_ ?_<;>intro hx_ this)|fail)
       all_goals first
        | exact ad (dU rfl rfl rfl aW (by rfl)) rfl
     · have hF:C.find? p=(C.drop (k+1)).find? p:=by rw [hs,hdr,List.find?_cons,hpc,Zc hq]
       repeat' (first|refine ai (cd true rfl rfl (Zd aa)) rfl ao rfl ?_|refine ai (eF false rfl rfl (by simp [hg])) rfl ao rfl ?_|refine ai (lH false rfl rfl (Zc aa)) rfl ao rfl ?_|(refine ab (hc:=gH c) (hX:=fun _ _=>trivial) ?_)|(refine ab (hc:=hdi) (hX:=fun w h=>h.1.2) ?_)|(refine bZ (hc:=hvo) (hX:=fun w h=>⟨h.1.1.2,h.1.2⟩) fun v2 X2 h2=>?_;obtain ⟨A2,c2,rfl⟩:=h2)|refine gs ?_|refine gs1 fun _=>?_|(refine aI (q:=k*9) ?_)|(refine ca (cs:=c.cells) (hF:=hrow) ?_)|(refine gp ?_ ?_<;>intro hx_ this)|fail)
       all_goals first
        | exact ⟨(⟨k+1,hlt,hF⟩:WonI C p),(by show C.length-(k+1)<C.length-k;omega),aj am (.cons _ (al _)) fun _ h=>h.1⟩
   · have hF:C.find? p=(C.drop (k+1)).find? p:=by rw [hs,hdr,List.find?_cons,hpc,Zc hg,Zj]
     repeat' (first|refine ai (cd true rfl rfl (Zd aa)) rfl ao rfl ?_|refine ai (eF true rfl rfl (by simp [hg])) rfl ao rfl ?_|refine gs ?_|refine gs1 fun _=>?_|(refine aI (q:=k*9) ?_)|(refine ca (cs:=c.cells) (hF:=hrow) ?_)|(refine gp ?_ ?_<;>intro hx_ this)|fail)
     all_goals first
      | exact ⟨(⟨k+1,hlt,hF⟩:WonI C p),(by show C.length-(k+1)<C.length-k;omega),aj am (.cons _ (al _)) fun _ h=>h⟩
 · have hF:C.find? p=none:=by rw [hs,Qw (by omega)];rfl
   rw [hF]
   repeat' (first|refine ai (cd false rfl rfl (Zc aa)) rfl ao rfl ?_|refine gs ?_|refine gs1 fun _=>?_|(refine aD (cs:=ClaimD.zero.cells) (hf:=by rfl) ?_)|(refine gp ?_ ?_<;>intro hx_ this)|fail)
   all_goals first
    | exact ad (dU rfl rfl rfl aW (by rfl)) rfl
theorem cX {P:Program} {d:Nat} {xs ys:Array Value} {f:Field} {fs:List Field} {a b:Value} {r q:Bool} {w:World}
  (hn:f.name≠ "_") (ha:(part f.type xs f.offset).run P w=.ok a w) (hb:(part f.type ys f.offset).run P w=.ok b w)
  (hr:(Op.equalIn d f.type a b).run P w=.ok r w) (hq:(Op.eqFields d xs ys fs).run P w=.ok q w) :
  (Op.eqFields d xs ys (f::fs)).run P w=.ok (r&&q) w:=by
 rw [Op.eqFields,ZO hn]
 simp only [Sem.run_bind,ha,hb,hr,Result.andThen_ok]
 cases r<;>simp [hq]
theorem qm {P:Program} {d:Nat} {xs ys:Array Value} {w:World}:(Op.eqFields d xs ys []).run P w=.ok true w:=by simp [Op.eqFields]
theorem bN {P:Program} {t:TypeId} {cs:Array Value} {o:Nat} {v:Value} {w:World} [h1:TyOne P t] (hx:cs[o]?=some v):(part t cs o).run P w=.ok v w:=by
 have hag:=(cv (TyOne.out (P:=P) (t:=t)) w).1
 simp [part,hag,hx]
theorem d9 {P:Program} {d:Nat} {t:TypeId} {k:IntKind} {a b:Int} {w:World} [TyInt P t k]:(Op.equalIn (d+1) t (.int k a) (.int k b)).run P w=.ok (decide (a=b)) w:=by
 rw [run_equalIn_int (P:=P) w d t k k a b TyInt.out]
 congr 1
theorem jO {P:Program} {d:Nat} {t:TypeId} {a b:ByteArray} {w:World} [TyStr P t]:(Op.equalIn (d+1) t (.string a) (.string b)).run P w=.ok (seqB a b) w :=
 run_equalIn_string (P:=P) w d t a b TyStr.out
theorem qV:Tryz.prog.underlying 44=some (.struct (Tryz.prog.fieldsOf 44)):=by kernel_rfl
theorem tL:Tryz.prog.stoodInHeld 44=false:=by kernel_rfl
theorem AD (w:World):(isAgg 44).run Tryz.prog w=.ok true w:=by kernel_rfl
theorem xq (w:World):(Go.sizeOf 44).run Tryz.prog w=.ok 2 w:=by kernel_rfl
theorem ib {cs:Array Value} {o:Nat} {w:World}:(part 44 cs o).run Tryz.prog w=.ok (.agg (cs.extract o (o+2))) w:=by
 simp [part,AD,xq]
theorem nB {d:Nat} {a b c e:Int} {w:World}:(Op.equalIn (d+2) 44 (.agg #[.int .i64 a,.int .i64 b]) (.agg #[.int .i64 c,.int .i64 e])).run Tryz.prog w=.ok (decide (a=c)&&(decide (b=e)&&true)) w:=by
 rw [run_equalIn_agg w (d+1) _ _ _ qV tL]
 have hf:(Tryz.prog.fieldsOf 44).toList.map (fun f=>(f.name,f.type,f.offset))=[("E",3,0),("S",3,1)]:=by kernel_rfl
 generalize (Tryz.prog.fieldsOf 44).toList=l at hf
 rcases l with _|⟨⟨n1,t1,o1,_⟩,_|⟨⟨n2,t2,o2,_⟩,_|⟨f3,l⟩⟩⟩
 case cons.cons.nil =>
  simp only [Z1,List.map_nil,List.cons.injEq,Prod.mk.injEq,and_true] at hf
  obtain ⟨⟨rfl,rfl,rfl⟩,rfl,rfl,rfl⟩:=hf
  exact cX (by dsimp only;decide) (bN rfl) (bN rfl) d9 (cX (by dsimp only;decide) (bN rfl) (bN rfl) d9 qm)
 all_goals (have:=congrArg List.length hf;simp at this)
def claimEq (a b:ClaimD):Bool:=seqB a.actor b.actor&&(decide (a.base=b.base)&&(seqB a.prev b.prev&&(decide (a.gen=b.gen)&&(decide (a.home=b.home)&&(decide (a.pub=b.pub)&&(decide (a.time=b.time)&&((decide (a.e=b.e)&&(decide (a.s=b.s)&&true))&&true)))))))
theorem nG:Tryz.prog.underlying 54=some (.struct (Tryz.prog.fieldsOf 54)):=by kernel_rfl
theorem oe:Tryz.prog.stoodInHeld 54=false:=by kernel_rfl
theorem og:Tryz.prog.eqGuardType Tryz.prog.depth 54=false:=by kernel_rfl
theorem q8 (w:World) (a b:ClaimD):(Op.equalIn 10000 54 (.agg a.cells.toArray) (.agg b.cells.toArray)).run Tryz.prog w=.ok (claimEq a b) w:=by
 rw [show (10000:Nat)=9999+1 from rfl,run_equalIn_agg w 9999 _ _ _ nG oe]
 have hf:(Tryz.prog.fieldsOf 54).toList.map (fun f=>(f.name,f.type,f.offset))=[("Actor",9,0),("Base",3,1),("Prev",9,2),("Gen",3,3),("Home",3,4),("Public",3,5),("Time",3,6),("Sig",44,7)]:=by kernel_rfl
 generalize (Tryz.prog.fieldsOf 54).toList=l at hf
 rcases l with _|⟨⟨n1,t1,o1,_⟩,_|⟨⟨n2,t2,o2,_⟩,_|⟨⟨n3,t3,o3,_⟩,_|⟨⟨n4,t4,o4,_⟩,_|⟨⟨n5,t5,o5,_⟩,_|⟨⟨n6,t6,o6,_⟩,_|⟨⟨n7,t7,o7,_⟩,_|⟨⟨n8,t8,o8,_⟩,_|⟨g,l⟩⟩⟩⟩⟩⟩⟩⟩⟩
 case cons.cons.cons.cons.cons.cons.cons.cons.nil =>
  simp only [Z1,List.map_nil,List.cons.injEq,Prod.mk.injEq,and_true] at hf
  obtain ⟨⟨rfl,rfl,rfl⟩,⟨rfl,rfl,rfl⟩,⟨rfl,rfl,rfl⟩,⟨rfl,rfl,rfl⟩,⟨rfl,rfl,rfl⟩,⟨rfl,rfl,rfl⟩,⟨rfl,rfl,rfl⟩,rfl,rfl,rfl⟩:=hf
  exact cX (by dsimp only;decide) (bN rfl) (bN rfl) jO (cX (by dsimp only;decide) (bN rfl) (bN rfl) d9 (cX (by dsimp only;decide) (bN rfl) (bN rfl) jO (cX (by dsimp only;decide) (bN rfl) (bN rfl) d9 (cX (by dsimp only;decide) (bN rfl) (bN rfl) d9 (cX (by dsimp only;decide) (bN rfl) (bN rfl) d9 (cX (by dsimp only;decide) (bN rfl) (bN rfl) d9 (cX (by dsimp only;decide) ib ib nB (qm))))))))
 all_goals (have:=congrArg List.length hf;simp at this)
theorem nP {N:Nat} {av bor:List Nat} {w0:World} {st:St} {ty t2:TypeId} {x y:Operand} {a b:ClaimD} (hx:ev st.env x=some (.agg a.cells.toArray)) (hy:ev st.env y=some (.agg b.cells.toArray)) :
  Sy.Yields Tryz.prog N av bor w0 st (.binOp .eql 54 x y t2) ty (.bool (claimEq a b)):=Sy.Yields.mk fun A w ok d pos af g=>by
 have h1:=run_eql_struct (P:=Tryz.prog) w 54 a.cells.toArray b.cells.toArray
 rw [q8 w a b] at h1
 simp [execOp,ok.eval (st:=st) hx,ok.eval (st:=st) hy,run_eqGuard_agg _ _ _ _ _ _ _ og,h1]
def ballotEq (a b:BallotD):Bool:=decide (a.server=b.server)&&(seqB a.actor b.actor&&(decide (a.gen=b.gen)&&(seqB a.claim b.claim&&(decide (a.time=b.time)&&((decide (a.e=b.e)&&(decide (a.s=b.s)&&true))&&true)))))
theorem lp:Tryz.prog.underlying 56=some (.struct (Tryz.prog.fieldsOf 56)):=by kernel_rfl
theorem nL:Tryz.prog.stoodInHeld 56=false:=by kernel_rfl
theorem nM:Tryz.prog.eqGuardType Tryz.prog.depth 56=false:=by kernel_rfl
theorem pP (w:World) (a b:BallotD):(Op.equalIn 10000 56 (.agg a.cells.toArray) (.agg b.cells.toArray)).run Tryz.prog w=.ok (ballotEq a b) w:=by
 rw [show (10000:Nat)=9999+1 from rfl,run_equalIn_agg w 9999 _ _ _ lp nL]
 have hf:(Tryz.prog.fieldsOf 56).toList.map (fun f=>(f.name,f.type,f.offset))=[("Server",3,0),("Actor",9,1),("Gen",3,2),("Claim",9,3),("Time",3,4),("Sig",44,5)]:=by kernel_rfl
 generalize (Tryz.prog.fieldsOf 56).toList=l at hf
 rcases l with _|⟨⟨n1,t1,o1,_⟩,_|⟨⟨n2,t2,o2,_⟩,_|⟨⟨n3,t3,o3,_⟩,_|⟨⟨n4,t4,o4,_⟩,_|⟨⟨n5,t5,o5,_⟩,_|⟨⟨n6,t6,o6,_⟩,_|⟨g,l⟩⟩⟩⟩⟩⟩⟩
 case cons.cons.cons.cons.cons.cons.nil =>
  simp only [Z1,List.map_nil,List.cons.injEq,Prod.mk.injEq,and_true] at hf
  obtain ⟨⟨rfl,rfl,rfl⟩,⟨rfl,rfl,rfl⟩,⟨rfl,rfl,rfl⟩,⟨rfl,rfl,rfl⟩,⟨rfl,rfl,rfl⟩,rfl,rfl,rfl⟩:=hf
  exact cX (by dsimp only;decide) (bN rfl) (bN rfl) d9 (cX (by dsimp only;decide) (bN rfl) (bN rfl) jO (cX (by dsimp only;decide) (bN rfl) (bN rfl) d9 (cX (by dsimp only;decide) (bN rfl) (bN rfl) jO (cX (by dsimp only;decide) (bN rfl) (bN rfl) d9 (cX (by dsimp only;decide) ib ib nB (qm))))))
 all_goals (have:=congrArg List.length hf;simp at this)
theorem lI {N:Nat} {av bor:List Nat} {w0:World} {st:St} {ty t2:TypeId} {x y:Operand} {a b:BallotD} (hx:ev st.env x=some (.agg a.cells.toArray)) (hy:ev st.env y=some (.agg b.cells.toArray)) :
  Sy.Yields Tryz.prog N av bor w0 st (.binOp .eql 56 x y t2) ty (.bool (ballotEq a b)):=Sy.Yields.mk fun A w ok d pos af g=>by
 have h1:=run_eql_struct (P:=Tryz.prog) w 56 a.cells.toArray b.cells.toArray
 rw [pP w a b] at h1
 simp [execOp,ok.eval (st:=st) hx,ok.eval (st:=st) hy,run_eqGuard_agg _ _ _ _ _ _ _ nM,h1]
end Go.Proofs.YtaolfiikahlmkaaGreatDoor
