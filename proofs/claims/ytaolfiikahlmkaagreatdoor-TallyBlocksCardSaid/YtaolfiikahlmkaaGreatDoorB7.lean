/- Joined. -/
import Derived.Test.YtaolfiikahlmkaaGreatDoorB6
import Derived.Shelf.SlIter.Nil
import Derived.Shelf.SlIterI.Nil
import Derived.Shelf.SortM.Plain
import Derived.Shelf.SortM.SortNone
import Derived.Shelf.Slices.CompactS
import Derived.Shelf.Slices.CompactI
import Derived.Test.YtaolfiikahlmkaaGreatDoorProg
set_option linter.unusedVariables false
set_option linter.unusedSimpArgs false
set_option maxHeartbeats 16000000
namespace Go.Proofs
open Go.Shelf
def Tryz.compI_ren:Go.Shelf.Ren:=⟨fun|20=>256|n=>n,fun|22=>22|3=>3|4=>4|0=>0|n=>n,fun|n=>n⟩
theorem Tryz.compI:Go.Proofs.Lays2.n20 Tryz.prog Tryz.compI_ren:={
 mixed:=by kernel_rfl
 f20:=Tryz.func256.trans (congrArg some (by kernel_rfl))
 t0:=Tryz.underlying0
 a0:=Tryz.isAgg0
 z0:=Tryz.sizeOf0
 v0:=Tryz.zeroValue0
 t3:=Tryz.underlying3
 a3:=Tryz.isAgg3
 z3:=Tryz.sizeOf3
 v3:=Tryz.zeroValue3
 t4:=Tryz.underlying4
 a4:=Tryz.isAgg4
 z4:=Tryz.sizeOf4
 v4:=Tryz.zeroValue4
 t22:=Tryz.underlying22
 a22:=Tryz.isAgg22
 z22:=Tryz.sizeOf22
 v22:=Tryz.zeroValue22
 i3:=by kernel_rfl }
end Go.Proofs
namespace Go.Proofs.YtaolfiikahlmkaaGreatDoor
open Go Go.Proofs Sy Go.Shelf Go.Maps Go.Sort Tryz
def encJ (n:Int):Value:=.int .i64 n
theorem sortI_c:SortC prog 255 encJ (fun ss=>ss.mergeSort (fun a b=>decide (a≤b))) where
 some_:=fun blk off cap ss w h1 h2 h3=>AnyM.slices_Sort_int Tryz.sortI blk off cap ss w h1 h2 h3
 none_:=fun p cap w=>AnyM.slices_Sort_int_none Tryz.sortI p cap w
 len:=fun ss=>List.length_mergeSort ss
theorem compI_c:CompC prog 256 encJ 0 Lib.compact where
 some_:=fun blk off cap ss w h1 h2 h3=>Any.slices_Compact_int Tryz.compI blk off cap ss w h1 h2 h3
 none_:=fun p cap w=>Any.slices_Compact_int_empty Tryz.compI p cap w
 len:=fun ss=>Lib.compact_length_le ss
end Go.Proofs.YtaolfiikahlmkaaGreatDoor
namespace Go.Proofs.YtaolfiikahlmkaaGreatDoor
open Go Go.Proofs Sy Tryz
def vpre (d:ByteArray) (l:List Xh):List Int:=(l.filter fun b=>seqB b.claim d).map Xh.server
def votV (d:ByteArray) (l:List Xh):List Int:=Lib.compact ((vpre d l).mergeSort (fun a b=>decide (a≤b)))
theorem I9 {d:ByteArray} {l:List Xh} {x:Xh} (h:seqB x.claim d=true):vpre d (l++[x])=vpre d l++[x.server]:=by simp [vpre,Qt,List.filter_cons,h]
theorem Ja {d:ByteArray} {l:List Xh} {x:Xh} (h:seqB x.claim d=false):vpre d (l++[x])=vpre d l:=by simp [vpre,Qt,List.filter_cons,h]
theorem xu (d:ByteArray) (l:List Xh):(vpre d l).length≤l.length:=by rw [vpre,ZE];exact Z8 _ _
theorem ze (ks ki:Xk) (I:List Xc) (au:ByteArray) (gn:Int) (d:ByteArray) (L:List Xh) (hL:L.length≤1000000)
  (hK:Mk prog 287 #[.agg #[ks.v,ki.v],.string au,.int .i64 gn] (fun w=>Items w ki I∧Xe w) (fun u X'=>∃ s:Xk,u=s.v∧∀ w,X' w→Ballots w s L)) :
  Mk prog 191 #[.agg #[ks.v,ki.v],.string d,.string au,.int .i64 gn] (fun w=>Items w ki I∧Xe w) (fun u _=>∃ A c,u=.slice A (votV d L).length c):=by
 refine dm func191 ntmps191 fun av bor w0=>?_
 refine cL 3 1 ?_
 repeat' (first|(refine bF (hc:=xd ks ki au gn) (hX:=fun w h=>trivial) fun v1 X1 h1=>?_;obtain ⟨bk,ba,bg,rfl,hb⟩:=h1)|refine gs ?_|refine gs1 fun _=>?_|fail)
 rename_i b4 b5 b9
 refine Fp (ps:=[15]) (xs:=L) (enc:=encBal) (X1:=BalX ks ki I bk ba bg au gn) rfl ⟨aj⟩ (vo ks ki I bk ba bg au gn L hL hK) (fun w h=>⟨h.1.1,h.1.2,(hb w h.2).1,(hb w h.2).2.1,(hb w h.2).2.2⟩) (fun _=>rfl) rfl
  (fun pre loc1=>∃ A q,loc1=[cel b9 22 [.slice A (vpre d pre).length q],cel b5 9 [.string d],cel b4 25 [ks.v,ki.v],orow 3 1 (.slice A (vpre d pre).length q) (vpre d pre).length ((vpre d pre).map encJ)])
  ⟨none,0,rfl⟩ ?_ ?_
 · rintro lo pre x suf loc1 hsp ⟨A,q,rfl⟩ av bor w0
   have hpx:pre.length<L.length:=by rw [hsp];simp
   have hfl:=xu d pre
   repeat' (first|apply aJ|refine Rd.QR (h:=?_)|refine aY fun _=>?_|refine aS ?_|fail)
   intro av bor w0
   cases hmv:seqB x.claim d with
   | true =>
    rw [I9 hmv]
    generalize vpre d pre=ys at *
    repeat' (first|refine aT ?_ (cJ true rfl rfl hmv)|apply aJ|apply Rd.QQ|refine Rd.QR (h:=?_)|refine bD ?_|refine bU ?_|refine eC fun _=>?_|refine cj ?_|refine Rd.QU (ht:=?_)|apply Rd.QS|(refine aL (size:=1) (news:=[encJ x.server]) (q:=1) rfl rfl rfl rfl (fun _=>At.there _ (At.there _ (At.there _ (At.there _ (At.there _ (At.here _)))))) (fun w G=>bN G ao rfl rfl 1) aa (by simp only [maxLen];omega) rfl ?_ rfl ?_;(with_reducible rfl);intro A3 c3)|fail)
    have e1:(ys++[x.server]).length=ys.length+1:=by simp
    have e2:(ys++[x.server]).map encJ=ys.map encJ++[encJ x.server]:=by simp
    rw [e1,e2]
    exact ⟨_,.cons _ (.cons _ (ak _)),A3,c3,rfl⟩
   | false =>
    rw [Ja hmv]
    generalize vpre d pre=ys at *
    repeat' (first|refine aT ?_ (cJ false rfl rfl hmv)|apply aJ|apply Rd.QQ|refine Rd.QR (h:=?_)|refine bD ?_|refine bU ?_|refine Rd.QV (hf:=?_)|apply Rd.QT|apply Rd.QS|fail)
    exact ⟨_,.cons _ (ak _),A,q,rfl⟩
 · rintro loc1 ⟨A,q,rfl⟩
   have hfl:=xu d L
   have hvo:votV d L=Lib.compact ((vpre d L).mergeSort (fun a b=>decide (a≤b))):=rfl
   rw [hvo]
   generalize vpre d L=ys at *
   repeat' (first|refine gs ?_|fail)
   refine iP (hc:=sortI_c.ct (e:=3) (n:=ys.length) (ss:=ys) aa) (hX:=fun _ _=>trivial) ?_
   repeat' (first|refine gs ?_|fail)
   refine xR (hc:=compI_c.ct) (hX:=fun _ _=>trivial) ?_
   rintro _ _ X2 ⟨A3,c3,rfl,rfl⟩
   repeat' (first|refine gs ?_|fail)
   exact ab (ag rfl rfl) ⟨A3,c3,rfl⟩
def ofClaimI (c:Xg):Xc:=⟨1,Xa.zero,c,Xh.zero,Xt.zero⟩
theorem gX (c:Xg):Pu prog 117 #[c.v] (fun _=>True) (ofClaimI c).v:=by
 refine ax func117 ntmps117 fun av bor w0=>?_
 repeat' (first|refine aG (cs:=(ofClaimI c).cells) (hf:=by rfl) ?_|refine gs ?_|refine gs1 fun _=>?_|fail)
 exact ab (bV rfl rfl aM (by rfl)) rfl
theorem pG (b:Nat) (h:BldH) (sa sk:Xk) (st:Ec) (pl:List (ByteArray×Value)) (ok:BldOk sa sk st pl) (hw:h.wn=false) (Y:World→Prop) :
  Ct prog 67 #[.pointer (some ⟨b,0,none⟩)] (bldR b h sa sk st pl) Y (fun u R _=>BldAt b h st (.bool false) u R):=by
 obtain ⟨ks,ki,id,fork,q1,q2,cl,wn⟩:=h
 simp only at hw
 subst hw
 refine eK (args:=[_]) _ func67 rfl ntmps67 rfl fun av bor w0=>?_
 unfold bldR
 repeat' (first|refine gs ?_|fail)
 (refine ap ⟨[0,1,2,3,4,5,6,7,8,9,10,11,12,13,14,15,16,17,18,19,20,21,22,23,24,25,26,27,28,29],[]⟩ [cel b 126 (bldC ⟨ks,ki,id,fork,q1,q2,cl,false⟩ sa sk st.prev (st.gen:Nat)),actR sa st.acts,keyR sk st.keys,mapr q2 pl] (fun w=>Y w) (h:=?_))
 all_goals repeat' (first|refine ay (hsub:=by exact aK) (hy:=by (apply py (v:=.bool false);rfl;(repeat (exact ao));rfl)) ?_|refine gdz ?_|fail)
 repeat' (first|refine gs ?_|fail)
 exact ab (ag rfl rfl) ⟨_,ak _,rfl,sa,sk,pl,ok,rfl⟩
structure SetI (l:List Xa) where
 k:Nat
 hk:k≤l.length
 hs:setI l l.length=setI l k
theorem pF (b:Nat) (h:BldH) (sa sk:Xk) (st:Ec) (pl:List (ByteArray×Value)) (ok:BldOk sa sk st pl) (W:Ef) (c0:Xg) (hwc:W.won st.gen=some c0) (hcl:h.cl=c0) (hwn:h.wn=true) (Y:World→Prop)
  (hl:st.acts.length≤1000000) (hl2:st.keys.length≤1000000) (hg:st.gen≤1000000)
  (hclm:∀ p:Int,Pu prog 116 #[.int .i64 p,c0.v] (fun w=>Y w∧Xe w) (.bool (W.clm p c0)))
  (hdg:Pu prog 18 #[(ofClaimI c0).v] (fun w=>Y w∧Xe w) (.string (W.dgC c0)))
  (hwon:Pu prog 115 #[.agg #[h.ks.v,h.ki.v],.string h.id,.int .i64 ((st.gen+1:Nat):Int)] (fun w=>Y w∧Xe w) (.tuple #[((W.won (st.gen+1)).getD Xg.zero).v,.bool (W.won (st.gen+1)).isSome])) :
  Ct prog 67 #[.pointer (some ⟨b,0,none⟩)] (bldR b h sa sk st pl) (fun w=>Y w∧Xe w)
   (fun u R _=>(∀ s,regS W st=some s→BldAt b (h.look (W.won (st.gen+1))) s (.bool true) u R)∧(regS W st=none→BldAt b h st (.bool false) u R)):=by
 obtain ⟨ks,ki,id,fork,q1,q2,c,wn⟩:=h
 simp only at hcl hwn
 subst hcl
 subst hwn
 have ok':=ok
 obtain ⟨hn,hk,hp⟩:=ok
 refine eK (args:=[_]) _ func67 rfl ntmps67 rfl fun av bor w0=>?_
 have hreg:regS W st=bif decide (c.base=(st.acts.length:Int))&&seqB c.prev st.prev then (match setI st.acts st.acts.length with
  | none=>none
  | some i=>bif W.clm (st.acts.getD i Xa.zero).m c then some ⟨st.acts,st.keys++[⟨(st.acts.length:Nat),c.pub,c.home⟩],W.dgC c,st.gen+1⟩ else none) else none:=by rw [regS,hwc];rfl
 generalize hgo:regS W st=go at *
 unfold bldR actR keyR
 repeat' (first|refine gs ?_|fail)
 cases hb:decide (c.base=(st.acts.length:Int)) with
 | false =>
  rw [hb] at hreg
  have hb':(!decide (c.base=(sa.n:Int)))=true:=by rw [hn,hb];rfl
  (refine ap ⟨[0,1,2,3,4,5,6,7,8,9,10,11,12,13,14,15,16,17,18,19,20,21,22,23,24,25,26,27,28,29],[]⟩ [cel b 126 (bldC ⟨ks,ki,id,fork,q1,q2,c,true⟩ sa sk st.prev (st.gen:Nat)),orow 46 20 (.slice sa.p sa.n sa.c) sa.n (st.acts.map Xa.cells).flatten,orow 133 3 (.slice sk.p sk.n sk.c) sk.n (st.keys.map Xm.cells).flatten,mapr q2 pl] (fun w=>Y w∧Xe w) (h:=?_))
  all_goals repeat' (first|refine ay (hsub:=by exact aK) (hy:=by first|(apply py (v:=.bool true);rfl;(repeat (exact ao));rfl)|(apply eO true;rfl;rfl;exact hb')) ?_|refine gdz ?_|fail)
  all_goals
   repeat' (first|refine gs ?_|fail)
   exact ab (ag rfl rfl) ⟨bldR b ⟨ks,ki,id,fork,q1,q2,c,true⟩ sa sk st pl,ak _,⟨fun s hs=>(by rw [hreg] at hs;cases hs),fun _=>⟨rfl,sa,sk,pl,ok',rfl⟩⟩⟩
 | true =>
 rw [hb] at hreg
 have hb':(!decide (c.base=(sa.n:Int)))=false:=by rw [hn,hb];rfl
 have hbe:c.base=(st.acts.length:Int):=bA hb
 cases hpv:seqB c.prev st.prev with
 | false =>
  rw [hpv] at hreg
  have hpv':(!seqB c.prev st.prev)=true:=by rw [hpv];rfl
  (refine ap ⟨[0,1,2,3,4,5,6,7,8,9,10,11,12,13,14,15,16,17,18,19,20,21,22,23,24,25,26,27,28,29],[]⟩ [cel b 126 (bldC ⟨ks,ki,id,fork,q1,q2,c,true⟩ sa sk st.prev (st.gen:Nat)),orow 46 20 (.slice sa.p sa.n sa.c) sa.n (st.acts.map Xa.cells).flatten,orow 133 3 (.slice sk.p sk.n sk.c) sk.n (st.keys.map Xm.cells).flatten,mapr q2 pl] (fun w=>Y w∧Xe w) (h:=?_))
  all_goals repeat' (first|refine ay (hsub:=by exact aK) (hy:=by first|(apply py (v:=.bool true);rfl;(repeat (exact ao));rfl)|(apply eO false;rfl;rfl;exact hb')|(apply xm true;rfl;rfl;exact hpv')) ?_|refine gdz ?_|fail)
  all_goals
   repeat' (first|refine gs ?_|fail)
   exact ab (ag rfl rfl) ⟨bldR b ⟨ks,ki,id,fork,q1,q2,c,true⟩ sa sk st pl,ak _,⟨fun s hs=>(by rw [hreg] at hs;cases hs),fun _=>⟨rfl,sa,sk,pl,ok',rfl⟩⟩⟩
 | true =>
 rw [hpv] at hreg
 have hpv':(!seqB c.prev st.prev)=false:=by rw [hpv];rfl
 (refine ap ⟨[0,1,2,3,4,5,6,7,8,9,10,11,12,13,14,15,16,17,18,19,20,21,22,23,24,25,26,27,28,29],[]⟩ [cel b 126 (bldC ⟨ks,ki,id,fork,q1,q2,c,true⟩ sa sk st.prev (st.gen:Nat)),orow 46 20 (.slice sa.p sa.n sa.c) sa.n (st.acts.map Xa.cells).flatten,orow 133 3 (.slice sk.p sk.n sk.c) sk.n (st.keys.map Xm.cells).flatten,mapr q2 pl] (fun w=>Y w∧Xe w) (h:=?_))
 all_goals repeat' (first|refine ay (hsub:=by exact aK) (hy:=by first|(apply py (v:=.bool true);rfl;(repeat (exact ao));rfl)|(apply eO false;rfl;rfl;exact hb')|(apply xm false;rfl;rfl;exact hpv')) ?_|refine gdz ?_|fail)
 repeat' (first|refine gs ?_|fail)
 refine aq (ι:=SetI st.acts) (fun i=>⟨[(0,.pointer (some ⟨b,0,none⟩)),(3,.pointer (some ⟨b,2,none⟩)),(4,.int .i64 ((i.k:Nat)-1))],[cel b 126 (bldC ⟨ks,ki,id,fork,q1,q2,c,true⟩ sa sk st.prev (st.gen:Nat)),orow 46 20 (.slice sa.p sa.n sa.c) sa.n (st.acts.map Xa.cells).flatten,orow 133 3 (.slice sk.p sk.n sk.c) sk.n (st.keys.map Xm.cells).flatten,mapr q2 pl],fun w=>Y w∧Xe w⟩) (fun i=>i.k) ⟨sa.n,by omega,by rw [hn]⟩ (ai am (ak _) fun _ h=>h) fun i=>?_
 obtain ⟨k,hk',hs⟩:=i
 simp only
 cases k with
 | zero =>
  have hset:setI st.acts st.acts.length=none:=hs
  rw [hset] at hreg
  simp only [Zi,Zh,Zg] at hreg
  repeat' (first|refine rs ?_|refine gs ?_|fail)
  (refine ap ⟨[0,1,2,3,4,5,6,7,8,9,10,11,12,13,14],[(15,⟨[16,17],[]⟩)]⟩ [cel b 126 (bldC ⟨ks,ki,id,fork,q1,q2,c,true⟩ sa sk st.prev (st.gen:Nat)),orow 46 20 (.slice sa.p sa.n sa.c) sa.n (st.acts.map Xa.cells).flatten,orow 133 3 (.slice sk.p sk.n sk.c) sk.n (st.keys.map Xm.cells).flatten,mapr q2 pl] (fun w=>Y w∧Xe w) (h:=?_))
  all_goals repeat' (first|refine ay (hsub:=by exact aK) (hy:=by (apply bZ true;rfl;rfl;exact Ze aa)) ?_|refine gdz ?_|refine az ?_ (h':=?_)|exact aA|fail)
  all_goals
   repeat' (first|refine gs ?_|fail)
   exact ab (ag rfl rfl) ⟨bldR b ⟨ks,ki,id,fork,q1,q2,c,true⟩ sa sk st pl,ak _,⟨fun s hs=>(by rw [hreg] at hs;cases hs),fun _=>⟨rfl,sa,sk,pl,ok',rfl⟩⟩⟩
 | succ k =>
  obtain ⟨a,ha⟩:∃ a,st.acts[k]?=some a:=⟨_,Zc aa⟩
  have haD:st.acts.getD k Xa.zero=a:=by rw [Zp,ha];rfl
  refine bY (r:=orow 46 20 (.slice sa.p sa.n sa.c) sa.n (st.acts.map Xa.cells).flatten) aM (p:=sa.p.isSome=true) (fun w h=>bK h aa) fun hap=>?_
  have hm1:(sa.n:Nat)=(st.acts.map Xa.cells).length:=by rw [ZE];exact hn
  have hi1:(st.acts.map Xa.cells)[k]?=some a.cells:=by simp [ha]
  have hrow:orow 46 20 (.slice sa.p sa.n sa.c) sa.n (st.acts.map Xa.cells).flatten∈[cel b 126 (bldC ⟨ks,ki,id,fork,q1,q2,c,true⟩ sa sk st.prev (st.gen:Nat)),orow 46 20 (.slice sa.p sa.n sa.c) sa.n (st.acts.map Xa.cells).flatten,orow 133 3 (.slice sk.p sk.n sk.c) sk.n (st.keys.map Xm.cells).flatten,mapr q2 pl]:=.tail _ (.head _)
  by_cases hk19:a.kind=19
  · have hset:setI st.acts st.acts.length=some k:=by rw [hs,setI,haD,Ze hk19];rfl
    rw [hset] at hreg
    simp only [Zi,Zh,Zg,haD] at hreg
    have hcl:=hclm a.m
    repeat' (first|refine al (mQ true rfl rfl (Ze aa)) rfl rfl rfl ?_|refine fA (hab:=hk19) ?_|refine gs ?_|(refine aD (q:=k*20) ?_)|(refine d6 ?_)|(refine al (gQ (i:=k) (j:=3) (cs:=a.cells) (u:=.int .i64 a.kind) rfl hrow hm1 (eN _) hi1 rfl) rfl rfl rfl ?_)|fail)
    cases hcm:W.clm a.m c with
    | false =>
     rw [hcm] at hcl hreg
     (refine ap ⟨[0,1,2,3,4,5,6,7,8,9,10,11,12,13,14],[(15,⟨[16,17],[]⟩)]⟩ [cel b 126 (bldC ⟨ks,ki,id,fork,q1,q2,c,true⟩ sa sk st.prev (st.gen:Nat)),orow 46 20 (.slice sa.p sa.n sa.c) sa.n (st.acts.map Xa.cells).flatten,orow 133 3 (.slice sk.p sk.n sk.c) sk.n (st.keys.map Xm.cells).flatten,mapr q2 pl] (fun w=>Y w∧Xe w) (h:=?_))
     all_goals repeat' (first|refine ay (hsub:=by exact aK) (hy:=by (apply bZ false;rfl;rfl;exact Zd aa)) ?_|(refine ae (hc:=hcl) ?_)|refine gdz ?_|refine ay (hsub:=by exact aK) (hy:=by first|(apply aB (q:=k*20);rfl;rfl;omega;omega;assumption;omega)|(apply ez;rfl;assumption;rfl)|(apply gQ (i:=k) (j:=17) (cs:=a.cells) (u:=.int .i64 a.m);rfl;exact hrow;exact hm1;exact eN _;exact hi1;rfl)|(apply cu (vs:=c.cells);rfl;exact .head _;rfl;rfl)) ?_|refine az ?_ (h':=?_)|exact aA|fail)
     all_goals
      repeat' (first|refine gs ?_|fail)
      exact ab (ag rfl rfl) ⟨bldR b ⟨ks,ki,id,fork,q1,q2,c,true⟩ sa sk st pl,ak _,⟨fun s hs=>(by rw [hreg] at hs;cases hs),fun _=>⟨rfl,sa,sk,pl,ok',rfl⟩⟩⟩
    | true =>
     rw [hcm] at hcl hreg
     simp only [Zg] at hreg
     (refine ap ⟨[0,1,2,3,4,5,6,7,8,9,10,11,12,13,14],[(15,⟨[16,17],[]⟩)]⟩ [cel b 126 (bldC ⟨ks,ki,id,fork,q1,q2,c,true⟩ sa sk st.prev (st.gen:Nat)),orow 46 20 (.slice sa.p sa.n sa.c) sa.n (st.acts.map Xa.cells).flatten,orow 133 3 (.slice sk.p sk.n sk.c) sk.n (st.keys.map Xm.cells).flatten,mapr q2 pl] (fun w=>Y w∧Xe w) (h:=?_))
     all_goals repeat' (first|refine ay (hsub:=by exact aK) (hy:=by (apply bZ false;rfl;rfl;exact Zd aa)) ?_|(refine ae (hc:=hcl) ?_)|refine gdz ?_|refine ay (hsub:=by exact aK) (hy:=by first|(apply aB (q:=k*20);rfl;rfl;omega;omega;assumption;omega)|(apply ez;rfl;assumption;rfl)|(apply gQ (i:=k) (j:=17) (cs:=a.cells) (u:=.int .i64 a.m);rfl;exact hrow;exact hm1;exact eN _;exact hi1;rfl)|(apply cu (vs:=c.cells);rfl;exact .head _;rfl;rfl)) ?_|refine az ?_ (h':=?_)|exact aA|fail)
     all_goals
      repeat' (first|refine gs ?_|fail)
      refine ib (ι:=Option Addr×Nat) (fun i=>⟨[(0,.pointer (some ⟨b,0,none⟩)),(3,.pointer (some ⟨b,2,none⟩))],[cel b 126 (bldC ⟨ks,ki,id,fork,q1,q2,c,true⟩ sa ⟨i.1,sk.n+1,i.2⟩ st.prev (st.gen:Nat)),orow 46 20 (.slice sa.p sa.n sa.c) sa.n (st.acts.map Xa.cells).flatten,orow 133 3 (.slice i.1 (sk.n+1) i.2) (sk.n+1) ((st.keys.map Xm.cells).flatten++(⟨((sa.n:Nat):Int),c.pub,c.home⟩:Xm).cells),mapr q2 pl],fun w=>Y w∧Xe w⟩) ?_ fun i=>?_
      · (refine ap ⟨[0,1,2,3,5,6,7,10,11,12,13,15,16,17,18],[(4,⟨[],[(8,⟨[9],[(14,⟨[],[(19,⟨[20],[(21,⟨[],[(22,⟨[23,24],[(25,⟨[],[]⟩)]⟩)]⟩)]⟩)]⟩),(19,⟨[],[(14,⟨[20],[(21,⟨[],[(22,⟨[23,24],[(25,⟨[],[]⟩)]⟩)]⟩)]⟩)]⟩)]⟩),(14,⟨[],[(8,⟨[9],[(19,⟨[20],[(21,⟨[],[(22,⟨[23,24],[(25,⟨[],[]⟩)]⟩)]⟩)]⟩)]⟩),(19,⟨[],[(8,⟨[9,20],[(21,⟨[],[(22,⟨[23,24],[(25,⟨[],[]⟩)]⟩)]⟩)]⟩)]⟩)]⟩),(19,⟨[],[(8,⟨[9],[(14,⟨[20],[(21,⟨[],[(22,⟨[23,24],[(25,⟨[],[]⟩)]⟩)]⟩)]⟩)]⟩),(14,⟨[],[(8,⟨[9,20],[(21,⟨[],[(22,⟨[23,24],[(25,⟨[],[]⟩)]⟩)]⟩)]⟩)]⟩)]⟩)]⟩),(8,⟨[9],[(4,⟨[],[(14,⟨[],[(19,⟨[20],[(21,⟨[],[(22,⟨[23,24],[(25,⟨[],[]⟩)]⟩)]⟩)]⟩)]⟩),(19,⟨[],[(14,⟨[20],[(21,⟨[],[(22,⟨[23,24],[(25,⟨[],[]⟩)]⟩)]⟩)]⟩)]⟩)]⟩),(14,⟨[],[(4,⟨[],[(19,⟨[20],[(21,⟨[],[(22,⟨[23,24],[(25,⟨[],[]⟩)]⟩)]⟩)]⟩)]⟩),(19,⟨[20],[(4,⟨[],[(21,⟨[],[(22,⟨[23,24],[(25,⟨[],[]⟩)]⟩)]⟩)]⟩),(21,⟨[],[(4,⟨[],[(22,⟨[23,24],[(25,⟨[],[]⟩)]⟩)]⟩)]⟩)]⟩)]⟩),(19,⟨[],[(4,⟨[],[(14,⟨[20],[(21,⟨[],[(22,⟨[23,24],[(25,⟨[],[]⟩)]⟩)]⟩)]⟩)]⟩),(14,⟨[20],[(4,⟨[],[(21,⟨[],[(22,⟨[23,24],[(25,⟨[],[]⟩)]⟩)]⟩)]⟩),(21,⟨[],[(4,⟨[],[(22,⟨[23,24],[(25,⟨[],[]⟩)]⟩)]⟩)]⟩)]⟩)]⟩)]⟩),(14,⟨[],[(4,⟨[],[(8,⟨[9],[(19,⟨[20],[(21,⟨[],[(22,⟨[23,24],[(25,⟨[],[]⟩)]⟩)]⟩)]⟩)]⟩),(19,⟨[],[(8,⟨[9,20],[(21,⟨[],[(22,⟨[23,24],[(25,⟨[],[]⟩)]⟩)]⟩)]⟩)]⟩)]⟩),(8,⟨[9],[(4,⟨[],[(19,⟨[20],[(21,⟨[],[(22,⟨[23,24],[(25,⟨[],[]⟩)]⟩)]⟩)]⟩)]⟩),(19,⟨[20],[(4,⟨[],[(21,⟨[],[(22,⟨[23,24],[(25,⟨[],[]⟩)]⟩)]⟩)]⟩),(21,⟨[],[(4,⟨[],[(22,⟨[23,24],[(25,⟨[],[]⟩)]⟩)]⟩)]⟩)]⟩)]⟩),(19,⟨[],[(4,⟨[],[(8,⟨[9,20],[(21,⟨[],[(22,⟨[23,24],[(25,⟨[],[]⟩)]⟩)]⟩)]⟩)]⟩),(8,⟨[9,20],[(4,⟨[],[(21,⟨[],[(22,⟨[23,24],[(25,⟨[],[]⟩)]⟩)]⟩)]⟩),(21,⟨[],[(4,⟨[],[(22,⟨[23,24],[(25,⟨[],[]⟩)]⟩)]⟩)]⟩)]⟩)]⟩)]⟩),(19,⟨[],[(4,⟨[],[(8,⟨[9],[(14,⟨[20],[(21,⟨[],[(22,⟨[23,24],[(25,⟨[],[]⟩)]⟩)]⟩)]⟩)]⟩),(14,⟨[],[(8,⟨[9,20],[(21,⟨[],[(22,⟨[23,24],[(25,⟨[],[]⟩)]⟩)]⟩)]⟩)]⟩)]⟩),(8,⟨[9],[(4,⟨[],[(14,⟨[20],[(21,⟨[],[(22,⟨[23,24],[(25,⟨[],[]⟩)]⟩)]⟩)]⟩)]⟩),(14,⟨[20],[(4,⟨[],[(21,⟨[],[(22,⟨[23,24],[(25,⟨[],[]⟩)]⟩)]⟩)]⟩),(21,⟨[],[(4,⟨[],[(22,⟨[23,24],[(25,⟨[],[]⟩)]⟩)]⟩)]⟩)]⟩)]⟩),(14,⟨[],[(4,⟨[],[(8,⟨[9,20],[(21,⟨[],[(22,⟨[23,24],[(25,⟨[],[]⟩)]⟩)]⟩)]⟩)]⟩),(8,⟨[9,20],[(4,⟨[],[(21,⟨[],[(22,⟨[23,24],[(25,⟨[],[]⟩)]⟩)]⟩)]⟩),(21,⟨[],[(4,⟨[],[(22,⟨[23,24],[(25,⟨[],[]⟩)]⟩)]⟩)]⟩)]⟩)]⟩)]⟩)]⟩ [] (fun _=>True) (h:=?_))
        all_goals repeat' (first|refine gd ?_|refine ay (hy:=by (apply dt (cs:=(⟨((sa.n:Nat):Int),c.pub,c.home⟩:Xm).cells);rfl;rfl)) ?_|refine az ?_ (h':=?_)|exact aA|refine cN (size:=3) (vs:=[(⟨((sa.n:Nat):Int),c.pub,c.home⟩:Xm).v]) (css:=(⟨((sa.n:Nat):Int),c.pub,c.home⟩:Xm).cells) (hsz:=by rfl) (hcs:=by rfl) fun _=>?_|(refine jv ?_;refine aL (size:=3) (news:=(⟨((sa.n:Nat):Int),c.pub,c.home⟩:Xm).cells) (q:=1) rfl rfl rfl rfl (fun _=>At.there _ (At.there _ (At.there _ (At.here _)))) (fun w G=>bN G ao rfl rfl 1) aa (by simp only [maxLen];omega) rfl ?_ rfl ?_;(with_reducible rfl);intro A3 c3)|fail)
        all_goals exact ⟨(_,_),ai am (Z0 _ (ak _)) fun w h=>h⟩
      obtain ⟨A3,c3⟩:=i
      simp only
      have hlk:=yw b ⟨ks,ki,id,fork,q1,q2,c,true⟩ sa ⟨A3,sk.n+1,c3⟩ ⟨st.acts,st.keys++[(⟨((sa.n:Nat):Int),c.pub,c.home⟩:Xm)],W.dgC c,st.gen+1⟩ (W.won (st.gen+1)) (fun w=>Y w∧Xe w) hwon
      repeat' (first|(refine ae (hc:=gX c) ?_)|(refine ae (hc:=hdg) ?_)|refine gs ?_|(refine aE (vs:=c.cells) (hv:=rfl) ?_)|fail)
      refine bO (pre:=[bldCel b ⟨ks,ki,id,fork,q1,q2,c,true⟩ sa ⟨A3,sk.n+1,c3⟩ (⟨st.acts,st.keys++[(⟨((sa.n:Nat):Int),c.pub,c.home⟩:Xm)],W.dgC c,st.gen+1⟩:Ec)]) (fr:=[orow 46 20 (.slice sa.p sa.n sa.c) sa.n (st.acts.map Xa.cells).flatten,orow 133 3 (.slice A3 (sk.n+1) c3) (sk.n+1) ((st.keys.map Xm.cells).flatten++(⟨((sa.n:Nat):Int),c.pub,c.home⟩:Xm).cells),mapr q2 pl]) (first:=#[]) (caps:=#[]) (hc:=hlk) (hX:=fun _ h=>h) (h:=?_)
      rintro v R X' ⟨rfl,rfl⟩
      repeat' (first|refine gs ?_|fail)
      have hfk:((st.keys++[(⟨((sa.n:Nat):Int),c.pub,c.home⟩:Xm)]).map Xm.cells).flatten=(st.keys.map Xm.cells).flatten++(⟨((sa.n:Nat):Int),c.pub,c.home⟩:Xm).cells:=by simp
      rw [←hn] at hreg
      refine ab (ag rfl rfl) ⟨bldR b ((⟨ks,ki,id,fork,q1,q2,c,true⟩:BldH).look (W.won (st.gen+1))) sa ⟨A3,sk.n+1,c3⟩ (⟨st.acts,st.keys++[(⟨((sa.n:Nat):Int),c.pub,c.home⟩:Xm)],W.dgC c,st.gen+1⟩:Ec) pl,?_,⟨fun s hs=>?_,fun hs=>?_⟩⟩
      · unfold bldR actR keyR
        rw [hfk]
        exact ak _
      · rw [hreg,ZL] at hs
        subst hs
        exact ⟨rfl,sa,⟨A3,sk.n+1,c3⟩,pl,⟨hn,by rw [Zz,←hk];rfl,hp⟩,rfl⟩
      · rw [hreg] at hs
        cases hs
  · have hne:(!decide (a.kind=(19:Int)))=true:=by rw [Zd hk19];rfl
    repeat' (first|refine al (mQ true rfl rfl (Ze aa)) rfl rfl rfl ?_|refine aT ?_ (eO true rfl rfl hne)|refine gs ?_|(refine aD (q:=k*20) ?_)|(refine d6 ?_)|(refine al (gQ (i:=k) (j:=3) (cs:=a.cells) (u:=.int .i64 a.kind) rfl hrow hm1 (eN _) hi1 rfl) rfl rfl rfl ?_)|fail)
    exact ⟨(⟨k,by omega,by rw [hs,setI,haD,Zd hk19];rfl⟩:SetI st.acts),Nat.lt_succ_self k,ai ⟨rfl,rfl,(by show some (Value.int IntKind.i64 (((k+1:Nat):Int)-1-1))=some (Value.int IntKind.i64 ((k:Int)-1));rw [show ((k+1:Nat):Int)-1-1=(k:Int)-1 from by omega]),trivial⟩ (ak _) fun _ h=>h⟩
def quoN (n:Nat):Nat:=if n=0 then 1 else n/3*2+n%3*2/3+1
theorem AH (n:Nat) (hn:n≤1000000):Pu prog 189 #[.int .i64 (n:Nat)] (fun _=>True) (.int .i64 (quoN n:Nat)):=by
 refine ax func189 ntmps189 fun av bor w0=>?_
 by_cases h0:n=0
 · subst h0
   repeat' (first|refine gs ?_|(refine gp ?_ ?_<;>intro hx_ this)|fail)
   · exact ab (ag rfl rfl) rfl
   · exact absurd this (by decide)
 · have q1:IntKind.i64.wrap ((n:Int).tdiv 3)=((n/3:Nat):Int):=IntWalk.i64_in _ (by show _≤((n/3:Nat):Int)∧((n/3:Nat):Int)≤_;omega)
   have q2:IntKind.i64.wrap (((n/3:Nat):Int)*2)=((n/3*2:Nat):Int):=IntWalk.i64_in _ aa
   have q3:(n:Int).tmod 3=((n%3:Nat):Int):=rfl
   have q4:IntKind.i64.wrap (((n%3:Nat):Int)*2)=((n%3*2:Nat):Int):=IntWalk.i64_in _ aa
   have q5:IntKind.i64.wrap (((n%3*2:Nat):Int).tdiv 3)=((n%3*2/3:Nat):Int):=IntWalk.i64_in _ (by show _≤((n%3*2/3:Nat):Int)∧((n%3*2/3:Nat):Int)≤_;omega)
   have hV:quoN n=n/3*2+n%3*2/3+1:=by rw [quoN,ZO h0]
   have b1:n/3*2≤2*n:=by omega
   have b2:n%3*2/3≤2:=by omega
   rw [hV]
   generalize n/3=x1 at *
   generalize n%3=x2 at *
   generalize x2*2/3=x3 at *
   repeat' (first|refine al (pQ rfl rfl (by decide) q1) rfl rfl rfl ?_|refine al (pQ rfl rfl (by decide) q5) rfl rfl rfl ?_|refine al (sP rfl rfl q2) rfl rfl rfl ?_|refine al (sP rfl rfl q4) rfl rfl rfl ?_|refine al (sM rfl rfl (by decide) q3) rfl rfl rfl ?_|refine gs ?_|(refine gp ?_ ?_<;>intro hx_ this)|fail)
   all_goals first
    | (exfalso;omega)
    | exact ab (ag rfl rfl) (congrArg (Value.int .i64) aa)
def wonB (sv:Nat) (dC:Xg→ByteArray) (B:List Xh) (gn:Int) (c:Xg):Bool:=decide (c.gen=gn)&&decide (quoN sv≤(votV (dC c) B).length)
def wonO (sv:Nat) (C:List Xg) (dC:Xg→ByteArray) (B:List Xh) (gn:Int):Option Xg:=C.find? (wonB sv dC B gn)
structure WonI (C:List Xg) (p:Xg→Bool) where
 k:Nat
 hk:k≤C.length
 hs:C.find? p=(C.drop k).find? p
theorem I7 (ks ki:Xk) (L:List Int) (I:List Xc) (au:ByteArray) (gn:Int) (C:List Xg) (B:List Xh) (dC:Xg→ByteArray) (hB:B.length≤1000000) (hL:L.length≤1000000)
  (hC:Mk prog 190 #[.agg #[ks.v,ki.v],.string au] (fun w=>Items w ki I∧Xe w) (fun u X'=>∃ s:Xk,u=s.v∧∀ w,X' w→Claims w s C))
  (hK:Mk prog 287 #[.agg #[ks.v,ki.v],.string au,.int .i64 gn] (fun w=>Items w ki I∧Xe w) (fun u X'=>∃ s:Xk,u=s.v∧∀ w,X' w→Ballots w s B))
  (hD:∀ c∈C,Pu prog 18 #[(ofClaimI c).v] Xe (.string (dC c))) :
  Pu prog 115 #[.agg #[ks.v,ki.v],.string au,.int .i64 gn] (fun w=>(Ints w ks L∧Items w ki I)∧Xe w) (.tuple #[((wonO L.length C dC B gn).getD Xg.zero).v,.bool (wonO L.length C dC B gn).isSome]):=by
 refine ax func115 ntmps115 fun av bor w0=>?_
 refine aQ (p:=ks.n=L.length) (fun w h=>h.1.1.len_) fun hkn=>?_
 have hqu:=AH ks.n aa
 rw [wonO]
 have hpd:∀ c,wonB L.length dC B gn c=(decide (c.gen=gn)&&decide (quoN ks.n≤(votV (dC c) B).length)):=fun c=>by rw [hkn];rfl
 generalize wonB L.length dC B gn=p at *
 generalize quoN ks.n=qn at *
 repeat' (first|(refine ae (hc:=hqu) ?_)|(refine bF (hc:=hC) (hX:=fun w h=>⟨h.1.2,h.2⟩) fun v1 X1 h1=>?_;obtain ⟨s,rfl,hw⟩:=h1)|refine gs ?_|refine gs1 fun _=>?_|fail)
 rename_i b3 b6
 refine aQ (p:=s.n=C.length∧s.n≤maxLen∧(0<C.length→s.p.isSome=true)) (fun w h=>⟨by simpa using Xf.len (hw w h.2),ZW (Xf.cap (hw w h.2)) (Xf.max (hw w h.2)),fun h0=>(Xf.row (hw w h.2) 0 C[0].cells (by simp [Zc h0])).2.1⟩) fun ⟨hsn,hsm,hsp⟩=>?_
 simp only [maxLen] at hsm
 refine aq (ι:=WonI C p) (fun i=>⟨[(1,.string au),(2,.int .i64 gn),(3,.pointer (some ⟨b3,0,none⟩)),(6,.pointer (some ⟨b6,0,none⟩)),(8,.int .i64 (qn:Nat)),(18,s.v),(19,.int .i64 (s.n:Nat)),(20,.int .i64 (i.k:Nat))],[cel b6 54 Xg.zero.cells,cel b3 25 [ks.v,ki.v]],fun w=>((Ints w ks L∧Items w ki I)∧Xe w)∧X1 w⟩) (fun i=>C.length-i.k) ⟨0,Z2 _,rfl⟩ (ai am (ak _) fun _ h=>h) fun i=>?_
 obtain ⟨k,hk,hs⟩:=i
 simp only
 by_cases hlt:k<C.length
 · have hsp':=hsp aa
   obtain ⟨c,hc⟩:∃ c,C[k]?=some c:=⟨_,Zc hlt⟩
   have hcm:=Z4 hc
   have hdr:C.drop k=c::C.drop (k+1):=by
    rw [List.drop_eq_getElem_cons hlt]
    rw [Zc hlt,ZL] at hc
    rw [hc]
   have hrow:∀ w,((Ints w ks L∧Items w ki I)∧Xe w)∧X1 w→c.cells.length=9∧s.p.isSome=true∧∀ i u,c.cells[i]?=some u→CellAt w s.p (k*9+i) u:=fun w h=>Xf.row (hw w h.2) k c.cells (by simp [hc])
   have hvo:=ze ks ki I au gn (dC c) B hB hK
   have hdi:=hD c hcm
   have hpc:=hpd c
   generalize votV (dC c) B=V at *
   by_cases hg:c.gen=gn
   · rw [Ze hg,Zh] at hpc
     by_cases hq:qn≤V.length
     · have hF:C.find? p=some c:=by rw [hs,hdr,List.find?_cons,hpc,Ze hq]
       rw [hF]
       repeat' (first|refine aT ?_ (bZ true rfl rfl (Ze aa))|refine aT ?_ (eO false rfl rfl (by simp [hg]))|refine aT ?_ (mQ true rfl rfl (Ze aa))|(refine ae (hc:=gX c) ?_)|(refine ae (hc:=hdi) (hX:=fun w h=>h.1.2) ?_)|(refine bF (hc:=hvo) (hX:=fun w h=>⟨h.1.1.2,h.1.2⟩) fun v2 X2 h2=>?_;obtain ⟨A2,c2,rfl⟩:=h2)|refine gs ?_|refine gs1 fun _=>?_|(refine aD (q:=k*9) ?_)|(refine aN (cs:=c.cells) (hF:=hrow) ?_)|fail)
       all_goals first
        | exact ab (dc rfl rfl rfl aM (by rfl)) rfl
     · have hF:C.find? p=(C.drop (k+1)).find? p:=by rw [hs,hdr,List.find?_cons,hpc,Zd hq]
       repeat' (first|refine aT ?_ (bZ true rfl rfl (Ze aa))|refine aT ?_ (eO false rfl rfl (by simp [hg]))|refine aT ?_ (mQ false rfl rfl (Zd aa))|(refine ae (hc:=gX c) ?_)|(refine ae (hc:=hdi) (hX:=fun w h=>h.1.2) ?_)|(refine bF (hc:=hvo) (hX:=fun w h=>⟨h.1.1.2,h.1.2⟩) fun v2 X2 h2=>?_;obtain ⟨A2,c2,rfl⟩:=h2)|refine gs ?_|refine gs1 fun _=>?_|(refine aD (q:=k*9) ?_)|(refine aN (cs:=c.cells) (hF:=hrow) ?_)|fail)
       all_goals first
        | exact ⟨(⟨k+1,hlt,hF⟩:WonI C p),(by show C.length-(k+1)<C.length-k;omega),ai am (.cons _ (ak _)) fun _ h=>h.1⟩
   · have hF:C.find? p=(C.drop (k+1)).find? p:=by rw [hs,hdr,List.find?_cons,hpc,Zd hg,Zk]
     repeat' (first|refine aT ?_ (bZ true rfl rfl (Ze aa))|refine aT ?_ (eO true rfl rfl (by simp [hg]))|refine gs ?_|refine gs1 fun _=>?_|(refine aD (q:=k*9) ?_)|(refine aN (cs:=c.cells) (hF:=hrow) ?_)|fail)
     all_goals first
      | exact ⟨(⟨k+1,hlt,hF⟩:WonI C p),(by show C.length-(k+1)<C.length-k;omega),ai am (.cons _ (ak _)) fun _ h=>h⟩
 · have hF:C.find? p=none:=by rw [hs,Qu (by omega)];rfl
   rw [hF]
   repeat' (first|refine aT ?_ (bZ false rfl rfl (Zd aa))|refine gs ?_|(refine aG (cs:=Xg.zero.cells) (hf:=by rfl) ?_)|fail)
   all_goals first
    | exact ab (dc rfl rfl rfl aM (by rfl)) rfl
theorem cQ {P:Program} {d:Nat} {xs ys:Array Value} {f:Field} {fs:List Field} {a b:Value} {r q:Bool} {w:World}
  (hn:f.name≠ "_") (ha:(part f.type xs f.offset).run P w=.ok a w) (hb:(part f.type ys f.offset).run P w=.ok b w)
  (hr:(Op.equalIn d f.type a b).run P w=.ok r w) (hq:(Op.eqFields d xs ys fs).run P w=.ok q w) :
  (Op.eqFields d xs ys (f::fs)).run P w=.ok (r&&q) w:=by
 rw [Op.eqFields,ZN hn]
 simp only [Sem.run_bind,ha,hb,hr,Result.andThen_ok]
 cases r<;>simp [hq]
theorem r8 {P:Program} {d:Nat} {xs ys:Array Value} {w:World}:(Op.eqFields d xs ys []).run P w=.ok true w:=by simp [Op.eqFields]
theorem bL {P:Program} {t:TypeId} {cs:Array Value} {o:Nat} {v:Value} {w:World} [h1:Xx P t] (hx:cs[o]?=some v):(part t cs o).run P w=.ok v w:=by
 have hag:=(bX (Xx.out (P:=P) (t:=t)) w).1
 simp [part,hag,hx]
theorem ek {P:Program} {d:Nat} {t:TypeId} {k:IntKind} {a b:Int} {w:World} [Xs P t k]:(Op.equalIn (d+1) t (.int k a) (.int k b)).run P w=.ok (decide (a=b)) w:=by
 rw [run_equalIn_int (P:=P) w d t k k a b Xs.out]
 congr 1
theorem kp {P:Program} {d:Nat} {t:TypeId} {a b:ByteArray} {w:World} [Eb P t]:(Op.equalIn (d+1) t (.string a) (.string b)).run P w=.ok (seqB a b) w :=
 run_equalIn_string (P:=P) w d t a b Eb.out
theorem tr:prog.underlying 44=some (.struct (prog.fieldsOf 44)):=by kernel_rfl
theorem vP:prog.stoodInHeld 44=false:=by kernel_rfl
theorem Dg (w:World):(isAgg 44).run prog w=.ok true w:=by kernel_rfl
theorem Aj (w:World):(Go.sizeOf 44).run prog w=.ok 2 w:=by kernel_rfl
theorem iu {cs:Array Value} {o:Nat} {w:World}:(part 44 cs o).run prog w=.ok (.agg (cs.extract o (o+2))) w:=by
 simp [part,Dg,Aj]
theorem oZ {d:Nat} {a b c e:Int} {w:World}:(Op.equalIn (d+2) 44 (.agg #[.int .i64 a,.int .i64 b]) (.agg #[.int .i64 c,.int .i64 e])).run prog w=.ok (decide (a=c)&&(decide (b=e)&&true)) w:=by
 rw [run_equalIn_agg w (d+1) _ _ _ tr vP]
 have hf:(prog.fieldsOf 44).toList.map (fun f=>(f.name,f.type,f.offset))=[("E",3,0),("S",3,1)]:=by kernel_rfl
 generalize (prog.fieldsOf 44).toList=l at hf
 rcases l with _|⟨⟨n1,t1,o1,_⟩,_|⟨⟨n2,t2,o2,_⟩,_|⟨f3,l⟩⟩⟩
 case cons.cons.nil =>
  simp only [ZZ,List.map_nil,List.cons.injEq,Prod.mk.injEq,and_true] at hf
  obtain ⟨⟨rfl,rfl,rfl⟩,rfl,rfl,rfl⟩:=hf
  exact cQ (by dsimp only;decide) (bL rfl) (bL rfl) ek (cQ (by dsimp only;decide) (bL rfl) (bL rfl) ek r8)
 all_goals (have:=congrArg List.length hf;simp at this)
def claimEq (a b:Xg):Bool:=seqB a.actor b.actor&&(decide (a.base=b.base)&&(seqB a.prev b.prev&&(decide (a.gen=b.gen)&&(decide (a.home=b.home)&&(decide (a.pub=b.pub)&&(decide (a.time=b.time)&&((decide (a.e=b.e)&&(decide (a.s=b.s)&&true))&&true)))))))
theorem pc:prog.underlying 54=some (.struct (prog.fieldsOf 54)):=by kernel_rfl
theorem pM:prog.stoodInHeld 54=false:=by kernel_rfl
theorem pN:prog.eqGuardType prog.depth 54=false:=by kernel_rfl
theorem tB (w:World) (a b:Xg):(Op.equalIn 10000 54 (.agg a.cells.toArray) (.agg b.cells.toArray)).run prog w=.ok (claimEq a b) w:=by
 rw [show (10000:Nat)=9999+1 from rfl,run_equalIn_agg w 9999 _ _ _ pc pM]
 have hf:(prog.fieldsOf 54).toList.map (fun f=>(f.name,f.type,f.offset))=[("Actor",9,0),("Base",3,1),("Prev",9,2),("Gen",3,3),("Home",3,4),("Public",3,5),("Time",3,6),("Sig",44,7)]:=by kernel_rfl
 generalize (prog.fieldsOf 54).toList=l at hf
 rcases l with _|⟨⟨n1,t1,o1,_⟩,_|⟨⟨n2,t2,o2,_⟩,_|⟨⟨n3,t3,o3,_⟩,_|⟨⟨n4,t4,o4,_⟩,_|⟨⟨n5,t5,o5,_⟩,_|⟨⟨n6,t6,o6,_⟩,_|⟨⟨n7,t7,o7,_⟩,_|⟨⟨n8,t8,o8,_⟩,_|⟨g,l⟩⟩⟩⟩⟩⟩⟩⟩⟩
 case cons.cons.cons.cons.cons.cons.cons.cons.nil =>
  simp only [ZZ,List.map_nil,List.cons.injEq,Prod.mk.injEq,and_true] at hf
  obtain ⟨⟨rfl,rfl,rfl⟩,⟨rfl,rfl,rfl⟩,⟨rfl,rfl,rfl⟩,⟨rfl,rfl,rfl⟩,⟨rfl,rfl,rfl⟩,⟨rfl,rfl,rfl⟩,⟨rfl,rfl,rfl⟩,rfl,rfl,rfl⟩:=hf
  exact cQ (by dsimp only;decide) (bL rfl) (bL rfl) kp (cQ (by dsimp only;decide) (bL rfl) (bL rfl) ek (cQ (by dsimp only;decide) (bL rfl) (bL rfl) kp (cQ (by dsimp only;decide) (bL rfl) (bL rfl) ek (cQ (by dsimp only;decide) (bL rfl) (bL rfl) ek (cQ (by dsimp only;decide) (bL rfl) (bL rfl) ek (cQ (by dsimp only;decide) (bL rfl) (bL rfl) ek (cQ (by dsimp only;decide) iu iu oZ (r8))))))))
 all_goals (have:=congrArg List.length hf;simp at this)
theorem pz {N:Nat} {av bor:List Nat} {w0:World} {st:St} {ty t2:TypeId} {x y:Operand} {a b:Xg} (hx:ev st.env x=some (.agg a.cells.toArray)) (hy:ev st.env y=some (.agg b.cells.toArray)) :
  Sy.Yields prog N av bor w0 st (.binOp .eql 54 x y t2) ty (.bool (claimEq a b)):=Sy.Yields.mk fun A w ok d pos af g=>by
 have h1:=run_eql_struct (P:=prog) w 54 a.cells.toArray b.cells.toArray
 rw [tB w a b] at h1
 simp [execOp,ok.eval (st:=st) hx,ok.eval (st:=st) hy,run_eqGuard_agg _ _ _ _ _ _ _ pN,h1]
def ballotEq (a b:Xh):Bool:=decide (a.server=b.server)&&(seqB a.actor b.actor&&(decide (a.gen=b.gen)&&(seqB a.claim b.claim&&(decide (a.time=b.time)&&((decide (a.e=b.e)&&(decide (a.s=b.s)&&true))&&true)))))
theorem mx:prog.underlying 56=some (.struct (prog.fieldsOf 56)):=by kernel_rfl
theorem pm:prog.stoodInHeld 56=false:=by kernel_rfl
theorem pp:prog.eqGuardType prog.depth 56=false:=by kernel_rfl
theorem rF (w:World) (a b:Xh):(Op.equalIn 10000 56 (.agg a.cells.toArray) (.agg b.cells.toArray)).run prog w=.ok (ballotEq a b) w:=by
 rw [show (10000:Nat)=9999+1 from rfl,run_equalIn_agg w 9999 _ _ _ mx pm]
 have hf:(prog.fieldsOf 56).toList.map (fun f=>(f.name,f.type,f.offset))=[("Server",3,0),("Actor",9,1),("Gen",3,2),("Claim",9,3),("Time",3,4),("Sig",44,5)]:=by kernel_rfl
 generalize (prog.fieldsOf 56).toList=l at hf
 rcases l with _|⟨⟨n1,t1,o1,_⟩,_|⟨⟨n2,t2,o2,_⟩,_|⟨⟨n3,t3,o3,_⟩,_|⟨⟨n4,t4,o4,_⟩,_|⟨⟨n5,t5,o5,_⟩,_|⟨⟨n6,t6,o6,_⟩,_|⟨g,l⟩⟩⟩⟩⟩⟩⟩
 case cons.cons.cons.cons.cons.cons.nil =>
  simp only [ZZ,List.map_nil,List.cons.injEq,Prod.mk.injEq,and_true] at hf
  obtain ⟨⟨rfl,rfl,rfl⟩,⟨rfl,rfl,rfl⟩,⟨rfl,rfl,rfl⟩,⟨rfl,rfl,rfl⟩,⟨rfl,rfl,rfl⟩,rfl,rfl,rfl⟩:=hf
  exact cQ (by dsimp only;decide) (bL rfl) (bL rfl) ek (cQ (by dsimp only;decide) (bL rfl) (bL rfl) kp (cQ (by dsimp only;decide) (bL rfl) (bL rfl) ek (cQ (by dsimp only;decide) (bL rfl) (bL rfl) kp (cQ (by dsimp only;decide) (bL rfl) (bL rfl) ek (cQ (by dsimp only;decide) iu iu oZ (r8))))))
 all_goals (have:=congrArg List.length hf;simp at this)
theorem mS {N:Nat} {av bor:List Nat} {w0:World} {st:St} {ty t2:TypeId} {x y:Operand} {a b:Xh} (hx:ev st.env x=some (.agg a.cells.toArray)) (hy:ev st.env y=some (.agg b.cells.toArray)) :
  Sy.Yields prog N av bor w0 st (.binOp .eql 56 x y t2) ty (.bool (ballotEq a b)):=Sy.Yields.mk fun A w ok d pos af g=>by
 have h1:=run_eql_struct (P:=prog) w 56 a.cells.toArray b.cells.toArray
 rw [rF w a b] at h1
 simp [execOp,ok.eval (st:=st) hx,ok.eval (st:=st) hy,run_eqGuard_agg _ _ _ _ _ _ _ pp,h1]
end Go.Proofs.YtaolfiikahlmkaaGreatDoor
