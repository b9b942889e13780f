/- Joined. -/
import Derived.Test.YtggionfjlgfihaaGreatDoorI0
import Derived.Test.YtggionfjlgfihaaGreatDoorI47
import Derived.Test.YtggionfjlgfihaaGreatDoorI29
import Derived.Test.YtggionfjlgfihaaGreatDoorI44
import Derived.Test.YtggionfjlgfihaaGreatDoorI1
import Derived.Test.YtggionfjlgfihaaGreatDoorI11
import Derived.Test.YtggionfjlgfihaaGreatDoorI14
set_option linter.unusedVariables false
set_option linter.unusedSimpArgs false
set_option maxHeartbeats 16000000
namespace Go.Proofs.YtggionfjlgfihaaGreatDoor
open Go Go.Proofs Sy
def z0:Xj:=⟨none,0,0⟩
theorem r8 {k:El} {a:Xa} {s1 s2:Xj} (h1:s1.n=a.to.n) (h2:s2.n=a.wraps.n) (hr:rightB (a.sig Ei.zero)=true) (hk:rightK k=true):actSignV k (a.re s1 s2)=(actSignV k a).re s1 s2:=by
 have e:rightB ((a.re s1 s2).sig Ei.zero)=rightB (a.sig Ei.zero):=ew (a:=a.sig Ei.zero) h1 h2
 rw [actSignV,actSignV,e,hr,hk]
 rfl
theorem AO:rightB (nkU1.sig Ei.zero)=true:=by decide +kernel
theorem AN:rightB (nkU2.sig Ei.zero)=true:=by decide +kernel
structure TaleC (c:Xd) (n:Nat) (d:ByteArray):Prop where
 id:c.id=nkI
 n:c.acts.n=n
 prev:c.prev=d
def a26:Xa:={ Xa.zero with kind:=1 }
def b26:Xa:={ Xa.zero with kind:=14,object:=nkD1 }
def one26:ByteArray:=⟨#[111,110,101]⟩
def two26:ByteArray:=⟨#[116,119,111]⟩
theorem pub1 {c:Xd} (h:TaleC c 1 nkD0) (s:Xj):pubD c a26 one26 s=nkU1.re s z0:=by
 rw [pubD,draftV,h.id,h.n,h.prev];rfl
theorem pub2 {c:Xd} (h:TaleC c 2 nkD1) (s:Xj):pubD c b26 two26 s=nkU2.re s z0:=by
 rw [pubD,draftV,h.id,h.n,h.prev];rfl
theorem right1 {s:Xj} (hs:s.n=0):rightB (nkU1.re s z0)=true:=(ew (a:=nkU1) hs rfl).trans (by decide +kernel)
theorem right2 {s:Xj} (hs:s.n=0):rightB (nkU2.re s z0)=true:=(ew (a:=nkU2) hs rfl).trans (by decide +kernel)
theorem fits1 {c:Xd} (h:TaleC c 1 nkD0) {s:Xj} (hs:s.n=0) (o:Option Nat):fitsV c (nkU1.re s z0) o=true:=by
 have e2:seqB (nkU1.re s z0).author c.id=true:=by rw [h.id];exact be _
 have e3:decide ((nkU1.re s z0).seq=(c.acts.n:Int))=true:=by rw [h.n];rfl
 have e4:seqB (nkU1.re s z0).prev c.prev=true:=by rw [h.prev];exact be _
 have e5:(decide ((nkU1.re s z0).kind=0) != decide ((c.acts.n:Int)=0))=false:=by rw [h.n];rfl
 rw [fitsV,right1 hs,e2,e3,e4,e5]
 rfl
theorem fits2 {c:Xd} (h:TaleC c 2 nkD1) {s:Xj} (hs:s.n=0) {o:Option Nat} (ha:atK c o postK=true):fitsV c (nkU2.re s z0) o=true:=by
 have e2:seqB (nkU2.re s z0).author c.id=true:=by rw [h.id];exact be _
 have e3:decide ((nkU2.re s z0).seq=(c.acts.n:Int))=true:=by rw [h.n];rfl
 have e4:seqB (nkU2.re s z0).prev c.prev=true:=by rw [h.prev];exact be _
 have e5:(decide ((nkU2.re s z0).kind=0) != decide ((c.acts.n:Int)=0))=false:=by rw [h.n];rfl
 rw [fitsV,right2 hs,e2,e3,e4,e5,ha]
 rfl
theorem zc:nkU1.Rng:=⟨by decide +kernel,fun w hw=>(List.not_mem_nil hw).elim,rfl,rfl⟩
theorem zb:nkU2.Rng:=⟨by decide +kernel,fun w hw=>(List.not_mem_nil hw).elim,rfl,rfl⟩
theorem AM:nkU1.Sm:=⟨by decide,by decide,by decide⟩
theorem AL:nkU2.Sm:=⟨by decide,by decide,by decide⟩
def Posted (b:Xa) (u:Value) (X:World→Prop):Prop:=∃ s1 s2:Xj,s1.n=0∧s2.n=0∧u=.tuple #[(b.re s1 s2).v,.int .i64 0]∧∀ w,X w→(b.re s1 s2).at_ w
theorem wL {c:Xd} {kl:List Xl} (hc:Xt c.actsL) (h:TaleC c 1 nkD0) (hown:ownsB nkK c kl=true) :
  Mk Tryz.prog 17 #[nkK.v,c.v,a26.v,.string one26] (fun w=>((c.at_ w∧Keyz w c.keys kl)∧a26.at_ w)∧Xf w) (Posted nkA1):=by
 refine ef (kY nkK c kl a26 one26 hc rfl rfl rfl rfl hown (fun s hs=>by rw [pub1 h];exact right1 hs) (fun s hs=>by rw [pub1 h];exact fits1 h hs _) (fun s hs=>by rw [pub1 h];exact ⟨eV zc hs rfl,ia AM hs rfl⟩)) fun u X ⟨s,s1,s2,hs,h1,h2,hu,hw⟩=>?_
 have e:actSignV nkK (pubD c a26 one26 s)=nkA1.re s z0:=by rw [pub1 h,show actSignV nkK (nkU1.re s z0)=(actSignV nkK nkU1).re s z0 from r8 (a:=nkU1) hs rfl AO eP,Bj]
 rw [e] at h1 h2 hu hw
 exact ⟨s1,s2,h1.trans hs,h2,hu,hw⟩
theorem wK {c:Xd} {kl:List Xl} (hc:Xt c.actsL) (h:TaleC c 2 nkD1) (ha:atK c (idxV c.actsL nkD1) postK=true) (hown:ownsB nkK c kl=true) :
  Mk Tryz.prog 17 #[nkK.v,c.v,b26.v,.string two26] (fun w=>((c.at_ w∧Keyz w c.keys kl)∧b26.at_ w)∧Xf w) (Posted nkA2):=by
 refine ef (kY nkK c kl b26 two26 hc rfl rfl rfl rfl hown (fun s hs=>by rw [pub2 h];exact right2 hs) (fun s hs=>by rw [pub2 h];exact fits2 h hs ha) (fun s hs=>by rw [pub2 h];exact ⟨eV zb hs rfl,ia AL hs rfl⟩)) fun u X ⟨s,s1,s2,hs,h1,h2,hu,hw⟩=>?_
 have e:actSignV nkK (pubD c b26 two26 s)=nkA2.re s z0:=by rw [pub2 h,show actSignV nkK (nkU2.re s z0)=(actSignV nkK nkU2).re s z0 from r8 (a:=nkU2) hs rfl AN eP,Bi]
 rw [e] at h1 h2 hu hw
 exact ⟨s1,s2,h1.trans hs,h2,hu,hw⟩
def p26 (x1:Xa):Xc:={ newP nkI 1 x1 with edL:=[2] }
theorem dig0 {s1 s2:Xj} (h1:s1.n=0) (h2:s2.n=0):digV (nkA0.re s1 s2)=nkD0:=(gB (a:=nkA0) h1 h2).trans zS
theorem dig1 {s1 s2:Xj} (h1:s1.n=0) (h2:s2.n=0):digV (nkA1.re s1 s2)=nkD1:=(gB (a:=nkA1) h1 h2).trans Bs
theorem idx26 {s1 s2 t1 t2:Xj} (h1:s1.n=0) (h2:s2.n=0) (k1:t1.n=0) (k2:t2.n=0) (l:List Xa):idxV (nkA0.re s1 s2::nkA1.re t1 t2::l) nkD1=some 1:=by
 rw [idxV,List.findIdx?_cons,dig0 h1 h2,Bt,List.findIdx?_cons,dig1 k1 k2,be]
 rfl
theorem posts26 {s1 s2 t1 t2 r1 r2:Xj} (h1:s1.n=0) (h2:s2.n=0) (k1:t1.n=0) (k2:t2.n=0) {c:Xd} (hid:c.id=nkI) (hl:c.actsL=[nkA0.re s1 s2,nkA1.re t1 t2,nkA2.re r1 r2]):postsV c=[p26 (nkA1.re t1 t2)]:=by
 have e0:openF c 3=[newP nkI 1 (nkA1.re t1 t2)]:=by
  simp only [openF,hl,hid]
  rfl
 have e3:ofP c 0=[newP nkI 1 (nkA1.re t1 t2)]:=by rw [ofP,hl];exact e0
 have e4:ofP c 1=[newP nkI 1 (nkA1.re t1 t2)]:=by rw [ofP,e3,hl];rfl
 have e5:ofP c 2=[newP nkI 1 (nkA1.re t1 t2)]:=by rw [ofP,e4,hl];rfl
 have er:refV [nkA0.re s1 s2,nkA1.re t1 t2,nkA2.re r1 r2] [newP nkI 1 (nkA1.re t1 t2)] 2=some 0:=by
  rw [refV,show (([nkA0.re s1 s2,nkA1.re t1 t2,nkA2.re r1 r2]:List Xa).getD 2 Xa.zero).object=nkD1 from rfl,idx26 h1 h2 k1 k2]
  rfl
 have e6:ofP c 3=[p26 (nkA1.re t1 t2)]:=by
  rw [ofP,e5,hl,stepP,er]
  have eb:editB (nkA2.re r1 r2) (newP nkI 1 (nkA1.re t1 t2))=true:=by
   rw [editB]
   show (!false&&decide ((0:Int)=0)&&seqB ⟨#[]⟩ ⟨#[]⟩&&eqL [] [])=true
   rw [be,pX]
   rfl
  show [editP (nkA2.re r1 r2) 2 (newP nkI 1 (nkA1.re t1 t2))]=_
  rw [editP,eb]
  rfl
 rw [postsV,hl]
 exact e6
theorem at26 {s1 s2 t1 t2:Xj} (h1:s1.n=0) (h2:s2.n=0) (k1:t1.n=0) (k2:t2.n=0) {c:Xd} (hl:c.actsL=[nkA0.re s1 s2,nkA1.re t1 t2]):atK c (idxV c.actsL nkD1) postK=true:=by
 rw [hl,idx26 h1 h2 k1 k2,atK,hl]
 rfl
theorem AI:seqB nkD1 ⟨#[120]⟩=false:=by decide +kernel
theorem begActs {x:Xa} (hx:x.Rng) (hs:x.Sm):Xt [x]:=⟨fun a h=>by rw [List.mem_singleton.1 h];exact hx,fun a h=>by rw [List.mem_singleton.1 h];exact hs⟩
theorem pB:nkA1.Rng:=⟨by decide +kernel,fun w hw=>(List.not_mem_nil hw).elim,rfl,rfl⟩
theorem xl:nkA2.Rng:=⟨by decide +kernel,fun w hw=>(List.not_mem_nil hw).elim,rfl,rfl⟩
theorem sy:nkA1.Sm:=⟨by decide,by decide,by decide⟩
theorem yZ:nkA2.Sm:=⟨by decide,by decide,by decide⟩
theorem chainsOne {b:Nat} {w:World} {c:Xd} (h:(cel b 67 c.cells).F w) (hc:c.at_ w):Chains w ⟨some ⟨b,0,none⟩,1,1⟩ [c] :=
 ⟨aR (xs:=[c.cells]) h rfl (by decide) (by intro r hr;rw [List.mem_singleton.1 hr];rfl),fun x hx=>by rw [List.mem_singleton.1 hx];exact hc⟩
theorem last26 {c2:Xd} {x0 x1 x2:Xa} (hl2:c2.actsL=[x0,x1,x2]) (hi2:c2.id=nkI) (h1k:x1.kind=1) (h1s:x1.scope=0) (h2k:x2.kind=14) (h2s:x2.scope=0) {p:Xc} (hg:p.gone=false) (hpo:p.pos=1) (hpe:p.edL=[2]) (hpa:p.author=nkI):lastV [c2] p ⟨#[]⟩=.tuple #[.int .i64 2,.bool true]:=by
 have m1:mayV c2 1 ⟨#[]⟩=true:=by
  rw [mayV,rtextV,pubV,hl2]
  show ((decide ((0:Int)≤1)&&(postK x1.kind||decide (x1.kind=14)))&&(_||decide (x1.scope=0)||_))=true
  rw [h1k,h1s]
  simp [postK]
 have m2:mayV c2 2 ⟨#[]⟩=true:=by
  rw [mayV,rtextV,pubV,hl2]
  show ((decide ((0:Int)≤2)&&(postK x2.kind||decide (x2.kind=14)))&&(_||decide (x2.scope=0)||_))=true
  rw [h2k,h2s]
  simp [postK]
 have hf:findC [c2] p.author=some c2:=by rw [hpa,findC,List.find?_cons,hi2,be]
 have hh:histV [c2] p ⟨#[]⟩=[1,2]:=by
  rw [histV,hg,hf,hpo,hpe]
  show ([1,2]:List Int).filter (fun i=>mayV c2 i ⟨#[]⟩)=_
  simp [m1,m2]
 rw [lastV,hh]
 rfl
theorem none26 {c2:Xd} {x1:Xa} (hps:postsV c2=[p26 x1]) (hd1:digV x1=nkD1):findPV [c2] ⟨#[120]⟩=none:=jR fun c hc q hq=>by
 rw [List.mem_singleton.1 hc,hps] at hq
 rw [List.mem_singleton.1 hq,isPost]
 show seqB (digV x1) _=false
 rw [hd1]
 exact AI
structure Met26 where
 r1:Xj
 r2:Xj
 m1:r1.n=0
 m2:r2.n=0
 b:Nat
set_option maxRecDepth 20000 in
theorem qJ:Pu Tryz.prog 4 #[] Xf (.bool true):=by
 refine ar Tryz.func4 Tryz.ntmps4 fun av bor w0=>?_
 have hk:=qL ⟨#[97]⟩ (by decide)
 rw [xm] at hk
 have hbg:=x7
 repeat' (first|(refine ag (hc:=hk) ?_)|(refine bm (hc:=hbg) fun v1 X1 h1=>?_;obtain ⟨ks,sa,sk,s1,s2,hs1,hs2,rfl,hw0⟩:=h1)|refine gs ?_|refine gs1 fun _=>?_|(refine aM (cs:=a26.cells) (hf:=by rfl) ?_)|(refine gp ?_ ?_<;>intro hx_ this)|fail)
 refine iB (p:=sa.n=1) (fun w h=>by simpa using (hw0 w h.2).1.1.len) fun hsa=>?_
 obtain ⟨x0,hx0⟩:∃ x,x=nkA0.re s1 s2:=⟨_,rfl⟩
 rw [←hx0] at hw0 ⊢
 have hR0:x0.Rng:=by rw [hx0];exact eV sz hs1 hs2
 have hS0:x0.Sm:=by rw [hx0];exact ia xk hs1 hs2
 obtain ⟨c0,hc0⟩:∃ c,c=begC sa sk x0:=⟨_,rfl⟩
 have hl0:c0.actsL=[x0]:=by rw [hc0];rfl
 have hT0:TaleC c0 1 nkD0:=by rw [hc0];exact ⟨rfl,hsa,rfl⟩
 have hO0:ownsB nkK c0 [⟨0,nkK.p,0⟩]=true:=by
  rw [ownsB,eP,hT0.n]
  rfl
 have hA0:Xt c0.actsL:=by rw [hl0];exact begActs hR0 hS0
 have hat0:∀ w,X1 w→c0.at_ w∧Keyz w c0.keys [⟨0,nkK.p,0⟩]:=fun w h=>by rw [hc0];exact hw0 w h
 rw [←hc0]
 have hp1:=wL hA0 hT0 hO0
 have hex1:∀ t1 t2:Xj,t1.n=0→t2.n=0→Mk Tryz.prog 18 #[c0.v,(nkA1.re t1 t2).v] (fun w=>(c0.at_ w∧(nkA1.re t1 t2).at_ w)∧Xf w) (ExtAt c0 (nkA1.re t1 t2)):=fun t1 t2 k1 k2=>jS c0 _ (eV pB k1 k2) (ia sy k1 k2) (by rw [hl0];show 1≤100000;omega)
 repeat' (first|refine aM (cs:=a26.cells) (hf:=by rfl) ?_|(refine bm (hc:=hp1) (hX:=fun w h=>⟨⟨hat0 w h.2,⟨aJ w 1,aJ w 5⟩⟩,h.1⟩) fun v2 X2 h2=>?_;obtain ⟨t1,t2,k1,k2,rfl,hw1⟩:=h2)|(refine bm (hc:=hex1 t1 t2 k1 k2) (hX:=fun w h=>⟨⟨(hat0 w h.1.2).1,hw1 w h.2⟩,h.1.1⟩) fun v3 X3 h3=>?_;obtain ⟨sb,rfl,hw2⟩:=h3)|refine gs ?_|refine gs1 fun _=>?_|(refine gp ?_ ?_<;>intro hx_ this)|fail)
 rename_i bs bc bk ba
 refine aH (p:=sb.n=2) (fun w h=>by
  have h1:=(hw2 w h.2).1.len
  simpa [extC,hl0] using h1) fun hsb=>?_
 obtain ⟨x1,hx1⟩:∃ x,x=nkA1.re t1 t2:=⟨_,rfl⟩
 rw [←hx1] at hw1 hw2 ⊢
 have hR1:x1.Rng:=by rw [hx1];exact eV pB k1 k2
 have hS1:x1.Sm:=by rw [hx1];exact ia sy k1 k2
 have hd1:digV x1=nkD1:=by rw [hx1];exact dig1 k1 k2
 obtain ⟨c1,hc1⟩:∃ c,c=extC c0 sb x1:=⟨_,rfl⟩
 rw [←hc1] at hw2 ⊢
 have hl1:c1.actsL=[x0,x1]:=by rw [hc1,extC,hl0];rfl
 have hT1:TaleC c1 2 nkD1:=by rw [hc1];exact ⟨hT0.id,hsb,hd1⟩
 have hO1:ownsB nkK c1 [⟨0,nkK.p,0⟩]=true:=by
  rw [ownsB,eP,hT1.n]
  rfl
 have hA1:Xt c1.actsL:=by
  rw [hl1]
  exact ⟨fun a h=>by
   rcases List.mem_cons.1 h with rfl|h
   · exact hR0
   · rw [List.mem_singleton.1 h];exact hR1,fun a h=>by
   rcases List.mem_cons.1 h with rfl|h
   · exact hS0
   · rw [List.mem_singleton.1 h];exact hS1⟩
 have hky:c1.keys=c0.keys:=by rw [hc1];rfl
 have hat1:atK c1 (idxV c1.actsL nkD1) postK=true:=at26 hs1 hs2 k1 k2 (by rw [hl1,hx0,hx1])
 have hp2:=wK hA1 hT1 hat1 hO1
 have hof:=mD x1 hR1 hS1
 have hdg:∀ s3 s4:Xj,s3.n=x1.to.n→s4.n=x1.wraps.n→Pu Tryz.prog 19 #[(ofActI (x1.re s3 s4)).v] (fun w=>(ofActI (x1.re s3 s4)).at_ w∧Xf w) (.string nkD1):=fun s3 s4 h3 h4=>by
  have h:=digI0 (x1.re s3 s4) (eV hR1 h3 h4)
  rw [show dI0 (ofActI (x1.re s3 s4))=nkD1 from (gB h3 h4).trans hd1] at h
  exact h
 have hat2:∀ w,(((Xf w∧X1 w)∧X2 w)∧X3 w)→c1.at_ w∧Keyz w c1.keys [⟨0,nkK.p,0⟩]:=fun w h=>⟨hw2 w h.2,by rw [hky];exact (hat0 w h.1.1.2).2⟩
 refine gW (ι:=Met26) (fun i=>⟨[(3,.pointer (some ⟨bk,0,none⟩)),(4,.pointer (some ⟨ba,0,none⟩)),(6,.pointer (some ⟨i.b,0,none⟩)),(7,.int .i64 0)],[cel i.b 37 (nkA2.re i.r1 i.r2).cells,cel ba 37 x1.cells,cel bk 67 c1.cells],fun w=>(((Xf w∧X1 w)∧X2 w)∧X3 w)∧(nkA2.re i.r1 i.r2).at_ w⟩) ?_ fun i=>?_
 · (refine ao ⟨[0,1,2],[(3,⟨[],[(4,⟨[5],[(6,⟨[7,8,9],[(10,⟨[],[(11,⟨[12],[]⟩)]⟩)]⟩),(10,⟨[],[(6,⟨[7,8,9],[(11,⟨[12],[]⟩)]⟩)]⟩)]⟩),(10,⟨[],[(4,⟨[5],[(6,⟨[7,8,9],[(11,⟨[12],[]⟩)]⟩)]⟩)]⟩)]⟩),(10,⟨[],[(3,⟨[],[(4,⟨[5],[(6,⟨[7,8,9],[(11,⟨[12],[]⟩)]⟩)]⟩)]⟩)]⟩)]⟩ [cel ba 37 x1.cells,cel bk 67 c1.cells,cel bs 62 nkK.cells] (fun w=>((Xf w∧X1 w)∧X2 w)∧X3 w) (h:=?_))
   all_goals repeat' (first|((refine bm (hc:=hof) (hX:=fun w h=>hw1 w h.1.2) fun v4 X4 h4=>?_;obtain ⟨s3,s4,rfl,hn3,hn4,hat4⟩:=h4))|(refine ag (hc:=hdg s3 s4 hn3 hn4) (hX:=fun w h=>⟨⟨hat4 w h.2,aJ w 1⟩,h.1.1.1.1⟩) ?_)|((refine bm (hc:=hp2) (hX:=fun w h=>⟨⟨hat2 w h.1,⟨aJ w 1,aJ w 5⟩⟩,h.1.1.1.1⟩) fun v5 X5 h5=>?_;obtain ⟨r1,r2,m1,m2,rfl,hw3⟩:=h5))|refine gdz ?_|refine ax (hsub:=by exact aF) (hy:=by first|(apply dp (cs:=b26.cells);rfl;rfl)) ?_|refine ay ?_ (h':=?_)|exact az|refine gs1 fun _=>?_|(refine gq ?_ ?_<;>intro hx_ this)|fail)
   all_goals
    rename_i b6
    exact ⟨(⟨r1,r2,m1,m2,b6⟩:Met26),ae al (.cons_cons _ (.cons_cons _ (.cons_cons _ (List.nil_sublist _)))) fun w h=>⟨h.1.1,hw3 w h.2⟩⟩
 obtain ⟨r1,r2,m1,m2,bb⟩:=i
 simp only
 obtain ⟨x2,hx2⟩:∃ x,x=nkA2.re r1 r2:=⟨_,rfl⟩
 rw [←hx2]
 have hR2:x2.Rng:=by rw [hx2];exact eV xl m1 m2
 have hS2:x2.Sm:=by rw [hx2];exact ia yZ m1 m2
 have hex2:=jS c1 x2 hR2 hS2 (by rw [hl1];show 2≤100000;omega)
 repeat' (first|(refine bm (hc:=hex2) (hX:=fun w h=>⟨⟨(hat2 w h.1).1,h.2⟩,h.1.1.1.1⟩) fun v6 X6 h6=>?_;obtain ⟨sc,rfl,hw6⟩:=h6)|refine gs ?_|refine gs1 fun _=>?_|(refine bL (size:=6) (vs:=[(extC c1 sc x2).v]) (css:=(extC c1 sc x2).cells) (hsz:=by rfl) (hcs:=by rfl) fun _=>?_)|(refine gp ?_ ?_<;>intro hx_ this)|fail)
 rename_i b8
 obtain ⟨c2,hc2⟩:∃ c,c=extC c1 sc x2:=⟨_,rfl⟩
 rw [←hc2] at hw6 ⊢
 have hl2:c2.actsL=[x0,x1,x2]:=by rw [hc2,extC,hl1];rfl
 have hi2:c2.id=nkI:=by rw [hc2];exact hT1.id
 have hps:postsV c2=[p26 x1]:=by rw [hx1];exact posts26 hs1 hs2 k1 k2 hi2 (by rw [hl2,hx0,hx1,hx2])
 have hA2:Xt c2.actsL:=by
  rw [hl2]
  exact ⟨fun a h=>by
   rcases List.mem_cons.1 h with rfl|h
   · exact hR0
   rcases List.mem_cons.1 h with rfl|h
   · exact hR1
   · rw [List.mem_singleton.1 h];exact hR2,fun a h=>by
   rcases List.mem_cons.1 h with rfl|h
   · exact hS0
   rcases List.mem_cons.1 h with rfl|h
   · exact hS1
   · rw [List.mem_singleton.1 h];exact hS2⟩
 have hall:=zn (ox ⟨some ⟨b8,0,none⟩,1,1⟩ [c2] (fun c h=>by rw [List.mem_singleton.1 h];exact hA2) (fun c h=>by rw [List.mem_singleton.1 h,hl2];show 3≤1000;omega) (by show 1≤1000;omega) (by rw [List.flatMap_cons,List.flatMap_nil,List.append_nil,hps];exact Nat.le_of_ble_eq_true rfl)) fun u X h=>h.weak
 refine aW ?_
 refine bm (hc:=hall) (hX:=fun w h=>⟨chainsOne h.2 (hw6 w h.1.2),h.1.1.1.1.1.1⟩) fun v7 X7 h7=>?_
 obtain ⟨sP,P,rfl,hP,-,hw7⟩:=h7
 rw [List.flatMap_cons,List.flatMap_nil,List.append_nil,hps] at hP
 have hP1:P.map Xc.can=[p26 x1]:=List.perm_singleton.1 hP
 obtain ⟨p,rfl,hpc⟩:∃ p,P=[p]∧p.can=p26 x1:=by
  cases P with
  | nil=>cases hP1
  | cons p P =>
   cases P with
   | nil=>exact ⟨p,rfl,(List.cons.inj hP1).1⟩
   | cons q P=>cases (List.cons.inj hP1).2
 have hg:p.gone=false:=congrArg Xc.gone hpc
 have hpo:p.pos=1:=congrArg Xc.pos hpc
 have hpe:p.edL=[2]:=congrArg Xc.edL hpc
 have hpi:p.id=nkD1:=(congrArg Xc.id hpc).trans hd1
 have hpa:p.author=nkI:=congrArg Xc.author hpc
 refine iB (p:=sP.n=1∧sP.n≤maxLen∧sP.p.isSome=true∧p.ed.n=1) (fun w h=>⟨by simpa using (hw7 w h.2).1.len,Nat.le_trans (Xe.cap (hw7 w h.2).1) (Xe.max (hw7 w h.2).1),((hw7 w h.2).1.row 0 p.cells rfl).2.1,by have:=((hw7 w h.2).2 p ap).2.len_;rw [hpe] at this;exact this⟩) fun ⟨hsP,hsm,hsp,hen⟩=>?_
 simp only [maxLen] at hsm
 repeat' (first|refine dP ?_|refine gs ?_|refine gs1 fun _=>?_|(refine aE (q:=0) ?_)|(refine dA ?_)|(refine cg (q:=0+10) (u:=.bool false) (hF:=fun w h=>hg▸((hw7 w h.2).1.row 0 p.cells rfl).2.2 10 _ rfl) ?_)|(refine gp ?_ ?_<;>intro hx_ this)|fail)
 have hrow:∀ w,X7 w→Xe w 11 sP [p.cells]:=fun w h=>(hw7 w h).1
 have hch:∀ (b:Nat) w,(cel b 67 c2.cells).F w→X6 w→Chains w ⟨some ⟨b,0,none⟩,1,1⟩ [c2]:=fun b w h h'=>chainsOne h (hw6 w h')
 have hco:∀ c∈[c2],ChOk c:=fun c h=>by
  rw [List.mem_singleton.1 h]
  refine ⟨hA2,by rw [hl2];show 3≤1000000;omega,fun x hx=>?_⟩
  rw [hl2] at hx
  rcases List.mem_cons.1 hx with rfl|hx
  · rw [hx0];show s1.n≤_;omega
  rcases List.mem_cons.1 hx with rfl|hx
  · rw [hx1];show t1.n≤_;omega
  · rw [List.mem_singleton.1 hx,hx2];show r1.n≤_;omega
 have hla:=fun b=>zp ⟨some ⟨b,0,none⟩,1,1⟩ [c2] p ⟨#[]⟩ hco (by rw [hpe];show 1≤1000000;omega)
 rw [last26 hl2 hi2 (by rw [hx1];rfl) (by rw [hx1];rfl) (by rw [hx2];rfl) (by rw [hx2];rfl) hg hpo hpe hpa] at hla
 refine gW (ι:=Unit) (fun i=>⟨[(3,.pointer (some ⟨bk,0,none⟩)),(4,.pointer (some ⟨ba,0,none⟩)),(8,sP.v),(9,.int .i64 2),(10,.bool true)],[cel ba 37 x1.cells,cel bk 67 c2.cells],fun w=>((((Xf w∧X1 w)∧X2 w)∧X3 w)∧X6 w)∧X7 w⟩) ?_ fun i=>?_
 · (refine ao ⟨[0,2,3,4],[(1,⟨[],[(5,⟨[6,7,8,9,10],[]⟩)]⟩)]⟩ [cel bk 67 c2.cells] (fun w=>((((((Xf w∧X1 w)∧X2 w)∧X3 w)∧Xa.at_ w x2)∧X6 w)∧(cel b8 67 c2.cells).F w)∧X7 w) (h:=?_))
   all_goals repeat' (first|refine gdz ?_|refine ax (hsub:=by exact aF) (hy:=by first|(apply aG (q:=0);rfl;rfl;omega;omega;assumption;omega)|(apply dN (cs:=p.cells);rfl;exact fun w h=>(hrow w h.2).row 0 p.cells rfl)) ?_|refine ay ?_ (h':=?_)|exact az|refine bL (size:=6) (vs:=[c2.v]) (css:=c2.cells) (hsz:=by rfl) (hcs:=by rfl) fun _=>?_|((rename_i b9;refine aW ?_;refine ag (hc:=hla b9) (hX:=fun w h=>⟨⟨hch b9 w h.2 h.1.1.1.2,((hw7 w h.1.2).2 p ap).2⟩,h.1.1.1.1.1.1.1.1⟩) ?_))|refine gs1 fun _=>?_|(refine gq ?_ ?_<;>intro hx_ this)|fail)
   all_goals exact ⟨(),ae al (.cons _ (aj _)) fun w h=>⟨⟨h.1.1.1.1.1,h.1.1.1.2⟩,h.1.2⟩⟩
 have hfi:∀ b:Nat,Mk Tryz.prog 12 #[(⟨some ⟨b,0,none⟩,1,1⟩:Xj).v,.string ⟨#[120]⟩] (fun w=>Chains w ⟨some ⟨b,0,none⟩,1,1⟩ [c2]∧Xf w) (fun u _=>∃ q:Xc,u=.tuple #[q.v,.bool false]):=fun b =>
  ef (pV ⟨some ⟨b,0,none⟩,1,1⟩ [c2] ⟨#[120]⟩ (fun c h=>by rw [List.mem_singleton.1 h];exact hA2) (fun c h=>by rw [List.mem_singleton.1 h,hl2];show 3≤1000000;omega)) fun u X ⟨q,hu,_⟩=>⟨q,by rw [hu,none26 hps hd1];rfl⟩
 repeat' (first|refine gs ?_|refine gs1 fun _=>?_|(refine bL (size:=6) (vs:=[c2.v]) (css:=c2.cells) (hsz:=by rfl) (hcs:=by rfl) fun _=>?_)|(rename_i b9;refine aW ?_;refine bm (hc:=hfi b9) (hX:=fun w h=>⟨hch b9 w h.2 h.1.1.2,h.1.1.1.1.1.1⟩) fun v8 X8 h8=>?_;obtain ⟨q,rfl⟩:=h8)|(refine gp ?_ ?_<;>intro hx_ this)|fail)
 rename_i b11
 have hgl:∀ w,(((((((Xf w∧X1 w)∧X2 w)∧X3 w)∧X6 w)∧X7 w)∧(cel b9 67 c2.cells).F w)∧X8 w)→X7 w:=fun w h=>h.1.1.2
 (refine ao ⟨[0,1,2,3,4,5,6,7,8,9,10,11,12,13,14,15,16,17,18,19,20,21,22],[(23,⟨[],[(24,⟨[25,26,27],[]⟩)]⟩)]⟩ [cel ba 37 x1.cells] (fun w=>((((((Xf w∧X1 w)∧X2 w)∧X3 w)∧X6 w)∧X7 w)∧(cel b9 67 c2.cells).F w)∧X8 w) (h:=?_))
 all_goals repeat' (first|refine ax (hsub:=by exact aF) (hy:=by first|(apply d2 true;rfl;rfl;exact decide_eq_true aa)|(apply cw true;rfl;rfl;exact be _)|(apply g7 true;rfl;rfl)) ?_|((refine bm (hc:=hof) (hX:=fun w h=>hw1 w h.1.1.1.1.1.2) fun v9 X9 h9=>?_;obtain ⟨s3,s4,rfl,hn3,hn4,hat9⟩:=h9))|(refine ag (hc:=hdg s3 s4 hn3 hn4) (hX:=fun w h=>⟨⟨hat9 w h.2,aJ w 1⟩,h.1.1.1.1.1.1.1.1⟩) ?_)|refine gdz ?_|refine ax (hsub:=by exact aF) (hy:=by first|(apply aG (q:=0);rfl;rfl;omega;omega;assumption;omega)|(apply cN;rfl;assumption;rfl)|(apply de (q:=0+9) (u:=p.ed.v);rfl;exact fun w h=>((hrow w (hgl w h)).row 0 p.cells rfl).2.2 9 _ rfl)|(apply de (q:=0+0) (u:=.string nkD1);rfl;exact fun w h=>hpi▸((hrow w (hgl w h)).row 0 p.cells rfl).2.2 0 _ rfl)) ?_|refine ay ?_ (h':=?_)|exact az|refine gs1 fun _=>?_|(refine gq ?_ ?_<;>intro hx_ this)|fail)
 all_goals
  repeat' (first|refine gs ?_|refine gs1 fun _=>?_|fail)
  exact ab (ai rfl rfl) rfl
end Go.Proofs.YtggionfjlgfihaaGreatDoor
