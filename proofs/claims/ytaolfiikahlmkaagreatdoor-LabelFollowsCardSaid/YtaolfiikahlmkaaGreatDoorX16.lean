/- Joined. -/
import Derived.Test.YtaolfiikahlmkaaGreatDoorX15
set_option linter.unusedVariables false
set_option linter.unusedSimpArgs false
set_option maxHeartbeats 16000000
namespace Go.Proofs.YtaolfiikahlmkaaGreatDoor
open Go Go.Proofs Sy
def undL (d:ByteArray):ActD:={ ActD.zero with kind:=6,object:=d }
theorem vb (w:World) (d:ByteArray):(undL d).at_ w:=⟨bt w 1,bt w 5⟩
theorem lR (d:ByteArray):(undL d).Rng:=⟨by simp only [undL,ActD.zero];omega,fun w hw=>(Qk hw).elim,rfl,rfl⟩
theorem py (d:ByteArray):(undL d).Sm:=⟨by show 0*16≤_;decide,by show 0*64≤_;decide,by show (0:Nat)≤_;decide⟩
structure UndL (L:List Int) (I2:List ItemD) (id:ByteArray) (n:ChainD) (k:KyD) (D:ByteArray) where
 sN:SlV
 m:ChainD
 kl2:List KeyD
 b1:Nat
 b2:Nat
 I4:List ItemD
 hK4:KnR L I4
 hl4:I4.length≤I2.length+1
 hQ3:QK L I4 id m kl2
 hm:m.acts.n=m.actsL.length
 sg:0<n.actsL.length→(m.acts.n:Int)=(n.acts.n:Int)+1→∃ b,SignD L I2 n m k { undL D with time:=1 } b
@[reducible] def UndL.make {L:List Int} {I2:List ItemD} {id:ByteArray} {n:ChainD} {k:KyD} {D:ByteArray} {kl:List KeyD} (hK:KnR L I2) (hQ:QK L I2 id n kl) (hn:n.acts.n=n.actsL.length) (hc:n.acts.n≤1000) (hI:I2.length<100)
  (sN:SlV) (m:ChainD) (kl2:List KeyD) (b1 b2:Nat) {s8 s9:SlV} (e5:s8.n=(sgA k n (undL D)).to.n) (e6:s9.n=(sgA k n (undL D)).wraps.n) (hQ3:QK L (addK L I2 (ofActI ((sgA k n (undL D)).re s8 s9))) n.id m kl2) (hm:m.acts.n=m.actsL.length):UndL L I2 id n k D :=
 ⟨sN,m,kl2,b1,b2,addK L I2 (ofActI ((sgA k n (undL D)).re s8 s9)),jJ hK (iA (tW (k:=k) (c:=n) (lR D) hc) e5 e6) (mF (AF (k:=k) (c:=n) (py D)) e5 e6) rfl hI,nO L I2 _,by rw [←gR hQ];exact hQ3,hm,
  fun h0 h=>⟨_,(mG hK hQ h0 hn hm e5 e6 hQ3 h).1⟩⟩
set_option maxRecDepth 20000 in
theorem lm (ks ki:SlV) (L:List Int) (I:List ItemD) (hs:∀ i∈I,i.Str) (hd:∀ i∈I,i.dec.to.n=i.dec.toL.length) (id:ByteArray) (k:KyD) (name target other:ByteArray) :
  Pu Tryz.prog 3 #[.agg #[ks.v,ki.v],.string id,k.v,.string name,.string target,.string other] (fun w=>(Ints w ks L∧Items w ki I)∧Glob w) (.bool true):=by
 have hsm:=tO
 have hrt:=pT ks ki L I hs hd
 refine ak (args:=[_,_,_,_,_,_]) _ Tryz.func3 rfl Tryz.ntmps3 rfl fun av bor w0=>?_
 refine aP (p:=ki.n=I.length) (fun w h=>h.1.2.len_) fun hkin=>?_
 by_cases hbig:30<(ki.n:Int)∨600<(target.size:Int)∨600<(name.size:Int)
 · cases hR:rightKn L I
   all_goals
    rw [hR] at hrt
    repeat' (first|(refine ab (hc:=hsm) (hX:=fun w h=>h.2) ?_)|(refine ab (hc:=hrt) (hX:=fun w h=>h.1) ?_)|refine gs ?_|refine gs1 fun _=>?_|(refine ax ?_)|(refine gp ?_ ?_<;>intro hx_ this)|fail)
    all_goals first
     | exact ad (ag rfl rfl) rfl
     | (exfalso;omega)
     | fail
 cases hR:rightKn L I with
 | false =>
  rw [hR] at hrt
  repeat' (first|refine jd (hab:=by omega) ?_|(refine ab (hc:=hsm) (hX:=fun w h=>h.2) ?_)|(refine ab (hc:=hrt) (hX:=fun w h=>h.1) ?_)|refine gs ?_|refine gs1 fun _=>?_|(refine ax ?_)|(refine gp ?_ ?_<;>intro hx_ this)|fail)
  all_goals first
   | exact ad (ag rfl rfl) rfl
   | fail
 | true =>
  rw [hR] at hrt
  have hK:=yf hR aa hs hd
  repeat' (first|refine jd (hab:=by omega) ?_|(refine ab (hc:=hsm) (hX:=fun w h=>h.2) ?_)|(refine ab (hc:=hrt) (hX:=fun w h=>h.1) ?_)|(refine bZ (hc:=wo ks ki hK) (hX:=fun w h=>h) fun v X1 h1=>?_;obtain ⟨s1,l1,hA1,rfl,hw1⟩:=h1)|refine gs ?_|refine gs1 fun _=>?_|(refine ax ?_)|(refine gp ?_ ?_<;>intro hx_ this)|fail)
  rename_i b6 b8
  have hfi:=vZ s1 l1 id
  have hfe:=BW s1 l1
  cases hfc:findC l1 id with
  | none =>
   rw [hfc] at hfi
   replace hfi:Pu Tryz.prog 12 #[s1.v,.string id] (fun w=>Chains w s1 l1) (.tuple #[ChainD.zero.v,.bool false]):=hfi
   cases hfB:fewV l1
   all_goals
    rw [hfB] at hfe
    repeat' (first|(refine ab (hc:=hfi) (hX:=fun w h=>hw1 w h.2) ?_)|(refine ab (hc:=hfe) (hX:=fun w h=>hw1 w h.2) ?_)|refine gs ?_|refine gs1 fun _=>?_|(refine ax ?_)|(refine gp ?_ ?_<;>intro hx_ this)|fail)
    all_goals first
     | exact ad (ag rfl rfl) rfl
     | fail
  | some c =>
   rw [hfc] at hfi
   replace hfi:Pu Tryz.prog 12 #[s1.v,.string id] (fun w=>Chains w s1 l1) (.tuple #[c.v,.bool true]):=hfi
   cases hfB:fewV l1 with
   | false =>
    rw [hfB] at hfe
    repeat' (first|(refine ab (hc:=hfi) (hX:=fun w h=>hw1 w h.2) ?_)|(refine ab (hc:=hfe) (hX:=fun w h=>hw1 w h.2) ?_)|refine gs ?_|refine gs1 fun _=>?_|(refine ax ?_)|(refine gp ?_ ?_<;>intro hx_ this)|fail)
    all_goals first
     | exact ad (ag rfl rfl) rfl
     | fail
   | true =>
    rw [hfB] at hfe
    obtain ⟨kl,hQ,h0,hau⟩:=yH hA1 hfc
    have hok1:=wq hK hA1
    have G:=fB hK hQ
    have hcm:=Qz hfc
    have htx:=BV hfB
    refine fb (p:=c.acts.n=c.actsL.length) (fun w h=>((hw1 w h.2).2 c hcm).len_) fun hcn=>?_
    have hva0:=dQ s1 l1 id target (fun c hc=>(hok1 c hc).1) (fun c hc=>ZY (hok1 c hc).2 (by decide)) htx
    have hG1:=G.len
    repeat' (first|(refine ab (hc:=hfi) (hX:=fun w h=>hw1 w h.2) ?_)|(refine ab (hc:=hfe) (hX:=fun w h=>hw1 w h.2) ?_)|refine gs ?_|refine gs1 fun _=>?_|(refine ax ?_)|(refine gp ?_ ?_<;>intro hx_ this)|fail)
    repeat' (first|apply bF|apply QS|refine bo ?_|refine aK ?_|refine bY ?_|refine cD ?_|refine aM ?_|refine aS ?_|refine aT ?_|refine gA ?_|refine cg ?_|refine cq ?_|refine bP ?_|refine cw ?_|refine bx ?_|refine bJ ?_|refine bw ?_|refine cf ?_|refine eT ?_|refine de (h:=?_)|refine be ?_|refine bj ?_|refine bc ?_|refine aY fun _=>?_|refine ci fun _=>?_|refine cQ fun _=>?_|refine bO ?_|refine aQ ?_|refine QW ?_|refine QX ?_|apply QV|apply QU|apply cw_ret|apply cw_exit|refine sy_beql (h:=?_)|refine bL ?_|refine br ?_|refine bq ?_|(refine aD (cs:=({ ActD.zero with kind:=17,text:=name,object:=target }:ActD).cells) (hf:=by rfl) ?_)|((fail_if_success (refine cr ?_));refine bm (ht:=?_) (hf:=?_);all_goals (intro hx_;first|have:=aL hx_|have:=aX hx_|skip))|(refine cw_cond (ht:=?_) (hf:=?_);all_goals (intro hx_;first|have:=aL hx_|have:=aX hx_|skip)))
    rename_i b15 b17
    refine Cc (ι:=Unit) (fun _=>⟨[(1,.string id),(3,.string name),(4,.string target),(5,.string other),(6,.pointer (some ⟨b6,0,none⟩)),(8,.pointer (some ⟨b8,0,none⟩)),(13,.bool true),(14,s1.v),(15,.pointer (some ⟨b15,0,none⟩)),(17,.pointer (some ⟨b17,0,none⟩))],[cel b17 46 (labX target name).cells,cel b15 35 c.cells,cel b8 27 k.v.cells.toList,cel b6 25 [ks.v,ki.v]],fun w=>((Ints w ks L∧Items w ki I)∧Glob w)∧Chains w s1 l1⟩) ?_ fun _=>?_
    · by_cases h16:(target.size:Int)=16
      · have e:labX target name={ ActD.zero with kind:=17,text:=name,object:=⟨#[]⟩,target:=target }:=by rw [labX,labO,labG,Zd h16];rfl
        rw [e]
        repeat' (first|refine ai (eH true rfl rfl (Zd h16)) rfl ao rfl ?_|refine gs ?_|refine gs1 fun _=>?_|(refine gp ?_ ?_<;>intro hx_ this)|fail)
        all_goals first
         | exact ⟨(),aj qZq9 (al _) fun w h=>⟨h.1,hw1 w h.2⟩⟩
         | fail
      · have e:labX target name={ ActD.zero with kind:=17,text:=name,object:=target,target:=⟨#[]⟩ }:=by rw [labX,labO,labG,Zc h16];rfl
        rw [e]
        repeat' (first|refine ai (eH false rfl rfl (Zc h16)) rfl ao rfl ?_|refine gs ?_|refine gs1 fun _=>?_|(refine gp ?_ ?_<;>intro hx_ this)|fail)
        all_goals first
         | exact ⟨(),aj qZq9 (al _) fun w h=>⟨h.1,hw1 w h.2⟩⟩
         | fail
    have hxR:(labX target name).Rng:=⟨by simp only [labX,ActD.zero];omega,fun w hw=>(Qk hw).elim,rfl,rfl⟩
    have hxS:(labX target name).Sm:=⟨by show 0*16≤_;decide,by show 0*64≤_;decide,by
     show (labG target).size≤maxLen
     rw [labG]
     simp only [maxLen]
     cases decide ((target.size:Int)=16) with
     | true=>show target.size≤_;omega
     | false=>show (0:Nat)≤_;decide⟩
    repeat' (first|(refine bZ (hc:=hva0) (hX:=fun w h=>⟨h.2,h.1.2⟩) fun v X2 h2=>?_;obtain ⟨s2,rfl,hw2⟩:=h2)|(refine bZ (hc:=fP ks ki hK aa c aa k (labX target name) hxR hxS) (hX:=fun w h=>⟨⟨⟨h.1.1.1,h.1.2.2 c hcm⟩,vV w _ _⟩,h.1.1.2⟩) fun v X3 h3=>?_;obtain ⟨s3,s4,s5,n,kl',e3,e4,hQ',rfl,hw3⟩:=h3)|refine gs ?_|refine gs1 fun _=>?_|(refine gp ?_ ?_<;>intro hx_ this)|fail)
    refine fb (p:=n.acts.n=n.actsL.length) (fun w h=>(hw3 w ⟨h.1.1.1.1.2,h.2⟩).2.len_) fun hnn=>?_
    have hbR:=tW (k:=k) (c:=c) hxR aa
    have hbS:=AF (k:=k) (c:=c) hxS
    have hK2:KnR L (addK L I (ofActI ((sgA k c (labX target name)).re s3 s4))):=jJ hK (iA hbR e3 e4) (mF hbS e3 e4) rfl aa
    have hl2:=nO L I (ofActI ((sgA k c (labX target name)).re s3 s4))
    have G2:=fB hK2 hQ'
    have hn100:=G2.len
    have hso:=fun hone=>mG hK hQ h0 hcn hnn e3 e4 hQ' hone
    generalize sgA k c (labX target name)=b at *
    obtain ⟨I2,hI2⟩:∃ I2,addK L I (ofActI (b.re s3 s4))=I2:=⟨_,rfl⟩
    rw [hI2] at hK2 hl2 hQ' hw3 hso
    obtain ⟨B1,hB1⟩:∃ x,decide ((n.acts.n:Int)=(c.acts.n:Int)+1)=x:=⟨_,rfl⟩
    rw [hB1]
    repeat' (first|(refine bZ (hc:=fP ks s5 hK2 aa n aa k (labX target name) hxR hxS) (hX:=fun w h=>⟨⟨⟨⟨h.1.1.1.1.1,(hw3 w ⟨h.1.1.1.1.2,h.2⟩).1⟩,(hw3 w ⟨h.1.1.1.1.2,h.2⟩).2⟩,vV w _ _⟩,h.1.1.1.2⟩) fun v X4 h4=>?_;obtain ⟨s6,s7,s8,m,kl2,e5,e6,hQ2',rfl,hw4⟩:=h4;obtain ⟨B2,hB2⟩:∃ x,decide ((m.acts.n:Int)=(n.acts.n:Int)+1)=x:=⟨_,rfl⟩;rw [hB2])|refine gs ?_|refine gs1 fun _=>?_|(refine gp ?_ ?_<;>intro hx_ this)|fail)
    · exact ad (ag rfl rfl) rfl
    · exact ad (ag rfl rfl) rfl
    rename_i b19 b20 b22 b23 hxa hxb
    have hBB:B1=true:=by
     cases B1 with
     | true=>rfl
     | false=>exact absurd hxa (by decide)
    have hBC:B2=true:=by
     cases B2 with
     | true=>rfl
     | false=>exact absurd hx_ (by decide)
    obtain ⟨hS,hQ1⟩:=hso (aL (hB1.trans hBB))
    refine fb (p:=m.acts.n=m.actsL.length) (fun w h=>(hw4 w ⟨(hw3 w ⟨h.1.1.1.1.1.2,h.1.2⟩).1,h.2⟩).2.len_) fun hmm=>?_
    obtain ⟨hT,hQ2⟩:=mG hK2 hQ1 (by rw [hS.len];omega) hnn hmm e5 e6 hQ2' (aL (hB2.trans hBC))
    have hbR2:=tW (k:=k) (c:=n) hxR aa
    have hbS2:=AF (k:=k) (c:=n) hxS
    have hK3:KnR L (addK L I2 (ofActI ((sgA k n (labX target name)).re s6 s7))):=jJ hK2 (iA hbR2 e5 e6) (mF hbS2 e5 e6) rfl aa
    have hl3:=nO L I2 (ofActI ((sgA k n (labX target name)).re s6 s7))
    generalize sgA k n (labX target name)=b2 at *
    obtain ⟨I3,hI3⟩:∃ I3,addK L I2 (ofActI (b2.re s6 s7))=I3:=⟨_,rfl⟩
    rw [hI3] at hK3 hQ2 hw4 hl3
    clear hso hQ' hQ2'
    have G3:=fB hK3 hQ2
    have hm100:=G3.len
    have hLS:LabS L I I2 id c n m k target name b b2:=⟨hS,hT,wz (zp hK hQ),gR hQ1,gR hQ2⟩
    have hv:∀ t,validV l1 id t=validW (some (c.actsL.map ActD.can)) t:=fun t=>by rw [dD,gx hA1 hau hQ,ou h0]
    have hV1:=hLS.one (hv target)
    have hV2:=hLS.two (hv target)
    have hb0:=j1 (fun c hc=>ZY (hok1 c hc).2 (by decide)) htx id target
    have hasc:Asc (validV l1 id target):=by rw [hv target,eI hLS.ne];exact dJ _
    have hin:=su s2 (validV l1 id target) name hasc aa
    have htn:TxtOk n.actsL:=iY hS.acts (htx c hcm) (by rw [hS.text];show name.size≤_;omega)
    have htm:TxtOk m.actsL:=iY hT.acts htn (by rw [hT.text];show name.size≤_;omega)
    have hvd:=fun b:Nat=>dQ ⟨some ⟨b,0,none⟩,1,1⟩ [n] id target (fun x hx=>by rw [Z5.1 hx];exact G2.ok) (fun x hx=>by rw [Z5.1 hx];omega) (fun x hx=>by rw [Z5.1 hx];exact htn)
    have hve:=fun (b:Nat) t=>dQ ⟨some ⟨b,0,none⟩,1,1⟩ [m] id t (fun x hx=>by rw [Z5.1 hx];exact G3.ok) (fun x hx=>by rw [Z5.1 hx];omega) (fun x hx=>by rw [Z5.1 hx];exact htm)
    have hve1:=fun b:Nat=>hve b target
    simp only [hV1] at hvd
    simp only [hV2] at hve1
    obtain ⟨V0,hV0⟩:∃ V0,validV l1 id target=V0:=⟨_,rfl⟩
    obtain ⟨VW,hVW⟩:∃ VW,withL V0 name=VW:=⟨_,rfl⟩
    rw [hV0] at hw2 hin
    simp only [hV0,hVW] at hvd hve1 hin
    refine cH (X':=fun w=>(((Ints w ks L∧Glob w)∧Chains w s1 l1)∧Strs w s2 V0)∧(n.at_ w∧Items w s8 I3∧m.at_ w)) (fun w h=>⟨⟨⟨⟨h.1.1.1.1.1.1,h.1.1.1.1.2⟩,h.1.1.1.2⟩,hw2 w h.1.1.2⟩,(hw3 w ⟨h.1.1.1.1.1.2,h.1.2⟩).2,hw4 w ⟨(hw3 w ⟨h.1.1.1.1.1.2,h.1.2⟩).1,h.2⟩⟩) ?_
    repeat' (first|apply bF|apply QS|refine bo ?_|refine aK ?_|refine bY ?_|refine cD ?_|refine aM ?_|refine aS ?_|refine aT ?_|refine gA ?_|refine cg ?_|refine cq ?_|refine bP ?_|refine cw ?_|refine bx ?_|refine bJ ?_|refine bw ?_|refine cf ?_|refine eT ?_|refine de (h:=?_)|refine be ?_|refine bj ?_|refine bc ?_|refine aY fun _=>?_|refine ci fun _=>?_|refine cQ fun _=>?_|refine bO ?_|refine aQ ?_|refine QW ?_|refine QX ?_|apply QV|apply QU|apply cw_ret|apply cw_exit|refine sy_beql (h:=?_)|refine bL ?_|refine br ?_|refine bq ?_|(refine bZ (hc:=hin) (hX:=fun w h=>h.1.2) fun v X5 h5=>?_;obtain ⟨sW,rfl,hw5⟩:=h5)|((fail_if_success (refine cr ?_));refine bm (ht:=?_) (hf:=?_);all_goals (intro hx_;first|have:=aL hx_|have:=aX hx_|skip))|(refine cw_cond (ht:=?_) (hf:=?_);all_goals (intro hx_;first|have:=aL hx_|have:=aX hx_|skip)))
    refine nF (X':=fun w=>((((Ints w ks L∧Glob w)∧Chains w s1 l1)∧Strs w s2 V0)∧(n.at_ w∧Items w s8 I3∧m.at_ w))∧Strs w sW VW) (fun w h=>⟨h.1,hw5 w h.2⟩) ?_
    refine QT (h:=?_)
    repeat' (first|apply bF|apply QS|refine bo ?_|refine aK ?_|refine bY ?_|refine cD ?_|refine aM ?_|refine aS ?_|refine aT ?_|refine gA ?_|refine cg ?_|refine cq ?_|refine bP ?_|refine cw ?_|refine bx ?_|refine bJ ?_|refine bw ?_|refine cf ?_|refine eT ?_|refine de (h:=?_)|refine be ?_|refine bj ?_|refine bc ?_|refine aY fun _=>?_|refine ci fun _=>?_|refine cQ fun _=>?_|refine bO ?_|refine aQ ?_|refine QW ?_|refine QX ?_|apply QV|apply QU|apply cw_ret|apply cw_exit|refine sy_beql (h:=?_)|refine bL ?_|refine br ?_|refine bq ?_|(refine cA (size:=6) (vs:=[n.v]) (css:=n.cells) (hsz:=by rfl) (hcs:=by rfl) fun _=>?_;refine aZ ?_)|(refine bZ (hc:=hvd _) (hX:=fun w h=>⟨chainsOne h.1.1.2.1 h.2,h.1.1.1.1.1.2⟩) fun v X6 h6=>?_;obtain ⟨sA,rfl,hw6⟩:=h6)|((fail_if_success (refine cr ?_));refine bm (ht:=?_) (hf:=?_);all_goals (intro hx_;first|have:=aL hx_|have:=aX hx_|skip))|(refine cw_cond (ht:=?_) (hf:=?_);all_goals (intro hx_;first|have:=aL hx_|have:=aX hx_|skip)))
    refine nF (X':=fun w=>(((((Ints w ks L∧Glob w)∧Chains w s1 l1)∧Strs w s2 V0)∧(n.at_ w∧Items w s8 I3∧m.at_ w))∧Strs w sW VW)∧Strs w sA VW) (fun w h=>⟨h.1.1,hw6 w h.2⟩) ?_
    refine QT (h:=?_)
    repeat' (first|apply bF|apply QS|refine bo ?_|refine aK ?_|refine bY ?_|refine cD ?_|refine aM ?_|refine aS ?_|refine aT ?_|refine gA ?_|refine cg ?_|refine cq ?_|refine bP ?_|refine cw ?_|refine bx ?_|refine bJ ?_|refine bw ?_|refine cf ?_|refine eT ?_|refine de (h:=?_)|refine be ?_|refine bj ?_|refine bc ?_|refine aY fun _=>?_|refine ci fun _=>?_|refine cQ fun _=>?_|refine bO ?_|refine aQ ?_|refine QW ?_|refine QX ?_|apply QV|apply QU|apply cw_ret|apply cw_exit|refine sy_beql (h:=?_)|refine bL ?_|refine br ?_|refine bq ?_|(refine cA (size:=6) (vs:=[m.v]) (css:=m.cells) (hsz:=by rfl) (hcs:=by rfl) fun _=>?_;refine aZ ?_)|(refine bZ (hc:=hve1 _) (hX:=fun w h=>⟨chainsOne h.1.1.1.2.2.2 h.2,h.1.1.1.1.1.1.2⟩) fun v X7 h7=>?_;obtain ⟨sB,rfl,hw7⟩:=h7)|((fail_if_success (refine cr ?_));refine bm (ht:=?_) (hf:=?_);all_goals (intro hx_;first|have:=aL hx_|have:=aX hx_|skip))|(refine cw_cond (ht:=?_) (hf:=?_);all_goals (intro hx_;first|have:=aL hx_|have:=aX hx_|skip)))
    refine nF (X':=fun w=>((((((Ints w ks L∧Glob w)∧Chains w s1 l1)∧Strs w s2 V0)∧(n.at_ w∧Items w s8 I3∧m.at_ w))∧Strs w sW VW)∧Strs w sA VW)∧Strs w sB VW) (fun w h=>⟨h.1.1,hw7 w h.2⟩) ?_
    refine fS (ι:=Unit) (fun _=>⟨[(1,.string id),(4,.string target),(5,.string other),(8,.pointer (some ⟨b8,0,none⟩)),(13,.bool true),(14,s1.v),(15,.pointer (some ⟨b15,0,none⟩)),(18,s2.v),(22,.pointer (some ⟨b22,0,none⟩)),(23,.pointer (some ⟨b23,0,none⟩)),(25,sW.v),(26,sA.v),(27,sB.v),(28,.bool true)],[cel b23 35 m.cells,cel b22 25 [ks.v,s8.v],cel b15 35 c.cells,cel b8 27 k.v.cells.toList],fun w=>((((((Ints w ks L∧Glob w)∧Chains w s1 l1)∧Strs w s2 V0)∧(n.at_ w∧Items w s8 I3∧m.at_ w))∧Strs w sW VW)∧Strs w sA VW)∧Strs w sB VW⟩) ?_ fun _=>?_
    · by_cases ho:other=target
      · have ho':seqB other target=true:=seqB_iff.2 ho
        repeat' (first|refine ai (dj true rfl rfl ho') rfl ao rfl ?_|refine gs ?_|refine gs1 fun _=>?_|(refine gp ?_ ?_<;>intro hx_ this)|fail)
        all_goals first
         | exact ⟨(),aj qZq9 (.cons_cons _ (.cons_cons _ (.cons _ (.cons _ (.cons _ (.cons_cons _ (.cons_cons _ (Zu _)))))))) fun w h=>h⟩
         | fail
      · have ho':seqB other target=false:=seqB_ne.2 ho
        have hfo:=hLS.far ho (hv other)
        have hvo:=fun b:Nat=>hve b other
        simp only [hfo] at hvo
        have hvc:=dQ s1 l1 id other (fun c hc=>(hok1 c hc).1) (fun c hc=>ZY (hok1 c hc).2 (by decide)) htx
        obtain ⟨VO,hVO⟩:∃ VO,validV l1 id other=VO:=⟨_,rfl⟩
        simp only [hVO] at hvo hvc
        have hsm21:=fun s r:SlV=>j6 s r VO VO
        simp only [nA] at hsm21
        repeat' (first|refine ai (dj false rfl rfl ho') rfl ao rfl ?_|(refine bZ (hc:=hvo _) (hX:=fun w h=>⟨chainsOne h.1.1.1.1.2.2.2 h.2,h.1.1.1.1.1.1.1.2⟩) fun v X8 h8=>?_;obtain ⟨sC,rfl,hw8⟩:=h8)|(refine bZ (hc:=hvc) (hX:=fun w h=>⟨h.1.1.1.1.1.1.1.2,h.1.1.1.1.1.1.1.1.2⟩) fun v X9 h9=>?_;obtain ⟨sD,rfl,hw9⟩:=h9)|(refine ab (hc:=hsm21 sC sD) (hX:=fun w h=>⟨hw8 w h.1.2,hw9 w h.2⟩) ?_)|refine gs ?_|refine gs1 fun _=>?_|(refine cA (size:=6) (vs:=[m.v]) (css:=m.cells) (hsz:=by rfl) (hcs:=by rfl) fun _=>?_;refine aZ ?_)|(refine gp ?_ ?_<;>intro hx_ this)|fail)
        all_goals first
         | exact ⟨(),aj qZq9 (.cons_cons _ (.cons_cons _ (.cons _ (.cons _ (.cons _ (.cons_cons _ (.cons_cons _ (Zu _)))))))) fun w h=>h.1.1.1⟩
         | fail
    apply QS
    apply QT
    repeat' (first|apply bF|apply QS|refine bo ?_|refine aK ?_|refine bY ?_|refine cD ?_|refine aM ?_|refine aS ?_|refine aT ?_|refine gA ?_|refine cg ?_|refine cq ?_|refine bP ?_|refine cw ?_|refine bx ?_|refine bJ ?_|refine bw ?_|refine cf ?_|refine eT ?_|refine de (h:=?_)|refine be ?_|refine bj ?_|refine bc ?_|refine aY fun _=>?_|refine ci fun _=>?_|refine cQ fun _=>?_|refine bO ?_|refine aQ ?_|refine QW ?_|refine QX ?_|apply QV|apply QU|apply cw_ret|apply cw_exit|refine sy_beql (h:=?_)|refine bL ?_|refine br ?_|refine bq ?_|(refine bZ (hc:=wo ks s8 hK3) (hX:=fun w h=>⟨⟨h.1.1.1.1.1.1.1,h.1.1.1.2.2.1⟩,h.1.1.1.1.1.1.2⟩) fun v X8 h8=>?_;obtain ⟨s9,l3,hA3,rfl,hw8⟩:=h8)|((fail_if_success (refine cr ?_));refine bm (ht:=?_) (hf:=?_);all_goals (intro hx_;first|have:=aL hx_|have:=aX hx_|skip))|(refine cw_cond (ht:=?_) (hf:=?_);all_goals (intro hx_;first|have:=aL hx_|have:=aX hx_|skip)))
    refine nF (X':=fun w=>((((Ints w ks L∧Glob w)∧Chains w s1 l1)∧(Strs w s2 V0∧Strs w sW VW∧Strs w sA VW∧Strs w sB VW))∧(Items w s8 I3∧m.at_ w))∧Chains w s9 l3) (fun w h=>⟨⟨⟨h.1.1.1.1.1.1,h.1.1.1.1.1.2,h.1.1.1.2,h.1.1.2,h.1.2⟩,h.1.1.1.1.2.2⟩,hw8 w h.2⟩) ?_
    have hau2:id∈authI I2:=by rw [←hI2];exact pm rfl hau
    have hau3:id∈authI I3:=by rw [←hI3];exact pm rfl hau2
    have hfar:∀ x,x≠id→viewC l3 x=viewC l1 x:=fun x hx=>Ez rfl rfl (hS.author.trans (gR hQ)) (hT.author.trans (gR hQ1)) hA1 (by rw [hI2,hI3];exact hA3) hx
    have htx3:∀ x∈l3,TxtOk x.actsL:=ER (Cv hA3) fun x v hx=>by
     by_cases e:x=id
     · subst e
       rw [gx hA3 hau3 hQ2,ou (by rw [hT.len];omega)] at hx
       cases hx
       exact txt_can.2 htm
     · exact zj htx ((hfar x e).symm.trans hx)
    have hok3:=wq hK3 hA3
    refine aP (p:=s1.n=l1.length∧s1.n≤maxLen∧(0<l1.length→s1.p.isSome=true)) (fun w h=>⟨h.1.1.1.2.len_,h.1.1.1.2.max_,h.1.1.1.2.some_⟩) fun ⟨hs1n,hs1m,hs1p⟩=>?_
    simp only [maxLen] at hs1m
    have hsmG:=fun (s r:SlV) (V:List ByteArray)=>j6 s r V V
    simp only [nA] at hsmG
    repeat' (first|refine gs ?_|refine gs1 fun _=>?_|(refine gp ?_ ?_<;>intro hx_ this)|fail)
    refine aq (ι:=Kth l1.length) (fun i=>⟨[(1,.string id),(4,.string target),(5,.string other),(8,.pointer (some ⟨b8,0,none⟩)),(13,.bool true),(14,s1.v),(15,.pointer (some ⟨b15,0,none⟩)),(18,s2.v),(22,.pointer (some ⟨b22,0,none⟩)),(23,.pointer (some ⟨b23,0,none⟩)),(25,sW.v),(26,sA.v),(27,sB.v),(28,.bool true),(29,s9.v),(30,.int .i64 i.k)],[cel b23 35 m.cells,cel b22 25 [ks.v,s8.v],cel b15 35 c.cells,cel b8 27 k.v.cells.toList],fun w=>((((Ints w ks L∧Glob w)∧Chains w s1 l1)∧(Strs w s2 V0∧Strs w sW VW∧Strs w sA VW∧Strs w sB VW))∧(Items w s8 I3∧m.at_ w))∧Chains w s9 l3⟩) (fun i=>l1.length-i.k) ⟨0,Z4 _⟩ (aj qZq9 (al _) fun _ h=>h) fun i=>?_
    have hik:=i.hk
    by_cases hlt:i.k<l1.length
    · have hs1p':=hs1p aa
      obtain ⟨x,hx⟩:∃ x,l1[i.k]?=some x:=⟨_,Zb hlt⟩
      have hy0:∀ w,Chains w s1 l1→CellAt w s1.p (i.k*6) (.string x.id):=fun w h=>(Chains.get h hx).2.2 0 _ rfl
      cases hxa:seqB x.id id with
      | true =>
       repeat' (first|refine ai (cd true rfl rfl (Zd aa)) rfl ao rfl ?_|refine gs ?_|refine gs1 fun _=>?_|(refine gp ?_ ?_<;>intro hx_ this)|fail)
       (refine ar ⟨[0,1,2,3,4,5,6,7,8,9,10,11,12,13,14,16,17,18,19,20,21,22],[(15,⟨[],[(23,⟨[],[(24,⟨[25,26],[]⟩)]⟩)]⟩)]⟩ [] (fun w=>((((Ints w ks L∧Glob w)∧Chains w s1 l1)∧(Strs w s2 V0∧Strs w sW VW∧Strs w sA VW∧Strs w sB VW))∧(Items w s8 I3∧m.at_ w))∧Chains w s9 l3) (h:=?_))
       all_goals repeat' (first|refine ay (hsub:=by exact aE) (hy:=by first|(apply lr false;rfl;rfl;(rw [hxa];rfl))) ?_|refine gdz ?_|refine ay (hsub:=by exact aE) (hy:=by first|(apply aC (q:=i.k*6);rfl;rfl;omega;omega;assumption;omega)|(apply gT;rfl;assumption;rfl)|(apply er (t:=9) (q:=i.k*6) (u:=.string x.id);rfl;exact fun w h=>hy0 w h.1.1.1.2)) ?_|refine aA ?_ (h':=?_)|exact aB|refine gs1 fun _=>?_|(refine gq ?_ ?_<;>intro hx_ this)|fail)
       all_goals
        repeat' (first|refine gs ?_|refine gs1 fun _=>?_|(refine gp ?_ ?_<;>intro hx_ this)|fail)
        all_goals first
         | exact ⟨(⟨i.k+1,by omega⟩:Kth l1.length),(by show l1.length-(i.k+1)<l1.length-i.k;omega),aj qZq9 (al _) fun _ h=>h⟩
         | fail
      | false =>
       have hvB:=dQ s9 l3 x.id target (fun c hc=>(hok3 c hc).1) (fun c hc=>ZY (hok3 c hc).2 (by decide)) htx3
       have hvA:=dQ s1 l1 x.id target (fun c hc=>(hok1 c hc).1) (fun c hc=>ZY (hok1 c hc).2 (by decide)) htx
       rw [dD l3,hfar x.id (seqB_ne.1 hxa),←dD l1] at hvB
       generalize validV l1 x.id target=VX at hvA hvB
       repeat' (first|refine ai (cd true rfl rfl (Zd aa)) rfl ao rfl ?_|refine gs ?_|refine gs1 fun _=>?_|(refine gp ?_ ?_<;>intro hx_ this)|fail)
       (refine ar ⟨[0,1,2,3,4,5,6,7,8,9,10,11,12,13,14,16,17,18,19,20,21,22],[(15,⟨[],[(23,⟨[],[(24,⟨[25,26],[]⟩)]⟩)]⟩)]⟩ [] (fun w=>((((Ints w ks L∧Glob w)∧Chains w s1 l1)∧(Strs w s2 V0∧Strs w sW VW∧Strs w sA VW∧Strs w sB VW))∧(Items w s8 I3∧m.at_ w))∧Chains w s9 l3) (h:=?_))
       all_goals repeat' (first|refine ay (hsub:=by exact aE) (hy:=by first|(apply lr true;rfl;rfl;(rw [hxa];rfl))) ?_|((refine bZ (hc:=hvB) (hX:=fun w h=>⟨h.2,h.1.1.1.1.2⟩) fun v X9 h9=>?_;obtain ⟨sC,rfl,hw9⟩:=h9))|((refine bZ (hc:=hvA) (hX:=fun w h=>⟨h.1.1.1.1.2,h.1.1.1.1.1.2⟩) fun v X10 h10=>?_;obtain ⟨sD,rfl,hw10⟩:=h10))|(refine ab (hc:=hsmG sC sD VX) (hX:=fun w h=>⟨hw9 w h.1.2,hw10 w h.2⟩) ?_)|refine gdz ?_|refine ay (hsub:=by exact aE) (hy:=by first|(apply aC (q:=i.k*6);rfl;rfl;omega;omega;assumption;omega)|(apply gT;rfl;assumption;rfl)|(apply er (t:=9) (q:=i.k*6) (u:=.string x.id);rfl;exact fun w h=>hy0 w h.1.1.1.2)) ?_|refine aA ?_ (h':=?_)|exact aB|refine gs1 fun _=>?_|(refine gq ?_ ?_<;>intro hx_ this)|fail)
       all_goals
        repeat' (first|refine gs ?_|refine gs1 fun _=>?_|(refine gp ?_ ?_<;>intro hx_ this)|fail)
        all_goals first
         | exact ⟨(⟨i.k+1,by omega⟩:Kth l1.length),(by show l1.length-(i.k+1)<l1.length-i.k;omega),aj qZq9 (al _) fun _ h=>h.1.1⟩
         | fail
    · have hk:i.k=l1.length:=by omega
      repeat' (first|refine ai (cd false rfl rfl (Zc aa)) rfl ao rfl ?_|refine gs ?_|refine gs1 fun _=>?_|(refine gp ?_ ?_<;>intro hx_ this)|fail)
      have hml:m.actsL.length=c.actsL.length+2:=by rw [hT.len,hS.len]
      obtain ⟨z1,hz1⟩:∃ z,m.actsL[c.acts.n]?=some z:=⟨_,Zb aa⟩
      obtain ⟨z2,hz2⟩:∃ z,m.actsL[c.acts.n+1]?=some z:=⟨_,Zb aa⟩
      have hzm1:=Z6 hz1
      have hzm2:=Z6 hz2
      obtain ⟨D1,hD1⟩:∃ D,digV z1=D:=⟨_,rfl⟩
      obtain ⟨D2,hD2⟩:∃ D,digV z2=D:=⟨_,rfl⟩
      refine aP (p:=m.acts.p.isSome=true) (fun w h=>h.1.2.2.some_ aa) fun hmp=>?_
      have hpos3:0<m.actsL.length:=by omega
      have hm1000:m.acts.n≤1000:=by omega
      have hI3l:I3.length<100:=by omega
      have hof1:=jC z1 (G3.ok.rng z1 hzm1) (G3.ok.sm z1 hzm1)
      have hof2:=jC z2 (G3.ok.rng z2 hzm2) (G3.ok.sm z2 hzm2)
      have hsi1:=fP ks s8 hK3 aa m aa k (undL D1) (lR D1) (py D1)
      refine fS (ι:=UndL L I3 id m k D1) (fun u=>⟨[(1,.string id),(4,.string target),(8,.pointer (some ⟨b8,0,none⟩)),(13,.bool true),(18,s2.v),(23,.pointer (some ⟨b23,0,none⟩)),(25,sW.v),(26,sA.v),(27,sB.v),(28,.bool true),(31,.int .i64 (c.acts.n:Nat)),(32,.pointer (some ⟨u.b1,0,none⟩)),(33,.pointer (some ⟨u.b2,0,none⟩)),(34,.bool (decide ((u.m.acts.n:Int)=(m.acts.n:Int)+1)))],[cel u.b2 35 u.m.cells,cel u.b1 25 [ks.v,u.sN.v],cel b23 35 m.cells,cel b8 27 k.v.cells.toList],fun w=>(((Ints w ks L∧Glob w)∧(Strs w s2 V0∧Strs w sW VW∧Strs w sA VW∧Strs w sB VW))∧m.at_ w)∧(Items w u.sN u.I4∧u.m.at_ w)⟩) ?_ fun u=>?_
      · as_aux_lemma =>
        (refine ar ⟨[0,1,2,3,4,5,6,7],[(8,⟨[],[(9,⟨[10],[(11,⟨[12,13,14,15],[(16,⟨[],[(17,⟨[],[(18,⟨[],[(19,⟨[20],[]⟩)]⟩)]⟩)]⟩),(17,⟨[],[(16,⟨[],[(18,⟨[],[(19,⟨[20],[]⟩)]⟩)]⟩)]⟩)]⟩),(16,⟨[],[(11,⟨[12,13,14,15],[(17,⟨[],[(18,⟨[],[(19,⟨[20],[]⟩)]⟩)]⟩)]⟩),(17,⟨[],[(11,⟨[12,13,14,15],[(18,⟨[],[(19,⟨[20],[]⟩)]⟩)]⟩)]⟩)]⟩),(17,⟨[],[(11,⟨[12,13,14,15],[(16,⟨[],[(18,⟨[],[(19,⟨[20],[]⟩)]⟩)]⟩)]⟩),(16,⟨[],[(11,⟨[12,13,14,15],[(18,⟨[],[(19,⟨[20],[]⟩)]⟩)]⟩)]⟩)]⟩)]⟩),(16,⟨[],[(9,⟨[10],[(11,⟨[12,13,14,15],[(17,⟨[],[(18,⟨[],[(19,⟨[20],[]⟩)]⟩)]⟩)]⟩),(17,⟨[],[(11,⟨[12,13,14,15],[(18,⟨[],[(19,⟨[20],[]⟩)]⟩)]⟩)]⟩)]⟩),(17,⟨[],[(9,⟨[10],[(11,⟨[12,13,14,15],[(18,⟨[],[(19,⟨[20],[]⟩)]⟩)]⟩)]⟩)]⟩)]⟩),(17,⟨[],[(9,⟨[10],[(11,⟨[12,13,14,15],[(16,⟨[],[(18,⟨[],[(19,⟨[20],[]⟩)]⟩)]⟩)]⟩),(16,⟨[],[(11,⟨[12,13,14,15],[(18,⟨[],[(19,⟨[20],[]⟩)]⟩)]⟩)]⟩)]⟩),(16,⟨[],[(9,⟨[10],[(11,⟨[12,13,14,15],[(18,⟨[],[(19,⟨[20],[]⟩)]⟩)]⟩)]⟩)]⟩)]⟩)]⟩),(16,⟨[],[(8,⟨[],[(9,⟨[10],[(11,⟨[12,13,14,15],[(17,⟨[],[(18,⟨[],[(19,⟨[20],[]⟩)]⟩)]⟩)]⟩),(17,⟨[],[(11,⟨[12,13,14,15],[(18,⟨[],[(19,⟨[20],[]⟩)]⟩)]⟩)]⟩)]⟩),(17,⟨[],[(9,⟨[10],[(11,⟨[12,13,14,15],[(18,⟨[],[(19,⟨[20],[]⟩)]⟩)]⟩)]⟩)]⟩)]⟩),(17,⟨[],[(8,⟨[],[(9,⟨[10],[(11,⟨[12,13,14,15],[(18,⟨[],[(19,⟨[20],[]⟩)]⟩)]⟩)]⟩)]⟩)]⟩)]⟩),(17,⟨[],[(8,⟨[],[(9,⟨[10],[(11,⟨[12,13,14,15],[(16,⟨[],[(18,⟨[],[(19,⟨[20],[]⟩)]⟩)]⟩)]⟩),(16,⟨[],[(11,⟨[12,13,14,15],[(18,⟨[],[(19,⟨[20],[]⟩)]⟩)]⟩)]⟩)]⟩),(16,⟨[],[(9,⟨[10],[(11,⟨[12,13,14,15],[(18,⟨[],[(19,⟨[20],[]⟩)]⟩)]⟩)]⟩)]⟩)]⟩),(16,⟨[],[(8,⟨[],[(9,⟨[10],[(11,⟨[12,13,14,15],[(18,⟨[],[(19,⟨[20],[]⟩)]⟩)]⟩)]⟩)]⟩)]⟩)]⟩)]⟩ [cel b23 35 m.cells,cel b22 25 [ks.v,s8.v],cel b15 35 c.cells,cel b8 27 k.v.cells.toList] (fun w=>((((Ints w ks L∧Glob w)∧Chains w s1 l1)∧(Strs w s2 V0∧Strs w sW VW∧Strs w sA VW∧Strs w sB VW))∧(Items w s8 I3∧m.at_ w))∧Chains w s9 l3) (h:=?_))
        all_goals repeat' (first|((refine bZ (hc:=hof1) (hX:=fun w h=>h.1.2.2.2 z1 hzm1) fun v X11 h11=>?_;obtain ⟨z',rfl,hdz,hzr',hzat⟩:=h11;have hdg:=iE z' hzr';rw [hdz,hD1] at hdg))|(refine ab (hc:=hdg) (hX:=fun w h=>⟨hzat w h.2,h.1.1.1.1.1.2⟩) ?_)|((refine bZ (hc:=hsi1) (hX:=fun w h=>⟨⟨⟨⟨h.1.1.1.1.1.1,h.1.1.2.1⟩,h.1.1.2.2⟩,vb w D1⟩,h.1.1.1.1.1.2⟩) fun v X12 h12=>?_;obtain ⟨t1,t2,tN,f,kl3,e7,e8,hQ3,rfl,hw12⟩:=h12;refine fb (p:=f.acts.n=f.actsL.length) (fun w h=>(hw12 w ⟨h.1.1.1.2.1,h.2⟩).2.len_) fun hff=>?_))|refine gdz ?_|refine ay (hsub:=by exact aE) (hy:=by first|(apply aC (q:=c.acts.n*20);rfl;rfl;omega;omega;assumption;omega)|(apply eG (cs:=z1.cells);rfl;exact fun w h=>Acts.get h.1.2.2 hz1)|(apply fa (cs:=(undL D1).cells);rfl;rfl)) ?_|refine aA ?_ (h':=?_)|exact aB|refine gs1 fun _=>?_|(refine gq ?_ ?_<;>intro hx_ this)|fail)
        all_goals first
         | exact ⟨UndL.make hK3 hQ2 hmm hm1000 hI3l tN f kl3 _ _ e7 e8 hQ3 hff,aj qZq9 (.cons_cons _ (.cons_cons _ (.cons_cons _ (.cons _ (.cons _ (.cons_cons _ (Zu _))))))) fun w h=>⟨⟨⟨h.1.1.1.1.1.1,h.1.1.1.1.2⟩,h.1.1.1.2.2⟩,hw12 w ⟨h.1.1.1.2.1,h.2⟩⟩⟩
         | exact ⟨UndL.make hK3 hQ2 hmm hm1000 hI3l tN f kl3 _ _ e7 e8 hQ3 hff,DR qZq9 (.cons_cons _ (.cons_cons _ (.cons_cons _ (.cons _ (.cons _ (.cons_cons _ (Zu _)))))))  (fun w h=>⟨⟨⟨h.1.1.1.1.1.1,h.1.1.1.1.2⟩,h.1.1.1.2.2⟩,hw12 w ⟨h.1.1.1.2.1,h.2⟩⟩)⟩
         | fail
      obtain ⟨tN,f,kl3,b32,b33,I4,hK4,hl4,hQ3,hff,hUS⟩:=u
      simp only
      have G4:=fB hK4 hQ3
      have hf100:=G4.len
      have hf1000:f.acts.n≤1000:=by omega
      have hI4l:I4.length<100:=by omega
      have hsi2:=fP ks tN hK4 aa f aa k (undL D2) (lR D2) (py D2)
      refine QS ?_
      refine fS (ι:=UndL L I4 id f k D2) (fun u=>⟨[(1,.string id),(4,.string target),(13,.bool true),(18,s2.v),(25,sW.v),(26,sA.v),(27,sB.v),(28,.bool true),(33,.pointer (some ⟨b33,0,none⟩)),(34,.bool (decide ((f.acts.n:Int)=(m.acts.n:Int)+1))),(36,.pointer (some ⟨u.b2,0,none⟩)),(37,.bool (decide ((u.m.acts.n:Int)=(f.acts.n:Int)+1)))],[cel u.b2 35 u.m.cells,cel b33 35 f.cells],fun w=>((Glob w∧(Strs w s2 V0∧Strs w sW VW∧Strs w sA VW∧Strs w sB VW))∧f.at_ w)∧u.m.at_ w⟩) ?_ fun u=>?_
      · as_aux_lemma =>
        (refine ar ⟨[0,1,2,3,4,5,6,7,8],[(9,⟨[],[(10,⟨[11],[(12,⟨[13,14,15,16],[(17,⟨[],[(18,⟨[],[(19,⟨[],[(20,⟨[21],[]⟩)]⟩)]⟩)]⟩),(18,⟨[],[(17,⟨[],[(19,⟨[],[(20,⟨[21],[]⟩)]⟩)]⟩)]⟩)]⟩),(17,⟨[],[(12,⟨[13,14,15,16],[(18,⟨[],[(19,⟨[],[(20,⟨[21],[]⟩)]⟩)]⟩)]⟩),(18,⟨[],[(12,⟨[13,14,15,16],[(19,⟨[],[(20,⟨[21],[]⟩)]⟩)]⟩)]⟩)]⟩),(18,⟨[],[(12,⟨[13,14,15,16],[(17,⟨[],[(19,⟨[],[(20,⟨[21],[]⟩)]⟩)]⟩)]⟩),(17,⟨[],[(12,⟨[13,14,15,16],[(19,⟨[],[(20,⟨[21],[]⟩)]⟩)]⟩)]⟩)]⟩)]⟩),(17,⟨[],[(10,⟨[11],[(12,⟨[13,14,15,16],[(18,⟨[],[(19,⟨[],[(20,⟨[21],[]⟩)]⟩)]⟩)]⟩),(18,⟨[],[(12,⟨[13,14,15,16],[(19,⟨[],[(20,⟨[21],[]⟩)]⟩)]⟩)]⟩)]⟩),(18,⟨[],[(10,⟨[11],[(12,⟨[13,14,15,16],[(19,⟨[],[(20,⟨[21],[]⟩)]⟩)]⟩)]⟩)]⟩)]⟩),(18,⟨[],[(10,⟨[11],[(12,⟨[13,14,15,16],[(17,⟨[],[(19,⟨[],[(20,⟨[21],[]⟩)]⟩)]⟩)]⟩),(17,⟨[],[(12,⟨[13,14,15,16],[(19,⟨[],[(20,⟨[21],[]⟩)]⟩)]⟩)]⟩)]⟩),(17,⟨[],[(10,⟨[11],[(12,⟨[13,14,15,16],[(19,⟨[],[(20,⟨[21],[]⟩)]⟩)]⟩)]⟩)]⟩)]⟩)]⟩),(17,⟨[],[(9,⟨[],[(10,⟨[11],[(12,⟨[13,14,15,16],[(18,⟨[],[(19,⟨[],[(20,⟨[21],[]⟩)]⟩)]⟩)]⟩),(18,⟨[],[(12,⟨[13,14,15,16],[(19,⟨[],[(20,⟨[21],[]⟩)]⟩)]⟩)]⟩)]⟩),(18,⟨[],[(10,⟨[11],[(12,⟨[13,14,15,16],[(19,⟨[],[(20,⟨[21],[]⟩)]⟩)]⟩)]⟩)]⟩)]⟩),(18,⟨[],[(9,⟨[],[(10,⟨[11],[(12,⟨[13,14,15,16],[(19,⟨[],[(20,⟨[21],[]⟩)]⟩)]⟩)]⟩)]⟩)]⟩)]⟩),(18,⟨[],[(9,⟨[],[(10,⟨[11],[(12,⟨[13,14,15,16],[(17,⟨[],[(19,⟨[],[(20,⟨[21],[]⟩)]⟩)]⟩)]⟩),(17,⟨[],[(12,⟨[13,14,15,16],[(19,⟨[],[(20,⟨[21],[]⟩)]⟩)]⟩)]⟩)]⟩),(17,⟨[],[(10,⟨[11],[(12,⟨[13,14,15,16],[(19,⟨[],[(20,⟨[21],[]⟩)]⟩)]⟩)]⟩)]⟩)]⟩),(17,⟨[],[(9,⟨[],[(10,⟨[11],[(12,⟨[13,14,15,16],[(19,⟨[],[(20,⟨[21],[]⟩)]⟩)]⟩)]⟩)]⟩)]⟩)]⟩)]⟩ [cel b33 35 f.cells,cel b32 25 [ks.v,tN.v],cel b23 35 m.cells,cel b8 27 k.v.cells.toList] (fun w=>((((Ints w ks L∧Glob w)∧(Strs w s2 V0∧Strs w sW VW∧Strs w sA VW∧Strs w sB VW))∧m.at_ w)∧(Items w tN I4∧f.at_ w))) (h:=?_))
        all_goals repeat' (first|refine ay (hsub:=by exact aE) (hy:=by first|(apply Fu;rfl;rfl;omega)) ?_|((refine bZ (hc:=hof2) (hX:=fun w h=>h.1.2.2 z2 hzm2) fun v X13 h13=>?_;obtain ⟨z',rfl,hdz,hzr',hzat⟩:=h13;have hdg:=iE z' hzr';rw [hdz,hD2] at hdg))|(refine ab (hc:=hdg) (hX:=fun w h=>⟨hzat w h.2,h.1.1.1.1.2⟩) ?_)|((refine bZ (hc:=hsi2) (hX:=fun w h=>⟨⟨⟨⟨h.1.1.1.1.1,h.1.2.1⟩,h.1.2.2⟩,vb w D2⟩,h.1.1.1.1.2⟩) fun v X14 h14=>?_;obtain ⟨v1,v2,vN,g,kl4,e9,e10,hQ4,rfl,hw14⟩:=h14;refine fb (p:=g.acts.n=g.actsL.length) (fun w h=>(hw14 w ⟨h.1.1.2.1,h.2⟩).2.len_) fun hgg=>?_))|refine gdz ?_|refine ay (hsub:=by exact aE) (hy:=by first|(apply aC (q:=(c.acts.n+1)*20);rfl;rfl;omega;omega;assumption;omega)|(apply eG (cs:=z2.cells);rfl;exact fun w h=>Acts.get h.1.2 hz2)|(apply fa (cs:=(undL D2).cells);rfl;rfl)) ?_|refine aA ?_ (h':=?_)|exact aB|refine gs1 fun _=>?_|(refine gq ?_ ?_<;>intro hx_ this)|fail)
        all_goals first
         | exact ⟨UndL.make hK4 hQ3 hff hf1000 hI4l vN g kl4 0 _ e9 e10 hQ4 hgg,aj qZq9 (.cons_cons _ (.cons _ (.cons_cons _ (Zu _)))) fun w h=>⟨⟨⟨h.1.1.1.1.1.2,h.1.1.1.1.2⟩,h.1.1.2.2⟩,(hw14 w ⟨h.1.1.2.1,h.2⟩).2⟩⟩
         | exact ⟨UndL.make hK4 hQ3 hff hf1000 hI4l vN g kl4 0 _ e9 e10 hQ4 hgg,aj qZq9 (.cons _ (.cons_cons _ (.cons_cons _ (Zu _)))) fun w h=>⟨⟨⟨h.1.1.1.1.1.2,h.1.1.1.1.2⟩,h.1.1.2.2⟩,(hw14 w ⟨h.1.1.2.1,h.2⟩).2⟩⟩
         | fail
      obtain ⟨vN,g,kl4,b35,b36,I5,hK5,hl5,hQ4,hgg,hWS⟩:=u
      simp only
      obtain ⟨B3,hB3⟩:∃ x,decide ((f.acts.n:Int)=(m.acts.n:Int)+1)=x:=⟨_,rfl⟩
      obtain ⟨B4,hB4⟩:∃ x,decide ((g.acts.n:Int)=(f.acts.n:Int)+1)=x:=⟨_,rfl⟩
      rw [hB3,hB4]
      by_cases hb34:B3=true∧B4=true
      · as_aux_lemma =>
        obtain ⟨rfl,rfl⟩:=hb34
        obtain ⟨b3,hU⟩:=hUS hpos3 (aL hB3)
        obtain ⟨b4,hW⟩:=hWS (by rw [hU.len];omega) (aL hB4)
        have hi1:idxV m.actsL D1=some c.actsL.length:=by rw [←hD1,←hcn];exact G3.own _ _ hz1
        have hi2:idxV m.actsL D2=some (c.actsL.length+1):=by rw [←hD2,←hcn];exact G3.own _ _ hz2
        have hVf:=hLS.und1 (hv target) hU rfl hi1 (gR hQ3)
        have hVg:=hLS.und2 (hv target) hU rfl hi1 hW rfl hi2 (gR hQ4)
        have G5:=fB hK5 hQ4
        have hg100:=G5.len
        have htf:TxtOk f.actsL:=iY hU.acts htm (by rw [hU.text];exact Z4 _)
        have htg:TxtOk g.actsL:=iY hW.acts htf (by rw [hW.text];exact Z4 _)
        have hvf:=fun b:Nat=>dQ ⟨some ⟨b,0,none⟩,1,1⟩ [f] id target (fun x hx=>by rw [Z5.1 hx];exact G4.ok) (fun x hx=>by rw [Z5.1 hx];omega) (fun x hx=>by rw [Z5.1 hx];exact htf)
        have hvg:=fun b:Nat=>dQ ⟨some ⟨b,0,none⟩,1,1⟩ [g] id target (fun x hx=>by rw [Z5.1 hx];exact G5.ok) (fun x hx=>by rw [Z5.1 hx];omega) (fun x hx=>by rw [Z5.1 hx];exact htg)
        simp only [hVf,hV0,hVW] at hvf
        simp only [hVg,hV0] at hvg
        repeat' (first|(refine ab (hc:=hsmG sA sW VW) (hX:=fun w h=>⟨h.1.1.2.2.2.1,h.1.1.2.2.1⟩) ?_)|(refine ab (hc:=hsmG sB sW VW) (hX:=fun w h=>⟨h.1.1.2.2.2.2,h.1.1.2.2.1⟩) ?_)|(refine bZ (hc:=hvf _) (hX:=fun w h=>⟨chainsOne h.1.1.2 h.2,h.1.1.1.1⟩) fun v X15 h15=>?_;obtain ⟨sE,rfl,hw15⟩:=h15)|(refine ab (hc:=hsmG sE sW VW) (hX:=fun w h=>⟨hw15 w h.2,h.1.1.1.1.2.2.1⟩) ?_)|(refine bZ (hc:=hvg _) (hX:=fun w h=>⟨chainsOne h.1.1.1.2 h.2,h.1.1.1.1.1.1⟩) fun v X16 h16=>?_;obtain ⟨sF,rfl,hw16⟩:=h16)|(refine ab (hc:=hsmG sF s2 V0) (hX:=fun w h=>⟨hw16 w h.2,h.1.1.1.1.1.1.2.1⟩) ?_)|refine gs ?_|refine gs1 fun _=>?_|(refine cA (size:=6) (vs:=[f.v]) (css:=f.cells) (hsz:=by rfl) (hcs:=by rfl) fun _=>?_;refine aZ ?_)|(refine cA (size:=6) (vs:=[g.v]) (css:=g.cells) (hsz:=by rfl) (hcs:=by rfl) fun _=>?_;refine aZ ?_)|(refine gp ?_ ?_<;>intro hx_ this)|fail)
        all_goals first
         | exact ad (ag rfl rfl) rfl
         | fail
      · as_aux_lemma =>
        cases B3<;>cases B4
        all_goals first
         | exact absurd ⟨rfl,rfl⟩ hb34
         | (repeat' (first|(refine ab (hc:=hsmG sA sW VW) (hX:=fun w h=>⟨h.1.1.2.2.2.1,h.1.1.2.2.1⟩) ?_)|(refine ab (hc:=hsmG sB sW VW) (hX:=fun w h=>⟨h.1.1.2.2.2.2,h.1.1.2.2.1⟩) ?_)|refine gs ?_|refine gs1 fun _=>?_|(refine gp ?_ ?_<;>intro hx_ this)|fail))
        all_goals first
         | exact ad (ag rfl rfl) rfl
         | fail
end Go.Proofs.YtaolfiikahlmkaaGreatDoor
