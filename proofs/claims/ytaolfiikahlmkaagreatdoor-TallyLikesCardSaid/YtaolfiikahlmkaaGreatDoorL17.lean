/- Joined. -/
import Derived.Test.YtaolfiikahlmkaaGreatDoorL16
import Derived.Test.YtaolfiikahlmkaaGreatDoorCards
import Derived.Test.YtaolfiikahlmkaaGreatDoorTie
import Derived.WalkKit
import Derived.ProofKit
import Derived.Deep.DeepHandedRow
import Derived.Lib.LaidTab
set_option linter.unusedVariables false
set_option linter.unusedSimpArgs false
set_option maxHeartbeats 16000000
namespace Go.Proofs.YtaolfiikahlmkaaGreatDoor
open Go Go.Proofs Sy Tryz
theorem eu {l m:List Xb} (Ul:Uniq l) (Um:Uniq m) (hl:LenOk l) (hm:LenOk m) {id:ByteArray} {v v':List Xa} (h0:viewC l id=some v) (h1:viewC m id=some v') (h:∀ k,k≠id→viewC m k=viewC l k) (d:ByteArray) :
  tallyV m d=tallyV (nuN id v'::(cano l).filter fun c=>!seqB c.id id) d∧∀ k,whoV m d k=whoV (nuN id v'::(cano l).filter fun c=>!seqB c.id id) d k:=by
 obtain ⟨p1,p2⟩:=vq Ul.ids Um.ids h0 h1 h
 exact ⟨by rw [←tj hm,ti Um.cano p2],fun k=>by rw [←zk hm,zj Um.cano p2]⟩
theorem q6 {l:List Xb} (Ul:Uniq l) (hl:LenOk l) {id:ByteArray} {v:List Xa} (h0:viewC l id=some v) (d x:ByteArray):admO l d x=admO (nuN id v::(cano l).filter fun c=>!seqB c.id id) d x:=by
 obtain ⟨p1,-⟩:=vq Ul.ids Ul.ids h0 h0 fun _ _=>rfl
 rw [admO,admO,←jr,jq Ul.cano p1]
 cases liveV _ d with
 | none=>rfl
 | some p=>simp only [←lK hl,lJ Ul.cano.ids p1]
structure StepK (L:List Int) (I I1:List Xc) (id:ByteArray) (c c1:Xb) (k:Ee) (x b:Xa) (l l1:List Xb) (v:List Xa):Prop where
 right:KnR L I1
 sign:SignD L I c c1 k x b
 all:AllK L I l
 all1:AllK L I1 l1
 view:viewC l id=some v
 view1:viewC l1 id=some (v++[b.can])
 far:∀ a,a≠id→viewC l1 a=viewC l a
theorem Dq {L:List Int} {I I1:List Xc} (hK:KnR L I) (hK1:KnR L I1) {id:ByteArray} {c c1:Xb} {kl kl1:List Xm} {k:Ee} {x b:Xa} {s3 s4:Xk} {l l1:List Xb} (hQ:QK L I id c kl) (h0:0<c.actsL.length) (hau:id∈authI I)
  (hS:SignD L I c c1 k x b) (hI:addK L I (ofActI (b.re s3 s4))=I1) (hQ1:QK L I1 id c1 kl1) (hA:AllK L I l) (hA1:AllK L I1 l1):StepK L I I1 id c c1 k x b l l1 (c.actsL.map Xa.can)∧id∈authI I1∧0<c1.actsL.length:=by
 subst hI
 have hid:=jf hQ
 refine ⟨⟨hK1,hS,hA,hA1,?_,?_,fun a ha=>FV rfl hA hA1 (by show a≠b.author;rw [hS.author,hid];exact ha)⟩,lH rfl hau,by rw [hS.len];omega⟩
 · rw [gQ hA hau hQ,pZ h0]
 · rw [BQ rfl hA1 hau hQ1 (by rw [hS.len];omega),hS.acts]
section
variable {L:List Int} {I0 I1 I2 I3 I4:List Xc} {id:ByteArray} {c c1 c2 c3 c4:Xb} {k:Ee} {x1 x2 x3 x4 b1 b2 b3 b4:Xa} {l0 l1 l2 l3 l4:List Xb} {d:ByteArray}
theorem fN {v:List Xa} {b:Xa} (hu:UndOk v) (hk:b.kind=5):Es id v (v++[b]) d:=⟨qt (by rw [hk];rfl) (by rw [hk];decide) (by rw [hk];decide),Cv (by rw [hk];decide) (by rw [hk];decide) (by rw [hk];decide) (by rw [hk];decide) (by rw [hk];decide) (by rw [hk];decide),by
 rw [fF,fF,JQ hu (by rw [hk];decide) (by rw [hk];decide)]⟩
theorem Es.trans {v v' v'':List Xa} (h:Es id v v' d) (g:Es id v' v'' d):Es id v v'' d:=⟨g.posts.trans h.posts,g.tie.trans h.tie,g.boost.trans h.boost⟩
theorem js {v:List Xa} {u:Xa} (hu:UndOk v) (hk:u.kind=6) {j:Nat} (hj:idxV (v++[u]) u.object=some j) (hjl:j<v.length) (h5:(v.getD j Xa.zero).kind=5):Es id v (v++[u]) d:=⟨qt (by rw [hk];rfl) (by rw [hk];decide) (by rw [hk];decide),by
 rw [zp hk hj hjl rfl,zm (by rw [h5];decide) (by rw [h5];decide) (by rw [h5];decide) (by rw [h5];decide)],by
 rw [fF,fF,HN hu hk (by decide) hj (by rw [h5];decide)]⟩
theorem Be (K0:KnR L I0) (S1:StepK L I0 I1 id c c1 k x1 b1 l0 l1 (c.actsL.map Xa.can)) (S2:StepK L I1 I2 id c1 c2 k x2 b2 l1 l2 (c1.actsL.map Xa.can)) (hu:UndOk (c.actsL.map Xa.can)) (hl0:LenOk l0) (hl1:LenOk l1) (hl2:LenOk l2)
  (k1:x1.kind=5) (o1:x1.object=d) (k2:x2.kind=5) (o2:x2.object=d) :
  let after:Ek:={ tallyV l0 d with likes:=(tallyV l0 d).likes+(bif admO l0 d id&&!hasS (whoV l0 d 5) id then 1 else 0) }
  tallyV l1 d=after∧tallyV l2 d=after∧hasS (whoV l2 d 5) id=admO l0 d id:=by
 have U0:=eT K0 S1.all
 have U1:=eT S1.right S1.all1
 have U2:=eT S2.right S2.all1
 obtain ⟨e0,w0⟩:=eu U0 U0 hl0 hl0 S1.view S1.view (fun _ _=>rfl) d
 obtain ⟨e1,w1⟩:=eu U0 U1 hl0 hl1 S1.view S1.view1 S1.far d
 obtain ⟨e2,w2⟩:=eu U0 U2 hl0 hl2 S1.view S2.view1 (fun a ha=>(S2.far a ha).trans (S1.far a ha)) d
 have ea:=q6 U0 hl0 S1.view d id
 have hv1:c1.actsL.map Xa.can=c.actsL.map Xa.can++[b1.can]:=S1.sign.acts
 rw [hv1] at e2 w2
 have kb1:b1.can.kind=5:=S1.sign.kind.trans k1
 have kb2:b2.can.kind=5:=S2.sign.kind.trans k2
 have ob1:b1.can.object=d:=S1.sign.object.trans o1
 have ob2:b2.can.object=d:=S2.sign.object.trans o2
 have L1:Es id (c.actsL.map Xa.can) (c.actsL.map Xa.can++[b1.can]) d:=fN hu kb1
 have hu1:UndOk (c.actsL.map Xa.can++[b1.can]):=dq hu fun h=>absurd (h.symm.trans kb1) (by decide)
 have L2:=L1.trans (fN (id:=id) (d:=d) (b:=b2.can) hu1 kb2)
 have h1:hasV (nuN id (c.actsL.map Xa.can++[b1.can])) 5 d=true:=by rw [fF,mK hu kb1 ob1 (by decide),Zz];exact Ze (Nat.succ_pos _)
 have h2:hasV (nuN id (c.actsL.map Xa.can++[b1.can]++[b2.can])) 5 d=true:=by rw [fF,mK hu1 kb2 ob2 (by decide),Zz];exact Ze (Nat.succ_pos _)
 have r1:=lm (R:=(cano l0).filter fun c=>!seqB c.id id) L1 h1
 have r2:=lm (R:=(cano l0).filter fun c=>!seqB c.id id) L2 h2
 rw [←e0,←e1,←w0,←w1,←ea] at r1
 rw [←e0,←e2,←w0,←w2,←ea] at r2
 exact ⟨r1.1,r2.1,r2.2⟩
theorem uM (K0:KnR L I0) (S1:StepK L I0 I1 id c c1 k x1 b1 l0 l1 (c.actsL.map Xa.can)) (S2:StepK L I1 I2 id c1 c2 k x2 b2 l1 l2 (c1.actsL.map Xa.can)) (S3:StepK L I2 I3 id c2 c3 k x3 b3 l2 l3 (c2.actsL.map Xa.can))
  (hu:UndOk (c.actsL.map Xa.can)) (hl0:LenOk l0) (hl3:LenOk l3) (k1:x1.kind=5) (o1:x1.object=d) (k2:x2.kind=5) (o2:x2.object=d)
  (k3:x3.kind=6) (i3:idxV c2.actsL x3.object=some c.actsL.length) {o4:ByteArray} (i4:idxV c2.actsL o4=some (c.actsL.length+1)) :
  tallyV l3 d={ tallyV l0 d with likes:=(tallyV l0 d).likes+(bif admO l0 d id&&!hasS (whoV l0 d 5) id then 1 else 0) }:=by
 have U0:=eT K0 S1.all
 have U3:=eT S3.right S3.all1
 have f2:∀ a,a≠id→viewC l2 a=viewC l0 a:=fun a ha=>(S2.far a ha).trans (S1.far a ha)
 have f3:∀ a,a≠id→viewC l3 a=viewC l0 a:=fun a ha=>(S3.far a ha).trans (f2 a ha)
 obtain ⟨e0,w0⟩:=eu U0 U0 hl0 hl0 S1.view S1.view (fun _ _=>rfl) d
 obtain ⟨e3,w3⟩:=eu U0 U3 hl0 hl3 S1.view S3.view1 f3 d
 have ea:=q6 U0 hl0 S1.view d id
 have hv1:c1.actsL.map Xa.can=c.actsL.map Xa.can++[b1.can]:=S1.sign.acts
 have hv2:c2.actsL.map Xa.can=c.actsL.map Xa.can++[b1.can]++[b2.can]:=by rw [S2.sign.acts,hv1]
 rw [hv2] at e3 w3
 have kb1:b1.can.kind=5:=S1.sign.kind.trans k1
 have kb2:b2.can.kind=5:=S2.sign.kind.trans k2
 have kb3:b3.can.kind=6:=S3.sign.kind.trans k3
 have ob1:b1.can.object=d:=S1.sign.object.trans o1
 have ob2:b2.can.object=d:=S2.sign.object.trans o2
 have hidx:∀ {j:Nat} {q:ByteArray} (r:List Xa),idxV c2.actsL q=some j→idxV (c.actsL.map Xa.can++[b1.can]++[b2.can]++r) q=some j:=fun {j q} r h=>by
  rw [←hv2,iB (by rw [pd,h];rfl),pd,h]
 have hn:(c.actsL.map Xa.can).length=c.actsL.length:=ZE ..
 have j3:idxV (c.actsL.map Xa.can++[b1.can]++[b2.can]++[b3.can]) b3.can.object=some (c.actsL.map Xa.can).length:=by
  rw [show b3.can.object=x3.object from S3.sign.object,hidx _ i3,hn]
 have j4:idxV (c.actsL.map Xa.can++[b1.can]++[b2.can]++[b3.can]++[{ Xa.zero with kind:=6,object:=o4 }]) o4=some ((c.actsL.map Xa.can).length+1):=by
  rw [ZB (_++[b2.can]),hidx _ i4,hn]
 have hu1:UndOk (c.actsL.map Xa.can++[b1.can]):=dq hu fun h=>absurd (h.symm.trans kb1) (by decide)
 have hu2:UndOk (c.actsL.map Xa.can++[b1.can]++[b2.can]):=dq hu1 fun h=>absurd (h.symm.trans kb2) (by decide)
 obtain ⟨s3,-⟩:=oF (id:=id) hu kb1 ob1 kb2 ob2 kb3 j3 (w:={ Xa.zero with kind:=6,object:=o4 }) rfl j4
 have g1:(c.actsL.map Xa.can++[b1.can]++[b2.can]).getD (c.actsL.map Xa.can).length Xa.zero=b1.can:=by rw [ZB];exact oO _ _ _
 have L2:Es id (c.actsL.map Xa.can) (c.actsL.map Xa.can++[b1.can]++[b2.can]) d:=(fN hu kb1).trans (fN hu1 kb2)
 have L3:=L2.trans (js (id:=id) (d:=d) hu2 kb3 j3 (by simp) (by rw [g1];exact kb1))
 have r3:=lm (R:=(cano l0).filter fun c=>!seqB c.id id) L3 (by rw [fF,s3,Zz];exact Ze (Nat.succ_pos _))
 rw [←e0,←e3,←w0,←w3,←ea] at r3
 exact r3.1
theorem wH (K0:KnR L I0) (S1:StepK L I0 I1 id c c1 k x1 b1 l0 l1 (c.actsL.map Xa.can)) (S2:StepK L I1 I2 id c1 c2 k x2 b2 l1 l2 (c1.actsL.map Xa.can)) (S3:StepK L I2 I3 id c2 c3 k x3 b3 l2 l3 (c2.actsL.map Xa.can)) (S4:StepK L I3 I4 id c3 c4 k x4 b4 l3 l4 (c3.actsL.map Xa.can))
  (hu:UndOk (c.actsL.map Xa.can)) (hl0:LenOk l0) (hl4:LenOk l4) (k1:x1.kind=5) (o1:x1.object=d) (k2:x2.kind=5) (o2:x2.object=d)
  (k3:x3.kind=6) (i3:idxV c2.actsL x3.object=some c.actsL.length) (k4:x4.kind=6) (i4:idxV c2.actsL x4.object=some (c.actsL.length+1)) :
  tallyV l4 d=tallyV l0 d:=by
 have U0:=eT K0 S1.all
 have U4:=eT S4.right S4.all1
 have f2:∀ a,a≠id→viewC l2 a=viewC l0 a:=fun a ha=>(S2.far a ha).trans (S1.far a ha)
 have f3:∀ a,a≠id→viewC l3 a=viewC l0 a:=fun a ha=>(S3.far a ha).trans (f2 a ha)
 obtain ⟨e0,w0⟩:=eu U0 U0 hl0 hl0 S1.view S1.view (fun _ _=>rfl) d
 obtain ⟨e4,w4⟩:=eu U0 U4 hl0 hl4 S1.view S4.view1 (fun a ha=>(S4.far a ha).trans (f3 a ha)) d
 have hv1:c1.actsL.map Xa.can=c.actsL.map Xa.can++[b1.can]:=S1.sign.acts
 have hv2:c2.actsL.map Xa.can=c.actsL.map Xa.can++[b1.can]++[b2.can]:=by rw [S2.sign.acts,hv1]
 have hv3:c3.actsL.map Xa.can=c.actsL.map Xa.can++[b1.can]++[b2.can]++[b3.can]:=by rw [S3.sign.acts,hv2]
 rw [hv3] at e4 w4
 have kb1:b1.can.kind=5:=S1.sign.kind.trans k1
 have kb2:b2.can.kind=5:=S2.sign.kind.trans k2
 have kb3:b3.can.kind=6:=S3.sign.kind.trans k3
 have kb4:b4.can.kind=6:=S4.sign.kind.trans k4
 have ob1:b1.can.object=d:=S1.sign.object.trans o1
 have ob2:b2.can.object=d:=S2.sign.object.trans o2
 have hidx:∀ {j:Nat} {q:ByteArray} (r:List Xa),idxV c2.actsL q=some j→idxV (c.actsL.map Xa.can++[b1.can]++[b2.can]++r) q=some j:=fun {j q} r h=>by
  rw [←hv2,iB (by rw [pd,h];rfl),pd,h]
 have hn:(c.actsL.map Xa.can).length=c.actsL.length:=ZE ..
 have j3:idxV (c.actsL.map Xa.can++[b1.can]++[b2.can]++[b3.can]) b3.can.object=some (c.actsL.map Xa.can).length:=by
  rw [show b3.can.object=x3.object from S3.sign.object,hidx _ i3,hn]
 have j4:idxV (c.actsL.map Xa.can++[b1.can]++[b2.can]++[b3.can]++[b4.can]) b4.can.object=some ((c.actsL.map Xa.can).length+1):=by
  rw [show b4.can.object=x4.object from S4.sign.object,ZB (_++[b2.can]),hidx _ i4,hn]
 have hu1:UndOk (c.actsL.map Xa.can++[b1.can]):=dq hu fun h=>absurd (h.symm.trans kb1) (by decide)
 have hu2:UndOk (c.actsL.map Xa.can++[b1.can]++[b2.can]):=dq hu1 fun h=>absurd (h.symm.trans kb2) (by decide)
 have hu3:UndOk (c.actsL.map Xa.can++[b1.can]++[b2.can]++[b3.can]):=dq hu2 fun _=>by rw [j3];rfl
 obtain ⟨s3,s4⟩:=oF (id:=id) hu kb1 ob1 kb2 ob2 kb3 j3 kb4 j4
 have g1:(c.actsL.map Xa.can++[b1.can]++[b2.can]).getD (c.actsL.map Xa.can).length Xa.zero=b1.can:=by rw [ZB];exact oO _ _ _
 have g2:(c.actsL.map Xa.can++[b1.can]++[b2.can]++[b3.can]).getD ((c.actsL.map Xa.can).length+1) Xa.zero=b2.can:=by
  have:=oO (c.actsL.map Xa.can++[b1.can]) b2.can [b3.can]
  rw [gN] at this
  rwa [ZB (_++[b1.can])]
 have L2:Es id (c.actsL.map Xa.can) (c.actsL.map Xa.can++[b1.can]++[b2.can]) d:=(fN hu kb1).trans (fN hu1 kb2)
 have L3:=L2.trans (js (id:=id) (d:=d) hu2 kb3 j3 (by simp) (by rw [g1];exact kb1))
 have L4:=L3.trans (js (id:=id) (d:=d) hu3 kb4 j4 (by simp) (by rw [g2];exact kb2))
 have r4:=Bf (R:=(cano l0).filter fun c=>!seqB c.id id) L4 (by rw [fF,fF,s4])
 rw [←e0,←e4] at r4
 exact r4
end
def SizA (I:List Xc):Prop:=∀ x∈authI I,x.size≤maxLen
theorem Dz {I:List Xc} (hs:∀ i∈I,i.Str):SizA I:=fun x hx=>by
 rw [authI,QH] at hx
 obtain ⟨i,hi,rfl⟩:=hx
 exact (hs i (QL.1 hi).1).act.author
theorem DA {L:List Int} {I:List Xc} {it:Xc} (hk:it.kind=0) (h:SizA I) (ha:it.act.author∈authI I):SizA (addK L I it):=fun x hx=>by
 rw [addK] at hx
 cases hc:canAdd L I it with
 | false=>rw [hc] at hx;exact h x hx
 | true =>
  rw [hc] at hx
  rcases (pu hk).1 hx with rfl|hx
  · exact h _ ha
  · exact h x hx
theorem qY {L:List Int} {I:List Xc} {l:List Xb} (hz:SizA I) (h:AllK L I l):∀ c∈l,c.id.size≤maxLen:=by
 obtain ⟨M,hM,rfl⟩:=h
 intro c hc
 obtain ⟨p,hp,rfl⟩:=QH.1 hc
 obtain ⟨a,ha,q⟩:=hM.right p (QL.1 hp).1
 rw [jf q]
 exact hz a (mem_ids.1 ha)
theorem pw {L:List Int} {I:List Xc} {l:List Xb} (h:AllK L I l):l.length≤I.length:=by
 obtain ⟨M,hM,rfl⟩:=h
 have h1:=hM.len
 have h2:=vo (sortB (authI I))
 have h3:=Z8 neK M
 have h4:=iY I
 rw [kR] at h2
 rw [ZE]
 omega
theorem uV (s:Xk) (l:List ByteArray) (x:ByteArray):Pu prog 37 #[s.v,.string x] (fun w=>Strs w s l) (.bool (has21V l x)):=by
 refine ax func37 ntmps37 fun av bor w0=>?_
 refine aR (p:=s.n=l.length∧s.n≤maxLen∧(0<l.length→s.p.isSome=true)) (fun w h=>⟨h.len_,ZW (Xf.cap h) (Xf.max h),h.some_⟩) fun ⟨hl,hm,hp⟩=>?_
 simp only [maxLen] at hm
 repeat' (first|refine gs ?_|fail)
 refine aq (ι:=Ea l.length (fun k=>seqB (l.getD k .empty) x)) (fun i=>⟨[(0,s.v),(1,.string x),(5,.int .i64 i.k)],[],fun w=>Strs w s l⟩) (fun i=>l.length-i.k) (Ea.zero _ _) (aj am (ak _) fun _ h=>h) fun i=>?_
 have hik:=i.hk
 repeat' (first|refine gs ?_|(refine gp ?_ ?_<;>intro hx_ this)|fail)
 · have hlt:i.k<l.length:=by omega
   have hp':=hp aa
   repeat' (first|refine gs ?_|(refine aF (q:=i.k) ?_)|(refine ew (hF:=fun w h=>Strs.get h hlt) ?_)|(refine gp ?_ ?_<;>intro hx_ this)|fail)
   · apply ab;apply ag;rfl;rfl
     rw [uW hlt (by assumption)]
   · exact ⟨i.next hlt (by assumption),(by show l.length-(i.k+1)<l.length-i.k;omega),aj am (ak _) fun _ h=>h⟩
 · apply ab;apply ag;rfl;rfl
   rw [wM fun k hk=>i.ok k (by omega)]
theorem oM (l:List ByteArray) (x:ByteArray):has21V l x=hasS l x:=by
 rw [has21V,hasS]
 congr 1
 funext y
 exact kT y x
def likX (d:ByteArray):Xa:={ Xa.zero with kind:=5,object:=d }
def undX (d:ByteArray):Xa:={ Xa.zero with kind:=6,object:=d }
theorem yI (w:World) (d:ByteArray):(likX d).at_ w:=⟨bD w 1,bD w 5⟩
theorem xA (w:World) (d:ByteArray):(undX d).at_ w:=⟨bD w 1,bD w 5⟩
theorem uN (d:ByteArray):(likX d).Rng:=⟨by simp only [likX,Xa.zero];omega,fun w hw=>(Qi hw).elim,rfl,rfl⟩
theorem sX (d:ByteArray):(undX d).Rng:=⟨by simp only [undX,Xa.zero];omega,fun w hw=>(Qi hw).elim,rfl,rfl⟩
theorem yH (d:ByteArray):(likX d).Sm:=⟨by show 0*16≤_;decide,by show 0*64≤_;decide,by show (0:Nat)≤_;decide⟩
theorem xz (d:ByteArray):(undX d).Sm:=⟨by show 0*16≤_;decide,by show 0*64≤_;decide,by show (0:Nat)≤_;decide⟩
structure SgK (L:List Int) (I I1:List Xc) (id:ByteArray) (c n:Xb) (k:Ee) (x:Xa):Prop where
 auth:id∈authI I1
 siz:SizA I1
 len:n.actsL.length=c.actsL.length+1
 step:∃ b,∀ l l1,AllK L I l→AllK L I1 l1→StepK L I I1 id c n k x b l l1 (c.actsL.map Xa.can)
def SgR (L:List Int) (I:List Xc) (ks ki:Xk) (id:ByteArray) (c:Xb) (k:Ee) (x:Xa) (u:Value) (X:World→Prop):Prop :=
 ∃ (s:Xk) (n:Xb) (I1:List Xc) (kl1:List Xm),KnR L I1∧I1.length≤I.length+1∧QK L I1 id n kl1∧u=.tuple #[.agg #[ks.v,s.v],n.v,.bool (decide ((n.acts.n:Int)=(c.acts.n:Int)+1))] ∧
  (∀ w,(Items w ki I∧X w)→Items w s I1∧n.at_ w)∧(0<c.actsL.length→id∈authI I→SizA I→n.acts.n=n.actsL.length→(n.acts.n:Int)=(c.acts.n:Int)+1→SgK L I I1 id c n k { x with time:=1 })
theorem gW (ks ki:Xk) {L:List Int} {I:List Xc} (hK:KnR L I) (hI:I.length<100) {id:ByteArray} {c:Xb} {kl:List Xm} (hQ:QK L I id c kl) (hcn:c.acts.n=c.actsL.length) (k:Ee) (x:Xa) (hx:x.Rng) (hs:x.Sm) :
  Mk prog 41 #[.agg #[ks.v,ki.v],c.v,k.v,x.v] (fun w=>(((Ints w ks L∧Items w ki I)∧c.at_ w)∧x.at_ w)∧Xe w) (SgR L I ks ki id c k x):=by
 have hG:=(fG hK hQ).len
 refine j7 (tA ks ki hK hI c aa k x hx hs) fun u X h=>?_
 obtain ⟨s3,s4,s,n,kl',e3,e4,hQ',rfl,hw⟩:=h
 have hK1:KnR L (addK L I (ofActI ((sgA k c x).re s3 s4))):=uP hK (mH (JH (k:=k) (c:=c) hx aa) e3 e4) (vW (Kp (k:=k) (c:=c) hs) e3 e4) rfl hI
 refine ⟨s,n,addK L I (ofActI ((sgA k c x).re s3 s4)),kl',hK1,F1 L I _,by rw [←jf hQ];exact hQ',rfl,hw,fun h0 hau hz hnn hone=>?_⟩
 obtain ⟨hS,hQ1⟩:=DC hK hQ h0 hcn hnn e3 e4 hQ' hone
 exact ⟨lH rfl hau,DA rfl hz (by show (sgA k c x).author∈authI I;rw [hS.author,jf hQ];exact hau),hS.len,_,fun l l1 hA hA1=>(Dq hK hK1 hQ h0 hau hS rfl hQ1 hA hA1).1⟩
structure SgM (L:List Int) (I:List Xc) (id:ByteArray) (c:Xb) (k:Ee) (x:Xa) where
 s:Xk
 n:Xb
 I1:List Xc
 kl1:List Xm
 b1:Nat
 b2:Nat
 hK:KnR L I1
 hl:I1.length≤I.length+1
 hQ:QK L I1 id n kl1
 hn:n.acts.n=n.actsL.length
 sg:0<c.actsL.length→id∈authI I→SizA I→(n.acts.n:Int)=(c.acts.n:Int)+1→SgK L I I1 id c n k { x with time:=1 }
end Go.Proofs.YtaolfiikahlmkaaGreatDoor
namespace Go.Proofs.YtaolfiikahlmkaaGreatDoor
open Go Go.Proofs Sy
section
variable {P:Program} {N:Nat} {av bor:List Nat} {w0:World}
theorem FD {K:Exit→St→Prop} {ι:Type} (M:ι→St) {x y z:Code} {st:St} (h1:Cw P N av bor w0 x st (thn (fun s=>Cw P N av bor w0 y s (thn (fun s=>∃ i,∀ a w,Ok N av bor w0 s a w→Ok N av bor w0 (M i) a w) K)) (thn (fun s=>∃ i,∀ a w,Ok N av bor w0 s a w→Ok N av bor w0 (M i) a w) K))) (h2:∀ i,Cw P N av bor w0 z (M i) K) :
  Cw P N av bor w0 x st (thn (fun s=>Cw P N av bor w0 y s (thn (fun s=>Cw P N av bor w0 z s K) K)) (thn (fun s=>Cw P N av bor w0 z s K) K)):=sr (fun e s h=>by
 cases e with
 | normal=>exact fH M h h2
 | _=>exact h) h1
end
theorem Ce {P:Program} {N:Nat} {av bor:List Nat} {w0:World} {st:St} {ty:TypeId} {x y:Operand} {t t2:TypeId} {p:Nat} (hx:ev st.env x=some (.int .i64 (p:Nat))) (hy:ev st.env y=some (.int .i64 1)) (hp:p<1000000):Sy.Yields P N av bor w0 st (.binOp .add t x y t2) ty (.int .i64 ((p+1:Nat):Int)) :=
 lO hx hy (by rw [show ((p:Int)+1)=((p+1:Nat):Int) from by omega];exact IntWalk.i64_in _ aa)
theorem HB {N:Nat} {av bor:List Nat} {w0:World} {E:Env} {r1 r2:Xl} {loc:List Xl} {X:World→Prop} {a:Act} {w:World} (ok:Ok N av bor w0 ⟨E,r1::r2::loc,X⟩ a w):Ok N av bor w0 ⟨E,r2::r1::loc,X⟩ a w:=ok.via fun M G=>G.perm ((List.Perm.swap _ _ _).append_right M)
theorem yv {N:Nat} {av bor:List Nat} {w0:World} {E E':Env} {r1 r2:Xl} {loc l':List Xl} {X X':World→Prop} (he:sub E E') (hl:l'.Sublist (r2::r1::loc)) (hx:∀ w,X w→X' w):∀ a w,Ok N av bor w0 ⟨E,r1::r2::loc,X⟩ a w→Ok N av bor w0 ⟨E',l',X'⟩ a w:=fun a w hok=>aj he hl hx a w (HB hok)
end Go.Proofs.YtaolfiikahlmkaaGreatDoor
namespace Go.Proofs.YtaolfiikahlmkaaGreatDoor
open Go Go.Proofs Sy
section
variable {L:List Int} {I0 I1 I2:List Xc} {id:ByteArray} {c c1 c2:Xb} {k:Ee} {x1 x2 b1 b2:Xa} {l0 l1 l2:List Xb} {d t au ot:ByteArray} {p:Xd}
end
end Go.Proofs.YtaolfiikahlmkaaGreatDoor
namespace Go.Proofs.YtaolfiikahlmkaaGreatDoor
open Go Go.Proofs Sy
def restL (l:List Xb) (at_:Int):Nat→List Xb
 | 0=>[]
 | k+1=>restL l at_ k++(bif decide (((l.length-1-k:Nat):Int)=at_) then [] else [l.getD (l.length-1-k) Xb.zero])
end Go.Proofs.YtaolfiikahlmkaaGreatDoor
namespace Go.Proofs.YtaolfiikahlmkaaGreatDoor
open Go Go.Proofs Sy
section
variable {N:Nat} {av bor:List Nat} {w0:World} {x y:Operand} {t t2:TypeId} {ty:TypeId} {st:St}
end
end Go.Proofs.YtaolfiikahlmkaaGreatDoor
namespace Go.Proofs.YtaolfiikahlmkaaGreatDoor
open Go Go.Proofs Sy
theorem Du {a:Xa} (hr:a.Rng) (h:rightB a=true) (ht:a.target.size≤maxLen):a.Sm:=by
 simp only [rightB,Zq] at h
 have hB:=mo hr h.2
 have h1:=hB.to.len
 have h2:=hB.wraps.len
 have h3:=hr.to_len
 have h4:=hr.wraps_len
 exact ⟨by omega,by omega,ht⟩
theorem BZ {a:Xa} (h:actZ a=true):a.to.n=0∧a.wraps.n=0:=by
 simp only [actZ,Zq,Zv] at h
 omega
theorem GZ {i:Xc} (hs:i.Str) (h:rightIt i=true):i.act.Sm:=by
 rw [rightIt,Zq] at h
 obtain ⟨h1,h2⟩:=h
 have ht:=hs.act.target
 by_cases h0:i.kind=0
 · rw [rightK2,Ze h0,Zg] at h1
   exact Du hs.rng h1 ht
 · have hz:actZ i.act=true:=by
    rw [rightK2,Zd h0,Zf] at h1
    rw [restI,Zd h0,Zf] at h2
    by_cases k1:i.kind=1
    · rw [Ze k1,Zg,sameIZ,Zq,Zq] at h2
      exact h2.2.1
    · rw [Zd k1,Zf] at h1 h2
      by_cases k2:i.kind=2
      · rw [Ze k2,Zg,sameIZ,Zq,Zq] at h2
        exact h2.2.1
      · rw [Zd k2,Zf] at h1 h2
        by_cases k3:i.kind=3
        · rw [Ze k3,Zg,sameIZ,Zq,Zq] at h2
          exact h2.2.1
        · rw [Zd k3,Zf] at h1
          cases h1
   obtain ⟨e1,e2⟩:=BZ hz
   exact ⟨by omega,by omega,ht⟩
theorem Bg {L:List Int} {I:List Xc} (h:rightKn L I=true) (hl:I.length≤100) (hs:∀ i∈I,i.Str) (hd:∀ i∈I,i.dec.to.n=i.dec.toL.length):KnR L I :=
 JR h hl (fun i hi=>(hs i hi).rng) (fun i hi=>GZ (hs i hi) (by
  have h1:=ip h i hi
  rw [signedIt,Zq] at h1
  exact h1.1)) hd
end Go.Proofs.YtaolfiikahlmkaaGreatDoor
namespace Go.Proofs.YtaolfiikahlmkaaGreatDoor
open Go Go.Proofs Sy Tryz
section
variable {N:Nat} {av bor:List Nat} {w0:World} {x y:Operand} {t2:TypeId} {ty:TypeId} {st:St}
theorem IZ (a:Ek) (hx:ev st.env x=some a.v) (hy:ev st.env y=some a.v):Sy.Yields prog N av bor w0 st (.binOp .neq 64 x y t2) ty (.bool false):=Sy.Yields.mk fun A w ok d pos af g=>by
 have h1:=run_eqGuard_agg (P:=prog) w .neq 64 x y a.cells.toArray a.cells.toArray ai
 have h2:=run_neq_struct (P:=prog) w 64 a.cells.toArray a.cells.toArray
 have h3:=tE w 9998 a
 simp only [Ek.v] at hx hy h3
 simp [execOp,ok.eval hx,ok.eval hy,h1,h2,h3]
end
structure RevJ (l:List Xb) (at_:Int) where
 k:Nat
 hk:k≤l.length
 A:Option Addr
 c:Nat
 xs:List Value
 hxs:xs=((l.reverse.take k).map Xb.cells).flatten
 m:Nat
 hm:m=(restL l at_ k).length
 A2:Option Addr
 c2:Nat
 ys:List Value
 hys:ys=((restL l at_ k).map Xb.cells).flatten
structure OwnI (l:List Xa) (B:Bool) where
 k:Nat
 hk:k≤l.length
 g:Bool
 hg:g=false→B=false∧∀ j a,j<k→l[j]?=some a→a.kind≠2
theorem gB (s:Xk) {L:List Int} {I:List Xc} {l:List Xb} (hK:KnR L I) (hA:AllK L I l) (hz:SizA I) (hI:I.length≤100) (d:ByteArray):Pu prog 22 #[s.v,.string d] (fun w=>Chains w s l∧Xe w) (tallyV l d).v :=
 jF s l d (fun c hc=>(kF hK hA c hc).1) (fun c hc=>ZW (kF hK hA c hc).2 (by decide)) (qY hz hA) (ZW (pw hA) aa)
theorem xx (s:Xk) {L:List Int} {I:List Xc} {l:List Xb} (hK:KnR L I) (hA:AllK L I l) (hz:SizA I) (hI:I.length≤100) (d:ByteArray) (kind:Int) :
  Mk prog 23 #[s.v,.string d,.int .i64 kind] (fun w=>Chains w s l∧Xe w) (StrsAt (whoV l d kind)) :=
 j7 (rf s l d kind (fun c hc=>(kF hK hA c hc).1) (fun c hc=>ZW (kF hK hA c hc).2 (by decide)) (qY hz hA) (ZW (pw hA) aa)) fun u X ⟨so,h1,_,h2⟩=>⟨so,h1,h2⟩
end Go.Proofs.YtaolfiikahlmkaaGreatDoor
namespace Go.Proofs.YtaolfiikahlmkaaGreatDoor
open Go Go.Proofs Sy Tryz
theorem Ae (l:List Xb) (d:ByteArray):(tallyV l d).likes≤l.length∧(tallyV l d).boosts≤l.length:=by
 rw [tallyV]
 cases liveV l d with
 | none=>exact ⟨Z2 _,Z2 _⟩
 | some p=>exact ⟨gl _ _ _,gl _ _ _⟩
theorem BS {l:List Xb} {d x:ByteArray} (h:(findPV l d).isSome=false):admO l d x=false:=by rw [admO,lj (by rw [h];rfl)]
theorem BU {l:List Xb} {d x:ByteArray} {p:Xd} (hp:p.can=(findPV l d).getD Xd.zero) (h:(findPV l d).isSome=true) (hg:p.gone=true):admO l d x=false:=by rw [admO,ll hp (by rw [h];rfl) hg]
theorem BT {l:List Xb} {d x:ByteArray} {p:Xd} (hp:p.can=(findPV l d).getD Xd.zero) (h:(findPV l d).isSome=true) (hg:p.gone=false):admO l d x=bif seqB x p.author then true else !blockedV l x p.author:=by
 rw [admO,li hp (by rw [h];rfl) hg]
 rfl
def Ek.more (t:Ek) (b:Bool):Ek:={ t with likes:=t.likes+(bif b then 1 else 0) }
set_option maxRecDepth 20000 in
theorem pC (ks ki:Xk) (L:List Int) (I:List Xc) (hs:∀ i∈I,i.Str) (hd:∀ i∈I,i.dec.to.n=i.dec.toL.length) (id:ByteArray) (k:Ee) (on:ByteArray) :
  Pu prog 7 #[.agg #[ks.v,ki.v],.string id,k.v,.string on] (fun w=>(Ints w ks L∧Items w ki I)∧Xe w) (.bool true):=by
 have hsm:=vV
 have hrt:=rM ks ki L I hs hd
 refine ax func7 ntmps7 fun av bor w0=>?_
 refine aR (p:=ki.n=I.length) (fun w h=>h.1.2.len_) fun hkin=>?_
 by_cases hbig:30<(ki.n:Int)
 · cases hR:rightKn L I
   all_goals
    rw [hR] at hrt
    repeat' (first|(refine ae (hc:=hsm) ?_)|(refine ae (hc:=hrt) ?_)|refine gs ?_|refine gs1 fun _=>?_|(refine gp ?_ ?_<;>intro hx_ this)|fail)
    all_goals first
     | exact ab (ag rfl rfl) rfl
     | (exfalso;omega)
 cases hR:rightKn L I with
 | false =>
  rw [hR] at hrt
  repeat' (first|refine eN ?_|(refine ae (hc:=hsm) ?_)|(refine ae (hc:=hrt) ?_)|refine gs ?_|refine gs1 fun _=>?_|fail)
  all_goals first
   | exact ab (ag rfl rfl) rfl
 | true =>
  rw [hR] at hrt
  have hK:=Bg hR aa hs hd
  repeat' (first|refine eN ?_|(refine ae (hc:=hsm) ?_)|(refine ae (hc:=hrt) ?_)|(refine bA (hc:=iZ ks ki hK) fun v X1 h1=>?_;obtain ⟨s1,l1,hA1,rfl,hw1⟩:=h1)|refine gs ?_|refine gs1 fun _=>?_|fail)
  rename_i b4 b6
  have hfi:=yP s1 l1 id
  have hfe:=Fo s1 l1
  have hok1:=kF hK hA1
  have hfP:=oV s1 l1 on (fun c hc=>(hok1 c hc).1) (fun c hc=>ZW (hok1 c hc).2 (by decide))
  cases hfc:findC l1 id with
  | none =>
   rw [hfc] at hfi
   replace hfi:Pu prog 12 #[s1.v,.string id] (fun w=>Chains w s1 l1) (.tuple #[Xb.zero.v,.bool false]):=hfi
   cases hfB:fewV l1
   all_goals
    rw [hfB] at hfe
    repeat' (first|(refine ae (hc:=hfi) (hX:=fun w h=>hw1 w h.2) ?_)|(refine bA (hc:=hfP) (hX:=fun w h=>⟨hw1 w h.2,h.1.2⟩) fun v X2 h2=>?_;obtain ⟨p,rfl,hfp⟩:=h2)|(refine ae (hc:=hfe) (hX:=fun w h=>hw1 w h.1.2) ?_)|refine gs ?_|refine gs1 fun _=>?_|fail)
    all_goals first
     | exact ab (ag rfl rfl) rfl
  | some c =>
   rw [hfc] at hfi
   replace hfi:Pu prog 12 #[s1.v,.string id] (fun w=>Chains w s1 l1) (.tuple #[c.v,.bool true]):=hfi
   cases hfB:fewV l1 with
   | false =>
    rw [hfB] at hfe
    repeat' (first|(refine ae (hc:=hfi) (hX:=fun w h=>hw1 w h.2) ?_)|(refine bA (hc:=hfP) (hX:=fun w h=>⟨hw1 w h.2,h.1.2⟩) fun v X2 h2=>?_;obtain ⟨p,rfl,hfp⟩:=h2)|(refine ae (hc:=hfe) (hX:=fun w h=>hw1 w h.1.2) ?_)|refine gs ?_|refine gs1 fun _=>?_|fail)
    all_goals first
     | exact ab (ag rfl rfl) rfl
   | true =>
    rw [hfB] at hfe
    obtain ⟨kl,hQ,h0,hau⟩:=BR hA1 hfc
    have G:=fG hK hQ
    have hcm:=Qx hfc
    have hz:=Dz hs
    have hln:=pw hA1
    refine ef (p:=c.acts.n=c.actsL.length∧LenOk l1) (fun w h=>⟨((hw1 w h.2).2 c hcm).len_,fun c hc=>((hw1 w h.2).2 c hc).len_⟩) fun ⟨hcn,hL1⟩=>?_
    have hG1:=G.len
    have ht0:=gB s1 hK hA1 hz aa on
    have hwh:=xx s1 hK hA1 hz aa on 5
    have htb:=Ae l1 on
    obtain ⟨T0,hT0⟩:∃ T,tallyV l1 on=T:=⟨_,rfl⟩
    obtain ⟨W0,hW0⟩:∃ W,whoV l1 on 5=W:=⟨_,rfl⟩
    rw [hT0] at ht0 htb
    rw [hW0] at hwh
    have hha:=fun s:Xk=>uV s W0 id
    simp only [oM] at hha
    obtain ⟨WB,hWB⟩:∃ B,hasS W0 id=B:=⟨_,rfl⟩
    simp only [hWB] at hha
    repeat' (first|(refine ae (hc:=hfi) (hX:=fun w h=>hw1 w h.2) ?_)|(refine bA (hc:=hfP) (hX:=fun w h=>⟨hw1 w h.2,h.1.2⟩) fun v X2 h2=>?_;obtain ⟨p,rfl,hfp⟩:=h2)|(refine ae (hc:=hfe) (hX:=fun w h=>hw1 w h.1.2) ?_)|(refine ae (hc:=ht0) (hX:=fun w h=>⟨hw1 w h.1.2,h.1.1.2⟩) ?_)|(refine bA (hc:=hwh) (hX:=fun w h=>⟨hw1 w h.1.2,h.1.1.2⟩) fun v X3 h3=>?_;obtain ⟨s2,rfl,hw3⟩:=h3)|(refine ae (hc:=hha s2) (hX:=fun w h=>hw3 w h.2) ?_)|(refine bA (hc:=gW ks ki hK aa hQ hcn k (likX on) (uN on) (yH on)) (hX:=fun w h=>⟨⟨⟨h.1.1.1.1,(hw1 w h.1.1.2).2 c hcm⟩,yI w _⟩,h.1.1.1.2⟩) fun v X4 h4=>?_;obtain ⟨s4,n,I2,kl2,hK2,hl2,hQ2,rfl,hw4,hg1⟩:=h4)|refine gs ?_|refine gs1 fun _=>?_|(refine aG (cs:=(likX on).cells) (hf:=by rfl) ?_)|fail)
    rename_i b11 b13 b15 b17 b18 b19
    refine ef (p:=n.acts.n=n.actsL.length) (fun w h=>(hw4 w ⟨h.1.1.1.1.1.2,h.2⟩).2.len_) fun hnn=>?_
    obtain ⟨B1,hB1⟩:∃ x,decide ((n.acts.n:Int)=(c.acts.n:Int)+1)=x:=⟨_,rfl⟩
    rw [hB1]
    refine cA (X':=fun w=>((Ints w ks L∧Xe w)∧Chains w s1 l1)∧(Items w s4 I2∧n.at_ w)) (fun w h=>⟨⟨⟨h.1.1.1.1.1.1,h.1.1.1.1.2⟩,hw1 w h.1.1.1.2⟩,hw4 w ⟨h.1.1.1.1.1.2,h.2⟩⟩) ?_
    repeat' (first|apply aI|apply QQ|refine aV ?_|refine aO ?_|refine dM ?_|refine aX fun _=>?_|refine aS ?_|(refine bA (hc:=gW ks s4 hK2 aa hQ2 hnn k (likX on) (uN on) (yH on)) (hX:=fun w h=>⟨⟨⟨⟨h.1.1.1,h.2.1⟩,h.2.2⟩,yI w _⟩,h.1.1.2⟩) fun v X5 h5=>?_;obtain ⟨s6,m,I3,kl3,hK3,hl3,hQ3,rfl,hw5,hg2⟩:=h5)|fail)
    rename_i b21 b22
    refine aR (p:=m.acts.n=m.actsL.length) (fun w h=>(hw5 w ⟨h.1.2.1,h.2⟩).2.len_) fun hmm=>?_
    obtain ⟨B2,hB2⟩:∃ x,decide ((m.acts.n:Int)=(n.acts.n:Int)+1)=x:=⟨_,rfl⟩
    rw [hB2]
    obtain ⟨PB,hPB⟩:∃ x,(findPV l1 on).isSome=x:=⟨_,rfl⟩
    rw [hPB]
    refine ml (st':=⟨[(1,.string id),(3,.string on),(6,.pointer (some ⟨b6,0,none⟩)),(9,.bool true),(10,s1.v),(11,.pointer (some ⟨b11,0,none⟩)),(13,.pointer (some ⟨b13,0,none⟩)),(14,.bool PB),(15,.pointer (some ⟨b15,0,none⟩)),(16,.bool WB),(18,.pointer (some ⟨b18,0,none⟩)),(20,.bool B1),(21,.pointer (some ⟨b21,0,none⟩)),(22,.pointer (some ⟨b22,0,none⟩)),(23,.bool B2)],[cel b22 35 m.cells,cel b21 25 [ks.v,s6.v],cel b18 25 [ks.v,s4.v],cel b15 64 T0.cells,cel b13 68 p.cells,cel b11 35 c.cells,cel b6 27 k.v.cells.toList],fun w=>(((Ints w ks L∧Xe w)∧Chains w s1 l1)∧Items w s4 I2)∧(Items w s6 I3∧m.at_ w)⟩) (aj am (.cons_cons _ (.cons_cons _ (.cons _ (.cons_cons _ (.cons _ (.cons_cons _ (.cons_cons _ (.cons_cons _ (.cons_cons _ (.cons _ (Zt _))))))))))) fun w h=>⟨⟨h.1.1,h.1.2.1⟩,hw5 w ⟨h.1.2.1,h.2⟩⟩) ?_
    by_cases hb12:¬ (B1=true∧B2=true)
    · cases B1<;>cases B2
      all_goals first
       | (refine absurd ⟨?_,?_⟩ hb12<;>rfl)
       | (repeat' (first|refine gs ?_|fail))
      all_goals first
       | exact ab (ag rfl rfl) rfl
    obtain ⟨rfl,rfl⟩:=Classical.not_not.1 hb12
    have S1:=hg1 h0 hau hz hnn (bz hB1)
    have hn0:0<n.actsL.length:=by rw [S1.len];omega
    have S2:=hg2 hn0 S1.auth S1.siz hmm (bz hB2)
    have hm0:0<m.actsL.length:=by rw [S2.len];omega
    have hml:m.actsL.length=c.actsL.length+2:=by rw [S2.len,S1.len]
    have G3:=fG hK3 hQ3
    obtain ⟨AD,hAD⟩:∃ x,admO l1 on id=x:=⟨_,rfl⟩
    obtain ⟨AF,hAF⟩:∃ x,T0.more (AD&&!WB)=x:=⟨_,rfl⟩
    refine QR (h:=?_)
    repeat' (first|apply aI|apply QQ|refine aV ?_|refine aT ?_|refine fX ?_|refine QV ?_|apply QT|fail)
    refine fH (ι:=Unit) (fun _=>⟨[(1,.string id),(3,.string on),(6,.pointer (some ⟨b6,0,none⟩)),(9,.bool true),(11,.pointer (some ⟨b11,0,none⟩)),(15,.pointer (some ⟨b15,0,none⟩)),(16,.bool WB),(18,.pointer (some ⟨b18,0,none⟩)),(21,.pointer (some ⟨b21,0,none⟩)),(22,.pointer (some ⟨b22,0,none⟩)),(24,.bool AD)],[cel b22 35 m.cells,cel b21 25 [ks.v,s6.v],cel b18 25 [ks.v,s4.v],cel b15 64 T0.cells,cel b11 35 c.cells,cel b6 27 k.v.cells.toList],fun w=>((Ints w ks L∧Xe w)∧Items w s4 I2)∧(Items w s6 I3∧m.at_ w)⟩) ?_ fun _=>?_
    · cases PB with
      | false =>
       obtain rfl:AD=false:=by rw [←hAD];exact BS hPB
       repeat' (first|refine gs ?_|fail)
       all_goals first
        | exact ⟨(),aj am (.cons_cons _ (.cons_cons _ (.cons_cons _ (.cons_cons _ (.cons _ (.cons_cons _ (.cons_cons _ (Zt _)))))))) fun w h=>⟨⟨h.1.1.1,h.1.2⟩,h.2⟩⟩
      | true =>
       cases hgo:p.gone with
       | true =>
        have hgo':(!p.gone)=false:=by rw [hgo];rfl
        obtain rfl:AD=false:=by rw [←hAD];exact BU hfp hPB hgo
        repeat' (first|refine gs ?_|fail)
        all_goals first
         | exact ⟨(),aj ⟨rfl,rfl,rfl,rfl,rfl,rfl,rfl,rfl,rfl,rfl,by rfl,trivial⟩ (.cons_cons _ (.cons_cons _ (.cons_cons _ (.cons_cons _ (.cons _ (.cons_cons _ (.cons_cons _ (Zt _)))))))) fun w h=>⟨⟨h.1.1.1,h.1.2⟩,h.2⟩⟩
       | false =>
        have hgo':(!p.gone)=true:=by rw [hgo];rfl
        have hliv:=BT (x:=id) hfp hPB hgo
        cases hsi:seqB id p.author with
        | true =>
         obtain rfl:AD=true:=by rw [←hAD,hliv,hsi];rfl
         repeat' (first|refine bm ?_ (dp true rfl rfl hsi)|refine gs ?_|fail)
         all_goals first
          | exact ⟨(),aj am (.cons_cons _ (.cons_cons _ (.cons_cons _ (.cons_cons _ (.cons _ (.cons_cons _ (.cons_cons _ (Zt _)))))))) fun w h=>⟨⟨h.1.1.1,h.1.2⟩,h.2⟩⟩
        | false =>
         have hbl:=pp s1 l1 id p.author fun c hc=>(hok1 c hc).1
         obtain rfl:AD=!blockedV l1 id p.author:=by rw [←hAD,hliv,hsi];rfl
         repeat' (first|refine bm ?_ (dp false rfl rfl hsi)|(refine ae (hc:=hbl) (hX:=fun w h=>⟨h.1.1.2,h.1.1.1.2⟩) ?_)|refine gs ?_|fail)
         all_goals first
          | exact ⟨(),aj am (.cons_cons _ (.cons_cons _ (.cons_cons _ (.cons_cons _ (.cons _ (.cons_cons _ (.cons_cons _ (Zt _)))))))) fun w h=>⟨⟨h.1.1.1,h.1.2⟩,h.2⟩⟩
    apply QQ
    apply QR
    repeat' (first|apply aI|apply QQ|refine aZ ?_|refine aX fun _=>?_|refine aS ?_|fail)
    rename_i b25
    refine FD (ι:=Unit) (fun _=>⟨[(1,.string id),(3,.string on),(6,.pointer (some ⟨b6,0,none⟩)),(9,.bool true),(11,.pointer (some ⟨b11,0,none⟩)),(15,.pointer (some ⟨b15,0,none⟩)),(18,.pointer (some ⟨b18,0,none⟩)),(21,.pointer (some ⟨b21,0,none⟩)),(22,.pointer (some ⟨b22,0,none⟩)),(24,.bool AD),(25,.pointer (some ⟨b25,0,none⟩))],[cel b25 64 AF.cells,cel b22 35 m.cells,cel b21 25 [ks.v,s6.v],cel b18 25 [ks.v,s4.v],cel b15 64 T0.cells,cel b11 35 c.cells,cel b6 27 k.v.cells.toList],fun w=>((Ints w ks L∧Xe w)∧Items w s4 I2)∧(Items w s6 I3∧m.at_ w)⟩) ?_ fun _=>?_
    · subst hAF
      cases AD<;>cases WB
      all_goals
       repeat' (first|refine bm ?_ (Ce rfl rfl aa)|refine gs ?_|fail)
       all_goals first
        | exact ⟨(),aj am (ak _) fun w h=>h⟩
    have hTwo:∀ l2 l3,AllK L I2 l2→AllK L I3 l3→LenOk l2→LenOk l3→tallyV l2 on=AF∧tallyV l3 on=AF∧hasS (whoV l3 on 5) id=AD:=fun l2 l3 hA2 hA3 hL2 hL3=>by
     obtain ⟨d1,D1⟩:=S1.step
     obtain ⟨d2,D2⟩:=S2.step
     have h:=Be (d:=on) hK (D1 l1 l2 hA1 hA2) (D2 l2 l3 hA2 hA3) (kL (m6 hK hQ)) hL1 hL2 hL3 rfl rfl rfl rfl
     rw [hT0,hW0,hAD,hWB] at h
     rw [←hAF]
     exact h
    apply QQ
    apply QR
    repeat' (first|apply aI|apply QQ|refine aO ?_|refine bF ?_|refine bT ?_|refine ii ?_|fail)
    refine QR (h:=?_)
    repeat' (first|apply aI|apply QQ|refine aV ?_|refine aZ ?_|refine aX fun _=>?_|refine aS ?_|(refine bA (hc:=iZ ks s4 hK2) (hX:=fun w h=>⟨⟨h.1.1.1,h.1.2⟩,h.1.1.2⟩) fun v X6 h6=>?_;obtain ⟨s9,l2,hA2,rfl,hw6⟩:=h6;refine ef (p:=LenOk l2) (fun w h=>fun c hc=>((hw6 w h.2).2 c hc).len_) fun hL2=>?_;have ht2:=gB s9 hK2 hA2 S1.siz aa on)|(refine ae (hc:=ht2) (hX:=fun w h=>⟨hw6 w h.2,h.1.1.1.2⟩) ?_)|fail)
    refine FE (X':=fun w=>(Ints w ks L∧Xe w)∧(Items w s6 I3∧m.at_ w)) (fun w h=>⟨h.1.1.1,h.1.2⟩) ?_
    refine QR (h:=?_)
    repeat' (first|apply aI|apply QQ|refine aV ?_|refine aZ ?_|refine aX fun _=>?_|refine aS ?_|(refine bA (hc:=iZ ks s6 hK3) (hX:=fun w h=>⟨⟨h.1.1,h.2.1⟩,h.1.2⟩) fun v X7 h7=>?_;obtain ⟨s10,l3,hA3,rfl,hw7⟩:=h7;refine ef (p:=LenOk l3) (fun w h=>fun c hc=>((hw7 w h.2).2 c hc).len_) fun hL3=>?_;have ht3:=gB s10 hK3 hA3 S2.siz aa on)|(refine ae (hc:=ht3) (hX:=fun w h=>⟨hw7 w h.2,h.1.1.2⟩) ?_)|fail)
    refine FE (X':=fun w=>(Ints w ks L∧Xe w)∧(Items w s6 I3∧m.at_ w)) (fun w h=>h.1) ?_
    rename_i b27 b28
    obtain ⟨e1,e2,-⟩:=hTwo l2 l3 hA2 hA3 hL2 hL3
    rw [e1,e2]
    refine QR (h:=?_)
    repeat' (first|refine bm ?_ (IZ AF rfl rfl)|refine GT false (hr:=by cases AD<;>rfl) (h:=?_)|apply aI|apply QQ|refine aV ?_|refine aZ ?_|refine aT ?_|refine QV ?_|apply QT|(refine bA (hc:=iZ ks s6 hK3) (hX:=fun w h=>⟨⟨h.1.1,h.2.1⟩,h.1.2⟩) fun v X8 h8=>?_;obtain ⟨s11,l4,hA4,rfl,hw8⟩:=h8;refine ef (p:=LenOk l4) (fun w h=>fun c hc=>((hw8 w h.2).2 c hc).len_) fun hL4=>?_;have hwh4:=xx s11 hK3 hA4 S2.siz aa on 5;have hh4:=fun s:Xk=>uV s (whoV l4 on 5) id;simp only [oM,(hTwo l2 l4 hA2 hA4 hL2 hL4).2.2] at hh4)|(refine bA (hc:=hwh4) (hX:=fun w h=>⟨hw8 w h.2,h.1.1.2⟩) fun v X9 h9=>?_;obtain ⟨s12,rfl,hw9⟩:=h9)|(refine ae (hc:=hh4 s12) (hX:=fun w h=>hw9 w h.2) ?_)|fail)
    have hpos:c.acts.n+1<m.actsL.length:=by omega
    obtain ⟨z1,hz1⟩:∃ z,m.actsL[c.acts.n]?=some z:=⟨_,Zc aa⟩
    obtain ⟨z2,hz2⟩:∃ z,m.actsL[c.acts.n+1]?=some z:=⟨_,Zc aa⟩
    have hzm1:=Z4 hz1
    have hzm2:=Z4 hz2
    obtain ⟨D1,hD1⟩:∃ D,digV z1=D:=⟨_,rfl⟩
    obtain ⟨D2,hD2⟩:∃ D,digV z2=D:=⟨_,rfl⟩
    refine ml (st':=⟨[(1,.string id),(3,.string on),(6,.pointer (some ⟨b6,0,none⟩)),(9,.bool true),(15,.pointer (some ⟨b15,0,none⟩)),(21,.pointer (some ⟨b21,0,none⟩)),(22,.pointer (some ⟨b22,0,none⟩)),(25,.pointer (some ⟨b25,0,none⟩)),(26,.int .i64 (c.acts.n:Nat))],[cel b25 64 AF.cells,cel b22 35 m.cells,cel b21 25 [ks.v,s6.v],cel b15 64 T0.cells,cel b6 27 k.v.cells.toList],fun w=>(Ints w ks L∧Xe w)∧(Items w s6 I3∧m.at_ w)⟩) (aj am (.cons _ (.cons _ (.cons_cons _ (.cons_cons _ (.cons_cons _ (.cons _ (.cons_cons _ (.cons _ (.cons_cons _ (Zt _)))))))))) fun w h=>h.1.1) ?_
    refine aR (p:=m.acts.p.isSome=true) (fun w h=>h.2.2.some_ aa) fun hmp=>?_
    have hm1000:m.acts.n≤1000:=by have:=G3.len;omega
    have hof1:=gM z1 (G3.ok.rng z1 hzm1) (G3.ok.sm z1 hzm1)
    have hof2:=gM z2 (G3.ok.rng z2 hzm2) (G3.ok.sm z2 hzm2)
    have hi1:idxV m.actsL D1=some c.actsL.length:=by rw [←hD1,←hcn];exact G3.own _ _ hz1
    have hi2:idxV m.actsL D2=some (c.actsL.length+1):=by rw [←hD2,←hcn];exact G3.own _ _ hz2
    have hsi1:=gW ks s6 hK3 aa hQ3 hmm k (undX D1) (sX D1) (xz D1)
    repeat apply QQ
    refine fH (ι:=SgM L I3 id m k (undX D1)) (fun u=>⟨[(1,.string id),(3,.string on),(6,.pointer (some ⟨b6,0,none⟩)),(9,.bool true),(15,.pointer (some ⟨b15,0,none⟩)),(22,.pointer (some ⟨b22,0,none⟩)),(25,.pointer (some ⟨b25,0,none⟩)),(26,.int .i64 (c.acts.n:Nat)),(29,.pointer (some ⟨u.b1,0,none⟩)),(30,.pointer (some ⟨u.b2,0,none⟩)),(31,.bool (decide ((u.n.acts.n:Int)=(m.acts.n:Int)+1)))],[cel u.b2 35 u.n.cells,cel u.b1 25 [ks.v,u.s.v],cel b25 64 AF.cells,cel b22 35 m.cells,cel b15 64 T0.cells,cel b6 27 k.v.cells.toList],fun w=>((Ints w ks L∧Xe w)∧m.at_ w)∧(Items w u.s u.I1∧u.n.at_ w)⟩) ?_ fun u=>?_
    · as_aux_lemma =>
      (refine ap ⟨[0,1,2,3,4,5,6,7],[(8,⟨[],[(9,⟨[10],[(11,⟨[12,13,14,15],[(16,⟨[],[(17,⟨[],[(18,⟨[],[(19,⟨[20],[]⟩)]⟩)]⟩)]⟩),(17,⟨[],[(16,⟨[],[(18,⟨[],[(19,⟨[20],[]⟩)]⟩)]⟩)]⟩)]⟩),(16,⟨[],[(11,⟨[12,13,14,15],[(17,⟨[],[(18,⟨[],[(19,⟨[20],[]⟩)]⟩)]⟩)]⟩),(17,⟨[],[(11,⟨[12,13,14,15],[(18,⟨[],[(19,⟨[20],[]⟩)]⟩)]⟩)]⟩)]⟩),(17,⟨[],[(11,⟨[12,13,14,15],[(16,⟨[],[(18,⟨[],[(19,⟨[20],[]⟩)]⟩)]⟩)]⟩),(16,⟨[],[(11,⟨[12,13,14,15],[(18,⟨[],[(19,⟨[20],[]⟩)]⟩)]⟩)]⟩)]⟩)]⟩),(16,⟨[],[(9,⟨[10],[(11,⟨[12,13,14,15],[(17,⟨[],[(18,⟨[],[(19,⟨[20],[]⟩)]⟩)]⟩)]⟩),(17,⟨[],[(11,⟨[12,13,14,15],[(18,⟨[],[(19,⟨[20],[]⟩)]⟩)]⟩)]⟩)]⟩),(17,⟨[],[(9,⟨[10],[(11,⟨[12,13,14,15],[(18,⟨[],[(19,⟨[20],[]⟩)]⟩)]⟩)]⟩)]⟩)]⟩),(17,⟨[],[(9,⟨[10],[(11,⟨[12,13,14,15],[(16,⟨[],[(18,⟨[],[(19,⟨[20],[]⟩)]⟩)]⟩)]⟩),(16,⟨[],[(11,⟨[12,13,14,15],[(18,⟨[],[(19,⟨[20],[]⟩)]⟩)]⟩)]⟩)]⟩),(16,⟨[],[(9,⟨[10],[(11,⟨[12,13,14,15],[(18,⟨[],[(19,⟨[20],[]⟩)]⟩)]⟩)]⟩)]⟩)]⟩)]⟩),(16,⟨[],[(8,⟨[],[(9,⟨[10],[(11,⟨[12,13,14,15],[(17,⟨[],[(18,⟨[],[(19,⟨[20],[]⟩)]⟩)]⟩)]⟩),(17,⟨[],[(11,⟨[12,13,14,15],[(18,⟨[],[(19,⟨[20],[]⟩)]⟩)]⟩)]⟩)]⟩),(17,⟨[],[(9,⟨[10],[(11,⟨[12,13,14,15],[(18,⟨[],[(19,⟨[20],[]⟩)]⟩)]⟩)]⟩)]⟩)]⟩),(17,⟨[],[(8,⟨[],[(9,⟨[10],[(11,⟨[12,13,14,15],[(18,⟨[],[(19,⟨[20],[]⟩)]⟩)]⟩)]⟩)]⟩)]⟩)]⟩),(17,⟨[],[(8,⟨[],[(9,⟨[10],[(11,⟨[12,13,14,15],[(16,⟨[],[(18,⟨[],[(19,⟨[20],[]⟩)]⟩)]⟩)]⟩),(16,⟨[],[(11,⟨[12,13,14,15],[(18,⟨[],[(19,⟨[20],[]⟩)]⟩)]⟩)]⟩)]⟩),(16,⟨[],[(9,⟨[10],[(11,⟨[12,13,14,15],[(18,⟨[],[(19,⟨[20],[]⟩)]⟩)]⟩)]⟩)]⟩)]⟩),(16,⟨[],[(8,⟨[],[(9,⟨[10],[(11,⟨[12,13,14,15],[(18,⟨[],[(19,⟨[20],[]⟩)]⟩)]⟩)]⟩)]⟩)]⟩)]⟩)]⟩ [cel b25 64 AF.cells,cel b22 35 m.cells,cel b21 25 [ks.v,s6.v],cel b15 64 T0.cells,cel b6 27 k.v.cells.toList] (fun w=>(Ints w ks L∧Xe w)∧(Items w s6 I3∧m.at_ w)) (h:=?_))
      all_goals repeat' (first|((refine bA (hc:=hof1) (hX:=fun w h=>h.2.2.2 z1 hzm1) fun v X11 h11=>?_;obtain ⟨z',rfl,hdz,hzr',hzat⟩:=h11;have hdg:=fP z' hzr';rw [hdz,hD1] at hdg))|(refine ae (hc:=hdg) (hX:=fun w h=>⟨hzat w h.2,h.1.1.2⟩) ?_)|((refine bA (hc:=hsi1) (hX:=fun w h=>⟨⟨⟨⟨h.1.1.1,h.1.2.1⟩,h.1.2.2⟩,xA w D1⟩,h.1.1.2⟩) fun v X12 h12=>?_;obtain ⟨tN,f,I4,kl4,hK4,hl4,hQ4,rfl,hw12,hg3⟩:=h12;refine ef (p:=f.acts.n=f.actsL.length) (fun w h=>(hw12 w ⟨h.1.1.2.1,h.2⟩).2.len_) fun hff=>?_))|refine gdz ?_|refine ay (hsub:=by exact aK) (hy:=by first|(apply aB (q:=c.acts.n*20);rfl;rfl;omega;omega;assumption;omega)|(apply fu (cs:=z1.cells);rfl;exact fun w h=>Acts.get h.2.2 hz1)|(apply di (cs:=(undX D1).cells);rfl;rfl)) ?_|refine az ?_ (h':=?_)|exact aA|refine gs1 fun _=>?_|fail)
      all_goals first
       | exact ⟨⟨tN,f,I4,kl4,_,_,hK4,hl4,hQ4,hff,fun a b c d=>hg3 a b c hff d⟩,aj am (.cons_cons _ (.cons_cons _ (.cons_cons _ (.cons_cons _ (.cons _ (.cons_cons _ (.cons_cons _ (Zt _)))))))) fun w h=>⟨⟨h.1.1.1,h.1.1.2.2⟩,hw12 w ⟨h.1.1.2.1,h.2⟩⟩⟩
       | exact ⟨⟨tN,f,I4,kl4,_,_,hK4,hl4,hQ4,hff,fun a b c d=>hg3 a b c hff d⟩,yv am (.cons_cons _ (.cons_cons _ (.cons_cons _ (.cons_cons _ (.cons _ (.cons_cons _ (.cons_cons _ (Zt _)))))))) (fun w h=>⟨⟨h.1.1.1,h.1.1.2.2⟩,hw12 w ⟨h.1.1.2.1,h.2⟩⟩)⟩
    obtain ⟨tN,f,I4,kl4,b29,b30,hK4,hl4,hQ4,hff,hg3⟩:=u
    simp only
    have G4:=fG hK4 hQ4
    have hf100:=G4.len
    have hsi2:=gW ks tN hK4 aa hQ4 hff k (undX D2) (sX D2) (xz D2)
    refine QQ ?_
    refine fH (ι:=SgM L I4 id f k (undX D2)) (fun u=>⟨[(1,.string id),(3,.string on),(9,.bool true),(15,.pointer (some ⟨b15,0,none⟩)),(25,.pointer (some ⟨b25,0,none⟩)),(29,.pointer (some ⟨b29,0,none⟩)),(31,.bool (decide ((f.acts.n:Int)=(m.acts.n:Int)+1))),(32,.pointer (some ⟨u.b1,0,none⟩)),(34,.bool (decide ((u.n.acts.n:Int)=(f.acts.n:Int)+1)))],[cel u.b1 25 [ks.v,u.s.v],cel b29 25 [ks.v,tN.v],cel b25 64 AF.cells,cel b15 64 T0.cells],fun w=>((Ints w ks L∧Xe w)∧Items w tN I4)∧Items w u.s u.I1⟩) ?_ fun u=>?_
    · as_aux_lemma =>
      (refine ap ⟨[0,1,2,3,4,5,6,7,8],[(9,⟨[],[(10,⟨[11],[(12,⟨[13,14,15,16],[(17,⟨[],[(18,⟨[],[(19,⟨[],[(20,⟨[21],[]⟩)]⟩)]⟩)]⟩),(18,⟨[],[(17,⟨[],[(19,⟨[],[(20,⟨[21],[]⟩)]⟩)]⟩)]⟩)]⟩),(17,⟨[],[(12,⟨[13,14,15,16],[(18,⟨[],[(19,⟨[],[(20,⟨[21],[]⟩)]⟩)]⟩)]⟩),(18,⟨[],[(12,⟨[13,14,15,16],[(19,⟨[],[(20,⟨[21],[]⟩)]⟩)]⟩)]⟩)]⟩),(18,⟨[],[(12,⟨[13,14,15,16],[(17,⟨[],[(19,⟨[],[(20,⟨[21],[]⟩)]⟩)]⟩)]⟩),(17,⟨[],[(12,⟨[13,14,15,16],[(19,⟨[],[(20,⟨[21],[]⟩)]⟩)]⟩)]⟩)]⟩)]⟩),(17,⟨[],[(10,⟨[11],[(12,⟨[13,14,15,16],[(18,⟨[],[(19,⟨[],[(20,⟨[21],[]⟩)]⟩)]⟩)]⟩),(18,⟨[],[(12,⟨[13,14,15,16],[(19,⟨[],[(20,⟨[21],[]⟩)]⟩)]⟩)]⟩)]⟩),(18,⟨[],[(10,⟨[11],[(12,⟨[13,14,15,16],[(19,⟨[],[(20,⟨[21],[]⟩)]⟩)]⟩)]⟩)]⟩)]⟩),(18,⟨[],[(10,⟨[11],[(12,⟨[13,14,15,16],[(17,⟨[],[(19,⟨[],[(20,⟨[21],[]⟩)]⟩)]⟩)]⟩),(17,⟨[],[(12,⟨[13,14,15,16],[(19,⟨[],[(20,⟨[21],[]⟩)]⟩)]⟩)]⟩)]⟩),(17,⟨[],[(10,⟨[11],[(12,⟨[13,14,15,16],[(19,⟨[],[(20,⟨[21],[]⟩)]⟩)]⟩)]⟩)]⟩)]⟩)]⟩),(17,⟨[],[(9,⟨[],[(10,⟨[11],[(12,⟨[13,14,15,16],[(18,⟨[],[(19,⟨[],[(20,⟨[21],[]⟩)]⟩)]⟩)]⟩),(18,⟨[],[(12,⟨[13,14,15,16],[(19,⟨[],[(20,⟨[21],[]⟩)]⟩)]⟩)]⟩)]⟩),(18,⟨[],[(10,⟨[11],[(12,⟨[13,14,15,16],[(19,⟨[],[(20,⟨[21],[]⟩)]⟩)]⟩)]⟩)]⟩)]⟩),(18,⟨[],[(9,⟨[],[(10,⟨[11],[(12,⟨[13,14,15,16],[(19,⟨[],[(20,⟨[21],[]⟩)]⟩)]⟩)]⟩)]⟩)]⟩)]⟩),(18,⟨[],[(9,⟨[],[(10,⟨[11],[(12,⟨[13,14,15,16],[(17,⟨[],[(19,⟨[],[(20,⟨[21],[]⟩)]⟩)]⟩)]⟩),(17,⟨[],[(12,⟨[13,14,15,16],[(19,⟨[],[(20,⟨[21],[]⟩)]⟩)]⟩)]⟩)]⟩),(17,⟨[],[(10,⟨[11],[(12,⟨[13,14,15,16],[(19,⟨[],[(20,⟨[21],[]⟩)]⟩)]⟩)]⟩)]⟩)]⟩),(17,⟨[],[(9,⟨[],[(10,⟨[11],[(12,⟨[13,14,15,16],[(19,⟨[],[(20,⟨[21],[]⟩)]⟩)]⟩)]⟩)]⟩)]⟩)]⟩)]⟩ [cel b30 35 f.cells,cel b29 25 [ks.v,tN.v],cel b25 64 AF.cells,cel b22 35 m.cells,cel b15 64 T0.cells,cel b6 27 k.v.cells.toList] (fun w=>((Ints w ks L∧Xe w)∧m.at_ w)∧(Items w tN I4∧f.at_ w)) (h:=?_))
      all_goals repeat' (first|refine ay (hsub:=by exact aK) (hy:=by (apply Ce;rfl;rfl;omega)) ?_|((refine bA (hc:=hof2) (hX:=fun w h=>h.1.2.2 z2 hzm2) fun v X13 h13=>?_;obtain ⟨z',rfl,hdz,hzr',hzat⟩:=h13;have hdg:=fP z' hzr';rw [hdz,hD2] at hdg))|(refine ae (hc:=hdg) (hX:=fun w h=>⟨hzat w h.2,h.1.1.1.2⟩) ?_)|((refine bA (hc:=hsi2) (hX:=fun w h=>⟨⟨⟨⟨h.1.1.1.1,h.1.2.1⟩,h.1.2.2⟩,xA w D2⟩,h.1.1.1.2⟩) fun v X14 h14=>?_;obtain ⟨vN,g,I5,kl5,hK5,hl5,hQ5,rfl,hw14,hg4⟩:=h14;refine ef (p:=g.acts.n=g.actsL.length) (fun w h=>(hw14 w ⟨h.1.1.2.1,h.2⟩).2.len_) fun hgg=>?_))|refine gdz ?_|refine ay (hsub:=by exact aK) (hy:=by first|(apply aB (q:=(c.acts.n+1)*20);rfl;rfl;omega;omega;assumption;omega)|(apply fu (cs:=z2.cells);rfl;exact fun w h=>Acts.get h.1.2 hz2)|(apply di (cs:=(undX D2).cells);rfl;rfl)) ?_|refine az ?_ (h':=?_)|exact aA|refine gs1 fun _=>?_|fail)
      all_goals first
       | exact ⟨⟨vN,g,I5,kl5,_,0,hK5,hl5,hQ5,hgg,fun a b c d=>hg4 a b c hgg d⟩,aj am (.cons _ (.cons_cons _ (.cons _ (.cons_cons _ (.cons_cons _ (.cons _ (.cons_cons _ (Zt _)))))))) fun w h=>⟨⟨h.1.1.1.1,h.1.1.2.1⟩,(hw14 w ⟨h.1.1.2.1,h.2⟩).1⟩⟩
       | exact ⟨⟨vN,g,I5,kl5,_,0,hK5,hl5,hQ5,hgg,fun a b c d=>hg4 a b c hgg d⟩,yv am (.cons _ (.cons_cons _ (.cons _ (.cons_cons _ (.cons_cons _ (.cons _ (.cons_cons _ (Zt _)))))))) (fun w h=>⟨⟨h.1.1.1.1,h.1.1.2.1⟩,(hw14 w ⟨h.1.1.2.1,h.2⟩).1⟩)⟩
    obtain ⟨vN,g,I5,kl5,b32,b33,hK5,hl5,hQ5,hgg,hg4⟩:=u
    simp only
    obtain ⟨B3,hB3⟩:∃ x,decide ((f.acts.n:Int)=(m.acts.n:Int)+1)=x:=⟨_,rfl⟩
    obtain ⟨B4,hB4⟩:∃ x,decide ((g.acts.n:Int)=(f.acts.n:Int)+1)=x:=⟨_,rfl⟩
    rw [hB3,hB4]
    by_cases hb34:¬ (B3=true∧B4=true)
    · cases B3<;>cases B4
      all_goals first
       | (refine absurd ⟨?_,?_⟩ hb34<;>rfl)
       | (repeat' (first|refine gs ?_|fail))
      all_goals first
       | exact ab (ag rfl rfl) rfl
    obtain ⟨rfl,rfl⟩:=Classical.not_not.1 hb34
    have S3:=hg3 hm0 S2.auth S2.siz (bz hB3)
    have S4:=hg4 (by rw [S3.len];omega) S3.auth S3.siz (bz hB4)
    have hThree:∀ l5,AllK L I4 l5→LenOk l5→tallyV l5 on=AF:=fun l5 hA5 hL5=>by
     obtain ⟨d1,E1⟩:=S1.step
     obtain ⟨d2,E2⟩:=S2.step
     obtain ⟨d3,E3⟩:=S3.step
     have h:=uM (d:=on) hK (E1 l1 l2 hA1 hA2) (E2 l2 l3 hA2 hA3) (E3 l3 l5 hA3 hA5) (kL (m6 hK hQ)) hL1 hL5 rfl rfl rfl rfl rfl hi1 hi2
     rw [hT0,hW0,hAD,hWB] at h
     rw [←hAF]
     exact h
    have hFour:∀ l5 l6,AllK L I4 l5→AllK L I5 l6→LenOk l6→tallyV l6 on=T0:=fun l5 l6 hA5 hA6 hL6=>by
     obtain ⟨d1,E1⟩:=S1.step
     obtain ⟨d2,E2⟩:=S2.step
     obtain ⟨d3,E3⟩:=S3.step
     obtain ⟨d4,E4⟩:=S4.step
     have h:=wH (d:=on) hK (E1 l1 l2 hA1 hA2) (E2 l2 l3 hA2 hA3) (E3 l3 l5 hA3 hA5) (E4 l5 l6 hA5 hA6) (kL (m6 hK hQ)) hL1 hL6 rfl rfl rfl rfl rfl hi1 rfl hi2
     rw [hT0] at h
     exact h
    repeat apply QQ
    apply QR
    repeat' (first|apply aI|apply QQ|refine aV ?_|refine aT ?_|refine fX ?_|refine QV ?_|apply QT|fail)
    repeat apply QQ
    (refine ap ⟨[0,1,2,4,6],[(3,⟨[],[(5,⟨[7,8,9,10,12,14],[(11,⟨[],[(13,⟨[15,16,17],[]⟩)]⟩)]⟩)]⟩)]⟩ [cel b32 25 [ks.v,vN.v],cel b29 25 [ks.v,tN.v],cel b25 64 AF.cells,cel b15 64 T0.cells] (fun w=>((Ints w ks L∧Xe w)∧Items w tN I4)∧Items w vN I5) (h:=?_))
    all_goals repeat' (first|refine ay (hsub:=by exact aK) (hy:=by first|(apply ra AF;rfl;rfl)|(apply ra T0;rfl;rfl)) ?_|((refine bA (hc:=iZ ks tN hK4) (hX:=fun w h=>⟨⟨h.1.1.1,h.1.2⟩,h.1.1.2⟩) fun v X15 h15=>?_;obtain ⟨s13,l5,hA5,rfl,hw15⟩:=h15;refine ef (p:=LenOk l5) (fun w h=>fun c hc=>((hw15 w h.2).2 c hc).len_) fun hL5=>?_;have ht5:=gB s13 hK4 hA5 S3.siz aa on;rw [hThree l5 hA5 hL5] at ht5))|(refine ae (hc:=ht5) (hX:=fun w h=>⟨hw15 w h.2,h.1.1.1.2⟩) ?_)|((refine bA (hc:=iZ ks vN hK5) (hX:=fun w h=>⟨⟨h.1.1.1.1,h.1.2⟩,h.1.1.1.2⟩) fun v X16 h16=>?_;obtain ⟨s14,l6,hA6,rfl,hw16⟩:=h16;refine ef (p:=LenOk l6) (fun w h=>fun c hc=>((hw16 w h.2).2 c hc).len_) fun hL6=>?_;have ht6:=gB s14 hK5 hA6 S4.siz aa on;rw [hFour l5 l6 hA5 hA6 hL6] at ht6))|(refine ae (hc:=ht6) (hX:=fun w h=>⟨hw16 w h.2,h.1.1.1.1.2⟩) ?_)|refine gdz ?_|refine az ?_ (h':=?_)|exact aA|fail)
    all_goals
     repeat' (first|refine gs ?_|fail)
     all_goals first
      | exact ab (ag rfl rfl) rfl
end Go.Proofs.YtaolfiikahlmkaaGreatDoor
namespace Go.Proofs.YtaolfiikahlmkaaGreatDoor
open Go Go.Proofs Sy Go.RowKit Go.Deep Go.ChangeShapes Tryz
section
variable {H:Type} {enc:TypeId×Value→H} {P:Program} {w:World} {base:Nat} {spare:Nat→Bool} {held:Bool}
theorem D5 {fuel:Nat} {cs:List Value} {x:DataW H×List MemPlace} (h:DataW.trod enc prog w base spare held fuel 27 cs=some x):∃ k:Ee,cs=k.cells:=by
 have hl:=gx underlying27 (k:=2) ai h
 obtain ⟨n0,y0,h0⟩:=aW (i:=0) (off:=0) (k:=1) (t':=3) underlying27 h rfl rfl rfl ai
 obtain ⟨n1,y1,h1⟩:=aW (i:=1) (off:=1) (k:=1) (t':=3) underlying27 h rfl rfl rfl ai
 match cs,hl with
 | [c0,c1],_ =>
  obtain ⟨s0,e0,b0⟩:=bp h0
  obtain ⟨s1,e1,b1⟩:=bp h1
  simp at e0 e1
  exact ⟨⟨s0,s1⟩,by rw [e0,e1];rfl⟩
end
end Go.Proofs.YtaolfiikahlmkaaGreatDoor
namespace Go.Proofs.YtaolfiikahlmkaaGreatDoor
open Go Go.Proofs Sy Go.RowKit Go.Deep Go.ChangeShapes Go.WideShapes Tryz
theorem laidOut:laidOutB prog=true:=by kernel_rfl
theorem jc {H:Type} {enc:TypeId×Value→H} {P:Program} (hl:laidOutB P=true) {W W':World} {sp:Nat→Bool}:∀ (ts:List TypeId) (vs:List Value) (ds:List (DataW H)) (ps:List MemPlace),(∀ t∈ts,P.readableRec t=true∧t<P.types.size) →
  DataW.TrodAll enc P W 0 (fun _=>true) true ts vs ds ps→(∀ p∈ps,W.sameAt W' p)→(∀ p∈ps,sp p.block=true)→DataW.TrodAll enc P W' 0 sp true ts vs ds ps
 | [],vs,ds,ps,_,h,_,_=>by
  obtain ⟨rfl,rfl,rfl⟩:=trodAll_nil h
  exact trodAll_mk0
 | t::ts,vs,ds,ps,ht,h,hs,hp=>by
  obtain ⟨v,vs',d,ds',p,q,rfl,rfl,rfl,h1,h2⟩:=trodAll_cons h
  exact trodAll_cons_mk (WideElems.Trod_stays hl (ht t ao).1 (ht t ao).2 h1 (fun x hx=>hs x (QA _ hx)) (fun x hx=>hp x (QA _ hx)))
   (jc hl ts vs' ds' q (fun u hu=>ht u (Zu _ hu)) h2 (fun x hx=>hs x (Qr _ hx)) (fun x hx=>hp x (Qr _ hx)))
theorem Bt {X:World→Prop} {w:World} (hX:X w) (hk:∀ w':World,(∀ k,k<w.heap.size→w'.heap[k]?=w.heap[k]?)→X w'):Xq [] (fps []) w [] X w :=
 ⟨Fr.refl _ _,fun k hk=>by simp at hk,by simp [fps],fun k hk=>by simp [fps] at hk,fun r hr=>by simp at hr,⟨fun k=>k<w.heap.size,fun k hk=>⟨hk,by simp [fps]⟩,hk⟩⟩
theorem vt {P:Program} {f:FuncId} {args:Array Value} {X:World→Prop} {v:Value} {w:World} (h:Pu P f args X v) (hX:X w) (hk:∀ w':World,(∀ k,k<w.heap.size→w'.heap[k]?=w.heap[k]?)→X w') :
  Calls P f args w fun e w'=>e=.returned v∧Below w.heap.size w w':=by
 unfold Pu at h
 exact (Ct.run h w [] (Bt hX hk)).mono fun e w' ⟨u,R,X',he,⟨hu,hR⟩,G⟩=>⟨by rw [he,hu],G.fr.below⟩
theorem laidK:Rows.laid_agora_sum_constants (H:=Unit)=Lib.tabData .u32 kC:=by kernel_rfl
theorem laidI:Rows.laid_agora_sum_initial (H:=Unit)=Lib.tabData .u32 iniC:=by kernel_rfl
theorem pg {W:World} {name:String} {zs:List Int} {g:Nat} (h:Lib.TabIs prog W name .u32 zs) (hg:prog.globalNamed name=some g):CellsAt g (u32s zs) W:=fun j v hj=>by
 have hj':j<zs.length:=by have:=(QI.1 hj).1;simpa [u32s] using this
 rw [h.cell hg j hj']
 simp only [u32s,Z5,Zc hj',Option.map_some,ZL] at hj
 rw [Zp,Zc hj',←hj]
 rfl
theorem HW {W:World} (h:laidMet prog [("agora/sum.constants",Rows.laid_agora_sum_constants),("agora/sum.initial",Rows.laid_agora_sum_initial)] W):Xe W:=by
 rw [laidK,laidI] at h
 have h1:=Lib.tabIs_of_head (g:=1) (t:=234) (e:=167) (n:=64) ai ai underlying234 underlying167 ai ai h
 obtain ⟨ps,⟨g',t',cs,fuel,p,q,hg',ht',hvar,hd,hrest,hpq⟩,_⟩:=h
 obtain ⟨g2,t2,cs2,fuel2,p2,q2,hg2,ht2,hvar2,hd2,_,_⟩:=hrest
 have h2:Lib.TabIs prog W "agora/sum.initial" .u32 iniC:=by
  have e1:prog.globalNamed "agora/sum.initial"=some 0:=by kernel_rfl
  have e2:(prog.globals[0]?).map (·.type)=some 168:=by kernel_rfl
  obtain rfl:=Option.some.inj (e1.symm.trans hg2)
  obtain rfl:=Option.some.inj (e2.symm.trans ht2)
  unfold Lib.TabIs
  rw [hvar2,←Lib.cells_of_tab underlying168 underlying167 ai ai hd2]
 exact ⟨pg h2 ai,pg h1 ai⟩
def layRow (l:List Value):Obj→Obj
 | .cells _ t frozen=>.cells l.toArray t frozen
 | o=>o
noncomputable def laidWorld (os:Os):World :=
 { World.holding prog os ⟨#[],#[],[]⟩ with heap:=((World.holding prog os ⟨#[],#[],[]⟩).heap.modify 0 (layRow (u32s iniC))).modify 1 (layRow (u32s kC)) }
end Go.Proofs.YtaolfiikahlmkaaGreatDoor
