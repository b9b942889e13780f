/- Joined. -/
import Derived.Test.YtaolfiikahlmkaaGreatDoorB16
import Derived.Test.YtaolfiikahlmkaaGreatDoorCards
import Derived.Test.YtaolfiikahlmkaaGreatDoorTie
import Derived.WalkKit
import Derived.ProofKit
import Derived.Deep.DeepHandedRow
import Derived.Lib.LaidTab
set_option linter.unusedVariables false
set_option linter.unusedSimpArgs false
set_option maxHeartbeats 16000000
namespace Go.Proofs.YtaolfiikahlmkaaGreatDoor
open Go Go.Proofs Sy Tryz
theorem gR {l m:List Xb} (Ul:Er l) (Um:Er m) (hl:LenOk l) (hm:LenOk m) {id:ByteArray} {v v':List Xa} (h0:viewC l id=some v) (h1:viewC m id=some v') (h:∀ k,k≠id→viewC m k=viewC l k) (d:ByteArray) :
  tallyV m d=tallyV (nuN id v'::(cano l).filter fun c=>!seqB c.id id) d∧∀ k,whoV m d k=whoV (nuN id v'::(cano l).filter fun c=>!seqB c.id id) d k:=by
 obtain ⟨p1,p2⟩:=kw Ul.ids Um.ids h0 h1 h
 exact ⟨by rw [←te hm,td Um.cano p2],fun k=>by rw [←zd hm,zc Um.cano p2]⟩
structure StepK (L:List Int) (I I1:List Xc) (id:ByteArray) (c c1:Xb) (k:Ed) (x b:Xa) (l l1:List Xb) (v:List Xa):Prop where
 right:KnR L I1
 sign:SignD L I c c1 k x b
 all:AllK L I l
 all1:AllK L I1 l1
 view:viewC l id=some v
 view1:viewC l1 id=some (v++[b.can])
 far:∀ a,a≠id→viewC l1 a=viewC l a
theorem De {L:List Int} {I I1:List Xc} (hK:KnR L I) (hK1:KnR L I1) {id:ByteArray} {c c1:Xb} {kl kl1:List Xm} {k:Ed} {x b:Xa} {s3 s4:Xk} {l l1:List Xb} (hQ:QK L I id c kl) (h0:0<c.actsL.length) (hau:id∈authI I)
  (hS:SignD L I c c1 k x b) (hI:addK L I (ofActI (b.re s3 s4))=I1) (hQ1:QK L I1 id c1 kl1) (hA:AllK L I l) (hA1:AllK L I1 l1):StepK L I I1 id c c1 k x b l l1 (c.actsL.map Xa.can)∧id∈authI I1∧0<c1.actsL.length:=by
 subst hI
 have hid:=ji hQ
 refine ⟨⟨hK1,hS,hA,hA1,?_,?_,fun a ha=>FI rfl hA hA1 (by show a≠b.author;rw [hS.author,hid];exact ha)⟩,lE rfl hau,by rw [hS.len];omega⟩
 · rw [gO hA hau hQ,pV h0]
 · rw [BI rfl hA1 hau hQ1 (by rw [hS.len];omega),hS.acts]
section
variable {L:List Int} {I0 I1 I2 I3 I4:List Xc} {id:ByteArray} {c c1 c2 c3 c4:Xb} {k:Ed} {x1 x2 x3 x4 b1 b2 b3 b4:Xa} {l0 l1 l2 l3 l4:List Xb} {d:ByteArray}
end
def SizA (I:List Xc):Prop:=∀ x∈authI I,x.size≤maxLen
theorem Dn {I:List Xc} (hs:∀ i∈I,i.Str):SizA I:=fun x hx=>by
 rw [authI,QH] at hx
 obtain ⟨i,hi,rfl⟩:=hx
 exact (hs i (QL.1 hi).1).act.author
theorem Do {L:List Int} {I:List Xc} {it:Xc} (hk:it.kind=0) (h:SizA I) (ha:it.act.author∈authI I):SizA (addK L I it):=fun x hx=>by
 rw [addK] at hx
 cases hc:canAdd L I it with
 | false=>rw [hc] at hx;exact h x hx
 | true =>
  rw [hc] at hx
  rcases (pr hk).1 hx with rfl|hx
  · exact h _ ha
  · exact h x hx
theorem lF {L:List Int} {I:List Xc} {l:List Xb} (hz:SizA I) (h:AllK L I l):∀ c∈l,c.id.size≤maxLen:=by
 obtain ⟨M,hM,rfl⟩:=h
 intro c hc
 obtain ⟨p,hp,rfl⟩:=QH.1 hc
 obtain ⟨a,ha,q⟩:=hM.right p (QL.1 hp).1
 rw [ji q]
 exact hz a (mem_ids.1 ha)
theorem pt {L:List Int} {I:List Xc} {l:List Xb} (h:AllK L I l):l.length≤I.length:=by
 obtain ⟨M,hM,rfl⟩:=h
 have h1:=hM.len
 have h2:=vi (sortB (authI I))
 have h3:=Z8 neK M
 have h4:=jc I
 rw [kS] at h2
 rw [ZE]
 omega
theorem uQ (s:Xk) (l:List ByteArray) (x:ByteArray):Pu prog 37 #[s.v,.string x] (fun w=>Strs w s l) (.bool (has21V l x)):=by
 refine ax func37 ntmps37 fun av bor w0=>?_
 refine aQ (p:=s.n=l.length∧s.n≤maxLen∧(0<l.length→s.p.isSome=true)) (fun w h=>⟨h.len_,ZW (Xf.cap h) (Xf.max h),h.some_⟩) fun ⟨hl,hm,hp⟩=>?_
 simp only [maxLen] at hm
 repeat' (first|refine gs ?_|fail)
 refine aq (ι:=X6 l.length (fun k=>seqB (l.getD k .empty) x)) (fun i=>⟨[(0,s.v),(1,.string x),(5,.int .i64 i.k)],[],fun w=>Strs w s l⟩) (fun i=>l.length-i.k) (X6.zero _ _) (ai am (ak _) fun _ h=>h) fun i=>?_
 have hik:=i.hk
 repeat' (first|refine gs ?_|(refine gp ?_ ?_<;>intro hx_ this)|fail)
 · have hlt:i.k<l.length:=by omega
   have hp':=hp aa
   repeat' (first|refine gs ?_|(refine aD (q:=i.k) ?_)|(refine cB (hF:=fun w h=>Strs.get h hlt) ?_)|(refine gp ?_ ?_<;>intro hx_ this)|fail)
   · apply ab;apply ag;rfl;rfl
     rw [uR hlt (by assumption)]
   · exact ⟨i.next hlt (by assumption),(by show l.length-(i.k+1)<l.length-i.k;omega),ai am (ak _) fun _ h=>h⟩
 · apply ab;apply ag;rfl;rfl
   rw [wE fun k hk=>i.ok k (by omega)]
theorem wF (l:List ByteArray) (x:ByteArray):has21V l x=hasS l x:=by
 rw [has21V,hasS]
 congr 1
 funext y
 exact kU y x
def undX (d:ByteArray):Xa:={ Xa.zero with kind:=6,object:=d }
def blkX (t:ByteArray):Xa:={ Xa.zero with kind:=10,target:=t }
theorem F7 (w:World) (d:ByteArray):(undX d).at_ w:=⟨bz w 1,bz w 5⟩
theorem yV (w:World) (d:ByteArray):(blkX d).at_ w:=⟨bz w 1,bz w 5⟩
theorem Cd (d:ByteArray):(undX d).Rng:=⟨by simp only [undX,Xa.zero];omega,fun w hw=>(Qi hw).elim,rfl,rfl⟩
theorem vn (d:ByteArray):(blkX d).Rng:=⟨by simp only [blkX,Xa.zero];omega,fun w hw=>(Qi hw).elim,rfl,rfl⟩
theorem F6 (d:ByteArray):(undX d).Sm:=⟨by show 0*16≤_;decide,by show 0*64≤_;decide,by show (0:Nat)≤_;decide⟩
theorem yU {d:ByteArray} (h:d.size≤maxLen):(blkX d).Sm:=⟨by show 0*16≤_;decide,by show 0*64≤_;decide,h⟩
structure SgK (L:List Int) (I I1:List Xc) (id:ByteArray) (c n:Xb) (k:Ed) (x:Xa):Prop where
 auth:id∈authI I1
 siz:SizA I1
 len:n.actsL.length=c.actsL.length+1
 step:∃ b,∀ l l1,AllK L I l→AllK L I1 l1→StepK L I I1 id c n k x b l l1 (c.actsL.map Xa.can)
def SgR (L:List Int) (I:List Xc) (ks ki:Xk) (id:ByteArray) (c:Xb) (k:Ed) (x:Xa) (u:Value) (X:World→Prop):Prop :=
 ∃ (s:Xk) (n:Xb) (I1:List Xc) (kl1:List Xm),KnR L I1∧I1.length≤I.length+1∧QK L I1 id n kl1∧u=.tuple #[.agg #[ks.v,s.v],n.v,.bool (decide ((n.acts.n:Int)=(c.acts.n:Int)+1))] ∧
  (∀ w,(Items w ki I∧X w)→Items w s I1∧n.at_ w)∧(0<c.actsL.length→id∈authI I→SizA I→n.acts.n=n.actsL.length→(n.acts.n:Int)=(c.acts.n:Int)+1→SgK L I I1 id c n k { x with time:=1 })
theorem nV (ks ki:Xk) {L:List Int} {I:List Xc} (hK:KnR L I) (hI:I.length<100) {id:ByteArray} {c:Xb} {kl:List Xm} (hQ:QK L I id c kl) (hcn:c.acts.n=c.actsL.length) (k:Ed) (x:Xa) (hx:x.Rng) (hs:x.Sm) :
  Mk prog 41 #[.agg #[ks.v,ki.v],c.v,k.v,x.v] (fun w=>(((Ints w ks L∧Items w ki I)∧c.at_ w)∧x.at_ w)∧Xe w) (SgR L I ks ki id c k x):=by
 have hG:=(fY hK hQ).len
 refine j7 (lL ks ki hK hI c aa k x hx hs) fun u X h=>?_
 obtain ⟨s3,s4,s,n,kl',e3,e4,hQ',rfl,hw⟩:=h
 have hK1:KnR L (addK L I (ofActI ((sgA k c x).re s3 s4))):=uK hK (mE (JA (k:=k) (c:=c) hx aa) e3 e4) (vS (Kj (k:=k) (c:=c) hs) e3 e4) rfl hI
 refine ⟨s,n,addK L I (ofActI ((sgA k c x).re s3 s4)),kl',hK1,FO L I _,by rw [←ji hQ];exact hQ',rfl,hw,fun h0 hau hz hnn hone=>?_⟩
 obtain ⟨hS,hQ1⟩:=Dq hK hQ h0 hcn hnn e3 e4 hQ' hone
 exact ⟨lE rfl hau,Do rfl hz (by show (sgA k c x).author∈authI I;rw [hS.author,ji hQ];exact hau),hS.len,_,fun l l1 hA hA1=>(De hK hK1 hQ h0 hau hS rfl hQ1 hA hA1).1⟩
structure SgM (L:List Int) (I:List Xc) (id:ByteArray) (c:Xb) (k:Ed) (x:Xa) where
 s:Xk
 n:Xb
 I1:List Xc
 kl1:List Xm
 b1:Nat
 b2:Nat
 hK:KnR L I1
 hl:I1.length≤I.length+1
 hQ:QK L I1 id n kl1
 hn:n.acts.n=n.actsL.length
 sg:0<c.actsL.length→id∈authI I→SizA I→(n.acts.n:Int)=(c.acts.n:Int)+1→SgK L I I1 id c n k { x with time:=1 }
end Go.Proofs.YtaolfiikahlmkaaGreatDoor
namespace Go.Proofs.YtaolfiikahlmkaaGreatDoor
open Go Go.Proofs Sy
section
variable {P:Program} {N:Nat} {av bor:List Nat} {w0:World}
theorem ku {K:Exit→St→Prop} {ι:Type} (M:ι→St) {x y z:Code} {st:St} (h1:Cw P N av bor w0 x st (thn (fun s=>Cw P N av bor w0 y s (thn (fun s=>∃ i,∀ a w,Ok N av bor w0 s a w→Ok N av bor w0 (M i) a w) K)) (thn (fun s=>∃ i,∀ a w,Ok N av bor w0 s a w→Ok N av bor w0 (M i) a w) K))) (h2:∀ i,Cw P N av bor w0 z (M i) K) :
  Cw P N av bor w0 x st (thn (fun s=>Cw P N av bor w0 y s (thn (fun s=>Cw P N av bor w0 z s K) K)) (thn (fun s=>Cw P N av bor w0 z s K) K)):=sd (fun e s h=>by
 cases e with
 | normal=>exact ib M h h2
 | _=>exact h) h1
end
theorem Hs {N:Nat} {av bor:List Nat} {w0:World} {E:Env} {r1 r2:Xl} {loc:List Xl} {X:World→Prop} {a:Act} {w:World} (ok:Ok N av bor w0 ⟨E,r1::r2::loc,X⟩ a w):Ok N av bor w0 ⟨E,r2::r1::loc,X⟩ a w:=ok.via fun M G=>G.perm ((List.Perm.swap _ _ _).append_right M)
theorem Ht {N:Nat} {av bor:List Nat} {w0:World} {E E':Env} {r1 r2:Xl} {loc l':List Xl} {X X':World→Prop} (he:sub E E') (hl:l'.Sublist (r2::r1::loc)) (hx:∀ w,X w→X' w):∀ a w,Ok N av bor w0 ⟨E,r1::r2::loc,X⟩ a w→Ok N av bor w0 ⟨E',l',X'⟩ a w:=fun a w hok=>ai he hl hx a w (Hs hok)
end Go.Proofs.YtaolfiikahlmkaaGreatDoor
namespace Go.Proofs.YtaolfiikahlmkaaGreatDoor
open Go Go.Proofs Sy
theorem uX {l:List Xb} (Ul:Er l) {id:ByteArray} {v:List Xa} (h0:viewC l id=some v) (d:ByteArray):findPV l d=findPV (nuN id v::(cano l).filter fun c=>!seqB c.id id) d:=by
 obtain ⟨p1,-⟩:=kw Ul.ids Ul.ids h0 h0 fun _ _=>rfl
 rw [←md,mc Ul.cano p1]
theorem jl {l:List Xb} (Ul:Er l) (hl:LenOk l) {id:ByteArray} {v:List Xa} (h0:viewC l id=some v) (x y:ByteArray):blockedV l x y=blockedV (nuN id v::(cano l).filter fun c=>!seqB c.id id) x y:=by
 obtain ⟨p1,-⟩:=kw Ul.ids Ul.ids h0 h0 fun _ _=>rfl
 rw [←jn hl,jm Ul.cano.ids p1]
theorem Bj {l:List Xb} (Ul:Er l) {id:ByteArray} {v:List Xa} (h0:viewC l id=some v):(l.flatMap postsV).Perm ((nuN id v::(cano l).filter fun c=>!seqB c.id id).flatMap postsV):=by
 obtain ⟨p1,-⟩:=kw Ul.ids Ul.ids h0 h0 fun _ _=>rfl
 rw [←jr]
 exact p1.flatMap_right postsV
section
variable {L:List Int} {I0 I1 I2:List Xc} {id:ByteArray} {c c1 c2:Xb} {k:Ed} {x1 x2 b1 b2:Xa} {l0 l1 l2:List Xb} {d t au ot:ByteArray} {p:Xd}
theorem wY {v:List Xa} {b:Xa} (hu:UndOk v) (hk:b.kind=10):BlockS id v (v++[b]) b.target:=⟨k9 (by rw [hk];rfl) (by rw [hk];decide) (by rw [hk];decide),fun y=>m7 hk y,fun k d h=>by
 rw [mI,mI,EJ hu (by rw [hk];omega) (by rw [hk];decide)]⟩
theorem wX (K0:KnR L I0) (S1:StepK L I0 I1 id c c1 k x1 b1 l0 l1 (c.actsL.map Xa.can)) (hu:UndOk (c.actsL.map Xa.can)) (hl0:LenOk l0) (hl1:LenOk l1) (k1:x1.kind=10) (t1:x1.target=t)
  (hb:id=au∧t=ot∨id=ot∧t=au) (hne:ot≠au) (h0:blockedV l0 ot au=false) (hf:findPV l0 d=some p) (hp:p.author=au) :
  (p.gone=true→tallyV l1 d=tallyV l0 d∧whoV l0 d 5=[]∧whoV l0 d 4=[]) ∧
  (p.gone=false→(tallyV l1 d).likes+(bif hasS (whoV l0 d 5) ot then 1 else 0)=(tallyV l0 d).likes∧(tallyV l1 d).boosts+(bif hasS (whoV l0 d 4) ot then 1 else 0)=(tallyV l0 d).boosts ∧
   (tallyV l1 d).replies+(l0.flatMap postsV).countP (repO d ot)=(tallyV l0 d).replies):=by
 subst hp
 have U0:=iL K0 S1.all
 have U1:=iL S1.right S1.all1
 obtain ⟨e0,w0⟩:=gR U0 U0 hl0 hl0 S1.view S1.view (fun _ _=>rfl) d
 obtain ⟨e1,w1⟩:=gR U0 U1 hl0 hl1 S1.view S1.view1 S1.far d
 have kb1:b1.can.kind=10:=S1.sign.kind.trans k1
 have tb1:b1.can.target=t:=S1.sign.target.trans t1
 have B:=wY (id:=id) hu kb1
 rw [tb1] at B
 rw [uX U0 S1.view] at hf
 rw [jl U0 hl0 S1.view] at h0
 rw [(Bj U0 S1.view).countP_eq]
 rw [e0,e1,w0,w0]
 generalize ((cano l0).filter fun c=>!seqB c.id id)=R at *
 have hlv:∀ v',postsV (nuN id v')=postsV (nuN id (c.actsL.map Xa.can))→findPV (nuN id v'::R) d=some p:=fun v' h=>by rw [←hf,findPV,findPV,iX h]
 have hid:p.id=d:=seqB_iff.1 (List.find?_some (p:=isPost d) hf)
 constructor
 · intro hg
   have n0:liveV (nuN id (c.actsL.map Xa.can)::R) d=none:=by rw [liveV,hf];simp only [hg];rfl
   have n1:liveV (nuN id (c.actsL.map Xa.can++[b1.can])::R) d=none:=by rw [liveV,hlv _ B.posts];simp only [hg];rfl
   exact ⟨by rw [tallyV,tallyV,n0,n1],by rw [whoV,n0];rfl,by rw [whoV,n0];rfl⟩
 · intro hg
   have n0:liveV (nuN id (c.actsL.map Xa.can)::R) d=some p:=by rw [liveV,hf];simp only [hg];rfl
   have n1:liveV (nuN id (c.actsL.map Xa.can++[b1.can])::R) d=some p:=by rw [liveV,hlv _ B.posts];simp only [hg];rfl
   rw [tallyV,tallyV,whoV,whoV,n0,n1]
   refine ⟨mo B hb hne (.inr rfl),mo B hb hne (.inl rfl),?_⟩
   show ((nuN id (c.actsL.map Xa.can++[b1.can])::R).flatMap postsV).countP (repB (nuN id (c.actsL.map Xa.can++[b1.can])::R) d p.author)+_=_
   rw [iX B.posts]
   exact tZ d B hb hne h0 _
theorem pO (K0:KnR L I0) (S1:StepK L I0 I1 id c c1 k x1 b1 l0 l1 (c.actsL.map Xa.can)) (S2:StepK L I1 I2 id c1 c2 k x2 b2 l1 l2 (c1.actsL.map Xa.can)) (hu:UndOk (c.actsL.map Xa.can)) (hl0:LenOk l0) (hl2:LenOk l2) (k1:x1.kind=10) (t1:x1.target=t)
  (hb:id=au∧t=ot∨id=ot∧t=au) (h0:blockedV l0 ot au=false) (k2:x2.kind=6) (i2:idxV c1.actsL x2.object=some c.actsL.length):tallyV l2 d=tallyV l0 d:=by
 have U0:=iL K0 S1.all
 have U2:=iL S2.right S2.all1
 obtain ⟨e0,w0⟩:=gR U0 U0 hl0 hl0 S1.view S1.view (fun _ _=>rfl) d
 obtain ⟨e2,w2⟩:=gR U0 U2 hl0 hl2 S1.view S2.view1 (fun a ha=>(S2.far a ha).trans (S1.far a ha)) d
 have hv1:c1.actsL.map Xa.can=c.actsL.map Xa.can++[b1.can]:=S1.sign.acts
 rw [hv1] at e2
 have kb1:b1.can.kind=10:=S1.sign.kind.trans k1
 have tb1:b1.can.target=t:=S1.sign.target.trans t1
 have kb2:b2.can.kind=6:=S2.sign.kind.trans k2
 have j2:idxV (c.actsL.map Xa.can++[b1.can]++[b2.can]) b2.can.object=some (c.actsL.map Xa.can).length:=by
  rw [show b2.can.object=x2.object from S2.sign.object,←hv1,kj (by rw [wT,i2];rfl),wT,i2,ZE]
 have hu1:UndOk (c.actsL.map Xa.can++[b1.can]):=vF hu fun h=>absurd (h.symm.trans kb1) (by decide)
 rw [jl U0 hl0 S1.view,blockedV,Qj,hasS_false,hasS_false] at h0
 have hn:b1.can.target∉(tieE (c.actsL.map Xa.can)).b:=by
  rw [tb1]
  rcases hb with ⟨rfl,rfl⟩|⟨rfl,rfl⟩
  · have:=h0.2
    rwa [fI] at this
  · have:=h0.1
    rwa [fI] at this
 rw [e0,e2]
 refine sx ((k9 (by rw [kb2];rfl) (by rw [kb2];decide) (by rw [kb2];decide)).trans (k9 (by rw [kb1];rfl) (by rw [kb1];decide) (by rw [kb1];decide))) (fun y=>ri kb1 kb2 j2 hn y) fun q e hq=>?_
 rw [mI,mI,HH hu1 kb2 aa j2 (by rw [gJ,kb1];omega),EJ hu (by rw [kb1];omega) (by rw [kb1];decide)]
end
def restL (l:List Xb) (at_:Int):Nat→List Xb
 | 0=>[]
 | k+1=>restL l at_ k++(bif decide (((l.length-1-k:Nat):Int)=at_) then [] else [l.getD (l.length-1-k) Xb.zero])
end Go.Proofs.YtaolfiikahlmkaaGreatDoor
namespace Go.Proofs.YtaolfiikahlmkaaGreatDoor
open Go Go.Proofs Sy
section
variable {N:Nat} {av bor:List Nat} {w0:World} {x y:Operand} {t t2:TypeId} {ty:TypeId} {st:St}
end
end Go.Proofs.YtaolfiikahlmkaaGreatDoor
namespace Go.Proofs.YtaolfiikahlmkaaGreatDoor
open Go Go.Proofs Sy
theorem Dj {a:Xa} (hr:a.Rng) (h:rightB a=true) (ht:a.target.size≤maxLen):a.Sm:=by
 simp only [rightB,Zq] at h
 have hB:=mi hr h.2
 have h1:=hB.to.len
 have h2:=hB.wraps.len
 have h3:=hr.to_len
 have h4:=hr.wraps_len
 exact ⟨by omega,by omega,ht⟩
theorem BP {a:Xa} (h:actZ a=true):a.to.n=0∧a.wraps.n=0:=by
 simp only [actZ,Zq,Zv] at h
 omega
theorem GQ {i:Xc} (hs:i.Str) (h:rightIt i=true):i.act.Sm:=by
 rw [rightIt,Zq] at h
 obtain ⟨h1,h2⟩:=h
 have ht:=hs.act.target
 by_cases h0:i.kind=0
 · rw [rightK2,Ze h0,Zg] at h1
   exact Dj hs.rng h1 ht
 · have hz:actZ i.act=true:=by
    rw [rightK2,Zd h0,Zf] at h1
    rw [restI,Zd h0,Zf] at h2
    by_cases k1:i.kind=1
    · rw [Ze k1,Zg,sameIZ,Zq,Zq] at h2
      exact h2.2.1
    · rw [Zd k1,Zf] at h1 h2
      by_cases k2:i.kind=2
      · rw [Ze k2,Zg,sameIZ,Zq,Zq] at h2
        exact h2.2.1
      · rw [Zd k2,Zf] at h1 h2
        by_cases k3:i.kind=3
        · rw [Ze k3,Zg,sameIZ,Zq,Zq] at h2
          exact h2.2.1
        · rw [Zd k3,Zf] at h1
          cases h1
   obtain ⟨e1,e2⟩:=BP hz
   exact ⟨by omega,by omega,ht⟩
theorem A7 {L:List Int} {I:List Xc} (h:rightKn L I=true) (hl:I.length≤100) (hs:∀ i∈I,i.Str) (hd:∀ i∈I,i.dec.to.n=i.dec.toL.length):KnR L I :=
 JK h hl (fun i hi=>(hs i hi).rng) (fun i hi=>GQ (hs i hi) (by
  have h1:=ip h i hi
  rw [signedIt,Zq] at h1
  exact h1.1)) hd
end Go.Proofs.YtaolfiikahlmkaaGreatDoor
namespace Go.Proofs.YtaolfiikahlmkaaGreatDoor
open Go Go.Proofs Sy Tryz
section
variable {N:Nat} {av bor:List Nat} {w0:World} {x y:Operand} {t2:TypeId} {ty:TypeId} {st:St}
theorem IT (a:Eq) (hx:ev st.env x=some a.v) (hy:ev st.env y=some a.v):Sy.Yields prog N av bor w0 st (.binOp .neq 64 x y t2) ty (.bool false):=Sy.Yields.mk fun A w ok d pos af g=>by
 have h1:=run_eqGuard_agg (P:=prog) w .neq 64 x y a.cells.toArray a.cells.toArray aj
 have h2:=run_neq_struct (P:=prog) w 64 a.cells.toArray a.cells.toArray
 have h3:=tA w 9998 a
 simp only [Eq.v] at hx hy h3
 simp [execOp,ok.eval hx,ok.eval hy,h1,h2,h3]
end
structure RevJ (l:List Xb) (at_:Int) where
 k:Nat
 hk:k≤l.length
 A:Option Addr
 c:Nat
 xs:List Value
 hxs:xs=((l.reverse.take k).map Xb.cells).flatten
 m:Nat
 hm:m=(restL l at_ k).length
 A2:Option Addr
 c2:Nat
 ys:List Value
 hys:ys=((restL l at_ k).map Xb.cells).flatten
structure OwnI (l:List Xa) (B:Bool) where
 k:Nat
 hk:k≤l.length
 g:Bool
 hg:g=false→B=false∧∀ j a,j<k→l[j]?=some a→a.kind≠2
theorem kO (s:Xk) {L:List Int} {I:List Xc} {l:List Xb} (hK:KnR L I) (hA:AllK L I l) (hz:SizA I) (hI:I.length≤100) (d:ByteArray):Pu prog 22 #[s.v,.string d] (fun w=>Chains w s l∧Xe w) (tallyV l d).v :=
 jH s l d (fun c hc=>(kE hK hA c hc).1) (fun c hc=>ZW (kE hK hA c hc).2 (by decide)) (lF hz hA) (ZW (pt hA) aa)
theorem xt (s:Xk) {L:List Int} {I:List Xc} {l:List Xb} (hK:KnR L I) (hA:AllK L I l) (hz:SizA I) (hI:I.length≤100) (d:ByteArray) (kind:Int) :
  Mk prog 23 #[s.v,.string d,.int .i64 kind] (fun w=>Chains w s l∧Xe w) (StrsAt (whoV l d kind)) :=
 j7 (q9 s l d kind (fun c hc=>(kE hK hA c hc).1) (fun c hc=>ZW (kE hK hA c hc).2 (by decide)) (lF hz hA) (ZW (pt hA) aa)) fun u X ⟨so,h1,_,h2⟩=>⟨so,h1,h2⟩
end Go.Proofs.YtaolfiikahlmkaaGreatDoor
namespace Go.Proofs.YtaolfiikahlmkaaGreatDoor
open Go Go.Proofs Sy
theorem zZ (l:List Xb) (d:ByteArray):(tallyV l d).likes≤l.length∧(tallyV l d).boosts≤l.length:=by
 rw [tallyV]
 cases liveV l d with
 | none=>exact ⟨Z2 _,Z2 _⟩
 | some p=>exact ⟨gg _ _ _,gg _ _ _⟩
end Go.Proofs.YtaolfiikahlmkaaGreatDoor
namespace Go.Proofs.YtaolfiikahlmkaaGreatDoor
open Go Go.Proofs Sy Tryz
section
variable {N:Nat} {av bor:List Nat} {w0:World} {x y:Operand} {t2:TypeId} {ty:TypeId} {st:St}
theorem F0 (a:Eq) {u:Value} (hu:u=a.v) (hx:ev st.env x=some a.v) (hy:ev st.env y=some u):Sy.Yields prog N av bor w0 st (.binOp .neq 64 x y t2) ty (.bool false):=IT a hx (hu▸hy)
end
theorem BR (w:World):Xb.zero.at_ w:=⟨bz w 20,fun x h=>(Qi h).elim⟩
theorem vp {L:List Int} {I:List Xc} {l:List Xb} (hz:SizA I) (hA:AllK L I l) {d:ByteArray} {q:Xd} (h:findPV l d=some q):∃ c∈l,c.id=q.author∧c.id.size≤maxLen:=by
 obtain ⟨c,hc,hq⟩:=List.mem_flatMap.1 (Qx h)
 exact ⟨c,hc,(la hq).choose_spec.2.2.1.symm,lF hz hA c hc⟩
theorem zY {l:List Xb} {P:List Xd} (hP:(P.map Xd.can).Perm (l.flatMap postsV)) (hl:P.length≤1000000) (d:ByteArray):(tallyV l d).replies≤1000000:=by
 rw [tallyV]
 cases liveV l d with
 | none=>exact Z2 _
 | some p =>
  have h1:=List.countP_le_length (p:=repB l d p.author) (l:=l.flatMap postsV)
  have h2:=hP.length_eq
  rw [ZE] at h2
  show (l.flatMap postsV).countP (repB l d p.author)≤_
  omega
set_option maxRecDepth 20000 in
theorem nM (ks ki:Xk) (L:List Int) (I:List Xc) (hs:∀ i∈I,i.Str) (hd:∀ i∈I,i.dec.to.n=i.dec.toL.length) (on other:ByteArray) (hot:other.size≤maxLen) (k:Ed) (by_:Bool) :
  Pu prog 8 #[.agg #[ks.v,ki.v],.string on,.string other,k.v,.bool by_] (fun w=>(Ints w ks L∧Items w ki I)∧Xe w) (.bool true):=by
 have hsm:=vR
 have hrt:=rK ks ki L I hs hd
 refine ax func8 ntmps8 fun av bor w0=>?_
 refine aQ (p:=ki.n=I.length) (fun w h=>h.1.2.len_) fun hkin=>?_
 by_cases hbig:30<(ki.n:Int)
 · cases hR:rightKn L I
   all_goals
    rw [hR] at hrt
    repeat' (first|(refine ae (hc:=hsm) ?_)|(refine ae (hc:=hrt) ?_)|refine gs ?_|refine gs1 fun _=>?_|(refine gp ?_ ?_<;>intro hx_ this)|fail)
    all_goals first
     | exact ab (ag rfl rfl) rfl
     | (exfalso;omega)
 cases hR:rightKn L I with
 | false =>
  rw [hR] at hrt
  repeat' (first|refine eQ ?_|(refine ae (hc:=hsm) ?_)|(refine ae (hc:=hrt) ?_)|refine gs ?_|refine gs1 fun _=>?_|fail)
  all_goals first
   | exact ab (ag rfl rfl) rfl
 | true =>
  rw [hR] at hrt
  have hK:=A7 hR aa hs hd
  repeat' (first|refine eQ ?_|(refine ae (hc:=hsm) ?_)|(refine ae (hc:=hrt) ?_)|(refine bF (hc:=sF ks ki hK) fun v X1 h1=>?_;obtain ⟨s1,l1,hA1,rfl,hw1⟩:=h1)|refine gs ?_|refine gs1 fun _=>?_|fail)
  rename_i b5 b8
  have hfe:=Fa s1 l1
  have hok1:=kE hK hA1
  have hz:=Dn hs
  have hln:=pt hA1
  have hfP:=oU s1 l1 on (fun c hc=>(hok1 c hc).1) (fun c hc=>ZW (hok1 c hc).2 (by decide))
  repeat' (first|(refine bF (hc:=hfP) (hX:=fun w h=>⟨hw1 w h.2,h.1.2⟩) fun v X2 h2=>?_;obtain ⟨p,rfl,hfp⟩:=h2)|refine gs ?_|refine gs1 fun _=>?_|fail)
  rename_i b13
  obtain ⟨PB,hPB⟩:∃ x,(findPV l1 on).isSome=x:=⟨_,rfl⟩
  rw [hPB]
  have hbl:=pj s1 l1 other p.author fun c hc=>(hok1 c hc).1
  obtain ⟨BV,hBV⟩:∃ x,blockedV l1 other p.author=x:=⟨_,rfl⟩
  rw [hBV] at hbl
  obtain ⟨FW,hFW⟩:∃ x,fewV l1=x:=⟨_,rfl⟩
  rw [hFW] at hfe
  cases hoa:seqB other p.author with
  | true =>
   cases FW<;>cases PB
   all_goals (as_aux_lemma =>
    repeat' (first|refine aT ?_ (cJ _ rfl rfl hoa)|(refine ae (hc:=hfe) (hX:=fun w h=>hw1 w h.1.2) ?_)|refine gs ?_|fail)
    all_goals first
     | exact ab (ag rfl rfl) rfl)
  | false =>
  cases FW with
  | false =>
   as_aux_lemma =>
   repeat' (first|(refine ae (hc:=hfe) (hX:=fun w h=>hw1 w h.1.2) ?_)|refine gs ?_|fail)
   all_goals first
    | exact ab (ag rfl rfl) rfl
  | true =>
  cases PB with
  | false =>
   as_aux_lemma =>
   repeat' (first|(refine ae (hc:=hfe) (hX:=fun w h=>hw1 w h.1.2) ?_)|refine gs ?_|fail)
   all_goals first
    | exact ab (ag rfl rfl) rfl
  | true =>
  cases BV with
  | true =>
   as_aux_lemma =>
   repeat' (first|refine aT ?_ (cJ _ rfl rfl hoa)|(refine ae (hc:=hfe) (hX:=fun w h=>hw1 w h.1.2) ?_)|(refine ae (hc:=hbl) (hX:=fun w h=>⟨hw1 w h.1.2,h.1.1.2⟩) ?_)|refine gs ?_|fail)
   all_goals first
    | exact ab (ag rfl rfl) rfl
  | false =>
  obtain ⟨q,hq⟩:=QM.1 hPB
  have hpq:p.can=q:=by rw [hfp,hq];rfl
  have hqa:q.author=p.author:=by rw [←hpq];rfl
  have hqg:q.gone=p.gone:=by rw [←hpq];rfl
  obtain ⟨ca,hca,hcai,hcas⟩:=vp hz hA1 hq
  repeat' (first|refine aT ?_ (cJ false rfl rfl hoa)|apply aJ|apply QQ|refine aW ?_|refine bD ?_|refine bU ?_|refine aX ?_|refine gl ?_|refine QV ?_|apply QT|(refine ae (hc:=hfe) (hX:=fun w h=>hw1 w h.1.2) ?_)|(refine ae (hc:=hbl) (hX:=fun w h=>⟨hw1 w h.1.2,h.1.1.2⟩) ?_)|fail)
  refine QR (h:=?_)
  repeat' (first|apply aJ|apply QQ|refine aO ?_|refine bD ?_|refine bU ?_|fail)
  refine QR (h:=?_)
  repeat' (first|apply aJ|apply QQ|refine aW ?_|refine aO ?_|fail)
  obtain ⟨BL,hBL⟩:∃ x,(bif by_ then other else p.author)=x:=⟨_,rfl⟩
  obtain ⟨TG,hTG⟩:∃ x,(bif by_ then p.author else other)=x:=⟨_,rfl⟩
  have hts:TG.size≤maxLen:=by
   rw [←hTG]
   cases by_ with
   | true=>show p.author.size≤_;rw [←hqa,←hcai];exact hcas
   | false=>exact hot
  have hbt:BL=p.author∧TG=other∨BL=other∧TG=p.author:=by
   rw [←hBL,←hTG]
   cases by_ with
   | true=>exact .inr ⟨rfl,rfl⟩
   | false=>exact .inl ⟨rfl,rfl⟩
  refine ku (ι:=Unit) (fun _=>⟨[(1,.string on),(2,.string other),(5,.pointer (some ⟨b5,0,none⟩)),(8,.pointer (some ⟨b8,0,none⟩)),(11,.bool true),(12,s1.v),(13,.pointer (some ⟨b13,0,none⟩)),(15,.string BL),(16,.string TG)],[cel b13 68 p.cells,cel b8 27 k.v.cells.toList,cel b5 25 [ks.v,ki.v]],fun w=>((Ints w ks L∧Items w ki I)∧Xe w)∧Chains w s1 l1⟩) ?_ fun _=>?_
  · subst hBL hTG
    cases by_
    all_goals
     repeat' (first|refine gs ?_|fail)
     all_goals first
      | exact ⟨(),ai am (ak _) fun w h=>⟨h.1.1,hw1 w h.1.2⟩⟩
  have hfi:=yG s1 l1 BL
  cases hfc:findC l1 BL with
  | none =>
   rw [hfc] at hfi
   replace hfi:Pu prog 12 #[s1.v,.string BL] (fun w=>Chains w s1 l1) (.tuple #[Xb.zero.v,.bool false]):=hfi
   repeat' (first|(refine ae (hc:=hfi) ?_)|(refine bF (hc:=lL ks ki hK aa Xb.zero (by decide) k (blkX TG) (vn TG) (yU hts)) (hX:=fun w h=>⟨⟨⟨h.1.1,BR w⟩,yV w _⟩,h.1.2⟩) fun v X4 h4=>?_;obtain ⟨s3,s4,s5,n,kl',e3,e4,hQ',rfl,hw4⟩:=h4)|refine gs ?_|refine gs1 fun _=>?_|(refine aG (cs:=(blkX TG).cells) (hf:=by rfl) ?_)|fail)
   all_goals first
    | exact ab (ag rfl rfl) rfl
  | some c =>
  rw [hfc] at hfi
  replace hfi:Pu prog 12 #[s1.v,.string BL] (fun w=>Chains w s1 l1) (.tuple #[c.v,.bool true]):=hfi
  obtain ⟨kl,hQ,h0,hau⟩:=BJ hA1 hfc
  have G:=fY hK hQ
  have hG1:=G.len
  have hcm:=Qx hfc
  refine aQ (p:=c.acts.n=c.actsL.length∧LenOk l1) (fun w h=>⟨(h.2.2 c hcm).len_,fun c hc=>(h.2.2 c hc).len_⟩) fun ⟨hcn,hL1⟩=>?_
  repeat' (first|(refine ae (hc:=hfi) ?_)|refine gs ?_|refine gs1 fun _=>?_|fail)
  rename_i b17
  repeat' (first|apply aJ|apply QQ|refine aW ?_|refine aO ?_|refine dO ?_|refine aY fun _=>?_|refine aS ?_|(refine aG (cs:=(blkX TG).cells) (hf:=by rfl) ?_)|(refine bF (hc:=nV ks ki hK aa hQ hcn k (blkX TG) (vn TG) (yU hts)) (hX:=fun w h=>⟨⟨⟨h.1.1,h.2.2 c hcm⟩,yV w _⟩,h.1.2⟩) fun v X4 h4=>?_;obtain ⟨s4,n,I2,kl2,hK2,hl2,hQ2,rfl,hw4,hg1⟩:=h4)|fail)
  rename_i b19 b20
  refine aQ (p:=n.acts.n=n.actsL.length) (fun w h=>(hw4 w ⟨h.1.1.1.2,h.2⟩).2.len_) fun hnn=>?_
  obtain ⟨B1,hB1⟩:∃ x,decide ((n.acts.n:Int)=(c.acts.n:Int)+1)=x:=⟨_,rfl⟩
  rw [hB1]
  refine mf (st':=⟨[(1,.string on),(2,.string other),(8,.pointer (some ⟨b8,0,none⟩)),(11,.bool true),(12,s1.v),(13,.pointer (some ⟨b13,0,none⟩)),(17,.pointer (some ⟨b17,0,none⟩)),(18,.bool true),(19,.pointer (some ⟨b19,0,none⟩)),(20,.pointer (some ⟨b20,0,none⟩)),(21,.bool B1)],[cel b20 35 n.cells,cel b19 25 [ks.v,s4.v],cel b17 35 c.cells,cel b13 68 p.cells,cel b8 27 k.v.cells.toList],fun w=>((Ints w ks L∧Xe w)∧Chains w s1 l1)∧(Items w s4 I2∧n.at_ w)⟩) (ai am (.cons_cons _ (.cons_cons _ (.cons_cons _ (.cons_cons _ (.cons_cons _ (.cons _ (Zt _))))))) fun w h=>⟨⟨⟨h.1.1.1.1,h.1.1.2⟩,h.1.2⟩,hw4 w ⟨h.1.1.1.2,h.2⟩⟩) ?_
  cases B1 with
  | false =>
   repeat' (first|refine gs ?_|fail)
   all_goals first
    | exact ab (ag rfl rfl) rfl
  | true =>
  have S1:=hg1 h0 hau hz hnn (bA hB1)
  have hnl:n.actsL.length=c.actsL.length+1:=S1.len
  have G2:=fY hK2 hQ2
  have hok0:∀ c∈l1,Xw c.actsL:=fun c hc=>(hok1 c hc).1
  have hlen0:∀ c∈l1,c.actsL.length≤1000:=fun c hc=>ZW (hok1 c hc).2 (by decide)
  repeat' (first|(refine bF (hc:=yY s1 l1 hok0 hlen0 aa) (hX:=fun w h=>⟨h.1.2,h.1.1.2⟩) fun v X7 h7=>?_;obtain ⟨s7,Q,rfl,hQp,hQl,hQw⟩:=h7)|refine gs ?_|fail)
  refine aQ (p:=s7.n=Q.length∧s7.n≤maxLen∧(0<Q.length→s7.p.isSome=true)) (fun w h=>⟨by simpa using Xf.len (hQw w h.2),ZW (Xf.cap (hQw w h.2)) (Xf.max (hQw w h.2)),fun h0=>(Xf.row (hQw w h.2) 0 Q[0].cells (by simp [Zc h0])).2.1⟩) fun ⟨hl7,hm7,hp7⟩=>?_
  simp only [maxLen] at hm7
  refine aq (ι:=TalI Q (repO on other)) (fun i=>⟨[(1,.string on),(2,.string other),(8,.pointer (some ⟨b8,0,none⟩)),(11,.bool true),(12,s1.v),(13,.pointer (some ⟨b13,0,none⟩)),(17,.pointer (some ⟨b17,0,none⟩)),(19,.pointer (some ⟨b19,0,none⟩)),(20,.pointer (some ⟨b20,0,none⟩)),(22,.int .i64 (i.n:Nat)),(23,s7.v),(24,.int .i64 (i.k:Nat))],[cel b20 35 n.cells,cel b19 25 [ks.v,s4.v],cel b17 35 c.cells,cel b13 68 p.cells,cel b8 27 k.v.cells.toList],fun w=>(((Ints w ks L∧Xe w)∧Chains w s1 l1)∧(Items w s4 I2∧n.at_ w))∧X7 w⟩) (fun i=>Q.length-i.k) ⟨0,Z2 _,0,rfl⟩ (ai am (ak _) fun _ h=>h) fun i=>?_
  obtain ⟨j,hj,m,hm⟩:=i
  simp only
  have hmm:m≤1000000:=by have:=List.countP_le_length (p:=repO on other) (l:=Q.take j);rw [←hm,Qg] at this;omega
  by_cases hlt:j<Q.length
  · have hp':=hp7 aa
    obtain ⟨q2,hq2⟩:∃ q,Q[j]?=some q:=⟨_,Zc hlt⟩
    have htk:(Q.take (j+1)).countP (repO on other)=m+(bif repO on other q2 then 1 else 0):=by
     rw [Qe,hq2,List.countP_append,←hm,Qs,List.countP_cons,List.countP_nil]
     cases repO on other q2<;>rfl
    have hqr:∀ w,((((Ints w ks L∧Xe w)∧Chains w s1 l1)∧(Items w s4 I2∧n.at_ w))∧X7 w)→_:=fun w h=>Xf.row (hQw w h.2) j q2.cells (by simp [hq2])
    have hqA:∀ w,((((Ints w ks L∧Xe w)∧Chains w s1 l1)∧(Items w s4 I2∧n.at_ w))∧X7 w)→CellAt w s7.p (j*11+1) (.string q2.author):=fun w h=>(hqr w h).2.2 1 _ rfl
    have hqK:∀ w,((((Ints w ks L∧Xe w)∧Chains w s1 l1)∧(Items w s4 I2∧n.at_ w))∧X7 w)→CellAt w s7.p (j*11+3) (.int .i64 q2.kind):=fun w h=>(hqr w h).2.2 3 _ rfl
    have hqO:∀ w,((((Ints w ks L∧Xe w)∧Chains w s1 l1)∧(Items w s4 I2∧n.at_ w))∧X7 w)→CellAt w s7.p (j*11+7) (.string q2.object):=fun w h=>(hqr w h).2.2 7 _ rfl
    have hqG:∀ w,((((Ints w ks L∧Xe w)∧Chains w s1 l1)∧(Items w s4 I2∧n.at_ w))∧X7 w)→CellAt w s7.p (j*11+10) (.bool q2.gone):=fun w h=>(hqr w h).2.2 10 _ rfl
    have hrp:repO on other q2=(decide (q2.kind=2)&&seqB q2.object on&&!q2.gone&&seqB q2.author other):=rfl
    obtain ⟨qk,hqk⟩:∃ x,decide (q2.kind=2)=x:=⟨_,rfl⟩
    obtain ⟨qo,hqo⟩:∃ x,seqB q2.object on=x:=⟨_,rfl⟩
    obtain ⟨qa,hqa2⟩:∃ x,seqB q2.author other=x:=⟨_,rfl⟩
    obtain ⟨qg,hqg2⟩:∃ x,q2.gone=x:=⟨_,rfl⟩
    rw [hqk,hqo,hqa2,hqg2] at hrp
    rw [hrp] at htk
    simp only [hqg2] at hqG
    by_cases hyes:qk=true∧qo=true∧qg=false∧qa=true
    · obtain ⟨rfl,rfl,rfl,rfl⟩:=hyes
      repeat' (first|refine aT ?_ (bZ true rfl rfl (Ze aa))|refine aT ?_ (d9 true rfl rfl hqk)|refine aT ?_ (cJ true rfl rfl hqo)|refine aT ?_ (cJ true rfl rfl hqa2)|refine gs ?_|(refine aD (q:=j*11) ?_)|(refine d6 ?_)|(refine cB (q:=j*11+3) (u:=.int .i64 q2.kind) (hF:=hqK) ?_)|(refine cB (q:=j*11+7) (u:=.string q2.object) (hF:=hqO) ?_)|(refine cB (q:=j*11+10) (u:=.bool false) (hF:=hqG) ?_)|(refine cB (q:=j*11+1) (u:=.string q2.author) (hF:=hqA) ?_)|fail)
      all_goals first
       | exact ⟨(⟨j+1,hlt,m+1,htk.symm⟩:TalI Q (repO on other)),(by show Q.length-(j+1)<Q.length-j;omega),ai am (ak _) fun _ h=>h⟩
    · have hno:(Q.take (j+1)).countP (repO on other)=m:=by
       rw [htk]
       cases qk<;>cases qo<;>cases qg<;>cases qa
       all_goals first
        | rfl
        | (refine absurd ⟨?_,?_,?_,?_⟩ hyes<;>rfl)
      clear htk hrp
      cases qk with
      | false =>
       as_aux_lemma =>
       repeat' (first|refine aT ?_ (bZ true rfl rfl (Ze aa))|refine aT ?_ (d9 _ rfl rfl hqk)|refine gs ?_|(refine aD (q:=j*11) ?_)|(refine d6 ?_)|(refine cB (q:=j*11+3) (u:=.int .i64 q2.kind) (hF:=hqK) ?_)|fail)
       all_goals first
        | exact ⟨(⟨j+1,hlt,m,hno.symm⟩:TalI Q (repO on other)),(by show Q.length-(j+1)<Q.length-j;omega),ai am (ak _) fun _ h=>h⟩
      | true =>
      cases qo with
      | false =>
       as_aux_lemma =>
       repeat' (first|refine aT ?_ (bZ true rfl rfl (Ze aa))|refine aT ?_ (d9 _ rfl rfl hqk)|refine aT ?_ (cJ _ rfl rfl hqo)|refine gs ?_|(refine aD (q:=j*11) ?_)|(refine d6 ?_)|(refine cB (q:=j*11+3) (u:=.int .i64 q2.kind) (hF:=hqK) ?_)|(refine cB (q:=j*11+7) (u:=.string q2.object) (hF:=hqO) ?_)|fail)
       all_goals first
        | exact ⟨(⟨j+1,hlt,m,hno.symm⟩:TalI Q (repO on other)),(by show Q.length-(j+1)<Q.length-j;omega),ai am (ak _) fun _ h=>h⟩
      | true =>
      cases qg with
      | true =>
       as_aux_lemma =>
       repeat' (first|refine aT ?_ (bZ true rfl rfl (Ze aa))|refine aT ?_ (d9 _ rfl rfl hqk)|refine aT ?_ (cJ _ rfl rfl hqo)|refine gs ?_|(refine aD (q:=j*11) ?_)|(refine d6 ?_)|(refine cB (q:=j*11+3) (u:=.int .i64 q2.kind) (hF:=hqK) ?_)|(refine cB (q:=j*11+7) (u:=.string q2.object) (hF:=hqO) ?_)|(refine cB (q:=j*11+10) (hF:=hqG) ?_)|fail)
       all_goals first
        | exact ⟨(⟨j+1,hlt,m,hno.symm⟩:TalI Q (repO on other)),(by show Q.length-(j+1)<Q.length-j;omega),ai am (ak _) fun _ h=>h⟩
      | false =>
      cases qa with
      | false =>
       as_aux_lemma =>
       repeat' (first|refine aT ?_ (bZ true rfl rfl (Ze aa))|refine aT ?_ (d9 _ rfl rfl hqk)|refine aT ?_ (cJ _ rfl rfl hqo)|refine aT ?_ (cJ _ rfl rfl hqa2)|refine gs ?_|(refine aD (q:=j*11) ?_)|(refine d6 ?_)|(refine cB (q:=j*11+3) (u:=.int .i64 q2.kind) (hF:=hqK) ?_)|(refine cB (q:=j*11+7) (u:=.string q2.object) (hF:=hqO) ?_)|(refine cB (q:=j*11+10) (hF:=hqG) ?_)|(refine cB (q:=j*11+1) (u:=.string q2.author) (hF:=hqA) ?_)|fail)
       all_goals first
        | exact ⟨(⟨j+1,hlt,m,hno.symm⟩:TalI Q (repO on other)),(by show Q.length-(j+1)<Q.length-j;omega),ai am (ak _) fun _ h=>h⟩
      | true=>exact absurd ⟨rfl,rfl,rfl,rfl⟩ hyes
  have hjE:j=Q.length:=by omega
  have hcnt:(l1.flatMap postsV).countP (repO on other)=m:=by
   rw [←hQp.countP_eq,List.countP_map,hm,hjE,Qf]
   rfl
  have ht0:=kO s1 hK hA1 hz aa on
  have htbn:=zZ l1 on
  obtain ⟨T0,hT0⟩:∃ T,tallyV l1 on=T:=⟨_,rfl⟩
  rw [hT0] at ht0 htbn
  have hrpb:T0.replies≤1000000:=by rw [←hT0];exact zY hQp hQl on
  have hwl:=xt s1 hK hA1 hz aa on 5
  have hwb:=xt s1 hK hA1 hz aa on 4
  have hhl:=fun s:Xk=>uQ s (whoV l1 on 5) other
  have hhb:=fun s:Xk=>uQ s (whoV l1 on 4) other
  simp only [wF] at hhl hhb
  obtain ⟨HL,hHL⟩:∃ x,hasS (whoV l1 on 5) other=x:=⟨_,rfl⟩
  obtain ⟨HB,hHB⟩:∃ x,hasS (whoV l1 on 4) other=x:=⟨_,rfl⟩
  simp only [hHL] at hhl
  simp only [hHB] at hhb
  obtain ⟨PG,hPG⟩:∃ x,p.gone=x:=⟨_,rfl⟩
  obtain ⟨a1,ha1⟩:∃ a:Int,(T0.likes:Int)-(bif HL then 1 else 0)=a:=⟨_,rfl⟩
  obtain ⟨a2,ha2⟩:∃ a:Int,(T0.boosts:Int)-(bif HB then 1 else 0)=a:=⟨_,rfl⟩
  obtain ⟨a3,ha3⟩:∃ a:Int,(bif PG then (T0.replies:Int) else (T0.replies:Int)-(m:Nat))=a:=⟨_,rfl⟩
  have hLaw:∀ l2,AllK L I2 l2→LenOk l2→(Value.agg #[.int .i64 a1,.int .i64 a2,.int .i64 a3])=(tallyV l2 on).v:=fun l2 hA2 hL2=>by
   obtain ⟨d1,E1⟩:=S1.step
   obtain ⟨hg,hn⟩:=wX (d:=on) (au:=p.author) (ot:=other) (t:=TG) hK (E1 l1 l2 hA1 hA2) (pW (sU hK hQ)) hL1 hL2 rfl rfl hbt (seqB_ne.1 hoa) hBV hq hqa
   rw [hT0,hqg,hPG] at hg hn
   rw [hHL,hHB,hcnt] at hn
   obtain ⟨T2,hT2⟩:∃ T,tallyV l2 on=T:=⟨_,rfl⟩
   rw [hT2] at hg hn ⊢
   show _=Value.agg #[.int .i64 (T2.likes:Nat),.int .i64 (T2.boosts:Nat),.int .i64 (T2.replies:Nat)]
   have h3:a1=(T2.likes:Nat)∧a2=(T2.boosts:Nat)∧a3=(T2.replies:Nat):=by
    rw [←ha1,←ha2,←ha3]
    cases PG with
    | true =>
     obtain ⟨e1,e2,e3⟩:=hg rfl
     have f1:HL=false:=by rw [←hHL,e2];rfl
     have f2:HB=false:=by rw [←hHB,e3];rfl
     rw [f1,f2,e1]
     refine ⟨?_,?_,rfl⟩<;>show _-(0:Int)=_<;>omega
    | false =>
     obtain ⟨e1,e2,e3⟩:=hn rfl
     refine ⟨?_,?_,?_⟩
     · cases HL
       · show _-(0:Int)=_;simp only [Zf] at e1;omega
       · show _-(1:Int)=_;simp only [Zg] at e1;omega
     · cases HB
       · show _-(0:Int)=_;simp only [Zf] at e2;omega
       · show _-(1:Int)=_;simp only [Zg] at e2;omega
     · show (T0.replies:Int)-(m:Nat)=_;omega
   rw [h3.1,h3.2.1,h3.2.2]
  repeat apply QQ
  apply QR
  repeat' (first|refine aT ?_ (bZ false rfl rfl (Zd aa))|apply aJ|apply QQ|refine aW ?_|refine ii ?_|refine QV ?_|apply iY|fail)
  refine QR (h:=?_)
  repeat' (first|apply aJ|apply QQ|refine aW ?_|refine aY fun _=>?_|refine aS ?_|(refine ae (hc:=ht0) (hX:=fun w h=>⟨h.1.1.2,h.1.1.1.2⟩) ?_)|fail)
  refine QR (h:=?_)
  repeat' (first|apply aJ|apply QQ|refine bm ?_|refine aY fun _=>?_|refine aS ?_|fail)
  rename_i b25 b26
  refine J3 (X':=fun w=>((Ints w ks L∧Xe w)∧Chains w s1 l1)∧(Items w s4 I2∧n.at_ w)) (fun w h=>h.1) ?_
  refine ku (ι:=Unit) (fun _=>⟨[(1,.string on),(2,.string other),(8,.pointer (some ⟨b8,0,none⟩)),(11,.bool true),(12,s1.v),(13,.pointer (some ⟨b13,0,none⟩)),(17,.pointer (some ⟨b17,0,none⟩)),(19,.pointer (some ⟨b19,0,none⟩)),(20,.pointer (some ⟨b20,0,none⟩)),(22,.int .i64 (m:Nat)),(25,.pointer (some ⟨b25,0,none⟩)),(26,.pointer (some ⟨b26,0,none⟩))],[cel b26 64 [.int .i64 a1,.int .i64 (T0.boosts:Nat),.int .i64 (T0.replies:Nat)],cel b25 64 T0.cells,cel b20 35 n.cells,cel b19 25 [ks.v,s4.v],cel b17 35 c.cells,cel b13 68 p.cells,cel b8 27 k.v.cells.toList],fun w=>((Ints w ks L∧Xe w)∧Chains w s1 l1)∧(Items w s4 I2∧n.at_ w)⟩) ?_ fun _=>?_
  · cases HL
    · obtain rfl:(T0.likes:Int)=a1:=by rw [←ha1];simp only [Zf];omega
      repeat' (first|(refine bF (hc:=hwl) (hX:=fun w h=>⟨h.1.2,h.1.1.2⟩) fun v X8 h8=>?_;obtain ⟨s8,rfl,hw8⟩:=h8)|(refine ae (hc:=hhl s8) (hX:=fun w h=>hw8 w h.2) ?_)|refine gs ?_|fail)
      all_goals first
       | exact ⟨(),ai am (ak _) fun w h=>h.1⟩
    · obtain rfl:(T0.likes:Int)-1=a1:=by rw [←ha1];rfl
      repeat' (first|(refine bF (hc:=hwl) (hX:=fun w h=>⟨h.1.2,h.1.1.2⟩) fun v X8 h8=>?_;obtain ⟨s8,rfl,hw8⟩:=h8)|(refine ae (hc:=hhl s8) (hX:=fun w h=>hw8 w h.2) ?_)|refine gs ?_|fail)
      all_goals first
       | exact ⟨(),ai am (ak _) fun w h=>h.1⟩
  refine QQ ?_
  refine QQ ?_
  refine ku (ι:=Unit) (fun _=>⟨[(1,.string on),(2,.string other),(8,.pointer (some ⟨b8,0,none⟩)),(11,.bool true),(12,s1.v),(13,.pointer (some ⟨b13,0,none⟩)),(17,.pointer (some ⟨b17,0,none⟩)),(19,.pointer (some ⟨b19,0,none⟩)),(20,.pointer (some ⟨b20,0,none⟩)),(22,.int .i64 (m:Nat)),(25,.pointer (some ⟨b25,0,none⟩)),(26,.pointer (some ⟨b26,0,none⟩))],[cel b26 64 [.int .i64 a1,.int .i64 a2,.int .i64 (T0.replies:Nat)],cel b25 64 T0.cells,cel b20 35 n.cells,cel b19 25 [ks.v,s4.v],cel b17 35 c.cells,cel b13 68 p.cells,cel b8 27 k.v.cells.toList],fun w=>((Ints w ks L∧Xe w)∧Chains w s1 l1)∧(Items w s4 I2∧n.at_ w)⟩) ?_ fun _=>?_
  · cases HB
    · obtain rfl:(T0.boosts:Int)=a2:=by rw [←ha2];simp only [Zf];omega
      repeat' (first|(refine bF (hc:=hwb) (hX:=fun w h=>⟨h.1.2,h.1.1.2⟩) fun v X8 h8=>?_;obtain ⟨s8,rfl,hw8⟩:=h8)|(refine ae (hc:=hhb s8) (hX:=fun w h=>hw8 w h.2) ?_)|refine gs ?_|fail)
      all_goals first
       | exact ⟨(),ai am (ak _) fun w h=>h.1⟩
    · obtain rfl:(T0.boosts:Int)-1=a2:=by rw [←ha2];rfl
      repeat' (first|(refine bF (hc:=hwb) (hX:=fun w h=>⟨h.1.2,h.1.1.2⟩) fun v X8 h8=>?_;obtain ⟨s8,rfl,hw8⟩:=h8)|(refine ae (hc:=hhb s8) (hX:=fun w h=>hw8 w h.2) ?_)|refine gs ?_|fail)
      all_goals first
       | exact ⟨(),ai am (ak _) fun w h=>h.1⟩
  refine QQ ?_
  refine QQ ?_
  refine ku (ι:=Unit) (fun _=>⟨[(1,.string on),(8,.pointer (some ⟨b8,0,none⟩)),(11,.bool true),(17,.pointer (some ⟨b17,0,none⟩)),(19,.pointer (some ⟨b19,0,none⟩)),(20,.pointer (some ⟨b20,0,none⟩)),(25,.pointer (some ⟨b25,0,none⟩)),(26,.pointer (some ⟨b26,0,none⟩))],[cel b26 64 [.int .i64 a1,.int .i64 a2,.int .i64 a3],cel b25 64 T0.cells,cel b20 35 n.cells,cel b19 25 [ks.v,s4.v],cel b17 35 c.cells,cel b8 27 k.v.cells.toList],fun w=>(Ints w ks L∧Xe w)∧(Items w s4 I2∧n.at_ w)⟩) ?_ fun _=>?_
  · cases PG
    · obtain rfl:(T0.replies:Int)-(m:Nat)=a3:=ha3
      have hgo':(!p.gone)=true:=by rw [hPG];rfl
      repeat' (first|refine gs ?_|fail)
      all_goals first
       | exact ⟨(),ai am (.cons_cons _ (.cons_cons _ (.cons_cons _ (.cons_cons _ (.cons_cons _ (.cons _ (ak _))))))) fun w h=>⟨h.1.1,h.2⟩⟩
    · obtain rfl:(T0.replies:Int)=a3:=ha3
      have hgo':(!p.gone)=false:=by rw [hPG];rfl
      repeat' (first|refine gs ?_|fail)
      all_goals first
       | exact ⟨(),ai am (.cons_cons _ (.cons_cons _ (.cons_cons _ (.cons_cons _ (.cons_cons _ (.cons _ (ak _))))))) fun w h=>⟨h.1.1,h.2⟩⟩
  repeat apply QQ
  (refine ap ⟨[0,2,4],[(1,⟨[],[(3,⟨[5],[]⟩)]⟩)]⟩ [cel b26 64 [.int .i64 a1,.int .i64 a2,.int .i64 a3],cel b25 64 T0.cells,cel b20 35 n.cells,cel b19 25 [ks.v,s4.v],cel b17 35 c.cells,cel b8 27 k.v.cells.toList] (fun w=>(Ints w ks L∧Xe w)∧(Items w s4 I2∧n.at_ w)) (h:=?_))
  all_goals repeat' (first|refine ay (hsub:=by exact aK) (hy:=by (apply F0 (tallyV l2 on) (hLaw l2 hA2 hL2);rfl;rfl)) ?_|((refine bF (hc:=sF ks s4 hK2) (hX:=fun w h=>⟨⟨h.1.1,h.2.1⟩,h.1.2⟩) fun v X9 h9=>?_;obtain ⟨s9,l2,hA2,rfl,hw9⟩:=h9;refine iR (p:=LenOk l2) (fun w h=>fun c hc=>((hw9 w h.2).2 c hc).len_) fun hL2=>?_;have ht2:=kO s9 hK2 hA2 S1.siz aa on))|(refine ae (hc:=ht2) (hX:=fun w h=>⟨hw9 w h.2,h.1.1.2⟩) ?_)|refine gdz ?_|refine az ?_ (h':=?_)|exact aA|fail)
  repeat' (first|apply QQ|refine QV ?_|apply QT|fail)
  clear hLaw ha1 ha2 ha3 hHL hHB hwl hwb hhl hhb htbn hrpb hcnt hQp hQl hQw ht0 hfe hfP hbl
  obtain ⟨z1,hz1⟩:∃ z,n.actsL[c.acts.n]?=some z:=⟨_,Zc aa⟩
  have hzm1:=Z4 hz1
  obtain ⟨D1,hD1⟩:∃ D,digV z1=D:=⟨_,rfl⟩
  have hi1:idxV n.actsL D1=some c.actsL.length:=by rw [←hD1,←hcn];exact G2.own _ _ hz1
  have hn1000:n.acts.n≤1000:=by have:=G2.len;omega
  have hof1:=iw z1 (G2.ok.rng z1 hzm1) (G2.ok.sm z1 hzm1)
  have hsi1:=nV ks s4 hK2 aa hQ2 hnn k (undX D1) (Cd D1) (F6 D1)
  refine mf (st':=⟨[(1,.string on),(8,.pointer (some ⟨b8,0,none⟩)),(11,.bool true),(17,.pointer (some ⟨b17,0,none⟩)),(19,.pointer (some ⟨b19,0,none⟩)),(20,.pointer (some ⟨b20,0,none⟩)),(25,.pointer (some ⟨b25,0,none⟩))],[cel b26 64 [.int .i64 a1,.int .i64 a2,.int .i64 a3],cel b25 64 T0.cells,cel b20 35 n.cells,cel b19 25 [ks.v,s4.v],cel b17 35 c.cells,cel b8 27 k.v.cells.toList],fun w=>(Ints w ks L∧Xe w)∧(Items w s4 I2∧n.at_ w)⟩) (ai am (ak _) fun w h=>h.1) ?_
  refine aQ (p:=n.acts.p.isSome=true) (fun w h=>h.2.2.some_ aa) fun hnp=>?_
  repeat apply QQ
  refine ib (ι:=SgM L I2 BL n k (undX D1)) (fun u=>⟨[(1,.string on),(11,.bool true),(25,.pointer (some ⟨b25,0,none⟩)),(27,.pointer (some ⟨u.b1,0,none⟩)),(29,.bool (decide ((u.n.acts.n:Int)=(n.acts.n:Int)+1)))],[cel u.b1 25 [ks.v,u.s.v],cel b25 64 T0.cells],fun w=>(Ints w ks L∧Xe w)∧Items w u.s u.I1⟩) ?_ fun u=>?_
  · as_aux_lemma =>
    (refine ap ⟨[0,1,2,3,4,5,6,7,8,9],[(10,⟨[],[(11,⟨[12],[(13,⟨[14,15,16,17],[(18,⟨[],[(19,⟨[],[(20,⟨[],[(21,⟨[22],[]⟩)]⟩)]⟩)]⟩),(19,⟨[],[(18,⟨[],[(20,⟨[],[(21,⟨[22],[]⟩)]⟩)]⟩)]⟩)]⟩),(18,⟨[],[(13,⟨[14,15,16,17],[(19,⟨[],[(20,⟨[],[(21,⟨[22],[]⟩)]⟩)]⟩)]⟩),(19,⟨[],[(13,⟨[14,15,16,17],[(20,⟨[],[(21,⟨[22],[]⟩)]⟩)]⟩)]⟩)]⟩),(19,⟨[],[(13,⟨[14,15,16,17],[(18,⟨[],[(20,⟨[],[(21,⟨[22],[]⟩)]⟩)]⟩)]⟩),(18,⟨[],[(13,⟨[14,15,16,17],[(20,⟨[],[(21,⟨[22],[]⟩)]⟩)]⟩)]⟩)]⟩)]⟩),(18,⟨[],[(11,⟨[12],[(13,⟨[14,15,16,17],[(19,⟨[],[(20,⟨[],[(21,⟨[22],[]⟩)]⟩)]⟩)]⟩),(19,⟨[],[(13,⟨[14,15,16,17],[(20,⟨[],[(21,⟨[22],[]⟩)]⟩)]⟩)]⟩)]⟩),(19,⟨[],[(11,⟨[12],[(13,⟨[14,15,16,17],[(20,⟨[],[(21,⟨[22],[]⟩)]⟩)]⟩)]⟩)]⟩)]⟩),(19,⟨[],[(11,⟨[12],[(13,⟨[14,15,16,17],[(18,⟨[],[(20,⟨[],[(21,⟨[22],[]⟩)]⟩)]⟩)]⟩),(18,⟨[],[(13,⟨[14,15,16,17],[(20,⟨[],[(21,⟨[22],[]⟩)]⟩)]⟩)]⟩)]⟩),(18,⟨[],[(11,⟨[12],[(13,⟨[14,15,16,17],[(20,⟨[],[(21,⟨[22],[]⟩)]⟩)]⟩)]⟩)]⟩)]⟩)]⟩),(18,⟨[],[(10,⟨[],[(11,⟨[12],[(13,⟨[14,15,16,17],[(19,⟨[],[(20,⟨[],[(21,⟨[22],[]⟩)]⟩)]⟩)]⟩),(19,⟨[],[(13,⟨[14,15,16,17],[(20,⟨[],[(21,⟨[22],[]⟩)]⟩)]⟩)]⟩)]⟩),(19,⟨[],[(11,⟨[12],[(13,⟨[14,15,16,17],[(20,⟨[],[(21,⟨[22],[]⟩)]⟩)]⟩)]⟩)]⟩)]⟩),(19,⟨[],[(10,⟨[],[(11,⟨[12],[(13,⟨[14,15,16,17],[(20,⟨[],[(21,⟨[22],[]⟩)]⟩)]⟩)]⟩)]⟩)]⟩)]⟩),(19,⟨[],[(10,⟨[],[(11,⟨[12],[(13,⟨[14,15,16,17],[(18,⟨[],[(20,⟨[],[(21,⟨[22],[]⟩)]⟩)]⟩)]⟩),(18,⟨[],[(13,⟨[14,15,16,17],[(20,⟨[],[(21,⟨[22],[]⟩)]⟩)]⟩)]⟩)]⟩),(18,⟨[],[(11,⟨[12],[(13,⟨[14,15,16,17],[(20,⟨[],[(21,⟨[22],[]⟩)]⟩)]⟩)]⟩)]⟩)]⟩),(18,⟨[],[(10,⟨[],[(11,⟨[12],[(13,⟨[14,15,16,17],[(20,⟨[],[(21,⟨[22],[]⟩)]⟩)]⟩)]⟩)]⟩)]⟩)]⟩)]⟩ [cel b26 64 [.int .i64 a1,.int .i64 a2,.int .i64 a3],cel b25 64 T0.cells,cel b20 35 n.cells,cel b19 25 [ks.v,s4.v],cel b17 35 c.cells,cel b8 27 k.v.cells.toList] (fun w=>(Ints w ks L∧Xe w)∧(Items w s4 I2∧n.at_ w)) (h:=?_))
    all_goals repeat' (first|((refine bF (hc:=hof1) (hX:=fun w h=>h.2.2.2 z1 hzm1) fun v X11 h11=>?_;obtain ⟨z',rfl,hdz,hzr',hzat⟩:=h11;have hdg:=gL z' hzr';rw [hdz,hD1] at hdg))|(refine ae (hc:=hdg) (hX:=fun w h=>⟨hzat w h.2,h.1.1.2⟩) ?_)|((refine bF (hc:=hsi1) (hX:=fun w h=>⟨⟨⟨⟨h.1.1.1,h.1.2.1⟩,h.1.2.2⟩,F7 w D1⟩,h.1.1.2⟩) fun v X12 h12=>?_;obtain ⟨tN,f,I3,kl3,hK3,hl3,hQ3,rfl,hw12,hg2⟩:=h12;refine iR (p:=f.acts.n=f.actsL.length) (fun w h=>(hw12 w ⟨h.1.1.2.1,h.2⟩).2.len_) fun hff=>?_))|refine gdz ?_|refine ay (hsub:=by exact aK) (hy:=by first|(apply aB (q:=c.acts.n*20);rfl;rfl;omega;omega;assumption;omega)|(apply fP (cs:=z1.cells);rfl;exact fun w h=>Acts.get h.2.2 hz1)|(apply dt (cs:=(undX D1).cells);rfl;rfl)) ?_|refine az ?_ (h':=?_)|exact aA|refine gs1 fun _=>?_|fail)
    all_goals first
     | exact ⟨⟨tN,f,I3,kl3,_,0,hK3,hl3,hQ3,hff,fun a b c d=>hg2 a b c hff d⟩,ai am (.cons _ (.cons_cons _ (.cons _ (.cons_cons _ (Zt _))))) fun w h=>⟨h.1.1.1,(hw12 w ⟨h.1.1.2.1,h.2⟩).1⟩⟩
     | exact ⟨⟨tN,f,I3,kl3,_,0,hK3,hl3,hQ3,hff,fun a b c d=>hg2 a b c hff d⟩,Ht am (.cons _ (.cons_cons _ (.cons _ (.cons_cons _ (Zt _))))) (fun w h=>⟨h.1.1.1,(hw12 w ⟨h.1.1.2.1,h.2⟩).1⟩)⟩
  obtain ⟨tN,f,I3,kl3,b27,b28,hK3,hl3,hQ3,hff,hg2⟩:=u
  simp only
  obtain ⟨B2,hB2⟩:∃ x,decide ((f.acts.n:Int)=(n.acts.n:Int)+1)=x:=⟨_,rfl⟩
  rw [hB2]
  cases B2 with
  | false =>
   repeat apply QQ
   (refine ap ⟨[0,1,2,3,4,5,7,9],[(6,⟨[],[(8,⟨[10,11,12,13],[]⟩)]⟩)]⟩ [cel b27 25 [ks.v,tN.v],cel b25 64 T0.cells] (fun w=>(Ints w ks L∧Xe w)∧Items w tN I3) (h:=?_))
   all_goals repeat' (first|refine gdz ?_|refine az ?_ (h':=?_)|exact aA|fail)
   all_goals
    repeat' (first|refine gs ?_|fail)
    all_goals first
     | exact ab (ag rfl rfl) rfl
  | true =>
   have S2:=hg2 aa S1.auth S1.siz (bA hB2)
   have hUnd:∀ l3,AllK L I3 l3→LenOk l3→tallyV l3 on=T0:=fun l3 hA3 hL3=>by
    obtain ⟨d1,E1⟩:=S1.step
    obtain ⟨d2,E2⟩:=S2.step
    have h:=pO (d:=on) (au:=p.author) (ot:=other) (t:=TG) hK (E1 l1 l2 hA1 hA2) (E2 l2 l3 hA2 hA3) (pW (sU hK hQ)) hL1 hL3 rfl rfl hbt hBV rfl hi1
    rw [hT0] at h
    exact h
   repeat apply QQ
   (refine ap ⟨[0,1,2,3,4,5,7,9],[(6,⟨[],[(8,⟨[10,11,12,13],[]⟩)]⟩)]⟩ [cel b27 25 [ks.v,tN.v],cel b25 64 T0.cells] (fun w=>(Ints w ks L∧Xe w)∧Items w tN I3) (h:=?_))
   all_goals repeat' (first|refine ay (hsub:=by exact aK) (hy:=by (apply vB T0;rfl;rfl)) ?_|((refine bF (hc:=sF ks tN hK3) (hX:=fun w h=>⟨⟨h.1.1,h.2⟩,h.1.2⟩) fun v X15 h15=>?_;obtain ⟨s13,l3,hA3,rfl,hw15⟩:=h15;refine iR (p:=LenOk l3) (fun w h=>fun c hc=>((hw15 w h.2).2 c hc).len_) fun hL3=>?_;have ht3:=kO s13 hK3 hA3 S2.siz aa on;rw [hUnd l3 hA3 hL3] at ht3))|(refine ae (hc:=ht3) (hX:=fun w h=>⟨hw15 w h.2,h.1.1.2⟩) ?_)|refine gdz ?_|refine az ?_ (h':=?_)|exact aA|fail)
   all_goals
    repeat' (first|refine gs ?_|fail)
    all_goals first
     | exact ab (ag rfl rfl) rfl
end Go.Proofs.YtaolfiikahlmkaaGreatDoor
namespace Go.Proofs.YtaolfiikahlmkaaGreatDoor
open Go Go.Proofs Sy Go.RowKit Go.Deep Go.ChangeShapes Tryz
section
variable {H:Type} {enc:TypeId×Value→H} {P:Program} {w:World} {base:Nat} {spare:Nat→Bool} {held:Bool}
theorem DS {fuel:Nat} {cs:List Value} {x:DataW H×List MemPlace} (h:DataW.trod enc prog w base spare held fuel 27 cs=some x):∃ k:Ed,cs=k.cells:=by
 have hl:=gv underlying27 (k:=2) aj h
 obtain ⟨n0,y0,h0⟩:=aV (i:=0) (off:=0) (k:=1) (t':=3) underlying27 h rfl rfl rfl aj
 obtain ⟨n1,y1,h1⟩:=aV (i:=1) (off:=1) (k:=1) (t':=3) underlying27 h rfl rfl rfl aj
 match cs,hl with
 | [c0,c1],_ =>
  obtain ⟨s0,e0,b0⟩:=bp h0
  obtain ⟨s1,e1,b1⟩:=bp h1
  simp at e0 e1
  exact ⟨⟨s0,s1⟩,by rw [e0,e1];rfl⟩
end
end Go.Proofs.YtaolfiikahlmkaaGreatDoor
namespace Go.Proofs.YtaolfiikahlmkaaGreatDoor
open Go Go.Proofs Sy Go.RowKit Go.Deep Go.ChangeShapes Go.WideShapes Tryz
theorem laidOut:laidOutB prog=true:=by kernel_rfl
theorem je {H:Type} {enc:TypeId×Value→H} {P:Program} (hl:laidOutB P=true) {W W':World} {sp:Nat→Bool}:∀ (ts:List TypeId) (vs:List Value) (ds:List (DataW H)) (ps:List MemPlace),(∀ t∈ts,P.readableRec t=true∧t<P.types.size) →
  DataW.TrodAll enc P W 0 (fun _=>true) true ts vs ds ps→(∀ p∈ps,W.sameAt W' p)→(∀ p∈ps,sp p.block=true)→DataW.TrodAll enc P W' 0 sp true ts vs ds ps
 | [],vs,ds,ps,_,h,_,_=>by
  obtain ⟨rfl,rfl,rfl⟩:=trodAll_nil h
  exact trodAll_mk0
 | t::ts,vs,ds,ps,ht,h,hs,hp=>by
  obtain ⟨v,vs',d,ds',p,q,rfl,rfl,rfl,h1,h2⟩:=trodAll_cons h
  exact trodAll_cons_mk (WideElems.Trod_stays hl (ht t ao).1 (ht t ao).2 h1 (fun x hx=>hs x (QA _ hx)) (fun x hx=>hp x (QA _ hx)))
   (je hl ts vs' ds' q (fun u hu=>ht u (Zu _ hu)) h2 (fun x hx=>hs x (Qr _ hx)) (fun x hx=>hp x (Qr _ hx)))
theorem Bi {X:World→Prop} {w:World} (hX:X w) (hk:∀ w':World,(∀ k,k<w.heap.size→w'.heap[k]?=w.heap[k]?)→X w'):Xq [] (fps []) w [] X w :=
 ⟨Fr.refl _ _,fun k hk=>by simp at hk,by simp [fps],fun k hk=>by simp [fps] at hk,fun r hr=>by simp at hr,⟨fun k=>k<w.heap.size,fun k hk=>⟨hk,by simp [fps]⟩,hk⟩⟩
theorem vl {P:Program} {f:FuncId} {args:Array Value} {X:World→Prop} {v:Value} {w:World} (h:Pu P f args X v) (hX:X w) (hk:∀ w':World,(∀ k,k<w.heap.size→w'.heap[k]?=w.heap[k]?)→X w') :
  Calls P f args w fun e w'=>e=.returned v∧Below w.heap.size w w':=by
 unfold Pu at h
 exact (Ct.run h w [] (Bi hX hk)).mono fun e w' ⟨u,R,X',he,⟨hu,hR⟩,G⟩=>⟨by rw [he,hu],G.fr.below⟩
theorem laidK:Rows.laid_agora_sum_constants (H:=Unit)=Lib.tabData .u32 kC:=by kernel_rfl
theorem laidI:Rows.laid_agora_sum_initial (H:=Unit)=Lib.tabData .u32 iniC:=by kernel_rfl
theorem pd {W:World} {name:String} {zs:List Int} {g:Nat} (h:Lib.TabIs prog W name .u32 zs) (hg:prog.globalNamed name=some g):CellsAt g (u32s zs) W:=fun j v hj=>by
 have hj':j<zs.length:=by have:=(QI.1 hj).1;simpa [u32s] using this
 rw [h.cell hg j hj']
 simp only [u32s,Z5,Zc hj',Option.map_some,ZL] at hj
 rw [Zp,Zc hj',←hj]
 rfl
theorem HR {W:World} (h:laidMet prog [("agora/sum.constants",Rows.laid_agora_sum_constants),("agora/sum.initial",Rows.laid_agora_sum_initial)] W):Xe W:=by
 rw [laidK,laidI] at h
 have h1:=Lib.tabIs_of_head (g:=1) (t:=234) (e:=167) (n:=64) aj aj underlying234 underlying167 aj aj h
 obtain ⟨ps,⟨g',t',cs,fuel,p,q,hg',ht',hvar,hd,hrest,hpq⟩,_⟩:=h
 obtain ⟨g2,t2,cs2,fuel2,p2,q2,hg2,ht2,hvar2,hd2,_,_⟩:=hrest
 have h2:Lib.TabIs prog W "agora/sum.initial" .u32 iniC:=by
  have e1:prog.globalNamed "agora/sum.initial"=some 0:=by kernel_rfl
  have e2:(prog.globals[0]?).map (·.type)=some 168:=by kernel_rfl
  obtain rfl:=Option.some.inj (e1.symm.trans hg2)
  obtain rfl:=Option.some.inj (e2.symm.trans ht2)
  unfold Lib.TabIs
  rw [hvar2,←Lib.cells_of_tab underlying168 underlying167 aj aj hd2]
 exact ⟨pd h2 aj,pd h1 aj⟩
def layRow (l:List Value):Obj→Obj
 | .cells _ t frozen=>.cells l.toArray t frozen
 | o=>o
noncomputable def laidWorld (os:Os):World :=
 { World.holding prog os ⟨#[],#[],[]⟩ with heap:=((World.holding prog os ⟨#[],#[],[]⟩).heap.modify 0 (layRow (u32s iniC))).modify 1 (layRow (u32s kC)) }
end Go.Proofs.YtaolfiikahlmkaaGreatDoor
