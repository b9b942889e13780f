/- Joined. -/
import Derived.Test.YtaolfiikahlmkaaGreatDoorT13
import Derived.Laws.StructEq
set_option linter.unusedVariables false
set_option linter.unusedSimpArgs false
set_option maxHeartbeats 16000000
namespace Go.Proofs.YtaolfiikahlmkaaGreatDoor
open Go Go.Proofs Sy SrG Tryz
namespace SrA
structure StaI (P:List FndX) (n w:Nat) where
 a:Nat
 b:Nat
 h1:a≤n
 h2:b=a+w
 Q:List FndX
 hQ:Rel P Q
structure StaO (P:List FndX) (n:Nat) where
 z:Nat
 h1:1≤z
 h2:z≤2*n+20
 Q:List FndX
 hQ:Rel P Q
set_option maxRecDepth 20000 in
theorem eI (s:Xl) (P:List FndX) (hs:s.n=P.length) (hm:s.n≤1000000):Ct prog 250 #[s.v,.int .i64 (s.n:Nat),cmpF] [postR s P] (fun _=>True) (RelAt s P):=by
 have hP:Rel P P:=Rel.refl P
 refine cF func250 ntmps250 fun av bor w0=>?_
 repeat' (first|refine gs ?_|fail)
 refine ao (ι:=StaI P s.n 20) (fun r=>⟨[(0,s.v),(1,.int .i64 (s.n:Nat)),(2,cmpF),(6,.int .i64 20),(7,.int .i64 (r.a:Nat)),(8,.int .i64 (r.b:Nat))],[postR s r.Q],fun _=>True⟩) (fun r=>s.n-r.a) ⟨0,20,Z4 _,rfl,P,hP⟩ (ai al (aj _) fun _ h=>h) fun r=>?_
 obtain ⟨a,b,h1,h2,Q,hQ⟩:=r
 simp only
 repeat' (first|refine aL (q:=20) (hq:=by omega) ?_|refine gs ?_|(refine cq (P:=P) (hQ:=by assumption) (hc:=fun Q hQ=>cu s Q a b (hs.trans hQ.1.length_eq.symm) hm aa aa) (h:=fun Q2 hQ2=>?_))|(refine cq (P:=P) (hQ:=by assumption) (hc:=fun Q hQ=>cu s Q a s.n (hs.trans hQ.1.length_eq.symm) hm aa aa) (h:=fun Q2 hQ2=>?_))|(refine gp ?_ ?_<;>intro hx_ this)|fail)
 · exact ⟨(⟨b,b+20,by omega,rfl,Q2,hQ2⟩:StaI P s.n 20),(by show s.n-b<s.n-a;omega),ai al (aj _) fun _ h=>h⟩
 · refine ao (ι:=StaO P s.n) (fun r=>⟨[(0,s.v),(1,.int .i64 (s.n:Nat)),(2,cmpF),(6,.int .i64 (r.z:Nat))],[postR s r.Q],fun _=>True⟩) (fun r=>s.n-r.z) ⟨20,by omega,by omega,Q2,hQ2⟩ (ai al (aj _) fun _ h=>h) fun r=>?_
   clear h1 h2 hQ hQ2
   obtain ⟨z,h1,h2,Q,hQ⟩:=r
   simp only
   repeat' (first|refine dM (p:=2) (hq:=by omega) ?_|refine gs ?_|(refine gp ?_ ?_<;>intro hx_ this)|fail)
   · have hzn:z<s.n:=by omega
     refine ao (ι:=StaI P s.n (2*z)) (fun r=>⟨[(0,s.v),(1,.int .i64 (s.n:Nat)),(2,cmpF),(6,.int .i64 (z:Nat)),(7,.int .i64 (r.a:Nat)),(8,.int .i64 (r.b:Nat))],[postR s r.Q],fun _=>True⟩) (fun r=>s.n-r.a) ⟨0,2*z,Z4 _,(ZU _).symm,Q,hQ⟩ (ai al (aj _) fun _ h=>h) fun r=>?_
     obtain ⟨a,b,h3,h4,Q3,hQ3⟩:=r
     simp only
     repeat' (first|refine aL (hq:=by omega) ?_|refine dM (p:=2) (hq:=by omega) ?_|refine dM (q:=2) (hq:=by omega) ?_|refine gs ?_|(refine cq (P:=P) (hQ:=by assumption) (hc:=fun Q hQ=>bU (b-a) s Q a (a+z) b (ZX _) (hs.trans hQ.1.length_eq.symm) hm aa aa aa) (h:=fun Q2 hQ2=>?_))|(refine cq (P:=P) (hQ:=by assumption) (hc:=fun Q hQ=>bU (s.n-a) s Q a (a+z) s.n (ZX _) (hs.trans hQ.1.length_eq.symm) hm aa aa aa) (h:=fun Q2 hQ2=>?_))|(refine gp ?_ ?_<;>intro hx_ this)|fail)
     · exact ⟨(⟨b,b+2*z,by omega,rfl,Q2,hQ2⟩:StaI P s.n (2*z)),(by show s.n-b<s.n-a;omega),ai al (aj _) fun _ h=>h⟩
     all_goals
      refine ⟨(⟨z*2,by omega,by omega,_,?_⟩:StaO P s.n),(by show s.n-z*2<s.n-z;omega),ai al (aj _) fun _ h=>h⟩
      assumption
   · exact aN (aF rfl) ⟨rfl,Q,hQ,rfl⟩
theorem sortStable_ct (s:Xl) (P:List FndX) (hs:s.n=P.length) (hm:s.n≤1000000):Ct prog 183 #[s.v,cmpF] [postR s P] (fun _=>True) (RelAt s P):=by
 have hP:Rel P P:=Rel.refl P
 refine cF func183 ntmps183 fun av bor w0=>?_
 repeat' (first|refine gs ?_|(refine cq (P:=P) (hQ:=by assumption) (hc:=fun Q hQ=>eI s Q (hs.trans hQ.1.length_eq.symm) hm) (h:=fun Q2 hQ2=>?_))|fail)
 exact aN (aF rfl) ⟨rfl,Q2,hQ2,rfl⟩
end SrA
end Go.Proofs.YtaolfiikahlmkaaGreatDoor
namespace Go.Proofs.YtaolfiikahlmkaaGreatDoor
open Go Go.Proofs Sy Tryz
theorem Ay {α β:Type} {f:α→β} {P:List α} {Q:List β} (h:Q.Perm (P.map f)):∃ Q':List α,Q'.Perm P∧Q'.map f=Q:=by
 generalize e:P.map f=R at h
 induction h generalizing P with
 | nil =>
  cases P with
  | nil=>exact ⟨[],Qn _,rfl⟩
  | cons a P=>cases e
 | cons x h ih =>
  cases P with
  | nil=>cases e
  | cons a P =>
   rw [Z1,List.cons.injEq] at e
   obtain ⟨Q',h1,h2⟩:=ih e.2
   exact ⟨a::Q',h1.cons a,by rw [Z1,h2,e.1]⟩
 | swap x y l =>
  cases P with
  | nil=>cases e
  | cons a P =>
   cases P with
   | nil=>cases e
   | cons b P =>
    rw [Z1,Z1,List.cons.injEq,List.cons.injEq] at e
    exact ⟨b::a::P,List.Perm.swap _ _ _,by rw [Z1,Z1,e.1,e.2.1,e.2.2]⟩
 | trans h1 h2 ih1 ih2 =>
  obtain ⟨Q2,p2,e2⟩:=ih2 e
  obtain ⟨Q1,p1,e1⟩:=ih1 e2
  exact ⟨Q1,p1.trans p2,e1⟩
def fndX (f:Ef):SrA.FndX:=⟨f.rank,f.dg,f.a.cells,rfl,rfl⟩
theorem m7 (P:List Ef):(P.map fndX).map SrA.FndX.cells=P.map Ef.cells:=by rw [Z0];rfl
theorem wU (n:Nat) (hn:n≤1000000):SortA n:=fun s P hs hl=>by
 have h:=SrA.sortStable_ct s (P.map fndX) (by rw [ZF];exact hs) aa
 have e:SrA.postR s (P.map fndX)=fndR s P:=by
  show orow _ 22 _ _ ((P.map fndX).map SrA.FndX.cells).flatten=orow _ 22 _ _ (P.map Ef.cells).flatten
  rw [m7]
 rw [e] at h
 refine h.mono fun u R X' ⟨h1,Q,h2,h3⟩=>?_
 obtain ⟨Q',p,rfl⟩:=Ay h2.1
 refine ⟨h1,Q',p,?_⟩
 rw [h3]
 show [orow _ 22 _ _ ((Q'.map fndX).map SrA.FndX.cells).flatten]=[orow _ 22 _ _ (Q'.map Ef.cells).flatten]
 rw [m7]
def cutK (kl:List Xq) (q:Nat):List Xq:=kl.filter fun k=>decide (k.from_≤(q:Int))
def movN (l:List Xa):Nat:=(l.filter fun a=>decide (a.kind=18)).length
structure CutJ (kl:List Xq) (q:Nat) where
 k:Nat
 hk:k≤kl.length
 n:Nat
 hn:n=(cutK (kl.take k) q).length
 A:Option Addr
 c:Nat
 xs:List Value
 hxs:xs=((cutK (kl.take k) q).map Xq.cells).flatten
structure GenJ (l:List Xa) (q n:Nat) where
 k:Nat
 hk:k≤q
 g:Int
 hg:g=(n:Int)-1-(movN (l.take k):Nat)
def keyF (kl:List Xq) (i:Int):Nat→Option Xq
 | 0=>none
 | j+1=>bif decide ((kl.getD j Xq.zero).from_≤i) then some (kl.getD j Xq.zero) else keyF kl i j
structure KeyI (kl:List Xq) (i:Int) where
 k:Nat
 hk:k≤kl.length
 hs:keyF kl i kl.length=keyF kl i k
theorem oP {c c':Xb} {a:Xa} {pl:Option Nat} (h1:c.id=c'.id) (h2:c.acts.n=c'.acts.n) (h3:c.prev=c'.prev) (h4:c.actsL=c'.actsL):fitsV c a pl=fitsV c' a pl:=by
 have e:∀ p,atK c pl p=atK c' pl p:=fun p=>by
  cases pl with
  | none=>rfl
  | some j=>show p (c.actsL.getD j Xa.zero).kind=p (c'.actsL.getD j Xa.zero).kind;rw [h4]
 rw [fitsV,fitsV,h1,h2,h3,e,e]
theorem xm {W:El} {st s:Eb} (h:regS W st=some s):∃ c i,W.won st.gen=some c∧c.base=(st.acts.length:Int)∧c.prev=st.prev∧setI st.acts st.acts.length=some i∧W.clm (st.acts.getD i Xa.zero).m c=true∧s=⟨st.acts,st.keys++[⟨(st.acts.length:Nat),c.pub,c.home⟩],W.dgC c,st.gen+1⟩:=by
 rw [regS] at h
 cases hw:W.won st.gen with
 | none=>rw [hw] at h;cases h
 | some c =>
  rw [hw] at h
  simp only at h
  cases hb:decide (c.base=(st.acts.length:Int))&&seqB c.prev st.prev with
  | false=>rw [hb] at h;cases h
  | true =>
   rw [hb] at h
   rw [Zp,Zw,seqB_iff] at hb
   cases hs:setI st.acts st.acts.length with
   | none=>rw [hs] at h;cases h
   | some i =>
    rw [hs] at h
    simp only [Zf] at h
    cases hc:W.clm (st.acts.getD i Xa.zero).m c with
    | false=>rw [hc] at h;cases h
    | true =>
     rw [hc,Zf,ZM] at h
     exact ⟨c,i,rfl,hb.1,hb.2,rfl,hc,h.symm⟩
theorem qS {W:El} {st s:Eb} (h:stepS W st=some s):regS W st=some s∨regS W st=none∧∃ a,candL W st=[a]∧s=addS st a:=by
 rw [stepS] at h
 cases hr:regS W st with
 | some s'=>rw [hr] at h;exact .inl h
 | none =>
  rw [hr] at h
  cases ho:oneA (candL W st) with
  | none=>rw [ho] at h;cases h
  | some a =>
   rw [ho,Option.map_some,ZM] at h
   exact .inr ⟨rfl,a,ic ho,h.symm⟩
theorem pL {W:El} {P:Eb→Prop} (hst:∀ st s,P st→stepS W st=some s→P s):∀ (n:Nat) (st:Eb),P st→P (runS W n st)
 | 0,st,h=>h
 | n+1,st,h=>by
  cases hs:stepS W st with
  | none=>rw [qY hs];exact h
  | some s=>rw [qZ hs];exact pL hst n s (hst st s h hs)
theorem oc {α:Type} (l:List α) (a:α) (i:Nat) (h:i≤l.length):(l++[a]).take i=l.take i:=by
 rw [List.take_append,show i-l.length=0 from by omega,List.take_zero,ZJ]
theorem sj {α:Type} {l:List α} {a x:α} {i:Nat} (h:(l++[a])[i]?=some x):l[i]?=some x∧i<l.length∨i=l.length∧x=a:=by
 rcases Nat.lt_trichotomy i l.length with hi|rfl|hi
 · rw [ZG hi] at h
   exact .inl ⟨h,hi⟩
 · rw [ZV (ZX _),Nat.sub_self] at h
   exact .inr ⟨rfl,(Option.some.inj h).symm⟩
 · rw [ZV aa,List.getElem?_singleton,ZP (by omega)] at h
   cases h
structure ChFit (W:El) (st:Eb):Prop where
 mem:∀ a∈st.acts,a∈W.L
 seq:∀ (i:Nat) (x:Xa),st.acts[i]?=some x→x.seq=(i:Int)
 fit:∀ (i:Nat) (x:Xa),st.acts[i]?=some x→1≤i→fitsV ((⟨st.acts.take i,[],x.prev,0⟩:Eb).ch W.id) x (idxV (st.acts.take i) x.object)=true
 key0:∃ k r,st.keys=k::r∧k.from_=0
theorem Bt {W:El} {st s:Eb} (h:ChFit W st) (hs:stepS W st=some s):ChFit W s:=by
 obtain ⟨k,r,hk,hk0⟩:=h.key0
 rcases qS hs with h1|⟨h1,a,h2,rfl⟩
 · obtain ⟨c,i,e1,e2,e3,e4,e5,rfl⟩:=xm h1
   exact ⟨h.mem,h.seq,h.fit,k,r++[_],by rw [hk];rfl,hk0⟩
 · have ha:a∈candL W st:=by rw [h2];exact Z5.2 rfl
   obtain ⟨m1,m2,m3⟩:=nq ha
   have hp:a.prev=st.prev:=by
    rw [candL,QN,QN,posB,Zp,seqB_iff] at ha
    exact ha.1.2.2
   refine ⟨fun x hx=>?_,fun i x hx=>?_,fun i x hx h0=>?_,?_⟩
   · rcases Qy.1 (show x∈st.acts++[a] from hx) with hx|hx
     · exact h.mem x hx
     · rw [Z5.1 hx];exact m1
   · rcases sj (show (st.acts++[a])[i]?=some x from hx) with ⟨h3,_⟩|⟨rfl,rfl⟩
     · exact h.seq i x h3
     · exact m2
   · rcases sj (show (st.acts++[a])[i]?=some x from hx) with ⟨h3,h4⟩|⟨rfl,rfl⟩
     · have:=h.fit i x h3 h0
       rw [show (addS st a).acts.take i=st.acts.take i from oc _ _ _ (by omega)]
       exact this
     · rw [show (addS st x).acts.take st.acts.length=st.acts from by rw [show (addS st x).acts=st.acts++[x] from rfl,oc _ _ _ (ZX _),Qh]]
       rw [candB,Zp] at m3
       rw [←m3.1]
       exact oP rfl rfl hp rfl
   · show ∃ k r,(bif decide (a.kind=18) then st.keys++[_] else st.keys)=k::r∧k.from_=0
     cases decide (a.kind=18) with
     | true=>exact ⟨k,r++[_],by rw [hk];rfl,hk0⟩
     | false=>exact ⟨k,r,hk,hk0⟩
theorem F3 {W:El} {a:Xa} (ha:a∈firstL W):begS a=⟨[a],[⟨0,a.n,a.m⟩],digV a,0⟩∧a∈W.L∧a.seq=0∧a.prev=⟨#[]⟩∧a.kind=0∧idV a.n=W.id∧W.ver a.n a=true:=by
 rw [firstL,QN,QN] at ha
 have h2:=ha.1.2
 simp only [posB,Zp,Zw,seqB_iff] at h2
 have h3:=ha.2
 simp only [firstB,Zp,Zw,seqB_iff] at h3
 exact ⟨by rw [begS,addS,h3.1.1];rfl,ha.1.1,h2.1,h2.2,h3.1.1,h3.1.2,h3.2⟩
theorem Es {W:El} {a:Xa} (ha:a∈firstL W):ChFit W (begS a):=by
 obtain ⟨e,h1,h2,h3,h4,h5,h6⟩:=F3 ha
 rw [e]
 refine ⟨fun x hx=>by rw [Z5.1 hx];exact h1,fun i x hx=>?_,fun i x hx h0=>?_,_,[],rfl,rfl⟩
 · rw [List.getElem?_singleton] at hx
   split at hx
   · rename_i hi
     subst hi
     rw [←Option.some.inj hx,h2];rfl
   · cases hx
 · rw [List.getElem?_singleton,ZP (by omega)] at hx
   cases hx
theorem vG {W:El} {a:Xa} (ha:a∈firstL W):ChFit W (finS W a):=pL (P:=ChFit W) (fun st s h hs=>Bt h hs) _ _ (Es ha)
theorem sI (l:List ByteArray):(compB l).length≤l.length:=by
 rw [compB,ZF]
 exact ZY (Lib.compact_length_le _) (by rw [ZF];exact ZX _)
def authI (I:List Xe):List ByteArray:=(I.filter fun i=>decide (i.kind=0)).map fun i=>i.act.author
theorem ux (I:List Xe) {k:Nat} {x:Xe} (h:I[k]?=some x):authI (I.take (k+1))=authI (I.take k)++(bif decide (x.kind=0) then [x.act.author] else []):=by
 rw [authI,authI,Qg,h,Qu,Qv,ZW]
 congr 1
 cases hb:decide (x.kind=0) with
 | true=>simp [hb]
 | false=>simp [hb]
theorem io (I:List Xe):(authI I).length≤I.length:=by rw [authI,ZF];exact Qa _ _
inductive All2 {α β:Type} (R:α→β→Prop):List α→List β→Prop
 | nil:All2 R [] []
 | cons {a:α} {b:β} {l:List α} {m:List β}:R a b→All2 R l m→All2 R (a::l) (b::m)
theorem All2.snoc {α β:Type} {R:α→β→Prop} {l:List α} {m:List β} (h:All2 R l m) {a:α} {b:β} (r:R a b):All2 R (l++[a]) (m++[b]):=by
 induction h with
 | nil=>exact .cons r .nil
 | cons h1 _ ih=>exact .cons h1 ih
theorem All2.len {α β:Type} {R:α→β→Prop} {l:List α} {m:List β} (h:All2 R l m):l.length=m.length:=by
 induction h with
 | nil=>rfl
 | cons _ _ ih=>rw [ZB,ZB,ih]
theorem All2.right {α β:Type} {R:α→β→Prop} {l:List α} {m:List β} (h:All2 R l m):∀ b∈m,∃ a∈l,R a b:=by
 induction h with
 | nil=>exact fun b hb=>absurd hb (by simp)
 | cons h1 _ ih =>
  intro b hb
  rcases ZI.1 hb with rfl|hb
  · exact ⟨_,am,h1⟩
  · obtain ⟨a,ha,r⟩:=ih b hb
    exact ⟨a,Zv _ ha,r⟩
abbrev ChK:=Xb×List Xq
def neK (p:ChK):Bool:=decide (0<p.1.actsL.length)
def OfQ (Q:ByteArray→Xb→List Xq→Prop) (au:ByteArray) (u:Value) (X:World→Prop):Prop:=∃ (c:Xb) (kl:List Xq),Q au c kl∧u=c.v∧∀ w,X w→c.at_ w∧Keyz w c.keys kl
def AllAt (Q:ByteArray→Xb→List Xq→Prop) (ids:List ByteArray) (u:Value) (X:World→Prop):Prop :=
 ∃ (s:Xl) (M:List ChK),All2 (fun id p=>Q id p.1 p.2) ids M∧u=s.v∧∀ w,X w→Chains w s ((M.filter neK).map Prod.fst)∧∀ p∈M,Keyz w p.1.keys p.2
structure IdsI (I:List Xe) where
 k:Nat
 hk:k≤I.length
 A:Option Addr
 c:Nat
 n:Nat
 hn:n=(authI (I.take k)).length
 xs:List Value
 hxs:xs=(authI (I.take k)).map encB
structure ChsI (Q:ByteArray→Xb→List Xq→Prop) (ids:List ByteArray) where
 k:Nat
 hk:k≤ids.length
 M:List ChK
 hM:All2 (fun id p=>Q id p.1 p.2) (ids.take k) M
 A:Option Addr
 c:Nat
 n:Nat
 hn:n=(M.filter neK).length
 xs:List Value
 hxs:xs=(((M.filter neK).map Prod.fst).map Xb.cells).flatten
theorem BY (Q:ByteArray→Xb→List Xq→Prop) (ks ki:Xl) (L:List Int) (I:List Xe) (hI:I.length≤1000)
  (hof:∀ au,Mk prog 27 #[.agg #[ks.v,ki.v],.string au] (fun w=>(Ints w ks L∧Items w ki I)∧Xi w) (OfQ Q au)) :
  Mk prog 11 #[.agg #[ks.v,ki.v]] (fun w=>(Ints w ks L∧Items w ki I)∧Xi w) (AllAt Q (compB (sortB (authI I)))):=by
 refine dE func11 ntmps11 fun av bor w0=>?_
 refine aR (p:=ki.n=I.length∧ki.n≤maxLen∧(0<I.length→ki.p.isSome=true)) (fun w h=>⟨h.1.2.len_,h.1.2.max_,h.1.2.some_⟩) fun ⟨hin,him,hip⟩=>?_
 simp only [maxLen] at him
 refine cD 9 1 ?_
 refine cD 35 6 ?_
 repeat' (first|refine gs ?_|refine gs1 fun _=>?_|fail)
 rename_i b1
 refine ao (ι:=IdsI I) (fun i=>⟨[(1,.pointer (some ⟨b1,0,none⟩)),(3,.slice i.A i.n i.c),(11,ki.v),(12,.int .i64 (ki.n:Nat)),(13,.int .i64 (i.k:Nat))],
  [cel b1 25 [ks.v,ki.v],orow 35 6 (.slice none 0 0) 0 [],orow 9 1 (.slice i.A i.n i.c) i.n i.xs],fun w=>(Ints w ks L∧Items w ki I)∧Xi w⟩) (fun i=>I.length-i.k) ⟨0,Z4 _,none,0,0,rfl,[],rfl⟩ (ai al (aj _) fun _ h=>h) fun i=>?_
 obtain ⟨k,hk,A,cp,n,hn,xs,hxs⟩:=i
 simp only
 by_cases hlt:k<I.length
 · have hip':=hip aa
   obtain ⟨x,hx⟩:∃ x,I[k]?=some x:=⟨_,Zb hlt⟩
   have hs:=ux I hx
   have hnb:n≤1000:=by have h1:=io (I.take k);rw [Qi] at h1;omega
   by_cases h0:x.kind=0
   · rw [Zd h0,Zf] at hs
     repeat' (first|refine bo ?_ (cb true rfl rfl (Zd aa))|refine aE (hab:=h0) ?_|(refine aJ (size:=1) (z:=.string ⟨#[]⟩) (news:=[encB x.act.author]) (q:=1) rfl rfl rfl rfl (fun _=>At.there _ (At.there _ (At.there _ (At.there _ (At.here _))))) (fun w G=>bA G am rfl rfl 1) aa (by simp only [maxLen];omega) rfl ?_ rfl ?_;(with_reducible rfl);intro A2 c2)|refine gs ?_|refine gs1 fun _=>?_|(refine aD (q:=k*49) ?_)|(refine aM (cs:=x.cells) (hF:=fun w h=>Items.get h.1.2 hx) ?_)|fail)
     exact ⟨(⟨k+1,hlt,A2,c2,n+1,by rw [hs,ZA,←hn];rfl,xs++[encB x.act.author],by rw [hs,ZW,←hxs];rfl⟩:IdsI I),(by show I.length-(k+1)<I.length-k;omega),ai al (.cons _ (.cons _ (aj _))) fun _ h=>h⟩
   · rw [Zc h0,Ze,ZJ] at hs
     repeat' (first|refine bo ?_ (cb true rfl rfl (Zd aa))|refine aG (hab:=h0) ?_|refine gs ?_|refine gs1 fun _=>?_|(refine aD (q:=k*49) ?_)|(refine aM (cs:=x.cells) (hF:=fun w h=>Items.get h.1.2 hx) ?_)|fail)
     exact ⟨(⟨k+1,hlt,A,cp,n,by rw [hs];exact hn,xs,by rw [hs];exact hxs⟩:IdsI I),(by show I.length-(k+1)<I.length-k;omega),ai al (.cons _ (aj _)) fun _ h=>h⟩
 have hkE:k=I.length:=by omega
 rw [hkE,Qh] at hn hxs
 subst hxs
 have hnb:n≤1000000000:=by have h1:=io I;omega
 repeat' (first|refine bo ?_ (cb false rfl rfl (Zc aa))|(refine g9 (hc:=zU hnb) (hX:=fun _ _=>trivial) ?_)|(refine va (hc:=BK) (hX:=fun _ _=>trivial) ?_;rintro _ _ X2 ⟨A3,c3,rfl,rfl⟩;refine bI ?_)|refine gs ?_|fail)
 have hB:(compB (sortB (authI I))).length≤1000:=by
  have h1:=sI (sortB (authI I))
  have h2:=jP (authI I)
  have h3:=io I
  omega
 generalize hids:compB (sortB (authI I))=ids at *
 clear hids hlt hk hnb hn
 refine ao (ι:=ChsI Q ids) (fun i=>⟨[(1,.pointer (some ⟨b1,0,none⟩)),(6,.slice i.A i.n i.c),(30,.slice A3 ids.length c3),(31,.int .i64 (ids.length:Nat)),(32,.int .i64 (i.k:Nat))],
  [cel b1 25 [ks.v,ki.v],orow 35 6 (.slice i.A i.n i.c) i.n i.xs],fun w=>(((Ints w ks L∧Items w ki I)∧Xi w)∧Strs w ⟨A3,ids.length,c3⟩ ids)∧∀ p∈i.M,p.1.at_ w∧Keyz w p.1.keys p.2⟩) (fun i=>ids.length-i.k) ⟨0,Z4 _,[],.nil,none,0,0,rfl,[],rfl⟩ ?_ fun i=>?_
 · exact ai al (.cons_cons _ (.cons_cons _ (Zu _))) fun w h=>⟨⟨h.1.1,iV h.2 rfl⟩,fun p hp=>absurd hp (by simp)⟩
 obtain ⟨k,hk,M,hM,A4,c4,n4,hn4,xs,hxs⟩:=i
 simp only
 have hMl:M.length=k:=by have:=hM.len;rw [Qi] at this;omega
 have hn4b:n4≤1000:=by have:=Qa neK M;omega
 by_cases hlt:k<ids.length
 · refine aR (p:=A3.isSome=true) (fun w h=>h.1.2.some_ aa) fun hA3=>?_
   have hget:ids[k]?=some (ids.getD k .empty):=by rw [Zo,Zb hlt];rfl
   have hlt':=hlt
   generalize hxe:ids.getD k .empty=x at *
   repeat' (first|refine bo ?_ (cb true rfl rfl (Zd aa))|(refine cd (hc:=hof x) (hX:=fun w h=>h.1.1) fun v X5 h5=>?_;obtain ⟨c,kl,hQ,rfl,hw5⟩:=h5;refine ld (p:=c.acts.n=c.actsL.length) (fun w h=>(hw5 w h.2).1.len_) fun hcn=>?_)|(refine aJ (size:=6) (news:=c.cells) (q:=1) rfl rfl rfl rfl (fun _=>At.there _ (At.there _ (At.there _ (At.here _)))) (fun w G=>bA G am rfl rfl 1) aa (by simp only [maxLen];omega) rfl ?_ rfl ?_;(with_reducible rfl);intro A2 c2)|refine gs ?_|refine gs1 fun _=>?_|(refine aD (q:=k) ?_)|(refine de (u:=.string x) (hF:=fun w h=>hxe▸Strs.get h.1.2 hlt') ?_)|(refine cA (size:=6) (vs:=[c.v]) (css:=c.cells) (hsz:=by rfl) (hcs:=by rfl) fun _=>?_)|(refine gp ?_ ?_<;>intro hx_ this)|fail)
   all_goals
    have hM2:All2 (fun id p=>Q id p.1 p.2) (ids.take (k+1)) (M++[(c,kl)]):=by
     rw [Qg,hget]
     exact hM.snoc hQ
    have hX2:∀ w,((((((Ints w ks L∧Items w ki I)∧Xi w)∧Strs w ⟨A3,ids.length,c3⟩ ids)∧∀ p∈M,p.1.at_ w∧Keyz w p.1.keys p.2)∧X5 w))→(((Ints w ks L∧Items w ki I)∧Xi w)∧Strs w ⟨A3,ids.length,c3⟩ ids)∧∀ p∈M++[(c,kl)],p.1.at_ w∧Keyz w p.1.keys p.2:=fun w h=>⟨h.1.1,fun p hp=>by
     rcases Qy.1 hp with hp|hp
     · exact h.1.2 p hp
     · rw [Z5.1 hp];exact hw5 w h.2⟩
   · have hf:(M++[(c,kl)]).filter neK=M.filter neK++[(c,kl)]:=by
      rw [Qv]
      have:neK (c,kl)=true:=Zd (by show 0<c.actsL.length;omega)
      simp [this]
     exact ⟨(⟨k+1,hlt,M++[(c,kl)],hM2,A2,c2,n4+1,by rw [hf,ZA,←hn4];rfl,xs++c.cells,by rw [hf,hxs];simp⟩:ChsI Q ids),(by show ids.length-(k+1)<ids.length-k;omega),ai al (.cons _ (.cons _ (aj _))) hX2⟩
   · have hf:(M++[(c,kl)]).filter neK=M.filter neK:=by
      rw [Qv]
      have:neK (c,kl)=false:=Zc (by show ¬ 0<c.actsL.length;omega)
      simp [this]
     exact ⟨(⟨k+1,hlt,M++[(c,kl)],hM2,A4,c4,n4,by rw [hf];exact hn4,xs,by rw [hf];exact hxs⟩:ChsI Q ids),(by show ids.length-(k+1)<ids.length-k;omega),ai al (.cons _ (aj _)) hX2⟩
 · have hkE:k=ids.length:=by omega
   rw [hkE,Qh] at hM
   subst hxs
   repeat' (first|refine bo ?_ (cb false rfl rfl (Zc aa))|refine gs ?_|fail)
   refine ab (ae rfl rfl) ⟨⟨A4,n4,c4⟩,M,hM,rfl,fun w h=>⟨⟨?_,fun c hc=>?_⟩,fun p hp=>(h.1.2 p hp).2⟩⟩
   · exact bm (xs:=((M.filter neK).map Prod.fst).map Xb.cells) (h.2 _ (.tail _ (.head _))) (by rw [ZF,ZF];exact hn4) fun r hr=>by
      obtain ⟨z,_,rfl⟩:=QJ.1 hr
      rfl
   · obtain ⟨p,hp,rfl⟩:=QJ.1 hc
     exact (h.1.2 p (QN.1 hp).1).1
theorem Items.keep {w w':World} {s:Xl} {l:List Xe} (h:Items w s l) (hs:∀ k,k<w.heap.size→w'.heap[k]?=w.heap[k]?):Items w' s l :=
 ⟨Xf.keep h.1 hs,fun i hi=>⟨⟨Xf.keep (h.2 i hi).1.1 hs,Xf.keep (h.2 i hi).1.2 hs⟩,Xf.keep (h.2 i hi).2 hs⟩⟩
theorem Et {α:Type} {f:α→ByteArray} {I:List α} (h:Asc (I.map f)) {x y:α} (hx:x∈I) (hy:y∈I) (e:f x=f y):x=y:=by
 obtain ⟨p,hp⟩:=QP.1 hx
 obtain ⟨q,hq⟩:=QP.1 hy
 have key:∀ {a b:Nat} {u v:α},I[a]?=some u→I[b]?=some v→f u=f v→¬ a<b:=fun {a b u v} h1 h2 e hab=>by
  have:=qr h hab (x:=f u) (y:=f v) (by rw [Z7,h1];rfl) (by rw [Z7,h2];rfl)
  rw [e,cY] at this
  cases this
 rcases Nat.lt_trichotomy p q with h1|rfl|h1
 · exact absurd h1 (key hp hq e)
 · exact Option.some.inj (hp.symm.trans hq)
 · exact absurd h1 (key hq hp e.symm)
theorem fR {I:List Xe} {au:ByteArray} {a:Xa} (h:a∈selA au rightIt I):∃ i∈I,i.act=a∧i.kind=0∧rightIt i=true∧digIt i=digV a∧a.author=au:=by
 rw [selA] at h
 obtain ⟨i,hi,rfl⟩:=QJ.1 h
 obtain ⟨h1,h2⟩:=QN.1 hi
 rw [selB,Zp,wantA,Zp,Zw,seqB_iff] at h2
 exact ⟨i,h1,rfl,h2.1.1,h2.2,yb h2.1.1 h2.2,h2.1.2⟩
theorem vI {L:List Int} {I:List Xe} (h:KnR L I) {au au':ByteArray} {a b:Xa} (ha:a∈selA au rightIt I) (hb:b∈selA au' rightIt I) (e:digV a=digV b):a=b:=by
 obtain ⟨i,hi,rfl,_,_,e1,_⟩:=fR ha
 obtain ⟨j,hj,rfl,_,_,e2,_⟩:=fR hb
 rw [Et h.asc hi hj (by rw [e1,e2,e])]
theorem Bf {l:List Xa} (hd:∀ a∈l,∀ b∈l,digV a=digV b→a=b) (hs:∀ (i:Nat) (x:Xa),l[i]?=some x→x.seq=(i:Int)) {n:Nat} {x:Xa} (hx:l[n]?=some x):idxV l (digV x)=some n:=by
 obtain ⟨hn,e⟩:=QL.1 hx
 rw [idxV,QD]
 refine ⟨hn,by rw [e];exact cG _,fun j hj hc=>?_⟩
 have h1:=seqB_iff.1 hc
 have h2:=hd _ (ZQ aa) x (Z6 hx) h1
 have h3:=hs j _ (Zb aa)
 have h4:=hs n x hx
 rw [h2] at h3
 omega
theorem li {P:Program} {f:FuncId} {args:Array Value} {X:World→Prop} {Φ Ψ:Value→(World→Prop)→Prop} (h:Mk P f args X Φ) (hi:∀ u X',Φ u X'→Ψ u X'):Mk P f args X Ψ:=by
 unfold Mk at *
 exact h.mono fun u R X' h1=>⟨hi u X' h1.1,h1.2⟩
def QK (L:List Int) (I:List Xe) (au:ByteArray) (c:Xb) (kl:List Xq):Prop :=
 ∃ (A:List Xa) (sa sk:Xl) (st:Eb) (fork:Bool),A.Perm (selA au rightIt I)∧OfRes ((OfWK L.length I au).at A) st fork∧c=⟨au,sa,sk,st.prev,(st.gen:Nat),fork,st.acts⟩∧kl=st.keys
theorem Dp (ks ki:Xl) {L:List Int} {I:List Xe} (h:KnR L I) (au:ByteArray) :
  Mk prog 27 #[.agg #[ks.v,ki.v],.string au] (fun w=>(Ints w ks L∧Items w ki I)∧Xi w) (OfQ (QK L I) au) :=
 li (FD wU ks ki h au) fun u X ⟨A,sa,sk,st,fork,h1,h2,h3,h4⟩=>⟨⟨au,sa,sk,st.prev,(st.gen:Nat),fork,st.acts⟩,st.keys,⟨A,sa,sk,st,fork,h1,h2,rfl,rfl⟩,h3,h4⟩
structure ChGood (c:Xb) (kl:List Xq):Prop where
 ok:Xx c.actsL
 len:c.actsL.length≤100
 klen:kl.length≤1000
 seq:∀ (i:Nat) (x:Xa),c.actsL[i]?=some x→x.seq=(i:Int)
 fit:∀ (n:Nat) (x:Xa),1≤n→c.actsL[n]?=some x→∀ d:Xb,d.id=c.id→d.acts.n=n→d.prev=x.prev→d.actsL=c.actsL.take n→fitsV d x (idxV d.actsL x.object)=true
 key0:0<c.actsL.length→∃ k r,kl=k::r∧k.from_=0
 own:∀ (n:Nat) (x:Xa),c.actsL[n]?=some x→idxV c.actsL (digV x)=some n
theorem D3 {W:El} (hB:∀ g c,W.won g=some c→g<W.B) {a:Xa} (ha:a∈firstL W):InvS W (finS W a) :=
 pL (P:=InvS W) (fun st s h hs=>(qR hB h hs).1) _ _ (vO ha).1
theorem Ad (au:ByteArray) (I:List Xe):(selA au rightIt I).length≤I.length:=by rw [selA,ZF];exact Qa _ _
theorem qa {L:List Int} {I:List Xe} (h:KnR L I) {au:ByteArray} {c:Xb} {kl:List Xq} (q:QK L I au c kl):ChGood c kl:=by
 obtain ⟨A,sa,sk,st,fork,hA,hR,rfl,rfl⟩:=q
 have hAl:A.length≤100:=by have h1:=hA.length_eq;have h2:=Ad au I;have h3:=h.len;omega
 have hAm:∀ a∈A,a∈selA au rightIt I:=fun a ha=>hA.subset ha
 rw [OfRes] at hR
 cases ho:oneA (firstL ((OfWK L.length I au).at A)) with
 | none =>
  rw [ho] at hR
  obtain ⟨rfl,rfl⟩:=hR
  exact ⟨⟨fun a ha=>absurd ha (by simp),fun a ha=>absurd ha (by simp)⟩,by simp,by simp,fun i x hx=>by simp at hx,fun n x _ hx=>by simp at hx,fun hl=>by simp at hl,fun n x hx=>by simp at hx⟩
 | some a =>
  rw [ho] at hR
  obtain ⟨rfl,rfl⟩:=hR
  have ha:a∈firstL ((OfWK L.length I au).at A):=by rw [ic ho];exact Z5.2 rfl
  have hF:=vG ha
  have hB:∀ g c,((OfWK L.length I au).at A).won g=some c→g<((OfWK L.length I au).at A).B:=fun g c hw=>(iO hw).1
  have hI:=D3 hB ha
  have hg:=qc L.length I au
  have hcl:(claimsV I au).length≤I.length:=by rw [claimsV,selC,ZF];exact Qa _ _
  have hIl:=h.len
  have h1:=hI.len
  have h2:=hI.keyn
  have h3:(finS ((OfWK L.length I au).at A) a).gen≤genB L.length I au:=hI.gen
  have h4:(finS ((OfWK L.length I au).at A) a).acts.length≤A.length:=h1
  have hmem:∀ x∈(finS ((OfWK L.length I au).at A) a).acts,x∈selA au rightIt I:=fun x hx=>hAm x (hF.mem x hx)
  refine ⟨⟨fun x hx=>?_,fun x hx=>?_⟩,by show (finS ((OfWK L.length I au).at A) a).acts.length≤100;omega,by omega,hF.seq,fun n x hn hx d e1 e2 e3 e4=>?_,fun _=>hF.key0,fun n x hx=>?_⟩
  · obtain ⟨i,hi,rfl,_⟩:=fR (hmem x hx)
    exact h.rng i hi
  · obtain ⟨i,hi,rfl,_⟩:=fR (hmem x hx)
    exact h.sm i hi
  · have h5:=hF.fit n x hx hn
    rw [e4]
    rw [←h5]
    refine oP e1 ?_ e3 e4
    rw [e2]
    show n=((finS ((OfWK L.length I au).at A) a).acts.take n).length
    rw [Qi]
    obtain ⟨hlt,_⟩:=QL.1 hx
    change n<(finS ((OfWK L.length I au).at A) a).acts.length at hlt
    omega
  · exact Bf (fun x hx y hy e=>vI h (hmem x hx) (hmem y hy) e) hF.seq hx
def gtB (a b:ByteArray):Bool:=!(Op.bytesLess a.toList b.toList||seqB a b)
def addAt (dI:Xe→ByteArray) (d:ByteArray) (I:List Xe) (k:Nat):Nat:=((I.take k).findIdx? fun x=>gtB (dI x) d).getD I.length
def addV (dI:Xe→ByteArray) (it:Xe) (I:List Xe):List Xe:=I.take (addAt dI (dI it) I I.length)++it::I.drop (addAt dI (dI it) I I.length)
section
variable {P:Program} {N:Nat} {av bor:List Nat} {w0:World} {x y:Operand} {t t2:TypeId} {ty:TypeId} {st:St}
end
structure AddI (I:List Xe) where
 k:Nat
 hk:k≤I.length
end Go.Proofs.YtaolfiikahlmkaaGreatDoor
namespace Go.Proofs.YtaolfiikahlmkaaGreatDoor
open Go Go.Proofs Sy Go.Shelf Tryz
namespace Rf4
theorem Gj (m x:Nat) (hm:m≤64):shrV .u64 (x:Int) (m:Int)=((x/2 ^ m:Nat):Int):=by
 show (x:Int).fdiv (2 ^ (min (m:Int).toNat 64))=_
 rw [ZZ,Nat.min_eq_left hm,show (2:Int) ^ m=((2 ^ m:Nat):Int) by rw [Int.natCast_pow];rfl,←Int.ofNat_fdiv]
theorem g7 {p:Nat} (h:p<18446744073709551616):IntKind.u64.wrap (p:Int)=(p:Int):=by
 simp [IntKind.wrap,IntKind.signed,IntKind.bits]
 omega
theorem Gr (m x:Nat) (hm:m≤62) (hx:x<18446744073709551616):bitsV .and .u64 (x:Int) (((2 ^ m-1:Nat)):Int)=((x%2 ^ m:Nat):Int):=by
 show IntKind.u64.wrap ((((BitVec.ofInt 64 (x:Int)) &&& (BitVec.ofInt 64 (((2 ^ m-1:Nat)):Int))).toNat:Nat):Int)=_
 have h1:2 ^ m≤2 ^ 62:=Nat.pow_le_pow_right (by decide) hm
 have h2:0<2 ^ m:=Nat.two_pow_pos m
 rw [BitVec.toNat_and,Qm,Qm,Qp,Qp,ZD (show x<2 ^ 64 by omega),ZD (show 2 ^ m-1<2 ^ 64 by omega),Nat.and_two_pow_sub_one_eq_mod]
 exact g7 (by have:=Qc x h2;omega)
theorem Gl (m x:Nat) (hm:m≤64) (hx:x*2 ^ m<18446744073709551616):shlV .u64 (x:Int) (m:Int)=((x*2 ^ m:Nat):Int):=by
 show IntKind.u64.wrap ((x:Int)*2 ^ (min (m:Int).toNat 64))=_
 rw [ZZ,Nat.min_eq_left hm,show (x:Int)*(2:Int) ^ m=((x*2 ^ m:Nat):Int) by rw [Int.natCast_mul,Int.natCast_pow];rfl]
 exact g7 hx
section
variable {N:Nat} {av bor:List Nat} {w0:World} {st:St} {ty:TypeId} {x y:Operand} {E:Env} {loc:List Xm} {X:World→Prop} {ops:Array Oper} {kk k:St→Prop} {pos:String} {af:Array Edge} {g:Option (Nat×Bool)} {rest:List Oper} {bb want:Bool} {n:Nat} {t t2:TypeId} {d:Option Tmp}
theorem pt {k':IntKind} (m r:Nat) {p:Nat} (hx:ev E x=some (.int .u64 (p:Nat)):=by rfl) (hy:ev E y=some (.int k' (m:Int)):=by rfl) (hm:m≤64∧p/2 ^ m=r) (hg:gdB ops E g=some (bb,want):=by rfl) (hbb:bb=want:=by exact ar) (hd:Nat.blt n N=true:=by rfl) (h:Sw prog N av bor w0 ops rest ⟨(n,.int .u64 (r:Nat))::E,loc,X⟩ k) :
  Sw prog N av bor w0 ops (⟨some n,.binOp .shr t x y t2,ty,pos,af,g⟩::rest) ⟨E,loc,X⟩ k:=pu hx hy aa hg hbb hd (by rw [Gj m p hm.1,hm.2];exact h)
theorem pC (m r:Nat) {p:Nat} (hx:ev E x=some (.int .u64 (p:Nat)):=by rfl) (hy:ev E y=some (.int .u64 ((2 ^ m-1:Nat):Int)):=by rfl) (hm:m≤62∧p<18446744073709551616∧p%2 ^ m=r) (hg:gdB ops E g=some (bb,want):=by rfl) (hbb:bb=want:=by exact ar) (hd:Nat.blt n N=true:=by rfl) (h:Sw prog N av bor w0 ops rest ⟨(n,.int .u64 (r:Nat))::E,loc,X⟩ k) :
  Sw prog N av bor w0 ops (⟨some n,.binOp .and t x y t2,ty,pos,af,g⟩::rest) ⟨E,loc,X⟩ k:=ak (nW hx hy) hg hbb hd (by rw [Gr m p hm.1 hm.2.1,hm.2.2];exact h)
theorem CN {k':IntKind} (m r:Nat) {p:Nat} (hx:ev E x=some (.int .u64 (p:Nat)):=by rfl) (hy:ev E y=some (.int k' (m:Int)):=by rfl) (hm:m≤64∧p*2 ^ m<18446744073709551616∧p*2 ^ m=r) (hg:gdB ops E g=some (bb,want):=by rfl) (hbb:bb=want:=by exact ar) (hd:Nat.blt n N=true:=by rfl) (h:Sw prog N av bor w0 ops rest ⟨(n,.int .u64 (r:Nat))::E,loc,X⟩ k) :
  Sw prog N av bor w0 ops (⟨some n,.binOp .shl t x y t2,ty,pos,af,g⟩::rest) ⟨E,loc,X⟩ k:=zJ hx hy aa hg hbb hd (by rw [Gl m p hm.1 hm.2.1,hm.2.2];exact h)
theorem uW [hI:Xt prog t .u64] {p q:Nat} (h:Sw prog N av bor w0 ops rest ⟨(n,.int .u64 ((p*q:Nat):Int))::E,loc,X⟩ k) (hx:ev E x=some (.int .u64 (p:Nat)):=by rfl) (hy:ev E y=some (.int .u64 (q:Nat)):=by rfl) (hq:p*q<18446744073709551616) (hg:gdB ops E g=some (bb,want):=by rfl) (hbb:bb=want:=by exact ar) (hd:Nat.blt n N=true:=by rfl) :
  Sw prog N av bor w0 ops (⟨some n,.binOp .mul t x y t2,ty,pos,af,g⟩::rest) ⟨E,loc,X⟩ k:=fI (c:=((p*q:Nat):Int)) hx hy (by rw [←Int.natCast_mul];exact g7 hq) hg hbb hd h
theorem uZ [hI:Xt prog t .u64] {p q:Nat} (h:Sw prog N av bor w0 ops rest ⟨(n,.int .u64 ((p+q:Nat):Int))::E,loc,X⟩ k) (hx:ev E x=some (.int .u64 (p:Nat)):=by rfl) (hy:ev E y=some (.int .u64 (q:Nat)):=by rfl) (hq:p+q<18446744073709551616) (hg:gdB ops E g=some (bb,want):=by rfl) (hbb:bb=want:=by exact ar) (hd:Nat.blt n N=true:=by rfl) :
  Sw prog N av bor w0 ops (⟨some n,.binOp .add t x y t2,ty,pos,af,g⟩::rest) ⟨E,loc,X⟩ k:=d6 (c:=((p+q:Nat):Int)) hx hy (by rw [←Int.natCast_add];exact g7 hq) hg hbb hd h
end
theorem Fz {P:Program} {fn:Func} {N t u r:Nat} {s:St} {v x y:Value} (hr:fn.results=#[.tmp t,.tmp u,.tmp r]) (h:Sy.look s.env t=some v) (h':Sy.look s.env u=some x) (h2:Sy.look s.env r=some y):Res1 P fn N s (.tuple #[v,x,y]):=fun av bor w0 a w ok=>by
 have h3:=ok.env t v h
 have h4:=ok.env u x h'
 have h5:=ok.env r y h2
 simp [results,hr,h3,h4,h5]
theorem jY (a m:Nat) (hm:0<m) (hm2:m<4611686018427387904):Pu prog 279 #[.int .i64 (a:Int),.int .i64 (m:Int)] (fun _=>True) (.int .i64 ((a%m:Nat):Int)):=by
 refine aw func279 ntmps279 fun av bor w0=>?_
 have hr:Eqq ((a:Int).tmod (m:Int)) ((a%m:Nat):Int):=mB a m
 repeat' (first|refine fH (hb:=by omega) (hc:=hr) ?_|refine gs ?_|(refine gp ?_ ?_<;>intro hx_ this)|fail)
 · exfalso;omega
 · apply ab;apply ae;rfl;rfl
   rfl
theorem rJ (a b x1 x0 y1 y0:Nat) (ha:a<2305843009213693952) (hb:b<2305843009213693952) (h1:a/2 ^ 31=x1) (h0:a%2 ^ 31=x0) (g1:b/2 ^ 31=y1) (g0:b%2 ^ 31=y0) (hm:x1*y1<1152921504606846976) (hp:x1*y0<4611686018427387904) (hq:x0*y1<4611686018427387904) (hr:x0*y0<4611686018427387904) :
  Pu prog 278 #[.int .i64 (a:Int),.int .i64 (b:Int)] (fun _=>True) (.tuple #[.int .u64 ((x1*y1:Nat):Int),.int .u64 ((x1*y0+x0*y1:Nat):Int),.int .u64 ((x0*y0:Nat):Int)]):=by
 refine aw func278 ntmps278 fun av bor w0=>?_
 repeat' (first|refine SrG.sy_toU_g (hq:=by omega) (h:=?_)|refine pt 31 x1 (hm:=by omega) (h:=?_)|refine pt 31 y1 (hm:=by omega) (h:=?_)|refine pC 31 x0 (hm:=by omega) (h:=?_)|refine pC 31 y0 (hm:=by omega) (h:=?_)|refine uW (hq:=by omega) ?_|refine uZ (hq:=by omega) ?_|refine gs ?_|fail)
 exact ab (Fz rfl rfl rfl rfl) rfl
theorem mulR {x y x1 x0 y1 y0:Nat} (h1:x/2 ^ 31=x1) (h0:x%2 ^ 31=x0) (g1:y/2 ^ 31=y1) (g0:y%2 ^ 31=y0) :
  x*y%2305843009213693951=(2*(x1*y1)+(x1*y0+x0*y1)/2 ^ 30+(x1*y0+x0*y1)%2 ^ 30*2 ^ 31+x0*y0)%2305843009213693951:=by
 have hx:x=x1*2147483648+x0:=by omega
 have hy:y=y1*2147483648+y0:=by omega
 have e:x*y=x1*y1*4611686018427387904+(x1*y0+x0*y1)*2147483648+x0*y0:=by
  rw [hx,hy,QF,Nat.mul_add,Nat.mul_add,Nat.mul_mul_mul_comm,Nat.mul_right_comm x1 _ y0,←Nat.mul_assoc x0,QF (x1*y0)]
  omega
 rw [e]
 generalize x1*y1=H
 generalize x1*y0+x0*y1=M
 generalize x0*y0=L
 have:H*4611686018427387904+M*2147483648+L=(2*H+M/2 ^ 30+M%2 ^ 30*2 ^ 31+L)+2305843009213693951*(2*H+M/2 ^ 30):=by omega
 rw [this,Nat.add_mul_mod_self_left]
theorem jX (a b:Nat):Pu prog 236 #[.int .i64 (a:Int),.int .i64 (b:Int)] (fun _=>True) (.int .i64 ((a*b%2305843009213693951:Nat):Int)):=by
 refine aw func236 ntmps236 fun av bor w0=>?_
 have c1:=jY a 2305843009213693951 (by decide) (by decide)
 have c2:=jY b 2305843009213693951 (by decide) (by decide)
 have hx:=Qc a (show 0<2305843009213693951 by decide)
 have hy:=Qc b (show 0<2305843009213693951 by decide)
 have hab:a*b%2305843009213693951=(a%2305843009213693951)*(b%2305843009213693951)%2305843009213693951:=Nat.mul_mod a b _
 rw [hab]
 generalize a%2305843009213693951=x at *
 generalize b%2305843009213693951=y at *
 obtain ⟨x1,h1⟩:∃ x1,x/2 ^ 31=x1:=⟨_,rfl⟩
 obtain ⟨x0,h0⟩:∃ x0,x%2 ^ 31=x0:=⟨_,rfl⟩
 obtain ⟨y1,g1⟩:∃ y1,y/2 ^ 31=y1:=⟨_,rfl⟩
 obtain ⟨y0,g0⟩:∃ y0,y%2 ^ 31=y0:=⟨_,rfl⟩
 have b1:x1≤1073741823:=by omega
 have b0:x0≤2147483647:=by omega
 have d1:y1≤1073741823:=by omega
 have d0:y0≤2147483647:=by omega
 have m1:x1*y1≤1073741823*1073741823:=Nat.mul_le_mul b1 d1
 have m2:x1*y0≤1073741823*2147483647:=Nat.mul_le_mul b1 d0
 have m3:x0*y1≤2147483647*1073741823:=Nat.mul_le_mul b0 d1
 have m4:x0*y0≤2147483647*2147483647:=Nat.mul_le_mul b0 d0
 have c3:=rJ x y x1 x0 y1 y0 aa aa h1 h0 g1 g0 aa aa aa aa
 rw [mulR h1 h0 g1 g0]
 generalize x1*y1=H at *
 generalize hM:x1*y0+x0*y1=M at *
 have hM2:M≤1073741823*2147483647+2147483647*1073741823:=by omega
 generalize x0*y0=L at *
 obtain ⟨p,hp⟩:∃ p,M/2 ^ 30=p:=⟨_,rfl⟩
 obtain ⟨q,hq⟩:∃ q,M%2 ^ 30=q:=⟨_,rfl⟩
 obtain ⟨r,hr⟩:∃ r,q*2 ^ 31=r:=⟨_,rfl⟩
 rw [hp,hq,hr]
 have hrm:Eqq (((2*H+p+r+L:Nat):Int).tmod 2305843009213693951) (((2*H+p+r+L)%2305843009213693951:Nat):Int):=mB (2*H+p+r+L) 2305843009213693951
 have hz:=Qc (2*H+p+r+L) (show 0<2305843009213693951 by decide)
 repeat' (first|refine SrG.sy_toI_g (hq:=by omega) (h:=?_)|refine pt 30 p (hm:=by omega) (h:=?_)|refine pC 30 q (hm:=by omega) (h:=?_)|refine CN 31 r (hm:=by omega) (h:=?_)|refine uW (p:=2) (hq:=by omega) ?_|refine uZ (hq:=by omega) ?_|refine fH (hb:=by decide) (hc:=hrm) ?_|(refine ag (hc:=c1) ?_)|(refine ag (hc:=c2) ?_)|(refine ag (hc:=c3) ?_)|refine gs ?_|fail)
 apply ab;apply ae;rfl;rfl
 rfl
end Rf4
namespace Rf4
theorem quo2 (a:Nat) (ha:a<9223372036854775808):IntKind.i64.wrap ((a:Int).tdiv 2)=((a/2:Nat):Int):=by
 rw [show (2:Int)=((2:Nat):Int) from rfl,Qq aa,←Int.natCast_ediv]
 exact IntWalk.i64_in _ aa
structure ExS (a e:Nat) where
 x:Nat
 b:Nat
 f:Nat
 hx:x<2305843009213693951
 hf:f≤e
 inv:x*b ^ f%2305843009213693951=a ^ e%2305843009213693951
theorem Aq (b h M:Nat):(b*b%M) ^ h%M=b ^ (h+h)%M:=by
 rw [←Nat.pow_mod,Nat.mul_pow,←Nat.pow_add]
theorem DE {x b f M:Nat} (h:f%2=1):(x*b%M)*(b*b%M) ^ (f/2)%M=x*b ^ f%M:=by
 have hf:f=1+(f/2+f/2):=by omega
 conv=>rhs;rw [hf,Nat.pow_add,Nat.pow_one,←Nat.mul_assoc]
 rw [Nat.mul_mod (x*b%M),Nat.mod_mod,Aq,←Nat.mul_mod]
theorem Bd {x b f M:Nat} (h:¬ f%2=1):x*(b*b%M) ^ (f/2)%M=x*b ^ f%M:=by
 have hf:f=f/2+f/2:=by omega
 conv=>rhs;rw [hf]
 rw [Nat.mul_mod,Aq,←Nat.mul_mod]
theorem xn (a e:Nat) (he:e<9223372036854775808):Pu prog 237 #[.int .i64 (a:Int),.int .i64 (e:Int)] (fun _=>True) (.int .i64 ((a ^ e%2305843009213693951:Nat):Int)):=by
 refine aw func237 ntmps237 fun av bor w0=>?_
 have c1:=jY a 2305843009213693951 (by decide) (by decide)
 repeat' (first|(refine ag (hc:=c1) ?_)|refine gs ?_|(refine gp ?_ ?_<;>intro hx_ this)|fail)
 · exfalso;omega
 · refine ao (ι:=ExS a e) (fun i=>⟨[(1,.int .i64 (i.f:Nat)),(5,.int .i64 (i.x:Nat)),(6,.int .i64 (i.b:Nat))],[],fun _=>True⟩) (fun i=>i.f) ⟨1,a%2305843009213693951,e,by decide,ZX _,by rw [Nat.one_mul,←Nat.pow_mod]⟩ (ai al (Zu _) fun _ h=>h) fun i=>?_
   obtain ⟨x,b,f,hx,hf,inv⟩:=i
   simp only
   have hm1:=jX x b
   have hm2:=jX b b
   have hr:Eqq ((f:Int).tmod 2) ((f%2:Nat):Int):=mB f 2
   have hq:Eqq (IntKind.i64.wrap ((f:Int).tdiv 2)) ((f/2:Nat):Int):=quo2 f aa
   repeat' (first|refine fH (hb:=by decide) (hc:=hr) ?_|refine mj (hb:=by decide) (hc:=hq) ?_|(refine ag (hc:=hm1) ?_)|(refine ag (hc:=hm2) ?_)|refine gs ?_|(refine gp ?_ ?_<;>intro hx_ this)|fail)
   · have hc:f%2=1:=by
      have:=bz hx_
      omega
     exact ⟨(⟨x*b%2305843009213693951,b*b%2305843009213693951,f/2,Qc _ (by decide),by omega,(DE hc).trans inv⟩:ExS a e),(by show f/2<f;omega),ai al (Zu _) fun _ h=>h⟩
   · have hc:¬ f%2=1:=by
      have:=co hx_
      omega
     exact ⟨(⟨x,b*b%2305843009213693951,f/2,hx,by omega,(Bd hc).trans inv⟩:ExS a e),(by show f/2<f;omega),ai al (Zu _) fun _ h=>h⟩
   · have hk:f=0:=by omega
     apply ab;apply ae;rfl;rfl
     rw [←inv,hk,Nat.pow_zero,Nat.mul_one,ZD hx]
end Rf4
namespace Rf4
theorem js:∀ f x:Nat,x<2 ^ f→x<2 ^ Lib.bitLenAux f x
 | 0,x,h=>h
 | f+1,x,h=>by
  rw [Lib.bitLenAux]
  split
  · rename_i h0
    rw [h0]
    decide
  · have h1:=js f (x/2) (by rw [Nat.pow_succ] at h;omega)
    rw [Nat.pow_add]
    omega
theorem sA (a e:Nat):∀ i,(expF a e i).1=a ^ (e%2 ^ i)%2305843009213693951∧(expF a e i).2=a ^ 2 ^ i%2305843009213693951
 | 0=>by
  refine ⟨?_,?_⟩
  · show 1=_
    rw [Nat.pow_zero,Nat.mod_one,Nat.pow_zero]
  · show a%_=_
    rw [Nat.pow_zero,Nat.pow_one]
 | i+1=>by
  obtain ⟨h1,h2⟩:=sA a e i
  refine ⟨?_,?_⟩
  · show (bif decide (e/2 ^ i%2=1) then (expF a e i).1*(expF a e i).2%2305843009213693951 else (expF a e i).1)=_
    rw [Nat.mod_pow_succ,h1,h2]
    by_cases h:e/2 ^ i%2=1
    · rw [Zd h,Zf,h,Nat.mul_one,Nat.pow_add,←Nat.mul_mod]
    · have h0:e/2 ^ i%2=0:=by omega
      rw [Zc h,Ze,h0,Nat.mul_zero,ZT]
  · show (expF a e i).2*(expF a e i).2%2305843009213693951=_
    rw [h2,←Nat.mul_mod,←Nat.pow_add,Nat.pow_succ,Nat.mul_two]
theorem Bw (a e:Nat) (he:e<9223372036854775808):expV a e=a ^ e%2305843009213693951:=by
 have h:e<2 ^ Lib.bitLen e:=js 64 e aa
 rw [expV,(sA a e _).1,ZD h]
theorem mD (a e:Nat) (he:e<9223372036854775808):Pu prog 237 #[.int .i64 (a:Int),.int .i64 (e:Int)] (fun _=>True) (.int .i64 (expV a e:Nat)):=by
 rw [Bw a e he]
 exact xn a e he
def numS (s:ByteArray) (k:Nat):Nat:=bif decide (k=8) then numN (nl s) else numF (nl s) k
theorem p5 {s:ByteArray} {k:Nat} (h:k<8):numS s k=numF (nl s) k:=by rw [numS,Zc aa,Ze]
theorem jK {n:Nat} (h:n<9223372036854775808):IntKind.i64.wrap (n:Int)=(n:Int):=IntWalk.i64_in _ aa
theorem stepA {s:ByteArray} {k:Nat} (h:k<7) {b:Int} (hb:b=(((nl s).getD k 0:Nat):Int)):IntKind.i64.wrap (IntKind.i64.wrap (256*((numS s k:Nat):Int))+b)=((numS s (k+1):Nat):Int):=by
 have h1:=numF7 s (show k<8 by omega)
 have h2:=numF7 s (show k+1<8 by omega)
 rw [p5 aa,p5 aa,hb]
 rw [numF] at h2 ⊢
 generalize numF (nl s) k=x at *
 generalize (nl s).getD k 0=y at *
 rw [show (256:Int)*(x:Int)=((256*x:Nat):Int) by omega,jK aa,←Int.natCast_add,jK (by omega)]
 omega
theorem stepB {s:ByteArray} {b:Int} (hb:b=(((nl s).getD 7 0:Nat):Int)):IntKind.i64.wrap (IntKind.i64.wrap (32*((numS s 7:Nat):Int))+IntKind.i64.wrap (b.tdiv 8))=((numS s 8:Nat):Int):=by
 have h1:=numF7 s (show 7<8 by omega)
 have h2:=fy (jp s) 7
 have e8:numS s 8=(numF (nl s) 7*256+(nl s).getD 7 0)/8:=rfl
 rw [e8,p5 aa,hb]
 generalize numF (nl s) 7=x at *
 generalize (nl s).getD 7 0=y at *
 rw [show (32:Int)*(x:Int)=((32*x:Nat):Int) by omega,jK aa,show ((y:Int)).tdiv 8=((y/8:Nat):Int) by rw [Qq (by omega)];omega,jK aa,←Int.natCast_add,jK (by omega)]
 omega
theorem byteIn {s:ByteArray} {k:Nat} (h:k<s.size):IntKind.i64.wrap (byteAt s (k:Int).toNat)=(((nl s).getD k 0:Nat):Int):=by
 have h2:=fy (jp s) k
 rw [show ((k:Int)).toNat=k from rfl,qk s _ h,jK (by omega)]
theorem byteOut {s:ByteArray} {k:Nat} (h:s.size≤k):(0:Int)=(((nl s).getD k 0:Nat):Int):=by
 rw [Zo,List.getElem?_eq_none (by rw [cX];exact h),Option.getD_none]
 rfl
theorem rK (s:ByteArray):Pu prog 277 #[.string s] (fun _=>True) (.int .i64 (numN (nl s):Nat)):=by
 refine aw func277 ntmps277 fun av bor w0=>?_
 repeat' (first|refine gs ?_|fail)
 refine ao (ι:=Kth 8) (fun i=>⟨[(0,.string s),(3,.int .i64 ((numS s i.k:Nat):Int)),(4,.int .i64 i.k)],[],fun _=>True⟩) (fun i=>8-i.k) ⟨0,Z4 _⟩ (ai al (aj _) fun _ h=>h) fun i=>?_
 have hik:=i.hk
 repeat' (first|refine mj (hb:=by decide) (hc:=rfl) ?_|refine gs ?_|(refine gp ?_ ?_<;>intro hx_ this)|fail)
 · exact ⟨⟨i.k+1,by omega⟩,(by show 8-(i.k+1)<8-i.k;omega),ai ⟨rfl,congrArg (fun z=>some (Value.int IntKind.i64 z)) (stepA aa (byteIn aa)),rfl,trivial⟩ (aj _) fun _ h=>h⟩
 · have e7:i.k=7:=by omega
   obtain ⟨k,hk⟩:=i
   simp only at e7
   subst e7
   have hE:=@stepB s _ (byteIn (k:=7) aa)
   exact ⟨⟨8,by omega⟩,(by show 8-8<8-7;omega),ai ⟨rfl,congrArg (fun z=>some (Value.int IntKind.i64 z)) hE,rfl,trivial⟩ (aj _) fun _ h=>h⟩
 · exact ⟨⟨i.k+1,by omega⟩,(by show 8-(i.k+1)<8-i.k;omega),ai ⟨rfl,congrArg (fun z=>some (Value.int IntKind.i64 z)) (stepA aa (byteOut aa)),rfl,trivial⟩ (aj _) fun _ h=>h⟩
 · have e7:i.k=7:=by omega
   obtain ⟨k,hk⟩:=i
   simp only at e7
   subst e7
   have hE:=@stepB s _ (byteOut (k:=7) aa)
   exact ⟨⟨8,by omega⟩,(by show 8-8<8-7;omega),ai ⟨rfl,congrArg (fun z=>some (Value.int IntKind.i64 z)) hE,rfl,trivial⟩ (aj _) fun _ h=>h⟩
 · have h8:i.k=8:=by omega
   apply ab;apply ae;rfl;rfl
   rw [h8]
   rfl
end Rf4
namespace Rf4
theorem tH (s:ByteArray) (hs:s.size≤1099511627776):Pu prog 235 #[.string s] (fun _=>True) (.int .i64 (numN (nl (shaV s)):Nat)):=by
 refine aw func235 ntmps235 fun av bor w0=>?_
 repeat' (first|refine ag (hc:=ox _ hs) ?_|refine ag (hc:=rK _) ?_|refine gs ?_|fail)
 exact ab (ae rfl rfl) rfl
theorem tL (r p:Nat) (msg:ByteArray) (hr:r<9223372036854775808) (hp:p<9223372036854775808) (hm:msg.size≤1000000000000) :
  Pu prog 151 #[.int .i64 (r:Int),.int .i64 (p:Int),.string msg] (fun _=>True) (.int .i64 (chalN r p msg:Nat)):=by
 refine aw func151 ntmps151 fun av bor w0=>?_
 have h1:=az ⟨#[115,105,103,110]⟩
 have h2:=ap (r:Int)
 have h3:=ap (p:Int)
 have h4:=az msg
 have h5:(⟨#[115,105,103,110]⟩:ByteArray).size=4:=rfl
 have ec:catB (chalP r p msg)=textV ⟨#[115,105,103,110]⟩++numV (r:Int)++numV (p:Int)++textV msg:=by
  show textV ⟨#[115,105,103,110]⟩++(numV (r:Int)++(numV (p:Int)++(textV msg++ByteArray.empty)))=_
  rw [Qj,Zy,Zy]
 have hsz:(catB (chalP r p msg)).size≤1099511627776:=by
  rw [ec]
  simp only [Za]
  omega
 have ch:=tH (catB (chalP r p msg)) hsz
 have c1:=cN ⟨#[115,105,103,110]⟩ (by decide)
 rw [ec] at ch
 have hrm:Eqq (((numN (nl (shaV (textV ⟨#[115,105,103,110]⟩++numV (r:Int)++numV (p:Int)++textV msg))):Nat):Int).tmod 2305843009213693950) ((chalN r p msg:Nat):Int):=by
  rw [chalN,hashN,ec]
  exact mB _ 2305843009213693950
 repeat' (first|refine mn (hb:=by ((try simp only [Za]);omega)) ?_|refine fH (hb:=by decide) (hc:=hrm) ?_|(refine ag (hc:=c1) ?_)|refine ag (hc:=cN _ aa) ?_|refine ag (hc:=ca _ aa) ?_|(refine ag (hc:=ch) ?_)|refine gs ?_|fail)
 all_goals first
  | exact ab (ae rfl rfl) rfl
section
variable {P:Program} {N:Nat} {av bor:List Nat} {w0:World} {st:St} {ty:TypeId} {x y:Operand} {t t2:TypeId}
theorem y_subM [hI:Xt P t .i64] {p q:Nat} (hx:ev st.env x=some (.int .i64 (p:Nat))) (hy:ev st.env y=some (.int .i64 (q:Nat))) (hq:q≤p∧p<9223372036854775808):Sy.Yields P N av bor w0 st (.binOp .sub t x y t2) ty (.int .i64 ((p-q:Nat):Int)) :=
 lp hx hy (by rw [show (p:Int)-(q:Int)=((p-q:Nat):Int) by omega];exact IntWalk.i64_in _ aa)
end
theorem pT (p e s:Nat) (he:e≤2305843009213693950) (hs:s≤2305843009213693950) :
  Pu prog 152 #[.int .i64 (p:Int),SgD.v ⟨(e:Int),(s:Int)⟩] (fun _=>True) (.int .i64 ((expV 37 s*expV p (2305843009213693950-e)%2305843009213693951:Nat):Int)):=by
 refine aw func152 ntmps152 fun av bor w0=>?_
 have c1:=mD 37 s aa
 have c2:=mD p (2305843009213693950-e) aa
 have c3:=jX (expV 37 s) (expV p (2305843009213693950-e))
 repeat' (first|refine gs ?_|refine gs1 fun _=>?_|fail)
 (refine aW ⟨[0,1,3,4,5,6],[(2,⟨[],[(7,⟨[],[(8,⟨[9],[]⟩)]⟩)]⟩)]⟩ (h:=?_))
 all_goals repeat' (first|refine ax (hy:=by (apply y_subM (p:=2305843009213693950);rfl;rfl;omega)) ?_|(refine ag (hc:=c1) ?_)|(refine ag (hc:=c2) ?_)|(refine ag (hc:=c3) ?_)|refine gd ?_|refine aA ?_ (h':=?_)|exact aB|fail)
 all_goals
  repeat' (first|refine gs ?_|fail)
  exact ab (ae rfl rfl) rfl
def ranB (p e s:Int):Bool:=!(decide (p<1)||decide (2305843009213693951≤p)||!ordV e||!ordV s)
theorem tO {p e s:Int}:ranB p e s=(decide (1≤p)&&(decide (p<2305843009213693951)&&(decide (0≤e)&&(decide (e<2305843009213693950)&&(decide (0≤s)&&decide (s<2305843009213693950)))))):=by
 rw [ranB,ordV,ordV]
 have e1:decide (p<1)=!decide (1≤p):=by by_cases h:1≤p<;>simp [h]<;>omega
 have e2:decide (2305843009213693951≤p)=!decide (p<2305843009213693951):=by by_cases h:p<2305843009213693951<;>simp [h]<;>omega
 rw [e1,e2]
 cases decide (1≤p)<;>cases decide (p<2305843009213693951)<;>cases decide (0≤e)<;>cases decide (e<2305843009213693950)<;>cases decide (0≤s)<;>cases decide (s<2305843009213693950)<;>rfl
theorem pP (p e s:Int):Pu prog 150 #[.int .i64 p,SgD.v ⟨e,s⟩] (fun _=>True) (.bool (ranB p e s)):=by
 refine aw func150 ntmps150 fun av bor w0=>?_
 rw [tO]
 repeat' (first|refine gs ?_|refine gs1 fun _=>?_|(refine gp ?_ ?_<;>intro hx_ this)|fail)
 all_goals refine ab (ae rfl rfl) ?_
 all_goals simp_all
 all_goals (intros;omega)
theorem refVerify_pu (p:Int) (msg:ByteArray) (e s:Int) (hm:msg.size≤1000000000000):Pu prog 87 #[.int .i64 p,.string msg,SgD.v ⟨e,s⟩] (fun _=>True) (.bool (verN p msg e s)):=by
 refine aw func87 ntmps87 fun av bor w0=>?_
 have hrg:=pP p e s
 cases hbad:(decide (p<1)||decide (2305843009213693951≤p)||!ordV e||!ordV s) with
 | true =>
  rw [show ranB p e s=false from by rw [ranB,hbad];rfl] at hrg
  rw [show verN p msg e s=false from by rw [verN,hbad];rfl]
  repeat' (first|(refine ag (hc:=hrg) ?_)|refine gs ?_|refine gs1 fun _=>?_|fail)
  exact ab (ae rfl rfl) rfl
 | false =>
  have hb:=hbad
  simp only [Ql,Qd,Bool.not_eq_false'] at hb
  obtain ⟨⟨⟨h1,h2⟩,h3⟩,h4⟩:=hb
  simp only [ordV,Zp,Zw] at h3 h4
  rw [show ranB p e s=true from by rw [ranB,hbad];rfl] at hrg
  obtain ⟨pn,rfl⟩:∃ n:Nat,p=(n:Int):=⟨p.toNat,by omega⟩
  obtain ⟨en,rfl⟩:∃ n:Nat,e=(n:Int):=⟨e.toNat,by omega⟩
  obtain ⟨sn,rfl⟩:∃ n:Nat,s=(n:Int):=⟨s.toNat,by omega⟩
  have c1:=pT pn en sn aa aa
  obtain ⟨r,hr⟩:∃ r,expV 37 sn*expV pn (2305843009213693950-en)%2305843009213693951=r:=⟨_,rfl⟩
  have hrl:r<2305843009213693951:=by rw [←hr];exact Qc _ (by decide)
  have hV:verN (pn:Int) msg (en:Int) (sn:Int)=decide (((en:Nat):Int)=(chalN r pn msg:Nat)):=by
   rw [verN,hbad,Ze,ZZ,ZZ,ZZ,hr]
  rw [hr] at c1
  rw [hV,show decide (((en:Nat):Int)=(chalN r pn msg:Nat))=decide (((chalN r pn msg:Nat):Int)=(en:Nat)) from by by_cases h:((en:Nat):Int)=(chalN r pn msg:Nat)<;>simp [h,eq_comm]]
  have c2:=tL r pn msg aa aa hm
  clear hbad hV hr
  generalize chalN r pn msg=cn at *
  repeat' (first|(refine ag (hc:=hrg) ?_)|refine gs ?_|refine gs1 fun _=>?_|fail)
  (refine aW ⟨[0,1,3,4,6,7],[(2,⟨[],[(5,⟨[8,9],[]⟩)]⟩)]⟩ (h:=?_))
  all_goals repeat' (first|(refine ag (hc:=c1) ?_)|(refine ag (hc:=c2) ?_)|refine gd ?_|refine aA ?_ (h':=?_)|exact aB|fail)
  all_goals
   repeat' (first|refine gs ?_|fail)
   exact ab (ae rfl rfl) rfl
end Rf4
end Go.Proofs.YtaolfiikahlmkaaGreatDoor
namespace Go.Proofs.YtaolfiikahlmkaaGreatDoor
open Go Go.Proofs Sy Tryz
theorem tz (a:Xa):sameZ a=actZ a:=by
 rw [sameZ,actZ]
 simp only [Xa.zero,Zh]
 cases decide ((a.to.n:Int)=0)<;>cases decide ((a.wraps.n:Int)=0)<;>(simp [Bool.and_comm,Bool.and_left_comm,Bool.and_assoc];try rfl)
set_option maxRecDepth 20000 in
theorem tJ (d:Xu):Pu prog 145 #[d.v,Xu.zero.v] (fun _=>True) (.bool (decZ d)):=by
 refine aw func145 ntmps145 fun av bor w0=>?_
 repeat' (first|refine gs ?_|refine gs1 fun _=>?_|(refine gp ?_ ?_<;>intro hx_ this)|fail)
 · refine ab (ae rfl rfl) ?_
   have h0:Xu.zero.to.n=0:=rfl
   rw [h0] at hx_
   simp_all [decZ]
 rename_i b1 b2
 have n1:d.to.n=0:=by
  have h0:Xu.zero.to.n=0:=rfl
  rw [h0] at hx_
  simpa using hx_
 refine ao (ι:=Unit) (fun _=>⟨[(2,.pointer (some ⟨b1,0,none⟩)),(3,.pointer (some ⟨b2,0,none⟩)),(5,.int .i64 0)],[cel b2 58 Xu.zero.cells,cel b1 58 d.cells],fun _=>True⟩) (fun _=>0) () (ai al (aj _) fun _ h=>h) fun _=>?_
 repeat' (first|refine gs ?_|(refine jM (a:=d.e) (b:=d.s) (c:=0) (e:=0) ?_)|(refine aC ?_)|(refine gp ?_ ?_<;>intro hx_ this)|fail)
 · exact absurd this (by rw [n1];decide)
 all_goals (
  refine ab (ae rfl rfl) ?_
  have q1:decide ((d.to.n:Int)=0)=true:=by rw [n1];rfl
  rw [decZ,q1]
  clear q1 n1
  first
   | rfl
   | (simp_all only [Zg,Zj,Zk,Zt,Zr,Zh];done)
   | (simp_all;done)
   | skip)
 all_goals simp_all [Xu.zero]
theorem yo:actZ Xa.zero=true:=by decide +kernel
theorem qi:claimEq Xg.zero Xg.zero=true:=by decide +kernel
theorem nS:ballotEq Xh.zero Xh.zero=true:=by decide +kernel
theorem yc:decZ Xu.zero=true:=by decide +kernel
set_option maxRecDepth 20000 in
theorem jc (i:Xe) (hs:i.Str):Pu prog 86 #[i.v] (fun w=>i.at_ w) (.bool (rightIt i)):=by
 refine aw func86 ntmps86 fun av bor w0=>?_
 have c1:=tF i.act
 rw [tz] at c1
 have c2:=kx i.act hs.act
 have c3:=tJ i.dec
 have c4:=nM i.claim hs.claim
 have c5:=rG i.ballot hs.ballot
 have c6:=nL i.dec hs.dec
 by_cases h0:i.kind=0
 · have e:rightIt i=(rightB i.act&&(claimEq i.claim Xg.zero&&(ballotEq i.ballot Xh.zero&&decZ i.dec))):=by simp [rightIt,rightK2,restI,sameIZ,h0,yo]
   rw [e]
   repeat' (first|refine aE ?_|(refine ag (hc:=c1) ?_)|(refine ag (hc:=c2) ?_)|(refine ag (hc:=c3) ?_)|refine gs ?_|refine gs1 fun _=>?_|(refine eH (a:=i.claim) (b:=Xg.zero) ?_)|(refine ef (a:=i.ballot) (b:=Xh.zero) ?_)|(refine aK (cs:=Xa.zero.cells) (hf:=by rfl) ?_)|(refine aK (cs:=Xg.zero.cells) (hf:=by rfl) ?_)|(refine aK (cs:=Xh.zero.cells) (hf:=by rfl) ?_)|(refine aK (cs:=Xu.zero.cells) (hf:=by rfl) ?_)|(refine aC (vs:=i.act.cells) (hv:=rfl) ?_)|(refine aC (vs:=i.claim.cells) (hv:=rfl) ?_)|(refine aC (vs:=i.ballot.cells) (hv:=rfl) ?_)|(refine aC (vs:=i.dec.cells) (hv:=rfl) ?_)|(refine gp ?_ ?_<;>intro hx_ this)|fail)
   all_goals first
    | exact ab (ae rfl rfl) rfl
    | (refine ab (ae rfl rfl) ?_;simp_all;done)
 by_cases h1:i.kind=1
 · have e:rightIt i=(claimR i.claim&&(actZ i.act&&(ballotEq i.ballot Xh.zero&&decZ i.dec))):=by simp [rightIt,rightK2,restI,sameIZ,h1,qi]
   rw [e]
   repeat' (first|refine aE ?_|refine aG ?_|(refine ag (hc:=c1) ?_)|(refine ag (hc:=c3) ?_)|(refine ag (hc:=c4) ?_)|refine gs ?_|refine gs1 fun _=>?_|(refine eH (a:=i.claim) (b:=Xg.zero) ?_)|(refine ef (a:=i.ballot) (b:=Xh.zero) ?_)|(refine aK (cs:=Xa.zero.cells) (hf:=by rfl) ?_)|(refine aK (cs:=Xg.zero.cells) (hf:=by rfl) ?_)|(refine aK (cs:=Xh.zero.cells) (hf:=by rfl) ?_)|(refine aK (cs:=Xu.zero.cells) (hf:=by rfl) ?_)|(refine aC (vs:=i.act.cells) (hv:=rfl) ?_)|(refine aC (vs:=i.claim.cells) (hv:=rfl) ?_)|(refine aC (vs:=i.ballot.cells) (hv:=rfl) ?_)|(refine aC (vs:=i.dec.cells) (hv:=rfl) ?_)|(refine gp ?_ ?_<;>intro hx_ this)|fail)
   all_goals first
    | exact ab (ae rfl rfl) rfl
    | (refine ab (ae rfl rfl) ?_;simp_all;done)
 by_cases h2:i.kind=2
 · have e:rightIt i=(ballotR i.ballot&&(actZ i.act&&(claimEq i.claim Xg.zero&&decZ i.dec))):=by simp [rightIt,rightK2,restI,sameIZ,h2,nS]
   rw [e]
   repeat' (first|refine aE ?_|refine aG ?_|(refine ag (hc:=c1) ?_)|(refine ag (hc:=c3) ?_)|(refine ag (hc:=c5) ?_)|refine gs ?_|refine gs1 fun _=>?_|(refine eH (a:=i.claim) (b:=Xg.zero) ?_)|(refine ef (a:=i.ballot) (b:=Xh.zero) ?_)|(refine aK (cs:=Xa.zero.cells) (hf:=by rfl) ?_)|(refine aK (cs:=Xg.zero.cells) (hf:=by rfl) ?_)|(refine aK (cs:=Xh.zero.cells) (hf:=by rfl) ?_)|(refine aK (cs:=Xu.zero.cells) (hf:=by rfl) ?_)|(refine aC (vs:=i.act.cells) (hv:=rfl) ?_)|(refine aC (vs:=i.claim.cells) (hv:=rfl) ?_)|(refine aC (vs:=i.ballot.cells) (hv:=rfl) ?_)|(refine aC (vs:=i.dec.cells) (hv:=rfl) ?_)|(refine gp ?_ ?_<;>intro hx_ this)|fail)
   all_goals first
    | exact ab (ae rfl rfl) rfl
    | (refine ab (ae rfl rfl) ?_;simp_all;done)
 by_cases h3:i.kind=3
 · have e:rightIt i=(decR i.dec&&(actZ i.act&&(claimEq i.claim Xg.zero&&ballotEq i.ballot Xh.zero))):=by simp [rightIt,rightK2,restI,sameIZ,h3,yc]
   rw [e]
   repeat' (first|refine aE ?_|refine aG ?_|(refine ag (hc:=c1) ?_)|(refine ag (hc:=c3) ?_)|(refine ag (hc:=c6) ?_)|refine gs ?_|refine gs1 fun _=>?_|(refine eH (a:=i.claim) (b:=Xg.zero) ?_)|(refine ef (a:=i.ballot) (b:=Xh.zero) ?_)|(refine aK (cs:=Xa.zero.cells) (hf:=by rfl) ?_)|(refine aK (cs:=Xg.zero.cells) (hf:=by rfl) ?_)|(refine aK (cs:=Xh.zero.cells) (hf:=by rfl) ?_)|(refine aK (cs:=Xu.zero.cells) (hf:=by rfl) ?_)|(refine aC (vs:=i.act.cells) (hv:=rfl) ?_)|(refine aC (vs:=i.claim.cells) (hv:=rfl) ?_)|(refine aC (vs:=i.ballot.cells) (hv:=rfl) ?_)|(refine aC (vs:=i.dec.cells) (hv:=rfl) ?_)|(refine gp ?_ ?_<;>intro hx_ this)|fail)
   all_goals first
    | exact ab (ae rfl rfl) rfl
    | (refine ab (ae rfl rfl) ?_;simp_all;done)
 have e:rightIt i=false:=by simp [rightIt,rightK2,h0,h1,h2,h3]
 rw [e]
 repeat' (first|refine aG ?_|(refine ag (hc:=c1) ?_)|(refine ag (hc:=c3) ?_)|refine gs ?_|refine gs1 fun _=>?_|(refine eH (a:=i.claim) (b:=Xg.zero) ?_)|(refine ef (a:=i.ballot) (b:=Xh.zero) ?_)|(refine aK (cs:=Xa.zero.cells) (hf:=by rfl) ?_)|(refine aK (cs:=Xg.zero.cells) (hf:=by rfl) ?_)|(refine aK (cs:=Xh.zero.cells) (hf:=by rfl) ?_)|(refine aK (cs:=Xu.zero.cells) (hf:=by rfl) ?_)|(refine aC (vs:=i.act.cells) (hv:=rfl) ?_)|(refine aC (vs:=i.claim.cells) (hv:=rfl) ?_)|(refine aC (vs:=i.ballot.cells) (hv:=rfl) ?_)|(refine aC (vs:=i.dec.cells) (hv:=rfl) ?_)|fail)
 all_goals first
  | exact ab (ae rfl rfl) rfl
  | (refine ab (ae rfl rfl) ?_;simp_all;done)
set_option maxRecDepth 20000 in
theorem pU (i:Xe) (hs:i.Str) (hdn:i.dec.to.n=i.dec.toL.length):Pu prog 90 #[i.v] (fun w=>i.at_ w) (.string (bytesIt i)):=by
 have hr:=hs.rng
 have c1:=jc i hs
 have hsz:=@gX i hr hdn
 have hnk:=ap i.kind
 cases hB:rightIt i with
 | false =>
  rw [hB] at c1
  rw [bytesIt,hB]
  refine aw func90 ntmps90 fun av bor w0=>?_
  repeat' (first|(refine ag (hc:=c1) ?_)|refine gs ?_|refine gs1 fun _=>?_|fail)
  exact ab (ae rfl rfl) rfl
 | true =>
 rw [hB] at c1
 have hsz:=hsz hB
 rw [bytesIt,hB,Zf]
 refine aw func90 ntmps90 fun av bor w0=>?_
 rcases dP hB with ⟨hk,hR⟩|⟨hk,hR⟩|⟨hk,hR⟩|⟨hk,hR⟩
 · have c2:=mF i.act hs.act (dR hr) ⟨hr.ints.2.2.2.2.2.2.2.1,hr.ints.2.2.2.2.2.2.2.2⟩
   have c3:=ca i.kind aa
   have hb:bodyIt i=actBytes i.act:=by rw [bodyIt,hk];rfl
   rw [hb] at hsz ⊢
   repeat' (first|refine aE ?_|(refine ag (hc:=c1) ?_)|(refine ag (hc:=c3) ?_)|(refine ag (hc:=c2) ?_)|refine gs ?_|refine gs1 fun _=>?_|(refine aC (vs:=i.act.cells) (hv:=rfl) ?_)|fail)
   refine bo ?_ (cZ rfl rfl aa)
   repeat' (first|refine gs ?_|fail)
   all_goals exact ab (ae rfl rfl) rfl
 · obtain ⟨hl,hm⟩:=im hR
   have c3:=ca i.kind aa
   have e1:=fB hm
   have e2:=di i.claim.e i.claim.s
   have hb:bodyIt i=coreCl i.claim++numsV [i.claim.e,i.claim.s]:=by rw [bodyIt,hk];rfl
   rw [hb]
   repeat' (first|refine aE ?_|refine aG ?_|(refine ag (hc:=c1) ?_)|(refine ag (hc:=c3) ?_)|refine gs ?_|refine gs1 fun _=>?_|fail)
   (refine aW ⟨[0,1,2,5,6,7],[(3,⟨[4],[(8,⟨[9,10],[]⟩)]⟩)]⟩ (h:=?_))
   all_goals repeat' (first|refine ag (hc:=pS _ hl hm) ?_|refine ag (hc:=iA _ _ hl.e hl.s) ?_|refine gd ?_|refine ax (hy:=by first|(apply cZ;rfl;rfl;(try simp only [Za]);omega)|(apply cg (vs:=i.claim.cells);rfl;exact .head _;rfl;rfl)|(apply cg (vs:=[.int .i64 i.claim.e,.int .i64 i.claim.s]);rfl;exact .head _;rfl;rfl)) ?_|refine aA ?_ (h':=?_)|exact aB|fail)
   all_goals
    repeat' (first|refine gs ?_|fail)
    refine ab (ae rfl rfl) ?_
    simp only [Zy]
 · obtain ⟨hl,hm⟩:=gE hR
   have c3:=ca i.kind aa
   have e1:=eR hm
   have e2:=di i.ballot.e i.ballot.s
   have hb:bodyIt i=coreBa i.ballot++numsV [i.ballot.e,i.ballot.s]:=by rw [bodyIt,hk];rfl
   rw [hb]
   repeat' (first|refine aE ?_|refine aG ?_|(refine ag (hc:=c1) ?_)|(refine ag (hc:=c3) ?_)|refine gs ?_|refine gs1 fun _=>?_|fail)
   (refine aW ⟨[0,1,2,5,6,7],[(3,⟨[4],[(8,⟨[9,10],[]⟩)]⟩)]⟩ (h:=?_))
   all_goals repeat' (first|refine ag (hc:=jg _ hl hm) ?_|refine ag (hc:=iA _ _ hl.e hl.s) ?_|refine gd ?_|refine ax (hy:=by first|(apply cZ;rfl;rfl;(try simp only [Za]);omega)|(apply cg (vs:=i.ballot.cells);rfl;exact .head _;rfl;rfl)|(apply cg (vs:=[.int .i64 i.ballot.e,.int .i64 i.ballot.s]);rfl;exact .head _;rfl;rfl)) ?_|refine aA ?_ (h':=?_)|exact aB|fail)
   all_goals
    repeat' (first|refine gs ?_|fail)
    refine ab (ae rfl rfl) ?_
    simp only [Zy]
 · obtain ⟨hl,hm⟩:=lk hdn hR
   have c3:=ca i.kind aa
   have e1:=eQ hm
   have e2:=di i.dec.e i.dec.s
   have c4:=jf i.dec hl hm
   have hb:bodyIt i=coreDe i.dec++numsV [i.dec.e,i.dec.s]:=by rw [bodyIt,hk];rfl
   rw [hb]
   repeat' (first|refine aG ?_|(refine ag (hc:=c1) ?_)|(refine ag (hc:=c3) ?_)|refine gs ?_|refine gs1 fun _=>?_|fail)
   (refine aW ⟨[0,1,2,5,6,7],[(3,⟨[4],[(8,⟨[9,10],[]⟩)]⟩)]⟩ (h:=?_))
   all_goals repeat' (first|(refine ag (hc:=c4) ?_)|refine ag (hc:=iA _ _ hl.e hl.s) ?_|refine gd ?_|refine ax (hy:=by first|(apply cZ;rfl;rfl;(try simp only [Za]);omega)|(apply cg (vs:=i.dec.cells);rfl;exact .head _;rfl;rfl)|(apply cg (vs:=[.int .i64 i.dec.e,.int .i64 i.dec.s]);rfl;exact .head _;rfl;rfl)) ?_|refine aA ?_ (h':=?_)|exact aB|fail)
   all_goals
    repeat' (first|refine gs ?_|fail)
    refine ab (ae rfl rfl) ?_
    simp only [Zy]
theorem ir (i:Xe) (hs:i.Str) (hdn:i.dec.to.n=i.dec.toL.length):Pu prog 47 #[i.v] (fun w=>i.at_ w) (.string (digIt i)):=by
 have c1:=pU i hs hdn
 have hsz:=@jD i hs.rng hdn
 have c2:=ox (bytesIt i) aa
 rw [digIt]
 cases hB:seqB (bytesIt i) ⟨#[]⟩ with
 | true =>
  refine aw func47 ntmps47 fun av bor w0=>?_
  repeat' (first|(refine ag (hc:=c1) ?_)|refine gs ?_|refine gs1 fun _=>?_|fail)
  all_goals first
   | (rw [hB] at hx_;exact absurd hx_ (by decide))
   | (refine ab (ae rfl rfl) ?_;simp only [Zf,Ze];done)
 | false =>
  refine aw func47 ntmps47 fun av bor w0=>?_
  repeat' (first|(refine ag (hc:=c1) ?_)|(refine ag (hc:=c2) ?_)|refine gs ?_|refine gs1 fun _=>?_|fail)
  all_goals first
   | (rw [hB] at hx_;exact absurd hx_ (by decide))
   | (refine ab (ae rfl rfl) ?_;simp only [Zf,Ze];done)
theorem kW (x:Xh) (hl:x.Lt) (hs:x.Sm):Pu prog 88 #[x.v] (fun _=>True) (.string (msgB x)):=by
 refine aw func88 ntmps88 fun av bor w0=>?_
 have c1:=cN nameB (by decide)
 have c2:=jg x hl hs
 have h1:=eR hs
 have h2:=az nameB
 have h3:nameB.size≤20:=by decide
 have e:msgB x=textV nameB++coreBa x:=by rw [msgB,cS,dc,Qj]
 rw [e]
 repeat' (first|refine gs ?_|refine gs1 fun _=>?_|fail)
 (refine aW ⟨[1],[(0,⟨[],[(2,⟨[3,4],[]⟩)]⟩)]⟩ (h:=?_))
 all_goals repeat' (first|(refine ag (hc:=c1) ?_)|(refine ag (hc:=c2) ?_)|refine gd ?_|refine ax (hy:=by (apply cZ;rfl;rfl;(try simp only [Za]);omega)) ?_|refine aA ?_ (h':=?_)|exact aB|fail)
 all_goals
  repeat' (first|refine gs ?_|fail)
  exact ab (ae rfl rfl) rfl
theorem jd (x:Xu) (hl:x.Lt) (hs:x.Sm):Pu prog 89 #[x.v] (fun w=>x.at_ w) (.string (msgD x)):=by
 refine aw func89 ntmps89 fun av bor w0=>?_
 have c1:=cN nameD (by decide)
 have c2:=jf x hl hs
 have h1:=eQ hs
 have h2:=az nameD
 have h3:nameD.size≤20:=by decide
 have e:msgD x=textV nameD++coreDe x:=by rw [msgD,cS,dc,Qj]
 rw [e]
 repeat' (first|refine gs ?_|refine gs1 fun _=>?_|fail)
 (refine aW ⟨[1],[(0,⟨[],[(2,⟨[3,4],[]⟩)]⟩)]⟩ (h:=?_))
 all_goals repeat' (first|(refine ag (hc:=c1) ?_)|(refine ag (hc:=c2) ?_)|refine gd ?_|refine ax (hy:=by (apply cZ;rfl;rfl;(try simp only [Za]);omega)) ?_|refine aA ?_ (h':=?_)|exact aB|fail)
 all_goals
  repeat' (first|refine gs ?_|fail)
  exact ab (ae rfl rfl) rfl
set_option maxRecDepth 20000 in
theorem pO (s:Xl) (L:List Int) (i:Xe) (hs:i.Str) (hdn:i.dec.to.n=i.dec.toL.length):Pu prog 46 #[s.v,i.v] (fun w=>Ints w s L∧i.at_ w) (.bool (signedIt L i)):=by
 refine aw func46 ntmps46 fun av bor w0=>?_
 refine aR (p:=s.n=L.length∧s.n≤maxLen∧(0<L.length→s.p.isSome=true)) (fun w h=>⟨h.1.len_,ZY (Xf.cap h.1) (Xf.max h.1),h.1.some_⟩) fun ⟨hsn,hsm,hsp⟩=>?_
 simp only [maxLen] at hsm
 have hri:=jc i hs
 cases hrB:rightIt i with
 | false =>
  rw [hrB] at hri
  rw [show signedIt L i=false from by rw [signedIt,hrB];rfl]
  repeat' (first|(refine ag (hc:=hri) ?_)|refine gs ?_|refine gs1 fun _=>?_|fail)
  exact ab (ae rfl rfl) rfl
 | true =>
 rw [hrB] at hri
 have hk:=dP hrB
 by_cases h2:i.kind=2
 · rcases hk with h|h|h|h
   all_goals first|(exfalso;omega)|skip
   have h1:=h.2
   clear h
   obtain ⟨hl,hz⟩:=gE h1
   have hlo:0≤i.ballot.server:=(ci (by have:=h1;simp only [ballotR,Zp] at this;exact this.1)).1
   have hms:=mO (nm:=nameB) (by decide) (ZY (eR hz) (by decide))
   have hsg:=fun p:Int=>Rf4.refVerify_pu p (msgB i.ballot) i.ballot.e i.ballot.s (ZY hms (by decide))
   have hcm:=kW i.ballot hl hz
   by_cases hlt:i.ballot.server<(L.length:Nat)
   · have hsp':=hsp aa
     have e:signedIt L i=sgnB (L.getD i.ballot.server.toNat 0) i.ballot:=by rw [signedIt,hrB,Zd h2,Zf,Zd hlt,Zg,Zg]
     rw [e]
     have hget:∀ w,Ints w s L∧i.at_ w→CellAt w s.p i.ballot.server.toNat (.int .i64 (L.getD i.ballot.server.toNat 0)):=fun w h=>Ints.get h.1 aa
     have hsg1:Pu prog 87 _ _ (.bool (sgnB (L.getD i.ballot.server.toNat 0) i.ballot)):=hsg (L.getD i.ballot.server.toNat 0)
     generalize L.getD i.ballot.server.toNat 0=pk at *
     repeat' (first|refine aE ?_|(refine ag (hc:=hri) ?_)|refine gs ?_|refine gs1 fun _=>?_|fail)
     rename_i b3
     (refine aq ⟨[0,1,2,3,4,5,6,7,8,9,10,11,12,13,14,16,17,18],[(15,⟨[],[(19,⟨[20,21],[]⟩)]⟩)]⟩ [cel b3 60 i.cells] (fun w=>Ints w s L∧i.at_ w) (h:=?_))
     all_goals repeat' (first|refine ax (hsub:=by exact aI) (hy:=by (apply cb true;rfl;rfl;exact Zd aa)) ?_|(refine ag (hc:=hcm) ?_)|(refine ag (hc:=hsg1) ?_)|refine gdz ?_|refine ax (hsub:=by exact aI) (hy:=by first|(apply ay (q:=i.ballot.server.toNat);rfl;rfl;omega;omega;assumption;omega)|(apply dl (q:=i.ballot.server.toNat) (u:=.int .i64 pk);rfl;exact hget)|(apply cg (vs:=i.ballot.cells);rfl;exact .head _;rfl;rfl)|(apply cg (vs:=SgD.cells ⟨i.ballot.e,i.ballot.s⟩);rfl;exact .head _;rfl;rfl)) ?_|refine aA ?_ (h':=?_)|exact aB|fail)
     all_goals
      repeat' (first|refine gs ?_|fail)
      exact ab (ae rfl rfl) rfl
   · have e:signedIt L i=false:=by rw [signedIt,hrB,Zd h2,Zf,Zc hlt];rfl
     rw [e]
     repeat' (first|refine aE ?_|(refine ag (hc:=hri) ?_)|refine gs ?_|refine gs1 fun _=>?_|fail)
     rename_i b3
     (refine aq ⟨[0,1,2,3,4,5,6,7,8,9,10,11,12,13,14,16,17,18],[(15,⟨[],[(19,⟨[20,21],[]⟩)]⟩)]⟩ [cel b3 60 i.cells] (fun w=>Ints w s L∧i.at_ w) (h:=?_))
     all_goals repeat' (first|refine ax (hsub:=by exact aI) (hy:=by (apply cb false;rfl;rfl;exact Zc aa)) ?_|refine gdz ?_|refine aA ?_ (h':=?_)|exact aB|fail)
     all_goals
      repeat' (first|refine gs ?_|fail)
      exact ab (ae rfl rfl) rfl
 by_cases h3:i.kind=3
 · rcases hk with h|h|h|h
   all_goals first|(exfalso;omega)|skip
   have h1:=h.2
   clear h
   obtain ⟨hl,hz⟩:=lk hdn h1
   have hlo:0≤i.dec.server:=(ci (by have:=h1;simp only [decR,Zp] at this;exact this.1)).1
   have hms:=mO (nm:=nameD) (by decide) (ZY (eQ hz) (by decide))
   have hsg:=fun p:Int=>Rf4.refVerify_pu p (msgD i.dec) i.dec.e i.dec.s (ZY hms (by decide))
   have hcm:=jd i.dec hl hz
   by_cases hlt:i.dec.server<(L.length:Nat)
   · have hsp':=hsp aa
     have e:signedIt L i=sgnD (L.getD i.dec.server.toNat 0) i.dec:=by rw [signedIt,hrB,Zc h2,Ze,Zd h3,Zf,Zd hlt,Zg,Zg]
     rw [e]
     have hget:∀ w,Ints w s L∧i.at_ w→CellAt w s.p i.dec.server.toNat (.int .i64 (L.getD i.dec.server.toNat 0)):=fun w h=>Ints.get h.1 aa
     have hsg1:Pu prog 87 _ _ (.bool (sgnD (L.getD i.dec.server.toNat 0) i.dec)):=hsg (L.getD i.dec.server.toNat 0)
     generalize L.getD i.dec.server.toNat 0=pk at *
     repeat' (first|refine aE ?_|refine aG ?_|(refine ag (hc:=hri) ?_)|refine gs ?_|refine gs1 fun _=>?_|fail)
     rename_i b3
     (refine aq ⟨[0,1,2,3,4,5,6,7,8,9,10,11,12,13,14,16,17,18],[(15,⟨[],[(19,⟨[20,21],[]⟩)]⟩)]⟩ [cel b3 60 i.cells] (fun w=>Ints w s L∧i.at_ w) (h:=?_))
     all_goals repeat' (first|refine ax (hsub:=by exact aI) (hy:=by (apply cb true;rfl;rfl;exact Zd aa)) ?_|(refine ag (hc:=hcm) (hX:=fun w h=>h.2.2) ?_)|(refine ag (hc:=hsg1) ?_)|refine gdz ?_|refine ax (hsub:=by exact aI) (hy:=by first|(apply ay (q:=i.dec.server.toNat);rfl;rfl;omega;omega;assumption;omega)|(apply dl (q:=i.dec.server.toNat) (u:=.int .i64 pk);rfl;exact hget)|(apply cg (vs:=i.dec.cells);rfl;exact .head _;rfl;rfl)|(apply cg (vs:=SgD.cells ⟨i.dec.e,i.dec.s⟩);rfl;exact .head _;rfl;rfl)) ?_|refine aA ?_ (h':=?_)|exact aB|fail)
     all_goals
      repeat' (first|refine gs ?_|fail)
      exact ab (ae rfl rfl) rfl
   · have e:signedIt L i=false:=by rw [signedIt,hrB,Zc h2,Ze,Zd h3,Zf,Zc hlt];rfl
     rw [e]
     repeat' (first|refine aE ?_|refine aG ?_|(refine ag (hc:=hri) ?_)|refine gs ?_|refine gs1 fun _=>?_|fail)
     rename_i b3
     (refine aq ⟨[0,1,2,3,4,5,6,7,8,9,10,11,12,13,14,16,17,18],[(15,⟨[],[(19,⟨[20,21],[]⟩)]⟩)]⟩ [cel b3 60 i.cells] (fun w=>Ints w s L∧i.at_ w) (h:=?_))
     all_goals repeat' (first|refine ax (hsub:=by exact aI) (hy:=by (apply cb false;rfl;rfl;exact Zc aa)) ?_|refine gdz ?_|refine aA ?_ (h':=?_)|exact aB|fail)
     all_goals
      repeat' (first|refine gs ?_|fail)
      exact ab (ae rfl rfl) rfl
 have e:signedIt L i=true:=by rw [signedIt,hrB,Zc h2,Zc h3];rfl
 rw [e]
 repeat' (first|refine aG ?_|(refine ag (hc:=hri) ?_)|refine gs ?_|refine gs1 fun _=>?_|fail)
 exact ab (ae rfl rfl) rfl
def badSv (L:List Int) (k:Nat):Bool:=decide (L.getD k 0<1)||decide (2305843009213693950<L.getD k 0)
def badKn (L:List Int) (I:List Xe) (k:Nat):Bool:=!signedIt L (I.getD k Xe.zero)||(decide (0<k)&&!ltB (digIt (I.getD (k-1) Xe.zero)) (digIt (I.getD k Xe.zero)))
def rightKn (L:List Int) (I:List Xe):Bool:=decide (L.length≤20)&&(allB L.length (badSv L)&&allB I.length (badKn L I))
section
variable {P:Program} {N:Nat} {av bor:List Nat} {w0:World} {st:St} {ty:TypeId} {x y:Operand} {t t2:TypeId}
theorem B8 {a b:ByteArray} (hx:ev st.env x=some (.string a)) (hy:ev st.env y=some (.string b)) (hab:ltB a b=false):Sy.Yields P N av bor w0 st (.binOp .geq t x y t2) ty (.bool true):=by
 have h:=sV (P:=P) (N:=N) (av:=av) (bor:=bor) (w0:=w0) (t:=t) (t2:=t2) (ty:=ty) hx hy
 rw [show Op.bytesLess a.toList b.toList=false from hab] at h
 exact h
end
set_option maxRecDepth 20000 in
theorem pQ (ks ki:Xl) (L:List Int) (I:List Xe) (hs:∀ i∈I,i.Str) (hdn:∀ i∈I,i.dec.to.n=i.dec.toL.length) :
  Pu prog 10 #[.agg #[ks.v,ki.v]] (fun w=>Ints w ks L∧Items w ki I) (.bool (rightKn L I)):=by
 refine aw func10 ntmps10 fun av bor w0=>?_
 refine aR (p:=(ks.n=L.length∧ks.n≤maxLen∧(0<L.length→ks.p.isSome=true))∧(ki.n=I.length∧ki.n≤maxLen∧(0<I.length→ki.p.isSome=true))) (fun w h=>⟨⟨h.1.len_,ZY (Xf.cap h.1) (Xf.max h.1),h.1.some_⟩,h.2.len_,h.2.max_,h.2.some_⟩) fun ⟨⟨hn,hm,hp⟩,hin,him,hip⟩=>?_
 simp only [maxLen] at hm him
 repeat' (first|refine gs ?_|refine gs1 fun _=>?_|(refine gp ?_ ?_<;>intro hx_ this)|fail)
 · refine ab (ae rfl rfl) ?_
   rw [rightKn,Zc (by omega)]
   rfl
 rename_i b
 have h20:L.length≤20:=by omega
 rw [rightKn,Zd h20,Zg]
 refine ao (ι:=X6 L.length (badSv L)) (fun i=>⟨[(1,.pointer (some ⟨b,0,none⟩)),(3,.int .i64 (i.k:Nat))],[cel b 25 [ks.v,ki.v]],fun w=>Ints w ks L∧Items w ki I⟩) (fun i=>L.length-i.k) (X6.zero _ _) (ai al (aj _) fun _ h=>h) fun i=>?_
 have hik:=i.hk
 by_cases hlt:i.k<L.length
 · have hks:=hp aa
   repeat' (first|refine gs ?_|(refine aD (q:=i.k) ?_)|(refine de (q:=i.k) (u:=.int .i64 (L.getD i.k 0)) (hF:=fun w h=>Ints.get h.1 hlt) ?_)|(refine gp ?_ ?_<;>intro hx_ this)|fail)
   all_goals first
    | (exfalso;omega)
    | (refine ab (ae rfl rfl) ?_;rw [cw (k:=i.k) hlt (by simp only [badSv, *,Zt,Zr,Zf,Ze,Zh,Zg,Zk,Zj,Zn,Zl,Zs,Zm,Zq,Zi]),Zj];done)
    | exact ⟨i.next hlt (by simp only [badSv, *,Zt,Zr,Zf,Ze,Zh,Zg,Zk,Zj,Zn,Zl,Zs,Zm,Zq,Zi]),(by show L.length-(i.k+1)<L.length-i.k;omega),ai al (aj _) fun _ h=>h⟩
 · rw [i.all hlt,Zg]
   repeat' (first|refine SrG.sy_lssF_g (hab:=by omega) (h:=?_)|refine gs ?_|fail)
   refine ao (ι:=X6 I.length (badKn L I)) (fun j=>⟨[(1,.pointer (some ⟨b,0,none⟩)),(4,.int .i64 (j.k:Nat))],[cel b 25 [ks.v,ki.v]],fun w=>Ints w ks L∧Items w ki I⟩) (fun j=>I.length-j.k) (X6.zero _ _) (ai al (aj _) fun _ h=>h) fun j=>?_
   have hjk:=j.hk
   by_cases hlj:j.k<I.length
   · have hki:=hip aa
     obtain ⟨x,hx⟩:∃ x,I[j.k]?=some x:=⟨_,Zb hlj⟩
     have hxm:=Z6 hx
     have hxD:I.getD j.k Xe.zero=x:=by rw [Zo,hx];rfl
     have hsg:=pO ks L x (hs x hxm) (hdn x hxm)
     have hdx:=ir x (hs x hxm) (hdn x hxm)
     cases hsB:signedIt L x with
     | false =>
      rw [hsB] at hsg
      have hbad:badKn L I j.k=true:=by rw [badKn,hxD,hsB];rfl
      repeat' (first|refine SrG.sy_lssT_g (hab:=by omega) (h:=?_)|refine gs ?_|fail)
      (refine aq ⟨[0,1,2,3,4,5,6],[(7,⟨[8],[]⟩)]⟩ [cel b 25 [ks.v,ki.v]] (fun w=>Ints w ks L∧Items w ki I) (h:=?_))
      all_goals repeat' (first|(refine ag (hc:=hsg) (hX:=fun w h=>⟨h.1,h.2.2 x hxm⟩) ?_)|refine gdz ?_|refine ax (hsub:=by exact aI) (hy:=by first|(apply ay (q:=j.k*49);rfl;rfl;omega;omega;assumption;omega)|(apply fF (cs:=x.cells);rfl;exact (fun w h=>Items.get h.2 hx))) ?_|refine aA ?_ (h':=?_)|exact aB|fail)
      all_goals
       repeat' (first|refine gs ?_|fail)
       all_goals (refine ab (ae rfl rfl) ?_;rw [cw hlj hbad])
     | true =>
      rw [hsB] at hsg
      by_cases h0:0<j.k
      · obtain ⟨y,hy⟩:∃ y,I[j.k-1]?=some y:=⟨_,Zb aa⟩
        have hym:=Z6 hy
        have hyD:I.getD (j.k-1) Xe.zero=y:=by rw [Zo,hy];rfl
        have hdy:=ir y (hs y hym) (hdn y hym)
        have hbq:badKn L I j.k=!ltB (digIt y) (digIt x):=by rw [badKn,hxD,hyD,hsB,Zd h0];rfl
        generalize digIt x=dx at *
        generalize digIt y=dy at *
        cases hlB:ltB dy dx with
        | true =>
         have hok:badKn L I j.k=false:=by rw [hbq,hlB];rfl
         repeat' (first|refine SrG.sy_lssT_g (hab:=by omega) (h:=?_)|refine gs ?_|fail)
         (refine aq ⟨[0,1,2,3,4,5,6],[(7,⟨[8],[]⟩)]⟩ [cel b 25 [ks.v,ki.v]] (fun w=>Ints w ks L∧Items w ki I) (h:=?_))
         all_goals repeat' (first|(refine ag (hc:=hsg) (hX:=fun w h=>⟨h.1,h.2.2 x hxm⟩) ?_)|refine gdz ?_|refine ax (hsub:=by exact aI) (hy:=by first|(apply ay (q:=j.k*49);rfl;rfl;omega;omega;assumption;omega)|(apply fF (cs:=x.cells);rfl;exact (fun w h=>Items.get h.2 hx))) ?_|refine aA ?_ (h':=?_)|exact aB|fail)
         all_goals
          repeat' (first|refine gs ?_|fail)
          (refine aq ⟨[0,1,2,3,4,5,6,7,8,10,11,12,13,14],[(9,⟨[],[(15,⟨[16,17],[]⟩)]⟩)]⟩ [cel b 25 [ks.v,ki.v]] (fun w=>Ints w ks L∧Items w ki I) (h:=?_))
          all_goals repeat' (first|refine ax (hsub:=by exact aI) (hy:=by first|(apply SrG.y_gtrT_g;rfl;rfl;omega)|(apply Rf4.y_subM (q:=1);rfl;rfl;omega)|(apply B9;rfl;rfl;exact hlB)) ?_|(refine ag (hc:=hdy) (hX:=fun w h=>h.2.2 y hym) ?_)|(refine ag (hc:=hdx) (hX:=fun w h=>h.2.2 x hxm) ?_)|refine gdz ?_|refine ax (hsub:=by exact aI) (hy:=by first|(apply ay (q:=(j.k-1)*49);rfl;rfl;omega;omega;assumption;omega)|(apply ay (q:=j.k*49);rfl;rfl;omega;omega;assumption;omega)|(apply fF (cs:=y.cells);rfl;exact (fun w h=>Items.get h.2 hy))|(apply fF (cs:=x.cells);rfl;exact (fun w h=>Items.get h.2 hx))) ?_|refine aA ?_ (h':=?_)|exact aB|fail)
          all_goals
           repeat' (first|refine gs ?_|fail)
           all_goals exact ⟨j.next hlj hok,(by show I.length-(j.k+1)<I.length-j.k;omega),ai al (aj _) fun _ h=>h⟩
        | false =>
         have hbad:badKn L I j.k=true:=by rw [hbq,hlB];rfl
         repeat' (first|refine SrG.sy_lssT_g (hab:=by omega) (h:=?_)|refine gs ?_|fail)
         (refine aq ⟨[0,1,2,3,4,5,6],[(7,⟨[8],[]⟩)]⟩ [cel b 25 [ks.v,ki.v]] (fun w=>Ints w ks L∧Items w ki I) (h:=?_))
         all_goals repeat' (first|(refine ag (hc:=hsg) (hX:=fun w h=>⟨h.1,h.2.2 x hxm⟩) ?_)|refine gdz ?_|refine ax (hsub:=by exact aI) (hy:=by first|(apply ay (q:=j.k*49);rfl;rfl;omega;omega;assumption;omega)|(apply fF (cs:=x.cells);rfl;exact (fun w h=>Items.get h.2 hx))) ?_|refine aA ?_ (h':=?_)|exact aB|fail)
         all_goals
          repeat' (first|refine gs ?_|fail)
          (refine aq ⟨[0,1,2,3,4,5,6,7,8,10,11,12,13,14],[(9,⟨[],[(15,⟨[16,17],[]⟩)]⟩)]⟩ [cel b 25 [ks.v,ki.v]] (fun w=>Ints w ks L∧Items w ki I) (h:=?_))
          all_goals repeat' (first|refine ax (hsub:=by exact aI) (hy:=by first|(apply SrG.y_gtrT_g;rfl;rfl;omega)|(apply Rf4.y_subM (q:=1);rfl;rfl;omega)|(apply B8;rfl;rfl;exact hlB)) ?_|(refine ag (hc:=hdy) (hX:=fun w h=>h.2.2 y hym) ?_)|(refine ag (hc:=hdx) (hX:=fun w h=>h.2.2 x hxm) ?_)|refine gdz ?_|refine ax (hsub:=by exact aI) (hy:=by first|(apply ay (q:=(j.k-1)*49);rfl;rfl;omega;omega;assumption;omega)|(apply ay (q:=j.k*49);rfl;rfl;omega;omega;assumption;omega)|(apply fF (cs:=y.cells);rfl;exact (fun w h=>Items.get h.2 hy))|(apply fF (cs:=x.cells);rfl;exact (fun w h=>Items.get h.2 hx))) ?_|refine aA ?_ (h':=?_)|exact aB|fail)
          all_goals
           repeat' (first|refine gs ?_|fail)
           all_goals (refine ab (ae rfl rfl) ?_;rw [cw hlj hbad])
      · have hok:badKn L I j.k=false:=by rw [badKn,hxD,hsB,Zc h0];rfl
        repeat' (first|refine SrG.sy_lssT_g (hab:=by omega) (h:=?_)|refine gs ?_|fail)
        (refine aq ⟨[0,1,2,3,4,5,6],[(7,⟨[8],[]⟩)]⟩ [cel b 25 [ks.v,ki.v]] (fun w=>Ints w ks L∧Items w ki I) (h:=?_))
        all_goals repeat' (first|(refine ag (hc:=hsg) (hX:=fun w h=>⟨h.1,h.2.2 x hxm⟩) ?_)|refine gdz ?_|refine ax (hsub:=by exact aI) (hy:=by first|(apply ay (q:=j.k*49);rfl;rfl;omega;omega;assumption;omega)|(apply fF (cs:=x.cells);rfl;exact (fun w h=>Items.get h.2 hx))) ?_|refine aA ?_ (h':=?_)|exact aB|fail)
        all_goals
         repeat' (first|refine gs ?_|fail)
         (refine aq ⟨[0,1,2,3,4,5,6,7,8,10,11,12,13,14],[(9,⟨[],[(15,⟨[16,17],[]⟩)]⟩)]⟩ [cel b 25 [ks.v,ki.v]] (fun w=>Ints w ks L∧Items w ki I) (h:=?_))
         all_goals repeat' (first|refine ax (hsub:=by exact aI) (hy:=by (apply SrG.y_gtrF_g;rfl;rfl;omega)) ?_|refine gdz ?_|refine aA ?_ (h':=?_)|exact aB|fail)
         all_goals
          repeat' (first|refine gs ?_|fail)
          all_goals exact ⟨j.next hlj hok,(by show I.length-(j.k+1)<I.length-j.k;omega),ai al (aj _) fun _ h=>h⟩
   · rw [j.all hlj]
     repeat' (first|refine SrG.sy_lssF_g (hab:=by omega) (h:=?_)|refine gs ?_|fail)
     all_goals first
      | exact ab (ae rfl rfl) rfl
theorem uy {l:List ByteArray} (h:∀ k (hk:k+1<l.length),ltB (l[k]'(by omega)) l[k+1]=true):Asc l:=by
 have key:∀ d i (hj:i+d+1<l.length),ltB (l[i]'(by omega)) l[i+d+1]=true:=by
  intro d
  induction d with
  | zero=>exact fun i hj=>h i hj
  | succ d ih =>
   intro i hj
   exact ie (ih i aa) (h (i+d+1) hj)
 refine List.pairwise_iff_getElem.2 fun i j hi hj hij=>?_
 obtain ⟨d,rfl⟩:∃ d,j=i+d+1:=⟨j-i-1,by omega⟩
 exact key d i hj
theorem gM {L:List Int} {I:List Xe} (h:rightKn L I=true):∀ i∈I,signedIt L i=true:=fun i hi=>by
 rw [rightKn,Zp,Zp] at h
 obtain ⟨k,hk⟩:=QP.1 hi
 obtain ⟨hlt,e⟩:=QL.1 hk
 have h1:=lm h.2.2 hlt
 have e2:I.getD k Xe.zero=i:=by rw [Zo,hk];rfl
 rw [badKn,e2,Ql,Bool.not_eq_false'] at h1
 exact h1.1
theorem rj {L:List Int} {I:List Xe} (h:rightKn L I=true):Asc (I.map digIt):=by
 rw [rightKn,Zp,Zp] at h
 refine uy fun k hk=>?_
 rw [ZF] at hk
 have h1:=lm h.2.2 hk
 rw [badKn,Ql] at h1
 have h2:=h1.2
 rw [Zd aa,Zg,Bool.not_eq_false',Zo,Zo,Nat.add_sub_cancel,Zb hk,Zb (show k<I.length by omega)] at h2
 rw [List.getElem_map,List.getElem_map]
 exact h2
theorem FH {L:List Int} {I:List Xe} (h:rightKn L I=true) (hl:I.length≤100) (hr:∀ i∈I,i.act.Rng) (hs:∀ i∈I,i.act.Sm) (hd:∀ i∈I,i.dec.to.n=i.dec.toL.length):KnR L I where
 sv:=by
  rw [rightKn,Zp] at h
  exact bz h.1
 len:=hl
 rng:=hr
 sm:=hs
 dn:=hd
 right:=fun i hi=>by
  have h1:=gM h i hi
  rw [signedIt,Zp] at h1
  exact h1.1
 asc:=rj h
structure DupI (p:Nat) where
 k:Nat
 hk:k≤p
 at0:Int
def canAdd (L:List Int) (I:List Xe) (it:Xe):Bool:=signedIt L it&&!(I.any fun x=>seqB (digIt x) (digIt it))
def addK (L:List Int) (I:List Xe) (it:Xe):List Xe:=bif canAdd L I it then addV digIt it I else I
def draftX (c:Xb) (x:Xa):Xa:={ x with author:=c.id,seq:=(c.acts.n:Int),prev:=c.prev }
theorem Ao {L:List Int} {I:List Xe} {au:ByteArray} {c:Xb} {kl:List Xq} (q:QK L I au c kl):c.id=au:=by
 obtain ⟨A,sa,sk,st,f,p,r,rfl,rfl⟩:=q
 rfl
def viewC (l:List Xb) (id:ByteArray):Option (List Xa):=(findC l id).map fun c=>c.actsL.map Xa.can
def AllK (L:List Int) (I:List Xe) (l:List Xb):Prop:=∃ M:List ChK,All2 (fun id p=>QK L I id p.1 p.2) (compB (sortB (authI I))) M∧l=(M.filter neK).map Prod.fst
theorem xM (I:List Xe):(compB (sortB (authI I))).Nodup:=(k7 _).imp fun h e=>by subst e;rw [cY] at h;cases h
theorem mem_ids {I:List Xe} {id:ByteArray}:id∈compB (sortB (authI I))↔id∈authI I:=kX
structure SignD (L:List Int) (I:List Xe) (c n:Xb) (k:KyD) (x b:Xa):Prop where
 right:rightB b=true
 sig:b=(draftX c x).sig (signV k (coreV ((draftX c x).sig SgD.zero)))
 fits:fitsV c b (idxV c.actsL b.object)=true
 acts:n.actsL.map Xa.can=c.actsL.map Xa.can++[b.can]
 len:n.actsL.length=c.actsL.length+1
theorem fe {L:List Int} {I:List Xe} (h:KnR L I) {l:List Xb} (hl:AllK L I l):∀ c∈l,Xx c.actsL∧c.actsL.length≤100:=by
 obtain ⟨M,hM,rfl⟩:=hl
 intro c hc
 obtain ⟨p,hp,rfl⟩:=QJ.1 hc
 obtain ⟨a,_,q⟩:=hM.right p (QN.1 hp).1
 exact ⟨(qa h q).ok,(qa h q).len⟩
def LenOk (l:List Xb):Prop:=∀ c∈l,c.acts.n=c.actsL.length
theorem vS (l:List Xb) (p:Xd) (kind:Int):∀ i,i≤l.length→∀ (j:Nat) (c:Xb),j<i→l[j]?=some c→hasV c kind p.id=true→admV l c.id p.author=true→c.id∈actF l p kind i
 | 0,_,j,c,hj,_,_,_=>absurd hj (Nat.not_lt_zero _)
 | i+1,hi,j,c,hj,hc,h1,h2=>by
  rw [actF]
  rcases Nat.lt_succ_iff_lt_or_eq.1 hj with h|rfl
  · have ih:=vS l p kind i aa j c h hc h1 h2
    cases cntB l p kind (actF l p kind i) (l.getD i Xb.zero) with
    | true=>exact mem_sput.2 (.inr ih)
    | false=>exact ih
  · have hg:l.getD j Xb.zero=c:=by rw [Zo,hc];rfl
    rw [hg]
    cases hb:cntB l p kind (actF l p kind j) c with
    | true=>exact mem_sput.2 (.inl rfl)
    | false =>
     rw [cntB] at hb
     cases hh:hasS (actF l p kind j) c.id with
     | true=>exact hasS_iff.1 hh
     | false=>rw [hh,h1,h2] at hb;cases hb
theorem actorsV_iff {l:List Xb} {p:Xd} {kind:Int} {x:ByteArray}:x∈actorsV l p kind↔∃ c∈l,c.id=x∧hasV c kind p.id=true∧admV l x p.author=true:=by
 rw [actorsV,mem_sortB]
 constructor
 · exact ny l p kind l.length (ZX _) x
 · rintro ⟨c,hc,rfl,h1,h2⟩
   obtain ⟨j,hj,rfl⟩:=Qx hc
   exact vS l p kind l.length (ZX _) j _ hj (Zb hj) h1 h2
theorem kS {l m:List Xb} {p q:Xd} {k:Int} (h:∀ x,x∈actorsV l p k↔x∈actorsV m q k):actorsV l p k=actorsV m q k:=(fE l p k).ext (fE m q k) h
theorem ij {l:List Xb} (hn:(l.map Xb.id).Nodup) {id:ByteArray} {c:Xb}:findC l id=some c↔c∈l∧c.id=id:=by
 constructor
 · intro h
   exact ⟨Qz h,seqB_iff.1 (List.find?_some (p:=fun c:Xb=>seqB c.id id) h)⟩
 · rintro ⟨hc,rfl⟩
   induction l with
   | nil=>cases hc
   | cons a l ih =>
    rw [Z1,List.nodup_cons] at hn
    rw [findC,List.find?_cons]
    rcases ZI.1 hc with rfl|hc
    · rw [cG]
    · have hne:seqB a.id c.id=false:=seqB_ne.2 fun e=>hn.1 (e▸QJ.2 ⟨c,hc,rfl⟩)
      rw [hne]
      exact ih hn.2 hc
theorem ue {l m:List Xb} (hn:(l.map Xb.id).Nodup) (h:l.Perm m) (id:ByteArray):findC l id=findC m id:=Option.ext fun c=>by
 have hm:(m.map Xb.id).Nodup:=(h.map _).nodup_iff.1 hn
 rw [ij hn,ij hm,h.mem_iff]
theorem nR {l m:List Xb} (hn:(l.map Xb.id).Nodup) (h:l.Perm m) (a b:ByteArray):blockedV l a b=blockedV m a b:=by
 simp only [blockedV,tieC,chainC,ue hn h]
theorem pc {l m:List Xb} (hn:(l.map Xb.id).Nodup) (h:l.Perm m) (a b:ByteArray):admV l a b=admV m a b:=by rw [admV,admV,nR hn h]
structure Ek (l:List Xb):Prop where
 ids:(l.map Xb.id).Nodup
 dig:∀ c∈l,∀ d∈l,∀ a∈c.actsL,∀ b∈d.actsL,digV a=digV b→c.id=d.id
 own:∀ c∈l,∀ (n:Nat) (x:Xa),c.actsL[n]?=some x→idxV c.actsL (digV x)=some n
theorem Ek.sub {l m:List Xb} (h:Ek l) (hs:m.Sublist l):Ek m:=⟨h.ids.sublist (hs.map _),fun c hc d hd=>h.dig c (hs.subset hc) d (hs.subset hd),fun c hc=>h.own c (hs.subset hc)⟩
theorem Ek.perm {l m:List Xb} (h:Ek l) (hp:l.Perm m):Ek m:=⟨(hp.map _).nodup_iff.1 h.ids,fun c hc d hd=>h.dig c (hp.mem_iff.2 hc) d (hp.mem_iff.2 hd),fun c hc=>h.own c (hp.mem_iff.2 hc)⟩
def PostIn (c:Xb) (p:Xd):Prop:=∃ a,c.actsL[p.pos]?=some a∧p.id=digV a∧p.author=c.id∧p.kind=a.kind
theorem rP (c:Xb):∀ i,i≤c.actsL.length→∀ p∈openF c i,PostIn c p
 | 0,_,p,hp=>by cases hp
 | i+1,hi,p,hp=>by
  rw [openF,Qy] at hp
  rcases hp with h|h
  · exact rP c i aa p h
  · have hx:c.actsL[i]?=some (c.actsL.getD i Xa.zero):=by rw [Zo,Zb (by omega)];rfl
    cases hk:postK (c.actsL.getD i Xa.zero).kind with
    | false=>rw [hk] at h;cases h
    | true =>
     rw [hk,Zf,Z5] at h
     subst h
     exact ⟨_,hx,rfl,rfl,rfl⟩
theorem vt {c:Xb} {P:List Xd} (o:Option Nat) {f:Xd→Xd} (h:∀ p∈P,PostIn c p) (hf:∀ p,PostIn c p→PostIn c (f p)):∀ p∈modP P o f,PostIn c p:=by
 cases o with
 | none=>exact h
 | some n =>
  intro p hp
  by_cases hn:n<P.length
  · rcases List.mem_or_eq_of_mem_set hp with h1|rfl
    · exact h p h1
    · refine hf _ (h _ ?_)
      rw [Zo,Zb hn]
      exact ZQ hn
  · rw [modP,List.set_eq_of_length_le (by omega)] at hp
    exact h p hp
theorem AQ (c:Xb):∀ i,∀ p∈ofP c i,PostIn c p
 | 0=>rP c _ (ZX _)
 | i+1=>by
  have ih:=AQ c i
  rw [ofP,stepP]
  cases decide ((c.actsL.getD i Xa.zero).kind=13) with
  | true=>exact vt _ ih fun p h=>h
  | false =>
   cases decide ((c.actsL.getD i Xa.zero).kind=14) with
   | true =>
    refine vt _ ih fun p h=>?_
    show PostIn c (editP _ i p)
    rw [editP]
    cases editB (c.actsL.getD i Xa.zero) p with
    | true=>exact h
    | false=>exact h
   | false=>exact ih
theorem fX {c:Xb} {p:Xd} (h:p∈postsV c):PostIn c p:=AQ c _ p h
theorem PostIn.mem {c:Xb} {p:Xd} (h:PostIn c p):∃ a∈c.actsL,p.id=digV a∧p.author=c.id∧p.kind=a.kind:=by
 obtain ⟨a,h1,h2⟩:=h
 exact ⟨a,Z6 h1,h2⟩
theorem sZ {l:List Xb} (h:Ek l) {c d:Xb} (hc:c∈l) (hd:d∈l) (e:c.id=d.id):c=d :=
 Option.some.inj ((ij h.ids (id:=d.id)).2 ⟨hc,e⟩ |>.symm.trans ((ij h.ids).2 ⟨hd,rfl⟩))
theorem xp {l:List Xb} (h:Ek l) {p q:Xd} (hp:p∈l.flatMap postsV) (hq:q∈l.flatMap postsV) (e:p.id=q.id):p=q:=by
 obtain ⟨c,hc,hp⟩:=List.mem_flatMap.1 hp
 obtain ⟨d,hd,hq⟩:=List.mem_flatMap.1 hq
 obtain ⟨a,ha,pa,-⟩:=fX hp
 obtain ⟨b,hb,qb,-⟩:=fX hq
 have eab:digV a=digV b:=by rw [←pa,←qb,e]
 have hcd:=sZ h hc hd (h.dig c hc d hd a (Z6 ha) b (Z6 hb) eab)
 subst hcd
 have h1:=h.own c hc _ _ ha
 have h2:=h.own c hc _ _ hb
 rw [eab,h2] at h1
 have epos:p.pos=q.pos:=(Option.some.inj h1).symm
 obtain ⟨i,hi,rfl⟩:=Qx hp
 obtain ⟨j,hj,rfl⟩:=Qx hq
 have:=Ar (tP c).1 (Zb hi) (Zb hj) epos
 subst this
 rfl
theorem gB {l:List Xb} (h:Ek l) {id:ByteArray} {p:Xd}:findPV l id=some p↔p∈l.flatMap postsV∧p.id=id:=by
 constructor
 · intro e
   exact ⟨Qz e,seqB_iff.1 (List.find?_some (p:=isPost id) e)⟩
 · rintro ⟨hp,rfl⟩
   cases hf:findPV l p.id with
   | none =>
    rw [findPV,List.find?_eq_none] at hf
    exact absurd (cG p.id) (hf p hp)
   | some q =>
    have hq:seqB q.id p.id=true:=List.find?_some (p:=isPost p.id) hf
    rw [xp h (Qz hf) hp (seqB_iff.1 hq)]
theorem kK {l m:List Xb} (h:Ek l) (hp:l.Perm m) (id:ByteArray):findPV l id=findPV m id:=Option.ext fun p=>by
 rw [gB h,gB (h.perm hp),(hp.flatMap_right postsV).mem_iff]
theorem mT {l m:List Xb} (h:Ek l) (hp:l.Perm m) (id:ByteArray):liveV l id=liveV m id:=by rw [liveV,liveV,kK h hp]
theorem jH {l m:List Xb} (h:Ek l) (hp:l.Perm m) (p:Xd) (k:Int):actorsV l p k=actorsV m p k:=kS fun x=>by
 rw [actorsV_iff,actorsV_iff]
 simp only [pc h.ids hp,hp.mem_iff]
theorem gH {l m:List Xb} (h:Ek l) (hp:l.Perm m) (id:ByteArray):tallyV l id=tallyV m id:=by
 have e:∀ a,repB l id a=repB m id a:=fun a=>funext fun q=>by rw [repB,repB,pc h.ids hp]
 rw [tallyV,tallyV,mT h hp]
 cases liveV m id with
 | none=>rfl
 | some p=>simp only [jH h hp,e,(hp.flatMap_right postsV).countP_eq]
theorem vV {l m:List Xb} (h:Ek l) (hp:l.Perm m) (id:ByteArray) (k:Int):whoV l id k=whoV m id k:=by
 rw [whoV,whoV,mT h hp]
 cases liveV m id with
 | none=>rfl
 | some p=>simp only [jH h hp]
theorem An {L:List Int} {I:List Xe} {au:ByteArray} {c:Xb} {kl:List Xq} (q:QK L I au c kl):∀ a∈c.actsL,a∈selA au rightIt I:=by
 obtain ⟨A,sa,sk,st,fork,hA,hR,rfl,rfl⟩:=q
 rw [OfRes] at hR
 cases ho:oneA (firstL ((OfWK L.length I au).at A)) with
 | none =>
  rw [ho] at hR
  obtain ⟨rfl,rfl⟩:=hR
  exact fun a ha=>absurd ha (by simp)
 | some a =>
  rw [ho] at hR
  obtain ⟨rfl,rfl⟩:=hR
  have ha:a∈firstL ((OfWK L.length I au).at A):=by rw [ic ho];exact Z5.2 rfl
  exact fun x hx=>hA.subset ((vG ha).mem x hx)
theorem BX {L:List Int} {I:List Xe} {ids:List ByteArray} {M:List ChK} (h:All2 (fun id p=>QK L I id p.1 p.2) ids M):M.map (fun p=>p.1.id)=ids:=by
 induction h with
 | nil=>rfl
 | cons h1 _ ih=>rw [Z1,ih,Ao h1]
theorem vX {L:List Int} {I:List Xe} (hK:KnR L I) {l:List Xb} (h:AllK L I l):Ek l:=by
 obtain ⟨M,hM,rfl⟩:=h
 have hq:∀ c∈(M.filter neK).map Prod.fst,∃ kl,QK L I c.id c kl:=fun c hc=>by
  obtain ⟨p,hp,rfl⟩:=QJ.1 hc
  obtain ⟨a,ha,q⟩:=hM.right p (QN.1 hp).1
  exact ⟨p.2,by rw [Ao q];exact q⟩
 refine ⟨?_,fun c hc d hd a ha b hb e=>?_,fun c hc n x hx=>?_⟩
 · rw [Z0]
   have h1:=xM I
   rw [←BX hM] at h1
   exact h1.sublist (List.filter_sublist.map _)
 · obtain ⟨k1,q1⟩:=hq c hc
   obtain ⟨k2,q2⟩:=hq d hd
   have m1:=An q1 a ha
   have m2:=An q2 b hb
   have eab:=vI hK m1 m2 e
   subst eab
   obtain ⟨_,_,_,_,_,_,a1⟩:=fR m1
   obtain ⟨_,_,_,_,_,_,a2⟩:=fR m2
   exact a1.symm.trans a2
 · obtain ⟨k1,q1⟩:=hq c hc
   exact (qa hK q1).own n x hx
theorem DJ (a:Xa) (sc:Int) (g:ByteArray) (n:Nat):gOk a.can sc g n=gOk a sc g n:=rfl
theorem m0 (l:List Xa) (sc:Int) (g:ByteArray):∀ k,grantF (l.map Xa.can) sc g k=grantF l sc g k
 | 0=>rfl
 | k+1=>by rw [grantF,grantF,m0 l sc g k,jx,DJ]
theorem ng (l:List Xa) (n sc:Int) (g:ByteArray):epochO (l.map Xa.can) n sc g=(epochO l n sc g).map Xa.can:=by
 rw [epochO,epochO,grantV,grantV,m0,ZF]
 cases decide ((0:Int)<((grantF l sc g (limN n l.length)).2:Nat)) with
 | false=>rfl
 | true=>rw [Zf,Zf,Z7]
theorem kj (l:List Xa) (g:ByteArray):∀ k,circF (l.map Xa.can) g k=(circF l g k).map Xa.can
 | 0=>rfl
 | k+1=>by
  rw [circF,circF,kj l g k,jx]
  show (bif decide ((l.getD k Xa.zero).kind=15)&&seqB (l.getD k Xa.zero).group g then _ else _)=_
  cases decide ((l.getD k Xa.zero).kind=15)&&seqB (l.getD k Xa.zero).group g<;>rfl
structure Ed (c d:Xb):Prop where
 id:c.id=d.id
 acts:c.actsL.map Xa.can=d.actsL.map Xa.can
theorem Ed.symm {c d:Xb} (h:Ed c d):Ed d c:=⟨h.id.symm,h.acts.symm⟩
theorem Ed.len {c d:Xb} (h:Ed c d):c.actsL.length=d.actsL.length:=by
 have:=congrArg List.length h.acts
 rwa [ZF,ZF] at this
theorem Ed.at_ {c d:Xb} (h:Ed c d) (k:Nat):c.actsL[k]?.map Xa.can=d.actsL[k]?.map Xa.can:=by
 rw [←Z7,←Z7,h.acts]
theorem Ed.tie {c d:Xb} (h:Ed c d) (n:Int):tieV c.actsL n=tieV d.actsL n:=by rw [←qJ c.actsL,h.acts,qJ]
theorem Ed.epoch {c d:Xb} (h:Ed c d) (n sc:Int) (g:ByteArray):(epochO c.actsL n sc g).map Xa.can=(epochO d.actsL n sc g).map Xa.can:=by rw [←ng,h.acts,ng]
theorem Ed.circ {c d:Xb} (h:Ed c d) (g:ByteArray) (k:Nat):(circF c.actsL g k).map Xa.can=(circF d.actsL g k).map Xa.can:=by rw [←kj,h.acts,kj]
theorem Dm {α:Type} {f:Xa→α} (hf:∀ a:Xa,f a.can=f a) {o p:Option Xa} (h:o.map Xa.can=p.map Xa.can):o.map f=p.map f:=by
 have e:∀ q:Option Xa,q.map f=(q.map Xa.can).map f:=fun q=>by cases q<;>simp [hf]
 rw [e o,e p,h]
theorem Ed.members {c d:Xb} (h:Ed c d) (n sc:Int) (g:ByteArray) (toL:List ByteArray):membersV c n sc g toL=membersV d n sc g toL:=by
 have e2:(circF c.actsL g (limN n c.actsL.length)).map (·.toL)=(circF d.actsL g (limN n d.actsL.length)).map (·.toL):=by
  rw [h.len]
  exact Dm (fun _=>rfl) (h.circ g _)
 have e3:keepM c=keepM d:=by funext bs x;simp only [keepM,h.id]
 simp only [membersV,listOf,h.tie n,e2,e3]
theorem Ed.wellA {c d:Xb} (h:Ed c d) (i:Int) (a:Xa):wellA c i a=wellA d i a:=by
 have e:=h.epoch i a.scope a.group
 unfold Go.Proofs.YtaolfiikahlmkaaGreatDoor.wellA
 rw [h.members]
 revert e
 cases epochO c.actsL i a.scope a.group with
 | none =>
  cases epochO d.actsL i a.scope a.group with
  | none=>exact fun _=>rfl
  | some y=>exact fun e=>by cases e
 | some x =>
  cases epochO d.actsL i a.scope a.group with
  | none=>exact fun e=>by cases e
  | some y =>
   intro e
   have e':x.can=y.can:=Option.some.inj e
   have e1:x.epoch=y.epoch:=(congrArg Xa.epoch e' :)
   have e2:x.toL=y.toL:=(congrArg Xa.toL e' :)
   simp only [e1,e2]
theorem lE (c:Xb) (i:Int) (a:Xa):wellA c i a.can=wellA c i a:=rfl
theorem Ed.well {c d:Xb} (h:Ed c d) (i:Int):wellV c i=wellV d i:=by
 have e:=h.at_ i.toNat
 rw [wellV,wellV]
 revert e
 cases c.actsL[i.toNat]? with
 | none =>
  cases d.actsL[i.toNat]? with
  | none=>exact fun _=>rfl
  | some y=>exact fun e=>by cases e
 | some x =>
  cases d.actsL[i.toNat]? with
  | none=>exact fun e=>by cases e
  | some y =>
   intro e
   have e':x.can=y.can:=Option.some.inj e
   simp only
   rw [←lE c i x,←lE d i y,e',h.wellA]
theorem Ed.rmem {c d:Xb} (h:Ed c d) (i:Int):rmemV c i=rmemV d i:=by
 have e:=h.at_ i.toNat
 rw [rmemV,rmemV,h.well]
 revert e
 cases c.actsL[i.toNat]? with
 | none =>
  cases d.actsL[i.toNat]? with
  | none=>exact fun _=>rfl
  | some y=>exact fun e=>by cases e
 | some x =>
  cases d.actsL[i.toNat]? with
  | none=>exact fun e=>by cases e
  | some y =>
   intro e
   have e':x.can=y.can:=Option.some.inj e
   have e1:x.scope=y.scope:=(congrArg Xa.scope e' :)
   have e2:x.toL=y.toL:=(congrArg Xa.toL e' :)
   have e3:x.group=y.group:=(congrArg Xa.group e' :)
   simp only [e1,e2,e3,h.members]
theorem Ed.kinds {c d:Xb} (h:Ed c d) (i:Int):rtextV c i=rtextV d i∧pubV c i=pubV d i:=by
 have e:=h.at_ i.toNat
 rw [rtextV,rtextV,pubV,pubV]
 revert e
 cases c.actsL[i.toNat]? with
 | none =>
  cases d.actsL[i.toNat]? with
  | none=>exact fun _=>⟨rfl,rfl⟩
  | some y=>exact fun e=>by cases e
 | some x =>
  cases d.actsL[i.toNat]? with
  | none=>exact fun e=>by cases e
  | some y =>
   intro e
   have e':x.can=y.can:=Option.some.inj e
   have e1:x.scope=y.scope:=(congrArg Xa.scope e' :)
   have e2:x.kind=y.kind:=(congrArg Xa.kind e' :)
   simp only [e1,e2,and_self]
theorem Ed.may {c d:Xb} (h:Ed c d) (i:Int) (r:ByteArray):mayV c i r=mayV d i r:=by
 rw [mayV,mayV,(h.kinds i).1,(h.kinds i).2,h.rmem,h.id]
structure TNd (t:TieS):Prop where
 f:t.f.Nodup
 a:t.a.Nodup
 b:t.b.Nodup
 m:t.m.Nodup
structure MovOk (x y:List ByteArray) (id:ByteArray) (inn ch:Bool):Prop where
 asc:Asc y
 same:ch=false→x=y
 xin:ch=true→∀ z∈x,seqB z id=false→hasS y z=true
 yin:ch=true→∀ z∈y,seqB z id=false→hasS x z=true
 has:ch=true→hasS y id=inn
def foB (k:Int) (u:Bool):Bool:=bif decide (k=7) then true else bif decide (k=10) then !u else false
def acB (k:Int) (u:Bool):Bool:=bif decide (k=8) then true else bif decide (k=9)&&!u then true else decide (k=10)&&!u
structure Mov4 (t t':TieS) (id:ByteArray) (k:Int) (u:Bool):Prop where
 f:MovOk (sortB t.f) (sortB t'.f) id (decide (k=7)&&!u) (foB k u)
 a:MovOk (sortB t.a) (sortB t'.a) id (decide (k=8)&&!u) (acB k u)
 b:MovOk (sortB t.b) (sortB t'.b) id (decide (k=10)&&!u) (decide (k=10))
 m:MovOk (sortB t.m) (sortB t'.m) id (decide (k=11)&&!u) (decide (k=11))
structure MM (t t':TieS) (id:ByteArray) (f1 f2 a1 a2 b1 b2 m1 m2:Bool):Prop where
 f:MovOk (sortB t.f) (sortB t'.f) id f1 f2
 a:MovOk (sortB t.a) (sortB t'.a) id a1 a2
 b:MovOk (sortB t.b) (sortB t'.b) id b1 b2
 m:MovOk (sortB t.m) (sortB t'.m) id m1 m2
section
variable {id:ByteArray} {l:List Xa} {a:Xa} {sc:Int} {g:ByteArray} {toL:List ByteArray}
end
theorem AY {l m:List ByteArray} (hl:Asc l) (hm:Asc m) {x:ByteArray} (hx:x∈l) (h:∀ y,y∈m↔y∈l∧y≠x):m.length+1=l.length:=by
 have hp:(x::m).Perm l:=by
  refine (List.perm_ext_iff_of_nodup (List.nodup_cons.2 ⟨fun hh=>((h x).1 hh).2 rfl,hm.nodup⟩) hl.nodup).2 fun y=>?_
  rw [ZI,h y]
  constructor
  · rintro (rfl|h)
    · exact hx
    · exact h.1
  · intro hy
    by_cases e:y=x
    · exact .inl e
    · exact .inr ⟨hy,e⟩
 have:=hp.length_eq
 rwa [ZB] at this
structure More (c d:Xb) (a:Xa):Prop where
 id:d.id=c.id
 acts:d.actsL.map Xa.can=c.actsL.map Xa.can++[a.can]
section
variable {c d:Xb} {a:Xa} {sc:Int} {g:ByteArray} {toL:List ByteArray}
end
end Go.Proofs.YtaolfiikahlmkaaGreatDoor

namespace Go.Proofs.YtaolfiikahlmkaaGreatDoor
open Go Go.Proofs Sy
structure Ee where
 actor:ByteArray
 reason:ByteArray
 by_:ByteArray
 until_:Int
structure Xz where
 l:Ee
 at_:Int
def eqLD (a b:Ee):Bool:=seqB a.actor b.actor&&(seqB a.reason b.reason&&(seqB a.by_ b.by_&&decide (a.until_=b.until_)))
def eqED (a b:Xz):Bool:=eqLD a.l b.l&&decide (a.at_=b.at_)
theorem By {a b:Ee}:eqLD a b=true↔a=b:=by
 cases a;cases b
 simp only [eqLD,Zp,seqB_iff,Zw,Ee.mk.injEq]
theorem eqED_iff {a b:Xz}:eqED a b=true↔a=b:=by
 cases a;cases b
 simp only [eqED,Zp,By,Zw,Xz.mk.injEq]
section
variable {N:Nat} {av bor:List Nat} {w0:World} {ops:Array Oper} {rest:List Oper} {k:St→Prop} {E:Env} {loc:List Xm} {X:World→Prop} {x y:Operand} {t2:TypeId}
variable {n:Nat} {ty:TypeId} {pos:String} {af:Array Edge} {g:Option (Nat×Bool)} {bb want:Bool} {st:St}
end
def betV (a b:Xz):Bool:=bif !decide (a.l.until_=b.l.until_) then decide (b.l.until_<a.l.until_) else bif !seqB a.l.by_ b.l.by_ then ltB a.l.by_ b.l.by_ else decide (b.at_<a.at_)
end Go.Proofs.YtaolfiikahlmkaaGreatDoor
namespace Go.Proofs.YtaolfiikahlmkaaGreatDoor
open Go Go.Proofs Sy Go.Shelf Go.Maps Go.Sort
def Ee.zero:Ee:=⟨⟨#[]⟩,⟨#[]⟩,⟨#[]⟩,0⟩
def hasL (l:List Ee) (a:ByteArray):Option Ee:=l.find? fun e=>seqB e.actor a
end Go.Proofs.YtaolfiikahlmkaaGreatDoor
namespace Go.Proofs.YtaolfiikahlmkaaGreatDoor
open Go Go.Proofs Sy Go.Sort
def entA (k:ByteArray) (l:List Xa) (j:Nat):Xz:=⟨⟨(l.getD j Xa.zero).target,(l.getD j Xa.zero).text,k,(l.getD j Xa.zero).n⟩,j⟩
def foundF (l:List Xa):Nat→List Nat
 | 0=>[]
 | i+1=>bif decide ((l.getD i Xa.zero).kind=23) then foundF l i++[i] else bif decide ((l.getD i Xa.zero).kind=6) then (match idxV l (l.getD i Xa.zero).object with|some j=>(foundF l i).erase j|none=>foundF l i) else foundF l i
def entsV (l:List Xb) (k:ByteArray):List Xz:=match findC l k with
 | some c=>(foundF c.actsL c.actsL.length).map (entA k c.actsL)
 | none=>[]
def hasK (ks:List ByteArray) (k:ByteArray):Bool:=ks.any fun y=>Xk.eqb k y
def bestStep (now:Int) (b:List (ByteArray×Xz)) (e:Xz):List (ByteArray×Xz) :=
 bif decide (e.l.until_≤now) then b else
  match mget b e.l.actor with
  | none=>mput b e.l.actor e
  | some old=>bif (!eqED e old)&&betV e old then mput b e.l.actor e else b
def bestF (l:List Xb) (now:Int) (ks:List ByteArray):Nat→List ByteArray×List (ByteArray×Xz)
 | 0=>([],[])
 | i+1=>bif hasK (bestF l now ks i).1 (ks.getD i .empty) then bestF l now ks i else (sput (bestF l now ks i).1 (ks.getD i .empty),(entsV l (ks.getD i .empty)).foldl (bestStep now) (bestF l now ks i).2)
def Xz.zero:Xz:=⟨Ee.zero,0⟩
def ofV (l:List Xb) (ks:List ByteArray) (now:Int):List Ee:=(sortB ((bestF l now ks ks.length).2.map (·.1))).map fun a=>((mget (bestF l now ks ks.length).2 a).getD Xz.zero).l
section
variable {N:Nat} {av bor:List Nat} {w0:World} {ops:Array Oper} {rest:List Oper} {k:St→Prop} {E:Env} {loc:List Xm} {X:World→Prop} {x:Operand} {st:St}
variable {n:Nat} {ty:TypeId} {pos:String} {af:Array Edge} {g:Option (Nat×Bool)} {bb want:Bool}
end
theorem rV {β:Type}:∀ {b:List (ByteArray×β)} {a:ByteArray},a∈b.map (·.1)→∃ e,mget b a=some e
 | [],a,h=>by cases h
 | (k',v')::r,a,h=>by
  simp only [mget]
  cases hk:Xk.eqb a k' with
  | true=>exact ⟨v',rfl⟩
  | false =>
   simp only [Z1,ZI] at h
   rcases h with rfl|h
   · rw [(Xk.eqb_iff a a).2 rfl] at hk;cases hk
   · exact rV h
structure BBnd (m:Nat) (b:List (ByteArray×Xz)):Prop where
 len:b.length≤m
 size:∀ p∈b,p.1.size≤maxLen
end Go.Proofs.YtaolfiikahlmkaaGreatDoor
