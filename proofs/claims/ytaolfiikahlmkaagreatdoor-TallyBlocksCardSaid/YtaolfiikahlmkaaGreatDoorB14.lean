/- Joined. -/
import Derived.Test.YtaolfiikahlmkaaGreatDoorB13
set_option linter.unusedVariables false
set_option linter.unusedSimpArgs false
set_option maxHeartbeats 16000000
namespace Go.Proofs.YtaolfiikahlmkaaGreatDoor
open Go Go.Proofs Sy SrG Tryz
namespace SrA
structure StaI (P:List FndX) (n w:Nat) where
 a:Nat
 b:Nat
 h1:a≤n
 h2:b=a+w
 Q:List FndX
 hQ:Rel P Q
structure StaO (P:List FndX) (n:Nat) where
 z:Nat
 h1:1≤z
 h2:z≤2*n+20
 Q:List FndX
 hQ:Rel P Q
set_option maxRecDepth 20000 in
theorem eZ (s:Xk) (P:List FndX) (hs:s.n=P.length) (hm:s.n≤1000000):Ct prog 250 #[s.v,.int .i64 (s.n:Nat),cmpF] [postR s P] (fun _=>True) (RelAt s P):=by
 have hP:Rel P P:=Rel.refl P
 refine cP func250 ntmps250 fun av bor w0=>?_
 repeat' (first|refine gs ?_|fail)
 refine aq (ι:=StaI P s.n 20) (fun r=>⟨[(0,s.v),(1,.int .i64 (s.n:Nat)),(2,cmpF),(6,.int .i64 20),(7,.int .i64 (r.a:Nat)),(8,.int .i64 (r.b:Nat))],[postR s r.Q],fun _=>True⟩) (fun r=>s.n-r.a) ⟨0,20,Z2 _,rfl,P,hP⟩ (ai am (ak _) fun _ h=>h) fun r=>?_
 obtain ⟨a,b,h1,h2,Q,hQ⟩:=r
 simp only
 repeat' (first|refine aP (q:=20) (hq:=by omega) ?_|refine gs ?_|(refine cC (P:=P) (hQ:=by assumption) (hc:=fun Q hQ=>cE s Q a b (hs.trans hQ.1.length_eq.symm) hm aa aa) (h:=fun Q2 hQ2=>?_))|(refine cC (P:=P) (hQ:=by assumption) (hc:=fun Q hQ=>cE s Q a s.n (hs.trans hQ.1.length_eq.symm) hm aa aa) (h:=fun Q2 hQ2=>?_))|(refine gp ?_ ?_<;>intro hx_ this)|fail)
 · exact ⟨(⟨b,b+20,by omega,rfl,Q2,hQ2⟩:StaI P s.n 20),(by show s.n-b<s.n-a;omega),ai am (ak _) fun _ h=>h⟩
 · refine aq (ι:=StaO P s.n) (fun r=>⟨[(0,s.v),(1,.int .i64 (s.n:Nat)),(2,cmpF),(6,.int .i64 (r.z:Nat))],[postR s r.Q],fun _=>True⟩) (fun r=>s.n-r.z) ⟨20,by omega,by omega,Q2,hQ2⟩ (ai am (ak _) fun _ h=>h) fun r=>?_
   clear h1 h2 hQ hQ2
   obtain ⟨z,h1,h2,Q,hQ⟩:=r
   simp only
   repeat' (first|refine dZ (p:=2) (hq:=by omega) ?_|refine gs ?_|(refine gp ?_ ?_<;>intro hx_ this)|fail)
   · have hzn:z<s.n:=by omega
     refine aq (ι:=StaI P s.n (2*z)) (fun r=>⟨[(0,s.v),(1,.int .i64 (s.n:Nat)),(2,cmpF),(6,.int .i64 (z:Nat)),(7,.int .i64 (r.a:Nat)),(8,.int .i64 (r.b:Nat))],[postR s r.Q],fun _=>True⟩) (fun r=>s.n-r.a) ⟨0,2*z,Z2 _,(ZS _).symm,Q,hQ⟩ (ai am (ak _) fun _ h=>h) fun r=>?_
     obtain ⟨a,b,h3,h4,Q3,hQ3⟩:=r
     simp only
     repeat' (first|refine aP (hq:=by omega) ?_|refine dZ (p:=2) (hq:=by omega) ?_|refine dZ (q:=2) (hq:=by omega) ?_|refine gs ?_|(refine cC (P:=P) (hQ:=by assumption) (hc:=fun Q hQ=>cf (b-a) s Q a (a+z) b (ZV _) (hs.trans hQ.1.length_eq.symm) hm aa aa aa) (h:=fun Q2 hQ2=>?_))|(refine cC (P:=P) (hQ:=by assumption) (hc:=fun Q hQ=>cf (s.n-a) s Q a (a+z) s.n (ZV _) (hs.trans hQ.1.length_eq.symm) hm aa aa aa) (h:=fun Q2 hQ2=>?_))|(refine gp ?_ ?_<;>intro hx_ this)|fail)
     · exact ⟨(⟨b,b+2*z,by omega,rfl,Q2,hQ2⟩:StaI P s.n (2*z)),(by show s.n-b<s.n-a;omega),ai am (ak _) fun _ h=>h⟩
     all_goals
      refine ⟨(⟨z*2,by omega,by omega,_,?_⟩:StaO P s.n),(by show s.n-z*2<s.n-z;omega),ai am (ak _) fun _ h=>h⟩
      assumption
   · exact aR (aH rfl) ⟨rfl,Q,hQ,rfl⟩
theorem sortStable_ct (s:Xk) (P:List FndX) (hs:s.n=P.length) (hm:s.n≤1000000):Ct prog 183 #[s.v,cmpF] [postR s P] (fun _=>True) (RelAt s P):=by
 have hP:Rel P P:=Rel.refl P
 refine cP func183 ntmps183 fun av bor w0=>?_
 repeat' (first|refine gs ?_|(refine cC (P:=P) (hQ:=by assumption) (hc:=fun Q hQ=>eZ s Q (hs.trans hQ.1.length_eq.symm) hm) (h:=fun Q2 hQ2=>?_))|fail)
 exact aR (aH rfl) ⟨rfl,Q2,hQ2,rfl⟩
end SrA
end Go.Proofs.YtaolfiikahlmkaaGreatDoor
namespace Go.Proofs.YtaolfiikahlmkaaGreatDoor
open Go Go.Proofs Sy Tryz
theorem DR {α β:Type} {f:α→β} {P:List α} {Q:List β} (h:Q.Perm (P.map f)):∃ Q':List α,Q'.Perm P∧Q'.map f=Q:=by
 generalize e:P.map f=R at h
 induction h generalizing P with
 | nil =>
  cases P with
  | nil=>exact ⟨[],Ql _,rfl⟩
  | cons a P=>cases e
 | cons x h ih =>
  cases P with
  | nil=>cases e
  | cons a P =>
   rw [ZZ,List.cons.injEq] at e
   obtain ⟨Q',h1,h2⟩:=ih e.2
   exact ⟨a::Q',h1.cons a,by rw [ZZ,h2,e.1]⟩
 | swap x y l =>
  cases P with
  | nil=>cases e
  | cons a P =>
   cases P with
   | nil=>cases e
   | cons b P =>
    rw [ZZ,ZZ,List.cons.injEq,List.cons.injEq] at e
    exact ⟨b::a::P,List.Perm.swap _ _ _,by rw [ZZ,ZZ,e.1,e.2.1,e.2.2]⟩
 | trans h1 h2 ih1 ih2 =>
  obtain ⟨Q2,p2,e2⟩:=ih2 e
  obtain ⟨Q1,p1,e1⟩:=ih1 e2
  exact ⟨Q1,p1.trans p2,e1⟩
def fndX (f:Ej):SrA.FndX:=⟨f.rank,f.dg,f.a.cells,rfl,rfl⟩
theorem oT (P:List Ej):(P.map fndX).map SrA.FndX.cells=P.map Ej.cells:=by rw [ZY];rfl
theorem Ak (n:Nat) (hn:n≤1000000):SortA n:=fun s P hs hl=>by
 have h:=SrA.sortStable_ct s (P.map fndX) (by rw [ZE];exact hs) aa
 have e:SrA.postR s (P.map fndX)=fndR s P:=by
  show orow _ 22 _ _ ((P.map fndX).map SrA.FndX.cells).flatten=orow _ 22 _ _ (P.map Ej.cells).flatten
  rw [oT]
 rw [e] at h
 refine h.mono fun u R X' ⟨h1,Q,h2,h3⟩=>?_
 obtain ⟨Q',p,rfl⟩:=DR h2.1
 refine ⟨h1,Q',p,?_⟩
 rw [h3]
 show [orow _ 22 _ _ ((Q'.map fndX).map SrA.FndX.cells).flatten]=[orow _ 22 _ _ (Q'.map Ej.cells).flatten]
 rw [oT]
def cutK (kl:List Xm) (q:Nat):List Xm:=kl.filter fun k=>decide (k.from_≤(q:Int))
def movN (l:List Xa):Nat:=(l.filter fun a=>decide (a.kind=18)).length
structure CutJ (kl:List Xm) (q:Nat) where
 k:Nat
 hk:k≤kl.length
 n:Nat
 hn:n=(cutK (kl.take k) q).length
 A:Option Addr
 c:Nat
 xs:List Value
 hxs:xs=((cutK (kl.take k) q).map Xm.cells).flatten
structure GenJ (l:List Xa) (q n:Nat) where
 k:Nat
 hk:k≤q
 g:Int
 hg:g=(n:Int)-1-(movN (l.take k):Nat)
def keyF (kl:List Xm) (i:Int):Nat→Option Xm
 | 0=>none
 | j+1=>bif decide ((kl.getD j Xm.zero).from_≤i) then some (kl.getD j Xm.zero) else keyF kl i j
structure KeyI (kl:List Xm) (i:Int) where
 k:Nat
 hk:k≤kl.length
 hs:keyF kl i kl.length=keyF kl i k
theorem lr {c c':Xb} {a:Xa} {pl:Option Nat} (h1:c.id=c'.id) (h2:c.acts.n=c'.acts.n) (h3:c.prev=c'.prev) (h4:c.actsL=c'.actsL):fitsV c a pl=fitsV c' a pl:=by
 have e:∀ p,atK c pl p=atK c' pl p:=fun p=>by
  cases pl with
  | none=>rfl
  | some j=>show p (c.actsL.getD j Xa.zero).kind=p (c'.actsL.getD j Xa.zero).kind;rw [h4]
 rw [fitsV,fitsV,h1,h2,h3,e,e]
theorem gG {W:Ef} {st s:Ec} (h:regS W st=some s):∃ c i,W.won st.gen=some c∧c.base=(st.acts.length:Int)∧c.prev=st.prev∧setI st.acts st.acts.length=some i∧W.clm (st.acts.getD i Xa.zero).m c=true∧s=⟨st.acts,st.keys++[⟨(st.acts.length:Nat),c.pub,c.home⟩],W.dgC c,st.gen+1⟩:=by
 rw [regS] at h
 cases hw:W.won st.gen with
 | none=>rw [hw] at h;cases h
 | some c =>
  rw [hw] at h
  simp only at h
  cases hb:decide (c.base=(st.acts.length:Int))&&seqB c.prev st.prev with
  | false=>rw [hb] at h;cases h
  | true =>
   rw [hb] at h
   rw [Zq,Zv,seqB_iff] at hb
   cases hs:setI st.acts st.acts.length with
   | none=>rw [hs] at h;cases h
   | some i =>
    rw [hs] at h
    simp only [Zg] at h
    cases hc:W.clm (st.acts.getD i Xa.zero).m c with
    | false=>rw [hc] at h;cases h
    | true =>
     rw [hc,Zg,ZL] at h
     exact ⟨c,i,rfl,hb.1,hb.2,rfl,hc,h.symm⟩
theorem fi {W:Ef} {st s:Ec} (h:stepS W st=some s):regS W st=some s∨regS W st=none∧∃ a,candL W st=[a]∧s=addS st a:=by
 rw [stepS] at h
 cases hr:regS W st with
 | some s'=>rw [hr] at h;exact .inl h
 | none =>
  rw [hr] at h
  cases ho:oneA (candL W st) with
  | none=>rw [ho] at h;cases h
  | some a =>
   rw [ho,Option.map_some,ZL] at h
   exact .inr ⟨rfl,a,fJ ho,h.symm⟩
theorem rE {W:Ef} {P:Ec→Prop} (hst:∀ st s,P st→stepS W st=some s→P s):∀ (n:Nat) (st:Ec),P st→P (runS W n st)
 | 0,st,h=>h
 | n+1,st,h=>by
  cases hs:stepS W st with
  | none=>rw [fT hs];exact h
  | some s=>rw [eT hs];exact rE hst n s (hst st s h hs)
theorem pZ {α:Type} (l:List α) (a:α) (i:Nat) (h:i≤l.length):(l++[a]).take i=l.take i:=by
 rw [List.take_append,show i-l.length=0 from by omega,List.take_zero,ZI]
theorem uT {α:Type} {l:List α} {a x:α} {i:Nat} (h:(l++[a])[i]?=some x):l[i]?=some x∧i<l.length∨i=l.length∧x=a:=by
 rcases Nat.lt_trichotomy i l.length with hi|rfl|hi
 · rw [ZF hi] at h
   exact .inl ⟨h,hi⟩
 · rw [ZT (ZV _),Nat.sub_self] at h
   exact .inr ⟨rfl,(Option.some.inj h).symm⟩
 · rw [ZT aa,List.getElem?_singleton,ZO (by omega)] at h
   cases h
structure ChFit (W:Ef) (st:Ec):Prop where
 mem:∀ a∈st.acts,a∈W.L
 seq:∀ (i:Nat) (x:Xa),st.acts[i]?=some x→x.seq=(i:Int)
 fit:∀ (i:Nat) (x:Xa),st.acts[i]?=some x→1≤i→fitsV ((⟨st.acts.take i,[],x.prev,0⟩:Ec).ch W.id) x (idxV (st.acts.take i) x.object)=true
 key0:∃ k r,st.keys=k::r∧k.from_=0
theorem E8 {W:Ef} {st s:Ec} (h:ChFit W st) (hs:stepS W st=some s):ChFit W s:=by
 obtain ⟨k,r,hk,hk0⟩:=h.key0
 rcases fi hs with h1|⟨h1,a,h2,rfl⟩
 · obtain ⟨c,i,e1,e2,e3,e4,e5,rfl⟩:=gG h1
   exact ⟨h.mem,h.seq,h.fit,k,r++[_],by rw [hk];rfl,hk0⟩
 · have ha:a∈candL W st:=by rw [h2];exact Z3.2 rfl
   obtain ⟨m1,m2,m3⟩:=kx ha
   have hp:a.prev=st.prev:=by
    rw [candL,QL,QL,posB,Zq,seqB_iff] at ha
    exact ha.1.2.2
   refine ⟨fun x hx=>?_,fun i x hx=>?_,fun i x hx h0=>?_,?_⟩
   · rcases Qw.1 (show x∈st.acts++[a] from hx) with hx|hx
     · exact h.mem x hx
     · rw [Z3.1 hx];exact m1
   · rcases uT (show (st.acts++[a])[i]?=some x from hx) with ⟨h3,_⟩|⟨rfl,rfl⟩
     · exact h.seq i x h3
     · exact m2
   · rcases uT (show (st.acts++[a])[i]?=some x from hx) with ⟨h3,h4⟩|⟨rfl,rfl⟩
     · have:=h.fit i x h3 h0
       rw [show (addS st a).acts.take i=st.acts.take i from pZ _ _ _ (by omega)]
       exact this
     · rw [show (addS st x).acts.take st.acts.length=st.acts from by rw [show (addS st x).acts=st.acts++[x] from rfl,pZ _ _ _ (ZV _),Qf]]
       rw [candB,Zq] at m3
       rw [←m3.1]
       exact lr rfl rfl hp rfl
   · show ∃ k r,(bif decide (a.kind=18) then st.keys++[_] else st.keys)=k::r∧k.from_=0
     cases decide (a.kind=18) with
     | true=>exact ⟨k,r++[_],by rw [hk];rfl,hk0⟩
     | false=>exact ⟨k,r,hk,hk0⟩
theorem Fy {W:Ef} {a:Xa} (ha:a∈firstL W):begS a=⟨[a],[⟨0,a.n,a.m⟩],digV a,0⟩∧a∈W.L∧a.seq=0∧a.prev=⟨#[]⟩∧a.kind=0∧idV a.n=W.id∧W.ver a.n a=true:=by
 rw [firstL,QL,QL] at ha
 have h2:=ha.1.2
 simp only [posB,Zq,Zv,seqB_iff] at h2
 have h3:=ha.2
 simp only [firstB,Zq,Zv,seqB_iff] at h3
 exact ⟨by rw [begS,addS,h3.1.1];rfl,ha.1.1,h2.1,h2.2,h3.1.1,h3.1.2,h3.2⟩
theorem Ip {W:Ef} {a:Xa} (ha:a∈firstL W):ChFit W (begS a):=by
 obtain ⟨e,h1,h2,h3,h4,h5,h6⟩:=Fy ha
 rw [e]
 refine ⟨fun x hx=>by rw [Z3.1 hx];exact h1,fun i x hx=>?_,fun i x hx h0=>?_,_,[],rfl,rfl⟩
 · rw [List.getElem?_singleton] at hx
   split at hx
   · rename_i hi
     subst hi
     rw [←Option.some.inj hx,h2];rfl
   · cases hx
 · rw [List.getElem?_singleton,ZO (by omega)] at hx
   cases hx
theorem r4 {W:Ef} {a:Xa} (ha:a∈firstL W):ChFit W (finS W a):=rE (P:=ChFit W) (fun st s h hs=>E8 h hs) _ _ (Ip ha)
section
variable {P:Program} {N:Nat} {av bor:List Nat} {w0:World} {ty:TypeId}
end
section
variable {N:Nat} {av bor:List Nat} {w0:World} {st:St} {ty:TypeId} {x:Operand}
end
def seedB (i:Nat):ByteArray:=⟨#[97,99,116,111,114,32]⟩++ofInts [(i:Int)]
def keyA (i:Nat):Ed:=keyOf (seedB i)
def idA21 (i:Nat):ByteArray:=idV (keyA i).p
theorem DC:Xa.zero.Rng:=⟨by decide,fun w hw=>(Qi hw).elim,rfl,rfl⟩
theorem GP:Xa.zero.Sm:=⟨by decide,by decide,by decide⟩
theorem tG {k:Ed} {a:Xa} (h:a.Rng):(actSignV k a).Rng:=by
 rw [actSignV]
 cases rightB (a.sig Eo.zero)&&rightK k with
 | false=>exact DC
 | true=>exact xZ h (qc _ _).1 (qc _ _).2
theorem xU {k:Ed} {a:Xa} (h:a.Sm):(actSignV k a).Sm:=by
 rw [actSignV]
 cases rightB (a.sig Eo.zero)&&rightK k with
 | false=>exact GP
 | true=>exact ⟨h.to,h.wraps,h.target⟩
def Xa.can (a:Xa):Xa:=a.re ⟨none,a.to.n,0⟩ ⟨none,a.wraps.n,0⟩
theorem J7 (a:Xa) {s1 s2:Xk} (h1:s1.n=a.to.n) (h2:s2.n=a.wraps.n):(a.re s1 s2).can=a.can:=by
 show a.re ⟨none,s1.n,0⟩ ⟨none,s2.n,0⟩=a.re ⟨none,a.to.n,0⟩ ⟨none,a.wraps.n,0⟩
 rw [h1,h2]
def Xb.can (c:Xb):Xb:={ c with acts:=⟨none,c.acts.n,0⟩,keys:=⟨none,c.keys.n,0⟩,actsL:=c.actsL.map Xa.can }
def actorB:ByteArray:=⟨#[97,99,116,111,114]⟩
def idC (i:Nat):Xb:={ Xb.zero with id:=idA21 i }
def draftB (i:Nat):Xa:={ draftV (idC i) 0 0 with text:=actorB,n:=(keyA i).p }
def actB (i:Nat):Xa:=actSignV (keyA i) (draftB i)
def beginC (i:Nat):Xb:={ idC i with acts:=⟨none,1,0⟩,keys:=⟨none,1,0⟩,prev:=digV (actB i),actsL:=[(actB i).can] }
section
variable {N:Nat} {av bor:List Nat} {w0:World} {E:Env} {loc:List Xl} {X:World→Prop}
end
structure BegI where
 k:Nat
 hk:k≤4
 L:List Xb
 hL:L.map Xb.can=(List.range k).map beginC
 xs:List Value
 hxs:xs=(L.map Xb.cells).flatten
 hb:∀ c∈L,Xw c.actsL∧c.actsL.length≤1
 A:Option Addr
 c:Nat
structure SameC (a b:Xb):Prop where
 id:a.id=b.id
 prev:a.prev=b.prev
 gen:a.gen=b.gen
 fork:a.fork=b.fork
 acts:b.actsL.map Xa.can=a.actsL.map Xa.can
theorem vi (l:List ByteArray):(compB l).length≤l.length:=by
 rw [compB,ZE]
 exact ZW (Lib.compact_length_le _) (by rw [ZE];exact ZV _)
def authI (I:List Xc):List ByteArray:=(I.filter fun i=>decide (i.kind=0)).map fun i=>i.act.author
theorem xe (I:List Xc) {k:Nat} {x:Xc} (h:I[k]?=some x):authI (I.take (k+1))=authI (I.take k)++(bif decide (x.kind=0) then [x.act.author] else []):=by
 rw [authI,authI,Qe,h,Qs,Qt,ZU]
 congr 1
 cases hb:decide (x.kind=0) with
 | true=>simp [hb]
 | false=>simp [hb]
theorem jc (I:List Xc):(authI I).length≤I.length:=by rw [authI,ZE];exact Z8 _ _
inductive Es {α β:Type} (R:α→β→Prop):List α→List β→Prop
 | nil:Es R [] []
 | cons {a:α} {b:β} {l:List α} {m:List β}:R a b→Es R l m→Es R (a::l) (b::m)
theorem Es.snoc {α β:Type} {R:α→β→Prop} {l:List α} {m:List β} (h:Es R l m) {a:α} {b:β} (r:R a b):Es R (l++[a]) (m++[b]):=by
 induction h with
 | nil=>exact .cons r .nil
 | cons h1 _ ih=>exact .cons h1 ih
theorem Es.len {α β:Type} {R:α→β→Prop} {l:List α} {m:List β} (h:Es R l m):l.length=m.length:=by
 induction h with
 | nil=>rfl
 | cons _ _ ih=>rw [ZA,ZA,ih]
theorem Es.right {α β:Type} {R:α→β→Prop} {l:List α} {m:List β} (h:Es R l m):∀ b∈m,∃ a∈l,R a b:=by
 induction h with
 | nil=>exact fun b hb=>absurd hb (by simp)
 | cons h1 _ ih =>
  intro b hb
  rcases ZH.1 hb with rfl|hb
  · exact ⟨_,ao,h1⟩
  · obtain ⟨a,ha,r⟩:=ih b hb
    exact ⟨a,Zu _ ha,r⟩
abbrev ChK:=Xb×List Xm
def neK (p:ChK):Bool:=decide (0<p.1.actsL.length)
def OfQ (Q:ByteArray→Xb→List Xm→Prop) (au:ByteArray) (u:Value) (X:World→Prop):Prop:=∃ (c:Xb) (kl:List Xm),Q au c kl∧u=c.v∧∀ w,X w→c.at_ w∧Keyz w c.keys kl
def AllAt (Q:ByteArray→Xb→List Xm→Prop) (ids:List ByteArray) (u:Value) (X:World→Prop):Prop :=
 ∃ (s:Xk) (M:List ChK),Es (fun id p=>Q id p.1 p.2) ids M∧u=s.v∧∀ w,X w→Chains w s ((M.filter neK).map Prod.fst)∧∀ p∈M,Keyz w p.1.keys p.2
structure IdsI (I:List Xc) where
 k:Nat
 hk:k≤I.length
 A:Option Addr
 c:Nat
 n:Nat
 hn:n=(authI (I.take k)).length
 xs:List Value
 hxs:xs=(authI (I.take k)).map encB
structure ChsI (Q:ByteArray→Xb→List Xm→Prop) (ids:List ByteArray) where
 k:Nat
 hk:k≤ids.length
 M:List ChK
 hM:Es (fun id p=>Q id p.1 p.2) (ids.take k) M
 A:Option Addr
 c:Nat
 n:Nat
 hn:n=(M.filter neK).length
 xs:List Value
 hxs:xs=(((M.filter neK).map Prod.fst).map Xb.cells).flatten
theorem FK (Q:ByteArray→Xb→List Xm→Prop) (ks ki:Xk) (L:List Int) (I:List Xc) (hI:I.length≤1000)
  (hof:∀ au,Mk prog 27 #[.agg #[ks.v,ki.v],.string au] (fun w=>(Ints w ks L∧Items w ki I)∧Xe w) (OfQ Q au)) :
  Mk prog 11 #[.agg #[ks.v,ki.v]] (fun w=>(Ints w ks L∧Items w ki I)∧Xe w) (AllAt Q (compB (sortB (authI I)))):=by
 refine dm func11 ntmps11 fun av bor w0=>?_
 refine aQ (p:=ki.n=I.length∧ki.n≤maxLen∧(0<I.length→ki.p.isSome=true)) (fun w h=>⟨h.1.2.len_,h.1.2.max_,h.1.2.some_⟩) fun ⟨hin,him,hip⟩=>?_
 simp only [maxLen] at him
 refine cL 9 1 ?_
 refine cL 35 6 ?_
 repeat' (first|refine gs ?_|refine gs1 fun _=>?_|fail)
 rename_i b1
 refine aq (ι:=IdsI I) (fun i=>⟨[(1,.pointer (some ⟨b1,0,none⟩)),(3,.slice i.A i.n i.c),(11,ki.v),(12,.int .i64 (ki.n:Nat)),(13,.int .i64 (i.k:Nat))],
  [cel b1 25 [ks.v,ki.v],orow 35 6 (.slice none 0 0) 0 [],orow 9 1 (.slice i.A i.n i.c) i.n i.xs],fun w=>(Ints w ks L∧Items w ki I)∧Xe w⟩) (fun i=>I.length-i.k) ⟨0,Z2 _,none,0,0,rfl,[],rfl⟩ (ai am (ak _) fun _ h=>h) fun i=>?_
 obtain ⟨k,hk,A,cp,n,hn,xs,hxs⟩:=i
 simp only
 by_cases hlt:k<I.length
 · have hip':=hip aa
   obtain ⟨x,hx⟩:∃ x,I[k]?=some x:=⟨_,Zc hlt⟩
   have hs:=xe I hx
   have hnb:n≤1000:=by have h1:=jc (I.take k);rw [Qg] at h1;omega
   by_cases h0:x.kind=0
   · rw [Ze h0,Zg] at hs
     repeat' (first|refine aT ?_ (bZ true rfl rfl (Ze aa))|refine aF (hab:=h0) ?_|(refine aL (size:=1) (z:=.string ⟨#[]⟩) (news:=[encB x.act.author]) (q:=1) rfl rfl rfl rfl (fun _=>At.there _ (At.there _ (At.there _ (At.there _ (At.here _))))) (fun w G=>bN G ao rfl rfl 1) aa (by simp only [maxLen];omega) rfl ?_ rfl ?_;(with_reducible rfl);intro A2 c2)|refine gs ?_|refine gs1 fun _=>?_|(refine aD (q:=k*49) ?_)|(refine aN (cs:=x.cells) (hF:=fun w h=>Items.get h.1.2 hx) ?_)|fail)
     exact ⟨(⟨k+1,hlt,A2,c2,n+1,by rw [hs,Zz,←hn];rfl,xs++[encB x.act.author],by rw [hs,ZU,←hxs];rfl⟩:IdsI I),(by show I.length-(k+1)<I.length-k;omega),ai am (.cons _ (.cons _ (ak _))) fun _ h=>h⟩
   · rw [Zd h0,Zf,ZI] at hs
     repeat' (first|refine aT ?_ (bZ true rfl rfl (Ze aa))|refine aI (hab:=h0) ?_|refine gs ?_|refine gs1 fun _=>?_|(refine aD (q:=k*49) ?_)|(refine aN (cs:=x.cells) (hF:=fun w h=>Items.get h.1.2 hx) ?_)|fail)
     exact ⟨(⟨k+1,hlt,A,cp,n,by rw [hs];exact hn,xs,by rw [hs];exact hxs⟩:IdsI I),(by show I.length-(k+1)<I.length-k;omega),ai am (.cons _ (ak _)) fun _ h=>h⟩
 have hkE:k=I.length:=by omega
 rw [hkE,Qf] at hn hxs
 subst hxs
 have hnb:n≤1000000000:=by have h1:=jc I;omega
 repeat' (first|refine aT ?_ (bZ false rfl rfl (Zd aa))|(refine iP (hc:=Di hnb) (hX:=fun _ _=>trivial) ?_)|(refine xR (hc:=Ft) (hX:=fun _ _=>trivial) ?_;rintro _ _ X2 ⟨A3,c3,rfl,rfl⟩;refine bJ ?_)|refine gs ?_|fail)
 have hB:(compB (sortB (authI I))).length≤1000:=by
  have h1:=vi (sortB (authI I))
  have h2:=kS (authI I)
  have h3:=jc I
  omega
 generalize hids:compB (sortB (authI I))=ids at *
 clear hids hlt hk hnb hn
 refine aq (ι:=ChsI Q ids) (fun i=>⟨[(1,.pointer (some ⟨b1,0,none⟩)),(6,.slice i.A i.n i.c),(30,.slice A3 ids.length c3),(31,.int .i64 (ids.length:Nat)),(32,.int .i64 (i.k:Nat))],
  [cel b1 25 [ks.v,ki.v],orow 35 6 (.slice i.A i.n i.c) i.n i.xs],fun w=>(((Ints w ks L∧Items w ki I)∧Xe w)∧Strs w ⟨A3,ids.length,c3⟩ ids)∧∀ p∈i.M,p.1.at_ w∧Keyz w p.1.keys p.2⟩) (fun i=>ids.length-i.k) ⟨0,Z2 _,[],.nil,none,0,0,rfl,[],rfl⟩ ?_ fun i=>?_
 · exact ai am (.cons_cons _ (.cons_cons _ (Zt _))) fun w h=>⟨⟨h.1.1,jL h.2 rfl⟩,fun p hp=>absurd hp (by simp)⟩
 obtain ⟨k,hk,M,hM,A4,c4,n4,hn4,xs,hxs⟩:=i
 simp only
 have hMl:M.length=k:=by have:=hM.len;rw [Qg] at this;omega
 have hn4b:n4≤1000:=by have:=Z8 neK M;omega
 by_cases hlt:k<ids.length
 · refine aQ (p:=A3.isSome=true) (fun w h=>h.1.2.some_ aa) fun hA3=>?_
   have hget:ids[k]?=some (ids.getD k .empty):=by rw [Zp,Zc hlt];rfl
   have hlt':=hlt
   generalize hxe:ids.getD k .empty=x at *
   repeat' (first|refine aT ?_ (bZ true rfl rfl (Ze aa))|(refine bF (hc:=hof x) (hX:=fun w h=>h.1.1) fun v X5 h5=>?_;obtain ⟨c,kl,hQ,rfl,hw5⟩:=h5;refine iR (p:=c.acts.n=c.actsL.length) (fun w h=>(hw5 w h.2).1.len_) fun hcn=>?_)|(refine aL (size:=6) (news:=c.cells) (q:=1) rfl rfl rfl rfl (fun _=>At.there _ (At.there _ (At.there _ (At.here _)))) (fun w G=>bN G ao rfl rfl 1) aa (by simp only [maxLen];omega) rfl ?_ rfl ?_;(with_reducible rfl);intro A2 c2)|refine gs ?_|refine gs1 fun _=>?_|(refine aD (q:=k) ?_)|(refine cB (u:=.string x) (hF:=fun w h=>hxe▸Strs.get h.1.2 hlt') ?_)|(refine cN (size:=6) (vs:=[c.v]) (css:=c.cells) (hsz:=by rfl) (hcs:=by rfl) fun _=>?_)|(refine gp ?_ ?_<;>intro hx_ this)|fail)
   all_goals
    have hM2:Es (fun id p=>Q id p.1 p.2) (ids.take (k+1)) (M++[(c,kl)]):=by
     rw [Qe,hget]
     exact hM.snoc hQ
    have hX2:∀ w,((((((Ints w ks L∧Items w ki I)∧Xe w)∧Strs w ⟨A3,ids.length,c3⟩ ids)∧∀ p∈M,p.1.at_ w∧Keyz w p.1.keys p.2)∧X5 w))→(((Ints w ks L∧Items w ki I)∧Xe w)∧Strs w ⟨A3,ids.length,c3⟩ ids)∧∀ p∈M++[(c,kl)],p.1.at_ w∧Keyz w p.1.keys p.2:=fun w h=>⟨h.1.1,fun p hp=>by
     rcases Qw.1 hp with hp|hp
     · exact h.1.2 p hp
     · rw [Z3.1 hp];exact hw5 w h.2⟩
   · have hf:(M++[(c,kl)]).filter neK=M.filter neK++[(c,kl)]:=by
      rw [Qt]
      have:neK (c,kl)=true:=Ze (by show 0<c.actsL.length;omega)
      simp [this]
     exact ⟨(⟨k+1,hlt,M++[(c,kl)],hM2,A2,c2,n4+1,by rw [hf,Zz,←hn4];rfl,xs++c.cells,by rw [hf,hxs];simp⟩:ChsI Q ids),(by show ids.length-(k+1)<ids.length-k;omega),ai am (.cons _ (.cons _ (ak _))) hX2⟩
   · have hf:(M++[(c,kl)]).filter neK=M.filter neK:=by
      rw [Qt]
      have:neK (c,kl)=false:=Zd (by show ¬ 0<c.actsL.length;omega)
      simp [this]
     exact ⟨(⟨k+1,hlt,M++[(c,kl)],hM2,A4,c4,n4,by rw [hf];exact hn4,xs,by rw [hf];exact hxs⟩:ChsI Q ids),(by show ids.length-(k+1)<ids.length-k;omega),ai am (.cons _ (ak _)) hX2⟩
 · have hkE:k=ids.length:=by omega
   rw [hkE,Qf] at hM
   subst hxs
   repeat' (first|refine aT ?_ (bZ false rfl rfl (Zd aa))|refine gs ?_|fail)
   refine ab (ag rfl rfl) ⟨⟨A4,n4,c4⟩,M,hM,rfl,fun w h=>⟨⟨?_,fun c hc=>?_⟩,fun p hp=>(h.1.2 p hp).2⟩⟩
   · exact bu (xs:=((M.filter neK).map Prod.fst).map Xb.cells) (h.2 _ (.tail _ (.head _))) (by rw [ZE,ZE];exact hn4) fun r hr=>by
      obtain ⟨z,_,rfl⟩:=QH.1 hr
      rfl
   · obtain ⟨p,hp,rfl⟩:=QH.1 hc
     exact (h.1.2 p (QL.1 hp).1).1
theorem Items.keep {w w':World} {s:Xk} {l:List Xc} (h:Items w s l) (hs:∀ k,k<w.heap.size→w'.heap[k]?=w.heap[k]?):Items w' s l :=
 ⟨Xf.keep h.1 hs,fun i hi=>⟨⟨Xf.keep (h.2 i hi).1.1 hs,Xf.keep (h.2 i hi).1.2 hs⟩,Xf.keep (h.2 i hi).2 hs⟩⟩
theorem sE {α:Type} {f:α→ByteArray} {I:List α} (h:Asc (I.map f)) {x y:α} (hx:x∈I) (hy:y∈I) (e:f x=f y):x=y:=by
 obtain ⟨p,hp⟩:=QN.1 hx
 obtain ⟨q,hq⟩:=QN.1 hy
 have key:∀ {a b:Nat} {u v:α},I[a]?=some u→I[b]?=some v→f u=f v→¬ a<b:=fun {a b u v} h1 h2 e hab=>by
  have:=mK h hab (x:=f u) (y:=f v) (by rw [Z5,h1];rfl) (by rw [Z5,h2];rfl)
  rw [e,dk] at this
  cases this
 rcases Nat.lt_trichotomy p q with h1|rfl|h1
 · exact absurd h1 (key hp hq e)
 · exact Option.some.inj (hp.symm.trans hq)
 · exact absurd h1 (key hq hp e.symm)
theorem fo {I:List Xc} {au:ByteArray} {a:Xa} (h:a∈selA au rightIt I):∃ i∈I,i.act=a∧i.kind=0∧rightIt i=true∧digIt i=digV a∧a.author=au:=by
 rw [selA] at h
 obtain ⟨i,hi,rfl⟩:=QH.1 h
 obtain ⟨h1,h2⟩:=QL.1 hi
 rw [selB,Zq,wantA,Zq,Zv,seqB_iff] at h2
 exact ⟨i,h1,rfl,h2.1.1,h2.2,Bz h2.1.1 h2.2,h2.1.2⟩
theorem yP {L:List Int} {I:List Xc} (h:KnR L I) {au au':ByteArray} {a b:Xa} (ha:a∈selA au rightIt I) (hb:b∈selA au' rightIt I) (e:digV a=digV b):a=b:=by
 obtain ⟨i,hi,rfl,_,_,e1,_⟩:=fo ha
 obtain ⟨j,hj,rfl,_,_,e2,_⟩:=fo hb
 rw [sE h.asc hi hj (by rw [e1,e2,e])]
theorem EW {l:List Xa} (hd:∀ a∈l,∀ b∈l,digV a=digV b→a=b) (hs:∀ (i:Nat) (x:Xa),l[i]?=some x→x.seq=(i:Int)) {n:Nat} {x:Xa} (hx:l[n]?=some x):idxV l (digV x)=some n:=by
 obtain ⟨hn,e⟩:=QI.1 hx
 rw [idxV,QB]
 refine ⟨hn,by rw [e];exact bP _,fun j hj hc=>?_⟩
 have h1:=seqB_iff.1 hc
 have h2:=hd _ (ZP aa) x (Z4 hx) h1
 have h3:=hs j _ (Zc aa)
 have h4:=hs n x hx
 rw [h2] at h3
 omega
theorem j7 {P:Program} {f:FuncId} {args:Array Value} {X:World→Prop} {Φ Ψ:Value→(World→Prop)→Prop} (h:Mk P f args X Φ) (hi:∀ u X',Φ u X'→Ψ u X'):Mk P f args X Ψ:=by
 unfold Mk at *
 exact h.mono fun u R X' h1=>⟨hi u X' h1.1,h1.2⟩
def QK (L:List Int) (I:List Xc) (au:ByteArray) (c:Xb) (kl:List Xm):Prop :=
 ∃ (A:List Xa) (sa sk:Xk) (st:Ec) (fork:Bool),A.Perm (selA au rightIt I)∧OfRes ((OfWK L.length I au).at A) st fork∧c=⟨au,sa,sk,st.prev,(st.gen:Nat),fork,st.acts⟩∧kl=st.keys
theorem yo (ks ki:Xk) {L:List Int} {I:List Xc} (h:KnR L I) (au:ByteArray) :
  Mk prog 27 #[.agg #[ks.v,ki.v],.string au] (fun w=>(Ints w ks L∧Items w ki I)∧Xe w) (OfQ (QK L I) au) :=
 j7 (JG Ak ks ki h au) fun u X ⟨A,sa,sk,st,fork,h1,h2,h3,h4⟩=>⟨⟨au,sa,sk,st.prev,(st.gen:Nat),fork,st.acts⟩,st.keys,⟨A,sa,sk,st,fork,h1,h2,rfl,rfl⟩,h3,h4⟩
structure ChGood (c:Xb) (kl:List Xm):Prop where
 ok:Xw c.actsL
 len:c.actsL.length≤100
 klen:kl.length≤1000
 seq:∀ (i:Nat) (x:Xa),c.actsL[i]?=some x→x.seq=(i:Int)
 fit:∀ (n:Nat) (x:Xa),1≤n→c.actsL[n]?=some x→∀ d:Xb,d.id=c.id→d.acts.n=n→d.prev=x.prev→d.actsL=c.actsL.take n→fitsV d x (idxV d.actsL x.object)=true
 key0:0<c.actsL.length→∃ k r,kl=k::r∧k.from_=0
 own:∀ (n:Nat) (x:Xa),c.actsL[n]?=some x→idxV c.actsL (digV x)=some n
theorem yI {W:Ef} (hB:∀ g c,W.won g=some c→g<W.B) {a:Xa} (ha:a∈firstL W):InvS W (finS W a) :=
 rE (P:=InvS W) (fun st s h hs=>(jM hB h hs).1) _ _ (sz ha).1
theorem Dv (au:ByteArray) (I:List Xc):(selA au rightIt I).length≤I.length:=by rw [selA,ZE];exact Z8 _ _
theorem fY {L:List Int} {I:List Xc} (h:KnR L I) {au:ByteArray} {c:Xb} {kl:List Xm} (q:QK L I au c kl):ChGood c kl:=by
 obtain ⟨A,sa,sk,st,fork,hA,hR,rfl,rfl⟩:=q
 have hAl:A.length≤100:=by have h1:=hA.length_eq;have h2:=Dv au I;have h3:=h.len;omega
 have hAm:∀ a∈A,a∈selA au rightIt I:=fun a ha=>hA.subset ha
 rw [OfRes] at hR
 cases ho:oneA (firstL ((OfWK L.length I au).at A)) with
 | none =>
  rw [ho] at hR
  obtain ⟨rfl,rfl⟩:=hR
  exact ⟨⟨fun a ha=>absurd ha (by simp),fun a ha=>absurd ha (by simp)⟩,by simp,by simp,fun i x hx=>by simp at hx,fun n x _ hx=>by simp at hx,fun hl=>by simp at hl,fun n x hx=>by simp at hx⟩
 | some a =>
  rw [ho] at hR
  obtain ⟨rfl,rfl⟩:=hR
  have ha:a∈firstL ((OfWK L.length I au).at A):=by rw [fJ ho];exact Z3.2 rfl
  have hF:=r4 ha
  have hB:∀ g c,((OfWK L.length I au).at A).won g=some c→g<((OfWK L.length I au).at A).B:=fun g c hw=>(fe hw).1
  have hI:=yI hB ha
  have hg:=r3 L.length I au
  have hcl:(claimsV I au).length≤I.length:=by rw [claimsV,selC,ZE];exact Z8 _ _
  have hIl:=h.len
  have h1:=hI.len
  have h2:=hI.keyn
  have h3:(finS ((OfWK L.length I au).at A) a).gen≤genB L.length I au:=hI.gen
  have h4:(finS ((OfWK L.length I au).at A) a).acts.length≤A.length:=h1
  have hmem:∀ x∈(finS ((OfWK L.length I au).at A) a).acts,x∈selA au rightIt I:=fun x hx=>hAm x (hF.mem x hx)
  refine ⟨⟨fun x hx=>?_,fun x hx=>?_⟩,by show (finS ((OfWK L.length I au).at A) a).acts.length≤100;omega,by omega,hF.seq,fun n x hn hx d e1 e2 e3 e4=>?_,fun _=>hF.key0,fun n x hx=>?_⟩
  · obtain ⟨i,hi,rfl,_⟩:=fo (hmem x hx)
    exact h.rng i hi
  · obtain ⟨i,hi,rfl,_⟩:=fo (hmem x hx)
    exact h.sm i hi
  · have h5:=hF.fit n x hx hn
    rw [e4]
    rw [←h5]
    refine lr e1 ?_ e3 e4
    rw [e2]
    show n=((finS ((OfWK L.length I au).at A) a).acts.take n).length
    rw [Qg]
    obtain ⟨hlt,_⟩:=QI.1 hx
    change n<(finS ((OfWK L.length I au).at A) a).acts.length at hlt
    omega
  · exact EW (fun x hx y hy e=>yP h (hmem x hx) (hmem y hy) e) hF.seq hx
theorem qt {l m:List Xa} (h:l.Perm m):oneA l=oneA m:=by
 have hl:=h.length_eq
 match l,m,h,hl with
 | [],m,h,_=>rw [List.Perm.nil_eq h]
 | [a],m,h,_=>rw [List.singleton_perm.1 h]
 | a::b::r,[],h,hl=>cases hl
 | a::b::r,[c],h,hl=>cases hl
 | a::b::r,c::d::s,h,_=>rfl
theorem pg (W:Ef) {A B:List Xa} (h:A.Perm B) (st:Ec):(candL (W.at A) st).Perm (candL (W.at B) st):=(h.filter _).filter _
theorem vO (W:Ef) {A B:List Xa} (h:A.Perm B) (st:Ec):stepS (W.at A) st=stepS (W.at B) st:=by
 have h1:regS (W.at A) st=regS (W.at B) st:=rfl
 rw [stepS,stepS,h1,qt (pg W h st)]
theorem ql (W:Ef) {A B:List Xa} (h:A.Perm B):∀ n st,runS (W.at A) n st=runS (W.at B) n st
 | 0,st=>rfl
 | n+1,st=>by
  rw [runS,runS,vO W h st]
  cases stepS (W.at B) st with
  | none=>rfl
  | some s=>exact ql W h n s
theorem ma (W:Ef) {A B:List Xa} (h:A.Perm B):(firstL (W.at A)).Perm (firstL (W.at B)):=(h.filter _).filter _
theorem Bo (W:Ef) {A B:List Xa} (h:A.Perm B) (a:Xa):finS (W.at A) a=finS (W.at B) a:=by
 rw [finS,finS,show (W.at A).L.length=(W.at B).L.length from h.length_eq]
 exact ql W h _ _
theorem ow (W:Ef) {A B:List Xa} (h:A.Perm B) {st:Ec} {fork:Bool} (r:OfRes (W.at A) st fork):OfRes (W.at B) st fork:=by
 rw [OfRes] at r ⊢
 rw [←qt (ma W h)]
 cases ho:oneA (firstL (W.at A)) with
 | none =>
  rw [ho] at r
  exact ⟨r.1,by rw [r.2,(ma W h).length_eq]⟩
 | some a =>
  rw [ho] at r
  simp only at r ⊢
  rw [←Bo W h a,←(pg W h _).length_eq]
  exact r
theorem AS {W:Ef} {st st':Ec} {f f':Bool} (r:OfRes W st f) (r':OfRes W st' f'):st=st'∧f=f':=by
 rw [OfRes] at r r'
 cases ho:oneA (firstL W) with
 | none =>
  rw [ho] at r r'
  exact ⟨r.1.trans r'.1.symm,r.2.trans r'.2.symm⟩
 | some a =>
  rw [ho] at r r'
  exact ⟨r.1.trans r'.1.symm,r.2.trans r'.2.symm⟩
def EvS (W:Ef) (s:Ec):Prop:=(∃ x∈W.L,s.prev=digV x)∨∃ g c,g<s.gen∧W.won g=some c∧s.prev=W.dgC c
theorem Ic {W:Ef} {st s:Ec} (hs:stepS W st=some s):EvS W s:=by
 rcases fi hs with h1|⟨h1,a,h2,rfl⟩
 · obtain ⟨c,i,e1,e2,e3,e4,e5,rfl⟩:=gG h1
   exact .inr ⟨st.gen,c,Nat.lt_succ_self _,e1,rfl⟩
 · have ha:a∈candL W st:=by rw [h2];exact Z3.2 rfl
   exact .inl ⟨a,(kx ha).1,rfl⟩
theorem jP {W:Ef}:∀ (n:Nat) (s:Ec),runS W n s=s∨s.acts.length<(runS W n s).acts.length ∨
  s.acts.length=(runS W n s).acts.length∧∃ g c,s.gen≤g∧(runS W n s).gen=g+1∧W.won g=some c∧(runS W n s).prev=W.dgC c
 | 0,s=>.inl rfl
 | n+1,s=>by
  cases hs:stepS W s with
  | none=>exact .inl (fT hs _)
  | some s1 =>
   rw [eT hs]
   have ih:=jP (W:=W) n s1
   rcases fi hs with h1|⟨h1,a,h2,rfl⟩
   · obtain ⟨c,i,e1,e2,e3,e4,e5,e6⟩:=gG h1
     have ea:s1.acts=s.acts:=by rw [e6]
     have eg:s1.gen=s.gen+1:=by rw [e6]
     have ep:s1.prev=W.dgC c:=by rw [e6]
     rw [ea] at ih
     rcases ih with ih|ih|⟨ih,g,c',i1,i2,i3,i4⟩
     · rw [ih]
       exact .inr (.inr ⟨by rw [ea],s.gen,c,ZV _,eg,e1,ep⟩)
     · exact .inr (.inl ih)
     · exact .inr (.inr ⟨ih,g,c',by omega,i2,i3,i4⟩)
   · have el:(addS s a).acts.length=s.acts.length+1:=by simp [addS]
     right;left
     rcases ih with ih|ih|⟨ih,_⟩
     · rw [ih];omega
     · omega
     · omega
structure DistS (W:Ef):Prop where
 ac:∀ x∈W.L,∀ g c,W.won g=some c→digV x≠W.dgC c
 cc:∀ g g' c c',W.won g=some c→W.won g'=some c'→W.dgC c=W.dgC c'→g=g'
theorem EA {W:Ef} (hD:DistS W) {n:Nat} {s s1:Ec} (hE:EvS W s) (hs:stepS W s=some s1):¬ ((runS W n s1).acts.length=s.acts.length∧(runS W n s1).prev=s.prev):=by
 rintro ⟨h1,h2⟩
 have hg:=jP (W:=W) (n+1) s
 rw [eT hs] at hg
 rcases hg with hg|hg|⟨_,g,c,g1,g2,g3,g4⟩
 · have hg1:=jP (W:=W) n s1
   rcases fi hs with k1|⟨k1,a,k2,rfl⟩
   · obtain ⟨c,i,e1,e2,e3,e4,e5,e6⟩:=gG k1
     have eg:s1.gen=s.gen+1:=by rw [e6]
     have ea:s1.acts=s.acts:=by rw [e6]
     rcases hg1 with q|q|⟨q,g,c',q1,q2,_⟩
     · rw [q] at hg
       rw [hg] at eg
       omega
     · rw [hg,ea] at q
       omega
     · rw [hg] at q2
       omega
   · have el:(addS s a).acts.length=s.acts.length+1:=by simp [addS]
     rcases hg1 with q|q|⟨q,_⟩
     · rw [q] at h1;omega
     · omega
     · omega
 · omega
 · rw [h2] at g4
   rcases hE with ⟨x,hx,e⟩|⟨g',c',l1,l2,l3⟩
   · exact hD.ac x hx g c g3 (e.symm.trans g4)
   · have:=hD.cc g' g c' c l2 g3 (l3.symm.trans g4)
     omega
theorem xW {W:Ef} {A:List Xa} {a:Xa} (hD:DistS (W.at A)):∀ (n:Nat) (s:Ec),EvS (W.at A) s→stepS (W.at A) (runS (W.at A) n s)=none→a.seq=((runS (W.at A) n s).acts.length:Int)→a.prev=(runS (W.at A) n s).prev →
  ∃ k,k≤n∧∀ m,runS (W.at (a::A)) (k+m) s=runS (W.at (a::A)) m (runS (W.at A) n s)
 | 0,s,hE,hf,h1,h2=>⟨0,ZV _,fun m=>by rw [ZS];rfl⟩
 | n+1,s,hE,hf,h1,h2=>by
  cases hs:stepS (W.at A) s with
  | none =>
   rw [fT hs] at *
   exact ⟨0,Z2 _,fun m=>by rw [ZS]⟩
  | some s1 =>
   have hno:=EA hD (n:=n) hE hs
   rw [eT hs] at *
   have hpos:posB s.acts.length s.prev a=false:=by
    cases hp:posB s.acts.length s.prev a with
    | false=>rfl
    | true =>
     rw [posB,Zq,Zv,seqB_iff] at hp
     exact absurd ⟨by have:=hp.1;omega,by rw [←h2];exact hp.2⟩ hno
   have hst:stepS (W.at (a::A)) s=some s1:=by
    rw [←hs]
    have e:candL (W.at (a::A)) s=candL (W.at A) s:=by
     show (List.filter (posB s.acts.length s.prev) (a::A)).filter _=_
     rw [List.filter_cons_of_neg (by rw [hpos];decide)]
     rfl
    have e1:regS (W.at (a::A)) s=regS (W.at A) s:=rfl
    rw [stepS,stepS,e,e1]
   obtain ⟨k,hk,hr⟩:=xW hD n s1 (Ic hs) hf h1 h2
   exact ⟨k+1,by omega,fun m=>by rw [Nat.add_right_comm,eT hst];exact hr m⟩
theorem xX {W:Ef} (hB:∀ g c,W.won g=some c→g<W.B):∀ (n:Nat) (s:Ec),InvS W s→muS W s≤n→stepS W (runS W n s)=none
 | 0,s,hI,hm=>by
  cases hs:stepS W s with
  | none=>exact hs
  | some s1=>have:=(jM hB hI hs).2;omega
 | n+1,s,hI,hm=>by
  cases hs:stepS W s with
  | none=>rw [fT hs];exact hs
  | some s1 =>
   obtain ⟨h1,h2⟩:=jM hB hI hs
   rw [eT hs]
   exact xX hB n s1 h1 aa
theorem E9 {W:Ef} (hB:∀ g c,W.won g=some c→g<W.B) {a:Xa} (ha:a∈firstL W):stepS W (finS W a)=none:=by
 obtain ⟨h1,h2⟩:=sz ha
 exact xX hB _ _ h1 aa
theorem xY {W:Ef}:∀ (n:Nat) (s:Ec),∃ M K,(runS W n s).acts=s.acts++M∧(runS W n s).keys=s.keys++K∧∀ k∈K,(s.acts.length:Int)≤k.from_
 | 0,s=>⟨[],[],(ZI _).symm,(ZI _).symm,fun k hk=>(Qi hk).elim⟩
 | n+1,s=>by
  cases hs:stepS W s with
  | none=>rw [fT hs];exact ⟨[],[],(ZI _).symm,(ZI _).symm,fun k hk=>(Qi hk).elim⟩
  | some s1 =>
   rw [eT hs]
   obtain ⟨M,K,h1,h2,h3⟩:=xY (W:=W) n s1
   rcases fi hs with k1|⟨k1,a,k2,rfl⟩
   · obtain ⟨c,i,e1,e2,e3,e4,e5,rfl⟩:=gG k1
     refine ⟨M,⟨(s.acts.length:Nat),c.pub,c.home⟩::K,h1,by rw [h2];simp,fun k hk=>?_⟩
     rcases ZH.1 hk with rfl|hk
     · exact Int.le_refl _
     · exact h3 k hk
   · have hl:((addS s a).acts.length:Int)=(s.acts.length:Int)+1:=by simp [addS]
     refine ⟨a::M,(bif decide (a.kind=18) then [⟨((s.acts.length+1:Nat):Int),a.n,a.m⟩] else [])++K,by rw [h1];simp [addS],?_,fun k hk=>?_⟩
     · rw [h2]
       show (bif decide (a.kind=18) then s.keys++[_] else s.keys)++K=_
       cases decide (a.kind=18)<;>simp
     · rcases Qw.1 hk with hk|hk
       · cases hd:decide (a.kind=18) with
         | true =>
          rw [hd,Zg] at hk
          rw [Z3.1 hk]
          show (s.acts.length:Int)≤((s.acts.length+1:Nat):Int)
          omega
         | false =>
          rw [hd,Zf] at hk
          exact (Qi hk).elim
       · have:=h3 k hk
         omega
theorem Ib {W:Ef} {A:List Xa} {a b:Xa} (hD:DistS (W.at A)) (hB:∀ g c,W.won g=some c→g<W.B) (hb:oneA (firstL (W.at A))=some b) {st st':Ec} {f f':Bool}
  (r:OfRes (W.at A) st f) (r':OfRes (W.at (a::A)) st' f') (h1:a.seq=(st.acts.length:Int)) (h2:a.prev=st.prev) :
  bif !f&&candB (W.at A) st a then f=false∧∃ m,st'=runS (W.at (a::A)) m (addS st a) else st'=st∧f'=f:=by
 have hbm:b∈firstL (W.at A):=by rw [fJ hb];exact Z3.2 rfl
 have hI:=yI (W:=W.at A) hB hbm
 have hst:st=finS (W.at A) b∧f=decide (1<(candL (W.at A) (finS (W.at A) b)).length):=by
  rw [OfRes,hb] at r
  exact r
 obtain ⟨rfl,hf⟩:=hst
 have hone:=hI.one
 have hfl:firstL (W.at (a::A))=firstL (W.at A):=by
  have hp:posB 0 ⟨#[]⟩ a=false:=by
   rw [posB,Zd (by rw [h1];omega)]
   rfl
  show (List.filter (posB 0 ⟨#[]⟩) (a::A)).filter _=_
  rw [List.filter_cons_of_neg (by rw [hp];decide)]
  rfl
 have hst':st'=finS (W.at (a::A)) b∧f'=decide (1<(candL (W.at (a::A)) (finS (W.at (a::A)) b)).length):=by
  rw [OfRes,hfl,hb] at r'
  exact r'
 obtain ⟨rfl,hf'⟩:=hst'
 have hstop:=E9 (W:=W.at A) hB hbm
 have hE:EvS (W.at A) (begS b):=by
  obtain ⟨e,m1,_⟩:=Fy hbm
  exact .inl ⟨b,m1,by rw [e]⟩
 obtain ⟨k,hk,hr⟩:=xW hD _ (begS b) hE hstop h1 h2
 change ∀ m,runS (W.at (a::A)) (k+m) (begS b)=runS (W.at (a::A)) m (finS (W.at A) b) at hr
 obtain ⟨m,hm⟩:∃ m,(a::A).length+W.B=k+(m+1):=⟨(a::A).length+W.B-k-1,by rw [ZA];have:k≤A.length+W.B:=hk;omega⟩
 have hfin:finS (W.at (a::A)) b=runS (W.at (a::A)) (m+1) (finS (W.at A) b):=by
  rw [←hr,←hm]
  rfl
 have hpos:posB (finS (W.at A) b).acts.length (finS (W.at A) b).prev a=true:=by
  rw [posB,Ze h1,h2,bP]
  rfl
 have hcl:candL (W.at (a::A)) (finS (W.at A) b)=if candB (W.at A) (finS (W.at A) b) a=true then a::candL (W.at A) (finS (W.at A) b) else candL (W.at A) (finS (W.at A) b):=by
  show (List.filter (posB (finS (W.at A) b).acts.length (finS (W.at A) b).prev) (a::A)).filter (candB (W.at A) (finS (W.at A) b))=_
  rw [List.filter_cons_of_pos (by rw [hpos]),List.filter_cons]
  rfl
 have hreg:regS (W.at A) (finS (W.at A) b)=none∧oneA (candL (W.at A) (finS (W.at A) b))=none:=by
  rw [stepS] at hstop
  cases hr:regS (W.at A) (finS (W.at A) b) with
  | some s=>rw [hr] at hstop;cases hstop
  | none =>
   rw [hr] at hstop
   exact ⟨rfl,by simpa using hstop⟩
 have hregA:regS (W.at (a::A)) (finS (W.at A) b)=none:=hreg.1
 have hstay:oneA (candL (W.at (a::A)) (finS (W.at A) b))=none→finS (W.at (a::A)) b=finS (W.at A) b:=fun ho=>by
  rw [hfin]
  refine fT ?_ _
  rw [stepS,hregA,ho]
  rfl
 cases hc:candB (W.at A) (finS (W.at A) b) a with
 | false =>
  rw [hc,ZO (by decide)] at hcl
  have hs:=hstay (by rw [hcl];exact hreg.2)
  rw [Zl,Zf]
  refine ⟨hs,?_⟩
  rw [hf',hs,hcl,hf]
 | true =>
  rw [hc,ZN rfl] at hcl
  cases hff:f with
  | true =>
   rw [hff] at hf
   have hl:=bA hf.symm
   have ho:oneA (a::candL (W.at A) (finS (W.at A) b))=none:=by
    cases hcc:candL (W.at A) (finS (W.at A) b) with
    | nil=>rw [hcc] at hl;simp at hl
    | cons x r=>rfl
   have hs:=hstay (by rw [hcl];exact ho)
   refine ⟨hs,?_⟩
   rw [hf',hs,hcl,ZA]
   exact Ze aa
  | false =>
   rw [hff] at hf
   have hl:=cw hf.symm
   have hnil:candL (W.at A) (finS (W.at A) b)=[]:=by
    have h3:=hreg.2
    cases hcc:candL (W.at A) (finS (W.at A) b) with
    | nil=>rfl
    | cons x r =>
     rw [hcc] at hl h3
     cases r with
     | nil=>cases h3
     | cons y r=>simp at hl
   rw [hnil] at hcl
   refine ⟨rfl,m,?_⟩
   rw [hfin]
   refine eT ?_
   rw [stepS,hregA,hcl]
   rfl
theorem Bx {i:Xc} (h:i.kind=1) (hr:rightIt i=true):digIt i=dgCl i.claim:=by
 have h1:claimR i.claim=true:=by
  rcases da hr with h2|h2|h2|h2
  · rw [h] at h2;exact absurd h2.1 (by decide)
  · exact h2.2
  · rw [h] at h2;exact absurd h2.1 (by decide)
  · rw [h] at h2;exact absurd h2.1 (by decide)
 have h2:rightIt (ofClaimI i.claim)=true:=by
  have h3:rightIt (ofClaimI i.claim)=(claimR i.claim&&sameIZ Xc.zero):=rfl
  rw [h3,h1]
  decide +kernel
 have e:bytesIt i=bytesIt (ofClaimI i.claim):=by
  rw [bytesIt,bytesIt,hr,h2,Zg,Zg,bodyIt,h]
  rfl
 rw [digIt,dgCl,digIt,e]
theorem iF {I:List Xc} {au:ByteArray} {c:Xg} (h:c∈claimsV I au):∃ i∈I,i.kind=1∧i.claim=c∧digIt i=dgCl c:=by
 rw [claimsV,selC] at h
 obtain ⟨i,hi,rfl⟩:=QH.1 h
 obtain ⟨h1,h2⟩:=QL.1 hi
 rw [selBC,Zq,wantC,Zq,Zv] at h2
 exact ⟨i,h1,h2.1.1,rfl,Bx h2.1.1 h2.2⟩
theorem If {L:List Int} {I:List Xc} (h:KnR L I) {au:ByteArray} {A:List Xa} (hA:A.Perm (selA au rightIt I)):DistS ((OfWK L.length I au).at A):=by
 refine ⟨fun x hx g c hw e=>?_,fun g g' c c' hw hw' e=>?_⟩
 · obtain ⟨i,hi,e1,e2,_,e3,_⟩:=fo (hA.subset hx)
   obtain ⟨j,hj,e4,e5,e6⟩:=iF (gx (fe hw).2).1
   have:=sE h.asc hi hj (by rw [e3,e6];exact e)
   rw [this,e4] at e2
   exact absurd e2 (by decide)
 · obtain ⟨m1,m2⟩:=gx (fe hw).2
   obtain ⟨m3,m4⟩:=gx (fe hw').2
   obtain ⟨i,hi,e1,e2,e3⟩:=iF m1
   obtain ⟨j,hj,e4,e5,e6⟩:=iF m3
   have:=sE h.asc hi hj (by rw [e3,e6];exact e)
   subst this
   rw [e2] at e5
   have h9:c.gen=c'.gen:=by rw [e5]
   rw [m2,m4] at h9
   omega
def gtB (a b:ByteArray):Bool:=!(Op.bytesLess a.toList b.toList||seqB a b)
def addAt (dI:Xc→ByteArray) (d:ByteArray) (I:List Xc) (k:Nat):Nat:=((I.take k).findIdx? fun x=>gtB (dI x) d).getD I.length
def addV (dI:Xc→ByteArray) (it:Xc) (I:List Xc):List Xc:=I.take (addAt dI (dI it) I I.length)++it::I.drop (addAt dI (dI it) I I.length)
theorem FP (dI:Xc→ByteArray) (d:ByteArray) (I:List Xc) (k:Nat) (hk:k≤I.length):addAt dI d I k<k∨addAt dI d I k=I.length:=by
 rw [addAt]
 cases h:(I.take k).findIdx? fun x=>gtB (dI x) d with
 | none=>exact .inr rfl
 | some j =>
  rw [QB] at h
  obtain ⟨h1,_⟩:=h
  rw [Qg] at h1
  exact .inl (by show j<k;omega)
theorem xi (dI:Xc→ByteArray) (d:ByteArray) (I:List Xc) (k:Nat) (x:Xc) (hx:I[k]?=some x):addAt dI d I (k+1)=bif gtB (dI x) d&&decide (addAt dI d I k=I.length) then k else addAt dI d I k:=by
 have hk:k<I.length:=(QI.1 hx).1
 rw [addAt,addAt,Qe,hx,Qs,List.findIdx?_append]
 cases h:(I.take k).findIdx? fun x=>gtB (dI x) d with
 | none =>
  rw [List.findIdx?_singleton]
  cases hg:gtB (dI x) d with
  | true=>simp [Qg];omega
  | false=>simp
 | some j =>
  rw [QB] at h
  obtain ⟨h1,_⟩:=h
  rw [Qg] at h1
  have:¬ j=I.length:=by omega
  simp [this]
section
variable {P:Program} {N:Nat} {av bor:List Nat} {w0:World} {x y:Operand} {t t2:TypeId} {ty:TypeId} {st:St}
theorem mA {a b:ByteArray} (v:Bool) (hx:ev st.env x=some (.string a)) (hy:ev st.env y=some (.string b)) (hv:gtB a b=v):Sy.Yields P N av bor w0 st (.binOp .gtr t x y t2) ty (.bool v):=hv▸BU hx hy
end
structure AddI (I:List Xc) where
 k:Nat
 hk:k≤I.length
theorem Iq (Y:World→Prop) (ks ki:Xk) (I:List Xc) (it:Xc) (rI:Xc→Bool) (dI:Xc→ByteArray)
  (hR:Pu prog 73 #[it.v] (fun w=>it.at_ w) (.bool true))
  (hS:Pu prog 74 #[ks.v,it.v] (fun w=>(Y w∧it.at_ w)∧Xe w) (.bool true))
  (hD0:Pu prog 18 #[it.v] (fun w=>it.at_ w∧Xe w) (.string (dI it)))
  (hD:∀ x∈I,Pu prog 18 #[x.v] (fun w=>x.at_ w∧Xe w) (.string (dI x)))
  (hI:I.length≤1000) (hnew:∀ x∈I,seqB (dI x) (dI it)=false) :
  Mk prog 35 #[.agg #[ks.v,ki.v],it.v] (fun w=>((Y w∧Items w ki I)∧it.at_ w)∧Xe w)
   (fun u X'=>∃ s:Xk,u=.tuple #[.agg #[ks.v,s.v],.bool true]∧∀ w,X' w→Items w s (addV dI it I)):=by
 refine dm func35 ntmps35 fun av bor w0=>?_
 refine aQ (p:=ki.n=I.length∧ki.n≤maxLen∧(0<I.length→ki.p.isSome=true)∧ki.n≤ki.c) (fun w h=>⟨h.1.1.2.len_,h.1.1.2.max_,h.1.1.2.some_,Xf.cap h.1.1.2.1⟩) fun ⟨hkn,hkm,hkp,hkc⟩=>?_
 simp only [maxLen] at hkm
 obtain ⟨d,hd⟩:∃ d,dI it=d:=⟨_,rfl⟩
 rw [hd] at hD0 hnew
 repeat' (first|(refine ae (hc:=hR) (hX:=fun w h=>h.1.2) ?_)|(refine ae (hc:=hS) (hX:=fun w h=>⟨⟨h.1.1.1,h.1.2⟩,h.2⟩) ?_)|(refine ae (hc:=hD0) (hX:=fun w h=>⟨h.1.2,h.2⟩) ?_)|refine gs ?_|refine gs1 fun _=>?_|fail)
 rename_i b2 b3 b4
 refine aq (ι:=AddI I) (fun i=>⟨[(2,.pointer (some ⟨b2,0,none⟩)),(3,.pointer (some ⟨b3,0,none⟩)),(4,.pointer (some ⟨b4,0,none⟩)),(6,.string d),(7,.int .i64 (addAt dI d I i.k:Nat)),(29,ki.v),(30,.int .i64 (ki.n:Nat)),(31,.int .i64 (i.k:Nat))],[cel b4 25 [.slice none 0 0,.slice none 0 0],cel b3 60 it.cells,cel b2 25 [ks.v,ki.v]],fun w=>((Y w∧Items w ki I)∧it.at_ w)∧Xe w⟩) (fun i=>I.length-i.k) ⟨0,Z2 _⟩ (ai ⟨rfl,rfl,rfl,rfl,(by show some (Value.int .i64 (ki.n:Nat))=_;rw [hkn];rfl),rfl,rfl,rfl,trivial⟩ (ak _) fun _ h=>h) fun i=>?_
 obtain ⟨k,hk⟩:=i
 simp only
 repeat' (first|refine gs ?_|(refine gp ?_ ?_<;>intro hx_ this)|fail)
 · have hlt:k<I.length:=by omega
   have hkp':=hkp aa
   obtain ⟨x,hx⟩:∃ x,I[k]?=some x:=⟨_,Zc hlt⟩
   have hxm:=Z4 hx
   have hne:=hnew x hxm
   have hst:=xi dI d I k x hx
   generalize addAt dI d I k=at0 at *
   cases hg:gtB (dI x) d with
   | false =>
    rw [hg] at hst
    have hst:addAt dI d I (k+1)=at0:=hst
    have hat:decide ((at0:Int)=(ki.n:Int))=decide ((at0:Int)=(ki.n:Int)):=rfl
    repeat' (first|refine aT ?_ (cJ false rfl rfl hne)|refine aT ?_ (mA _ rfl rfl hg)|(refine ae (hc:=hD x hxm) (hX:=fun w h=>⟨h.1.1.2.2 x hxm,h.2⟩) ?_)|refine gs ?_|refine gs1 fun _=>?_|(refine aD (q:=k*49) ?_)|(refine aN (cs:=x.cells) (hF:=fun w h=>h.1.1.2.get hx) ?_)|fail)
    exact ⟨(⟨k+1,hlt⟩:AddI I),(by show I.length-(k+1)<I.length-k;omega),ai ⟨rfl,rfl,rfl,rfl,(by show _=some (Value.int .i64 (addAt dI d I (k+1):Nat));rw [hst];rfl),rfl,rfl,rfl,trivial⟩ (.cons _ (ak _)) fun _ h=>h⟩
   | true =>
    by_cases ha:at0=I.length
    · rw [hg,Ze ha] at hst
      have hst:addAt dI d I (k+1)=k:=hst
      have hat:decide ((at0:Int)=(ki.n:Int))=true:=Ze aa
      repeat' (first|refine aT ?_ (cJ false rfl rfl hne)|refine aT ?_ (mA _ rfl rfl hg)|refine aT ?_ (d9 _ rfl rfl hat)|(refine ae (hc:=hD x hxm) (hX:=fun w h=>⟨h.1.1.2.2 x hxm,h.2⟩) ?_)|refine gs ?_|refine gs1 fun _=>?_|(refine aD (q:=k*49) ?_)|(refine aN (cs:=x.cells) (hF:=fun w h=>h.1.1.2.get hx) ?_)|fail)
      exact ⟨(⟨k+1,hlt⟩:AddI I),(by show I.length-(k+1)<I.length-k;omega),ai ⟨rfl,rfl,rfl,rfl,(by show _=some (Value.int .i64 (addAt dI d I (k+1):Nat));rw [hst];rfl),rfl,rfl,rfl,trivial⟩ (.cons _ (ak _)) fun _ h=>h⟩
    · rw [hg,Zd ha] at hst
      have hst:addAt dI d I (k+1)=at0:=hst
      have hat:decide ((at0:Int)=(ki.n:Int))=false:=Zd aa
      repeat' (first|refine aT ?_ (cJ false rfl rfl hne)|refine aT ?_ (mA _ rfl rfl hg)|refine aT ?_ (d9 _ rfl rfl hat)|(refine ae (hc:=hD x hxm) (hX:=fun w h=>⟨h.1.1.2.2 x hxm,h.2⟩) ?_)|refine gs ?_|refine gs1 fun _=>?_|(refine aD (q:=k*49) ?_)|(refine aN (cs:=x.cells) (hF:=fun w h=>h.1.1.2.get hx) ?_)|fail)
      exact ⟨(⟨k+1,hlt⟩:AddI I),(by show I.length-(k+1)<I.length-k;omega),ai ⟨rfl,rfl,rfl,rfl,(by show _=some (Value.int .i64 (addAt dI d I (k+1):Nat));rw [hst];rfl),rfl,rfl,rfl,trivial⟩ (.cons _ (ak _)) fun _ h=>h⟩
 have hkE:k=I.length:=by omega
 have hV:addV dI it I=I.take (addAt dI d I k)++it::I.drop (addAt dI d I k):=by rw [addV,hd,hkE]
 have hal:addAt dI d I k≤I.length:=by
  rcases FP dI d I k hk with h|h
  · omega
  · omega
 rw [hV]
 generalize addAt dI d I k=a0 at *
 have hones:∀ (J:List Xc),∀ cs∈J.map Xc.cells,cs.all (·.oneCell')=true:=fun J cs hcs=>by
  obtain ⟨x,_,rfl⟩:=QH.1 hcs
  rfl
 have hs1:∀ w,(((Y w∧Items w ki I)∧it.at_ w)∧Xe w)→Src prog w 49 (.slice ki.p a0 ki.c) a0 ((I.take a0).map Xc.cells).flatten:=fun w h=>by
  have h1:=Xf.take (n:=a0) h.1.1.2.1 (by simpa using hal)
  rw [←List.map_take] at h1
  exact gC h1 (hones _)
 have hs2:∀ w,(((Y w∧Items w ki I)∧it.at_ w)∧Xe w)→Src prog w 49 (ki.from 49 a0).v (ki.from 49 a0).n ((I.drop a0).map Xc.cells).flatten:=fun w h=>by
  have h1:=Xf.drop (n:=a0) h.1.1.2.1 (by simpa using hal)
  rw [←List.map_drop] at h1
  exact gC h1 (hones _)
 have hfn:(ki.from 49 a0).n=ki.n-a0:=rfl
 refine iQ (c:=ki.n+1) (hm:=Nat.ble_eq_true_of_le aa) (hm2:=Nat.ble_eq_true_of_le aa) fun bv=>?_
 repeat' (first|refine gs ?_|(refine al (BT rfl rfl aa aa) rfl rfl rfl ?_)|fail)
 refine aL (size:=49) (news:=((I.take a0).map Xc.cells).flatten) (q:=a0) rfl rfl rfl rfl (fun _=>At.here _) (fun w G=>hs1 w G.keep.now) aa (by simp only [maxLen];omega) rfl ?_ rfl ?_
 · (with_reducible rfl)
 intro A1 c1
 repeat' (first|refine cN (size:=49) (vs:=[it.v]) (css:=it.cells) (hsz:=by rfl) (hcs:=by rfl) fun _=>?_|refine gs ?_|fail)
 refine aL (size:=49) (news:=it.cells) (q:=1) rfl rfl rfl rfl (fun _=>At.there _ (At.here _)) (fun w G=>bN G ao rfl rfl 1) aa (by simp only [maxLen];omega) rfl ?_ rfl ?_
 · (with_reducible rfl)
 intro A2 c2
 repeat' (first|refine gs ?_|(refine al (IR (s:=ki) rfl rfl aa aa) rfl rfl rfl ?_)|fail)
 refine aL (size:=49) (news:=((I.drop a0).map Xc.cells).flatten) (q:=ki.n-a0) rfl rfl rfl rfl (fun _=>At.there _ (At.here _)) (fun w G=>hs2 w G.keep.now) aa (by simp only [maxLen];omega) rfl ?_ rfl ?_
 · (with_reducible rfl)
 intro A3 c3
 repeat' (first|refine gs ?_|(refine aG (cs:=[ks.v,.slice A3 (0+a0+1+(ki.n-a0)) c3]) (hf:=by rfl) ?_)|fail)
 refine ab (dc rfl rfl rfl aM (by rfl)) ⟨⟨A3,0+a0+1+(ki.n-a0),c3⟩,rfl,fun w h=>?_⟩
 have hr:=h.2 (orow 60 49 (.slice A3 (0+a0+1+(ki.n-a0)) c3) (0+a0+1+(ki.n-a0)) ([]++((I.take a0).map Xc.cells).flatten++it.cells++((I.drop a0).map Xc.cells).flatten)) aM
 refine ⟨bu (e:=60) (xs:=(I.take a0++it::I.drop a0).map Xc.cells) ?_ (by simp [hkn];omega) fun r hr=>?_,fun x hx=>?_⟩
 · have e:((I.take a0++it::I.drop a0).map Xc.cells).flatten=[]++((I.take a0).map Xc.cells).flatten++it.cells++((I.drop a0).map Xc.cells).flatten:=by simp
   rw [e]
   exact hr
 · obtain ⟨x,_,rfl⟩:=QH.1 hr
   rfl
 · rcases Qw.1 hx with hx|hx
   · exact h.1.1.1.2.2 x (List.mem_of_mem_take hx)
   · rcases ZH.1 hx with rfl|hx
     · exact h.1.1.2
     · exact h.1.1.1.2.2 x (List.mem_of_mem_drop hx)
end Go.Proofs.YtaolfiikahlmkaaGreatDoor
namespace Go.Proofs.YtaolfiikahlmkaaGreatDoor
open Go Go.Proofs Sy Go.Shelf Tryz
namespace Rf4
theorem Kk (m x:Nat) (hm:m≤64):shrV .u64 (x:Int) (m:Int)=((x/2 ^ m:Nat):Int):=by
 show (x:Int).fdiv (2 ^ (min (m:Int).toNat 64))=_
 rw [ZX,Nat.min_eq_left hm,show (2:Int) ^ m=((2 ^ m:Nat):Int) by rw [Int.natCast_pow];rfl,←Int.ofNat_fdiv]
theorem iM {p:Nat} (h:p<18446744073709551616):IntKind.u64.wrap (p:Int)=(p:Int):=by
 simp [IntKind.wrap,IntKind.signed,IntKind.bits]
 omega
theorem Kr (m x:Nat) (hm:m≤62) (hx:x<18446744073709551616):bitsV .and .u64 (x:Int) (((2 ^ m-1:Nat)):Int)=((x%2 ^ m:Nat):Int):=by
 show IntKind.u64.wrap ((((BitVec.ofInt 64 (x:Int)) &&& (BitVec.ofInt 64 (((2 ^ m-1:Nat)):Int))).toNat:Nat):Int)=_
 have h1:2 ^ m≤2 ^ 62:=Nat.pow_le_pow_right (by decide) hm
 have h2:0<2 ^ m:=Nat.two_pow_pos m
 rw [BitVec.toNat_and,Qk,Qk,Qn,Qn,ZC (show x<2 ^ 64 by omega),ZC (show 2 ^ m-1<2 ^ 64 by omega),Nat.and_two_pow_sub_one_eq_mod]
 exact iM (by have:=Qa x h2;omega)
theorem Km (m x:Nat) (hm:m≤64) (hx:x*2 ^ m<18446744073709551616):shlV .u64 (x:Int) (m:Int)=((x*2 ^ m:Nat):Int):=by
 show IntKind.u64.wrap ((x:Int)*2 ^ (min (m:Int).toNat 64))=_
 rw [ZX,Nat.min_eq_left hm,show (x:Int)*(2:Int) ^ m=((x*2 ^ m:Nat):Int) by rw [Int.natCast_mul,Int.natCast_pow];rfl]
 exact iM hx
section
variable {N:Nat} {av bor:List Nat} {w0:World} {st:St} {ty:TypeId} {x y:Operand} {E:Env} {loc:List Xl} {X:World→Prop} {ops:Array Oper} {kk k:St→Prop} {pos:String} {af:Array Edge} {g:Option (Nat×Bool)} {rest:List Oper} {bb want:Bool} {n:Nat} {t t2:TypeId} {d:Option Tmp}
theorem rl {k':IntKind} (m r:Nat) {p:Nat} (hx:ev E x=some (.int .u64 (p:Nat)):=by rfl) (hy:ev E y=some (.int k' (m:Int)):=by rfl) (hm:m≤64∧p/2 ^ m=r) (hg:gdB ops E g=some (bb,want):=by rfl) (hbb:bb=want:=by exact aw) (hd:Nat.blt n N=true:=by rfl) (h:Sw prog N av bor w0 ops rest ⟨(n,.int .u64 (r:Nat))::E,loc,X⟩ k) :
  Sw prog N av bor w0 ops (⟨some n,.binOp .shr t x y t2,ty,pos,af,g⟩::rest) ⟨E,loc,X⟩ k:=rm hx hy aa hg hbb hd (by rw [Kk m p hm.1,hm.2];exact h)
theorem rt (m r:Nat) {p:Nat} (hx:ev E x=some (.int .u64 (p:Nat)):=by rfl) (hy:ev E y=some (.int .u64 ((2 ^ m-1:Nat):Int)):=by rfl) (hm:m≤62∧p<18446744073709551616∧p%2 ^ m=r) (hg:gdB ops E g=some (bb,want):=by rfl) (hbb:bb=want:=by exact aw) (hd:Nat.blt n N=true:=by rfl) (h:Sw prog N av bor w0 ops rest ⟨(n,.int .u64 (r:Nat))::E,loc,X⟩ k) :
  Sw prog N av bor w0 ops (⟨some n,.binOp .and t x y t2,ty,pos,af,g⟩::rest) ⟨E,loc,X⟩ k:=al (pT hx hy) hg hbb hd (by rw [Kr m p hm.1 hm.2.1,hm.2.2];exact h)
theorem GH {k':IntKind} (m r:Nat) {p:Nat} (hx:ev E x=some (.int .u64 (p:Nat)):=by rfl) (hy:ev E y=some (.int k' (m:Int)):=by rfl) (hm:m≤64∧p*2 ^ m<18446744073709551616∧p*2 ^ m=r) (hg:gdB ops E g=some (bb,want):=by rfl) (hbb:bb=want:=by exact aw) (hd:Nat.blt n N=true:=by rfl) (h:Sw prog N av bor w0 ops rest ⟨(n,.int .u64 (r:Nat))::E,loc,X⟩ k) :
  Sw prog N av bor w0 ops (⟨some n,.binOp .shl t x y t2,ty,pos,af,g⟩::rest) ⟨E,loc,X⟩ k:=C5 hx hy aa hg hbb hd (by rw [Km m p hm.1 hm.2.1,hm.2.2];exact h)
theorem xL [hI:Xs prog t .u64] {p q:Nat} (h:Sw prog N av bor w0 ops rest ⟨(n,.int .u64 ((p*q:Nat):Int))::E,loc,X⟩ k) (hx:ev E x=some (.int .u64 (p:Nat)):=by rfl) (hy:ev E y=some (.int .u64 (q:Nat)):=by rfl) (hq:p*q<18446744073709551616) (hg:gdB ops E g=some (bb,want):=by rfl) (hbb:bb=want:=by exact aw) (hd:Nat.blt n N=true:=by rfl) :
  Sw prog N av bor w0 ops (⟨some n,.binOp .mul t x y t2,ty,pos,af,g⟩::rest) ⟨E,loc,X⟩ k:=gm (c:=((p*q:Nat):Int)) hx hy (by rw [←Int.natCast_mul];exact iM hq) hg hbb hd h
theorem xO [hI:Xs prog t .u64] {p q:Nat} (h:Sw prog N av bor w0 ops rest ⟨(n,.int .u64 ((p+q:Nat):Int))::E,loc,X⟩ k) (hx:ev E x=some (.int .u64 (p:Nat)):=by rfl) (hy:ev E y=some (.int .u64 (q:Nat)):=by rfl) (hq:p+q<18446744073709551616) (hg:gdB ops E g=some (bb,want):=by rfl) (hbb:bb=want:=by exact aw) (hd:Nat.blt n N=true:=by rfl) :
  Sw prog N av bor w0 ops (⟨some n,.binOp .add t x y t2,ty,pos,af,g⟩::rest) ⟨E,loc,X⟩ k:=ef (c:=((p+q:Nat):Int)) hx hy (by rw [←Int.natCast_add];exact iM hq) hg hbb hd h
end
theorem JB {P:Program} {fn:Func} {N t u r:Nat} {s:St} {v x y:Value} (hr:fn.results=#[.tmp t,.tmp u,.tmp r]) (h:Sy.look s.env t=some v) (h':Sy.look s.env u=some x) (h2:Sy.look s.env r=some y):Res1 P fn N s (.tuple #[v,x,y]):=fun av bor w0 a w ok=>by
 have h3:=ok.env t v h
 have h4:=ok.env u x h'
 have h5:=ok.env r y h2
 simp [results,hr,h3,h4,h5]
theorem k7 (a m:Nat) (hm:0<m) (hm2:m<4611686018427387904):Pu prog 279 #[.int .i64 (a:Int),.int .i64 (m:Int)] (fun _=>True) (.int .i64 ((a%m:Nat):Int)):=by
 refine ax func279 ntmps279 fun av bor w0=>?_
 have hr:Eqq ((a:Int).tmod (m:Int)) ((a%m:Nat):Int):=lP a m
 repeat' (first|refine fw (hb:=by omega) (hc:=hr) ?_|refine gs ?_|(refine gp ?_ ?_<;>intro hx_ this)|fail)
 · exfalso;omega
 · apply ab;apply ag;rfl;rfl
   rfl
theorem ug (a b x1 x0 y1 y0:Nat) (ha:a<2305843009213693952) (hb:b<2305843009213693952) (h1:a/2 ^ 31=x1) (h0:a%2 ^ 31=x0) (g1:b/2 ^ 31=y1) (g0:b%2 ^ 31=y0) (hm:x1*y1<1152921504606846976) (hp:x1*y0<4611686018427387904) (hq:x0*y1<4611686018427387904) (hr:x0*y0<4611686018427387904) :
  Pu prog 278 #[.int .i64 (a:Int),.int .i64 (b:Int)] (fun _=>True) (.tuple #[.int .u64 ((x1*y1:Nat):Int),.int .u64 ((x1*y0+x0*y1:Nat):Int),.int .u64 ((x0*y0:Nat):Int)]):=by
 refine ax func278 ntmps278 fun av bor w0=>?_
 repeat' (first|refine SrG.sy_toU_g (hq:=by omega) (h:=?_)|refine rl 31 x1 (hm:=by omega) (h:=?_)|refine rl 31 y1 (hm:=by omega) (h:=?_)|refine rt 31 x0 (hm:=by omega) (h:=?_)|refine rt 31 y0 (hm:=by omega) (h:=?_)|refine xL (hq:=by omega) ?_|refine xO (hq:=by omega) ?_|refine gs ?_|fail)
 exact ab (JB rfl rfl rfl rfl) rfl
theorem mulR {x y x1 x0 y1 y0:Nat} (h1:x/2 ^ 31=x1) (h0:x%2 ^ 31=x0) (g1:y/2 ^ 31=y1) (g0:y%2 ^ 31=y0) :
  x*y%2305843009213693951=(2*(x1*y1)+(x1*y0+x0*y1)/2 ^ 30+(x1*y0+x0*y1)%2 ^ 30*2 ^ 31+x0*y0)%2305843009213693951:=by
 have hx:x=x1*2147483648+x0:=by omega
 have hy:y=y1*2147483648+y0:=by omega
 have e:x*y=x1*y1*4611686018427387904+(x1*y0+x0*y1)*2147483648+x0*y0:=by
  rw [hx,hy,QD,Nat.mul_add,Nat.mul_add,Nat.mul_mul_mul_comm,Nat.mul_right_comm x1 _ y0,←Nat.mul_assoc x0,QD (x1*y0)]
  omega
 rw [e]
 generalize x1*y1=H
 generalize x1*y0+x0*y1=M
 generalize x0*y0=L
 have:H*4611686018427387904+M*2147483648+L=(2*H+M/2 ^ 30+M%2 ^ 30*2 ^ 31+L)+2305843009213693951*(2*H+M/2 ^ 30):=by omega
 rw [this,Nat.add_mul_mod_self_left]
theorem kZ (a b:Nat):Pu prog 236 #[.int .i64 (a:Int),.int .i64 (b:Int)] (fun _=>True) (.int .i64 ((a*b%2305843009213693951:Nat):Int)):=by
 refine ax func236 ntmps236 fun av bor w0=>?_
 have c1:=k7 a 2305843009213693951 (by decide) (by decide)
 have c2:=k7 b 2305843009213693951 (by decide) (by decide)
 have hx:=Qa a (show 0<2305843009213693951 by decide)
 have hy:=Qa b (show 0<2305843009213693951 by decide)
 have hab:a*b%2305843009213693951=(a%2305843009213693951)*(b%2305843009213693951)%2305843009213693951:=Nat.mul_mod a b _
 rw [hab]
 generalize a%2305843009213693951=x at *
 generalize b%2305843009213693951=y at *
 obtain ⟨x1,h1⟩:∃ x1,x/2 ^ 31=x1:=⟨_,rfl⟩
 obtain ⟨x0,h0⟩:∃ x0,x%2 ^ 31=x0:=⟨_,rfl⟩
 obtain ⟨y1,g1⟩:∃ y1,y/2 ^ 31=y1:=⟨_,rfl⟩
 obtain ⟨y0,g0⟩:∃ y0,y%2 ^ 31=y0:=⟨_,rfl⟩
 have b1:x1≤1073741823:=by omega
 have b0:x0≤2147483647:=by omega
 have d1:y1≤1073741823:=by omega
 have d0:y0≤2147483647:=by omega
 have m1:x1*y1≤1073741823*1073741823:=Nat.mul_le_mul b1 d1
 have m2:x1*y0≤1073741823*2147483647:=Nat.mul_le_mul b1 d0
 have m3:x0*y1≤2147483647*1073741823:=Nat.mul_le_mul b0 d1
 have m4:x0*y0≤2147483647*2147483647:=Nat.mul_le_mul b0 d0
 have c3:=ug x y x1 x0 y1 y0 aa aa h1 h0 g1 g0 aa aa aa aa
 rw [mulR h1 h0 g1 g0]
 generalize x1*y1=H at *
 generalize hM:x1*y0+x0*y1=M at *
 have hM2:M≤1073741823*2147483647+2147483647*1073741823:=by omega
 generalize x0*y0=L at *
 obtain ⟨p,hp⟩:∃ p,M/2 ^ 30=p:=⟨_,rfl⟩
 obtain ⟨q,hq⟩:∃ q,M%2 ^ 30=q:=⟨_,rfl⟩
 obtain ⟨r,hr⟩:∃ r,q*2 ^ 31=r:=⟨_,rfl⟩
 rw [hp,hq,hr]
 have hrm:Eqq (((2*H+p+r+L:Nat):Int).tmod 2305843009213693951) (((2*H+p+r+L)%2305843009213693951:Nat):Int):=lP (2*H+p+r+L) 2305843009213693951
 have hz:=Qa (2*H+p+r+L) (show 0<2305843009213693951 by decide)
 repeat' (first|refine SrG.sy_toI_g (hq:=by omega) (h:=?_)|refine rl 30 p (hm:=by omega) (h:=?_)|refine rt 30 q (hm:=by omega) (h:=?_)|refine GH 31 r (hm:=by omega) (h:=?_)|refine xL (p:=2) (hq:=by omega) ?_|refine xO (hq:=by omega) ?_|refine fw (hb:=by decide) (hc:=hrm) ?_|(refine ae (hc:=c1) ?_)|(refine ae (hc:=c2) ?_)|(refine ae (hc:=c3) ?_)|refine gs ?_|fail)
 apply ab;apply ag;rfl;rfl
 rfl
end Rf4
namespace Rf4
theorem quo2 (a:Nat) (ha:a<9223372036854775808):IntKind.i64.wrap ((a:Int).tdiv 2)=((a/2:Nat):Int):=by
 rw [show (2:Int)=((2:Nat):Int) from rfl,Qo aa,←Int.natCast_ediv]
 exact IntWalk.i64_in _ aa
structure ExS (a e:Nat) where
 x:Nat
 b:Nat
 f:Nat
 hx:x<2305843009213693951
 hf:f≤e
 inv:x*b ^ f%2305843009213693951=a ^ e%2305843009213693951
theorem DK (b h M:Nat):(b*b%M) ^ h%M=b ^ (h+h)%M:=by
 rw [←Nat.pow_mod,Nat.mul_pow,←Nat.pow_add]
theorem HN {x b f M:Nat} (h:f%2=1):(x*b%M)*(b*b%M) ^ (f/2)%M=x*b ^ f%M:=by
 have hf:f=1+(f/2+f/2):=by omega
 conv=>rhs;rw [hf,Nat.pow_add,Nat.pow_one,←Nat.mul_assoc]
 rw [Nat.mul_mod (x*b%M),Nat.mod_mod,DK,←Nat.mul_mod]
theorem EU {x b f M:Nat} (h:¬ f%2=1):x*(b*b%M) ^ (f/2)%M=x*b ^ f%M:=by
 have hf:f=f/2+f/2:=by omega
 conv=>rhs;rw [hf]
 rw [Nat.mul_mod,DK,←Nat.mul_mod]
theorem AF (a e:Nat) (he:e<9223372036854775808):Pu prog 237 #[.int .i64 (a:Int),.int .i64 (e:Int)] (fun _=>True) (.int .i64 ((a ^ e%2305843009213693951:Nat):Int)):=by
 refine ax func237 ntmps237 fun av bor w0=>?_
 have c1:=k7 a 2305843009213693951 (by decide) (by decide)
 repeat' (first|(refine ae (hc:=c1) ?_)|refine gs ?_|(refine gp ?_ ?_<;>intro hx_ this)|fail)
 · exfalso;omega
 · refine aq (ι:=ExS a e) (fun i=>⟨[(1,.int .i64 (i.f:Nat)),(5,.int .i64 (i.x:Nat)),(6,.int .i64 (i.b:Nat))],[],fun _=>True⟩) (fun i=>i.f) ⟨1,a%2305843009213693951,e,by decide,ZV _,by rw [Nat.one_mul,←Nat.pow_mod]⟩ (ai am (Zt _) fun _ h=>h) fun i=>?_
   obtain ⟨x,b,f,hx,hf,inv⟩:=i
   simp only
   have hm1:=kZ x b
   have hm2:=kZ b b
   have hr:Eqq ((f:Int).tmod 2) ((f%2:Nat):Int):=lP f 2
   have hq:Eqq (IntKind.i64.wrap ((f:Int).tdiv 2)) ((f/2:Nat):Int):=quo2 f aa
   repeat' (first|refine fw (hb:=by decide) (hc:=hr) ?_|refine nN (hb:=by decide) (hc:=hq) ?_|(refine ae (hc:=hm1) ?_)|(refine ae (hc:=hm2) ?_)|refine gs ?_|(refine gp ?_ ?_<;>intro hx_ this)|fail)
   · have hc:f%2=1:=by
      have:=bA hx_
      omega
     exact ⟨(⟨x*b%2305843009213693951,b*b%2305843009213693951,f/2,Qa _ (by decide),by omega,(HN hc).trans inv⟩:ExS a e),(by show f/2<f;omega),ai am (Zt _) fun _ h=>h⟩
   · have hc:¬ f%2=1:=by
      have:=cw hx_
      omega
     exact ⟨(⟨x,b*b%2305843009213693951,f/2,hx,by omega,(EU hc).trans inv⟩:ExS a e),(by show f/2<f;omega),ai am (Zt _) fun _ h=>h⟩
   · have hk:f=0:=by omega
     apply ab;apply ag;rfl;rfl
     rw [←inv,hk,Nat.pow_zero,Nat.mul_one,ZC hx]
end Rf4
namespace Rf4
theorem j9:∀ f x:Nat,x<2 ^ f→x<2 ^ Lib.bitLenAux f x
 | 0,x,h=>h
 | f+1,x,h=>by
  rw [Lib.bitLenAux]
  split
  · rename_i h0
    rw [h0]
    decide
  · have h1:=j9 f (x/2) (by rw [Nat.pow_succ] at h;omega)
    rw [Nat.pow_add]
    omega
theorem u7 (a e:Nat):∀ i,(expF a e i).1=a ^ (e%2 ^ i)%2305843009213693951∧(expF a e i).2=a ^ 2 ^ i%2305843009213693951
 | 0=>by
  refine ⟨?_,?_⟩
  · show 1=_
    rw [Nat.pow_zero,Nat.mod_one,Nat.pow_zero]
  · show a%_=_
    rw [Nat.pow_zero,Nat.pow_one]
 | i+1=>by
  obtain ⟨h1,h2⟩:=u7 a e i
  refine ⟨?_,?_⟩
  · show (bif decide (e/2 ^ i%2=1) then (expF a e i).1*(expF a e i).2%2305843009213693951 else (expF a e i).1)=_
    rw [Nat.mod_pow_succ,h1,h2]
    by_cases h:e/2 ^ i%2=1
    · rw [Ze h,Zg,h,Nat.mul_one,Nat.pow_add,←Nat.mul_mod]
    · have h0:e/2 ^ i%2=0:=by omega
      rw [Zd h,Zf,h0,Nat.mul_zero,ZR]
  · show (expF a e i).2*(expF a e i).2%2305843009213693951=_
    rw [h2,←Nat.mul_mod,←Nat.pow_add,Nat.pow_succ,Nat.mul_two]
theorem Fb (a e:Nat) (he:e<9223372036854775808):expV a e=a ^ e%2305843009213693951:=by
 have h:e<2 ^ Lib.bitLen e:=j9 64 e aa
 rw [expV,(u7 a e _).1,ZC h]
theorem og (a e:Nat) (he:e<9223372036854775808):Pu prog 237 #[.int .i64 (a:Int),.int .i64 (e:Int)] (fun _=>True) (.int .i64 (expV a e:Nat)):=by
 rw [Fb a e he]
 exact AF a e he
def numS (s:ByteArray) (k:Nat):Nat:=bif decide (k=8) then numN (nl s) else numF (nl s) k
theorem rU {s:ByteArray} {k:Nat} (h:k<8):numS s k=numF (nl s) k:=by rw [numS,Zd aa,Zf]
theorem kL {n:Nat} (h:n<9223372036854775808):IntKind.i64.wrap (n:Int)=(n:Int):=IntWalk.i64_in _ aa
theorem stepA {s:ByteArray} {k:Nat} (h:k<7) {b:Int} (hb:b=(((nl s).getD k 0:Nat):Int)):IntKind.i64.wrap (IntKind.i64.wrap (256*((numS s k:Nat):Int))+b)=((numS s (k+1):Nat):Int):=by
 have h1:=numF7 s (show k<8 by omega)
 have h2:=numF7 s (show k+1<8 by omega)
 rw [rU aa,rU aa,hb]
 rw [numF] at h2 ⊢
 generalize numF (nl s) k=x at *
 generalize (nl s).getD k 0=y at *
 rw [show (256:Int)*(x:Int)=((256*x:Nat):Int) by omega,kL aa,←Int.natCast_add,kL (by omega)]
 omega
theorem stepB {s:ByteArray} {b:Int} (hb:b=(((nl s).getD 7 0:Nat):Int)):IntKind.i64.wrap (IntKind.i64.wrap (32*((numS s 7:Nat):Int))+IntKind.i64.wrap (b.tdiv 8))=((numS s 8:Nat):Int):=by
 have h1:=numF7 s (show 7<8 by omega)
 have h2:=fZ (j5 s) 7
 have e8:numS s 8=(numF (nl s) 7*256+(nl s).getD 7 0)/8:=rfl
 rw [e8,rU aa,hb]
 generalize numF (nl s) 7=x at *
 generalize (nl s).getD 7 0=y at *
 rw [show (32:Int)*(x:Int)=((32*x:Nat):Int) by omega,kL aa,show ((y:Int)).tdiv 8=((y/8:Nat):Int) by rw [Qo (by omega)];omega,kL aa,←Int.natCast_add,kL (by omega)]
 omega
theorem byteIn {s:ByteArray} {k:Nat} (h:k<s.size):IntKind.i64.wrap (byteAt s (k:Int).toNat)=(((nl s).getD k 0:Nat):Int):=by
 have h2:=fZ (j5 s) k
 rw [show ((k:Int)).toNat=k from rfl,su s _ h,kL (by omega)]
theorem byteOut {s:ByteArray} {k:Nat} (h:s.size≤k):(0:Int)=(((nl s).getD k 0:Nat):Int):=by
 rw [Zp,List.getElem?_eq_none (by rw [dj];exact h),Option.getD_none]
 rfl
theorem ui (s:ByteArray):Pu prog 277 #[.string s] (fun _=>True) (.int .i64 (numN (nl s):Nat)):=by
 refine ax func277 ntmps277 fun av bor w0=>?_
 repeat' (first|refine gs ?_|fail)
 refine aq (ι:=Kth 8) (fun i=>⟨[(0,.string s),(3,.int .i64 ((numS s i.k:Nat):Int)),(4,.int .i64 i.k)],[],fun _=>True⟩) (fun i=>8-i.k) ⟨0,Z2 _⟩ (ai am (ak _) fun _ h=>h) fun i=>?_
 have hik:=i.hk
 repeat' (first|refine nN (hb:=by decide) (hc:=rfl) ?_|refine gs ?_|(refine gp ?_ ?_<;>intro hx_ this)|fail)
 · exact ⟨⟨i.k+1,by omega⟩,(by show 8-(i.k+1)<8-i.k;omega),ai ⟨rfl,congrArg (fun z=>some (Value.int IntKind.i64 z)) (stepA aa (byteIn aa)),rfl,trivial⟩ (ak _) fun _ h=>h⟩
 · have e7:i.k=7:=by omega
   obtain ⟨k,hk⟩:=i
   simp only at e7
   subst e7
   have hE:=@stepB s _ (byteIn (k:=7) aa)
   exact ⟨⟨8,by omega⟩,(by show 8-8<8-7;omega),ai ⟨rfl,congrArg (fun z=>some (Value.int IntKind.i64 z)) hE,rfl,trivial⟩ (ak _) fun _ h=>h⟩
 · exact ⟨⟨i.k+1,by omega⟩,(by show 8-(i.k+1)<8-i.k;omega),ai ⟨rfl,congrArg (fun z=>some (Value.int IntKind.i64 z)) (stepA aa (byteOut aa)),rfl,trivial⟩ (ak _) fun _ h=>h⟩
 · have e7:i.k=7:=by omega
   obtain ⟨k,hk⟩:=i
   simp only at e7
   subst e7
   have hE:=@stepB s _ (byteOut (k:=7) aa)
   exact ⟨⟨8,by omega⟩,(by show 8-8<8-7;omega),ai ⟨rfl,congrArg (fun z=>some (Value.int IntKind.i64 z)) hE,rfl,trivial⟩ (ak _) fun _ h=>h⟩
 · have h8:i.k=8:=by omega
   apply ab;apply ag;rfl;rfl
   rw [h8]
   rfl
end Rf4
namespace Rf4
theorem v8 (s:ByteArray) (hs:s.size≤1099511627776):Pu prog 235 #[.string s] (fun _=>True) (.int .i64 (numN (nl (shaV s)):Nat)):=by
 refine ax func235 ntmps235 fun av bor w0=>?_
 repeat' (first|refine ae (hc:=qp _ hs) ?_|refine ae (hc:=ui _) ?_|refine gs ?_|fail)
 exact ab (ag rfl rfl) rfl
theorem wd (r p:Nat) (msg:ByteArray) (hr:r<9223372036854775808) (hp:p<9223372036854775808) (hm:msg.size≤1000000000000) :
  Pu prog 151 #[.int .i64 (r:Int),.int .i64 (p:Int),.string msg] (fun _=>True) (.int .i64 (chalN r p msg:Nat)):=by
 refine ax func151 ntmps151 fun av bor w0=>?_
 have h1:=aC ⟨#[115,105,103,110]⟩
 have h2:=ar (r:Int)
 have h3:=ar (p:Int)
 have h4:=aC msg
 have h5:(⟨#[115,105,103,110]⟩:ByteArray).size=4:=rfl
 have ec:catB (chalP r p msg)=textV ⟨#[115,105,103,110]⟩++numV (r:Int)++numV (p:Int)++textV msg:=by
  show textV ⟨#[115,105,103,110]⟩++(numV (r:Int)++(numV (p:Int)++(textV msg++ByteArray.empty)))=_
  rw [Qh,Zx,Zx]
 have hsz:(catB (chalP r p msg)).size≤1099511627776:=by
  rw [ec]
  simp only [Zb]
  omega
 have ch:=v8 (catB (chalP r p msg)) hsz
 have c1:=cU ⟨#[115,105,103,110]⟩ (by decide)
 rw [ec] at ch
 have hrm:Eqq (((numN (nl (shaV (textV ⟨#[115,105,103,110]⟩++numV (r:Int)++numV (p:Int)++textV msg))):Nat):Int).tmod 2305843009213693950) ((chalN r p msg:Nat):Int):=by
  rw [chalN,hashN,ec]
  exact lP _ 2305843009213693950
 repeat' (first|refine nP (hb:=by ((try simp only [Zb]);omega)) ?_|refine fw (hb:=by decide) (hc:=hrm) ?_|(refine ae (hc:=c1) ?_)|refine ae (hc:=cU _ aa) ?_|refine ae (hc:=cq _ aa) ?_|(refine ae (hc:=ch) ?_)|refine gs ?_|fail)
 all_goals first
  | exact ab (ag rfl rfl) rfl
section
variable {P:Program} {N:Nat} {av bor:List Nat} {w0:World} {st:St} {ty:TypeId} {x y:Operand} {t t2:TypeId}
theorem y_subM [hI:Xs P t .i64] {p q:Nat} (hx:ev st.env x=some (.int .i64 (p:Nat))) (hy:ev st.env y=some (.int .i64 (q:Nat))) (hq:q≤p∧p<9223372036854775808):Sy.Yields P N av bor w0 st (.binOp .sub t x y t2) ty (.int .i64 ((p-q:Nat):Int)) :=
 mO hx hy (by rw [show (p:Int)-(q:Int)=((p-q:Nat):Int) by omega];exact IntWalk.i64_in _ aa)
end
theorem rN (p e s:Nat) (he:e≤2305843009213693950) (hs:s≤2305843009213693950) :
  Pu prog 152 #[.int .i64 (p:Int),Eo.v ⟨(e:Int),(s:Int)⟩] (fun _=>True) (.int .i64 ((expV 37 s*expV p (2305843009213693950-e)%2305843009213693951:Nat):Int)):=by
 refine ax func152 ntmps152 fun av bor w0=>?_
 have c1:=og 37 s aa
 have c2:=og p (2305843009213693950-e) aa
 have c3:=kZ (expV 37 s) (expV p (2305843009213693950-e))
 repeat' (first|refine gs ?_|refine gs1 fun _=>?_|fail)
 (refine bc ⟨[0,1,3,4,5,6],[(2,⟨[],[(7,⟨[],[(8,⟨[9],[]⟩)]⟩)]⟩)]⟩ (h:=?_))
 all_goals repeat' (first|refine ay (hy:=by (apply y_subM (p:=2305843009213693950);rfl;rfl;omega)) ?_|(refine ae (hc:=c1) ?_)|(refine ae (hc:=c2) ?_)|(refine ae (hc:=c3) ?_)|refine gd ?_|refine az ?_ (h':=?_)|exact aA|fail)
 all_goals
  repeat' (first|refine gs ?_|fail)
  exact ab (ag rfl rfl) rfl
def ranB (p e s:Int):Bool:=!(decide (p<1)||decide (2305843009213693951≤p)||!ordV e||!ordV s)
theorem wj {p e s:Int}:ranB p e s=(decide (1≤p)&&(decide (p<2305843009213693951)&&(decide (0≤e)&&(decide (e<2305843009213693950)&&(decide (0≤s)&&decide (s<2305843009213693950)))))):=by
 rw [ranB,ordV,ordV]
 have e1:decide (p<1)=!decide (1≤p):=by by_cases h:1≤p<;>simp [h]<;>omega
 have e2:decide (2305843009213693951≤p)=!decide (p<2305843009213693951):=by by_cases h:p<2305843009213693951<;>simp [h]<;>omega
 rw [e1,e2]
 cases decide (1≤p)<;>cases decide (p<2305843009213693951)<;>cases decide (0≤e)<;>cases decide (e<2305843009213693950)<;>cases decide (0≤s)<;>cases decide (s<2305843009213693950)<;>rfl
theorem rJ (p e s:Int):Pu prog 150 #[.int .i64 p,Eo.v ⟨e,s⟩] (fun _=>True) (.bool (ranB p e s)):=by
 refine ax func150 ntmps150 fun av bor w0=>?_
 rw [wj]
 repeat' (first|refine gs ?_|refine gs1 fun _=>?_|(refine gp ?_ ?_<;>intro hx_ this)|fail)
 all_goals refine ab (ag rfl rfl) ?_
 all_goals simp_all
 all_goals (intros;omega)
theorem refVerify_pu (p:Int) (msg:ByteArray) (e s:Int) (hm:msg.size≤1000000000000):Pu prog 87 #[.int .i64 p,.string msg,Eo.v ⟨e,s⟩] (fun _=>True) (.bool (verN p msg e s)):=by
 refine ax func87 ntmps87 fun av bor w0=>?_
 have hrg:=rJ p e s
 cases hbad:(decide (p<1)||decide (2305843009213693951≤p)||!ordV e||!ordV s) with
 | true =>
  rw [show ranB p e s=false from by rw [ranB,hbad];rfl] at hrg
  rw [show verN p msg e s=false from by rw [verN,hbad];rfl]
  repeat' (first|(refine ae (hc:=hrg) ?_)|refine gs ?_|refine gs1 fun _=>?_|fail)
  exact ab (ag rfl rfl) rfl
 | false =>
  have hb:=hbad
  simp only [Qj,Qb,Bool.not_eq_false'] at hb
  obtain ⟨⟨⟨h1,h2⟩,h3⟩,h4⟩:=hb
  simp only [ordV,Zq,Zv] at h3 h4
  rw [show ranB p e s=true from by rw [ranB,hbad];rfl] at hrg
  obtain ⟨pn,rfl⟩:∃ n:Nat,p=(n:Int):=⟨p.toNat,by omega⟩
  obtain ⟨en,rfl⟩:∃ n:Nat,e=(n:Int):=⟨e.toNat,by omega⟩
  obtain ⟨sn,rfl⟩:∃ n:Nat,s=(n:Int):=⟨s.toNat,by omega⟩
  have c1:=rN pn en sn aa aa
  obtain ⟨r,hr⟩:∃ r,expV 37 sn*expV pn (2305843009213693950-en)%2305843009213693951=r:=⟨_,rfl⟩
  have hrl:r<2305843009213693951:=by rw [←hr];exact Qa _ (by decide)
  have hV:verN (pn:Int) msg (en:Int) (sn:Int)=decide (((en:Nat):Int)=(chalN r pn msg:Nat)):=by
   rw [verN,hbad,Zf,ZX,ZX,ZX,hr]
  rw [hr] at c1
  rw [hV,show decide (((en:Nat):Int)=(chalN r pn msg:Nat))=decide (((chalN r pn msg:Nat):Int)=(en:Nat)) from by by_cases h:((en:Nat):Int)=(chalN r pn msg:Nat)<;>simp [h,eq_comm]]
  have c2:=wd r pn msg aa aa hm
  clear hbad hV hr
  generalize chalN r pn msg=cn at *
  repeat' (first|(refine ae (hc:=hrg) ?_)|refine gs ?_|refine gs1 fun _=>?_|fail)
  (refine bc ⟨[0,1,3,4,6,7],[(2,⟨[],[(5,⟨[8,9],[]⟩)]⟩)]⟩ (h:=?_))
  all_goals repeat' (first|(refine ae (hc:=c1) ?_)|(refine ae (hc:=c2) ?_)|refine gd ?_|refine az ?_ (h':=?_)|exact aA|fail)
  all_goals
   repeat' (first|refine gs ?_|fail)
   exact ab (ag rfl rfl) rfl
end Rf4
end Go.Proofs.YtaolfiikahlmkaaGreatDoor
namespace Go.Proofs.YtaolfiikahlmkaaGreatDoor
open Go Go.Proofs Sy Tryz
theorem vW (a:Xa):sameZ a=actZ a:=by
 rw [sameZ,actZ]
 simp only [Xa.zero,Zi]
 cases decide ((a.to.n:Int)=0)<;>cases decide ((a.wraps.n:Int)=0)<;>(simp [Bool.and_comm,Bool.and_left_comm,Bool.and_assoc];try rfl)
set_option maxRecDepth 20000 in
theorem wb (d:Xt):Pu prog 145 #[d.v,Xt.zero.v] (fun _=>True) (.bool (decZ d)):=by
 refine ax func145 ntmps145 fun av bor w0=>?_
 repeat' (first|refine gs ?_|refine gs1 fun _=>?_|(refine gp ?_ ?_<;>intro hx_ this)|fail)
 · refine ab (ag rfl rfl) ?_
   have h0:Xt.zero.to.n=0:=rfl
   rw [h0] at hx_
   simp_all [decZ]
 rename_i b1 b2
 have n1:d.to.n=0:=by
  have h0:Xt.zero.to.n=0:=rfl
  rw [h0] at hx_
  simpa using hx_
 refine aq (ι:=Unit) (fun _=>⟨[(2,.pointer (some ⟨b1,0,none⟩)),(3,.pointer (some ⟨b2,0,none⟩)),(5,.int .i64 0)],[cel b2 58 Xt.zero.cells,cel b1 58 d.cells],fun _=>True⟩) (fun _=>0) () (ai am (ak _) fun _ h=>h) fun _=>?_
 repeat' (first|refine gs ?_|(refine kP (a:=d.e) (b:=d.s) (c:=0) (e:=0) ?_)|(refine aE ?_)|(refine gp ?_ ?_<;>intro hx_ this)|fail)
 · exact absurd this (by rw [n1];decide)
 all_goals (
  refine ab (ag rfl rfl) ?_
  have q1:decide ((d.to.n:Int)=0)=true:=by rw [n1];rfl
  rw [decZ,q1]
  clear q1 n1
  first
   | rfl
   | (simp_all only [Zh,Zk,Zl,Zs,Zr,Zi];done)
   | (simp_all;done)
   | skip)
 all_goals simp_all [Xt.zero]
theorem BO:actZ Xa.zero=true:=by decide +kernel
theorem sj:claimEq Xg.zero Xg.zero=true:=by decide +kernel
theorem pP:ballotEq Xh.zero Xh.zero=true:=by decide +kernel
theorem BA:decZ Xt.zero=true:=by decide +kernel
set_option maxRecDepth 20000 in
theorem jT (i:Xc) (hs:i.Str):Pu prog 86 #[i.v] (fun w=>i.at_ w) (.bool (rightIt i)):=by
 refine ax func86 ntmps86 fun av bor w0=>?_
 have c1:=v6 i.act
 rw [vW] at c1
 have c2:=lQ i.act hs.act
 have c3:=wb i.dec
 have c4:=pJ i.claim hs.claim
 have c5:=ue i.ballot hs.ballot
 have c6:=pI i.dec hs.dec
 by_cases h0:i.kind=0
 · have e:rightIt i=(rightB i.act&&(claimEq i.claim Xg.zero&&(ballotEq i.ballot Xh.zero&&decZ i.dec))):=by simp [rightIt,rightK2,restI,sameIZ,h0,BO]
   rw [e]
   repeat' (first|refine aF ?_|(refine ae (hc:=c1) ?_)|(refine ae (hc:=c2) ?_)|(refine ae (hc:=c3) ?_)|refine gs ?_|refine gs1 fun _=>?_|(refine eY (a:=i.claim) (b:=Xg.zero) ?_)|(refine eH (a:=i.ballot) (b:=Xh.zero) ?_)|(refine aG (cs:=Xa.zero.cells) (hf:=by rfl) ?_)|(refine aG (cs:=Xg.zero.cells) (hf:=by rfl) ?_)|(refine aG (cs:=Xh.zero.cells) (hf:=by rfl) ?_)|(refine aG (cs:=Xt.zero.cells) (hf:=by rfl) ?_)|(refine aE (vs:=i.act.cells) (hv:=rfl) ?_)|(refine aE (vs:=i.claim.cells) (hv:=rfl) ?_)|(refine aE (vs:=i.ballot.cells) (hv:=rfl) ?_)|(refine aE (vs:=i.dec.cells) (hv:=rfl) ?_)|(refine gp ?_ ?_<;>intro hx_ this)|fail)
   all_goals first
    | exact ab (ag rfl rfl) rfl
    | (refine ab (ag rfl rfl) ?_;simp_all;done)
 by_cases h1:i.kind=1
 · have e:rightIt i=(claimR i.claim&&(actZ i.act&&(ballotEq i.ballot Xh.zero&&decZ i.dec))):=by simp [rightIt,rightK2,restI,sameIZ,h1,sj]
   rw [e]
   repeat' (first|refine aF ?_|refine aI ?_|(refine ae (hc:=c1) ?_)|(refine ae (hc:=c3) ?_)|(refine ae (hc:=c4) ?_)|refine gs ?_|refine gs1 fun _=>?_|(refine eY (a:=i.claim) (b:=Xg.zero) ?_)|(refine eH (a:=i.ballot) (b:=Xh.zero) ?_)|(refine aG (cs:=Xa.zero.cells) (hf:=by rfl) ?_)|(refine aG (cs:=Xg.zero.cells) (hf:=by rfl) ?_)|(refine aG (cs:=Xh.zero.cells) (hf:=by rfl) ?_)|(refine aG (cs:=Xt.zero.cells) (hf:=by rfl) ?_)|(refine aE (vs:=i.act.cells) (hv:=rfl) ?_)|(refine aE (vs:=i.claim.cells) (hv:=rfl) ?_)|(refine aE (vs:=i.ballot.cells) (hv:=rfl) ?_)|(refine aE (vs:=i.dec.cells) (hv:=rfl) ?_)|(refine gp ?_ ?_<;>intro hx_ this)|fail)
   all_goals first
    | exact ab (ag rfl rfl) rfl
    | (refine ab (ag rfl rfl) ?_;simp_all;done)
 by_cases h2:i.kind=2
 · have e:rightIt i=(ballotR i.ballot&&(actZ i.act&&(claimEq i.claim Xg.zero&&decZ i.dec))):=by simp [rightIt,rightK2,restI,sameIZ,h2,pP]
   rw [e]
   repeat' (first|refine aF ?_|refine aI ?_|(refine ae (hc:=c1) ?_)|(refine ae (hc:=c3) ?_)|(refine ae (hc:=c5) ?_)|refine gs ?_|refine gs1 fun _=>?_|(refine eY (a:=i.claim) (b:=Xg.zero) ?_)|(refine eH (a:=i.ballot) (b:=Xh.zero) ?_)|(refine aG (cs:=Xa.zero.cells) (hf:=by rfl) ?_)|(refine aG (cs:=Xg.zero.cells) (hf:=by rfl) ?_)|(refine aG (cs:=Xh.zero.cells) (hf:=by rfl) ?_)|(refine aG (cs:=Xt.zero.cells) (hf:=by rfl) ?_)|(refine aE (vs:=i.act.cells) (hv:=rfl) ?_)|(refine aE (vs:=i.claim.cells) (hv:=rfl) ?_)|(refine aE (vs:=i.ballot.cells) (hv:=rfl) ?_)|(refine aE (vs:=i.dec.cells) (hv:=rfl) ?_)|(refine gp ?_ ?_<;>intro hx_ this)|fail)
   all_goals first
    | exact ab (ag rfl rfl) rfl
    | (refine ab (ag rfl rfl) ?_;simp_all;done)
 by_cases h3:i.kind=3
 · have e:rightIt i=(decR i.dec&&(actZ i.act&&(claimEq i.claim Xg.zero&&ballotEq i.ballot Xh.zero))):=by simp [rightIt,rightK2,restI,sameIZ,h3,BA]
   rw [e]
   repeat' (first|refine aF ?_|refine aI ?_|(refine ae (hc:=c1) ?_)|(refine ae (hc:=c3) ?_)|(refine ae (hc:=c6) ?_)|refine gs ?_|refine gs1 fun _=>?_|(refine eY (a:=i.claim) (b:=Xg.zero) ?_)|(refine eH (a:=i.ballot) (b:=Xh.zero) ?_)|(refine aG (cs:=Xa.zero.cells) (hf:=by rfl) ?_)|(refine aG (cs:=Xg.zero.cells) (hf:=by rfl) ?_)|(refine aG (cs:=Xh.zero.cells) (hf:=by rfl) ?_)|(refine aG (cs:=Xt.zero.cells) (hf:=by rfl) ?_)|(refine aE (vs:=i.act.cells) (hv:=rfl) ?_)|(refine aE (vs:=i.claim.cells) (hv:=rfl) ?_)|(refine aE (vs:=i.ballot.cells) (hv:=rfl) ?_)|(refine aE (vs:=i.dec.cells) (hv:=rfl) ?_)|(refine gp ?_ ?_<;>intro hx_ this)|fail)
   all_goals first
    | exact ab (ag rfl rfl) rfl
    | (refine ab (ag rfl rfl) ?_;simp_all;done)
 have e:rightIt i=false:=by simp [rightIt,rightK2,h0,h1,h2,h3]
 rw [e]
 repeat' (first|refine aI ?_|(refine ae (hc:=c1) ?_)|(refine ae (hc:=c3) ?_)|refine gs ?_|refine gs1 fun _=>?_|(refine eY (a:=i.claim) (b:=Xg.zero) ?_)|(refine eH (a:=i.ballot) (b:=Xh.zero) ?_)|(refine aG (cs:=Xa.zero.cells) (hf:=by rfl) ?_)|(refine aG (cs:=Xg.zero.cells) (hf:=by rfl) ?_)|(refine aG (cs:=Xh.zero.cells) (hf:=by rfl) ?_)|(refine aG (cs:=Xt.zero.cells) (hf:=by rfl) ?_)|(refine aE (vs:=i.act.cells) (hv:=rfl) ?_)|(refine aE (vs:=i.claim.cells) (hv:=rfl) ?_)|(refine aE (vs:=i.ballot.cells) (hv:=rfl) ?_)|(refine aE (vs:=i.dec.cells) (hv:=rfl) ?_)|fail)
 all_goals first
  | exact ab (ag rfl rfl) rfl
  | (refine ab (ag rfl rfl) ?_;simp_all;done)
set_option maxRecDepth 20000 in
theorem rO (i:Xc) (hs:i.Str) (hdn:i.dec.to.n=i.dec.toL.length):Pu prog 90 #[i.v] (fun w=>i.at_ w) (.string (bytesIt i)):=by
 have hr:=hs.rng
 have c1:=jT i hs
 have hsz:=@iH i hr hdn
 have hnk:=ar i.kind
 cases hB:rightIt i with
 | false =>
  rw [hB] at c1
  rw [bytesIt,hB]
  refine ax func90 ntmps90 fun av bor w0=>?_
  repeat' (first|(refine ae (hc:=c1) ?_)|refine gs ?_|refine gs1 fun _=>?_|fail)
  exact ab (ag rfl rfl) rfl
 | true =>
 rw [hB] at c1
 have hsz:=hsz hB
 rw [bytesIt,hB,Zg]
 refine ax func90 ntmps90 fun av bor w0=>?_
 rcases da hB with ⟨hk,hR⟩|⟨hk,hR⟩|⟨hk,hR⟩|⟨hk,hR⟩
 · have c2:=oj i.act hs.act (df hr) ⟨hr.ints.2.2.2.2.2.2.2.1,hr.ints.2.2.2.2.2.2.2.2⟩
   have c3:=cq i.kind aa
   have hb:bodyIt i=actBytes i.act:=by rw [bodyIt,hk];rfl
   rw [hb] at hsz ⊢
   repeat' (first|refine aF ?_|(refine ae (hc:=c1) ?_)|(refine ae (hc:=c3) ?_)|(refine ae (hc:=c2) ?_)|refine gs ?_|refine gs1 fun _=>?_|(refine aE (vs:=i.act.cells) (hv:=rfl) ?_)|fail)
   refine aT ?_ (dl rfl rfl aa)
   repeat' (first|refine gs ?_|fail)
   all_goals exact ab (ag rfl rfl) rfl
 · obtain ⟨hl,hm⟩:=ja hR
   have c3:=cq i.kind aa
   have e1:=ga hm
   have e2:=dw i.claim.e i.claim.s
   have hb:bodyIt i=coreCl i.claim++numsV [i.claim.e,i.claim.s]:=by rw [bodyIt,hk];rfl
   rw [hb]
   repeat' (first|refine aF ?_|refine aI ?_|(refine ae (hc:=c1) ?_)|(refine ae (hc:=c3) ?_)|refine gs ?_|refine gs1 fun _=>?_|fail)
   (refine bc ⟨[0,1,2,5,6,7],[(3,⟨[4],[(8,⟨[9,10],[]⟩)]⟩)]⟩ (h:=?_))
   all_goals repeat' (first|refine ae (hc:=rM _ hl hm) ?_|refine ae (hc:=jp _ _ hl.e hl.s) ?_|refine gd ?_|refine ay (hy:=by first|(apply dl;rfl;rfl;(try simp only [Zb]);omega)|(apply cu (vs:=i.claim.cells);rfl;exact .head _;rfl;rfl)|(apply cu (vs:=[.int .i64 i.claim.e,.int .i64 i.claim.s]);rfl;exact .head _;rfl;rfl)) ?_|refine az ?_ (h':=?_)|exact aA|fail)
   all_goals
    repeat' (first|refine gs ?_|fail)
    refine ab (ag rfl rfl) ?_
    simp only [Zx]
 · obtain ⟨hl,hm⟩:=fX hR
   have c3:=cq i.kind aa
   have e1:=eM hm
   have e2:=dw i.ballot.e i.ballot.s
   have hb:bodyIt i=coreBa i.ballot++numsV [i.ballot.e,i.ballot.s]:=by rw [bodyIt,hk];rfl
   rw [hb]
   repeat' (first|refine aF ?_|refine aI ?_|(refine ae (hc:=c1) ?_)|(refine ae (hc:=c3) ?_)|refine gs ?_|refine gs1 fun _=>?_|fail)
   (refine bc ⟨[0,1,2,5,6,7],[(3,⟨[4],[(8,⟨[9,10],[]⟩)]⟩)]⟩ (h:=?_))
   all_goals repeat' (first|refine ae (hc:=jX _ hl hm) ?_|refine ae (hc:=jp _ _ hl.e hl.s) ?_|refine gd ?_|refine ay (hy:=by first|(apply dl;rfl;rfl;(try simp only [Zb]);omega)|(apply cu (vs:=i.ballot.cells);rfl;exact .head _;rfl;rfl)|(apply cu (vs:=[.int .i64 i.ballot.e,.int .i64 i.ballot.s]);rfl;exact .head _;rfl;rfl)) ?_|refine az ?_ (h':=?_)|exact aA|fail)
   all_goals
    repeat' (first|refine gs ?_|fail)
    refine ab (ag rfl rfl) ?_
    simp only [Zx]
 · obtain ⟨hl,hm⟩:=kr hdn hR
   have c3:=cq i.kind aa
   have e1:=eL hm
   have e2:=dw i.dec.e i.dec.s
   have c4:=jW i.dec hl hm
   have hb:bodyIt i=coreDe i.dec++numsV [i.dec.e,i.dec.s]:=by rw [bodyIt,hk];rfl
   rw [hb]
   repeat' (first|refine aI ?_|(refine ae (hc:=c1) ?_)|(refine ae (hc:=c3) ?_)|refine gs ?_|refine gs1 fun _=>?_|fail)
   (refine bc ⟨[0,1,2,5,6,7],[(3,⟨[4],[(8,⟨[9,10],[]⟩)]⟩)]⟩ (h:=?_))
   all_goals repeat' (first|(refine ae (hc:=c4) ?_)|refine ae (hc:=jp _ _ hl.e hl.s) ?_|refine gd ?_|refine ay (hy:=by first|(apply dl;rfl;rfl;(try simp only [Zb]);omega)|(apply cu (vs:=i.dec.cells);rfl;exact .head _;rfl;rfl)|(apply cu (vs:=[.int .i64 i.dec.e,.int .i64 i.dec.s]);rfl;exact .head _;rfl;rfl)) ?_|refine az ?_ (h':=?_)|exact aA|fail)
   all_goals
    repeat' (first|refine gs ?_|fail)
    refine ab (ag rfl rfl) ?_
    simp only [Zx]
theorem jg (i:Xc) (hs:i.Str) (hdn:i.dec.to.n=i.dec.toL.length):Pu prog 47 #[i.v] (fun w=>i.at_ w) (.string (digIt i)):=by
 have c1:=rO i hs hdn
 have hsz:=@kz i hs.rng hdn
 have c2:=qp (bytesIt i) aa
 rw [digIt]
 cases hB:seqB (bytesIt i) ⟨#[]⟩ with
 | true =>
  refine ax func47 ntmps47 fun av bor w0=>?_
  repeat' (first|(refine ae (hc:=c1) ?_)|refine gs ?_|refine gs1 fun _=>?_|fail)
  all_goals first
   | (rw [hB] at hx_;exact absurd hx_ (by decide))
   | (refine ab (ag rfl rfl) ?_;simp only [Zg,Zf];done)
 | false =>
  refine ax func47 ntmps47 fun av bor w0=>?_
  repeat' (first|(refine ae (hc:=c1) ?_)|(refine ae (hc:=c2) ?_)|refine gs ?_|refine gs1 fun _=>?_|fail)
  all_goals first
   | (rw [hB] at hx_;exact absurd hx_ (by decide))
   | (refine ab (ag rfl rfl) ?_;simp only [Zg,Zf];done)
theorem mu (x:Xh) (hl:x.Lt) (hs:x.Sm):Pu prog 88 #[x.v] (fun _=>True) (.string (msgB x)):=by
 refine ax func88 ntmps88 fun av bor w0=>?_
 have c1:=cU nameB (by decide)
 have c2:=jX x hl hs
 have h1:=eM hs
 have h2:=aC nameB
 have h3:nameB.size≤20:=by decide
 have e:msgB x=textV nameB++coreBa x:=by rw [msgB,cZ,du,Qh]
 rw [e]
 repeat' (first|refine gs ?_|refine gs1 fun _=>?_|fail)
 (refine bc ⟨[1],[(0,⟨[],[(2,⟨[3,4],[]⟩)]⟩)]⟩ (h:=?_))
 all_goals repeat' (first|(refine ae (hc:=c1) ?_)|(refine ae (hc:=c2) ?_)|refine gd ?_|refine ay (hy:=by (apply dl;rfl;rfl;(try simp only [Zb]);omega)) ?_|refine az ?_ (h':=?_)|exact aA|fail)
 all_goals
  repeat' (first|refine gs ?_|fail)
  exact ab (ag rfl rfl) rfl
theorem jU (x:Xt) (hl:x.Lt) (hs:x.Sm):Pu prog 89 #[x.v] (fun w=>x.at_ w) (.string (msgD x)):=by
 refine ax func89 ntmps89 fun av bor w0=>?_
 have c1:=cU nameD (by decide)
 have c2:=jW x hl hs
 have h1:=eL hs
 have h2:=aC nameD
 have h3:nameD.size≤20:=by decide
 have e:msgD x=textV nameD++coreDe x:=by rw [msgD,cZ,du,Qh]
 rw [e]
 repeat' (first|refine gs ?_|refine gs1 fun _=>?_|fail)
 (refine bc ⟨[1],[(0,⟨[],[(2,⟨[3,4],[]⟩)]⟩)]⟩ (h:=?_))
 all_goals repeat' (first|(refine ae (hc:=c1) ?_)|(refine ae (hc:=c2) ?_)|refine gd ?_|refine ay (hy:=by (apply dl;rfl;rfl;(try simp only [Zb]);omega)) ?_|refine az ?_ (h':=?_)|exact aA|fail)
 all_goals
  repeat' (first|refine gs ?_|fail)
  exact ab (ag rfl rfl) rfl
set_option maxRecDepth 20000 in
theorem rH (s:Xk) (L:List Int) (i:Xc) (hs:i.Str) (hdn:i.dec.to.n=i.dec.toL.length):Pu prog 46 #[s.v,i.v] (fun w=>Ints w s L∧i.at_ w) (.bool (signedIt L i)):=by
 refine ax func46 ntmps46 fun av bor w0=>?_
 refine aQ (p:=s.n=L.length∧s.n≤maxLen∧(0<L.length→s.p.isSome=true)) (fun w h=>⟨h.1.len_,ZW (Xf.cap h.1) (Xf.max h.1),h.1.some_⟩) fun ⟨hsn,hsm,hsp⟩=>?_
 simp only [maxLen] at hsm
 have hri:=jT i hs
 cases hrB:rightIt i with
 | false =>
  rw [hrB] at hri
  rw [show signedIt L i=false from by rw [signedIt,hrB];rfl]
  repeat' (first|(refine ae (hc:=hri) ?_)|refine gs ?_|refine gs1 fun _=>?_|fail)
  exact ab (ag rfl rfl) rfl
 | true =>
 rw [hrB] at hri
 have hk:=da hrB
 by_cases h2:i.kind=2
 · rcases hk with h|h|h|h
   all_goals first|(exfalso;omega)|skip
   have h1:=h.2
   clear h
   obtain ⟨hl,hz⟩:=fX h1
   have hlo:0≤i.ballot.server:=(ci (by have:=h1;simp only [ballotR,Zq] at this;exact this.1)).1
   have hms:=ix (nm:=nameB) (by decide) (ZW (eM hz) (by decide))
   have hsg:=fun p:Int=>Rf4.refVerify_pu p (msgB i.ballot) i.ballot.e i.ballot.s (ZW hms (by decide))
   have hcm:=mu i.ballot hl hz
   by_cases hlt:i.ballot.server<(L.length:Nat)
   · have hsp':=hsp aa
     have e:signedIt L i=sgnB (L.getD i.ballot.server.toNat 0) i.ballot:=by rw [signedIt,hrB,Ze h2,Zg,Ze hlt,Zh,Zh]
     rw [e]
     have hget:∀ w,Ints w s L∧i.at_ w→CellAt w s.p i.ballot.server.toNat (.int .i64 (L.getD i.ballot.server.toNat 0)):=fun w h=>Ints.get h.1 aa
     have hsg1:Pu prog 87 _ _ (.bool (sgnB (L.getD i.ballot.server.toNat 0) i.ballot)):=hsg (L.getD i.ballot.server.toNat 0)
     generalize L.getD i.ballot.server.toNat 0=pk at *
     repeat' (first|refine aF ?_|(refine ae (hc:=hri) ?_)|refine gs ?_|refine gs1 fun _=>?_|fail)
     rename_i b3
     (refine ap ⟨[0,1,2,3,4,5,6,7,8,9,10,11,12,13,14,16,17,18],[(15,⟨[],[(19,⟨[20,21],[]⟩)]⟩)]⟩ [cel b3 60 i.cells] (fun w=>Ints w s L∧i.at_ w) (h:=?_))
     all_goals repeat' (first|refine ay (hsub:=by exact aK) (hy:=by (apply bZ true;rfl;rfl;exact Ze aa)) ?_|(refine ae (hc:=hcm) ?_)|(refine ae (hc:=hsg1) ?_)|refine gdz ?_|refine ay (hsub:=by exact aK) (hy:=by first|(apply aB (q:=i.ballot.server.toNat);rfl;rfl;omega;omega;assumption;omega)|(apply dH (q:=i.ballot.server.toNat) (u:=.int .i64 pk);rfl;exact hget)|(apply cu (vs:=i.ballot.cells);rfl;exact .head _;rfl;rfl)|(apply cu (vs:=Eo.cells ⟨i.ballot.e,i.ballot.s⟩);rfl;exact .head _;rfl;rfl)) ?_|refine az ?_ (h':=?_)|exact aA|fail)
     all_goals
      repeat' (first|refine gs ?_|fail)
      exact ab (ag rfl rfl) rfl
   · have e:signedIt L i=false:=by rw [signedIt,hrB,Ze h2,Zg,Zd hlt];rfl
     rw [e]
     repeat' (first|refine aF ?_|(refine ae (hc:=hri) ?_)|refine gs ?_|refine gs1 fun _=>?_|fail)
     rename_i b3
     (refine ap ⟨[0,1,2,3,4,5,6,7,8,9,10,11,12,13,14,16,17,18],[(15,⟨[],[(19,⟨[20,21],[]⟩)]⟩)]⟩ [cel b3 60 i.cells] (fun w=>Ints w s L∧i.at_ w) (h:=?_))
     all_goals repeat' (first|refine ay (hsub:=by exact aK) (hy:=by (apply bZ false;rfl;rfl;exact Zd aa)) ?_|refine gdz ?_|refine az ?_ (h':=?_)|exact aA|fail)
     all_goals
      repeat' (first|refine gs ?_|fail)
      exact ab (ag rfl rfl) rfl
 by_cases h3:i.kind=3
 · rcases hk with h|h|h|h
   all_goals first|(exfalso;omega)|skip
   have h1:=h.2
   clear h
   obtain ⟨hl,hz⟩:=kr hdn h1
   have hlo:0≤i.dec.server:=(ci (by have:=h1;simp only [decR,Zq] at this;exact this.1)).1
   have hms:=ix (nm:=nameD) (by decide) (ZW (eL hz) (by decide))
   have hsg:=fun p:Int=>Rf4.refVerify_pu p (msgD i.dec) i.dec.e i.dec.s (ZW hms (by decide))
   have hcm:=jU i.dec hl hz
   by_cases hlt:i.dec.server<(L.length:Nat)
   · have hsp':=hsp aa
     have e:signedIt L i=sgnD (L.getD i.dec.server.toNat 0) i.dec:=by rw [signedIt,hrB,Zd h2,Zf,Ze h3,Zg,Ze hlt,Zh,Zh]
     rw [e]
     have hget:∀ w,Ints w s L∧i.at_ w→CellAt w s.p i.dec.server.toNat (.int .i64 (L.getD i.dec.server.toNat 0)):=fun w h=>Ints.get h.1 aa
     have hsg1:Pu prog 87 _ _ (.bool (sgnD (L.getD i.dec.server.toNat 0) i.dec)):=hsg (L.getD i.dec.server.toNat 0)
     generalize L.getD i.dec.server.toNat 0=pk at *
     repeat' (first|refine aF ?_|refine aI ?_|(refine ae (hc:=hri) ?_)|refine gs ?_|refine gs1 fun _=>?_|fail)
     rename_i b3
     (refine ap ⟨[0,1,2,3,4,5,6,7,8,9,10,11,12,13,14,16,17,18],[(15,⟨[],[(19,⟨[20,21],[]⟩)]⟩)]⟩ [cel b3 60 i.cells] (fun w=>Ints w s L∧i.at_ w) (h:=?_))
     all_goals repeat' (first|refine ay (hsub:=by exact aK) (hy:=by (apply bZ true;rfl;rfl;exact Ze aa)) ?_|(refine ae (hc:=hcm) (hX:=fun w h=>h.2.2) ?_)|(refine ae (hc:=hsg1) ?_)|refine gdz ?_|refine ay (hsub:=by exact aK) (hy:=by first|(apply aB (q:=i.dec.server.toNat);rfl;rfl;omega;omega;assumption;omega)|(apply dH (q:=i.dec.server.toNat) (u:=.int .i64 pk);rfl;exact hget)|(apply cu (vs:=i.dec.cells);rfl;exact .head _;rfl;rfl)|(apply cu (vs:=Eo.cells ⟨i.dec.e,i.dec.s⟩);rfl;exact .head _;rfl;rfl)) ?_|refine az ?_ (h':=?_)|exact aA|fail)
     all_goals
      repeat' (first|refine gs ?_|fail)
      exact ab (ag rfl rfl) rfl
   · have e:signedIt L i=false:=by rw [signedIt,hrB,Zd h2,Zf,Ze h3,Zg,Zd hlt];rfl
     rw [e]
     repeat' (first|refine aF ?_|refine aI ?_|(refine ae (hc:=hri) ?_)|refine gs ?_|refine gs1 fun _=>?_|fail)
     rename_i b3
     (refine ap ⟨[0,1,2,3,4,5,6,7,8,9,10,11,12,13,14,16,17,18],[(15,⟨[],[(19,⟨[20,21],[]⟩)]⟩)]⟩ [cel b3 60 i.cells] (fun w=>Ints w s L∧i.at_ w) (h:=?_))
     all_goals repeat' (first|refine ay (hsub:=by exact aK) (hy:=by (apply bZ false;rfl;rfl;exact Zd aa)) ?_|refine gdz ?_|refine az ?_ (h':=?_)|exact aA|fail)
     all_goals
      repeat' (first|refine gs ?_|fail)
      exact ab (ag rfl rfl) rfl
 have e:signedIt L i=true:=by rw [signedIt,hrB,Zd h2,Zd h3];rfl
 rw [e]
 repeat' (first|refine aI ?_|(refine ae (hc:=hri) ?_)|refine gs ?_|refine gs1 fun _=>?_|fail)
 exact ab (ag rfl rfl) rfl
def badSv (L:List Int) (k:Nat):Bool:=decide (L.getD k 0<1)||decide (2305843009213693950<L.getD k 0)
def badKn (L:List Int) (I:List Xc) (k:Nat):Bool:=!signedIt L (I.getD k Xc.zero)||(decide (0<k)&&!ltB (digIt (I.getD (k-1) Xc.zero)) (digIt (I.getD k Xc.zero)))
def rightKn (L:List Int) (I:List Xc):Bool:=decide (L.length≤20)&&(allB L.length (badSv L)&&allB I.length (badKn L I))
section
variable {P:Program} {N:Nat} {av bor:List Nat} {w0:World} {st:St} {ty:TypeId} {x y:Operand} {t t2:TypeId}
theorem FX {a b:ByteArray} (hx:ev st.env x=some (.string a)) (hy:ev st.env y=some (.string b)) (hab:ltB a b=false):Sy.Yields P N av bor w0 st (.binOp .geq t x y t2) ty (.bool true):=by
 have h:=vy (P:=P) (N:=N) (av:=av) (bor:=bor) (w0:=w0) (t:=t) (t2:=t2) (ty:=ty) hx hy
 rw [show Op.bytesLess a.toList b.toList=false from hab] at h
 exact h
end
set_option maxRecDepth 20000 in
theorem rK (ks ki:Xk) (L:List Int) (I:List Xc) (hs:∀ i∈I,i.Str) (hdn:∀ i∈I,i.dec.to.n=i.dec.toL.length) :
  Pu prog 10 #[.agg #[ks.v,ki.v]] (fun w=>Ints w ks L∧Items w ki I) (.bool (rightKn L I)):=by
 refine ax func10 ntmps10 fun av bor w0=>?_
 refine aQ (p:=(ks.n=L.length∧ks.n≤maxLen∧(0<L.length→ks.p.isSome=true))∧(ki.n=I.length∧ki.n≤maxLen∧(0<I.length→ki.p.isSome=true))) (fun w h=>⟨⟨h.1.len_,ZW (Xf.cap h.1) (Xf.max h.1),h.1.some_⟩,h.2.len_,h.2.max_,h.2.some_⟩) fun ⟨⟨hn,hm,hp⟩,hin,him,hip⟩=>?_
 simp only [maxLen] at hm him
 repeat' (first|refine gs ?_|refine gs1 fun _=>?_|(refine gp ?_ ?_<;>intro hx_ this)|fail)
 · refine ab (ag rfl rfl) ?_
   rw [rightKn,Zd (by omega)]
   rfl
 rename_i b
 have h20:L.length≤20:=by omega
 rw [rightKn,Ze h20,Zh]
 refine aq (ι:=X6 L.length (badSv L)) (fun i=>⟨[(1,.pointer (some ⟨b,0,none⟩)),(3,.int .i64 (i.k:Nat))],[cel b 25 [ks.v,ki.v]],fun w=>Ints w ks L∧Items w ki I⟩) (fun i=>L.length-i.k) (X6.zero _ _) (ai am (ak _) fun _ h=>h) fun i=>?_
 have hik:=i.hk
 by_cases hlt:i.k<L.length
 · have hks:=hp aa
   repeat' (first|refine gs ?_|(refine aD (q:=i.k) ?_)|(refine cB (q:=i.k) (u:=.int .i64 (L.getD i.k 0)) (hF:=fun w h=>Ints.get h.1 hlt) ?_)|(refine gp ?_ ?_<;>intro hx_ this)|fail)
   all_goals first
    | (exfalso;omega)
    | (refine ab (ag rfl rfl) ?_;rw [cG (k:=i.k) hlt (by simp only [badSv, *,Za,Zg,Zf]),Zk];done)
    | exact ⟨i.next hlt (by simp only [badSv, *,Za,Zg,Zf]),(by show L.length-(i.k+1)<L.length-i.k;omega),ai am (ak _) fun _ h=>h⟩
 · rw [i.all hlt,Zh]
   repeat' (first|refine SrG.sy_lssF_g (hab:=by omega) (h:=?_)|refine gs ?_|fail)
   refine aq (ι:=X6 I.length (badKn L I)) (fun j=>⟨[(1,.pointer (some ⟨b,0,none⟩)),(4,.int .i64 (j.k:Nat))],[cel b 25 [ks.v,ki.v]],fun w=>Ints w ks L∧Items w ki I⟩) (fun j=>I.length-j.k) (X6.zero _ _) (ai am (ak _) fun _ h=>h) fun j=>?_
   have hjk:=j.hk
   by_cases hlj:j.k<I.length
   · have hki:=hip aa
     obtain ⟨x,hx⟩:∃ x,I[j.k]?=some x:=⟨_,Zc hlj⟩
     have hxm:=Z4 hx
     have hxD:I.getD j.k Xc.zero=x:=by rw [Zp,hx];rfl
     have hsg:=rH ks L x (hs x hxm) (hdn x hxm)
     have hdx:=jg x (hs x hxm) (hdn x hxm)
     cases hsB:signedIt L x with
     | false =>
      rw [hsB] at hsg
      have hbad:badKn L I j.k=true:=by rw [badKn,hxD,hsB];rfl
      repeat' (first|refine SrG.sy_lssT_g (hab:=by omega) (h:=?_)|refine gs ?_|fail)
      (refine ap ⟨[0,1,2,3,4,5,6],[(7,⟨[8],[]⟩)]⟩ [cel b 25 [ks.v,ki.v]] (fun w=>Ints w ks L∧Items w ki I) (h:=?_))
      all_goals repeat' (first|(refine ae (hc:=hsg) (hX:=fun w h=>⟨h.1,h.2.2 x hxm⟩) ?_)|refine gdz ?_|refine ay (hsub:=by exact aK) (hy:=by first|(apply aB (q:=j.k*49);rfl;rfl;omega;omega;assumption;omega)|(apply fP (cs:=x.cells);rfl;exact (fun w h=>Items.get h.2 hx))) ?_|refine az ?_ (h':=?_)|exact aA|fail)
      all_goals
       repeat' (first|refine gs ?_|fail)
       all_goals (refine ab (ag rfl rfl) ?_;rw [cG hlj hbad])
     | true =>
      rw [hsB] at hsg
      by_cases h0:0<j.k
      · obtain ⟨y,hy⟩:∃ y,I[j.k-1]?=some y:=⟨_,Zc aa⟩
        have hym:=Z4 hy
        have hyD:I.getD (j.k-1) Xc.zero=y:=by rw [Zp,hy];rfl
        have hdy:=jg y (hs y hym) (hdn y hym)
        have hbq:badKn L I j.k=!ltB (digIt y) (digIt x):=by rw [badKn,hxD,hyD,hsB,Ze h0];rfl
        generalize digIt x=dx at *
        generalize digIt y=dy at *
        cases hlB:ltB dy dx with
        | true =>
         have hok:badKn L I j.k=false:=by rw [hbq,hlB];rfl
         repeat' (first|refine SrG.sy_lssT_g (hab:=by omega) (h:=?_)|refine gs ?_|fail)
         (refine ap ⟨[0,1,2,3,4,5,6],[(7,⟨[8],[]⟩)]⟩ [cel b 25 [ks.v,ki.v]] (fun w=>Ints w ks L∧Items w ki I) (h:=?_))
         all_goals repeat' (first|(refine ae (hc:=hsg) (hX:=fun w h=>⟨h.1,h.2.2 x hxm⟩) ?_)|refine gdz ?_|refine ay (hsub:=by exact aK) (hy:=by first|(apply aB (q:=j.k*49);rfl;rfl;omega;omega;assumption;omega)|(apply fP (cs:=x.cells);rfl;exact (fun w h=>Items.get h.2 hx))) ?_|refine az ?_ (h':=?_)|exact aA|fail)
         all_goals
          repeat' (first|refine gs ?_|fail)
          (refine ap ⟨[0,1,2,3,4,5,6,7,8,10,11,12,13,14],[(9,⟨[],[(15,⟨[16,17],[]⟩)]⟩)]⟩ [cel b 25 [ks.v,ki.v]] (fun w=>Ints w ks L∧Items w ki I) (h:=?_))
          all_goals repeat' (first|refine ay (hsub:=by exact aK) (hy:=by first|(apply SrG.y_gtrT_g;rfl;rfl;omega)|(apply Rf4.y_subM (q:=1);rfl;rfl;omega)|(apply FY;rfl;rfl;exact hlB)) ?_|(refine ae (hc:=hdy) (hX:=fun w h=>h.2.2 y hym) ?_)|(refine ae (hc:=hdx) (hX:=fun w h=>h.2.2 x hxm) ?_)|refine gdz ?_|refine ay (hsub:=by exact aK) (hy:=by first|(apply aB (q:=(j.k-1)*49);rfl;rfl;omega;omega;assumption;omega)|(apply aB (q:=j.k*49);rfl;rfl;omega;omega;assumption;omega)|(apply fP (cs:=y.cells);rfl;exact (fun w h=>Items.get h.2 hy))|(apply fP (cs:=x.cells);rfl;exact (fun w h=>Items.get h.2 hx))) ?_|refine az ?_ (h':=?_)|exact aA|fail)
          all_goals
           repeat' (first|refine gs ?_|fail)
           all_goals exact ⟨j.next hlj hok,(by show I.length-(j.k+1)<I.length-j.k;omega),ai am (ak _) fun _ h=>h⟩
        | false =>
         have hbad:badKn L I j.k=true:=by rw [hbq,hlB];rfl
         repeat' (first|refine SrG.sy_lssT_g (hab:=by omega) (h:=?_)|refine gs ?_|fail)
         (refine ap ⟨[0,1,2,3,4,5,6],[(7,⟨[8],[]⟩)]⟩ [cel b 25 [ks.v,ki.v]] (fun w=>Ints w ks L∧Items w ki I) (h:=?_))
         all_goals repeat' (first|(refine ae (hc:=hsg) (hX:=fun w h=>⟨h.1,h.2.2 x hxm⟩) ?_)|refine gdz ?_|refine ay (hsub:=by exact aK) (hy:=by first|(apply aB (q:=j.k*49);rfl;rfl;omega;omega;assumption;omega)|(apply fP (cs:=x.cells);rfl;exact (fun w h=>Items.get h.2 hx))) ?_|refine az ?_ (h':=?_)|exact aA|fail)
         all_goals
          repeat' (first|refine gs ?_|fail)
          (refine ap ⟨[0,1,2,3,4,5,6,7,8,10,11,12,13,14],[(9,⟨[],[(15,⟨[16,17],[]⟩)]⟩)]⟩ [cel b 25 [ks.v,ki.v]] (fun w=>Ints w ks L∧Items w ki I) (h:=?_))
          all_goals repeat' (first|refine ay (hsub:=by exact aK) (hy:=by first|(apply SrG.y_gtrT_g;rfl;rfl;omega)|(apply Rf4.y_subM (q:=1);rfl;rfl;omega)|(apply FX;rfl;rfl;exact hlB)) ?_|(refine ae (hc:=hdy) (hX:=fun w h=>h.2.2 y hym) ?_)|(refine ae (hc:=hdx) (hX:=fun w h=>h.2.2 x hxm) ?_)|refine gdz ?_|refine ay (hsub:=by exact aK) (hy:=by first|(apply aB (q:=(j.k-1)*49);rfl;rfl;omega;omega;assumption;omega)|(apply aB (q:=j.k*49);rfl;rfl;omega;omega;assumption;omega)|(apply fP (cs:=y.cells);rfl;exact (fun w h=>Items.get h.2 hy))|(apply fP (cs:=x.cells);rfl;exact (fun w h=>Items.get h.2 hx))) ?_|refine az ?_ (h':=?_)|exact aA|fail)
          all_goals
           repeat' (first|refine gs ?_|fail)
           all_goals (refine ab (ag rfl rfl) ?_;rw [cG hlj hbad])
      · have hok:badKn L I j.k=false:=by rw [badKn,hxD,hsB,Zd h0];rfl
        repeat' (first|refine SrG.sy_lssT_g (hab:=by omega) (h:=?_)|refine gs ?_|fail)
        (refine ap ⟨[0,1,2,3,4,5,6],[(7,⟨[8],[]⟩)]⟩ [cel b 25 [ks.v,ki.v]] (fun w=>Ints w ks L∧Items w ki I) (h:=?_))
        all_goals repeat' (first|(refine ae (hc:=hsg) (hX:=fun w h=>⟨h.1,h.2.2 x hxm⟩) ?_)|refine gdz ?_|refine ay (hsub:=by exact aK) (hy:=by first|(apply aB (q:=j.k*49);rfl;rfl;omega;omega;assumption;omega)|(apply fP (cs:=x.cells);rfl;exact (fun w h=>Items.get h.2 hx))) ?_|refine az ?_ (h':=?_)|exact aA|fail)
        all_goals
         repeat' (first|refine gs ?_|fail)
         (refine ap ⟨[0,1,2,3,4,5,6,7,8,10,11,12,13,14],[(9,⟨[],[(15,⟨[16,17],[]⟩)]⟩)]⟩ [cel b 25 [ks.v,ki.v]] (fun w=>Ints w ks L∧Items w ki I) (h:=?_))
         all_goals repeat' (first|refine ay (hsub:=by exact aK) (hy:=by (apply SrG.y_gtrF_g;rfl;rfl;omega)) ?_|refine gdz ?_|refine az ?_ (h':=?_)|exact aA|fail)
         all_goals
          repeat' (first|refine gs ?_|fail)
          all_goals exact ⟨j.next hlj hok,(by show I.length-(j.k+1)<I.length-j.k;omega),ai am (ak _) fun _ h=>h⟩
   · rw [j.all hlj]
     repeat' (first|refine SrG.sy_lssF_g (hab:=by omega) (h:=?_)|refine gs ?_|fail)
     all_goals first
      | exact ab (ag rfl rfl) rfl
theorem xf {l:List ByteArray} (h:∀ k (hk:k+1<l.length),ltB (l[k]'(by omega)) l[k+1]=true):Asc l:=by
 have key:∀ d i (hj:i+d+1<l.length),ltB (l[i]'(by omega)) l[i+d+1]=true:=by
  intro d
  induction d with
  | zero=>exact fun i hj=>h i hj
  | succ d ih =>
   intro i hj
   exact fK (ih i aa) (h (i+d+1) hj)
 refine List.pairwise_iff_getElem.2 fun i j hi hj hij=>?_
 obtain ⟨d,rfl⟩:∃ d,j=i+d+1:=⟨j-i-1,by omega⟩
 exact key d i hj
theorem ip {L:List Int} {I:List Xc} (h:rightKn L I=true):∀ i∈I,signedIt L i=true:=fun i hi=>by
 rw [rightKn,Zq,Zq] at h
 obtain ⟨k,hk⟩:=QN.1 hi
 obtain ⟨hlt,e⟩:=QI.1 hk
 have h1:=mM h.2.2 hlt
 have e2:I.getD k Xc.zero=i:=by rw [Zp,hk];rfl
 rw [badKn,e2,Qj,Bool.not_eq_false'] at h1
 exact h1.1
theorem tI {L:List Int} {I:List Xc} (h:rightKn L I=true):Asc (I.map digIt):=by
 rw [rightKn,Zq,Zq] at h
 refine xf fun k hk=>?_
 rw [ZE] at hk
 have h1:=mM h.2.2 hk
 rw [badKn,Qj] at h1
 have h2:=h1.2
 rw [Ze aa,Zh,Bool.not_eq_false',Zp,Zp,Nat.add_sub_cancel,Zc hk,Zc (show k<I.length by omega)] at h2
 rw [List.getElem_map,List.getElem_map]
 exact h2
theorem JK {L:List Int} {I:List Xc} (h:rightKn L I=true) (hl:I.length≤100) (hr:∀ i∈I,i.act.Rng) (hs:∀ i∈I,i.act.Sm) (hd:∀ i∈I,i.dec.to.n=i.dec.toL.length):KnR L I where
 sv:=by
  rw [rightKn,Zq] at h
  exact bA h.1
 len:=hl
 rng:=hr
 sm:=hs
 dn:=hd
 right:=fun i hi=>by
  have h1:=ip h i hi
  rw [signedIt,Zq] at h1
  exact h1.1
 asc:=tI h
end Go.Proofs.YtaolfiikahlmkaaGreatDoor
