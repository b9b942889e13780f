/- Joined by program out of: Yg Jg Oa Ob Oc Od Zo Zz Oe Of Og Yh Yi Yj Yo Yp. -/
import Derived.Test.YtoefdofbekihdaaGreatDoorW12
set_option linter.unusedVariables false
set_option linter.unusedSimpArgs false
set_option maxHeartbeats 16000000
namespace Go.Proofs.YtoefdofbekihdaaGreatDoor
open Go Go.Proofs Sy
theorem nW {l m:List ActD} (h:l.Perm m):oneA l=oneA m:=by
 have hl:=h.length_eq
 match l,m,h,hl with
 | [],m,h,_=>rw [List.Perm.nil_eq h]
 | [a],m,h,_=>rw [List.singleton_perm.1 h]
 | a::b::r,[],h,hl=>cases hl
 | a::b::r,[c],h,hl=>cases hl
 | a::b::r,c::d::s,h,_=>rfl
theorem mV (W:OfW) {A B:List ActD} (h:A.Perm B) (st:ChS):(candL (W.at A) st).Perm (candL (W.at B) st):=(h.filter _).filter _
theorem sJ (W:OfW) {A B:List ActD} (h:A.Perm B) (st:ChS):stepS (W.at A) st=stepS (W.at B) st:=by
 have h1:regS (W.at A) st=regS (W.at B) st:=rfl
 rw [stepS,stepS,h1,nW (mV W h st)]
theorem nQ (W:OfW) {A B:List ActD} (h:A.Perm B):∀ n st,runS (W.at A) n st=runS (W.at B) n st
 | 0,st=>rfl
 | n+1,st=>by
  rw [runS,runS,sJ W h st]
  cases stepS (W.at B) st with
  | none=>rfl
  | some s=>exact nQ W h n s
theorem ky (W:OfW) {A B:List ActD} (h:A.Perm B):(firstL (W.at A)).Perm (firstL (W.at B)):=(h.filter _).filter _
theorem xm (W:OfW) {A B:List ActD} (h:A.Perm B) (a:ActD):finS (W.at A) a=finS (W.at B) a:=by
 rw [finS,finS,show (W.at A).L.length=(W.at B).L.length from h.length_eq]
 exact nQ W h _ _
theorem mj (W:OfW) {A B:List ActD} (h:A.Perm B) {st:ChS} {fork:Bool} (r:OfRes (W.at A) st fork):OfRes (W.at B) st fork:=by
 rw [OfRes] at r ⊢
 rw [←nW (ky W h)]
 cases ho:oneA (firstL (W.at A)) with
 | none =>
  rw [ho] at r
  exact ⟨r.1,by rw [r.2,(ky W h).length_eq]⟩
 | some a =>
  rw [ho] at r
  simp only at r ⊢
  rw [←xm W h a,←(mV W h _).length_eq]
  exact r
theorem wT {W:OfW} {st st':ChS} {f f':Bool} (r:OfRes W st f) (r':OfRes W st' f'):st=st'∧f=f':=by
 rw [OfRes] at r r'
 cases ho:oneA (firstL W) with
 | none =>
  rw [ho] at r r'
  exact ⟨r.1.trans r'.1.symm,r.2.trans r'.2.symm⟩
 | some a =>
  rw [ho] at r r'
  exact ⟨r.1.trans r'.1.symm,r.2.trans r'.2.symm⟩
def EvS (W:OfW) (s:ChS):Prop:=(∃ x∈W.L,s.prev=digV x)∨∃ g c,g<s.gen∧W.won g=some c∧s.prev=W.dgC c
theorem Dv {W:OfW} {st s:ChS} (hs:stepS W st=some s):EvS W s:=by
 rcases eS hs with h1|⟨h1,a,h2,rfl⟩
 · obtain ⟨c,i,e1,e2,e3,e4,e5,rfl⟩:=fR h1
   exact .inr ⟨st.gen,c,Nat.lt_succ_self _,e1,rfl⟩
 · have ha:a∈candL W st:=by rw [h2];exact List.mem_singleton.2 rfl
   exact .inl ⟨a,(ju ha).1,rfl⟩
theorem iQ {W:OfW}:∀ (n:Nat) (s:ChS),runS W n s=s∨s.acts.length<(runS W n s).acts.length ∨
  s.acts.length=(runS W n s).acts.length∧∃ g c,s.gen≤g∧(runS W n s).gen=g+1∧W.won g=some c∧(runS W n s).prev=W.dgC c
 | 0,s=>.inl rfl
 | n+1,s=>by
  cases hs:stepS W s with
  | none=>exact .inl (fy hs _)
  | some s1 =>
   rw [eE hs]
   have ih:=iQ (W:=W) n s1
   rcases eS hs with h1|⟨h1,a,h2,rfl⟩
   · obtain ⟨c,i,e1,e2,e3,e4,e5,e6⟩:=fR h1
     have ea:s1.acts=s.acts:=by rw [e6]
     have eg:s1.gen=s.gen+1:=by rw [e6]
     have ep:s1.prev=W.dgC c:=by rw [e6]
     rw [ea] at ih
     rcases ih with ih|ih|⟨ih,g,c',i1,i2,i3,i4⟩
     · rw [ih]
       exact .inr (.inr ⟨by rw [ea],s.gen,c,Qq _,eg,e1,ep⟩)
     · exact .inr (.inl ih)
     · exact .inr (.inr ⟨ih,g,c',by omega,i2,i3,i4⟩)
   · have el:(addS s a).acts.length=s.acts.length+1:=by simp [addS]
     right;left
     rcases ih with ih|ih|⟨ih,_⟩
     · rw [ih];omega
     · omega
     · omega
structure DistS (W:OfW):Prop where
 ac:∀ x∈W.L,∀ g c,W.won g=some c→digV x≠W.dgC c
 cc:∀ g g' c c',W.won g=some c→W.won g'=some c'→W.dgC c=W.dgC c'→g=g'
theorem Aq {W:OfW} (hD:DistS W) {n:Nat} {s s1:ChS} (hE:EvS W s) (hs:stepS W s=some s1):¬ ((runS W n s1).acts.length=s.acts.length∧(runS W n s1).prev=s.prev):=by
 rintro ⟨h1,h2⟩
 have hg:=iQ (W:=W) (n+1) s
 rw [eE hs] at hg
 rcases hg with hg|hg|⟨_,g,c,g1,g2,g3,g4⟩
 · have hg1:=iQ (W:=W) n s1
   rcases eS hs with k1|⟨k1,a,k2,rfl⟩
   · obtain ⟨c,i,e1,e2,e3,e4,e5,e6⟩:=fR k1
     have eg:s1.gen=s.gen+1:=by rw [e6]
     have ea:s1.acts=s.acts:=by rw [e6]
     rcases hg1 with q|q|⟨q,g,c',q1,q2,_⟩
     · rw [q] at hg
       rw [hg] at eg
       omega
     · rw [hg,ea] at q
       omega
     · rw [hg] at q2
       omega
   · have el:(addS s a).acts.length=s.acts.length+1:=by simp [addS]
     rcases hg1 with q|q|⟨q,_⟩
     · rw [q] at h1;omega
     · omega
     · omega
 · omega
 · rw [h2] at g4
   rcases hE with ⟨x,hx,e⟩|⟨g',c',l1,l2,l3⟩
   · exact hD.ac x hx g c g3 (e.symm.trans g4)
   · have:=hD.cc g' g c' c l2 g3 (l3.symm.trans g4)
     omega
theorem uB {W:OfW} {A:List ActD} {a:ActD} (hD:DistS (W.at A)):∀ (n:Nat) (s:ChS),EvS (W.at A) s→stepS (W.at A) (runS (W.at A) n s)=none→a.seq=((runS (W.at A) n s).acts.length:Int)→a.prev=(runS (W.at A) n s).prev →
  ∃ k,k≤n∧∀ m,runS (W.at (a::A)) (k+m) s=runS (W.at (a::A)) m (runS (W.at A) n s)
 | 0,s,hE,hf,h1,h2=>⟨0,Qq _,fun m=>by rw [Ql];rfl⟩
 | n+1,s,hE,hf,h1,h2=>by
  cases hs:stepS (W.at A) s with
  | none =>
   rw [fy hs] at *
   exact ⟨0,Nat.zero_le _,fun m=>by rw [Ql]⟩
  | some s1 =>
   have hno:=Aq hD (n:=n) hE hs
   rw [eE hs] at *
   have hpos:posB s.acts.length s.prev a=false:=by
    cases hp:posB s.acts.length s.prev a with
    | false=>rfl
    | true =>
     rw [posB,ZM,ZT,seqB_iff] at hp
     exact absurd ⟨by have:=hp.1;omega,by rw [←h2];exact hp.2⟩ hno
   have hst:stepS (W.at (a::A)) s=some s1:=by
    rw [←hs]
    have e:candL (W.at (a::A)) s=candL (W.at A) s:=by
     show (List.filter (posB s.acts.length s.prev) (a::A)).filter _=_
     rw [List.filter_cons_of_neg (by rw [hpos];decide)]
     rfl
    have e1:regS (W.at (a::A)) s=regS (W.at A) s:=rfl
    rw [stepS,stepS,e,e1]
   obtain ⟨k,hk,hr⟩:=uB hD n s1 (Dv hs) hf h1 h2
   exact ⟨k+1,by omega,fun m=>by rw [Nat.add_right_comm,eE hst];exact hr m⟩
theorem uC {W:OfW} (hB:∀ g c,W.won g=some c→g<W.B):∀ (n:Nat) (s:ChS),InvS W s→muS W s≤n→stepS W (runS W n s)=none
 | 0,s,hI,hm=>by
  cases hs:stepS W s with
  | none=>exact hs
  | some s1=>have:=(iN hB hI hs).2;omega
 | n+1,s,hI,hm=>by
  cases hs:stepS W s with
  | none=>rw [fy hs];exact hs
  | some s1 =>
   obtain ⟨h1,h2⟩:=iN hB hI hs
   rw [eE hs]
   exact uC hB n s1 h1 aa
theorem AV {W:OfW} (hB:∀ g c,W.won g=some c→g<W.B) {a:ActD} (ha:a∈firstL W):stepS W (finS W a)=none:=by
 obtain ⟨h1,h2⟩:=pN ha
 exact uC hB _ _ h1 aa
structure KeyS (s:ChS):Prop where
 len:s.keys.length=1+movN s.acts+s.gen
 le:∀ k∈s.keys,k.from_≤(s.acts.length:Int)
theorem uD {W:OfW}:∀ (n:Nat) (s:ChS),∃ M K,(runS W n s).acts=s.acts++M∧(runS W n s).keys=s.keys++K∧∀ k∈K,(s.acts.length:Int)≤k.from_
 | 0,s=>⟨[],[],(Z9 _).symm,(Z9 _).symm,fun k hk=>(List.not_mem_nil hk).elim⟩
 | n+1,s=>by
  cases hs:stepS W s with
  | none=>rw [fy hs];exact ⟨[],[],(Z9 _).symm,(Z9 _).symm,fun k hk=>(List.not_mem_nil hk).elim⟩
  | some s1 =>
   rw [eE hs]
   obtain ⟨M,K,h1,h2,h3⟩:=uD (W:=W) n s1
   rcases eS hs with k1|⟨k1,a,k2,rfl⟩
   · obtain ⟨c,i,e1,e2,e3,e4,e5,rfl⟩:=fR k1
     refine ⟨M,⟨(s.acts.length:Nat),c.pub,c.home⟩::K,h1,by rw [h2];simp,fun k hk=>?_⟩
     rcases List.mem_cons.1 hk with rfl|hk
     · exact Int.le_refl _
     · exact h3 k hk
   · have hl:((addS s a).acts.length:Int)=(s.acts.length:Int)+1:=by simp [addS]
     refine ⟨a::M,(bif decide (a.kind=18) then [⟨((s.acts.length+1:Nat):Int),a.n,a.m⟩] else [])++K,by rw [h1];simp [addS],?_,fun k hk=>?_⟩
     · rw [h2]
       show (bif decide (a.kind=18) then s.keys++[_] else s.keys)++K=_
       cases decide (a.kind=18)<;>simp
     · rcases List.mem_append.1 hk with hk|hk
       · cases hd:decide (a.kind=18) with
         | true =>
          rw [hd,ZC] at hk
          rw [List.mem_singleton.1 hk]
          show (s.acts.length:Int)≤((s.acts.length+1:Nat):Int)
          omega
         | false =>
          rw [hd,ZB] at hk
          exact (List.not_mem_nil hk).elim
       · have:=h3 k hk
         omega
theorem Du {W:OfW} {A:List ActD} {a b:ActD} (hD:DistS (W.at A)) (hB:∀ g c,W.won g=some c→g<W.B) (hb:oneA (firstL (W.at A))=some b) {st st':ChS} {f f':Bool}
  (r:OfRes (W.at A) st f) (r':OfRes (W.at (a::A)) st' f') (h1:a.seq=(st.acts.length:Int)) (h2:a.prev=st.prev) :
  bif !f&&candB (W.at A) st a then f=false∧∃ m,st'=runS (W.at (a::A)) m (addS st a) else st'=st∧f'=f:=by
 have hbm:b∈firstL (W.at A):=by rw [ig hb];exact List.mem_singleton.2 rfl
 have hI:=va (W:=W.at A) hB hbm
 have hst:st=finS (W.at A) b∧f=decide (1<(candL (W.at A) (finS (W.at A) b)).length):=by
  rw [OfRes,hb] at r
  exact r
 obtain ⟨rfl,hf⟩:=hst
 have hone:=hI.one
 have hfl:firstL (W.at (a::A))=firstL (W.at A):=by
  have hp:posB 0 ⟨#[]⟩ a=false:=by
   rw [posB,Zn (by rw [h1];omega)]
   rfl
  show (List.filter (posB 0 ⟨#[]⟩) (a::A)).filter _=_
  rw [List.filter_cons_of_neg (by rw [hp];decide)]
  rfl
 have hst':st'=finS (W.at (a::A)) b∧f'=decide (1<(candL (W.at (a::A)) (finS (W.at (a::A)) b)).length):=by
  rw [OfRes,hfl,hb] at r'
  exact r'
 obtain ⟨rfl,hf'⟩:=hst'
 have hstop:=AV (W:=W.at A) hB hbm
 have hE:EvS (W.at A) (begS b):=by
  obtain ⟨e,m1,_⟩:=Bl hbm
  exact .inl ⟨b,m1,by rw [e]⟩
 obtain ⟨k,hk,hr⟩:=uB hD _ (begS b) hE hstop h1 h2
 change ∀ m,runS (W.at (a::A)) (k+m) (begS b)=runS (W.at (a::A)) m (finS (W.at A) b) at hr
 obtain ⟨m,hm⟩:∃ m,(a::A).length+W.B=k+(m+1):=⟨(a::A).length+W.B-k-1,by rw [ZY];have:k≤A.length+W.B:=hk;omega⟩
 have hfin:finS (W.at (a::A)) b=runS (W.at (a::A)) (m+1) (finS (W.at A) b):=by
  rw [←hr,←hm]
  rfl
 have hpos:posB (finS (W.at A) b).acts.length (finS (W.at A) b).prev a=true:=by
  rw [posB,ZA h1,h2,cV]
  rfl
 have hcl:candL (W.at (a::A)) (finS (W.at A) b)=if candB (W.at A) (finS (W.at A) b) a=true then a::candL (W.at A) (finS (W.at A) b) else candL (W.at A) (finS (W.at A) b):=by
  show (List.filter (posB (finS (W.at A) b).acts.length (finS (W.at A) b).prev) (a::A)).filter (candB (W.at A) (finS (W.at A) b))=_
  rw [List.filter_cons_of_pos (by rw [hpos]),List.filter_cons]
  rfl
 have hreg:regS (W.at A) (finS (W.at A) b)=none∧oneA (candL (W.at A) (finS (W.at A) b))=none:=by
  rw [stepS] at hstop
  cases hr:regS (W.at A) (finS (W.at A) b) with
  | some s=>rw [hr] at hstop;cases hstop
  | none =>
   rw [hr] at hstop
   exact ⟨rfl,by simpa using hstop⟩
 have hregA:regS (W.at (a::A)) (finS (W.at A) b)=none:=hreg.1
 have hstay:oneA (candL (W.at (a::A)) (finS (W.at A) b))=none→finS (W.at (a::A)) b=finS (W.at A) b:=fun ho=>by
  rw [hfin]
  refine fy ?_ _
  rw [stepS,hregA,ho]
  rfl
 cases hc:candB (W.at A) (finS (W.at A) b) a with
 | false =>
  rw [hc,Qg (by decide)] at hcl
  have hs:=hstay (by rw [hcl];exact hreg.2)
  rw [ZH,ZB]
  refine ⟨hs,?_⟩
  rw [hf',hs,hcl,hf]
 | true =>
  rw [hc,Qf rfl] at hcl
  cases hff:f with
  | true =>
   rw [hff] at hf
   have hl:=aP hf.symm
   have ho:oneA (a::candL (W.at A) (finS (W.at A) b))=none:=by
    cases hcc:candL (W.at A) (finS (W.at A) b) with
    | nil=>rw [hcc] at hl;simp at hl
    | cons x r=>rfl
   have hs:=hstay (by rw [hcl];exact ho)
   refine ⟨hs,?_⟩
   rw [hf',hs,hcl,ZY]
   exact ZA aa
  | false =>
   rw [hff] at hf
   have hl:=aZ hf.symm
   have hnil:candL (W.at A) (finS (W.at A) b)=[]:=by
    have h3:=hreg.2
    cases hcc:candL (W.at A) (finS (W.at A) b) with
    | nil=>rfl
    | cons x r =>
     rw [hcc] at hl h3
     cases r with
     | nil=>cases h3
     | cons y r=>simp at hl
   rw [hnil] at hcl
   refine ⟨rfl,m,?_⟩
   rw [hfin]
   refine eE ?_
   rw [stepS,hregA,hcl]
   rfl
theorem xt {i:ItemD} (h:i.kind=1) (hr:rightIt i=true):digIt i=dgCl i.claim:=by
 have h1:claimR i.claim=true:=by
  rcases df hr with h2|h2|h2|h2
  · rw [h] at h2;exact absurd h2.1 (by decide)
  · exact h2.2
  · rw [h] at h2;exact absurd h2.1 (by decide)
  · rw [h] at h2;exact absurd h2.1 (by decide)
 have h2:rightIt (ofClaimI i.claim)=true:=by
  have h3:rightIt (ofClaimI i.claim)=(claimR i.claim&&sameIZ ItemD.zero):=rfl
  rw [h3,h1]
  decide +kernel
 have e:bytesIt i=bytesIt (ofClaimI i.claim):=by
  rw [bytesIt,bytesIt,hr,h2,ZC,ZC,bodyIt,h]
  rfl
 rw [digIt,dgCl,digIt,e]
theorem gX {I:List ItemD} {au:ByteArray} {c:ClaimD} (h:c∈claimsV I au):∃ i∈I,i.kind=1∧i.claim=c∧digIt i=dgCl c:=by
 rw [claimsV,selC] at h
 obtain ⟨i,hi,rfl⟩:=List.mem_map.1 h
 obtain ⟨h1,h2⟩:=List.mem_filter.1 hi
 rw [selBC,ZM,wantC,ZM,ZT] at h2
 exact ⟨i,h1,h2.1.1,rfl,xt h2.1.1 h2.2⟩
theorem DA {L:List Int} {I:List ItemD} (h:KnR L I) {au:ByteArray} {A:List ActD} (hA:A.Perm (selA au rightIt I)):DistS ((OfWK L.length I au).at A):=by
 refine ⟨fun x hx g c hw e=>?_,fun g g' c c' hw hw' e=>?_⟩
 · obtain ⟨i,hi,e1,e2,_,e3,_⟩:=gI (hA.subset hx)
   obtain ⟨j,hj,e4,e5,e6⟩:=gX (fL (eQ hw).2).1
   have:=pR h.asc hi hj (by rw [e3,e6];exact e)
   rw [this,e4] at e2
   exact absurd e2 (by decide)
 · obtain ⟨m1,m2⟩:=fL (eQ hw).2
   obtain ⟨m3,m4⟩:=fL (eQ hw').2
   obtain ⟨i,hi,e1,e2,e3⟩:=gX m1
   obtain ⟨j,hj,e4,e5,e6⟩:=gX m3
   have:=pR h.asc hi hj (by rw [e3,e6];exact e)
   subst this
   rw [e2] at e5
   have h9:c.gen=c'.gen:=by rw [e5]
   rw [m2,m4] at h9
   omega
def gtB (a b:ByteArray):Bool:=!(Op.bytesLess a.toList b.toList||seqB a b)
def addAt (dI:ItemD→ByteArray) (d:ByteArray) (I:List ItemD) (k:Nat):Nat:=((I.take k).findIdx? fun x=>gtB (dI x) d).getD I.length
def addV (dI:ItemD→ByteArray) (it:ItemD) (I:List ItemD):List ItemD:=I.take (addAt dI (dI it) I I.length)++it::I.drop (addAt dI (dI it) I I.length)
theorem BA (dI:ItemD→ByteArray) (d:ByteArray) (I:List ItemD) (k:Nat) (hk:k≤I.length):addAt dI d I k<k∨addAt dI d I k=I.length:=by
 rw [addAt]
 cases h:(I.take k).findIdx? fun x=>gtB (dI x) d with
 | none=>exact .inr rfl
 | some j =>
  rw [List.findIdx?_eq_some_iff_getElem] at h
  obtain ⟨h1,_⟩:=h
  rw [List.length_take] at h1
  exact .inl (by show j<k;omega)
theorem tW (dI:ItemD→ByteArray) (d:ByteArray) (I:List ItemD) (k:Nat) (x:ItemD) (hx:I[k]?=some x):addAt dI d I (k+1)=bif gtB (dI x) d&&decide (addAt dI d I k=I.length) then k else addAt dI d I k:=by
 have hk:k<I.length:=(List.getElem?_eq_some_iff.1 hx).1
 rw [addAt,addAt,List.take_add_one,hx,Option.toList_some,List.findIdx?_append]
 cases h:(I.take k).findIdx? fun x=>gtB (dI x) d with
 | none =>
  rw [List.findIdx?_singleton]
  cases hg:gtB (dI x) d with
  | true=>simp [List.length_take];omega
  | false=>simp
 | some j =>
  rw [List.findIdx?_eq_some_iff_getElem] at h
  obtain ⟨h1,_⟩:=h
  rw [List.length_take] at h1
  have:¬ j=I.length:=by omega
  simp [this]
section
variable {P:Program} {N:Nat} {av bor:List Nat} {w0:World} {x y:Operand} {t t2:TypeId} {ty:TypeId} {st:St}
theorem kO {a b:ByteArray} (v:Bool) (hx:ev st.env x=some (.string a)) (hy:ev st.env y=some (.string b)) (hv:gtB a b=v):Sy.Yields P N av bor w0 st (.binOp .gtr t x y t2) ty (.bool v):=hv▸xN hx hy
end
structure AddI (I:List ItemD) where
 k:Nat
 hk:k≤I.length
set_option maxHeartbeats 16000000 in
theorem DM (Y:World→Prop) (ks ki:SlV) (I:List ItemD) (it:ItemD) (rI:ItemD→Bool) (dI:ItemD→ByteArray)
  (hR:Pu Tryz.prog 63 #[it.v] (fun w=>it.at_ w) (.bool true))
  (hS:Pu Tryz.prog 64 #[ks.v,it.v] (fun w=>(Y w∧it.at_ w)∧Glob w) (.bool true))
  (hD0:Pu Tryz.prog 14 #[it.v] (fun w=>it.at_ w∧Glob w) (.string (dI it)))
  (hD:∀ x∈I,Pu Tryz.prog 14 #[x.v] (fun w=>x.at_ w∧Glob w) (.string (dI x)))
  (hI:I.length≤1000) (hnew:∀ x∈I,seqB (dI x) (dI it)=false) :
  Mk Tryz.prog 34 #[.agg #[ks.v,ki.v],it.v] (fun w=>((Y w∧Items w ki I)∧it.at_ w)∧Glob w)
   (fun u X'=>∃ s:SlV,u=.tuple #[.agg #[ks.v,s.v],.bool true]∧∀ w,X' w→Items w s (addV dI it I)):=by
 refine bF (args:=[_,_]) _ Tryz.func34 rfl Tryz.ntmps34 rfl fun av bor w0=>?_
 refine aO (p:=ki.n=I.length∧ki.n≤maxLen∧(0<I.length→ki.p.isSome=true)∧ki.n≤ki.c) (fun w h=>⟨h.1.1.2.len_,h.1.1.2.max_,h.1.1.2.some_,RowsD.cap h.1.1.2.1⟩) fun ⟨hkn,hkm,hkp,hkc⟩=>?_
 simp only [maxLen] at hkm
 obtain ⟨d,hd⟩:∃ d,dI it=d:=⟨_,rfl⟩
 rw [hd] at hD0 hnew
 repeat' (first|(refine ab (hc:=hR) (hX:=fun w h=>h.1.2) ?_)|(refine ab (hc:=hS) (hX:=fun w h=>⟨⟨h.1.1.1,h.1.2⟩,h.2⟩) ?_)|(refine ab (hc:=hD0) (hX:=fun w h=>⟨h.1.2,h.2⟩) ?_)|refine gs ?_|refine gs1 fun _=>?_|(refine gp ?_ ?_<;>intro hx_ this)|fail)
 rename_i b2 b3 b4
 refine ap (ι:=AddI I) (fun i=>⟨[(2,.pointer (some ⟨b2,0,none⟩)),(3,.pointer (some ⟨b3,0,none⟩)),(4,.pointer (some ⟨b4,0,none⟩)),(6,.string d),(7,.int .i64 (addAt dI d I i.k:Nat)),(29,ki.v),(30,.int .i64 (ki.n:Nat)),(31,.int .i64 (i.k:Nat))],[cel b4 25 [.slice none 0 0,.slice none 0 0],cel b3 63 it.cells,cel b2 25 [ks.v,ki.v]],fun w=>((Y w∧Items w ki I)∧it.at_ w)∧Glob w⟩) (fun i=>I.length-i.k) ⟨0,Nat.zero_le _⟩ (aj ⟨rfl,rfl,rfl,rfl,(by show some (Value.int .i64 (ki.n:Nat))=_;rw [hkn];rfl),rfl,rfl,rfl,trivial⟩ (al _) fun _ h=>h) fun i=>?_
 obtain ⟨k,hk⟩:=i
 simp only
 repeat' (first|refine gs ?_|refine gs1 fun _=>?_|(refine gp ?_ ?_<;>intro hx_ this)|fail)
 · have hlt:k<I.length:=by omega
   have hkp':=hkp aa
   obtain ⟨x,hx⟩:∃ x,I[k]?=some x:=⟨_,Zm hlt⟩
   have hxm:=List.mem_of_getElem? hx
   have hne:=hnew x hxm
   have hst:=tW dI d I k x hx
   generalize addAt dI d I k=at0 at *
   cases hg:gtB (dI x) d with
   | false =>
    rw [hg] at hst
    have hst:addAt dI d I (k+1)=at0:=hst
    have hat:decide ((at0:Int)=(ki.n:Int))=decide ((at0:Int)=(ki.n:Int)):=rfl
    repeat' (first|refine ai (dX false rfl rfl hne) rfl am rfl ?_|refine ai (kO _ rfl rfl hg) rfl am rfl ?_|refine ai (eY _ rfl rfl hat) rfl am rfl ?_|(refine ab (hc:=hD x hxm) (hX:=fun w h=>⟨h.1.1.2.2 x hxm,h.2⟩) ?_)|refine gs ?_|refine gs1 fun _=>?_|(refine aI (q:=k*49) ?_)|(refine bN (cs:=x.cells) (hF:=fun w h=>h.1.1.2.get hx) ?_)|(refine gp ?_ ?_<;>intro hx_ this)|fail)
    exact ⟨(⟨k+1,hlt⟩:AddI I),(by show I.length-(k+1)<I.length-k;omega),aj ⟨rfl,rfl,rfl,rfl,(by show _=some (Value.int .i64 (addAt dI d I (k+1):Nat));rw [hst];rfl),rfl,rfl,rfl,trivial⟩ (.cons _ (al _)) fun _ h=>h⟩
   | true =>
    by_cases ha:at0=I.length
    · rw [hg,ZA ha] at hst
      have hst:addAt dI d I (k+1)=k:=hst
      have hat:decide ((at0:Int)=(ki.n:Int))=true:=ZA aa
      repeat' (first|refine ai (dX false rfl rfl hne) rfl am rfl ?_|refine ai (kO _ rfl rfl hg) rfl am rfl ?_|refine ai (eY _ rfl rfl hat) rfl am rfl ?_|(refine ab (hc:=hD x hxm) (hX:=fun w h=>⟨h.1.1.2.2 x hxm,h.2⟩) ?_)|refine gs ?_|refine gs1 fun _=>?_|(refine aI (q:=k*49) ?_)|(refine bN (cs:=x.cells) (hF:=fun w h=>h.1.1.2.get hx) ?_)|(refine gp ?_ ?_<;>intro hx_ this)|fail)
      exact ⟨(⟨k+1,hlt⟩:AddI I),(by show I.length-(k+1)<I.length-k;omega),aj ⟨rfl,rfl,rfl,rfl,(by show _=some (Value.int .i64 (addAt dI d I (k+1):Nat));rw [hst];rfl),rfl,rfl,rfl,trivial⟩ (.cons _ (al _)) fun _ h=>h⟩
    · rw [hg,Zn ha] at hst
      have hst:addAt dI d I (k+1)=at0:=hst
      have hat:decide ((at0:Int)=(ki.n:Int))=false:=Zn aa
      repeat' (first|refine ai (dX false rfl rfl hne) rfl am rfl ?_|refine ai (kO _ rfl rfl hg) rfl am rfl ?_|refine ai (eY _ rfl rfl hat) rfl am rfl ?_|(refine ab (hc:=hD x hxm) (hX:=fun w h=>⟨h.1.1.2.2 x hxm,h.2⟩) ?_)|refine gs ?_|refine gs1 fun _=>?_|(refine aI (q:=k*49) ?_)|(refine bN (cs:=x.cells) (hF:=fun w h=>h.1.1.2.get hx) ?_)|(refine gp ?_ ?_<;>intro hx_ this)|fail)
      exact ⟨(⟨k+1,hlt⟩:AddI I),(by show I.length-(k+1)<I.length-k;omega),aj ⟨rfl,rfl,rfl,rfl,(by show _=some (Value.int .i64 (addAt dI d I (k+1):Nat));rw [hst];rfl),rfl,rfl,rfl,trivial⟩ (.cons _ (al _)) fun _ h=>h⟩
 have hkE:k=I.length:=by omega
 have hV:addV dI it I=I.take (addAt dI d I k)++it::I.drop (addAt dI d I k):=by rw [addV,hd,hkE]
 have hal:addAt dI d I k≤I.length:=by
  rcases BA dI d I k hk with h|h
  · omega
  · omega
 rw [hV]
 generalize addAt dI d I k=a0 at *
 have hones:∀ (J:List ItemD),∀ cs∈J.map ItemD.cells,cs.all (·.oneCell')=true:=fun J cs hcs=>by
  obtain ⟨x,_,rfl⟩:=List.mem_map.1 hcs
  rfl
 have hs1:∀ w,(((Y w∧Items w ki I)∧it.at_ w)∧Glob w)→Src Tryz.prog w 49 (.slice ki.p a0 ki.c) a0 ((I.take a0).map ItemD.cells).flatten:=fun w h=>by
  have h1:=RowsD.take (n:=a0) h.1.1.2.1 (by simpa using hal)
  rw [←List.map_take] at h1
  exact gG h1 (hones _)
 have hs2:∀ w,(((Y w∧Items w ki I)∧it.at_ w)∧Glob w)→Src Tryz.prog w 49 (ki.from 49 a0).v (ki.from 49 a0).n ((I.drop a0).map ItemD.cells).flatten:=fun w h=>by
  have h1:=RowsD.drop (n:=a0) h.1.1.2.1 (by simpa using hal)
  rw [←List.map_drop] at h1
  exact gG h1 (hones _)
 have hfn:(ki.from 49 a0).n=ki.n-a0:=rfl
 refine ib (c:=ki.n+1) (hm:=Nat.ble_eq_true_of_le aa) (hm2:=Nat.ble_eq_true_of_le aa) fun bv=>?_
 repeat' (first|refine gs ?_|refine gs1 fun _=>?_|(refine ai (Ee rfl rfl aa aa) rfl rfl rfl ?_)|(refine gp ?_ ?_<;>intro hx_ this)|fail)
 refine aH (size:=49) (news:=((I.take a0).map ItemD.cells).flatten) (q:=a0) rfl rfl rfl rfl (fun _=>At.here _) (fun w G=>hs1 w G.keep.now) aa (by simp only [maxLen];omega) rfl ?_ rfl ?_
 · (first|with_reducible rfl|with_reducible assumption|with_reducible exact ZI|with_reducible exact ZK)
 intro A1 c1
 repeat' (first|refine cF (size:=49) (vs:=[it.v]) (css:=it.cells) (hsz:=by rfl) (hcs:=by rfl) fun _=>?_|refine gs ?_|refine gs1 fun _=>?_|(refine gp ?_ ?_<;>intro hx_ this)|fail)
 refine aH (size:=49) (news:=it.cells) (q:=1) rfl rfl rfl rfl (fun _=>At.there _ (At.here _)) (fun w G=>bP G ar rfl rfl 1) aa (by simp only [maxLen];omega) rfl ?_ rfl ?_
 · (first|with_reducible rfl|with_reducible assumption|with_reducible exact ZI|with_reducible exact ZK)
 intro A2 c2
 repeat' (first|refine gs ?_|refine gs1 fun _=>?_|(refine ai (Ed (s:=ki) rfl rfl aa aa) rfl rfl rfl ?_)|(refine gp ?_ ?_<;>intro hx_ this)|fail)
 refine aH (size:=49) (news:=((I.drop a0).map ItemD.cells).flatten) (q:=ki.n-a0) rfl rfl rfl rfl (fun _=>At.there _ (At.here _)) (fun w G=>hs2 w G.keep.now) aa (by simp only [maxLen];omega) rfl ?_ rfl ?_
 · (first|with_reducible rfl|with_reducible assumption|with_reducible exact ZI|with_reducible exact ZK)
 intro A3 c3
 repeat' (first|refine gs ?_|refine gs1 fun _=>?_|(refine aC (cs:=[ks.v,.slice A3 (0+a0+1+(ki.n-a0)) c3]) (hf:=by rfl) ?_)|(refine gp ?_ ?_<;>intro hx_ this)|fail)
 refine ad (dR rfl rfl rfl aS (by rfl)) ⟨⟨A3,0+a0+1+(ki.n-a0),c3⟩,rfl,fun w h=>?_⟩
 have hr:=h.2 (orow 63 49 (.slice A3 (0+a0+1+(ki.n-a0)) c3) (0+a0+1+(ki.n-a0)) ([]++((I.take a0).map ItemD.cells).flatten++it.cells++((I.drop a0).map ItemD.cells).flatten)) aS
 refine ⟨bw (e:=63) (xs:=(I.take a0++it::I.drop a0).map ItemD.cells) ?_ (by simp [hkn];omega) fun r hr=>?_,fun x hx=>?_⟩
 · have e:((I.take a0++it::I.drop a0).map ItemD.cells).flatten=[]++((I.take a0).map ItemD.cells).flatten++it.cells++((I.drop a0).map ItemD.cells).flatten:=by simp
   rw [e]
   exact hr
 · obtain ⟨x,_,rfl⟩:=List.mem_map.1 hr
   rfl
 · rcases List.mem_append.1 hx with hx|hx
   · exact h.1.1.1.2.2 x (List.mem_of_mem_take hx)
   · rcases List.mem_cons.1 hx with rfl|hx
     · exact h.1.1.2
     · exact h.1.1.1.2.2 x (List.mem_of_mem_drop hx)
end Go.Proofs.YtoefdofbekihdaaGreatDoor
set_option maxHeartbeats 16000000
namespace Go.Proofs.YtoefdofbekihdaaGreatDoor
open Go Go.Proofs Sy Go.Shelf
namespace Rf4
theorem Fs (m x:Nat) (hm:m≤64):shrV .u64 (x:Int) (m:Int)=((x/2 ^ m:Nat):Int):=by
 show (x:Int).fdiv (2 ^ (min (m:Int).toNat 64))=_
 rw [Qs,Nat.min_eq_left hm,show (2:Int) ^ m=((2 ^ m:Nat):Int) by rw [Int.natCast_pow];rfl,←Int.ofNat_fdiv]
theorem g8 {p:Nat} (h:p<18446744073709551616):IntKind.u64.wrap (p:Int)=(p:Int):=by
 simp [IntKind.wrap,IntKind.signed,IntKind.bits]
 omega
theorem FB (m x:Nat) (hm:m≤62) (hx:x<18446744073709551616):bitsV .and .u64 (x:Int) (((2 ^ m-1:Nat)):Int)=((x%2 ^ m:Nat):Int):=by
 show IntKind.u64.wrap ((((BitVec.ofInt 64 (x:Int)) &&& (BitVec.ofInt 64 (((2 ^ m-1:Nat)):Int))).toNat:Nat):Int)=_
 have h1:2 ^ m≤2 ^ 62:=Nat.pow_le_pow_right (by decide) hm
 have h2:0<2 ^ m:=Nat.two_pow_pos m
 rw [BitVec.toNat_and,BitVec.ofInt_natCast,BitVec.ofInt_natCast,BitVec.toNat_ofNat,BitVec.toNat_ofNat,Z0 (show x<2 ^ 64 by omega),Z0 (show 2 ^ m-1<2 ^ 64 by omega),Nat.and_two_pow_sub_one_eq_mod]
 exact g8 (by have:=Nat.mod_lt x h2;omega)
theorem Fv (m x:Nat) (hm:m≤64) (hx:x*2 ^ m<18446744073709551616):shlV .u64 (x:Int) (m:Int)=((x*2 ^ m:Nat):Int):=by
 show IntKind.u64.wrap ((x:Int)*2 ^ (min (m:Int).toNat 64))=_
 rw [Qs,Nat.min_eq_left hm,show (x:Int)*(2:Int) ^ m=((x*2 ^ m:Nat):Int) by rw [Int.natCast_mul,Int.natCast_pow];rfl]
 exact g8 hx
section
variable {N:Nat} {av bor:List Nat} {w0:World} {st:St} {ty:TypeId} {x y:Operand} {E:Env} {loc:List Res} {X:World→Prop} {ops:Array Oper} {kk k:St→Prop} {pos:String} {af:Array Edge} {g:Option (Nat×Bool)} {rest:List Oper} {bb want:Bool} {n:Nat} {t t2:TypeId} {d:Option Tmp}
theorem oI {k':IntKind} (m r:Nat) {p:Nat} (hx:ev E x=some (.int .u64 (p:Nat)):=by rfl) (hy:ev E y=some (.int k' (m:Int)):=by rfl) (hm:m≤64∧p/2 ^ m=r) (hg:gdB ops E g=some (bb,want):=by rfl) (hbb:bb=want:=by exact am) (hd:Nat.blt n N=true:=by rfl) (h:Sw Tryz.prog N av bor w0 ops rest ⟨(n,.int .u64 (r:Nat))::E,loc,X⟩ k) :
  Sw Tryz.prog N av bor w0 ops (⟨some n,.binOp .shr t x y t2,ty,pos,af,g⟩::rest) ⟨E,loc,X⟩ k:=sE hx hy aa hg hbb hd (by rw [Fs m p hm.1,hm.2];exact h)
theorem oN (m r:Nat) {p:Nat} (hx:ev E x=some (.int .u64 (p:Nat)):=by rfl) (hy:ev E y=some (.int .u64 ((2 ^ m-1:Nat):Int)):=by rfl) (hm:m≤62∧p<18446744073709551616∧p%2 ^ m=r) (hg:gdB ops E g=some (bb,want):=by rfl) (hbb:bb=want:=by exact am) (hd:Nat.blt n N=true:=by rfl) (h:Sw Tryz.prog N av bor w0 ops rest ⟨(n,.int .u64 (r:Nat))::E,loc,X⟩ k) :
  Sw Tryz.prog N av bor w0 ops (⟨some n,.binOp .and t x y t2,ty,pos,af,g⟩::rest) ⟨E,loc,X⟩ k:=ai (pY hx hy) hg hbb hd (by rw [FB m p hm.1 hm.2.1,hm.2.2];exact h)
theorem Ca {k':IntKind} (m r:Nat) {p:Nat} (hx:ev E x=some (.int .u64 (p:Nat)):=by rfl) (hy:ev E y=some (.int k' (m:Int)):=by rfl) (hm:m≤64∧p*2 ^ m<18446744073709551616∧p*2 ^ m=r) (hg:gdB ops E g=some (bb,want):=by rfl) (hbb:bb=want:=by exact am) (hd:Nat.blt n N=true:=by rfl) (h:Sw Tryz.prog N av bor w0 ops rest ⟨(n,.int .u64 (r:Nat))::E,loc,X⟩ k) :
  Sw Tryz.prog N av bor w0 ops (⟨some n,.binOp .shl t x y t2,ty,pos,af,g⟩::rest) ⟨E,loc,X⟩ k:=zl hx hy aa hg hbb hd (by rw [Fv m p hm.1 hm.2.1,hm.2.2];exact h)
theorem uv [hI:TyInt Tryz.prog t .u64] {p q:Nat} (h:Sw Tryz.prog N av bor w0 ops rest ⟨(n,.int .u64 ((p*q:Nat):Int))::E,loc,X⟩ k) (hx:ev E x=some (.int .u64 (p:Nat)):=by rfl) (hy:ev E y=some (.int .u64 (q:Nat)):=by rfl) (hq:p*q<18446744073709551616) (hg:gdB ops E g=some (bb,want):=by rfl) (hbb:bb=want:=by exact am) (hd:Nat.blt n N=true:=by rfl) :
  Sw Tryz.prog N av bor w0 ops (⟨some n,.binOp .mul t x y t2,ty,pos,af,g⟩::rest) ⟨E,loc,X⟩ k:=eC (c:=((p*q:Nat):Int)) hx hy (by rw [←Int.natCast_mul];exact g8 hq) hg hbb hd h
theorem ux [hI:TyInt Tryz.prog t .u64] {p q:Nat} (h:Sw Tryz.prog N av bor w0 ops rest ⟨(n,.int .u64 ((p+q:Nat):Int))::E,loc,X⟩ k) (hx:ev E x=some (.int .u64 (p:Nat)):=by rfl) (hy:ev E y=some (.int .u64 (q:Nat)):=by rfl) (hq:p+q<18446744073709551616) (hg:gdB ops E g=some (bb,want):=by rfl) (hbb:bb=want:=by exact am) (hd:Nat.blt n N=true:=by rfl) :
  Sw Tryz.prog N av bor w0 ops (⟨some n,.binOp .add t x y t2,ty,pos,af,g⟩::rest) ⟨E,loc,X⟩ k:=dO (c:=((p+q:Nat):Int)) hx hy (by rw [←Int.natCast_add];exact g8 hq) hg hbb hd h
end
theorem EN {P:Program} {fn:Func} {N t u r:Nat} {s:St} {v x y:Value} (hr:fn.results=#[.tmp t,.tmp u,.tmp r]) (h:Sy.look s.env t=some v) (h':Sy.look s.env u=some x) (h2:Sy.look s.env r=some y):Res1 P fn N s (.tuple #[v,x,y]):=fun av bor w0 a w ok=>by
 have h3:=ok.env t v h
 have h4:=ok.env u x h'
 have h5:=ok.env r y h2
 simp [results,hr,h3,h4,h5]
theorem jM (a m:Nat) (hm:0<m) (hm2:m<4611686018427387904):Pu Tryz.prog 224 #[.int .i64 (a:Int),.int .i64 (m:Int)] (fun _=>True) (.int .i64 ((a%m:Nat):Int)):=by
 refine ak (args:=[_,_]) _ Tryz.func224 rfl Tryz.ntmps224 rfl fun av bor w0=>?_
 have hr:Eqq ((a:Int).tmod (m:Int)) ((a%m:Nat):Int):=iV a m
 repeat' (first|refine eZ (hb:=by omega) (hc:=hr) ?_|refine gs ?_|(refine gp ?_ ?_<;>intro hx_ this)|fail)
 · exfalso;omega
 · apply ad;apply ag;rfl;rfl
   rfl
theorem qU (a b x1 x0 y1 y0:Nat) (ha:a<2305843009213693952) (hb:b<2305843009213693952) (h1:a/2 ^ 31=x1) (h0:a%2 ^ 31=x0) (g1:b/2 ^ 31=y1) (g0:b%2 ^ 31=y0) (hm:x1*y1<1152921504606846976) (hp:x1*y0<4611686018427387904) (hq:x0*y1<4611686018427387904) (hr:x0*y0<4611686018427387904) :
  Pu Tryz.prog 223 #[.int .i64 (a:Int),.int .i64 (b:Int)] (fun _=>True) (.tuple #[.int .u64 ((x1*y1:Nat):Int),.int .u64 ((x1*y0+x0*y1:Nat):Int),.int .u64 ((x0*y0:Nat):Int)]):=by
 refine ak (args:=[_,_]) _ Tryz.func223 rfl Tryz.ntmps223 rfl fun av bor w0=>?_
 repeat' (first|refine SrG.sy_toU_g (hq:=by omega) (h:=?_)|refine oI 31 x1 (hm:=by omega) (h:=?_)|refine oI 31 y1 (hm:=by omega) (h:=?_)|refine oN 31 x0 (hm:=by omega) (h:=?_)|refine oN 31 y0 (hm:=by omega) (h:=?_)|refine uv (hq:=by omega) ?_|refine ux (hq:=by omega) ?_|refine gs ?_|(refine gp ?_ ?_<;>intro hx_ this)|fail)
 exact ad (EN rfl rfl rfl rfl) rfl
theorem mulR {x y x1 x0 y1 y0:Nat} (h1:x/2 ^ 31=x1) (h0:x%2 ^ 31=x0) (g1:y/2 ^ 31=y1) (g0:y%2 ^ 31=y0) :
  x*y%2305843009213693951=(2*(x1*y1)+(x1*y0+x0*y1)/2 ^ 30+(x1*y0+x0*y1)%2 ^ 30*2 ^ 31+x0*y0)%2305843009213693951:=by
 have hx:x=x1*2147483648+x0:=by omega
 have hy:y=y1*2147483648+y0:=by omega
 have e:x*y=x1*y1*4611686018427387904+(x1*y0+x0*y1)*2147483648+x0*y0:=by
  rw [hx,hy,Nat.add_mul,Nat.mul_add,Nat.mul_add,Nat.mul_mul_mul_comm,Nat.mul_right_comm x1 _ y0,←Nat.mul_assoc x0,Nat.add_mul (x1*y0)]
  omega
 rw [e]
 generalize x1*y1=H
 generalize x1*y0+x0*y1=M
 generalize x0*y0=L
 have:H*4611686018427387904+M*2147483648+L=(2*H+M/2 ^ 30+M%2 ^ 30*2 ^ 31+L)+2305843009213693951*(2*H+M/2 ^ 30):=by omega
 rw [this,Nat.add_mul_mod_self_left]
theorem jL (a b:Nat):Pu Tryz.prog 151 #[.int .i64 (a:Int),.int .i64 (b:Int)] (fun _=>True) (.int .i64 ((a*b%2305843009213693951:Nat):Int)):=by
 refine ak (args:=[_,_]) _ Tryz.func151 rfl Tryz.ntmps151 rfl fun av bor w0=>?_
 have c1:=jM a 2305843009213693951 (by decide) (by decide)
 have c2:=jM b 2305843009213693951 (by decide) (by decide)
 have hx:=Nat.mod_lt a (show 0<2305843009213693951 by decide)
 have hy:=Nat.mod_lt b (show 0<2305843009213693951 by decide)
 have hab:a*b%2305843009213693951=(a%2305843009213693951)*(b%2305843009213693951)%2305843009213693951:=Nat.mul_mod a b _
 rw [hab]
 generalize a%2305843009213693951=x at *
 generalize b%2305843009213693951=y at *
 obtain ⟨x1,h1⟩:∃ x1,x/2 ^ 31=x1:=⟨_,rfl⟩
 obtain ⟨x0,h0⟩:∃ x0,x%2 ^ 31=x0:=⟨_,rfl⟩
 obtain ⟨y1,g1⟩:∃ y1,y/2 ^ 31=y1:=⟨_,rfl⟩
 obtain ⟨y0,g0⟩:∃ y0,y%2 ^ 31=y0:=⟨_,rfl⟩
 have b1:x1≤1073741823:=by omega
 have b0:x0≤2147483647:=by omega
 have d1:y1≤1073741823:=by omega
 have d0:y0≤2147483647:=by omega
 have m1:x1*y1≤1073741823*1073741823:=Nat.mul_le_mul b1 d1
 have m2:x1*y0≤1073741823*2147483647:=Nat.mul_le_mul b1 d0
 have m3:x0*y1≤2147483647*1073741823:=Nat.mul_le_mul b0 d1
 have m4:x0*y0≤2147483647*2147483647:=Nat.mul_le_mul b0 d0
 have c3:=qU x y x1 x0 y1 y0 aa aa h1 h0 g1 g0 aa aa aa aa
 rw [mulR h1 h0 g1 g0]
 generalize x1*y1=H at *
 generalize hM:x1*y0+x0*y1=M at *
 have hM2:M≤1073741823*2147483647+2147483647*1073741823:=by omega
 generalize x0*y0=L at *
 obtain ⟨p,hp⟩:∃ p,M/2 ^ 30=p:=⟨_,rfl⟩
 obtain ⟨q,hq⟩:∃ q,M%2 ^ 30=q:=⟨_,rfl⟩
 obtain ⟨r,hr⟩:∃ r,q*2 ^ 31=r:=⟨_,rfl⟩
 rw [hp,hq,hr]
 have hrm:Eqq (((2*H+p+r+L:Nat):Int).tmod 2305843009213693951) (((2*H+p+r+L)%2305843009213693951:Nat):Int):=iV (2*H+p+r+L) 2305843009213693951
 have hz:=Nat.mod_lt (2*H+p+r+L) (show 0<2305843009213693951 by decide)
 repeat' (first|refine SrG.sy_toI_g (hq:=by omega) (h:=?_)|refine oI 30 p (hm:=by omega) (h:=?_)|refine oN 30 q (hm:=by omega) (h:=?_)|refine Ca 31 r (hm:=by omega) (h:=?_)|refine uv (p:=2) (hq:=by omega) ?_|refine ux (hq:=by omega) ?_|refine eZ (hb:=by decide) (hc:=hrm) ?_|(refine ab (hc:=c1) (hX:=fun w h=>h) ?_)|(refine ab (hc:=c2) (hX:=fun w h=>h) ?_)|(refine ab (hc:=c3) (hX:=fun w h=>h) ?_)|refine gs ?_|(refine gp ?_ ?_<;>intro hx_ this)|fail)
 apply ad;apply ag;rfl;rfl
 rfl
end Rf4
namespace Rf4
theorem quo2 (a:Nat) (ha:a<9223372036854775808):IntKind.i64.wrap ((a:Int).tdiv 2)=((a/2:Nat):Int):=by
 rw [show (2:Int)=((2:Nat):Int) from rfl,Int.tdiv_eq_ediv_of_nonneg aa,←Int.natCast_ediv]
 exact IntWalk.i64_in _ aa
structure ExS (a e:Nat) where
 x:Nat
 b:Nat
 f:Nat
 hx:x<2305843009213693951
 hf:f≤e
 inv:x*b ^ f%2305843009213693951=a ^ e%2305843009213693951
theorem zQ (b h M:Nat):(b*b%M) ^ h%M=b ^ (h+h)%M:=by
 rw [←Nat.pow_mod,Nat.mul_pow,←Nat.pow_add]
theorem C3 {x b f M:Nat} (h:f%2=1):(x*b%M)*(b*b%M) ^ (f/2)%M=x*b ^ f%M:=by
 have hf:f=1+(f/2+f/2):=by omega
 conv=>rhs;rw [hf,Nat.pow_add,Nat.pow_one,←Nat.mul_assoc]
 rw [Nat.mul_mod (x*b%M),Nat.mod_mod,zQ,←Nat.mul_mod]
theorem AG {x b f M:Nat} (h:¬ f%2=1):x*(b*b%M) ^ (f/2)%M=x*b ^ f%M:=by
 have hf:f=f/2+f/2:=by omega
 conv=>rhs;rw [hf]
 rw [Nat.mul_mod,zQ,←Nat.mul_mod]
theorem wJ (a e:Nat) (he:e<9223372036854775808):Pu Tryz.prog 152 #[.int .i64 (a:Int),.int .i64 (e:Int)] (fun _=>True) (.int .i64 ((a ^ e%2305843009213693951:Nat):Int)):=by
 refine ak (args:=[_,_]) _ Tryz.func152 rfl Tryz.ntmps152 rfl fun av bor w0=>?_
 have c1:=jM a 2305843009213693951 (by decide) (by decide)
 repeat' (first|(refine ab (hc:=c1) (hX:=fun w h=>h) ?_)|refine gs ?_|(refine gp ?_ ?_<;>intro hx_ this)|fail)
 · exfalso;omega
 · refine ap (ι:=ExS a e) (fun i=>⟨[(1,.int .i64 (i.f:Nat)),(5,.int .i64 (i.x:Nat)),(6,.int .i64 (i.b:Nat))],[],fun _=>True⟩) (fun i=>i.f) ⟨1,a%2305843009213693951,e,by decide,Qq _,by rw [Nat.one_mul,←Nat.pow_mod]⟩ (aj ⟨rfl,rfl,rfl,trivial⟩ (ZR _) fun _ h=>h) fun i=>?_
   obtain ⟨x,b,f,hx,hf,inv⟩:=i
   simp only
   have hm1:=jL x b
   have hm2:=jL b b
   have hr:Eqq ((f:Int).tmod 2) ((f%2:Nat):Int):=iV f 2
   have hq:Eqq (IntKind.i64.wrap ((f:Int).tdiv 2)) ((f/2:Nat):Int):=quo2 f aa
   repeat' (first|refine eZ (hb:=by decide) (hc:=hr) ?_|refine iu (hb:=by decide) (hc:=hq) ?_|(refine ab (hc:=hm1) (hX:=fun w h=>h) ?_)|(refine ab (hc:=hm2) (hX:=fun w h=>h) ?_)|refine gs ?_|(refine gp ?_ ?_<;>intro hx_ this)|fail)
   · have hc:f%2=1:=by
      have:=aP hx_
      omega
     exact ⟨(⟨x*b%2305843009213693951,b*b%2305843009213693951,f/2,Nat.mod_lt _ (by decide),by omega,(C3 hc).trans inv⟩:ExS a e),(by show f/2<f;omega),aj ⟨rfl,rfl,rfl,trivial⟩ (ZR _) fun _ h=>h⟩
   · have hc:¬ f%2=1:=by
      have:=aZ hx_
      omega
     exact ⟨(⟨x,b*b%2305843009213693951,f/2,hx,by omega,(AG hc).trans inv⟩:ExS a e),(by show f/2<f;omega),aj ⟨rfl,rfl,rfl,trivial⟩ (ZR _) fun _ h=>h⟩
   · have hk:f=0:=by omega
     apply ad;apply ag;rfl;rfl
     rw [←inv,hk,Nat.pow_zero,Nat.mul_one,Z0 hx]
end Rf4
namespace Rf4
theorem ji:∀ f x:Nat,x<2 ^ f→x<2 ^ Lib.bitLenAux f x
 | 0,x,h=>h
 | f+1,x,h=>by
  rw [Lib.bitLenAux]
  split
  · rename_i h0
    rw [h0]
    decide
  · have h1:=ji f (x/2) (by rw [Nat.pow_succ] at h;omega)
    rw [Nat.pow_add]
    omega
theorem rH (a e:Nat):∀ i,(expF a e i).1=a ^ (e%2 ^ i)%2305843009213693951∧(expF a e i).2=a ^ 2 ^ i%2305843009213693951
 | 0=>by
  refine ⟨?_,?_⟩
  · show 1=_
    rw [Nat.pow_zero,Nat.mod_one,Nat.pow_zero]
  · show a%_=_
    rw [Nat.pow_zero,Nat.pow_one]
 | i+1=>by
  obtain ⟨h1,h2⟩:=rH a e i
  refine ⟨?_,?_⟩
  · show (bif decide (e/2 ^ i%2=1) then (expF a e i).1*(expF a e i).2%2305843009213693951 else (expF a e i).1)=_
    rw [Nat.mod_pow_succ,h1,h2]
    by_cases h:e/2 ^ i%2=1
    · rw [ZA h,ZC,h,Nat.mul_one,Nat.pow_add,←Nat.mul_mod]
    · have h0:e/2 ^ i%2=0:=by omega
      rw [Zn h,ZB,h0,Nat.mul_zero,Qk]
  · show (expF a e i).2*(expF a e i).2%2305843009213693951=_
    rw [h2,←Nat.mul_mod,←Nat.pow_add,Nat.pow_succ,Nat.mul_two]
theorem AX (a e:Nat) (he:e<9223372036854775808):expV a e=a ^ e%2305843009213693951:=by
 have h:e<2 ^ Lib.bitLen e:=ji 64 e aa
 rw [expV,(rH a e _).1,Z0 h]
theorem me (a e:Nat) (he:e<9223372036854775808):Pu Tryz.prog 152 #[.int .i64 (a:Int),.int .i64 (e:Int)] (fun _=>True) (.int .i64 (expV a e:Nat)):=by
 rw [AX a e he]
 exact wJ a e he
def numS (s:ByteArray) (k:Nat):Nat:=bif decide (k=8) then numN (nl s) else numF (nl s) k
theorem pt {s:ByteArray} {k:Nat} (h:k<8):numS s k=numF (nl s) k:=by rw [numS,Zn aa,ZB]
theorem jC {n:Nat} (h:n<9223372036854775808):IntKind.i64.wrap (n:Int)=(n:Int):=IntWalk.i64_in _ aa
theorem stepA {s:ByteArray} {k:Nat} (h:k<7) {b:Int} (hb:b=(((nl s).getD k 0:Nat):Int)):IntKind.i64.wrap (IntKind.i64.wrap (256*((numS s k:Nat):Int))+b)=((numS s (k+1):Nat):Int):=by
 have h1:=numF7 s (show k<8 by omega)
 have h2:=numF7 s (show k+1<8 by omega)
 rw [pt aa,pt aa,hb]
 rw [numF] at h2 ⊢
 generalize numF (nl s) k=x at *
 generalize (nl s).getD k 0=y at *
 rw [show (256:Int)*(x:Int)=((256*x:Nat):Int) by omega,jC aa,←Int.natCast_add,jC (by omega)]
 omega
theorem stepB {s:ByteArray} {b:Int} (hb:b=(((nl s).getD 7 0:Nat):Int)):IntKind.i64.wrap (IntKind.i64.wrap (32*((numS s 7:Nat):Int))+IntKind.i64.wrap (b.tdiv 8))=((numS s 8:Nat):Int):=by
 have h1:=numF7 s (show 7<8 by omega)
 have h2:=fE (jf s) 7
 have e8:numS s 8=(numF (nl s) 7*256+(nl s).getD 7 0)/8:=rfl
 rw [e8,pt aa,hb]
 generalize numF (nl s) 7=x at *
 generalize (nl s).getD 7 0=y at *
 rw [show (32:Int)*(x:Int)=((32*x:Nat):Int) by omega,jC aa,show ((y:Int)).tdiv 8=((y/8:Nat):Int) by rw [Int.tdiv_eq_ediv_of_nonneg (by omega)];omega,jC aa,←Int.natCast_add,jC (by omega)]
 omega
theorem byteIn {s:ByteArray} {k:Nat} (h:k<s.size):IntKind.i64.wrap (byteAt s (k:Int).toNat)=(((nl s).getD k 0:Nat):Int):=by
 have h2:=fE (jf s) k
 rw [show ((k:Int)).toNat=k from rfl,pL s _ h,jC (by omega)]
theorem byteOut {s:ByteArray} {k:Nat} (h:s.size≤k):(0:Int)=(((nl s).getD k 0:Nat):Int):=by
 rw [ZL,List.getElem?_eq_none (by rw [dp];exact h),Option.getD_none]
 rfl
theorem qV (s:ByteArray):Pu Tryz.prog 222 #[.string s] (fun _=>True) (.int .i64 (numN (nl s):Nat)):=by
 refine ak (args:=[_]) _ Tryz.func222 rfl Tryz.ntmps222 rfl fun av bor w0=>?_
 repeat' (first|refine gs ?_|(refine gp ?_ ?_<;>intro hx_ this)|fail)
 refine ap (ι:=Kth 8) (fun i=>⟨[(0,.string s),(3,.int .i64 ((numS s i.k:Nat):Int)),(4,.int .i64 i.k)],[],fun _=>True⟩) (fun i=>8-i.k) ⟨0,Nat.zero_le _⟩ (aj ⟨rfl,rfl,rfl,trivial⟩ (al _) fun _ h=>h) fun i=>?_
 have hik:=i.hk
 repeat' (first|refine iu (hb:=by decide) (hc:=rfl) ?_|refine gs ?_|(refine gp ?_ ?_<;>intro hx_ this)|fail)
 · exact ⟨⟨i.k+1,by omega⟩,(by show 8-(i.k+1)<8-i.k;omega),aj ⟨rfl,congrArg (fun z=>some (Value.int IntKind.i64 z)) (stepA aa (byteIn aa)),rfl,trivial⟩ (al _) fun _ h=>h⟩
 · have e7:i.k=7:=by omega
   obtain ⟨k,hk⟩:=i
   simp only at e7
   subst e7
   have hE:=@stepB s _ (byteIn (k:=7) aa)
   exact ⟨⟨8,by omega⟩,(by show 8-8<8-7;omega),aj ⟨rfl,congrArg (fun z=>some (Value.int IntKind.i64 z)) hE,rfl,trivial⟩ (al _) fun _ h=>h⟩
 · exact ⟨⟨i.k+1,by omega⟩,(by show 8-(i.k+1)<8-i.k;omega),aj ⟨rfl,congrArg (fun z=>some (Value.int IntKind.i64 z)) (stepA aa (byteOut aa)),rfl,trivial⟩ (al _) fun _ h=>h⟩
 · have e7:i.k=7:=by omega
   obtain ⟨k,hk⟩:=i
   simp only at e7
   subst e7
   have hE:=@stepB s _ (byteOut (k:=7) aa)
   exact ⟨⟨8,by omega⟩,(by show 8-8<8-7;omega),aj ⟨rfl,congrArg (fun z=>some (Value.int IntKind.i64 z)) hE,rfl,trivial⟩ (al _) fun _ h=>h⟩
 · have h8:i.k=8:=by omega
   apply ad;apply ag;rfl;rfl
   rw [h8]
   rfl
end Rf4
namespace Rf4
theorem sZ (s:ByteArray) (hs:s.size≤1099511627776):Pu Tryz.prog 150 #[.string s] (fun _=>True) (.int .i64 (numN (nl (shaV s)):Nat)):=by
 refine ak (args:=[_]) _ Tryz.func150 rfl Tryz.ntmps150 rfl fun av bor w0=>?_
 repeat' (first|refine ab (hc:=nS _ hs) ?_|refine ab (hc:=qV _) ?_|refine gs ?_|(refine gp ?_ ?_<;>intro hx_ this)|fail)
 exact ad (ag rfl rfl) rfl
theorem td (r p:Nat) (msg:ByteArray) (hr:r<9223372036854775808) (hp:p<9223372036854775808) (hm:msg.size≤1000000000000) :
  Pu Tryz.prog 83 #[.int .i64 (r:Int),.int .i64 (p:Int),.string msg] (fun _=>True) (.int .i64 (chalN r p msg:Nat)):=by
 refine ak (args:=[_,_,_]) _ Tryz.func83 rfl Tryz.ntmps83 rfl fun av bor w0=>?_
 have h1:=ax ⟨#[115,105,103,110]⟩
 have h2:=ao (r:Int)
 have h3:=ao (p:Int)
 have h4:=ax msg
 have h5:(⟨#[115,105,103,110]⟩:ByteArray).size=4:=rfl
 have ec:catB (chalP r p msg)=textV ⟨#[115,105,103,110]⟩++numV (r:Int)++numV (p:Int)++textV msg:=by
  show textV ⟨#[115,105,103,110]⟩++(numV (r:Int)++(numV (p:Int)++(textV msg++ByteArray.empty)))=_
  rw [ByteArray.append_empty,ZV,ZV]
 have hsz:(catB (chalP r p msg)).size≤1099511627776:=by
  rw [ec]
  simp only [Zl]
  omega
 have ch:=sZ (catB (chalP r p msg)) hsz
 have c1:=cY ⟨#[115,105,103,110]⟩ (by decide)
 rw [ec] at ch
 have hrm:Eqq (((numN (nl (shaV (textV ⟨#[115,105,103,110]⟩++numV (r:Int)++numV (p:Int)++textV msg))):Nat):Int).tmod 2305843009213693950) ((chalN r p msg:Nat):Int):=by
  rw [chalN,hashN,ec]
  exact iV _ 2305843009213693950
 repeat' (first|refine lT (hb:=by ((try simp only [Zl]);omega)) ?_|refine eZ (hb:=by decide) (hc:=hrm) ?_|(refine ab (hc:=c1) (hX:=fun _ _=>trivial) ?_)|refine ab (hc:=cY _ aa) ?_|refine ab (hc:=ci _ aa) ?_|(refine ab (hc:=ch) (hX:=fun _ _=>trivial) ?_)|refine gs ?_|(refine gp ?_ ?_<;>intro hx_ this)|fail)
 all_goals first
  | exact ad (ag rfl rfl) rfl
section
variable {P:Program} {N:Nat} {av bor:List Nat} {w0:World} {st:St} {ty:TypeId} {x y:Operand} {t t2:TypeId}
theorem y_subM [hI:TyInt P t .i64] {p q:Nat} (hx:ev st.env x=some (.int .i64 (p:Nat))) (hy:ev st.env y=some (.int .i64 (q:Nat))) (hq:q≤p∧p<9223372036854775808):Sy.Yields P N av bor w0 st (.binOp .sub t x y t2) ty (.int .i64 ((p-q:Nat):Int)) :=
 nr hx hy (by rw [show (p:Int)-(q:Int)=((p-q:Nat):Int) by omega];exact IntWalk.i64_in _ aa)
end
theorem pg (p e s:Nat) (he:e≤2305843009213693950) (hs:s≤2305843009213693950) :
  Pu Tryz.prog 84 #[.int .i64 (p:Int),SgD.v ⟨(e:Int),(s:Int)⟩] (fun _=>True) (.int .i64 ((expV 37 s*expV p (2305843009213693950-e)%2305843009213693951:Nat):Int)):=by
 refine ak (args:=[_,_]) _ Tryz.func84 rfl Tryz.ntmps84 rfl fun av bor w0=>?_
 have c1:=me 37 s aa
 have c2:=me p (2305843009213693950-e) aa
 have c3:=jL (expV 37 s) (expV p (2305843009213693950-e))
 repeat' (first|refine gs ?_|refine gs1 fun _=>?_|(refine gp ?_ ?_<;>intro hx_ this)|fail)
 (refine aR ⟨[0,1,3,4,5,6],[(2,⟨[],[(7,⟨[],[(8,⟨[9],[]⟩)]⟩)]⟩)]⟩ (h:=?_))
 all_goals repeat' (first|refine ay (hy:=by first|(apply y_subM (p:=2305843009213693950);rfl;rfl;omega)) ?_|(refine ab (hc:=c1) (hX:=fun _ _=>trivial) ?_)|(refine ab (hc:=c2) (hX:=fun _ _=>trivial) ?_)|(refine ab (hc:=c3) (hX:=fun _ _=>trivial) ?_)|refine gd ?_|refine az ?_ (h':=?_)|exact aA|refine gs1 fun _=>?_|(refine gq ?_ ?_<;>intro hx_ this)|fail)
 all_goals
  repeat' (first|refine gs ?_|refine gs1 fun _=>?_|(refine gp ?_ ?_<;>intro hx_ this)|fail)
  exact ad (ag rfl rfl) rfl
def ranB (p e s:Int):Bool:=!(decide (p<1)||decide (2305843009213693951≤p)||!ordV e||!ordV s)
theorem tj {p e s:Int}:ranB p e s=(decide (1≤p)&&(decide (p<2305843009213693951)&&(decide (0≤e)&&(decide (e<2305843009213693950)&&(decide (0≤s)&&decide (s<2305843009213693950)))))):=by
 rw [ranB,ordV,ordV]
 have e1:decide (p<1)=!decide (1≤p):=by by_cases h:1≤p<;>simp [h]<;>omega
 have e2:decide (2305843009213693951≤p)=!decide (p<2305843009213693951):=by by_cases h:p<2305843009213693951<;>simp [h]<;>omega
 rw [e1,e2]
 cases decide (1≤p)<;>cases decide (p<2305843009213693951)<;>cases decide (0≤e)<;>cases decide (e<2305843009213693950)<;>cases decide (0≤s)<;>cases decide (s<2305843009213693950)<;>rfl
theorem pb (p e s:Int):Pu Tryz.prog 82 #[.int .i64 p,SgD.v ⟨e,s⟩] (fun _=>True) (.bool (ranB p e s)):=by
 refine ak (args:=[_,_]) _ Tryz.func82 rfl Tryz.ntmps82 rfl fun av bor w0=>?_
 rw [tj]
 repeat' (first|refine gs ?_|refine gs1 fun _=>?_|(refine gp ?_ ?_<;>intro hx_ this)|fail)
 all_goals refine ad (ag rfl rfl) ?_
 all_goals simp_all
 all_goals (intros;omega)
theorem refVerify_pu (p:Int) (msg:ByteArray) (e s:Int) (hm:msg.size≤1000000000000):Pu Tryz.prog 45 #[.int .i64 p,.string msg,SgD.v ⟨e,s⟩] (fun _=>True) (.bool (verN p msg e s)):=by
 refine ak (args:=[_,_,_]) _ Tryz.func45 rfl Tryz.ntmps45 rfl fun av bor w0=>?_
 have hrg:=pb p e s
 cases hbad:(decide (p<1)||decide (2305843009213693951≤p)||!ordV e||!ordV s) with
 | true =>
  rw [show ranB p e s=false from by rw [ranB,hbad];rfl] at hrg
  rw [show verN p msg e s=false from by rw [verN,hbad];rfl]
  repeat' (first|(refine ab (hc:=hrg) (hX:=fun _ _=>trivial) ?_)|refine gs ?_|refine gs1 fun _=>?_|(refine gp ?_ ?_<;>intro hx_ this)|fail)
  exact ad (ag rfl rfl) rfl
 | false =>
  have hb:=hbad
  simp only [Bool.or_eq_false_iff,decide_eq_false_iff_not,Bool.not_eq_false'] at hb
  obtain ⟨⟨⟨h1,h2⟩,h3⟩,h4⟩:=hb
  simp only [ordV,ZM,ZT] at h3 h4
  rw [show ranB p e s=true from by rw [ranB,hbad];rfl] at hrg
  obtain ⟨pn,rfl⟩:∃ n:Nat,p=(n:Int):=⟨p.toNat,by omega⟩
  obtain ⟨en,rfl⟩:∃ n:Nat,e=(n:Int):=⟨e.toNat,by omega⟩
  obtain ⟨sn,rfl⟩:∃ n:Nat,s=(n:Int):=⟨s.toNat,by omega⟩
  have c1:=pg pn en sn aa aa
  obtain ⟨r,hr⟩:∃ r,expV 37 sn*expV pn (2305843009213693950-en)%2305843009213693951=r:=⟨_,rfl⟩
  have hrl:r<2305843009213693951:=by rw [←hr];exact Nat.mod_lt _ (by decide)
  have hV:verN (pn:Int) msg (en:Int) (sn:Int)=decide (((en:Nat):Int)=(chalN r pn msg:Nat)):=by
   rw [verN,hbad,ZB,Qs,Qs,Qs,hr]
  rw [hr] at c1
  rw [hV,show decide (((en:Nat):Int)=(chalN r pn msg:Nat))=decide (((chalN r pn msg:Nat):Int)=(en:Nat)) from by by_cases h:((en:Nat):Int)=(chalN r pn msg:Nat)<;>simp [h,eq_comm]]
  have c2:=td r pn msg aa aa hm
  clear hbad hV hr
  generalize chalN r pn msg=cn at *
  repeat' (first|(refine ab (hc:=hrg) (hX:=fun _ _=>trivial) ?_)|refine gs ?_|refine gs1 fun _=>?_|(refine gp ?_ ?_<;>intro hx_ this)|fail)
  (refine aR ⟨[0,1,3,4,6,7],[(2,⟨[],[(5,⟨[8,9],[]⟩)]⟩)]⟩ (h:=?_))
  all_goals repeat' (first|(refine ab (hc:=c1) (hX:=fun _ _=>trivial) ?_)|(refine ab (hc:=c2) (hX:=fun _ _=>trivial) ?_)|refine gd ?_|refine az ?_ (h':=?_)|exact aA|refine gs1 fun _=>?_|(refine gq ?_ ?_<;>intro hx_ this)|fail)
  all_goals
   repeat' (first|refine gs ?_|refine gs1 fun _=>?_|(refine gp ?_ ?_<;>intro hx_ this)|fail)
   exact ad (ag rfl rfl) rfl
end Rf4
end Go.Proofs.YtoefdofbekihdaaGreatDoor
set_option maxHeartbeats 16000000
namespace Go.Proofs.YtoefdofbekihdaaGreatDoor
open Go Go.Proofs Sy
theorem sT (a:ActD):sameZ a=actZ a:=by
 rw [sameZ,actZ]
 simp only [ActD.zero,ZE]
 cases decide ((a.to.n:Int)=0)<;>cases decide ((a.wraps.n:Int)=0)<;>(simp [Bool.and_comm,Bool.and_left_comm,Bool.and_assoc];try rfl)
set_option maxRecDepth 20000 in
set_option maxHeartbeats 8000000 in
theorem tb (d:DecD):Pu Tryz.prog 77 #[d.v,DecD.zero.v] (fun _=>True) (.bool (decZ d)):=by
 refine ak (args:=[_,_]) _ Tryz.func77 rfl Tryz.ntmps77 rfl fun av bor w0=>?_
 repeat' (first|refine gs ?_|refine gs1 fun _=>?_|(refine gp ?_ ?_<;>intro hx_ this)|fail)
 · refine ad (ag rfl rfl) ?_
   have h0:DecD.zero.to.n=0:=rfl
   rw [h0] at hx_
   simp_all [decZ]
 rename_i b1 b2
 have n1:d.to.n=0:=by
  have h0:DecD.zero.to.n=0:=rfl
  rw [h0] at hx_
  simpa using hx_
 refine ap (ι:=Unit) (fun _=>⟨[(2,.pointer (some ⟨b1,0,none⟩)),(3,.pointer (some ⟨b2,0,none⟩)),(5,.int .i64 0)],[cel b2 61 DecD.zero.cells,cel b1 61 d.cells],fun _=>True⟩) (fun _=>0) () (aj ⟨rfl,rfl,rfl,trivial⟩ (al _) fun _ h=>h) fun _=>?_
 repeat' (first|refine gs ?_|refine gs1 fun _=>?_|(refine jE (a:=d.e) (b:=d.s) (c:=0) (e:=0) ?_)|(refine aw ?_)|(refine aw (vs:=[.int .i64 d.e,.int .i64 d.s]) (hv:=rfl) ?_)|(refine aw (vs:=[.int .i64 0,.int .i64 0]) (hv:=rfl) ?_)|(refine gp ?_ ?_<;>intro hx_ this)|fail)
 · exact absurd this (by rw [n1];decide)
 all_goals (
  refine ad (ag rfl rfl) ?_
  have q1:decide ((d.to.n:Int)=0)=true:=by rw [n1];rfl
  rw [decZ,q1]
  clear q1 n1
  first
   | rfl
   | (simp_all only [ZD,ZG,ZH,ZQ,ZO,ZE];done)
   | (simp_all;done)
   | skip)
 all_goals simp_all [DecD.zero]
theorem xJ:actZ ActD.zero=true:=by decide +kernel
theorem pJ:claimEq ClaimD.zero ClaimD.zero=true:=by decide +kernel
theorem nq:ballotEq BallotD.zero BallotD.zero=true:=by decide +kernel
theorem xv:decZ DecD.zero=true:=by decide +kernel
set_option maxRecDepth 20000 in
set_option maxHeartbeats 16000000 in
theorem iW (i:ItemD) (hs:i.Str):Pu Tryz.prog 44 #[i.v] (fun w=>i.at_ w) (.bool (rightIt i)):=by
 refine ak (args:=[_]) _ Tryz.func44 rfl Tryz.ntmps44 rfl fun av bor w0=>?_
 have c1:=sX i.act
 rw [sT] at c1
 have c2:=kg i.act hs.act
 have c3:=tb i.dec
 have c4:=nf i.claim hs.claim
 have c5:=qT i.ballot hs.ballot
 have c6:=nd i.dec hs.dec
 by_cases h0:i.kind=0
 · have e:rightIt i=(rightB i.act&&(claimEq i.claim ClaimD.zero&&(ballotEq i.ballot BallotD.zero&&decZ i.dec))):=by simp [rightIt,rightK2,restI,sameIZ,h0,xJ]
   rw [e]
   repeat' (first|refine aE (hab:=by omega) ?_|refine aD (hab:=by omega) ?_|(refine ab (hc:=c1) (hX:=fun _ _=>trivial) ?_)|(refine ab (hc:=c2) (hX:=fun w h=>h.1) ?_)|(refine ab (hc:=c3) (hX:=fun _ _=>trivial) ?_)|(refine ab (hc:=c4) (hX:=fun _ _=>trivial) ?_)|(refine ab (hc:=c5) (hX:=fun _ _=>trivial) ?_)|(refine ab (hc:=c6) (hX:=fun w h=>h.2) ?_)|refine gs ?_|refine gs1 fun _=>?_|(refine eL (a:=i.claim) (b:=ClaimD.zero) ?_)|(refine ek (a:=i.ballot) (b:=BallotD.zero) ?_)|(refine aC (cs:=ActD.zero.cells) (hf:=by rfl) ?_)|(refine aC (cs:=ClaimD.zero.cells) (hf:=by rfl) ?_)|(refine aC (cs:=BallotD.zero.cells) (hf:=by rfl) ?_)|(refine aC (cs:=DecD.zero.cells) (hf:=by rfl) ?_)|(refine aw (vs:=i.act.cells) (hv:=rfl) ?_)|(refine aw (vs:=i.claim.cells) (hv:=rfl) ?_)|(refine aw (vs:=i.ballot.cells) (hv:=rfl) ?_)|(refine aw (vs:=i.dec.cells) (hv:=rfl) ?_)|(refine gp ?_ ?_<;>intro hx_ this)|fail)
   all_goals first
    | exact ad (ag rfl rfl) rfl
    | (refine ad (ag rfl rfl) ?_;simp_all;done)
 by_cases h1:i.kind=1
 · have e:rightIt i=(claimR i.claim&&(actZ i.act&&(ballotEq i.ballot BallotD.zero&&decZ i.dec))):=by simp [rightIt,rightK2,restI,sameIZ,h1,pJ]
   rw [e]
   repeat' (first|refine aE (hab:=by omega) ?_|refine aD (hab:=by omega) ?_|(refine ab (hc:=c1) (hX:=fun _ _=>trivial) ?_)|(refine ab (hc:=c2) (hX:=fun w h=>h.1) ?_)|(refine ab (hc:=c3) (hX:=fun _ _=>trivial) ?_)|(refine ab (hc:=c4) (hX:=fun _ _=>trivial) ?_)|(refine ab (hc:=c5) (hX:=fun _ _=>trivial) ?_)|(refine ab (hc:=c6) (hX:=fun w h=>h.2) ?_)|refine gs ?_|refine gs1 fun _=>?_|(refine eL (a:=i.claim) (b:=ClaimD.zero) ?_)|(refine ek (a:=i.ballot) (b:=BallotD.zero) ?_)|(refine aC (cs:=ActD.zero.cells) (hf:=by rfl) ?_)|(refine aC (cs:=ClaimD.zero.cells) (hf:=by rfl) ?_)|(refine aC (cs:=BallotD.zero.cells) (hf:=by rfl) ?_)|(refine aC (cs:=DecD.zero.cells) (hf:=by rfl) ?_)|(refine aw (vs:=i.act.cells) (hv:=rfl) ?_)|(refine aw (vs:=i.claim.cells) (hv:=rfl) ?_)|(refine aw (vs:=i.ballot.cells) (hv:=rfl) ?_)|(refine aw (vs:=i.dec.cells) (hv:=rfl) ?_)|(refine gp ?_ ?_<;>intro hx_ this)|fail)
   all_goals first
    | exact ad (ag rfl rfl) rfl
    | (refine ad (ag rfl rfl) ?_;simp_all;done)
 by_cases h2:i.kind=2
 · have e:rightIt i=(ballotR i.ballot&&(actZ i.act&&(claimEq i.claim ClaimD.zero&&decZ i.dec))):=by simp [rightIt,rightK2,restI,sameIZ,h2,nq]
   rw [e]
   repeat' (first|refine aE (hab:=by omega) ?_|refine aD (hab:=by omega) ?_|(refine ab (hc:=c1) (hX:=fun _ _=>trivial) ?_)|(refine ab (hc:=c2) (hX:=fun w h=>h.1) ?_)|(refine ab (hc:=c3) (hX:=fun _ _=>trivial) ?_)|(refine ab (hc:=c4) (hX:=fun _ _=>trivial) ?_)|(refine ab (hc:=c5) (hX:=fun _ _=>trivial) ?_)|(refine ab (hc:=c6) (hX:=fun w h=>h.2) ?_)|refine gs ?_|refine gs1 fun _=>?_|(refine eL (a:=i.claim) (b:=ClaimD.zero) ?_)|(refine ek (a:=i.ballot) (b:=BallotD.zero) ?_)|(refine aC (cs:=ActD.zero.cells) (hf:=by rfl) ?_)|(refine aC (cs:=ClaimD.zero.cells) (hf:=by rfl) ?_)|(refine aC (cs:=BallotD.zero.cells) (hf:=by rfl) ?_)|(refine aC (cs:=DecD.zero.cells) (hf:=by rfl) ?_)|(refine aw (vs:=i.act.cells) (hv:=rfl) ?_)|(refine aw (vs:=i.claim.cells) (hv:=rfl) ?_)|(refine aw (vs:=i.ballot.cells) (hv:=rfl) ?_)|(refine aw (vs:=i.dec.cells) (hv:=rfl) ?_)|(refine gp ?_ ?_<;>intro hx_ this)|fail)
   all_goals first
    | exact ad (ag rfl rfl) rfl
    | (refine ad (ag rfl rfl) ?_;simp_all;done)
 by_cases h3:i.kind=3
 · have e:rightIt i=(decR i.dec&&(actZ i.act&&(claimEq i.claim ClaimD.zero&&ballotEq i.ballot BallotD.zero))):=by simp [rightIt,rightK2,restI,sameIZ,h3,xv]
   rw [e]
   repeat' (first|refine aE (hab:=by omega) ?_|refine aD (hab:=by omega) ?_|(refine ab (hc:=c1) (hX:=fun _ _=>trivial) ?_)|(refine ab (hc:=c2) (hX:=fun w h=>h.1) ?_)|(refine ab (hc:=c3) (hX:=fun _ _=>trivial) ?_)|(refine ab (hc:=c4) (hX:=fun _ _=>trivial) ?_)|(refine ab (hc:=c5) (hX:=fun _ _=>trivial) ?_)|(refine ab (hc:=c6) (hX:=fun w h=>h.2) ?_)|refine gs ?_|refine gs1 fun _=>?_|(refine eL (a:=i.claim) (b:=ClaimD.zero) ?_)|(refine ek (a:=i.ballot) (b:=BallotD.zero) ?_)|(refine aC (cs:=ActD.zero.cells) (hf:=by rfl) ?_)|(refine aC (cs:=ClaimD.zero.cells) (hf:=by rfl) ?_)|(refine aC (cs:=BallotD.zero.cells) (hf:=by rfl) ?_)|(refine aC (cs:=DecD.zero.cells) (hf:=by rfl) ?_)|(refine aw (vs:=i.act.cells) (hv:=rfl) ?_)|(refine aw (vs:=i.claim.cells) (hv:=rfl) ?_)|(refine aw (vs:=i.ballot.cells) (hv:=rfl) ?_)|(refine aw (vs:=i.dec.cells) (hv:=rfl) ?_)|(refine gp ?_ ?_<;>intro hx_ this)|fail)
   all_goals first
    | exact ad (ag rfl rfl) rfl
    | (refine ad (ag rfl rfl) ?_;simp_all;done)
 have e:rightIt i=false:=by simp [rightIt,rightK2,h0,h1,h2,h3]
 rw [e]
 repeat' (first|refine aE (hab:=by omega) ?_|refine aD (hab:=by omega) ?_|(refine ab (hc:=c1) (hX:=fun _ _=>trivial) ?_)|(refine ab (hc:=c2) (hX:=fun w h=>h.1) ?_)|(refine ab (hc:=c3) (hX:=fun _ _=>trivial) ?_)|(refine ab (hc:=c4) (hX:=fun _ _=>trivial) ?_)|(refine ab (hc:=c5) (hX:=fun _ _=>trivial) ?_)|(refine ab (hc:=c6) (hX:=fun w h=>h.2) ?_)|refine gs ?_|refine gs1 fun _=>?_|(refine eL (a:=i.claim) (b:=ClaimD.zero) ?_)|(refine ek (a:=i.ballot) (b:=BallotD.zero) ?_)|(refine aC (cs:=ActD.zero.cells) (hf:=by rfl) ?_)|(refine aC (cs:=ClaimD.zero.cells) (hf:=by rfl) ?_)|(refine aC (cs:=BallotD.zero.cells) (hf:=by rfl) ?_)|(refine aC (cs:=DecD.zero.cells) (hf:=by rfl) ?_)|(refine aw (vs:=i.act.cells) (hv:=rfl) ?_)|(refine aw (vs:=i.claim.cells) (hv:=rfl) ?_)|(refine aw (vs:=i.ballot.cells) (hv:=rfl) ?_)|(refine aw (vs:=i.dec.cells) (hv:=rfl) ?_)|(refine gp ?_ ?_<;>intro hx_ this)|fail)
 all_goals first
  | exact ad (ag rfl rfl) rfl
  | (refine ad (ag rfl rfl) ?_;simp_all;done)
set_option maxRecDepth 20000 in
set_option maxHeartbeats 16000000 in
theorem pi (i:ItemD) (hs:i.Str) (hdn:i.dec.to.n=i.dec.toL.length):Pu Tryz.prog 48 #[i.v] (fun w=>i.at_ w) (.string (bytesIt i)):=by
 have hr:=hs.rng
 have c1:=iW i hs
 have hsz:=@gZ i hr hdn
 have hnk:=ao i.kind
 cases hB:rightIt i with
 | false =>
  rw [hB] at c1
  rw [bytesIt,hB]
  refine ak (args:=[_]) _ Tryz.func48 rfl Tryz.ntmps48 rfl fun av bor w0=>?_
  repeat' (first|(refine ab (hc:=c1) (hX:=fun w h=>h) ?_)|refine gs ?_|refine gs1 fun _=>?_|(refine gp ?_ ?_<;>intro hx_ this)|fail)
  exact ad (ag rfl rfl) rfl
 | true =>
 rw [hB] at c1
 have hsz:=hsz hB
 rw [bytesIt,hB,ZC]
 refine ak (args:=[_]) _ Tryz.func48 rfl Tryz.ntmps48 rfl fun av bor w0=>?_
 rcases df hB with ⟨hk,hR⟩|⟨hk,hR⟩|⟨hk,hR⟩|⟨hk,hR⟩
 · have c2:=mg i.act hs.act (dk hr) ⟨hr.ints.2.2.2.2.2.2.2.1,hr.ints.2.2.2.2.2.2.2.2⟩
   have c3:=ci i.kind aa
   have hb:bodyIt i=actBytes i.act:=by rw [bodyIt,hk];rfl
   rw [hb] at hsz ⊢
   repeat' (first|refine aE (hab:=by omega) ?_|refine aD (hab:=by omega) ?_|(refine ab (hc:=c1) (hX:=fun w h=>h) ?_)|(refine ab (hc:=c3) (hX:=fun _ _=>trivial) ?_)|(refine ab (hc:=c2) (hX:=fun w h=>h.1) ?_)|refine gs ?_|refine gs1 fun _=>?_|(refine aw (vs:=i.act.cells) (hv:=rfl) ?_)|(refine gp ?_ ?_<;>intro hx_ this)|fail)
   refine ai (dr rfl rfl aa) rfl am rfl ?_
   repeat' (first|refine gs ?_|refine gs1 fun _=>?_|(refine gp ?_ ?_<;>intro hx_ this)|fail)
   all_goals exact ad (ag rfl rfl) rfl
 · obtain ⟨hl,hm⟩:=il hR
   have c3:=ci i.kind aa
   have e1:=fG hm
   have e2:=dD i.claim.e i.claim.s
   have hb:bodyIt i=coreCl i.claim++numsV [i.claim.e,i.claim.s]:=by rw [bodyIt,hk];rfl
   rw [hb]
   repeat' (first|refine aE (hab:=by omega) ?_|refine aD (hab:=by omega) ?_|(refine ab (hc:=c1) (hX:=fun w h=>h) ?_)|(refine ab (hc:=c3) (hX:=fun _ _=>trivial) ?_)|refine gs ?_|refine gs1 fun _=>?_|(refine gp ?_ ?_<;>intro hx_ this)|fail)
   (refine aR ⟨[0,1,2,5,6,7],[(3,⟨[4],[(8,⟨[9,10],[]⟩)]⟩)]⟩ (h:=?_))
   all_goals repeat' (first|refine ab (hc:=pf _ hl hm) ?_|refine ab (hc:=iv _ _ hl.e hl.s) ?_|refine gd ?_|refine ay (hy:=by first|(apply dr;rfl;rfl;(try simp only [Zl]);omega)|(apply cr (vs:=i.claim.cells);rfl;exact .head _;rfl;rfl)|(apply cr (vs:=[.int .i64 i.claim.e,.int .i64 i.claim.s]);rfl;exact .head _;rfl;rfl)) ?_|refine az ?_ (h':=?_)|exact aA|refine gs1 fun _=>?_|(refine gq ?_ ?_<;>intro hx_ this)|fail)
   all_goals
    repeat' (first|refine gs ?_|refine gs1 fun _=>?_|(refine gp ?_ ?_<;>intro hx_ this)|fail)
    refine ad (ag rfl rfl) ?_
    simp only [ZV]
 · obtain ⟨hl,hm⟩:=fC hR
   have c3:=ci i.kind aa
   have e1:=eA hm
   have e2:=dD i.ballot.e i.ballot.s
   have hb:bodyIt i=coreBa i.ballot++numsV [i.ballot.e,i.ballot.s]:=by rw [bodyIt,hk];rfl
   rw [hb]
   repeat' (first|refine aE (hab:=by omega) ?_|refine aD (hab:=by omega) ?_|(refine ab (hc:=c1) (hX:=fun w h=>h) ?_)|(refine ab (hc:=c3) (hX:=fun _ _=>trivial) ?_)|refine gs ?_|refine gs1 fun _=>?_|(refine gp ?_ ?_<;>intro hx_ this)|fail)
   (refine aR ⟨[0,1,2,5,6,7],[(3,⟨[4],[(8,⟨[9,10],[]⟩)]⟩)]⟩ (h:=?_))
   all_goals repeat' (first|refine ab (hc:=ja _ hl hm) ?_|refine ab (hc:=iv _ _ hl.e hl.s) ?_|refine gd ?_|refine ay (hy:=by first|(apply dr;rfl;rfl;(try simp only [Zl]);omega)|(apply cr (vs:=i.ballot.cells);rfl;exact .head _;rfl;rfl)|(apply cr (vs:=[.int .i64 i.ballot.e,.int .i64 i.ballot.s]);rfl;exact .head _;rfl;rfl)) ?_|refine az ?_ (h':=?_)|exact aA|refine gs1 fun _=>?_|(refine gq ?_ ?_<;>intro hx_ this)|fail)
   all_goals
    repeat' (first|refine gs ?_|refine gs1 fun _=>?_|(refine gp ?_ ?_<;>intro hx_ this)|fail)
    refine ad (ag rfl rfl) ?_
    simp only [ZV]
 · obtain ⟨hl,hm⟩:=js hdn hR
   have c3:=ci i.kind aa
   have e1:=ew hm
   have e2:=dD i.dec.e i.dec.s
   have c4:=iZ i.dec hl hm
   have hb:bodyIt i=coreDe i.dec++numsV [i.dec.e,i.dec.s]:=by rw [bodyIt,hk];rfl
   rw [hb]
   repeat' (first|refine aE (hab:=by omega) ?_|refine aD (hab:=by omega) ?_|(refine ab (hc:=c1) (hX:=fun w h=>h) ?_)|(refine ab (hc:=c3) (hX:=fun _ _=>trivial) ?_)|refine gs ?_|refine gs1 fun _=>?_|(refine gp ?_ ?_<;>intro hx_ this)|fail)
   (refine aR ⟨[0,1,2,5,6,7],[(3,⟨[4],[(8,⟨[9,10],[]⟩)]⟩)]⟩ (h:=?_))
   all_goals repeat' (first|(refine ab (hc:=c4) (hX:=fun w h=>h.2) ?_)|refine ab (hc:=iv _ _ hl.e hl.s) ?_|refine gd ?_|refine ay (hy:=by first|(apply dr;rfl;rfl;(try simp only [Zl]);omega)|(apply cr (vs:=i.dec.cells);rfl;exact .head _;rfl;rfl)|(apply cr (vs:=[.int .i64 i.dec.e,.int .i64 i.dec.s]);rfl;exact .head _;rfl;rfl)) ?_|refine az ?_ (h':=?_)|exact aA|refine gs1 fun _=>?_|(refine gq ?_ ?_<;>intro hx_ this)|fail)
   all_goals
    repeat' (first|refine gs ?_|refine gs1 fun _=>?_|(refine gp ?_ ?_<;>intro hx_ this)|fail)
    refine ad (ag rfl rfl) ?_
    simp only [ZV]
theorem io (i:ItemD) (hs:i.Str) (hdn:i.dec.to.n=i.dec.toL.length):Pu Tryz.prog 25 #[i.v] (fun w=>i.at_ w) (.string (digIt i)):=by
 have c1:=pi i hs hdn
 have hsz:=@jv i hs.rng hdn
 have c2:=nS (bytesIt i) aa
 rw [digIt]
 cases hB:seqB (bytesIt i) ⟨#[]⟩ with
 | true =>
  refine ak (args:=[_]) _ Tryz.func25 rfl Tryz.ntmps25 rfl fun av bor w0=>?_
  repeat' (first|(refine ab (hc:=c1) (hX:=fun w h=>h) ?_)|(refine ab (hc:=c2) (hX:=fun _ _=>trivial) ?_)|refine gs ?_|refine gs1 fun _=>?_|(refine gp ?_ ?_<;>intro hx_ this)|fail)
  all_goals first
   | (rw [hB] at hx_;exact absurd hx_ (by decide))
   | (refine ad (ag rfl rfl) ?_;simp only [ZC,ZB];done)
 | false =>
  refine ak (args:=[_]) _ Tryz.func25 rfl Tryz.ntmps25 rfl fun av bor w0=>?_
  repeat' (first|(refine ab (hc:=c1) (hX:=fun w h=>h) ?_)|(refine ab (hc:=c2) (hX:=fun _ _=>trivial) ?_)|refine gs ?_|refine gs1 fun _=>?_|(refine gp ?_ ?_<;>intro hx_ this)|fail)
  all_goals first
   | (rw [hB] at hx_;exact absurd hx_ (by decide))
   | (refine ad (ag rfl rfl) ?_;simp only [ZC,ZB];done)
theorem kI (x:BallotD) (hl:x.Lt) (hs:x.Sm):Pu Tryz.prog 46 #[x.v] (fun _=>True) (.string (msgB x)):=by
 refine ak (args:=[_]) _ Tryz.func46 rfl Tryz.ntmps46 rfl fun av bor w0=>?_
 have c1:=cY nameB (by decide)
 have c2:=ja x hl hs
 have h1:=eA hs
 have h2:=ax nameB
 have h3:nameB.size≤20:=by decide
 have e:msgB x=textV nameB++coreBa x:=by rw [msgB,de,dz,ByteArray.append_empty]
 rw [e]
 repeat' (first|refine gs ?_|refine gs1 fun _=>?_|(refine gp ?_ ?_<;>intro hx_ this)|fail)
 (refine aR ⟨[1],[(0,⟨[],[(2,⟨[3,4],[]⟩)]⟩)]⟩ (h:=?_))
 all_goals repeat' (first|(refine ab (hc:=c1) (hX:=fun _ _=>trivial) ?_)|(refine ab (hc:=c2) (hX:=fun _ _=>trivial) ?_)|refine gd ?_|refine ay (hy:=by first|(apply dr;rfl;rfl;(try simp only [Zl]);omega)) ?_|refine az ?_ (h':=?_)|exact aA|refine gs1 fun _=>?_|(refine gq ?_ ?_<;>intro hx_ this)|fail)
 all_goals
  repeat' (first|refine gs ?_|refine gs1 fun _=>?_|(refine gp ?_ ?_<;>intro hx_ this)|fail)
  exact ad (ag rfl rfl) rfl
theorem iX (x:DecD) (hl:x.Lt) (hs:x.Sm):Pu Tryz.prog 47 #[x.v] (fun w=>x.at_ w) (.string (msgD x)):=by
 refine ak (args:=[_]) _ Tryz.func47 rfl Tryz.ntmps47 rfl fun av bor w0=>?_
 have c1:=cY nameD (by decide)
 have c2:=iZ x hl hs
 have h1:=ew hs
 have h2:=ax nameD
 have h3:nameD.size≤20:=by decide
 have e:msgD x=textV nameD++coreDe x:=by rw [msgD,de,dz,ByteArray.append_empty]
 rw [e]
 repeat' (first|refine gs ?_|refine gs1 fun _=>?_|(refine gp ?_ ?_<;>intro hx_ this)|fail)
 (refine aR ⟨[1],[(0,⟨[],[(2,⟨[3,4],[]⟩)]⟩)]⟩ (h:=?_))
 all_goals repeat' (first|(refine ab (hc:=c1) (hX:=fun _ _=>trivial) ?_)|(refine ab (hc:=c2) (hX:=fun w h=>h) ?_)|refine gd ?_|refine ay (hy:=by first|(apply dr;rfl;rfl;(try simp only [Zl]);omega)) ?_|refine az ?_ (h':=?_)|exact aA|refine gs1 fun _=>?_|(refine gq ?_ ?_<;>intro hx_ this)|fail)
 all_goals
  repeat' (first|refine gs ?_|refine gs1 fun _=>?_|(refine gp ?_ ?_<;>intro hx_ this)|fail)
  exact ad (ag rfl rfl) rfl
set_option maxRecDepth 20000 in
set_option maxHeartbeats 16000000 in
theorem pa (s:SlV) (L:List Int) (i:ItemD) (hs:i.Str) (hdn:i.dec.to.n=i.dec.toL.length):Pu Tryz.prog 24 #[s.v,i.v] (fun w=>Ints w s L∧i.at_ w) (.bool (signedIt L i)):=by
 refine ak (args:=[_,_]) _ Tryz.func24 rfl Tryz.ntmps24 rfl fun av bor w0=>?_
 refine aO (p:=s.n=L.length∧s.n≤maxLen∧(0<L.length→s.p.isSome=true)) (fun w h=>⟨h.1.len_,Qr (RowsD.cap h.1) (RowsD.max h.1),h.1.some_⟩) fun ⟨hsn,hsm,hsp⟩=>?_
 simp only [maxLen] at hsm
 have hri:=iW i hs
 cases hrB:rightIt i with
 | false =>
  rw [hrB] at hri
  rw [show signedIt L i=false from by rw [signedIt,hrB];rfl]
  repeat' (first|(refine ab (hc:=hri) (hX:=fun w h=>h.2) ?_)|refine gs ?_|refine gs1 fun _=>?_|(refine gp ?_ ?_<;>intro hx_ this)|fail)
  exact ad (ag rfl rfl) rfl
 | true =>
 rw [hrB] at hri
 have hk:=df hrB
 by_cases h2:i.kind=2
 · rcases hk with h|h|h|h
   all_goals first|(exfalso;omega)|skip
   have h1:=h.2
   clear h
   obtain ⟨hl,hz⟩:=fC h1
   have hlo:0≤i.ballot.server:=(cd (by have:=h1;simp only [ballotR,ZM] at this;exact this.1)).1
   have hms:=gQ (nm:=nameB) (by decide) (Qr (eA hz) (by decide))
   have hsg:=fun p:Int=>Rf4.refVerify_pu p (msgB i.ballot) i.ballot.e i.ballot.s (Qr hms (by decide))
   have hcm:=kI i.ballot hl hz
   by_cases hlt:i.ballot.server<(L.length:Nat)
   · have hsp':=hsp aa
     have e:signedIt L i=sgnB (L.getD i.ballot.server.toNat 0) i.ballot:=by rw [signedIt,hrB,ZA h2,ZC,ZA hlt,ZD,ZD]
     rw [e]
     have hget:∀ w,Ints w s L∧i.at_ w→CellAt w s.p i.ballot.server.toNat (.int .i64 (L.getD i.ballot.server.toNat 0)):=fun w h=>Ints.get h.1 aa
     have hsg1:Pu Tryz.prog 45 _ _ (.bool (sgnB (L.getD i.ballot.server.toNat 0) i.ballot)):=hsg (L.getD i.ballot.server.toNat 0)
     generalize L.getD i.ballot.server.toNat 0=pk at *
     repeat' (first|refine aE (hab:=by omega) ?_|refine aD (hab:=by omega) ?_|(refine ab (hc:=hri) (hX:=fun w h=>h.2) ?_)|refine gs ?_|refine gs1 fun _=>?_|(refine gp ?_ ?_<;>intro hx_ this)|fail)
     rename_i b3
     (refine aq ⟨[0,1,2,3,4,5,6,7,8,9,10,11,12,13,14,16,17,18],[(15,⟨[],[(19,⟨[20,21],[]⟩)]⟩)]⟩ [cel b3 63 i.cells] (fun w=>Ints w s L∧i.at_ w) (h:=?_))
     all_goals repeat' (first|refine ay (hsub:=by exact aF) (hy:=by first|(apply cv true;rfl;rfl;exact ZA aa)) ?_|(refine ab (hc:=hcm) (hX:=fun _ _=>trivial) ?_)|(refine ab (hc:=hsg1) (hX:=fun _ _=>trivial) ?_)|refine gdz ?_|refine ay (hsub:=by exact aF) (hy:=by first|(apply aB (q:=i.ballot.server.toNat);rfl;rfl;omega;omega;assumption;omega)|(apply eI (q:=i.ballot.server.toNat) (u:=.int .i64 pk);rfl;exact hget)|(apply cr (vs:=i.ballot.cells);rfl;exact .head _;rfl;rfl)|(apply cr (vs:=SgD.cells ⟨i.ballot.e,i.ballot.s⟩);rfl;exact .head _;rfl;rfl)) ?_|refine az ?_ (h':=?_)|exact aA|refine gs1 fun _=>?_|(refine gq ?_ ?_<;>intro hx_ this)|fail)
     all_goals
      repeat' (first|refine gs ?_|refine gs1 fun _=>?_|(refine gp ?_ ?_<;>intro hx_ this)|fail)
      exact ad (ag rfl rfl) rfl
   · have e:signedIt L i=false:=by rw [signedIt,hrB,ZA h2,ZC,Zn hlt];rfl
     rw [e]
     repeat' (first|refine aE (hab:=by omega) ?_|refine aD (hab:=by omega) ?_|(refine ab (hc:=hri) (hX:=fun w h=>h.2) ?_)|refine gs ?_|refine gs1 fun _=>?_|(refine gp ?_ ?_<;>intro hx_ this)|fail)
     rename_i b3
     (refine aq ⟨[0,1,2,3,4,5,6,7,8,9,10,11,12,13,14,16,17,18],[(15,⟨[],[(19,⟨[20,21],[]⟩)]⟩)]⟩ [cel b3 63 i.cells] (fun w=>Ints w s L∧i.at_ w) (h:=?_))
     all_goals repeat' (first|refine ay (hsub:=by exact aF) (hy:=by first|(apply cv false;rfl;rfl;exact Zn aa)) ?_|refine gdz ?_|refine az ?_ (h':=?_)|exact aA|refine gs1 fun _=>?_|(refine gq ?_ ?_<;>intro hx_ this)|fail)
     all_goals
      repeat' (first|refine gs ?_|refine gs1 fun _=>?_|(refine gp ?_ ?_<;>intro hx_ this)|fail)
      exact ad (ag rfl rfl) rfl
 by_cases h3:i.kind=3
 · rcases hk with h|h|h|h
   all_goals first|(exfalso;omega)|skip
   have h1:=h.2
   clear h
   obtain ⟨hl,hz⟩:=js hdn h1
   have hlo:0≤i.dec.server:=(cd (by have:=h1;simp only [decR,ZM] at this;exact this.1)).1
   have hms:=gQ (nm:=nameD) (by decide) (Qr (ew hz) (by decide))
   have hsg:=fun p:Int=>Rf4.refVerify_pu p (msgD i.dec) i.dec.e i.dec.s (Qr hms (by decide))
   have hcm:=iX i.dec hl hz
   by_cases hlt:i.dec.server<(L.length:Nat)
   · have hsp':=hsp aa
     have e:signedIt L i=sgnD (L.getD i.dec.server.toNat 0) i.dec:=by rw [signedIt,hrB,Zn h2,ZB,ZA h3,ZC,ZA hlt,ZD,ZD]
     rw [e]
     have hget:∀ w,Ints w s L∧i.at_ w→CellAt w s.p i.dec.server.toNat (.int .i64 (L.getD i.dec.server.toNat 0)):=fun w h=>Ints.get h.1 aa
     have hsg1:Pu Tryz.prog 45 _ _ (.bool (sgnD (L.getD i.dec.server.toNat 0) i.dec)):=hsg (L.getD i.dec.server.toNat 0)
     generalize L.getD i.dec.server.toNat 0=pk at *
     repeat' (first|refine aE (hab:=by omega) ?_|refine aD (hab:=by omega) ?_|(refine ab (hc:=hri) (hX:=fun w h=>h.2) ?_)|refine gs ?_|refine gs1 fun _=>?_|(refine gp ?_ ?_<;>intro hx_ this)|fail)
     rename_i b3
     (refine aq ⟨[0,1,2,3,4,5,6,7,8,9,10,11,12,13,14,16,17,18],[(15,⟨[],[(19,⟨[20,21],[]⟩)]⟩)]⟩ [cel b3 63 i.cells] (fun w=>Ints w s L∧i.at_ w) (h:=?_))
     all_goals repeat' (first|refine ay (hsub:=by exact aF) (hy:=by first|(apply cv true;rfl;rfl;exact ZA aa)) ?_|(refine ab (hc:=hcm) (hX:=fun w h=>h.2.2) ?_)|(refine ab (hc:=hsg1) (hX:=fun _ _=>trivial) ?_)|refine gdz ?_|refine ay (hsub:=by exact aF) (hy:=by first|(apply aB (q:=i.dec.server.toNat);rfl;rfl;omega;omega;assumption;omega)|(apply eI (q:=i.dec.server.toNat) (u:=.int .i64 pk);rfl;exact hget)|(apply cr (vs:=i.dec.cells);rfl;exact .head _;rfl;rfl)|(apply cr (vs:=SgD.cells ⟨i.dec.e,i.dec.s⟩);rfl;exact .head _;rfl;rfl)) ?_|refine az ?_ (h':=?_)|exact aA|refine gs1 fun _=>?_|(refine gq ?_ ?_<;>intro hx_ this)|fail)
     all_goals
      repeat' (first|refine gs ?_|refine gs1 fun _=>?_|(refine gp ?_ ?_<;>intro hx_ this)|fail)
      exact ad (ag rfl rfl) rfl
   · have e:signedIt L i=false:=by rw [signedIt,hrB,Zn h2,ZB,ZA h3,ZC,Zn hlt];rfl
     rw [e]
     repeat' (first|refine aE (hab:=by omega) ?_|refine aD (hab:=by omega) ?_|(refine ab (hc:=hri) (hX:=fun w h=>h.2) ?_)|refine gs ?_|refine gs1 fun _=>?_|(refine gp ?_ ?_<;>intro hx_ this)|fail)
     rename_i b3
     (refine aq ⟨[0,1,2,3,4,5,6,7,8,9,10,11,12,13,14,16,17,18],[(15,⟨[],[(19,⟨[20,21],[]⟩)]⟩)]⟩ [cel b3 63 i.cells] (fun w=>Ints w s L∧i.at_ w) (h:=?_))
     all_goals repeat' (first|refine ay (hsub:=by exact aF) (hy:=by first|(apply cv false;rfl;rfl;exact Zn aa)) ?_|refine gdz ?_|refine az ?_ (h':=?_)|exact aA|refine gs1 fun _=>?_|(refine gq ?_ ?_<;>intro hx_ this)|fail)
     all_goals
      repeat' (first|refine gs ?_|refine gs1 fun _=>?_|(refine gp ?_ ?_<;>intro hx_ this)|fail)
      exact ad (ag rfl rfl) rfl
 have e:signedIt L i=true:=by rw [signedIt,hrB,Zn h2,Zn h3];rfl
 rw [e]
 repeat' (first|refine aD (hab:=by omega) ?_|(refine ab (hc:=hri) (hX:=fun w h=>h.2) ?_)|refine gs ?_|refine gs1 fun _=>?_|(refine gp ?_ ?_<;>intro hx_ this)|fail)
 exact ad (ag rfl rfl) rfl
def badSv (L:List Int) (k:Nat):Bool:=decide (L.getD k 0<1)||decide (2305843009213693950<L.getD k 0)
def badKn (L:List Int) (I:List ItemD) (k:Nat):Bool:=!signedIt L (I.getD k ItemD.zero)||(decide (0<k)&&!ltB (digIt (I.getD (k-1) ItemD.zero)) (digIt (I.getD k ItemD.zero)))
def rightKn (L:List Int) (I:List ItemD):Bool:=decide (L.length≤20)&&(allB L.length (badSv L)&&allB I.length (badKn L I))
section
variable {P:Program} {N:Nat} {av bor:List Nat} {w0:World} {st:St} {ty:TypeId} {x y:Operand} {t t2:TypeId}
theorem BG {a b:ByteArray} (hx:ev st.env x=some (.string a)) (hy:ev st.env y=some (.string b)) (hab:ltB a b=false):Sy.Yields P N av bor w0 st (.binOp .geq t x y t2) ty (.bool true):=by
 have h:=si (P:=P) (N:=N) (av:=av) (bor:=bor) (w0:=w0) (t:=t) (t2:=t2) (ty:=ty) hx hy
 rw [show Op.bytesLess a.toList b.toList=false from hab] at h
 exact h
end
set_option maxRecDepth 20000 in
set_option maxHeartbeats 16000000 in
theorem pc (ks ki:SlV) (L:List Int) (I:List ItemD) (hs:∀ i∈I,i.Str) (hdn:∀ i∈I,i.dec.to.n=i.dec.toL.length) :
  Pu Tryz.prog 7 #[.agg #[ks.v,ki.v]] (fun w=>Ints w ks L∧Items w ki I) (.bool (rightKn L I)):=by
 refine ak (args:=[_]) _ Tryz.func7 rfl Tryz.ntmps7 rfl fun av bor w0=>?_
 refine aO (p:=(ks.n=L.length∧ks.n≤maxLen∧(0<L.length→ks.p.isSome=true))∧(ki.n=I.length∧ki.n≤maxLen∧(0<I.length→ki.p.isSome=true))) (fun w h=>⟨⟨h.1.len_,Qr (RowsD.cap h.1) (RowsD.max h.1),h.1.some_⟩,h.2.len_,h.2.max_,h.2.some_⟩) fun ⟨⟨hn,hm,hp⟩,hin,him,hip⟩=>?_
 simp only [maxLen] at hm him
 repeat' (first|refine gs ?_|refine gs1 fun _=>?_|(refine gp ?_ ?_<;>intro hx_ this)|fail)
 · refine ad (ag rfl rfl) ?_
   rw [rightKn,Zn (by omega)]
   rfl
 rename_i b
 have h20:L.length≤20:=by omega
 rw [rightKn,ZA h20,ZD]
 refine ap (ι:=Upto L.length (badSv L)) (fun i=>⟨[(1,.pointer (some ⟨b,0,none⟩)),(3,.int .i64 (i.k:Nat))],[cel b 25 [ks.v,ki.v]],fun w=>Ints w ks L∧Items w ki I⟩) (fun i=>L.length-i.k) (Upto.zero _ _) (aj ⟨rfl,rfl,trivial⟩ (al _) fun _ h=>h) fun i=>?_
 have hik:=i.hk
 by_cases hlt:i.k<L.length
 · have hks:=hp aa
   repeat' (first|refine gs ?_|refine gs1 fun _=>?_|(refine aI (q:=i.k) ?_)|(refine dA (q:=i.k) (u:=.int .i64 (L.getD i.k 0)) (hF:=fun w h=>Ints.get h.1 hlt) ?_)|(refine gp ?_ ?_<;>intro hx_ this)|fail)
   all_goals first
    | (exfalso;omega)
    | (refine ad (ag rfl rfl) ?_;rw [cH (k:=i.k) hlt (by simp only [badSv, *,ZQ,ZO,ZC,ZB,ZE,ZD,ZH,ZG,ZK,ZI,ZP,ZJ,ZN,ZF]),ZG];done)
    | exact ⟨i.next hlt (by simp only [badSv, *,ZQ,ZO,ZC,ZB,ZE,ZD,ZH,ZG,ZK,ZI,ZP,ZJ,ZN,ZF]),(by show L.length-(i.k+1)<L.length-i.k;omega),aj ⟨rfl,rfl,trivial⟩ (al _) fun _ h=>h⟩
 · rw [i.all hlt,ZD]
   repeat' (first|refine SrG.sy_lssF_g (hab:=by omega) (h:=?_)|refine gs ?_|refine gs1 fun _=>?_|(refine gp ?_ ?_<;>intro hx_ this)|fail)
   refine ap (ι:=Upto I.length (badKn L I)) (fun j=>⟨[(1,.pointer (some ⟨b,0,none⟩)),(4,.int .i64 (j.k:Nat))],[cel b 25 [ks.v,ki.v]],fun w=>Ints w ks L∧Items w ki I⟩) (fun j=>I.length-j.k) (Upto.zero _ _) (aj ⟨rfl,rfl,trivial⟩ (al _) fun _ h=>h) fun j=>?_
   have hjk:=j.hk
   by_cases hlj:j.k<I.length
   · have hki:=hip aa
     obtain ⟨x,hx⟩:∃ x,I[j.k]?=some x:=⟨_,Zm hlj⟩
     have hxm:=List.mem_of_getElem? hx
     have hxD:I.getD j.k ItemD.zero=x:=by rw [ZL,hx];rfl
     have hsg:=pa ks L x (hs x hxm) (hdn x hxm)
     have hdx:=io x (hs x hxm) (hdn x hxm)
     cases hsB:signedIt L x with
     | false =>
      rw [hsB] at hsg
      have hbad:badKn L I j.k=true:=by rw [badKn,hxD,hsB];rfl
      repeat' (first|refine SrG.sy_lssT_g (hab:=by omega) (h:=?_)|refine gs ?_|refine gs1 fun _=>?_|(refine gp ?_ ?_<;>intro hx_ this)|fail)
      (refine aq ⟨[0,1,2,3,4,5,6],[(7,⟨[8],[]⟩)]⟩ [cel b 25 [ks.v,ki.v]] (fun w=>Ints w ks L∧Items w ki I) (h:=?_))
      all_goals repeat' (first|(refine ab (hc:=hsg) (hX:=fun w h=>⟨h.1,h.2.2 x hxm⟩) ?_)|refine gdz ?_|refine ay (hsub:=by exact aF) (hy:=by first|(apply aB (q:=j.k*49);rfl;rfl;omega;omega;assumption;omega)|(apply eX (cs:=x.cells);rfl;exact (fun w h=>Items.get h.2 hx))) ?_|refine az ?_ (h':=?_)|exact aA|refine gs1 fun _=>?_|(refine gq ?_ ?_<;>intro hx_ this)|fail)
      all_goals
       repeat' (first|refine gs ?_|refine gs1 fun _=>?_|(refine gp ?_ ?_<;>intro hx_ this)|fail)
       all_goals (refine ad (ag rfl rfl) ?_;rw [cH hlj hbad])
     | true =>
      rw [hsB] at hsg
      by_cases h0:0<j.k
      · obtain ⟨y,hy⟩:∃ y,I[j.k-1]?=some y:=⟨_,Zm aa⟩
        have hym:=List.mem_of_getElem? hy
        have hyD:I.getD (j.k-1) ItemD.zero=y:=by rw [ZL,hy];rfl
        have hdy:=io y (hs y hym) (hdn y hym)
        have hbq:badKn L I j.k=!ltB (digIt y) (digIt x):=by rw [badKn,hxD,hyD,hsB,ZA h0];rfl
        generalize digIt x=dx at *
        generalize digIt y=dy at *
        cases hlB:ltB dy dx with
        | true =>
         have hok:badKn L I j.k=false:=by rw [hbq,hlB];rfl
         repeat' (first|refine SrG.sy_lssT_g (hab:=by omega) (h:=?_)|refine gs ?_|refine gs1 fun _=>?_|(refine gp ?_ ?_<;>intro hx_ this)|fail)
         (refine aq ⟨[0,1,2,3,4,5,6],[(7,⟨[8],[]⟩)]⟩ [cel b 25 [ks.v,ki.v]] (fun w=>Ints w ks L∧Items w ki I) (h:=?_))
         all_goals repeat' (first|(refine ab (hc:=hsg) (hX:=fun w h=>⟨h.1,h.2.2 x hxm⟩) ?_)|refine gdz ?_|refine ay (hsub:=by exact aF) (hy:=by first|(apply aB (q:=j.k*49);rfl;rfl;omega;omega;assumption;omega)|(apply eX (cs:=x.cells);rfl;exact (fun w h=>Items.get h.2 hx))) ?_|refine az ?_ (h':=?_)|exact aA|refine gs1 fun _=>?_|(refine gq ?_ ?_<;>intro hx_ this)|fail)
         all_goals
          repeat' (first|refine gs ?_|refine gs1 fun _=>?_|(refine gp ?_ ?_<;>intro hx_ this)|fail)
          (refine aq ⟨[0,1,2,3,4,5,6,7,8,10,11,12,13,14],[(9,⟨[],[(15,⟨[16,17],[]⟩)]⟩)]⟩ [cel b 25 [ks.v,ki.v]] (fun w=>Ints w ks L∧Items w ki I) (h:=?_))
          all_goals repeat' (first|refine ay (hsub:=by exact aF) (hy:=by first|(apply SrG.y_gtrT_g;rfl;rfl;omega)|(apply Rf4.y_subM (q:=1);rfl;rfl;omega)|(apply BH;rfl;rfl;exact hlB)) ?_|(refine ab (hc:=hdy) (hX:=fun w h=>h.2.2 y hym) ?_)|(refine ab (hc:=hdx) (hX:=fun w h=>h.2.2 x hxm) ?_)|refine gdz ?_|refine ay (hsub:=by exact aF) (hy:=by first|(apply aB (q:=(j.k-1)*49);rfl;rfl;omega;omega;assumption;omega)|(apply aB (q:=j.k*49);rfl;rfl;omega;omega;assumption;omega)|(apply eX (cs:=y.cells);rfl;exact (fun w h=>Items.get h.2 hy))|(apply eX (cs:=x.cells);rfl;exact (fun w h=>Items.get h.2 hx))) ?_|refine az ?_ (h':=?_)|exact aA|refine gs1 fun _=>?_|(refine gq ?_ ?_<;>intro hx_ this)|fail)
          all_goals
           repeat' (first|refine gs ?_|refine gs1 fun _=>?_|(refine gp ?_ ?_<;>intro hx_ this)|fail)
           all_goals exact ⟨j.next hlj hok,(by show I.length-(j.k+1)<I.length-j.k;omega),aj ⟨rfl,rfl,trivial⟩ (al _) fun _ h=>h⟩
        | false =>
         have hbad:badKn L I j.k=true:=by rw [hbq,hlB];rfl
         repeat' (first|refine SrG.sy_lssT_g (hab:=by omega) (h:=?_)|refine gs ?_|refine gs1 fun _=>?_|(refine gp ?_ ?_<;>intro hx_ this)|fail)
         (refine aq ⟨[0,1,2,3,4,5,6],[(7,⟨[8],[]⟩)]⟩ [cel b 25 [ks.v,ki.v]] (fun w=>Ints w ks L∧Items w ki I) (h:=?_))
         all_goals repeat' (first|(refine ab (hc:=hsg) (hX:=fun w h=>⟨h.1,h.2.2 x hxm⟩) ?_)|refine gdz ?_|refine ay (hsub:=by exact aF) (hy:=by first|(apply aB (q:=j.k*49);rfl;rfl;omega;omega;assumption;omega)|(apply eX (cs:=x.cells);rfl;exact (fun w h=>Items.get h.2 hx))) ?_|refine az ?_ (h':=?_)|exact aA|refine gs1 fun _=>?_|(refine gq ?_ ?_<;>intro hx_ this)|fail)
         all_goals
          repeat' (first|refine gs ?_|refine gs1 fun _=>?_|(refine gp ?_ ?_<;>intro hx_ this)|fail)
          (refine aq ⟨[0,1,2,3,4,5,6,7,8,10,11,12,13,14],[(9,⟨[],[(15,⟨[16,17],[]⟩)]⟩)]⟩ [cel b 25 [ks.v,ki.v]] (fun w=>Ints w ks L∧Items w ki I) (h:=?_))
          all_goals repeat' (first|refine ay (hsub:=by exact aF) (hy:=by first|(apply SrG.y_gtrT_g;rfl;rfl;omega)|(apply Rf4.y_subM (q:=1);rfl;rfl;omega)|(apply BG;rfl;rfl;exact hlB)) ?_|(refine ab (hc:=hdy) (hX:=fun w h=>h.2.2 y hym) ?_)|(refine ab (hc:=hdx) (hX:=fun w h=>h.2.2 x hxm) ?_)|refine gdz ?_|refine ay (hsub:=by exact aF) (hy:=by first|(apply aB (q:=(j.k-1)*49);rfl;rfl;omega;omega;assumption;omega)|(apply aB (q:=j.k*49);rfl;rfl;omega;omega;assumption;omega)|(apply eX (cs:=y.cells);rfl;exact (fun w h=>Items.get h.2 hy))|(apply eX (cs:=x.cells);rfl;exact (fun w h=>Items.get h.2 hx))) ?_|refine az ?_ (h':=?_)|exact aA|refine gs1 fun _=>?_|(refine gq ?_ ?_<;>intro hx_ this)|fail)
          all_goals
           repeat' (first|refine gs ?_|refine gs1 fun _=>?_|(refine gp ?_ ?_<;>intro hx_ this)|fail)
           all_goals (refine ad (ag rfl rfl) ?_;rw [cH hlj hbad])
      · have hok:badKn L I j.k=false:=by rw [badKn,hxD,hsB,Zn h0];rfl
        repeat' (first|refine SrG.sy_lssT_g (hab:=by omega) (h:=?_)|refine gs ?_|refine gs1 fun _=>?_|(refine gp ?_ ?_<;>intro hx_ this)|fail)
        (refine aq ⟨[0,1,2,3,4,5,6],[(7,⟨[8],[]⟩)]⟩ [cel b 25 [ks.v,ki.v]] (fun w=>Ints w ks L∧Items w ki I) (h:=?_))
        all_goals repeat' (first|(refine ab (hc:=hsg) (hX:=fun w h=>⟨h.1,h.2.2 x hxm⟩) ?_)|refine gdz ?_|refine ay (hsub:=by exact aF) (hy:=by first|(apply aB (q:=j.k*49);rfl;rfl;omega;omega;assumption;omega)|(apply eX (cs:=x.cells);rfl;exact (fun w h=>Items.get h.2 hx))) ?_|refine az ?_ (h':=?_)|exact aA|refine gs1 fun _=>?_|(refine gq ?_ ?_<;>intro hx_ this)|fail)
        all_goals
         repeat' (first|refine gs ?_|refine gs1 fun _=>?_|(refine gp ?_ ?_<;>intro hx_ this)|fail)
         (refine aq ⟨[0,1,2,3,4,5,6,7,8,10,11,12,13,14],[(9,⟨[],[(15,⟨[16,17],[]⟩)]⟩)]⟩ [cel b 25 [ks.v,ki.v]] (fun w=>Ints w ks L∧Items w ki I) (h:=?_))
         all_goals repeat' (first|refine ay (hsub:=by exact aF) (hy:=by first|(apply SrG.y_gtrF_g;rfl;rfl;omega)) ?_|refine gdz ?_|refine az ?_ (h':=?_)|exact aA|refine gs1 fun _=>?_|(refine gq ?_ ?_<;>intro hx_ this)|fail)
         all_goals
          repeat' (first|refine gs ?_|refine gs1 fun _=>?_|(refine gp ?_ ?_<;>intro hx_ this)|fail)
          all_goals exact ⟨j.next hlj hok,(by show I.length-(j.k+1)<I.length-j.k;omega),aj ⟨rfl,rfl,trivial⟩ (al _) fun _ h=>h⟩
   · rw [j.all hlj]
     repeat' (first|refine SrG.sy_lssF_g (hab:=by omega) (h:=?_)|refine gs ?_|refine gs1 fun _=>?_|(refine gp ?_ ?_<;>intro hx_ this)|fail)
     all_goals first
      | exact ad (ag rfl rfl) rfl
theorem tV {l:List ByteArray} (h:∀ k (hk:k+1<l.length),ltB (l[k]'(by omega)) l[k+1]=true):Asc l:=by
 have key:∀ d i (hj:i+d+1<l.length),ltB (l[i]'(by omega)) l[i+d+1]=true:=by
  intro d
  induction d with
  | zero=>exact fun i hj=>h i hj
  | succ d ih =>
   intro i hj
   exact fq (ih i aa) (h (i+d+1) hj)
 refine List.pairwise_iff_getElem.2 fun i j hi hj hij=>?_
 obtain ⟨d,rfl⟩:∃ d,j=i+d+1:=⟨j-i-1,by omega⟩
 exact key d i hj
theorem gL {L:List Int} {I:List ItemD} (h:rightKn L I=true):∀ i∈I,signedIt L i=true:=fun i hi=>by
 rw [rightKn,ZM,ZM] at h
 obtain ⟨k,hk⟩:=List.mem_iff_getElem?.1 hi
 obtain ⟨hlt,e⟩:=List.getElem?_eq_some_iff.1 hk
 have h1:=jz h.2.2 hlt
 have e2:I.getD k ItemD.zero=i:=by rw [ZL,hk];rfl
 rw [badKn,e2,Bool.or_eq_false_iff,Bool.not_eq_false'] at h1
 exact h1.1
theorem qx {L:List Int} {I:List ItemD} (h:rightKn L I=true):Asc (I.map digIt):=by
 rw [rightKn,ZM,ZM] at h
 refine tV fun k hk=>?_
 rw [Z3] at hk
 have h1:=jz h.2.2 hk
 rw [badKn,Bool.or_eq_false_iff] at h1
 have h2:=h1.2
 rw [ZA aa,ZD,Bool.not_eq_false',ZL,ZL,Nat.add_sub_cancel,Zm hk,Zm (show k<I.length by omega)] at h2
 rw [List.getElem_map,List.getElem_map]
 exact h2
theorem ET {L:List Int} {I:List ItemD} (h:rightKn L I=true) (hl:I.length≤100) (hr:∀ i∈I,i.act.Rng) (hs:∀ i∈I,i.act.Sm) (hd:∀ i∈I,i.dec.to.n=i.dec.toL.length):KnR L I where
 sv:=by
  rw [rightKn,ZM] at h
  exact aP h.1
 len:=hl
 rng:=hr
 sm:=hs
 dn:=hd
 right:=fun i hi=>by
  have h1:=gL h i hi
  rw [signedIt,ZM] at h1
  exact h1.1
 asc:=qx h
theorem Bz (ks ki:SlV) (L:List Int) (I:List ItemD) (it:ItemD) (hdn:it.dec.to.n=it.dec.toL.length) (hs:signedIt L it=false) :
  Pu Tryz.prog 34 #[.agg #[ks.v,ki.v],it.v] (fun w=>((Ints w ks L∧Items w ki I)∧it.at_ w)∧Glob w) (.tuple #[.agg #[ks.v,ki.v],.bool false]):=by
 refine ak (args:=[_,_]) _ Tryz.func34 rfl Tryz.ntmps34 rfl fun av bor w0=>?_
 have hR:=dH it
 have hS:=gH ks L it hdn
 rw [hs] at hS
 repeat' (first|(refine ab (hc:=hR) (hX:=fun w h=>h.1.2) ?_)|(refine ab (hc:=hS) (hX:=fun w h=>⟨⟨h.1.1.1,h.1.2⟩,h.2⟩) ?_)|refine gs ?_|refine gs1 fun _=>?_|(refine gp ?_ ?_<;>intro hx_ this)|fail)
 all_goals first
  | exact ad (dR rfl rfl rfl aS (by rfl)) rfl
structure DupI (p:Nat) where
 k:Nat
 hk:k≤p
 at0:Int
set_option maxHeartbeats 16000000 in
theorem xH (ks ki:SlV) (L:List Int) (I:List ItemD) (it:ItemD) (hr:∀ i∈I,i.act.Rng) (hd:∀ i∈I,i.dec.to.n=i.dec.toL.length) (hit:it.act.Rng) (hdn:it.dec.to.n=it.dec.toL.length) (hI:I.length≤1000) (hs:signedIt L it=true)
  (p:Nat) (x0:ItemD) (hp:I[p]?=some x0) (he:digIt x0=digIt it) (hno:∀ (j:Nat) (y:ItemD),j<p→I[j]?=some y→seqB (digIt y) (digIt it)=false) :
  Pu Tryz.prog 34 #[.agg #[ks.v,ki.v],it.v] (fun w=>((Ints w ks L∧Items w ki I)∧it.at_ w)∧Glob w) (.tuple #[.agg #[ks.v,ki.v],.bool false]):=by
 refine ak (args:=[_,_]) _ Tryz.func34 rfl Tryz.ntmps34 rfl fun av bor w0=>?_
 have hR:=dH it
 have hS:=gH ks L it hdn
 rw [hs] at hS
 have hri:rightIt it=true:=by
  rw [signedIt,ZM] at hs
  exact hs.1
 rw [hri] at hR
 have hD0:=du it hit hdn
 have hD:=fun x (hx:x∈I)=>du x (hr x hx) (hd x hx)
 have hplt:=(List.getElem?_eq_some_iff.1 hp).1
 refine aO (p:=ki.n=I.length∧ki.n≤maxLen∧(0<I.length→ki.p.isSome=true)) (fun w h=>⟨h.1.1.2.len_,h.1.1.2.max_,h.1.1.2.some_⟩) fun ⟨hkn,hkm,hkp⟩=>?_
 simp only [maxLen] at hkm
 have hkp':=hkp aa
 generalize digIt it=d at *
 clear hs hri hr hd hit hdn
 repeat' (first|(refine ab (hc:=hR) (hX:=fun w h=>h.1.2) ?_)|(refine ab (hc:=hS) (hX:=fun w h=>⟨⟨h.1.1.1,h.1.2⟩,h.2⟩) ?_)|(refine ab (hc:=hD0) (hX:=fun w h=>⟨h.1.2,h.2⟩) ?_)|refine gs ?_|refine gs1 fun _=>?_|(refine gp ?_ ?_<;>intro hx_ this)|fail)
 rename_i b2 b3 b4
 refine ap (ι:=DupI p) (fun i=>⟨[(2,.pointer (some ⟨b2,0,none⟩)),(3,.pointer (some ⟨b3,0,none⟩)),(4,.pointer (some ⟨b4,0,none⟩)),(6,.string d),(7,.int .i64 i.at0),(29,ki.v),(30,.int .i64 (ki.n:Nat)),(31,.int .i64 (i.k:Nat))],[cel b4 25 [.slice none 0 0,.slice none 0 0],cel b3 63 it.cells,cel b2 25 [ks.v,ki.v]],fun w=>((Ints w ks L∧Items w ki I)∧it.at_ w)∧Glob w⟩) (fun i=>p-i.k) ⟨0,Nat.zero_le _,(ki.n:Nat)⟩ (aj ⟨rfl,rfl,rfl,rfl,rfl,rfl,rfl,rfl,trivial⟩ (al _) fun _ h=>h) fun i=>?_
 obtain ⟨k,hk,at0⟩:=i
 simp only
 obtain ⟨x,hx⟩:∃ x,I[k]?=some x:=⟨_,Zm aa⟩
 have hxm:=List.mem_of_getElem? hx
 have hDx:=hD x hxm
 by_cases hkp2:k=p
 · obtain rfl:x=x0:=by rw [hkp2,hp] at hx;exact (Option.some.inj hx).symm
   rw [he] at hDx
   have hdd:seqB d d=true:=cV _
   repeat' (first|refine ai (cv true rfl rfl (ZA aa)) rfl am rfl ?_|refine ai (dX true rfl rfl hdd) rfl am rfl ?_|(refine ab (hc:=hDx) (hX:=fun w h=>⟨h.1.1.2.2 x hxm,h.2⟩) ?_)|refine gs ?_|refine gs1 fun _=>?_|(refine aI (q:=k*49) ?_)|(refine bN (cs:=x.cells) (hF:=fun w h=>h.1.1.2.get hx) ?_)|(refine gp ?_ ?_<;>intro hx_ this)|fail)
   all_goals first
    | exact ad (dR rfl rfl rfl aS (by rfl)) rfl
 · have hne:=hno k x aa hx
   cases hg:gtB (digIt x) d
   all_goals
    repeat' (first|refine ai (cv true rfl rfl (ZA aa)) rfl am rfl ?_|refine ai (dX false rfl rfl hne) rfl am rfl ?_|refine ai (kO _ rfl rfl hg) rfl am rfl ?_|(refine ab (hc:=hDx) (hX:=fun w h=>⟨h.1.1.2.2 x hxm,h.2⟩) ?_)|refine gs ?_|refine gs1 fun _=>?_|(refine aI (q:=k*49) ?_)|(refine bN (cs:=x.cells) (hF:=fun w h=>h.1.1.2.get hx) ?_)|(refine gp ?_ ?_<;>intro hx_ this)|fail)
   all_goals first
    | exact ⟨(⟨k+1,by omega,at0⟩:DupI p),(by show p-(k+1)<p-k;omega),aj ⟨rfl,rfl,rfl,rfl,rfl,rfl,rfl,rfl,trivial⟩ (.cons _ (al _)) fun _ h=>h⟩
    | exact ⟨(⟨k+1,by omega,(k:Nat)⟩:DupI p),(by show p-(k+1)<p-k;omega),aj ⟨rfl,rfl,rfl,rfl,rfl,rfl,rfl,rfl,trivial⟩ (.cons _ (al _)) fun _ h=>h⟩
def canAdd (L:List Int) (I:List ItemD) (it:ItemD):Bool:=signedIt L it&&!(I.any fun x=>seqB (digIt x) (digIt it))
def addK (L:List Int) (I:List ItemD) (it:ItemD):List ItemD:=bif canAdd L I it then addV digIt it I else I
theorem rk {P:Program} {f:FuncId} {args:Array Value} {X:World→Prop} {v:Value} {Φ:Value→(World→Prop)→Prop} (h:Pu P f args X v) (hi:∀ X',Φ v X'):Mk P f args X Φ:=by
 unfold Pu at h
 unfold Mk
 exact h.mono fun u R X' ⟨h1,h2⟩=>⟨h1▸hi X',h2⟩
theorem xr {I:List ItemD} {d:ByteArray}:(∃ x∈I,digIt x=d)→∃ (p:Nat) (x0:ItemD),I[p]?=some x0∧digIt x0=d∧∀ (j:Nat) (y:ItemD),j<p→I[j]?=some y→seqB (digIt y) d=false:=by
 induction I with
 | nil=>rintro ⟨x,hx,_⟩;cases hx
 | cons a I ih =>
  rintro ⟨x,hx,e⟩
  by_cases ha:digIt a=d
  · exact ⟨0,a,rfl,ha,fun j y hj=>absurd hj (Nat.not_lt_zero _)⟩
  · rcases List.mem_cons.1 hx with rfl|hx
    · exact absurd e ha
    · obtain ⟨p,x0,h1,h2,h3⟩:=ih ⟨x,hx,e⟩
      refine ⟨p+1,x0,h1,h2,fun j y hj hy=>?_⟩
      cases j with
      | zero =>
       obtain rfl:a=y:=by simpa using hy
       cases hs:seqB (digIt a) d with
       | false=>rfl
       | true=>exact absurd (seqB_iff.1 hs) ha
      | succ j=>exact h3 j y aa hy
theorem DO (ks ki:SlV) {L:List Int} {I:List ItemD} (h:KnR L I) (it:ItemD) (hit:it.act.Rng) (hdn:it.dec.to.n=it.dec.toL.length) :
  Mk Tryz.prog 34 #[.agg #[ks.v,ki.v],it.v] (fun w=>((Ints w ks L∧Items w ki I)∧it.at_ w)∧Glob w)
   (fun u X'=>∃ s:SlV,u=.tuple #[.agg #[ks.v,s.v],.bool (canAdd L I it)]∧∀ w,(Items w ki I∧X' w)→Items w s (addK L I it)):=by
 have hlen:=h.len
 cases hs:signedIt L it with
 | false =>
  have e:canAdd L I it=false:=by rw [canAdd,hs];rfl
  rw [addK,e]
  exact rk (Bz ks ki L I it hdn hs) fun X'=>⟨ki,rfl,fun w h=>h.1⟩
 | true =>
  cases hn:I.any fun x=>seqB (digIt x) (digIt it) with
  | true =>
   have e:canAdd L I it=false:=by rw [canAdd,hs,hn];rfl
   rw [addK,e]
   obtain ⟨x,hx,hx2⟩:=List.any_eq_true.1 hn
   obtain ⟨p,x0,h1,h2,h3⟩:=xr ⟨x,hx,seqB_iff.1 hx2⟩
   exact rk (xH ks ki L I it h.rng h.dn hit hdn aa hs p x0 h1 h2 h3) fun X'=>⟨ki,rfl,fun w h=>h.1⟩
  | false =>
   have e:canAdd L I it=true:=by rw [canAdd,hs,hn];rfl
   rw [addK,e]
   have hri:rightIt it=true:=by
    rw [signedIt,ZM] at hs
    exact hs.1
   have hR:=dH it
   have hS:=gH ks L it hdn
   rw [hri] at hR
   rw [hs] at hS
   exact pw (DM (fun w=>Ints w ks L) ks ki I it rightIt digIt hR hS (du it hit hdn) (fun x hx=>du x (h.rng x hx) (h.dn x hx)) aa fun x hx=>by
    cases hb:seqB (digIt x) (digIt it) with
    | false=>rfl
    | true=>exact absurd (List.any_eq_true.2 ⟨x,hx,hb⟩) (by rw [hn];decide)) fun u X' ⟨s,h1,h2⟩=>⟨s,h1,fun w h=>h2 w h.2⟩
theorem AN {a b:ByteArray} (h:gtB a b=true):ltB b a=true:=by
 rw [gtB,Bool.not_eq_true',Bool.or_eq_false_iff] at h
 cases hh:ltB b a with
 | true=>rfl
 | false =>
  have:=jS (a:=a) (b:=b) h.1 hh
  rw [this,cV] at h
  exact absurd h.2 (by decide)
theorem xi {a b:ByteArray} (h:gtB a b=false) (hn:a≠b):ltB a b=true:=by
 rw [gtB,Bool.not_eq_false',Bool.or_eq_true] at h
 rcases h with h|h
 · exact h
 · exact absurd (seqB_iff.1 h) hn
theorem j7 (dI:ItemD→ByteArray) (it:ItemD) (I:List ItemD):(addV dI it I).Perm (it::I):=by
 rw [addV]
 refine List.perm_middle.trans ?_
 rw [List.take_append_drop]
theorem kz (dI:ItemD→ByteArray) {it:ItemD} (I:List ItemD) {q:ItemD→Bool} (h:q it=false):(addV dI it I).filter q=I.filter q:=by
 rw [addV,List.filter_append,List.filter_cons_of_neg (by rw [h];decide),←List.filter_append,List.take_append_drop]
theorem By (dI:ItemD→ByteArray) (it:ItemD) (I:List ItemD) (h:Asc (I.map dI)) (hn:∀ x∈I,dI x≠dI it):Asc ((addV dI it I).map dI):=by
 obtain ⟨p,hp⟩:∃ p,addAt dI (dI it) I I.length=p:=⟨_,rfl⟩
 have hlow:∀ (j:Nat) (x:ItemD),j<p→I[j]?=some x→ltB (dI x) (dI it)=true:=fun j x hj hx=>by
  refine xi ?_ (hn x (List.mem_of_getElem? hx))
  rw [addAt,List.take_length] at hp
  obtain ⟨hlt,e⟩:=List.getElem?_eq_some_iff.1 hx
  cases hf:I.findIdx? fun x=>gtB (dI x) (dI it) with
  | none =>
   have:=List.findIdx?_eq_none_iff.1 hf x (List.mem_of_getElem? hx)
   exact this
  | some q =>
   rw [hf] at hp
   obtain ⟨h1,h2,h3⟩:=List.findIdx?_eq_some_iff_getElem.1 hf
   have:=h3 j (by rw [Option.getD_some] at hp;omega)
   rw [e] at this
   simpa using this
 have hhigh:∀ (j:Nat) (x:ItemD),p≤j→I[j]?=some x→ltB (dI it) (dI x)=true:=fun j x hj hx=>by
  rw [addAt,List.take_length] at hp
  obtain ⟨hlt,e⟩:=List.getElem?_eq_some_iff.1 hx
  cases hf:I.findIdx? fun x=>gtB (dI x) (dI it) with
  | none =>
   rw [hf,Option.getD_none] at hp
   omega
  | some q =>
   rw [hf,Option.getD_some] at hp
   subst hp
   obtain ⟨h1,h2,h3⟩:=List.findIdx?_eq_some_iff_getElem.1 hf
   have h4:=AN h2
   rcases Nat.lt_or_eq_of_le hj with h5|h5
   · exact fq h4 (kX h h5 (by rw [List.getElem?_map,Zm h1];rfl) (by rw [List.getElem?_map,hx];rfl))
   · subst h5
     rw [e] at h4
     exact h4
 rw [addV,hp,Qn,Qu]
 refine List.pairwise_append.2 ⟨kW h ((List.take_sublist _ _).map dI),List.pairwise_cons.2 ⟨fun y hy=>?_,kW h ((List.drop_sublist _ _).map dI)⟩,fun x hx y hy=>?_⟩
 · obtain ⟨z,hz,rfl⟩:=List.mem_map.1 hy
   obtain ⟨j,hj⟩:=List.mem_iff_getElem?.1 hz
   rw [List.getElem?_drop] at hj
   exact hhigh _ z aa hj
 · obtain ⟨z,hz,rfl⟩:=List.mem_map.1 hx
   obtain ⟨j,hj⟩:=List.mem_iff_getElem?.1 hz
   rw [List.getElem?_take] at hj
   split at hj
   · rename_i hjp
     have h1:=hlow j z hjp hj
     rcases List.mem_cons.1 hy with rfl|hy
     · exact h1
     · obtain ⟨u,hu,rfl⟩:=List.mem_map.1 hy
       obtain ⟨k,hk⟩:=List.mem_iff_getElem?.1 hu
       rw [List.getElem?_drop] at hk
       exact fq h1 (hhigh _ u aa hk)
   · cases hj
theorem mW {L:List Int} {I:List ItemD} {it:ItemD} (h:canAdd L I it=true):signedIt L it=true∧rightIt it=true∧∀ x∈I,digIt x≠digIt it:=by
 rw [canAdd,ZM,Bool.not_eq_true'] at h
 refine ⟨h.1,?_,fun x hx e=>?_⟩
 · have h1:=h.1
   rw [signedIt,ZM] at h1
   exact h1.1
 · rw [List.any_eq_true.2 ⟨x,hx,seqB_iff.2 e⟩] at h
   exact absurd h.2 (by decide)
theorem rx {L:List Int} {I:List ItemD} (h:KnR L I) {it:ItemD} (hit:it.act.Rng) (hsm:it.act.Sm) (hdn:it.dec.to.n=it.dec.toL.length) (hl:I.length<100):KnR L (addK L I it):=by
 rw [addK]
 cases hc:canAdd L I it with
 | false=>exact h
 | true =>
  obtain ⟨h1,h2,h3⟩:=mW hc
  have hp:=j7 digIt it I
  have hm:∀ i∈addV digIt it I,i=it∨i∈I:=fun i hi=>List.mem_cons.1 (hp.subset hi)
  show KnR L (addV digIt it I)
  refine ⟨h.sv,by rw [hp.length_eq,ZY];omega,fun i hi=>?_,fun i hi=>?_,fun i hi=>?_,fun i hi=>?_,By digIt it I h.asc h3⟩
  · rcases hm i hi with rfl|hi
    · exact hit
    · exact h.rng i hi
  · rcases hm i hi with rfl|hi
    · exact hsm
    · exact h.sm i hi
  · rcases hm i hi with rfl|hi
    · exact hdn
    · exact h.dn i hi
  · rcases hm i hi with rfl|hi
    · exact h2
    · exact h.right i hi
theorem q7 (n:Nat) (I:List ItemD) (au:ByteArray) {it:ItemD} (hk:it.kind=0):OfWK n (addV digIt it I) au=OfWK n I au:=by
 have h1:claimsV (addV digIt it I) au=claimsV I au:=by
  rw [claimsV,claimsV,selC,selC,kz]
  rw [selBC,wantC,hk]
  rfl
 have h2:∀ g,selB2 au g rightIt (addV digIt it I)=selB2 au g rightIt I:=fun g=>by
  rw [selB2,selB2,kz]
  rw [selBB,wantB,hk]
  rfl
 have h3:∀ g,wonK n (addV digIt it I) au g=wonK n I au g:=fun g=>by rw [wonK,wonK,h1,h2]
 have h4:genB n (addV digIt it I) au=genB n I au:=by
  rw [genB,genB,h1]
  congr 1
  funext g
  exact h3 g
 rw [OfWK,OfWK,h4]
 congr 1
 funext g
 rw [h3]
theorem qm {I:List ItemD} {au:ByteArray} {it:ItemD}:(selA au rightIt (addV digIt it I)).Perm (bif selB au rightIt it then it.act::selA au rightIt I else selA au rightIt I):=by
 have h:=((j7 digIt it I).filter (selB au rightIt)).map ItemD.act
 cases hs:selB au rightIt it with
 | true =>
  rw [List.filter_cons_of_pos hs,Qu] at h
  exact h
 | false =>
  rw [List.filter_cons_of_neg (by rw [hs];decide)] at h
  exact h
def lastK (kl:List KeyD):Int:=(kl.getD (kl.length-1) KeyD.zero).public_
theorem tk {L:List Int} {I I':List ItemD} {au:ByteArray} {c n:ChainD} {kl kl':List KeyD} (hW:OfWK L.length I' au=OfWK L.length I au) (hA:(selA au rightIt I').Perm (selA au rightIt I)) (q:QK L I au c kl) (q':QK L I' au n kl'):SameC n c∧kl'=kl:=by
 obtain ⟨A,sa,sk,st,f,p,r,rfl,rfl⟩:=q
 obtain ⟨A',sa',sk',st',f',p',r',rfl,rfl⟩:=q'
 rw [hW] at r'
 have r2:=mj (OfWK L.length I au) ((p'.trans hA).trans p.symm) r'
 obtain ⟨rfl,rfl⟩:=wT r2 r
 exact ⟨⟨rfl,rfl,rfl,rfl,rfl⟩,rfl⟩
theorem zP {L:List Int} {I:List ItemD} {it:ItemD} {au:ByteArray} {c n:ChainD} {kl kl':List KeyD} (hk:it.kind=0) (hs:selB au rightIt it=false) (q:QK L I au c kl) (q':QK L (addV digIt it I) au n kl'):SameC n c∧kl'=kl :=
 tk (q7 _ I au hk) (by have:=qm (I:=I) (au:=au) (it:=it);rw [hs] at this;exact this) q q'
theorem Fo {n:Nat} {I:List ItemD} {au:ByteArray}:∀ g c,(OfWK n I au).won g=some c→g<(OfWK n I au).B:=fun g c hw=>(eQ hw).1
theorem Ao {W:OfW} {st:ChS} {f:Bool} (r:OfRes W st f) (h:0<st.acts.length):∃ b,oneA (firstL W)=some b∧st=finS W b:=by
 rw [OfRes] at r
 cases ho:oneA (firstL W) with
 | none =>
  rw [ho] at r
  rw [r.1] at h
  exact absurd h (by decide)
 | some b =>
  rw [ho] at r
  exact ⟨b,rfl,r.1⟩
theorem CL {L:List Int} {I:List ItemD} (h:KnR L I) {it:ItemD} {au:ByteArray} {c n:ChainD} {kl kl':List KeyD} (hk:it.kind=0) (hs:selB au rightIt it=true) (q:QK L I au c kl) (q':QK L (addV digIt it I) au n kl')
  (h0:0<c.actsL.length) (h1:it.act.seq=(c.actsL.length:Int)) (h2:it.act.prev=c.prev) (hcn:c.acts.n=c.actsL.length) :
  bif !c.fork&&(fitsV c it.act (idxV c.actsL it.act.object)&&verV (lastK kl) it.act) then
   c.fork=false∧n.id=c.id∧∃ M K,n.actsL=c.actsL++it.act::M∧kl'=(kl++bif decide (it.act.kind=18) then [⟨((c.actsL.length+1:Nat):Int),it.act.n,it.act.m⟩] else [])++K∧(∀ k∈K,(c.actsL.length:Int)+1≤k.from_) ∧
    (M=[]→n.gen=c.gen→K=[]∧n.prev=digV it.act)
  else SameC n c∧kl'=kl:=by
 obtain ⟨A,sa,sk,st,f,p,r,rfl,rfl⟩:=q
 obtain ⟨A',sa',sk',st',f',p',r',rfl,rfl⟩:=q'
 rw [q7 _ I au hk] at r'
 have hsel:=qm (I:=I) (au:=au) (it:=it)
 rw [hs,ZC] at hsel
 have r2:=mj (OfWK L.length I au) ((p'.trans hsel).trans (p.symm.cons it.act)) r'
 obtain ⟨b,hb,hst⟩:=Ao r h0
 have hx:=Du (DA h p) Fo hb r r2 h1 h2
 have hc:candB ((OfWK L.length I au).at A) st it.act=(fitsV (⟨au,sa,sk,st.prev,(st.gen:Nat),f,st.acts⟩:ChainD) it.act (idxV st.acts it.act.object)&&verV (lastK st.keys) it.act):=by
  have e:fitsV (st.ch au) it.act (idxV st.acts it.act.object)=fitsV (⟨au,sa,sk,st.prev,(st.gen:Nat),f,st.acts⟩:ChainD) it.act (idxV st.acts it.act.object):=jW rfl hcn.symm rfl rfl
  rw [←e]
  rfl
 rw [hc] at hx
 show bif !f&&(fitsV (⟨au,sa,sk,st.prev,(st.gen:Nat),f,st.acts⟩:ChainD) it.act (idxV st.acts it.act.object)&&verV (lastK st.keys) it.act) then _ else _
 cases hb2:!f&&(fitsV (⟨au,sa,sk,st.prev,(st.gen:Nat),f,st.acts⟩:ChainD) it.act (idxV st.acts it.act.object)&&verV (lastK st.keys) it.act) with
 | false =>
  rw [hb2,ZB] at hx
  obtain ⟨rfl,rfl⟩:=hx
  exact ⟨⟨rfl,rfl,rfl,rfl,rfl⟩,rfl⟩
 | true =>
  rw [hb2,ZC] at hx
  obtain ⟨hf,m,hm⟩:=hx
  obtain ⟨M,K,e1,e2,e3⟩:=uD (W:=(OfWK L.length I au).at (it.act::A)) m (addS st it.act)
  have el:((addS st it.act).acts.length:Int)=(st.acts.length:Int)+1:=by simp [addS]
  refine ⟨hf,rfl,M,K,?_,?_,fun k hk2=>?_,fun hM hg=>?_⟩
  · show st'.acts=_
    rw [hm,e1]
    simp [addS]
  · rw [hm,e2]
    congr 1
    show (bif decide (it.act.kind=18) then st.keys++[_] else st.keys)=_
    cases decide (it.act.kind=18)<;>simp
  · have:=e3 k hk2
    show (st.acts.length:Int)+1≤k.from_
    omega
  · have hgr:=iQ (W:=(OfWK L.length I au).at (it.act::A)) m (addS st it.act)
    have hg2:st'.gen=st.gen:=by have:((st'.gen:Nat):Int)=(st.gen:Nat):=hg;omega
    have hg3:(addS st it.act).gen=st.gen:=rfl
    rw [hm] at hg2
    rw [hM,Z9] at e1
    have hfix:runS ((OfWK L.length I au).at (it.act::A)) m (addS st it.act)=addS st it.act:=by
     rcases hgr with hgr|hgr|⟨_,g,cc,g1,g2,_⟩
     · exact hgr
     · rw [e1] at hgr;omega
     · omega
    rw [hfix] at e2 hm
    refine ⟨?_,by rw [hm];rfl⟩
    have:=congrArg List.length e2
    rw [ZX] at this
    exact List.eq_nil_of_length_eq_zero aa
def ItemTo (b:ActD) (u:Value) (X:World→Prop):Prop:=∃ s1 s2:SlV,u=(ofActI (b.re s1 s2)).v∧s1.n=b.to.n∧s2.n=b.wraps.n∧∀ w,X w→(b.re s1 s2).at_ w
set_option maxRecDepth 20000 in
theorem wU (a:ActD) (hr:a.Rng) (hs:a.Sm):Mk Tryz.prog 15 #[a.v] (ActD.at_ · a) (ItemTo a):=by
 refine bF (args:=[_]) _ Tryz.func15 rfl Tryz.ntmps15 rfl fun av bor w0=>?_
 repeat' (first|refine gs ?_|refine gs1 fun _=>?_|fail)
 refine cP (hc:=j3 a.to (strs a.toL) hs.to (fun cs hcs=>by simp only [strs,List.mem_map] at hcs;obtain ⟨x,_,rfl⟩:=hcs;rfl)) (hX:=fun w h=>h.1) fun v1 X1 h1=>?_
 obtain ⟨s1,rfl,hn1,hw1⟩:=h1
 repeat' (first|refine gs ?_|refine gs1 fun _=>?_|fail)
 refine cP (hc:=j2 a.wraps (a.wrapsL.map WrapD.cells) hs.wraps (fun cs hcs=>by simp only [List.mem_map] at hcs;obtain ⟨x,_,rfl⟩:=hcs;rfl)) (hX:=fun w h=>h.1.2) fun v2 X2 h2=>?_
 obtain ⟨s2,rfl,hn2,hw2⟩:=h2
 repeat' (first|refine gs ?_|refine gs1 fun _=>?_|(refine aC ?_)|fail)
 have e1:s1.n=a.to.n:=by rw [hn1,hr.to_len];simp [strs]
 have e2:s2.n=a.wraps.n:=by rw [hn2,hr.wraps_len];simp
 apply ad;refine cG rfl rfl aS ?_
 · rfl
 refine ⟨s1,s2,rfl,e1,e2,fun w h=>⟨?_,?_⟩⟩
 · exact hw1 w h.1.1.2
 · exact hw2 w h.1.2
theorem kQ {a:ActD} (h:a.Rng) {s1 s2:SlV} (h1:s1.n=a.to.n) (h2:s2.n=a.wraps.n):(a.re s1 s2).Rng:=⟨h.ints,h.wints,h1.trans h.to_len,h2.trans h.wraps_len⟩
theorem sP {a:ActD} (h:a.Sm) {s1 s2:SlV} (h1:s1.n=a.to.n) (h2:s2.n=a.wraps.n):(a.re s1 s2).Sm:=⟨by show s1.n*16≤_;rw [h1];exact h.to,by show s2.n*64≤_;rw [h2];exact h.wraps,h.target⟩
theorem xl (c:ChainD) (a:ActD) (o:Option Nat) {s1 s2:SlV} (h1:s1.n=a.to.n) (h2:s2.n=a.wraps.n):fitsV c (a.re s1 s2) o=fitsV c a o:=by
 rw [fitsV,fitsV,ma h1 h2]
 rfl
def draftX (c:ChainD) (x:ActD):ActD:={ x with author:=c.id,seq:=(c.acts.n:Int),prev:=c.prev }
theorem zy {k:KyD} {a:ActD} (h:rightB (actSignV k a)=true):rightK k=true∧actSignV k a=a.sig (signV k (coreV (a.sig SgD.zero))):=by
 rw [actSignV] at h ⊢
 cases hb:rightB (a.sig SgD.zero)&&rightK k with
 | false =>
  rw [hb,ZB] at h
  exact absurd h (by decide +kernel)
 | true =>
  rw [ZM] at hb
  exact ⟨hb.2,rfl⟩
theorem nV {L:List Int} {I:List ItemD} {au:ByteArray} {c:ChainD} {kl:List KeyD} (q:QK L I au c kl):c.id=au:=by
 obtain ⟨A,sa,sk,st,f,p,r,rfl,rfl⟩:=q
 rfl
theorem xF {L:List Int} {I:List ItemD} {au:ByteArray} {c:ChainD} {kl:List KeyD} (q:QK L I au c kl) {k:KyD} {x:ActD} {s3 s4:SlV} (e3:s3.n=(actSignV k (draftX c x)).to.n) (e4:s4.n=(actSignV k (draftX c x)).wraps.n)
  (ha:canAdd L I (ofActI ((actSignV k (draftX c x)).re s3 s4))=true):rightK k=true∧rightB (actSignV k (draftX c x))=true∧actSignV k (draftX c x)=(draftX c x).sig (signV k (coreV ((draftX c x).sig SgD.zero)))∧selB au rightIt (ofActI ((actSignV k (draftX c x)).re s3 s4))=true:=by
 obtain ⟨h1,h2,h3⟩:=mW ha
 have hr:rightB (actSignV k (draftX c x))=true:=by
  have:=kf (i:=ofActI ((actSignV k (draftX c x)).re s3 s4)) rfl h2
  rw [←ma e3 e4]
  exact this
 obtain ⟨h4,h5⟩:=zy hr
 refine ⟨h4,hr,h5,?_⟩
 rw [selB,h2,ZE,wantA]
 show (true&&seqB (actSignV k (draftX c x)).author au)=true
 rw [ZD,h5]
 show seqB c.id au=true
 rw [nV q]
 exact cV _
end Go.Proofs.YtoefdofbekihdaaGreatDoor
