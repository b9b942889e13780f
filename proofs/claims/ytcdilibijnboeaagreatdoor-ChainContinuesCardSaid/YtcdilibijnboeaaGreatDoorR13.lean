/- Joined by program out of: Yc Yg Jg Oa Ob Oc Od Zo Zz Oe Of Og Yh. -/
import Derived.Test.YtcdilibijnboeaaGreatDoorR12
set_option linter.unusedVariables false
set_option linter.unusedSimpArgs false
namespace Go.Proofs.YtcdilibijnboeaaGreatDoor
open Go Go.Proofs Sy
theorem Items.keep {w w':World} {s:SlV} {l:List ItemD} (h:Items w s l) (hs:∀ k,k<w.heap.size→w'.heap[k]?=w.heap[k]?):Items w' s l :=
 ⟨RowsD.keep h.1 hs,fun i hi=>⟨⟨RowsD.keep (h.2 i hi).1.1 hs,RowsD.keep (h.2 i hi).1.2 hs⟩,RowsD.keep (h.2 i hi).2 hs⟩⟩
theorem pp {α:Type} {f:α→ByteArray} {I:List α} (h:Asc (I.map f)) {x y:α} (hx:x∈I) (hy:y∈I) (e:f x=f y):x=y:=by
 obtain ⟨p,hp⟩:=List.mem_iff_getElem?.1 hx
 obtain ⟨q,hq⟩:=List.mem_iff_getElem?.1 hy
 have key:∀ {a b:Nat} {u v:α},I[a]?=some u→I[b]?=some v→f u=f v→¬ a<b:=fun {a b u v} h1 h2 e hab=>by
  have:=kK h hab (x:=f u) (y:=f v) (by rw [List.getElem?_map,h1];rfl) (by rw [List.getElem?_map,h2];rfl)
  rw [e,gm] at this
  cases this
 rcases Nat.lt_trichotomy p q with h1|rfl|h1
 · exact absurd h1 (key hp hq e)
 · exact Option.some.inj (hp.symm.trans hq)
 · exact absurd h1 (key hq hp e.symm)
theorem gD {I:List ItemD} {au:ByteArray} {a:ActD} (h:a∈selA au rightIt I):∃ i∈I,i.act=a∧i.kind=0∧rightIt i=true∧digIt i=digV a∧a.author=au:=by
 rw [selA] at h
 obtain ⟨i,hi,rfl⟩:=List.mem_map.1 h
 obtain ⟨h1,h2⟩:=List.mem_filter.1 hi
 rw [selB,ZM,wantA,ZM,ZT,seqB_iff] at h2
 exact ⟨i,h1,rfl,h2.1.1,h2.2,wj h2.1.1 h2.2,h2.1.2⟩
theorem B6 {L:List Int} {I:List ItemD} (h:KnR L I) {au au':ByteArray} {a b:ActD} (ha:a∈selA au rightIt I) (hb:b∈selA au' rightIt I) (e:digV a=digV b):a=b:=by
 obtain ⟨i,hi,rfl,_,_,e1,_⟩:=gD ha
 obtain ⟨j,hj,rfl,_,_,e2,_⟩:=gD hb
 rw [pp h.asc hi hj (by rw [e1,e2,e])]
theorem zg {l:List ActD} (hd:∀ a∈l,∀ b∈l,digV a=digV b→a=b) (hs:∀ (i:Nat) (x:ActD),l[i]?=some x→x.seq=(i:Int)) {n:Nat} {x:ActD} (hx:l[n]?=some x):idxV l (digV x)=some n:=by
 obtain ⟨hn,e⟩:=List.getElem?_eq_some_iff.1 hx
 rw [idxV,List.findIdx?_eq_some_iff_getElem]
 refine ⟨hn,by rw [e];exact bN _,fun j hj hc=>?_⟩
 have h1:=seqB_iff.1 hc
 have h2:=hd _ (Qh ae) x (List.mem_of_getElem? hx) h1
 have h3:=hs j _ (Zm ae)
 have h4:=hs n x hx
 rw [h2] at h3
 omega
theorem tS {P:Program} {f:FuncId} {args:Array Value} {X:World→Prop} {Φ Ψ:Value→(World→Prop)→Prop} (h:Mk P f args X Φ) (hi:∀ u X',Φ u X'→Ψ u X'):Mk P f args X Ψ:=by
 unfold Mk at *
 exact h.mono fun u R X' h1=>⟨hi u X' h1.1,h1.2⟩
def QK (L:List Int) (I:List ItemD) (au:ByteArray) (c:ChainD) (kl:List KeyD):Prop :=
 ∃ (A:List ActD) (sa sk:SlV) (st:ChS) (fork:Bool),A.Perm (selA au rightIt I)∧OfRes ((OfWK L.length I au).at A) st fork∧c=⟨au,sa,sk,st.prev,(st.gen:Nat),fork,st.acts⟩∧kl=st.keys
theorem oR (ks ki:SlV) {L:List Int} {I:List ItemD} (h:KnR L I) (au:ByteArray) :
  Mk Tryz.prog 9 #[.agg #[ks.v,ki.v],.string au] (fun w=>(Ints w ks L∧Items w ki I)∧Glob w) (OfQ (QK L I) au) :=
 tS (Dg vn ks ki h au) fun u X ⟨A,sa,sk,st,fork,h1,h2,h3,h4⟩=>⟨⟨au,sa,sk,st.prev,(st.gen:Nat),fork,st.acts⟩,st.keys,⟨A,sa,sk,st,fork,h1,h2,rfl,rfl⟩,h3,h4⟩
structure ChGood (c:ChainD) (kl:List KeyD):Prop where
 ok:ActsOk c.actsL
 len:c.actsL.length≤100
 klen:kl.length≤1000
 seq:∀ (i:Nat) (x:ActD),c.actsL[i]?=some x→x.seq=(i:Int)
 fit:∀ (n:Nat) (x:ActD),1≤n→c.actsL[n]?=some x→∀ d:ChainD,d.id=c.id→d.acts.n=n→d.prev=x.prev→d.actsL=c.actsL.take n→fitsV d x (idxV d.actsL x.object)=true
 key0:0<c.actsL.length→∃ k r,kl=k::r∧k.from_=0
 own:∀ (n:Nat) (x:ActD),c.actsL[n]?=some x→idxV c.actsL (digV x)=some n
theorem ug {W:OfW} (hB:∀ g c,W.won g=some c→g<W.B) {a:ActD} (ha:a∈firstL W):InvS W (finS W a) :=
 kG (P:=InvS W) (fun st s h hs=>(iE hB h hs).1) _ _ (pi ha).1
theorem yi (au:ByteArray) (I:List ItemD):(selA au rightIt I).length≤I.length:=by rw [selA,Z3];exact List.length_filter_le _ _
theorem ja {L:List Int} {I:List ItemD} (h:KnR L I) {au:ByteArray} {c:ChainD} {kl:List KeyD} (q:QK L I au c kl):ChGood c kl:=by
 obtain ⟨A,sa,sk,st,fork,hA,hR,rfl,rfl⟩:=q
 have hAl:A.length≤100:=by have h1:=hA.length_eq;have h2:=yi au I;have h3:=h.len;omega
 have hAm:∀ a∈A,a∈selA au rightIt I:=fun a ha=>hA.subset ha
 rw [OfRes] at hR
 cases ho:oneA (firstL ((OfWK L.length I au).at A)) with
 | none =>
  rw [ho] at hR
  obtain ⟨rfl,rfl⟩:=hR
  exact ⟨⟨fun a ha=>absurd ha (by simp),fun a ha=>absurd ha (by simp)⟩,by simp,by simp,fun i x hx=>by simp at hx,fun n x _ hx=>by simp at hx,fun hl=>by simp at hl,fun n x hx=>by simp at hx⟩
 | some a =>
  rw [ho] at hR
  obtain ⟨rfl,rfl⟩:=hR
  have ha:a∈firstL ((OfWK L.length I au).at A):=by rw [fX ho];exact List.mem_singleton.2 rfl
  have hF:=BZ ha
  have hB:∀ g c,((OfWK L.length I au).at A).won g=some c→g<((OfWK L.length I au).at A).B:=fun g c hw=>(eS hw).1
  have hI:=ug hB ha
  have hg:=oZ L.length I au
  have hcl:(claimsV I au).length≤I.length:=by rw [claimsV,selC,Z3];exact List.length_filter_le _ _
  have hIl:=h.len
  have h1:=hI.len
  have h2:=hI.keyn
  have h3:(finS ((OfWK L.length I au).at A) a).gen≤genB L.length I au:=hI.gen
  have h4:(finS ((OfWK L.length I au).at A) a).acts.length≤A.length:=h1
  have hmem:∀ x∈(finS ((OfWK L.length I au).at A) a).acts,x∈selA au rightIt I:=fun x hx=>hAm x (hF.mem x hx)
  refine ⟨⟨fun x hx=>?_,fun x hx=>?_⟩,by show (finS ((OfWK L.length I au).at A) a).acts.length≤100;omega,by omega,hF.seq,fun n x hn hx d e1 e2 e3 e4=>?_,fun _=>hF.key0,fun n x hx=>?_⟩
  · obtain ⟨i,hi,rfl,_⟩:=gD (hmem x hx)
    exact h.rng i hi
  · obtain ⟨i,hi,rfl,_⟩:=gD (hmem x hx)
    exact h.sm i hi
  · have h5:=hF.fit n x hx hn
    rw [e4]
    rw [←h5]
    refine jK e1 ?_ e3 e4
    rw [e2]
    show n=((finS ((OfWK L.length I au).at A) a).acts.take n).length
    rw [List.length_take]
    obtain ⟨hlt,_⟩:=List.getElem?_eq_some_iff.1 hx
    change n<(finS ((OfWK L.length I au).at A) a).acts.length at hlt
    omega
  · exact zg (fun x hx y hy e=>B6 h (hmem x hx) (hmem y hy) e) hF.seq hx
theorem tZ:KnR [] []:=⟨by simp,by simp,fun i hi=>absurd hi (by simp),fun i hi=>absurd hi (by simp),fun i hi=>absurd hi (by simp),fun i hi=>absurd hi (by simp),List.Pairwise.nil⟩
theorem Dd {au:ByteArray} {c:ChainD} {kl:List KeyD} (q:QK [] [] au c kl):c.actsL=[]∧kl=[]∧c.prev=⟨#[]⟩∧c.gen=0∧c.fork=false∧c.id=au:=by
 obtain ⟨A,sa,sk,st,fork,hA,hR,rfl,rfl⟩:=q
 obtain rfl:A=[]:=List.Perm.eq_nil hA
 obtain ⟨rfl,rfl⟩:st=⟨[],[],⟨#[]⟩,0⟩∧fork=false:=hR
 exact ⟨rfl,rfl,rfl,rfl,rfl,rfl⟩
theorem nz {l m:List ActD} (h:l.Perm m):oneA l=oneA m:=by
 have hl:=h.length_eq
 match l,m,h,hl with
 | [],m,h,_=>rw [List.Perm.nil_eq h]
 | [a],m,h,_=>rw [List.singleton_perm.1 h]
 | a::b::r,[],h,hl=>cases hl
 | a::b::r,[c],h,hl=>cases hl
 | a::b::r,c::d::s,h,_=>rfl
theorem mA (W:OfW) {A B:List ActD} (h:A.Perm B) (st:ChS):(candL (W.at A) st).Perm (candL (W.at B) st):=(h.filter _).filter _
theorem rz (W:OfW) {A B:List ActD} (h:A.Perm B) (st:ChS):stepS (W.at A) st=stepS (W.at B) st:=by
 have h1:regS (W.at A) st=regS (W.at B) st:=rfl
 rw [stepS,stepS,h1,nz (mA W h st)]
theorem nr (W:OfW) {A B:List ActD} (h:A.Perm B):∀ n st,runS (W.at A) n st=runS (W.at B) n st
 | 0,st=>rfl
 | n+1,st=>by
  rw [runS,runS,rz W h st]
  cases stepS (W.at B) st with
  | none=>rfl
  | some s=>exact nr W h n s
theorem km (W:OfW) {A B:List ActD} (h:A.Perm B):(firstL (W.at A)).Perm (firstL (W.at B)):=(h.filter _).filter _
theorem wb (W:OfW) {A B:List ActD} (h:A.Perm B) (a:ActD):finS (W.at A) a=finS (W.at B) a:=by
 rw [finS,finS,show (W.at A).L.length=(W.at B).L.length from h.length_eq]
 exact nr W h _ _
theorem lW (W:OfW) {A B:List ActD} (h:A.Perm B) {st:ChS} {fork:Bool} (r:OfRes (W.at A) st fork):OfRes (W.at B) st fork:=by
 rw [OfRes] at r ⊢
 rw [←nz (km W h)]
 cases ho:oneA (firstL (W.at A)) with
 | none =>
  rw [ho] at r
  exact ⟨r.1,by rw [r.2,(km W h).length_eq]⟩
 | some a =>
  rw [ho] at r
  simp only at r ⊢
  rw [←wb W h a,←(mA W h _).length_eq]
  exact r
theorem vR {W:OfW} {st st':ChS} {f f':Bool} (r:OfRes W st f) (r':OfRes W st' f'):st=st'∧f=f':=by
 rw [OfRes] at r r'
 cases ho:oneA (firstL W) with
 | none =>
  rw [ho] at r r'
  exact ⟨r.1.trans r'.1.symm,r.2.trans r'.2.symm⟩
 | some a =>
  rw [ho] at r r'
  exact ⟨r.1.trans r'.1.symm,r.2.trans r'.2.symm⟩
def EvS (W:OfW) (s:ChS):Prop:=(∃ x∈W.L,s.prev=digV x)∨∃ g c,g<s.gen∧W.won g=some c∧s.prev=W.dgC c
theorem B3 {W:OfW} {st s:ChS} (hs:stepS W st=some s):EvS W s:=by
 rcases eA hs with h1|⟨h1,a,h2,rfl⟩
 · obtain ⟨c,i,e1,e2,e3,e4,e5,rfl⟩:=fo h1
   exact .inr ⟨st.gen,c,Nat.lt_succ_self _,e1,rfl⟩
 · have ha:a∈candL W st:=by rw [h2];exact List.mem_singleton.2 rfl
   exact .inl ⟨a,(ji ha).1,rfl⟩
theorem iG {W:OfW}:∀ (n:Nat) (s:ChS),runS W n s=s∨s.acts.length<(runS W n s).acts.length ∨
  s.acts.length=(runS W n s).acts.length∧∃ g c,s.gen≤g∧(runS W n s).gen=g+1∧W.won g=some c∧(runS W n s).prev=W.dgC c
 | 0,s=>.inl rfl
 | n+1,s=>by
  cases hs:stepS W s with
  | none=>exact .inl (fw hs _)
  | some s1 =>
   rw [eJ hs]
   have ih:=iG (W:=W) n s1
   rcases eA hs with h1|⟨h1,a,h2,rfl⟩
   · obtain ⟨c,i,e1,e2,e3,e4,e5,e6⟩:=fo h1
     have ea:s1.acts=s.acts:=by rw [e6]
     have eg:s1.gen=s.gen+1:=by rw [e6]
     have ep:s1.prev=W.dgC c:=by rw [e6]
     rw [ea] at ih
     rcases ih with ih|ih|⟨ih,g,c',i1,i2,i3,i4⟩
     · rw [ih]
       exact .inr (.inr ⟨by rw [ea],s.gen,c,Qp _,eg,e1,ep⟩)
     · exact .inr (.inl ih)
     · exact .inr (.inr ⟨ih,g,c',by omega,i2,i3,i4⟩)
   · have el:(addS s a).acts.length=s.acts.length+1:=by simp [addS]
     right;left
     rcases ih with ih|ih|⟨ih,_⟩
     · rw [ih];omega
     · omega
     · omega
structure DistS (W:OfW):Prop where
 ac:∀ x∈W.L,∀ g c,W.won g=some c→digV x≠W.dgC c
 cc:∀ g g' c c',W.won g=some c→W.won g'=some c'→W.dgC c=W.dgC c'→g=g'
theorem yS {W:OfW} (hD:DistS W) {n:Nat} {s s1:ChS} (hE:EvS W s) (hs:stepS W s=some s1):¬ ((runS W n s1).acts.length=s.acts.length∧(runS W n s1).prev=s.prev):=by
 rintro ⟨h1,h2⟩
 have hg:=iG (W:=W) (n+1) s
 rw [eJ hs] at hg
 rcases hg with hg|hg|⟨_,g,c,g1,g2,g3,g4⟩
 · have hg1:=iG (W:=W) n s1
   rcases eA hs with k1|⟨k1,a,k2,rfl⟩
   · obtain ⟨c,i,e1,e2,e3,e4,e5,e6⟩:=fo k1
     have eg:s1.gen=s.gen+1:=by rw [e6]
     have ea:s1.acts=s.acts:=by rw [e6]
     rcases hg1 with q|q|⟨q,g,c',q1,q2,_⟩
     · rw [q] at hg
       rw [hg] at eg
       omega
     · rw [hg,ea] at q
       omega
     · rw [hg] at q2
       omega
   · have el:(addS s a).acts.length=s.acts.length+1:=by simp [addS]
     rcases hg1 with q|q|⟨q,_⟩
     · rw [q] at h1;omega
     · omega
     · omega
 · omega
 · rw [h2] at g4
   rcases hE with ⟨x,hx,e⟩|⟨g',c',l1,l2,l3⟩
   · exact hD.ac x hx g c g3 (e.symm.trans g4)
   · have:=hD.cc g' g c' c l2 g3 (l3.symm.trans g4)
     omega
theorem tz {W:OfW} {A:List ActD} {a:ActD} (hD:DistS (W.at A)):∀ (n:Nat) (s:ChS),EvS (W.at A) s→stepS (W.at A) (runS (W.at A) n s)=none→a.seq=((runS (W.at A) n s).acts.length:Int)→a.prev=(runS (W.at A) n s).prev →
  ∃ k,k≤n∧∀ m,runS (W.at (a::A)) (k+m) s=runS (W.at (a::A)) m (runS (W.at A) n s)
 | 0,s,hE,hf,h1,h2=>⟨0,Qp _,fun m=>by rw [Ql];rfl⟩
 | n+1,s,hE,hf,h1,h2=>by
  cases hs:stepS (W.at A) s with
  | none =>
   rw [fw hs] at *
   exact ⟨0,Nat.zero_le _,fun m=>by rw [Ql]⟩
  | some s1 =>
   have hno:=yS hD (n:=n) hE hs
   rw [eJ hs] at *
   have hpos:posB s.acts.length s.prev a=false:=by
    cases hp:posB s.acts.length s.prev a with
    | false=>rfl
    | true =>
     rw [posB,ZM,ZT,seqB_iff] at hp
     exact absurd ⟨by have:=hp.1;omega,by rw [←h2];exact hp.2⟩ hno
   have hst:stepS (W.at (a::A)) s=some s1:=by
    rw [←hs]
    have e:candL (W.at (a::A)) s=candL (W.at A) s:=by
     show (List.filter (posB s.acts.length s.prev) (a::A)).filter _=_
     rw [List.filter_cons_of_neg (by rw [hpos];decide)]
     rfl
    have e1:regS (W.at (a::A)) s=regS (W.at A) s:=rfl
    rw [stepS,stepS,e,e1]
   obtain ⟨k,hk,hr⟩:=tz hD n s1 (B3 hs) hf h1 h2
   exact ⟨k+1,by omega,fun m=>by rw [Nat.add_right_comm,eJ hst];exact hr m⟩
theorem tA {W:OfW} (hB:∀ g c,W.won g=some c→g<W.B):∀ (n:Nat) (s:ChS),InvS W s→muS W s≤n→stepS W (runS W n s)=none
 | 0,s,hI,hm=>by
  cases hs:stepS W s with
  | none=>exact hs
  | some s1=>have:=(iE hB hI hs).2;omega
 | n+1,s,hI,hm=>by
  cases hs:stepS W s with
  | none=>rw [fw hs];exact hs
  | some s1 =>
   obtain ⟨h1,h2⟩:=iE hB hI hs
   rw [eJ hs]
   exact tA hB n s1 h1 ae
theorem zt {W:OfW} (hB:∀ g c,W.won g=some c→g<W.B) {a:ActD} (ha:a∈firstL W):stepS W (finS W a)=none:=by
 obtain ⟨h1,h2⟩:=pi ha
 exact tA hB _ _ h1 ae
structure KeyS (s:ChS):Prop where
 len:s.keys.length=1+movN s.acts+s.gen
 le:∀ k∈s.keys,k.from_≤(s.acts.length:Int)
theorem jG (l:List ActD) (a:ActD):movN (l++[a])=movN l+bif decide (a.kind=18) then 1 else 0:=by
 rw [movN,movN,List.filter_append,ZX]
 congr 1
 cases h:decide (a.kind=18) with
 | true=>simp [h]
 | false=>simp [h]
theorem zd {s:ChS} (h:KeyS s) (a:ActD):KeyS (addS s a):=by
 have hl:=h.len
 cases hk:decide (a.kind=18) with
 | true =>
  refine ⟨?_,fun k hk'=>?_⟩
  · show (bif decide (a.kind=18) then s.keys++[_] else s.keys).length=1+movN (s.acts++[a])+s.gen
    rw [jG,hk,ZC,ZC,ZX,List.length_singleton]
    omega
  · change k∈(bif decide (a.kind=18) then s.keys++[_] else s.keys) at hk'
    rw [hk,ZC] at hk'
    show k.from_≤((s.acts++[a]).length:Int)
    rw [ZX,List.length_singleton]
    rcases List.mem_append.1 hk' with h1|h1
    · have:=h.le k h1;omega
    · rw [List.mem_singleton.1 h1];exact Int.le_refl _
 | false =>
  refine ⟨?_,fun k hk'=>?_⟩
  · show (bif decide (a.kind=18) then s.keys++[_] else s.keys).length=1+movN (s.acts++[a])+s.gen
    rw [jG,hk,ZB,ZB]
    omega
  · change k∈(bif decide (a.kind=18) then s.keys++[_] else s.keys) at hk'
    rw [hk,ZB] at hk'
    show k.from_≤((s.acts++[a]).length:Int)
    rw [ZX,List.length_singleton]
    have:=h.le k hk'
    omega
theorem vV {W:OfW} {st s:ChS} (h:KeyS st) (hs:stepS W st=some s):KeyS s:=by
 rcases eA hs with h1|⟨h1,a,h2,rfl⟩
 · obtain ⟨c,i,e1,e2,e3,e4,e5,rfl⟩:=fo h1
   have hl:=h.len
   refine ⟨?_,fun k hk=>?_⟩
   · show (st.keys++[_]).length=1+movN st.acts+(st.gen+1)
     rw [ZX,List.length_singleton]
     omega
   · rcases List.mem_append.1 (show k∈st.keys++[_] from hk) with h3|h3
     · exact h.le k h3
     · rw [List.mem_singleton.1 h3];exact Int.le_refl _
 · exact zd h a
theorem zc {W:OfW} {a:ActD} (ha:a∈firstL W):KeyS (finS W a):=by
 refine kG (P:=KeyS) (fun st s h hs=>vV h hs) _ _ ?_
 obtain ⟨e,h1,h2,h3,h4,_⟩:=sJ ha
 rw [e]
 have hm:movN [a]=0:=by
  have:=jG [] a
  rw [Qb] at this
  rw [this,h4]
  rfl
 refine ⟨?_,fun k hk=>?_⟩
 · show 1=1+movN [a]+0
   rw [hm]
 · rw [List.mem_singleton.1 hk]
   show (0:Int)≤1
   decide
theorem tB {W:OfW}:∀ (n:Nat) (s:ChS),∃ M K,(runS W n s).acts=s.acts++M∧(runS W n s).keys=s.keys++K∧∀ k∈K,(s.acts.length:Int)≤k.from_
 | 0,s=>⟨[],[],(Z9 _).symm,(Z9 _).symm,fun k hk=>(List.not_mem_nil hk).elim⟩
 | n+1,s=>by
  cases hs:stepS W s with
  | none=>rw [fw hs];exact ⟨[],[],(Z9 _).symm,(Z9 _).symm,fun k hk=>(List.not_mem_nil hk).elim⟩
  | some s1 =>
   rw [eJ hs]
   obtain ⟨M,K,h1,h2,h3⟩:=tB (W:=W) n s1
   rcases eA hs with k1|⟨k1,a,k2,rfl⟩
   · obtain ⟨c,i,e1,e2,e3,e4,e5,rfl⟩:=fo k1
     refine ⟨M,⟨(s.acts.length:Nat),c.pub,c.home⟩::K,h1,by rw [h2];simp,fun k hk=>?_⟩
     rcases List.mem_cons.1 hk with rfl|hk
     · exact Int.le_refl _
     · exact h3 k hk
   · have hl:((addS s a).acts.length:Int)=(s.acts.length:Int)+1:=by simp [addS]
     refine ⟨a::M,(bif decide (a.kind=18) then [⟨((s.acts.length+1:Nat):Int),a.n,a.m⟩] else [])++K,by rw [h1];simp [addS],?_,fun k hk=>?_⟩
     · rw [h2]
       show (bif decide (a.kind=18) then s.keys++[_] else s.keys)++K=_
       cases decide (a.kind=18)<;>simp
     · rcases List.mem_append.1 hk with hk|hk
       · cases hd:decide (a.kind=18) with
         | true =>
          rw [hd,ZC] at hk
          rw [List.mem_singleton.1 hk]
          show (s.acts.length:Int)≤((s.acts.length+1:Nat):Int)
          omega
         | false =>
          rw [hd,ZB] at hk
          exact (List.not_mem_nil hk).elim
       · have:=h3 k hk
         omega
theorem B2 {W:OfW} {A:List ActD} {a b:ActD} (hD:DistS (W.at A)) (hB:∀ g c,W.won g=some c→g<W.B) (hb:oneA (firstL (W.at A))=some b) {st st':ChS} {f f':Bool}
  (r:OfRes (W.at A) st f) (r':OfRes (W.at (a::A)) st' f') (h1:a.seq=(st.acts.length:Int)) (h2:a.prev=st.prev) :
  bif !f&&candB (W.at A) st a then f=false∧∃ m,st'=runS (W.at (a::A)) m (addS st a) else st'=st∧f'=f:=by
 have hbm:b∈firstL (W.at A):=by rw [fX hb];exact List.mem_singleton.2 rfl
 have hI:=ug (W:=W.at A) hB hbm
 have hst:st=finS (W.at A) b∧f=decide (1<(candL (W.at A) (finS (W.at A) b)).length):=by
  rw [OfRes,hb] at r
  exact r
 obtain ⟨rfl,hf⟩:=hst
 have hone:=hI.one
 have hfl:firstL (W.at (a::A))=firstL (W.at A):=by
  have hp:posB 0 ⟨#[]⟩ a=false:=by
   rw [posB,Zn (by rw [h1];omega)]
   rfl
  show (List.filter (posB 0 ⟨#[]⟩) (a::A)).filter _=_
  rw [List.filter_cons_of_neg (by rw [hp];decide)]
  rfl
 have hst':st'=finS (W.at (a::A)) b∧f'=decide (1<(candL (W.at (a::A)) (finS (W.at (a::A)) b)).length):=by
  rw [OfRes,hfl,hb] at r'
  exact r'
 obtain ⟨rfl,hf'⟩:=hst'
 have hstop:=zt (W:=W.at A) hB hbm
 have hE:EvS (W.at A) (begS b):=by
  obtain ⟨e,m1,_⟩:=sJ hbm
  exact .inl ⟨b,m1,by rw [e]⟩
 obtain ⟨k,hk,hr⟩:=tz hD _ (begS b) hE hstop h1 h2
 change ∀ m,runS (W.at (a::A)) (k+m) (begS b)=runS (W.at (a::A)) m (finS (W.at A) b) at hr
 obtain ⟨m,hm⟩:∃ m,(a::A).length+W.B=k+(m+1):=⟨(a::A).length+W.B-k-1,by rw [ZY];have:k≤A.length+W.B:=hk;omega⟩
 have hfin:finS (W.at (a::A)) b=runS (W.at (a::A)) (m+1) (finS (W.at A) b):=by
  rw [←hr,←hm]
  rfl
 have hpos:posB (finS (W.at A) b).acts.length (finS (W.at A) b).prev a=true:=by
  rw [posB,ZA h1,h2,bN]
  rfl
 have hcl:candL (W.at (a::A)) (finS (W.at A) b)=if candB (W.at A) (finS (W.at A) b) a=true then a::candL (W.at A) (finS (W.at A) b) else candL (W.at A) (finS (W.at A) b):=by
  show (List.filter (posB (finS (W.at A) b).acts.length (finS (W.at A) b).prev) (a::A)).filter (candB (W.at A) (finS (W.at A) b))=_
  rw [List.filter_cons_of_pos (by rw [hpos]),List.filter_cons]
  rfl
 have hreg:regS (W.at A) (finS (W.at A) b)=none∧oneA (candL (W.at A) (finS (W.at A) b))=none:=by
  rw [stepS] at hstop
  cases hr:regS (W.at A) (finS (W.at A) b) with
  | some s=>rw [hr] at hstop;cases hstop
  | none =>
   rw [hr] at hstop
   exact ⟨rfl,by simpa using hstop⟩
 have hregA:regS (W.at (a::A)) (finS (W.at A) b)=none:=hreg.1
 have hstay:oneA (candL (W.at (a::A)) (finS (W.at A) b))=none→finS (W.at (a::A)) b=finS (W.at A) b:=fun ho=>by
  rw [hfin]
  refine fw ?_ _
  rw [stepS,hregA,ho]
  rfl
 cases hc:candB (W.at A) (finS (W.at A) b) a with
 | false =>
  rw [hc,Qg (by decide)] at hcl
  have hs:=hstay (by rw [hcl];exact hreg.2)
  rw [ZH,ZB]
  refine ⟨hs,?_⟩
  rw [hf',hs,hcl,hf]
 | true =>
  rw [hc,Qf rfl] at hcl
  cases hff:f with
  | true =>
   rw [hff] at hf
   have hl:=aO hf.symm
   have ho:oneA (a::candL (W.at A) (finS (W.at A) b))=none:=by
    cases hcc:candL (W.at A) (finS (W.at A) b) with
    | nil=>rw [hcc] at hl;simp at hl
    | cons x r=>rfl
   have hs:=hstay (by rw [hcl];exact ho)
   refine ⟨hs,?_⟩
   rw [hf',hs,hcl,ZY]
   exact ZA ae
  | false =>
   rw [hff] at hf
   have hl:=aQ hf.symm
   have hnil:candL (W.at A) (finS (W.at A) b)=[]:=by
    have h3:=hreg.2
    cases hcc:candL (W.at A) (finS (W.at A) b) with
    | nil=>rfl
    | cons x r =>
     rw [hcc] at hl h3
     cases r with
     | nil=>cases h3
     | cons y r=>simp at hl
   rw [hnil] at hcl
   refine ⟨rfl,m,?_⟩
   rw [hfin]
   refine eJ ?_
   rw [stepS,hregA,hcl]
   rfl
theorem wi {i:ItemD} (h:i.kind=1) (hr:rightIt i=true):digIt i=dgCl i.claim:=by
 have h1:claimR i.claim=true:=by
  rcases dr hr with h2|h2|h2|h2
  · rw [h] at h2;exact absurd h2.1 (by decide)
  · exact h2.2
  · rw [h] at h2;exact absurd h2.1 (by decide)
  · rw [h] at h2;exact absurd h2.1 (by decide)
 have h2:rightIt (ofClaimI i.claim)=true:=by
  have h3:rightIt (ofClaimI i.claim)=(claimR i.claim&&sameIZ ItemD.zero):=rfl
  rw [h3,h1]
  decide +kernel
 have e:bytesIt i=bytesIt (ofClaimI i.claim):=by
  rw [bytesIt,bytesIt,hr,h2,ZC,ZC,bodyIt,h]
  rfl
 rw [digIt,dgCl,digIt,e]
theorem gP {I:List ItemD} {au:ByteArray} {c:ClaimD} (h:c∈claimsV I au):∃ i∈I,i.kind=1∧i.claim=c∧digIt i=dgCl c:=by
 rw [claimsV,selC] at h
 obtain ⟨i,hi,rfl⟩:=List.mem_map.1 h
 obtain ⟨h1,h2⟩:=List.mem_filter.1 hi
 rw [selBC,ZM,wantC,ZM,ZT] at h2
 exact ⟨i,h1,h2.1.1,rfl,wi h2.1.1 h2.2⟩
theorem B4 {L:List Int} {I:List ItemD} (h:KnR L I) {au:ByteArray} {A:List ActD} (hA:A.Perm (selA au rightIt I)):DistS ((OfWK L.length I au).at A):=by
 refine ⟨fun x hx g c hw e=>?_,fun g g' c c' hw hw' e=>?_⟩
 · obtain ⟨i,hi,e1,e2,_,e3,_⟩:=gD (hA.subset hx)
   obtain ⟨j,hj,e4,e5,e6⟩:=gP (fN (eS hw).2).1
   have:=pp h.asc hi hj (by rw [e3,e6];exact e)
   rw [this,e4] at e2
   exact absurd e2 (by decide)
 · obtain ⟨m1,m2⟩:=fN (eS hw).2
   obtain ⟨m3,m4⟩:=fN (eS hw').2
   obtain ⟨i,hi,e1,e2,e3⟩:=gP m1
   obtain ⟨j,hj,e4,e5,e6⟩:=gP m3
   have:=pp h.asc hi hj (by rw [e3,e6];exact e)
   subst this
   rw [e2] at e5
   have h9:c.gen=c'.gen:=by rw [e5]
   rw [m2,m4] at h9
   omega
def gtB (a b:ByteArray):Bool:=!(Op.bytesLess a.toList b.toList||seqB a b)
def addAt (dI:ItemD→ByteArray) (d:ByteArray) (I:List ItemD) (k:Nat):Nat:=((I.take k).findIdx? fun x=>gtB (dI x) d).getD I.length
def addV (dI:ItemD→ByteArray) (it:ItemD) (I:List ItemD):List ItemD:=I.take (addAt dI (dI it) I I.length)++it::I.drop (addAt dI (dI it) I I.length)
theorem zV (dI:ItemD→ByteArray) (d:ByteArray) (I:List ItemD) (k:Nat) (hk:k≤I.length):addAt dI d I k<k∨addAt dI d I k=I.length:=by
 rw [addAt]
 cases h:(I.take k).findIdx? fun x=>gtB (dI x) d with
 | none=>exact .inr rfl
 | some j =>
  rw [List.findIdx?_eq_some_iff_getElem] at h
  obtain ⟨h1,_⟩:=h
  rw [List.length_take] at h1
  exact .inl (by show j<k;omega)
theorem sO (dI:ItemD→ByteArray) (d:ByteArray) (I:List ItemD) (k:Nat) (x:ItemD) (hx:I[k]?=some x):addAt dI d I (k+1)=bif gtB (dI x) d&&decide (addAt dI d I k=I.length) then k else addAt dI d I k:=by
 have hk:k<I.length:=(List.getElem?_eq_some_iff.1 hx).1
 rw [addAt,addAt,List.take_add_one,hx,Option.toList_some,List.findIdx?_append]
 cases h:(I.take k).findIdx? fun x=>gtB (dI x) d with
 | none =>
  rw [List.findIdx?_singleton]
  cases hg:gtB (dI x) d with
  | true=>simp [List.length_take];omega
  | false=>simp
 | some j =>
  rw [List.findIdx?_eq_some_iff_getElem] at h
  obtain ⟨h1,_⟩:=h
  rw [List.length_take] at h1
  have:¬ j=I.length:=by omega
  simp [this]
section
variable {P:Program} {N:Nat} {av bor:List Nat} {w0:World} {x y:Operand} {t t2:TypeId} {ty:TypeId} {st:St}
theorem kD {a b:ByteArray} (v:Bool) (hx:ev st.env x=some (.string a)) (hy:ev st.env y=some (.string b)) (hv:gtB a b=v):Sy.Yields P N av bor w0 st (.binOp .gtr t x y t2) ty (.bool v):=hv▸wF hx hy
end
structure AddI (I:List ItemD) where
 k:Nat
 hk:k≤I.length
set_option maxHeartbeats 16000000 in
theorem Cf (Y:World→Prop) (ks ki:SlV) (I:List ItemD) (it:ItemD) (rI:ItemD→Bool) (dI:ItemD→ByteArray)
  (hR:Pu Tryz.prog 44 #[it.v] (fun w=>it.at_ w) (.bool true))
  (hS:Pu Tryz.prog 45 #[ks.v,it.v] (fun w=>(Y w∧it.at_ w)∧Glob w) (.bool true))
  (hD0:Pu Tryz.prog 14 #[it.v] (fun w=>it.at_ w∧Glob w) (.string (dI it)))
  (hD:∀ x∈I,Pu Tryz.prog 14 #[x.v] (fun w=>x.at_ w∧Glob w) (.string (dI x)))
  (hI:I.length≤1000) (hnew:∀ x∈I,seqB (dI x) (dI it)=false) :
  Mk Tryz.prog 18 #[.agg #[ks.v,ki.v],it.v] (fun w=>((Y w∧Items w ki I)∧it.at_ w)∧Glob w)
   (fun u X'=>∃ s:SlV,u=.tuple #[.agg #[ks.v,s.v],.bool true]∧∀ w,X' w→Items w s (addV dI it I)):=by
 refine cf (args:=[_,_]) _ Tryz.func18 rfl Tryz.ntmps18 rfl fun av bor w0=>?_
 refine bK (p:=ki.n=I.length∧ki.n≤maxLen∧(0<I.length→ki.p.isSome=true)∧ki.n≤ki.c) (fun w h=>⟨h.1.1.2.len_,h.1.1.2.max_,h.1.1.2.some_,RowsD.cap h.1.1.2.1⟩) fun ⟨hkn,hkm,hkp,hkc⟩=>?_
 simp only [maxLen] at hkm
 obtain ⟨d,hd⟩:∃ d,dI it=d:=⟨_,rfl⟩
 rw [hd] at hD0 hnew
 repeat' (first|apply ab|apply Qu|apply Qv|refine aj ?_|refine ad ?_|refine az ?_|refine aA ?_|refine aD ?_|refine aC ?_|refine bu ?_|refine aW ?_|refine aI fun _=>?_|refine aK fun _=>?_|refine Qz ?_|apply Qx|apply Qw|(refine ao (hc:=hR) (hX:=fun w h=>h.1.2) ?_)|(refine ao (hc:=hS) (hX:=fun w h=>⟨⟨h.1.1.1,h.1.2⟩,h.2⟩) ?_)|(refine ao (hc:=hD0) (hX:=fun w h=>⟨h.1.2,h.2⟩) ?_)|fail)
 rename_i b2 b3 b4
 refine aT (ι:=AddI I) (fun i=>⟨[(2,.pointer (some ⟨b2,0,none⟩)),(3,.pointer (some ⟨b3,0,none⟩)),(4,.pointer (some ⟨b4,0,none⟩)),(6,.string d),(7,.int .i64 (addAt dI d I i.k:Nat)),(29,ki.v),(30,.int .i64 (ki.n:Nat)),(31,.int .i64 (i.k:Nat))],[cel b4 25 [.slice none 0 0,.slice none 0 0],cel b3 57 it.cells,cel b2 25 [ks.v,ki.v]],fun w=>((Y w∧Items w ki I)∧it.at_ w)∧Glob w⟩) (fun i=>I.length-i.k) ⟨0,Nat.zero_le _⟩ (ax ⟨rfl,rfl,rfl,rfl,(by show some (Value.int .i64 (ki.n:Nat))=_;rw [hkn];rfl),rfl,rfl,rfl,trivial⟩ (aG _) fun _ h=>h) fun i=>?_
 obtain ⟨k,hk⟩:=i
 simp only
 repeat' (first|apply ab|apply Qu|apply Qv|refine aj ?_|refine az ?_|refine aA ?_|refine bj ?_|refine aW ?_|refine be (h:=?_)|apply Qx|apply Qw|apply aS|(refine aF (ht:=?_) (hf:=?_);all_goals (intro hx_;first|have:=aO hx_|have:=aQ hx_)))
 · have hlt:k<I.length:=by omega
   have hkp':=hkp ae
   obtain ⟨x,hx⟩:∃ x,I[k]?=some x:=⟨_,Zm hlt⟩
   have hxm:=List.mem_of_getElem? hx
   have hne:=hnew x hxm
   have hst:=sO dI d I k x hx
   generalize addAt dI d I k=at0 at *
   cases hg:gtB (dI x) d with
   | false =>
    rw [hg] at hst
    have hst:addAt dI d I (k+1)=at0:=hst
    have hat:decide ((at0:Int)=(ki.n:Int))=decide ((at0:Int)=(ki.n:Int)):=rfl
    repeat' (first|refine am (dm false rfl rfl hne) rfl aE rfl ?_|refine am (kD _ rfl rfl hg) rfl aE rfl ?_|apply ab|apply Qu|apply Qv|refine aj ?_|refine ad ?_|refine aD ?_|refine aC ?_|refine be (h:=?_)|refine aL ?_|refine aI fun _=>?_|refine aH ?_|refine Qz ?_|apply Qx|(refine bz (q:=k*49) ?_)|(refine cq (cs:=x.cells) (hF:=fun w h=>h.1.1.2.get hx) ?_)|(refine ao (hc:=hD x hxm) (hX:=fun w h=>⟨h.1.1.2.2 x hxm,h.2⟩) ?_)|fail)
    exact ⟨(⟨k+1,hlt⟩:AddI I),(by show I.length-(k+1)<I.length-k;omega),ax ⟨rfl,rfl,rfl,rfl,(by show _=some (Value.int .i64 (addAt dI d I (k+1):Nat));rw [hst];rfl),rfl,rfl,rfl,trivial⟩ (.cons _ (aG _)) fun _ h=>h⟩
   | true =>
    by_cases ha:at0=I.length
    · rw [hg,ZA ha] at hst
      have hst:addAt dI d I (k+1)=k:=hst
      have hat:decide ((at0:Int)=(ki.n:Int))=true:=ZA ae
      repeat' (first|refine am (dm false rfl rfl hne) rfl aE rfl ?_|refine am (kD _ rfl rfl hg) rfl aE rfl ?_|refine am (eY _ rfl rfl hat) rfl aE rfl ?_|apply ab|apply Qu|apply Qv|refine aj ?_|refine ad ?_|refine az ?_|refine aA ?_|refine aD ?_|refine aB ?_|refine aW ?_|refine be (h:=?_)|refine aI fun _=>?_|refine aH ?_|refine Qy ?_|refine Qz ?_|apply Qx|(refine bz (q:=k*49) ?_)|(refine cq (cs:=x.cells) (hF:=fun w h=>h.1.1.2.get hx) ?_)|(refine ao (hc:=hD x hxm) (hX:=fun w h=>⟨h.1.1.2.2 x hxm,h.2⟩) ?_)|fail)
      exact ⟨(⟨k+1,hlt⟩:AddI I),(by show I.length-(k+1)<I.length-k;omega),ax ⟨rfl,rfl,rfl,rfl,(by show _=some (Value.int .i64 (addAt dI d I (k+1):Nat));rw [hst];rfl),rfl,rfl,rfl,trivial⟩ (.cons _ (aG _)) fun _ h=>h⟩
    · rw [hg,Zn ha] at hst
      have hst:addAt dI d I (k+1)=at0:=hst
      have hat:decide ((at0:Int)=(ki.n:Int))=false:=Zn ae
      repeat' (first|refine am (dm false rfl rfl hne) rfl aE rfl ?_|refine am (kD _ rfl rfl hg) rfl aE rfl ?_|refine am (eY _ rfl rfl hat) rfl aE rfl ?_|apply ab|apply Qu|apply Qv|refine aj ?_|refine ad ?_|refine az ?_|refine aA ?_|refine aD ?_|refine aB ?_|refine aW ?_|refine be (h:=?_)|refine aI fun _=>?_|refine aH ?_|refine Qz ?_|apply Qx|(refine bz (q:=k*49) ?_)|(refine cq (cs:=x.cells) (hF:=fun w h=>h.1.1.2.get hx) ?_)|(refine ao (hc:=hD x hxm) (hX:=fun w h=>⟨h.1.1.2.2 x hxm,h.2⟩) ?_)|fail)
      exact ⟨(⟨k+1,hlt⟩:AddI I),(by show I.length-(k+1)<I.length-k;omega),ax ⟨rfl,rfl,rfl,rfl,(by show _=some (Value.int .i64 (addAt dI d I (k+1):Nat));rw [hst];rfl),rfl,rfl,rfl,trivial⟩ (.cons _ (aG _)) fun _ h=>h⟩
 have hkE:k=I.length:=by omega
 have hV:addV dI it I=I.take (addAt dI d I k)++it::I.drop (addAt dI d I k):=by rw [addV,hd,hkE]
 have hal:addAt dI d I k≤I.length:=by
  rcases zV dI d I k hk with h|h
  · omega
  · omega
 rw [hV]
 generalize addAt dI d I k=a0 at *
 have hones:∀ (J:List ItemD),∀ cs∈J.map ItemD.cells,cs.all (·.oneCell')=true:=fun J cs hcs=>by
  obtain ⟨x,_,rfl⟩:=List.mem_map.1 hcs
  rfl
 have hs1:∀ w,(((Y w∧Items w ki I)∧it.at_ w)∧Glob w)→Src Tryz.prog w 49 (.slice ki.p a0 ki.c) a0 ((I.take a0).map ItemD.cells).flatten:=fun w h=>by
  have h1:=RowsD.take (n:=a0) h.1.1.2.1 (by simpa using hal)
  rw [←List.map_take] at h1
  exact gB h1 (hones _)
 have hs2:∀ w,(((Y w∧Items w ki I)∧it.at_ w)∧Glob w)→Src Tryz.prog w 49 (ki.from 49 a0).v (ki.from 49 a0).n ((I.drop a0).map ItemD.cells).flatten:=fun w h=>by
  have h1:=RowsD.drop (n:=a0) h.1.1.2.1 (by simpa using hal)
  rw [←List.map_drop] at h1
  exact gB h1 (hones _)
 have hfn:(ki.from 49 a0).n=ki.n-a0:=rfl
 refine gY (c:=ki.n+1) (hm:=Nat.ble_eq_true_of_le ae) (hm2:=Nat.ble_eq_true_of_le ae) fun bv=>?_
 repeat' (first|apply ab|apply Qu|apply Qv|refine aj ?_|refine ad ?_|refine az ?_|refine aA ?_|(refine am (CG rfl rfl ae ae) rfl rfl rfl ?_)|fail)
 refine aV (size:=49) (news:=((I.take a0).map ItemD.cells).flatten) (q:=a0) rfl rfl rfl rfl (fun _=>At.here _) (fun w G=>hs1 w G.keep.now) ae (by simp only [maxLen];omega) rfl ?_ rfl ?_
 · (with_reducible rfl)
 intro A1 c1
 repeat' (first|refine bH (size:=49) (vs:=[it.v]) (css:=it.cells) (hsz:=by rfl) (hcs:=by rfl) fun _=>?_|apply ab|apply Qu|apply Qv|refine aj ?_|refine ad ?_|refine aD ?_|fail)
 refine aV (size:=49) (news:=it.cells) (q:=1) rfl rfl rfl rfl (fun _=>At.there _ (At.here _)) (fun w G=>bo G aJ rfl rfl 1) ae (by simp only [maxLen];omega) rfl ?_ rfl ?_
 · (with_reducible rfl)
 intro A2 c2
 repeat' (first|apply ab|apply Qu|apply Qv|refine aj ?_|refine ad ?_|refine az ?_|refine aA ?_|(refine am (CF (s:=ki) rfl rfl ae ae) rfl rfl rfl ?_)|fail)
 refine aV (size:=49) (news:=((I.drop a0).map ItemD.cells).flatten) (q:=ki.n-a0) rfl rfl rfl rfl (fun _=>At.there _ (At.here _)) (fun w G=>hs2 w G.keep.now) ae (by simp only [maxLen];omega) rfl ?_ rfl ?_
 · (with_reducible rfl)
 intro A3 c3
 repeat' (first|apply ab|apply Qu|apply Qv|refine aj ?_|refine ad ?_|refine az ?_|refine aA ?_|refine aH ?_|apply ar|(refine bm (cs:=[ks.v,.slice A3 (0+a0+1+(ki.n-a0)) c3]) (hf:=by rfl) ?_)|fail)
 refine ak (dc rfl rfl rfl bL (by rfl)) ⟨⟨A3,0+a0+1+(ki.n-a0),c3⟩,rfl,fun w h=>?_⟩
 have hr:=h.2 (orow 57 49 (.slice A3 (0+a0+1+(ki.n-a0)) c3) (0+a0+1+(ki.n-a0)) ([]++((I.take a0).map ItemD.cells).flatten++it.cells++((I.drop a0).map ItemD.cells).flatten)) bL
 refine ⟨cg (e:=57) (xs:=(I.take a0++it::I.drop a0).map ItemD.cells) ?_ (by simp [hkn];omega) fun r hr=>?_,fun x hx=>?_⟩
 · have e:((I.take a0++it::I.drop a0).map ItemD.cells).flatten=[]++((I.take a0).map ItemD.cells).flatten++it.cells++((I.drop a0).map ItemD.cells).flatten:=by simp
   rw [e]
   exact hr
 · obtain ⟨x,_,rfl⟩:=List.mem_map.1 hr
   rfl
 · rcases List.mem_append.1 hx with hx|hx
   · exact h.1.1.1.2.2 x (List.mem_of_mem_take hx)
   · rcases List.mem_cons.1 hx with rfl|hx
     · exact h.1.1.2
     · exact h.1.1.1.2.2 x (List.mem_of_mem_drop hx)
end Go.Proofs.YtcdilibijnboeaaGreatDoor
namespace Go.Proofs.YtcdilibijnboeaaGreatDoor
open Go Go.Proofs Sy Go.Shelf
namespace Rf4
theorem DL (m x:Nat) (hm:m≤64):shrV .u64 (x:Int) (m:Int)=((x/2 ^ m:Nat):Int):=by
 show (x:Int).fdiv (2 ^ (min (m:Int).toNat 64))=_
 rw [Qr,Nat.min_eq_left hm,show (2:Int) ^ m=((2 ^ m:Nat):Int) by rw [Int.natCast_pow];rfl,←Int.ofNat_fdiv]
theorem gV {p:Nat} (h:p<18446744073709551616):IntKind.u64.wrap (p:Int)=(p:Int):=by
 simp [IntKind.wrap,IntKind.signed,IntKind.bits]
 omega
theorem DT (m x:Nat) (hm:m≤62) (hx:x<18446744073709551616):bitsV .and .u64 (x:Int) (((2 ^ m-1:Nat)):Int)=((x%2 ^ m:Nat):Int):=by
 show IntKind.u64.wrap ((((BitVec.ofInt 64 (x:Int)) &&& (BitVec.ofInt 64 (((2 ^ m-1:Nat)):Int))).toNat:Nat):Int)=_
 have h1:2 ^ m≤2 ^ 62:=Nat.pow_le_pow_right (by decide) hm
 have h2:0<2 ^ m:=Nat.two_pow_pos m
 rw [BitVec.toNat_and,BitVec.ofInt_natCast,BitVec.ofInt_natCast,BitVec.toNat_ofNat,BitVec.toNat_ofNat,Z0 (show x<2 ^ 64 by omega),Z0 (show 2 ^ m-1<2 ^ 64 by omega),Nat.and_two_pow_sub_one_eq_mod]
 exact gV (by have:=Nat.mod_lt x h2;omega)
theorem DN (m x:Nat) (hm:m≤64) (hx:x*2 ^ m<18446744073709551616):shlV .u64 (x:Int) (m:Int)=((x*2 ^ m:Nat):Int):=by
 show IntKind.u64.wrap ((x:Int)*2 ^ (min (m:Int).toNat 64))=_
 rw [Qr,Nat.min_eq_left hm,show (x:Int)*(2:Int) ^ m=((x*2 ^ m:Nat):Int) by rw [Int.natCast_mul,Int.natCast_pow];rfl]
 exact gV hx
section
variable {N:Nat} {av bor:List Nat} {w0:World} {st:St} {ty:TypeId} {x y:Operand} {E:Env} {loc:List Res} {X:World→Prop} {ops:Array Oper} {kk k:St→Prop} {pos:String} {af:Array Edge} {g:Option (Nat×Bool)} {rest:List Oper} {bb want:Bool} {n:Nat} {t t2:TypeId} {d:Option Tmp}
theorem og {k':IntKind} (m r:Nat) {p:Nat} (hx:ev E x=some (.int .u64 (p:Nat)):=by rfl) (hy:ev E y=some (.int k' (m:Int)):=by rfl) (hm:m≤64∧p/2 ^ m=r) (hg:gdB ops E g=some (bb,want):=by rfl) (hbb:bb=want:=by exact aE) (hd:Nat.blt n N=true:=by rfl) (h:Sw Tryz.prog N av bor w0 ops rest ⟨(n,.int .u64 (r:Nat))::E,loc,X⟩ k) :
  Sw Tryz.prog N av bor w0 ops (⟨some n,.binOp .shr t x y t2,ty,pos,af,g⟩::rest) ⟨E,loc,X⟩ k:=eO hx hy ae hg hbb hd (by rw [DL m p hm.1,hm.2];exact h)
theorem om (m r:Nat) {p:Nat} (hx:ev E x=some (.int .u64 (p:Nat)):=by rfl) (hy:ev E y=some (.int .u64 ((2 ^ m-1:Nat):Int)):=by rfl) (hm:m≤62∧p<18446744073709551616∧p%2 ^ m=r) (hg:gdB ops E g=some (bb,want):=by rfl) (hbb:bb=want:=by exact aE) (hd:Nat.blt n N=true:=by rfl) (h:Sw Tryz.prog N av bor w0 ops rest ⟨(n,.int .u64 (r:Nat))::E,loc,X⟩ k) :
  Sw Tryz.prog N av bor w0 ops (⟨some n,.binOp .and t x y t2,ty,pos,af,g⟩::rest) ⟨E,loc,X⟩ k:=am (pA hx hy) hg hbb hd (by rw [DT m p hm.1 hm.2.1,hm.2.2];exact h)
theorem AH {k':IntKind} (m r:Nat) {p:Nat} (hx:ev E x=some (.int .u64 (p:Nat)):=by rfl) (hy:ev E y=some (.int k' (m:Int)):=by rfl) (hm:m≤64∧p*2 ^ m<18446744073709551616∧p*2 ^ m=r) (hg:gdB ops E g=some (bb,want):=by rfl) (hbb:bb=want:=by exact aE) (hd:Nat.blt n N=true:=by rfl) (h:Sw Tryz.prog N av bor w0 ops rest ⟨(n,.int .u64 (r:Nat))::E,loc,X⟩ k) :
  Sw Tryz.prog N av bor w0 ops (⟨some n,.binOp .shl t x y t2,ty,pos,af,g⟩::rest) ⟨E,loc,X⟩ k:=lE hx hy ae hg hbb hd (by rw [DN m p hm.1 hm.2.1,hm.2.2];exact h)
theorem tq [hI:TyInt Tryz.prog t .u64] {p q:Nat} (h:Sw Tryz.prog N av bor w0 ops rest ⟨(n,.int .u64 ((p*q:Nat):Int))::E,loc,X⟩ k) (hx:ev E x=some (.int .u64 (p:Nat)):=by rfl) (hy:ev E y=some (.int .u64 (q:Nat)):=by rfl) (hq:p*q<18446744073709551616) (hg:gdB ops E g=some (bb,want):=by rfl) (hbb:bb=want:=by exact aE) (hd:Nat.blt n N=true:=by rfl) :
  Sw Tryz.prog N av bor w0 ops (⟨some n,.binOp .mul t x y t2,ty,pos,af,g⟩::rest) ⟨E,loc,X⟩ k:=dK (c:=((p*q:Nat):Int)) hx hy (by rw [←Int.natCast_mul];exact gV hq) hg hbb hd h
theorem tt [hI:TyInt Tryz.prog t .u64] {p q:Nat} (h:Sw Tryz.prog N av bor w0 ops rest ⟨(n,.int .u64 ((p+q:Nat):Int))::E,loc,X⟩ k) (hx:ev E x=some (.int .u64 (p:Nat)):=by rfl) (hy:ev E y=some (.int .u64 (q:Nat)):=by rfl) (hq:p+q<18446744073709551616) (hg:gdB ops E g=some (bb,want):=by rfl) (hbb:bb=want:=by exact aE) (hd:Nat.blt n N=true:=by rfl) :
  Sw Tryz.prog N av bor w0 ops (⟨some n,.binOp .add t x y t2,ty,pos,af,g⟩::rest) ⟨E,loc,X⟩ k:=be (c:=((p+q:Nat):Int)) hx hy (by rw [←Int.natCast_add];exact gV hq) hg hbb hd h
end
theorem Db {P:Program} {fn:Func} {N t u r:Nat} {s:St} {v x y:Value} (hr:fn.results=#[.tmp t,.tmp u,.tmp r]) (h:Sy.look s.env t=some v) (h':Sy.look s.env u=some x) (h2:Sy.look s.env r=some y):Res1 P fn N s (.tuple #[v,x,y]):=fun av bor w0 a w ok=>by
 have h3:=ok.env t v h
 have h4:=ok.env u x h'
 have h5:=ok.env r y h2
 simp [results,hr,h3,h4,h5]
theorem jC (a m:Nat) (hm:0<m) (hm2:m<4611686018427387904):Pu Tryz.prog 247 #[.int .i64 (a:Int),.int .i64 (m:Int)] (fun _=>True) (.int .i64 ((a%m:Nat):Int)):=by
 refine ay (args:=[_,_]) _ Tryz.func247 rfl Tryz.ntmps247 rfl fun av bor w0=>?_
 have hr:Eqq ((a:Int).tmod (m:Int)) ((a%m:Nat):Int):=iM a m
 repeat' (first|refine fa (hb:=by omega) (hc:=hr) ?_|apply ab|apply Qu|apply Qv|refine aj ?_|refine ad ?_|refine bj ?_|refine be (h:=?_)|apply Qx|apply ar|(refine aF (ht:=?_) (hf:=?_);all_goals (intro hx_;first|have:=aO hx_|have:=aQ hx_)))
 · exfalso;omega
 · apply ak;apply ap;rfl;rfl
   rfl
theorem qm (a b x1 x0 y1 y0:Nat) (ha:a<2305843009213693952) (hb:b<2305843009213693952) (h1:a/2 ^ 31=x1) (h0:a%2 ^ 31=x0) (g1:b/2 ^ 31=y1) (g0:b%2 ^ 31=y0) (hm:x1*y1<1152921504606846976) (hp:x1*y0<4611686018427387904) (hq:x0*y1<4611686018427387904) (hr:x0*y0<4611686018427387904) :
  Pu Tryz.prog 246 #[.int .i64 (a:Int),.int .i64 (b:Int)] (fun _=>True) (.tuple #[.int .u64 ((x1*y1:Nat):Int),.int .u64 ((x1*y0+x0*y1:Nat):Int),.int .u64 ((x0*y0:Nat):Int)]):=by
 refine ay (args:=[_,_]) _ Tryz.func246 rfl Tryz.ntmps246 rfl fun av bor w0=>?_
 repeat' (first|refine SrG.sy_toU_g (hq:=by omega) (h:=?_)|refine og 31 x1 (hm:=by omega) (h:=?_)|refine og 31 y1 (hm:=by omega) (h:=?_)|refine om 31 x0 (hm:=by omega) (h:=?_)|refine om 31 y0 (hm:=by omega) (h:=?_)|refine tq (hq:=by omega) ?_|refine tt (hq:=by omega) ?_|apply ab|apply Qu|apply Qv|refine aj ?_|refine ad ?_|apply ar|fail)
 exact ak (Db rfl rfl rfl rfl) rfl
theorem mulR {x y x1 x0 y1 y0:Nat} (h1:x/2 ^ 31=x1) (h0:x%2 ^ 31=x0) (g1:y/2 ^ 31=y1) (g0:y%2 ^ 31=y0) :
  x*y%2305843009213693951=(2*(x1*y1)+(x1*y0+x0*y1)/2 ^ 30+(x1*y0+x0*y1)%2 ^ 30*2 ^ 31+x0*y0)%2305843009213693951:=by
 have hx:x=x1*2147483648+x0:=by omega
 have hy:y=y1*2147483648+y0:=by omega
 have e:x*y=x1*y1*4611686018427387904+(x1*y0+x0*y1)*2147483648+x0*y0:=by
  rw [hx,hy,Nat.add_mul,Nat.mul_add,Nat.mul_add,Nat.mul_mul_mul_comm,Nat.mul_right_comm x1 _ y0,←Nat.mul_assoc x0,Nat.add_mul (x1*y0)]
  omega
 rw [e]
 generalize x1*y1=H
 generalize x1*y0+x0*y1=M
 generalize x0*y0=L
 have:H*4611686018427387904+M*2147483648+L=(2*H+M/2 ^ 30+M%2 ^ 30*2 ^ 31+L)+2305843009213693951*(2*H+M/2 ^ 30):=by omega
 rw [this,Nat.add_mul_mod_self_left]
theorem jB (a b:Nat):Pu Tryz.prog 213 #[.int .i64 (a:Int),.int .i64 (b:Int)] (fun _=>True) (.int .i64 ((a*b%2305843009213693951:Nat):Int)):=by
 refine ay (args:=[_,_]) _ Tryz.func213 rfl Tryz.ntmps213 rfl fun av bor w0=>?_
 have c1:=jC a 2305843009213693951 (by decide) (by decide)
 have c2:=jC b 2305843009213693951 (by decide) (by decide)
 have hx:=Nat.mod_lt a (show 0<2305843009213693951 by decide)
 have hy:=Nat.mod_lt b (show 0<2305843009213693951 by decide)
 have hab:a*b%2305843009213693951=(a%2305843009213693951)*(b%2305843009213693951)%2305843009213693951:=Nat.mul_mod a b _
 rw [hab]
 generalize a%2305843009213693951=x at *
 generalize b%2305843009213693951=y at *
 obtain ⟨x1,h1⟩:∃ x1,x/2 ^ 31=x1:=⟨_,rfl⟩
 obtain ⟨x0,h0⟩:∃ x0,x%2 ^ 31=x0:=⟨_,rfl⟩
 obtain ⟨y1,g1⟩:∃ y1,y/2 ^ 31=y1:=⟨_,rfl⟩
 obtain ⟨y0,g0⟩:∃ y0,y%2 ^ 31=y0:=⟨_,rfl⟩
 have b1:x1≤1073741823:=by omega
 have b0:x0≤2147483647:=by omega
 have d1:y1≤1073741823:=by omega
 have d0:y0≤2147483647:=by omega
 have m1:x1*y1≤1073741823*1073741823:=Nat.mul_le_mul b1 d1
 have m2:x1*y0≤1073741823*2147483647:=Nat.mul_le_mul b1 d0
 have m3:x0*y1≤2147483647*1073741823:=Nat.mul_le_mul b0 d1
 have m4:x0*y0≤2147483647*2147483647:=Nat.mul_le_mul b0 d0
 have c3:=qm x y x1 x0 y1 y0 ae ae h1 h0 g1 g0 ae ae ae ae
 rw [mulR h1 h0 g1 g0]
 generalize x1*y1=H at *
 generalize hM:x1*y0+x0*y1=M at *
 have hM2:M≤1073741823*2147483647+2147483647*1073741823:=by omega
 generalize x0*y0=L at *
 obtain ⟨p,hp⟩:∃ p,M/2 ^ 30=p:=⟨_,rfl⟩
 obtain ⟨q,hq⟩:∃ q,M%2 ^ 30=q:=⟨_,rfl⟩
 obtain ⟨r,hr⟩:∃ r,q*2 ^ 31=r:=⟨_,rfl⟩
 rw [hp,hq,hr]
 have hrm:Eqq (((2*H+p+r+L:Nat):Int).tmod 2305843009213693951) (((2*H+p+r+L)%2305843009213693951:Nat):Int):=iM (2*H+p+r+L) 2305843009213693951
 have hz:=Nat.mod_lt (2*H+p+r+L) (show 0<2305843009213693951 by decide)
 repeat' (first|refine SrG.sy_toI_g (hq:=by omega) (h:=?_)|refine og 30 p (hm:=by omega) (h:=?_)|refine om 30 q (hm:=by omega) (h:=?_)|refine AH 31 r (hm:=by omega) (h:=?_)|refine tq (p:=2) (hq:=by omega) ?_|refine tt (hq:=by omega) ?_|refine fa (hb:=by decide) (hc:=hrm) ?_|apply ab|apply Qu|apply Qv|refine aj ?_|refine ad ?_|refine bS ?_|apply ar|(refine ao (hc:=c1) (hX:=fun w h=>h) ?_)|(refine ao (hc:=c2) (hX:=fun w h=>h) ?_)|(refine ao (hc:=c3) (hX:=fun w h=>h) ?_)|fail)
 apply ak;apply ap;rfl;rfl
 rfl
end Rf4
namespace Rf4
theorem quo2 (a:Nat) (ha:a<9223372036854775808):IntKind.i64.wrap ((a:Int).tdiv 2)=((a/2:Nat):Int):=by
 rw [show (2:Int)=((2:Nat):Int) from rfl,Int.tdiv_eq_ediv_of_nonneg ae,←Int.natCast_ediv]
 exact IntWalk.i64_in _ ae
structure ExS (a e:Nat) where
 x:Nat
 b:Nat
 f:Nat
 hx:x<2305843009213693951
 hf:f≤e
 inv:x*b ^ f%2305843009213693951=a ^ e%2305843009213693951
theorem yv (b h M:Nat):(b*b%M) ^ h%M=b ^ (h+h)%M:=by
 rw [←Nat.pow_mod,Nat.mul_pow,←Nat.pow_add]
theorem BE {x b f M:Nat} (h:f%2=1):(x*b%M)*(b*b%M) ^ (f/2)%M=x*b ^ f%M:=by
 have hf:f=1+(f/2+f/2):=by omega
 conv=>rhs;rw [hf,Nat.pow_add,Nat.pow_one,←Nat.mul_assoc]
 rw [Nat.mul_mod (x*b%M),Nat.mod_mod,yv,←Nat.mul_mod]
theorem zf {x b f M:Nat} (h:¬ f%2=1):x*(b*b%M) ^ (f/2)%M=x*b ^ f%M:=by
 have hf:f=f/2+f/2:=by omega
 conv=>rhs;rw [hf]
 rw [Nat.mul_mod,yv,←Nat.mul_mod]
theorem vH (a e:Nat) (he:e<9223372036854775808):Pu Tryz.prog 214 #[.int .i64 (a:Int),.int .i64 (e:Int)] (fun _=>True) (.int .i64 ((a ^ e%2305843009213693951:Nat):Int)):=by
 refine ay (args:=[_,_]) _ Tryz.func214 rfl Tryz.ntmps214 rfl fun av bor w0=>?_
 have c1:=jC a 2305843009213693951 (by decide) (by decide)
 repeat' (first|apply ab|apply Qu|apply Qv|refine aj ?_|refine ad ?_|refine bj ?_|apply Qx|apply Qw|(refine ao (hc:=c1) (hX:=fun w h=>h) ?_)|(refine aF (ht:=?_) (hf:=?_);all_goals (intro hx_;first|have:=aO hx_|have:=aQ hx_)))
 · exfalso;omega
 · refine aT (ι:=ExS a e) (fun i=>⟨[(1,.int .i64 (i.f:Nat)),(5,.int .i64 (i.x:Nat)),(6,.int .i64 (i.b:Nat))],[],fun _=>True⟩) (fun i=>i.f) ⟨1,a%2305843009213693951,e,by decide,Qp _,by rw [Nat.one_mul,←Nat.pow_mod]⟩ (ax ⟨rfl,rfl,rfl,trivial⟩ (ZR _) fun _ h=>h) fun i=>?_
   obtain ⟨x,b,f,hx,hf,inv⟩:=i
   simp only
   have hm1:=jB x b
   have hm2:=jB b b
   have hr:Eqq ((f:Int).tmod 2) ((f%2:Nat):Int):=iM f 2
   have hq:Eqq (IntKind.i64.wrap ((f:Int).tdiv 2)) ((f/2:Nat):Int):=quo2 f ae
   repeat' (first|refine fa (hb:=by decide) (hc:=hr) ?_|refine ii (hb:=by decide) (hc:=hq) ?_|apply ab|apply Qu|apply Qv|refine aj ?_|refine ad ?_|refine bM ?_|refine cF ?_|apply Qx|apply Qw|apply ar|apply aS|(refine ao (hc:=hm1) (hX:=fun w h=>h) ?_)|(refine ao (hc:=hm2) (hX:=fun w h=>h) ?_)|(refine aF (ht:=?_) (hf:=?_);all_goals (intro hx_;first|have:=aO hx_|have:=aQ hx_)))
   · have hc:f%2=1:=by
      have:=aO hx_
      omega
     exact ⟨(⟨x*b%2305843009213693951,b*b%2305843009213693951,f/2,Nat.mod_lt _ (by decide),by omega,(BE hc).trans inv⟩:ExS a e),(by show f/2<f;omega),ax ⟨rfl,rfl,rfl,trivial⟩ (ZR _) fun _ h=>h⟩
   · have hc:¬ f%2=1:=by
      have:=aQ hx_
      omega
     exact ⟨(⟨x,b*b%2305843009213693951,f/2,hx,by omega,(zf hc).trans inv⟩:ExS a e),(by show f/2<f;omega),ax ⟨rfl,rfl,rfl,trivial⟩ (ZR _) fun _ h=>h⟩
   · have hk:f=0:=by omega
     apply ak;apply ap;rfl;rfl
     rw [←inv,hk,Nat.pow_zero,Nat.mul_one,Z0 hx]
end Rf4
namespace Rf4
theorem iW:∀ f x:Nat,x<2 ^ f→x<2 ^ Lib.bitLenAux f x
 | 0,x,h=>h
 | f+1,x,h=>by
  rw [Lib.bitLenAux]
  split
  · rename_i h0
    rw [h0]
    decide
  · have h1:=iW f (x/2) (by rw [Nat.pow_succ] at h;omega)
    rw [Nat.pow_add]
    omega
theorem qQ (a e:Nat):∀ i,(expF a e i).1=a ^ (e%2 ^ i)%2305843009213693951∧(expF a e i).2=a ^ 2 ^ i%2305843009213693951
 | 0=>by
  refine ⟨?_,?_⟩
  · show 1=_
    rw [Nat.pow_zero,Nat.mod_one,Nat.pow_zero]
  · show a%_=_
    rw [Nat.pow_zero,Nat.pow_one]
 | i+1=>by
  obtain ⟨h1,h2⟩:=qQ a e i
  refine ⟨?_,?_⟩
  · show (bif decide (e/2 ^ i%2=1) then (expF a e i).1*(expF a e i).2%2305843009213693951 else (expF a e i).1)=_
    rw [Nat.mod_pow_succ,h1,h2]
    by_cases h:e/2 ^ i%2=1
    · rw [ZA h,ZC,h,Nat.mul_one,Nat.pow_add,←Nat.mul_mod]
    · have h0:e/2 ^ i%2=0:=by omega
      rw [Zn h,ZB,h0,Nat.mul_zero,Qk]
  · show (expF a e i).2*(expF a e i).2%2305843009213693951=_
    rw [h2,←Nat.mul_mod,←Nat.pow_add,Nat.pow_succ,Nat.mul_two]
theorem expV_pow (a e:Nat) (he:e<9223372036854775808):expV a e=a ^ e%2305843009213693951:=by
 have h:e<2 ^ Lib.bitLen e:=iW 64 e ae
 rw [expV,(qQ a e _).1,Z0 h]
theorem lS (a e:Nat) (he:e<9223372036854775808):Pu Tryz.prog 214 #[.int .i64 (a:Int),.int .i64 (e:Int)] (fun _=>True) (.int .i64 (expV a e:Nat)):=by
 rw [expV_pow a e he]
 exact vH a e he
def numS (s:ByteArray) (k:Nat):Nat:=bif decide (k=8) then numN (nl s) else numF (nl s) k
theorem oS {s:ByteArray} {k:Nat} (h:k<8):numS s k=numF (nl s) k:=by rw [numS,Zn ae,ZB]
theorem jq {n:Nat} (h:n<9223372036854775808):IntKind.i64.wrap (n:Int)=(n:Int):=IntWalk.i64_in _ ae
theorem stepA {s:ByteArray} {k:Nat} (h:k<7) {b:Int} (hb:b=(((nl s).getD k 0:Nat):Int)):IntKind.i64.wrap (IntKind.i64.wrap (256*((numS s k:Nat):Int))+b)=((numS s (k+1):Nat):Int):=by
 have h1:=numF7 s (show k<8 by omega)
 have h2:=numF7 s (show k+1<8 by omega)
 rw [oS ae,oS ae,hb]
 rw [numF] at h2 ⊢
 generalize numF (nl s) k=x at *
 generalize (nl s).getD k 0=y at *
 rw [show (256:Int)*(x:Int)=((256*x:Nat):Int) by omega,jq ae,←Int.natCast_add,jq (by omega)]
 omega
theorem stepB {s:ByteArray} {b:Int} (hb:b=(((nl s).getD 7 0:Nat):Int)):IntKind.i64.wrap (IntKind.i64.wrap (32*((numS s 7:Nat):Int))+IntKind.i64.wrap (b.tdiv 8))=((numS s 8:Nat):Int):=by
 have h1:=numF7 s (show 7<8 by omega)
 have h2:=fE (iV s) 7
 have e8:numS s 8=(numF (nl s) 7*256+(nl s).getD 7 0)/8:=rfl
 rw [e8,oS ae,hb]
 generalize numF (nl s) 7=x at *
 generalize (nl s).getD 7 0=y at *
 rw [show (32:Int)*(x:Int)=((32*x:Nat):Int) by omega,jq ae,show ((y:Int)).tdiv 8=((y/8:Nat):Int) by rw [Int.tdiv_eq_ediv_of_nonneg (by omega)];omega,jq ae,←Int.natCast_add,jq (by omega)]
 omega
theorem byteIn {s:ByteArray} {k:Nat} (h:k<s.size):IntKind.i64.wrap (byteAt s (k:Int).toNat)=(((nl s).getD k 0:Nat):Int):=by
 have h2:=fE (iV s) k
 rw [show ((k:Int)).toNat=k from rfl,pf s _ h,jq (by omega)]
theorem byteOut {s:ByteArray} {k:Nat} (h:s.size≤k):(0:Int)=(((nl s).getD k 0:Nat):Int):=by
 rw [ZL,List.getElem?_eq_none (by rw [dD];exact h),Option.getD_none]
 rfl
theorem qo (s:ByteArray):Pu Tryz.prog 245 #[.string s] (fun _=>True) (.int .i64 (numN (nl s):Nat)):=by
 refine ay (args:=[_]) _ Tryz.func245 rfl Tryz.ntmps245 rfl fun av bor w0=>?_
 repeat' (first|apply ab|apply Qu|apply Qv|refine ad ?_|apply Qw|fail)
 refine aT (ι:=Kth 8) (fun i=>⟨[(0,.string s),(3,.int .i64 ((numS s i.k:Nat):Int)),(4,.int .i64 i.k)],[],fun _=>True⟩) (fun i=>8-i.k) ⟨0,Nat.zero_le _⟩ (ax ⟨rfl,rfl,rfl,trivial⟩ (aG _) fun _ h=>h) fun i=>?_
 have hik:=i.hk
 repeat' (first|refine ii (hb:=by decide) (hc:=rfl) ?_|apply ab|apply Qu|apply Qv|refine aj ?_|refine ad ?_|refine bj ?_|refine bU ?_|refine be (h:=?_)|apply Qx|apply Qw|apply ar|apply aS|refine dK (h:=?_)|refine dS (h:=?_)|refine iz ?_|(refine aF (ht:=?_) (hf:=?_);all_goals (intro hx_;first|have:=aO hx_|have:=aQ hx_)))
 · exact ⟨⟨i.k+1,by omega⟩,(by show 8-(i.k+1)<8-i.k;omega),ax ⟨rfl,congrArg (fun z=>some (Value.int IntKind.i64 z)) (stepA ae (byteIn ae)),rfl,trivial⟩ (aG _) fun _ h=>h⟩
 · have e7:i.k=7:=by omega
   obtain ⟨k,hk⟩:=i
   simp only at e7
   subst e7
   have hE:=@stepB s _ (byteIn (k:=7) ae)
   exact ⟨⟨8,by omega⟩,(by show 8-8<8-7;omega),ax ⟨rfl,congrArg (fun z=>some (Value.int IntKind.i64 z)) hE,rfl,trivial⟩ (aG _) fun _ h=>h⟩
 · exact ⟨⟨i.k+1,by omega⟩,(by show 8-(i.k+1)<8-i.k;omega),ax ⟨rfl,congrArg (fun z=>some (Value.int IntKind.i64 z)) (stepA ae (byteOut ae)),rfl,trivial⟩ (aG _) fun _ h=>h⟩
 · have e7:i.k=7:=by omega
   obtain ⟨k,hk⟩:=i
   simp only at e7
   subst e7
   have hE:=@stepB s _ (byteOut (k:=7) ae)
   exact ⟨⟨8,by omega⟩,(by show 8-8<8-7;omega),ax ⟨rfl,congrArg (fun z=>some (Value.int IntKind.i64 z)) hE,rfl,trivial⟩ (aG _) fun _ h=>h⟩
 · have h8:i.k=8:=by omega
   apply ak;apply ap;rfl;rfl
   rw [h8]
   rfl
end Rf4
namespace Rf4
theorem rQ (s:ByteArray) (hs:s.size≤1099511627776):Pu Tryz.prog 212 #[.string s] (fun _=>True) (.int .i64 (numN (nl (shaV s)):Nat)):=by
 refine ay (args:=[_]) _ Tryz.func212 rfl Tryz.ntmps212 rfl fun av bor w0=>?_
 repeat' (first|apply ab|apply Qu|apply Qv|refine aj ?_|refine ad ?_|apply ar|refine ao (hc:=nu _ hs) ?_|refine ao (hc:=qo _) ?_|fail)
 exact ak (ap rfl rfl) rfl
theorem rU (r p:Nat) (msg:ByteArray) (hr:r<9223372036854775808) (hp:p<9223372036854775808) (hm:msg.size≤1000000000000) :
  Pu Tryz.prog 173 #[.int .i64 (r:Int),.int .i64 (p:Int),.string msg] (fun _=>True) (.int .i64 (chalN r p msg:Nat)):=by
 refine ay (args:=[_,_,_]) _ Tryz.func173 rfl Tryz.ntmps173 rfl fun av bor w0=>?_
 have h1:=aY ⟨#[115,105,103,110]⟩
 have h2:=aR (r:Int)
 have h3:=aR (p:Int)
 have h4:=aY msg
 have h5:(⟨#[115,105,103,110]⟩:ByteArray).size=4:=rfl
 have ec:catB (chalP r p msg)=textV ⟨#[115,105,103,110]⟩++numV (r:Int)++numV (p:Int)++textV msg:=by
  show textV ⟨#[115,105,103,110]⟩++(numV (r:Int)++(numV (p:Int)++(textV msg++ByteArray.empty)))=_
  rw [ByteArray.append_empty,ZV,ZV]
 have hsz:(catB (chalP r p msg)).size≤1099511627776:=by
  rw [ec]
  simp only [Zl]
  omega
 have ch:=rQ (catB (chalP r p msg)) hsz
 have c1:=bY ⟨#[115,105,103,110]⟩ (by decide)
 rw [ec] at ch
 have hrm:Eqq (((numN (nl (shaV (textV ⟨#[115,105,103,110]⟩++numV (r:Int)++numV (p:Int)++textV msg))):Nat):Int).tmod 2305843009213693950) ((chalN r p msg:Nat):Int):=by
  rw [chalN,hashN,ec]
  exact iM _ 2305843009213693950
 repeat' (first|refine lF (hb:=by ((try simp only [Zl]);omega)) ?_|refine fa (hb:=by decide) (hc:=hrm) ?_|apply ab|apply Qu|apply Qv|refine aj ?_|refine ad ?_|apply ar|(refine ao (hc:=c1) (hX:=fun _ _=>trivial) ?_)|refine ao (hc:=bY _ ae) ?_|refine ao (hc:=bD _ ae) ?_|(refine ao (hc:=ch) (hX:=fun _ _=>trivial) ?_)|fail)
 all_goals first
  | exact ak (ap rfl rfl) rfl
section
variable {P:Program} {N:Nat} {av bor:List Nat} {w0:World} {st:St} {ty:TypeId} {x y:Operand} {t t2:TypeId}
theorem y_subM [hI:TyInt P t .i64] {p q:Nat} (hx:ev st.env x=some (.int .i64 (p:Nat))) (hy:ev st.env y=some (.int .i64 (q:Nat))) (hq:q≤p∧p<9223372036854775808):Sy.Yields P N av bor w0 st (.binOp .sub t x y t2) ty (.int .i64 ((p-q:Nat):Int)) :=
 mY hx hy (by rw [show (p:Int)-(q:Int)=((p-q:Nat):Int) by omega];exact IntWalk.i64_in _ ae)
end
theorem oI (p e s:Nat) (he:e≤2305843009213693950) (hs:s≤2305843009213693950) :
  Pu Tryz.prog 174 #[.int .i64 (p:Int),SgD.v ⟨(e:Int),(s:Int)⟩] (fun _=>True) (.int .i64 ((expV 37 s*expV p (2305843009213693950-e)%2305843009213693951:Nat):Int)):=by
 refine ay (args:=[_,_]) _ Tryz.func174 rfl Tryz.ntmps174 rfl fun av bor w0=>?_
 have c1:=lS 37 s ae
 have c2:=lS p (2305843009213693950-e) ae
 have c3:=jB (expV 37 s) (expV p (2305843009213693950-e))
 repeat' (first|apply ab|apply Qu|apply Qv|refine ad ?_|refine aK fun _=>?_|fail)
 (apply bI;kernel_rfl)
 all_goals refine aa 0 ?_<;>refine aa 1 ?_<;>refine aa 3 ?_<;>refine aa 4 ?_<;>refine aa 5 ?_<;>(refine aa 6 (hy:=by (apply y_subM (p:=2305843009213693950);rfl;rfl;omega)) ?_)<;>(refine ag 2 ?_;(refine ao (hc:=c1) (hX:=fun _ _=>trivial) ?_);apply ab;refine ai ?_)<;>(refine ag 7 ?_;(refine ao (hc:=c2) (hX:=fun _ _=>trivial) ?_);apply ab;refine ai ?_)<;>(refine ag 8 ?_;(refine ao (hc:=c3) (hX:=fun _ _=>trivial) ?_);apply ab;refine ai ?_)<;>refine aa 9 ?_<;>(refine aw ?_)
 all_goals
  repeat' (first|apply ar|fail)
  exact ak (ap rfl rfl) rfl
def ranB (p e s:Int):Bool:=!(decide (p<1)||decide (2305843009213693951≤p)||!ordV e||!ordV s)
theorem rY {p e s:Int}:ranB p e s=(decide (1≤p)&&(decide (p<2305843009213693951)&&(decide (0≤e)&&(decide (e<2305843009213693950)&&(decide (0≤s)&&decide (s<2305843009213693950)))))):=by
 rw [ranB,ordV,ordV]
 have e1:decide (p<1)=!decide (1≤p):=by by_cases h:1≤p<;>simp [h]<;>omega
 have e2:decide (2305843009213693951≤p)=!decide (p<2305843009213693951):=by by_cases h:p<2305843009213693951<;>simp [h]<;>omega
 rw [e1,e2]
 cases decide (1≤p)<;>cases decide (p<2305843009213693951)<;>cases decide (0≤e)<;>cases decide (e<2305843009213693950)<;>cases decide (0≤s)<;>cases decide (s<2305843009213693950)<;>rfl
theorem oE (p e s:Int):Pu Tryz.prog 172 #[.int .i64 p,SgD.v ⟨e,s⟩] (fun _=>True) (.bool (ranB p e s)):=by
 refine ay (args:=[_,_]) _ Tryz.func172 rfl Tryz.ntmps172 rfl fun av bor w0=>?_
 rw [rY]
 repeat' (first|apply ab|apply Qu|apply Qv|refine aj ?_|refine ad ?_|refine az ?_|refine aA ?_|refine aB ?_|refine aC ?_|refine bj ?_|refine da ?_|refine aL ?_|refine aK fun _=>?_|apply ar|((fail_if_success (refine aZ ?_));refine aP (ht:=?_) (hf:=?_);all_goals (intro hx_;first|have:=aO hx_|have:=aQ hx_))|fail)
 all_goals refine ak (ap rfl rfl) ?_
 all_goals simp_all
 all_goals (intros;omega)
theorem refVerify_pu (p:Int) (msg:ByteArray) (e s:Int) (hm:msg.size≤1000000000000):Pu Tryz.prog 105 #[.int .i64 p,.string msg,SgD.v ⟨e,s⟩] (fun _=>True) (.bool (verN p msg e s)):=by
 refine ay (args:=[_,_,_]) _ Tryz.func105 rfl Tryz.ntmps105 rfl fun av bor w0=>?_
 have hrg:=oE p e s
 cases hbad:(decide (p<1)||decide (2305843009213693951≤p)||!ordV e||!ordV s) with
 | true =>
  rw [show ranB p e s=false from by rw [ranB,hbad];rfl] at hrg
  rw [show verN p msg e s=false from by rw [verN,hbad];rfl]
  repeat' (first|apply ab|apply Qu|apply Qv|refine aj ?_|refine ad ?_|refine aD ?_|refine bu ?_|refine aK fun _=>?_|refine Qy ?_|apply ar|(refine ao (hc:=hrg) (hX:=fun _ _=>trivial) ?_)|fail)
  exact ak (ap rfl rfl) rfl
 | false =>
  have hb:=hbad
  simp only [Bool.or_eq_false_iff,decide_eq_false_iff_not,Bool.not_eq_false'] at hb
  obtain ⟨⟨⟨h1,h2⟩,h3⟩,h4⟩:=hb
  simp only [ordV,ZM,ZT] at h3 h4
  rw [show ranB p e s=true from by rw [ranB,hbad];rfl] at hrg
  obtain ⟨pn,rfl⟩:∃ n:Nat,p=(n:Int):=⟨p.toNat,by omega⟩
  obtain ⟨en,rfl⟩:∃ n:Nat,e=(n:Int):=⟨e.toNat,by omega⟩
  obtain ⟨sn,rfl⟩:∃ n:Nat,s=(n:Int):=⟨s.toNat,by omega⟩
  have c1:=oI pn en sn ae ae
  obtain ⟨r,hr⟩:∃ r,expV 37 sn*expV pn (2305843009213693950-en)%2305843009213693951=r:=⟨_,rfl⟩
  have hrl:r<2305843009213693951:=by rw [←hr];exact Nat.mod_lt _ (by decide)
  have hV:verN (pn:Int) msg (en:Int) (sn:Int)=decide (((en:Nat):Int)=(chalN r pn msg:Nat)):=by
   rw [verN,hbad,ZB,Qr,Qr,Qr,hr]
  rw [hr] at c1
  rw [hV,show decide (((en:Nat):Int)=(chalN r pn msg:Nat))=decide (((chalN r pn msg:Nat):Int)=(en:Nat)) from by by_cases h:((en:Nat):Int)=(chalN r pn msg:Nat)<;>simp [h,eq_comm]]
  have c2:=rU r pn msg ae ae hm
  clear hbad hV hr
  generalize chalN r pn msg=cn at *
  repeat' (first|apply ab|apply Qu|apply Qv|refine aj ?_|refine ad ?_|refine aD ?_|refine bu ?_|refine aK fun _=>?_|refine Qz ?_|apply Qx|(refine ao (hc:=hrg) (hX:=fun _ _=>trivial) ?_)|fail)
  (apply bI;kernel_rfl)
  all_goals refine aa 0 ?_<;>refine aa 1 ?_<;>refine aa 3 ?_<;>refine aa 4 ?_<;>refine aa 6 ?_<;>refine aa 7 ?_<;>(refine ag 2 ?_;(refine ao (hc:=c1) (hX:=fun _ _=>trivial) ?_);apply ab;refine ai ?_)<;>(refine ag 5 ?_;(refine ao (hc:=c2) (hX:=fun _ _=>trivial) ?_);apply ab;refine ai ?_)<;>refine aa 8 ?_<;>refine aa 9 ?_<;>(refine aw ?_)
  all_goals
   repeat' (first|apply ar|fail)
   exact ak (ap rfl rfl) rfl
end Rf4
end Go.Proofs.YtcdilibijnboeaaGreatDoor
namespace Go.Proofs.YtcdilibijnboeaaGreatDoor
open Go Go.Proofs Sy
theorem rF (a:ActD):sameZ a=actZ a:=by
 rw [sameZ,actZ]
 simp only [ActD.zero,ZE]
 cases decide ((a.to.n:Int)=0)<;>cases decide ((a.wraps.n:Int)=0)<;>(simp [Bool.and_comm,Bool.and_left_comm,Bool.and_assoc];try rfl)
set_option maxRecDepth 20000 in
set_option maxHeartbeats 8000000 in
theorem rS (d:DecD):Pu Tryz.prog 167 #[d.v,DecD.zero.v] (fun _=>True) (.bool (decZ d)):=by
 refine ay (args:=[_,_]) _ Tryz.func167 rfl Tryz.ntmps167 rfl fun av bor w0=>?_
 repeat' (first|apply ab|apply Qu|apply Qv|refine ad ?_|refine az ?_|refine aA ?_|refine df ?_|refine aW ?_|refine aK fun _=>?_|apply Qx|apply Qw|apply ar|(refine aF (ht:=?_) (hf:=?_);all_goals (intro hx_;skip)))
 · refine ak (ap rfl rfl) ?_
   have h0:DecD.zero.to.n=0:=rfl
   rw [h0] at hx_
   simp_all [decZ]
 rename_i b1 b2
 have n1:d.to.n=0:=by
  have h0:DecD.zero.to.n=0:=rfl
  rw [h0] at hx_
  simpa using hx_
 refine aT (ι:=Unit) (fun _=>⟨[(2,.pointer (some ⟨b1,0,none⟩)),(3,.pointer (some ⟨b2,0,none⟩)),(5,.int .i64 0)],[cel b2 55 DecD.zero.cells,cel b1 55 d.cells],fun _=>True⟩) (fun _=>0) () (ax ⟨rfl,rfl,rfl,trivial⟩ (aG _) fun _ h=>h) fun _=>?_
 repeat' (first|apply ab|apply Qu|apply Qv|refine aj ?_|refine ad ?_|refine az ?_|refine aA ?_|refine aB ?_|refine aC ?_|refine bM ?_|refine bj ?_|refine cE ?_|refine aW ?_|refine aL ?_|apply Qx|apply Qw|apply ar|apply aS|(refine jt (a:=d.e) (b:=d.s) (c:=0) (e:=0) ?_)|(refine aX ?_)|((fail_if_success (refine aZ ?_));refine aP (ht:=?_) (hf:=?_);all_goals (intro hx_;first|have:=aO hx_|have:=aQ hx_|skip))|(refine aF (ht:=?_) (hf:=?_);all_goals (intro hx_;first|have:=aO hx_|have:=aQ hx_)))
 · exact absurd this (by rw [n1];decide)
 all_goals (
  refine ak (ap rfl rfl) ?_
  have q1:decide ((d.to.n:Int)=0)=true:=by rw [n1];rfl
  rw [decZ,q1]
  clear q1 n1
  first
   | rfl
   | (simp_all only [ZD,ZG,ZH,ZQ,ZO,ZE];done)
   | (simp_all;done)
   | skip)
 all_goals simp_all [DecD.zero]
theorem wB:actZ ActD.zero=true:=by decide +kernel
theorem pc:claimEq ClaimD.zero ClaimD.zero=true:=by decide +kernel
theorem mX:ballotEq BallotD.zero BallotD.zero=true:=by decide +kernel
theorem wk:decZ DecD.zero=true:=by decide +kernel
set_option maxRecDepth 20000 in
set_option maxHeartbeats 16000000 in
theorem iN (i:ItemD) (hs:i.Str):Pu Tryz.prog 104 #[i.v] (fun w=>i.at_ w) (.bool (rightIt i)):=by
 refine ay (args:=[_]) _ Tryz.func104 rfl Tryz.ntmps104 rfl fun av bor w0=>?_
 have c1:=rO i.act
 rw [rF] at c1
 have c2:=j2 i.act hs.act
 have c3:=rS i.dec
 have c4:=mS i.claim hs.claim
 have c5:=ql i.ballot hs.ballot
 have c6:=mR i.dec hs.dec
 by_cases h0:i.kind=0
 · have e:rightIt i=(rightB i.act&&(claimEq i.claim ClaimD.zero&&(ballotEq i.ballot BallotD.zero&&decZ i.dec))):=by simp [rightIt,rightK2,restI,sameIZ,h0,wB]
   rw [e]
   repeat' (first|refine bn (hab:=by omega) ?_|apply ab|apply Qu|apply Qv|refine aj ?_|refine ad ?_|refine az ?_|refine aA ?_|refine aB ?_|refine aC ?_|refine aL ?_|refine aK fun _=>?_|refine Qy ?_|apply Qw|apply ar|(refine ao (hc:=c1) (hX:=fun _ _=>trivial) ?_)|(refine ao (hc:=c2) (hX:=fun w h=>h.1) ?_)|(refine ao (hc:=c3) (hX:=fun _ _=>trivial) ?_)|(refine eP (a:=i.claim) (b:=ClaimD.zero) ?_)|(refine ez (a:=i.ballot) (b:=BallotD.zero) ?_)|(refine bm (cs:=ActD.zero.cells) (hf:=by rfl) ?_)|(refine bm (cs:=ClaimD.zero.cells) (hf:=by rfl) ?_)|(refine bm (cs:=BallotD.zero.cells) (hf:=by rfl) ?_)|(refine bm (cs:=DecD.zero.cells) (hf:=by rfl) ?_)|(refine aX (vs:=i.act.cells) (hv:=rfl) ?_)|(refine aX (vs:=i.claim.cells) (hv:=rfl) ?_)|(refine aX (vs:=i.ballot.cells) (hv:=rfl) ?_)|(refine aX (vs:=i.dec.cells) (hv:=rfl) ?_)|((fail_if_success (refine aZ ?_));refine aP (ht:=?_) (hf:=?_);all_goals (intro hx_;skip))|fail)
   all_goals first
    | exact ak (ap rfl rfl) rfl
    | (refine ak (ap rfl rfl) ?_;simp_all;done)
 by_cases h1:i.kind=1
 · have e:rightIt i=(claimR i.claim&&(actZ i.act&&(ballotEq i.ballot BallotD.zero&&decZ i.dec))):=by simp [rightIt,rightK2,restI,sameIZ,h1,pc]
   rw [e]
   repeat' (first|refine bn (hab:=by omega) ?_|refine bt (hab:=by omega) ?_|apply ab|apply Qu|apply Qv|refine aj ?_|refine ad ?_|refine az ?_|refine aA ?_|refine aB ?_|refine aC ?_|refine aL ?_|refine aK fun _=>?_|refine Qy ?_|refine Qz ?_|apply Qw|apply ar|(refine ao (hc:=c1) (hX:=fun _ _=>trivial) ?_)|(refine ao (hc:=c3) (hX:=fun _ _=>trivial) ?_)|(refine ao (hc:=c4) (hX:=fun _ _=>trivial) ?_)|(refine eP (a:=i.claim) (b:=ClaimD.zero) ?_)|(refine ez (a:=i.ballot) (b:=BallotD.zero) ?_)|(refine bm (cs:=ActD.zero.cells) (hf:=by rfl) ?_)|(refine bm (cs:=ClaimD.zero.cells) (hf:=by rfl) ?_)|(refine bm (cs:=BallotD.zero.cells) (hf:=by rfl) ?_)|(refine bm (cs:=DecD.zero.cells) (hf:=by rfl) ?_)|(refine aX (vs:=i.act.cells) (hv:=rfl) ?_)|(refine aX (vs:=i.claim.cells) (hv:=rfl) ?_)|(refine aX (vs:=i.ballot.cells) (hv:=rfl) ?_)|(refine aX (vs:=i.dec.cells) (hv:=rfl) ?_)|((fail_if_success (refine aZ ?_));refine aP (ht:=?_) (hf:=?_);all_goals (intro hx_;skip))|fail)
   all_goals first
    | exact ak (ap rfl rfl) rfl
    | (refine ak (ap rfl rfl) ?_;simp_all;done)
 by_cases h2:i.kind=2
 · have e:rightIt i=(ballotR i.ballot&&(actZ i.act&&(claimEq i.claim ClaimD.zero&&decZ i.dec))):=by simp [rightIt,rightK2,restI,sameIZ,h2,mX]
   rw [e]
   repeat' (first|refine bn (hab:=by omega) ?_|refine bt (hab:=by omega) ?_|apply ab|apply Qu|apply Qv|refine aj ?_|refine ad ?_|refine az ?_|refine aA ?_|refine aB ?_|refine aC ?_|refine aL ?_|refine aK fun _=>?_|refine Qy ?_|refine Qz ?_|apply Qw|apply ar|(refine ao (hc:=c1) (hX:=fun _ _=>trivial) ?_)|(refine ao (hc:=c3) (hX:=fun _ _=>trivial) ?_)|(refine ao (hc:=c5) (hX:=fun _ _=>trivial) ?_)|(refine eP (a:=i.claim) (b:=ClaimD.zero) ?_)|(refine ez (a:=i.ballot) (b:=BallotD.zero) ?_)|(refine bm (cs:=ActD.zero.cells) (hf:=by rfl) ?_)|(refine bm (cs:=ClaimD.zero.cells) (hf:=by rfl) ?_)|(refine bm (cs:=BallotD.zero.cells) (hf:=by rfl) ?_)|(refine bm (cs:=DecD.zero.cells) (hf:=by rfl) ?_)|(refine aX (vs:=i.act.cells) (hv:=rfl) ?_)|(refine aX (vs:=i.claim.cells) (hv:=rfl) ?_)|(refine aX (vs:=i.ballot.cells) (hv:=rfl) ?_)|(refine aX (vs:=i.dec.cells) (hv:=rfl) ?_)|((fail_if_success (refine aZ ?_));refine aP (ht:=?_) (hf:=?_);all_goals (intro hx_;skip))|fail)
   all_goals first
    | exact ak (ap rfl rfl) rfl
    | (refine ak (ap rfl rfl) ?_;simp_all;done)
 by_cases h3:i.kind=3
 · have e:rightIt i=(decR i.dec&&(actZ i.act&&(claimEq i.claim ClaimD.zero&&ballotEq i.ballot BallotD.zero))):=by simp [rightIt,rightK2,restI,sameIZ,h3,wk]
   rw [e]
   repeat' (first|refine bn (hab:=by omega) ?_|refine bt (hab:=by omega) ?_|apply ab|apply Qu|apply Qv|refine aj ?_|refine ad ?_|refine az ?_|refine aA ?_|refine aB ?_|refine aC ?_|refine aL ?_|refine aK fun _=>?_|refine Qy ?_|refine Qz ?_|apply Qw|apply ar|(refine ao (hc:=c1) (hX:=fun _ _=>trivial) ?_)|(refine ao (hc:=c3) (hX:=fun _ _=>trivial) ?_)|(refine ao (hc:=c6) (hX:=fun w h=>h.2) ?_)|(refine eP (a:=i.claim) (b:=ClaimD.zero) ?_)|(refine ez (a:=i.ballot) (b:=BallotD.zero) ?_)|(refine bm (cs:=ActD.zero.cells) (hf:=by rfl) ?_)|(refine bm (cs:=ClaimD.zero.cells) (hf:=by rfl) ?_)|(refine bm (cs:=BallotD.zero.cells) (hf:=by rfl) ?_)|(refine bm (cs:=DecD.zero.cells) (hf:=by rfl) ?_)|(refine aX (vs:=i.act.cells) (hv:=rfl) ?_)|(refine aX (vs:=i.claim.cells) (hv:=rfl) ?_)|(refine aX (vs:=i.ballot.cells) (hv:=rfl) ?_)|(refine aX (vs:=i.dec.cells) (hv:=rfl) ?_)|((fail_if_success (refine aZ ?_));refine aP (ht:=?_) (hf:=?_);all_goals (intro hx_;skip))|fail)
   all_goals first
    | exact ak (ap rfl rfl) rfl
    | (refine ak (ap rfl rfl) ?_;simp_all;done)
 have e:rightIt i=false:=by simp [rightIt,rightK2,h0,h1,h2,h3]
 rw [e]
 repeat' (first|refine bt (hab:=by omega) ?_|apply ab|apply Qu|apply Qv|refine ad ?_|refine az ?_|refine aA ?_|refine aK fun _=>?_|refine Qz ?_|apply Qx|apply Qw|apply ar|(refine ao (hc:=c1) (hX:=fun _ _=>trivial) ?_)|(refine ao (hc:=c3) (hX:=fun _ _=>trivial) ?_)|(refine eP (a:=i.claim) (b:=ClaimD.zero) ?_)|(refine ez (a:=i.ballot) (b:=BallotD.zero) ?_)|(refine bm (cs:=ActD.zero.cells) (hf:=by rfl) ?_)|(refine bm (cs:=ClaimD.zero.cells) (hf:=by rfl) ?_)|(refine bm (cs:=BallotD.zero.cells) (hf:=by rfl) ?_)|(refine bm (cs:=DecD.zero.cells) (hf:=by rfl) ?_)|(refine aX (vs:=i.act.cells) (hv:=rfl) ?_)|(refine aX (vs:=i.claim.cells) (hv:=rfl) ?_)|(refine aX (vs:=i.ballot.cells) (hv:=rfl) ?_)|(refine aX (vs:=i.dec.cells) (hv:=rfl) ?_)|fail)
 all_goals first
  | exact ak (ap rfl rfl) rfl
  | (refine ak (ap rfl rfl) ?_;simp_all;done)
set_option maxRecDepth 20000 in
set_option maxHeartbeats 16000000 in
theorem oJ (i:ItemD) (hs:i.Str) (hdn:i.dec.to.n=i.dec.toL.length):Pu Tryz.prog 108 #[i.v] (fun w=>i.at_ w) (.string (bytesIt i)):=by
 have hr:=hs.rng
 have c1:=iN i hs
 have hsz:=@gR i hr hdn
 have hnk:=aR i.kind
 cases hB:rightIt i with
 | false =>
  rw [hB] at c1
  rw [bytesIt,hB]
  refine ay (args:=[_]) _ Tryz.func108 rfl Tryz.ntmps108 rfl fun av bor w0=>?_
  repeat' (first|apply ab|apply Qu|apply Qv|refine aj ?_|refine ad ?_|refine aD ?_|refine bu ?_|refine aK fun _=>?_|refine Qy ?_|apply ar|(refine ao (hc:=c1) (hX:=fun w h=>h) ?_)|fail)
  exact ak (ap rfl rfl) rfl
 | true =>
 rw [hB] at c1
 have hsz:=hsz hB
 rw [bytesIt,hB,ZC]
 refine ay (args:=[_]) _ Tryz.func108 rfl Tryz.ntmps108 rfl fun av bor w0=>?_
 rcases dr hB with ⟨hk,hR⟩|⟨hk,hR⟩|⟨hk,hR⟩|⟨hk,hR⟩
 · have c2:=lU i.act hs.act (dv hr) ⟨hr.ints.2.2.2.2.2.2.2.1,hr.ints.2.2.2.2.2.2.2.2⟩
   have c3:=bD i.kind ae
   have hb:bodyIt i=actBytes i.act:=by rw [bodyIt,hk];rfl
   rw [hb] at hsz ⊢
   repeat' (first|refine bn (hab:=by omega) ?_|apply ab|apply Qu|apply Qv|refine aj ?_|refine ad ?_|refine az ?_|refine aA ?_|refine aD ?_|refine bu ?_|refine aK fun _=>?_|refine Qy ?_|refine Qz ?_|apply Qx|apply Qw|(refine ao (hc:=c1) (hX:=fun w h=>h) ?_)|(refine ao (hc:=c3) (hX:=fun _ _=>trivial) ?_)|(refine ao (hc:=c2) (hX:=fun w h=>h.1) ?_)|(refine aX (vs:=i.act.cells) (hv:=rfl) ?_)|fail)
   refine am (bF rfl rfl ae) rfl aE rfl ?_
   repeat' (first|apply ab|refine ad ?_|apply ar|fail)
   all_goals exact ak (ap rfl rfl) rfl
 · obtain ⟨hl,hm⟩:=g9 hR
   have c3:=bD i.kind ae
   have e1:=fG hm
   have e2:=dM i.claim.e i.claim.s
   have hb:bodyIt i=coreCl i.claim++numsV [i.claim.e,i.claim.s]:=by rw [bodyIt,hk];rfl
   rw [hb]
   repeat' (first|refine bn (hab:=by omega) ?_|refine bt (hab:=by omega) ?_|apply ab|apply Qu|apply Qv|refine aj ?_|refine ad ?_|refine az ?_|refine aA ?_|refine aD ?_|refine bu ?_|refine aK fun _=>?_|refine Qy ?_|refine Qz ?_|apply Qx|apply Qw|(refine ao (hc:=c1) (hX:=fun w h=>h) ?_)|(refine ao (hc:=c3) (hX:=fun _ _=>trivial) ?_)|fail)
   (apply bI;kernel_rfl)
   all_goals refine aa 0 ?_<;>refine aa 1 ?_<;>(refine aa 2 (hy:=by (apply cK (vs:=i.claim.cells);rfl;exact .head _;rfl;rfl)) ?_)<;>refine aa 5 ?_<;>refine aa 6 ?_<;>(refine aa 7 (hy:=by (apply cK (vs:=[.int .i64 i.claim.e,.int .i64 i.claim.s]);rfl;exact .head _;rfl;rfl)) ?_)<;>(refine ag 3 ?_;(refine ao (hc:=oH _ hl hm) ?_);apply ab;refine ai ?_)<;>(refine aa 4 (hy:=by (apply bF;rfl;rfl;(try simp only [Zl]);omega)) ?_)<;>(refine ag 8 ?_;(refine ao (hc:=ij _ _ hl.e hl.s) ?_);apply ab;refine ai ?_)<;>(refine aa 9 (hy:=by (apply bF;rfl;rfl;(try simp only [Zl]);omega)) ?_)<;>refine aa 10 ?_<;>(refine aw ?_)
   all_goals
    repeat' (first|apply ar|fail)
    refine ak (ap rfl rfl) ?_
    simp only [ZV]
 · obtain ⟨hl,hm⟩:=fB hR
   have c3:=bD i.kind ae
   have e1:=eE hm
   have e2:=dM i.ballot.e i.ballot.s
   have hb:bodyIt i=coreBa i.ballot++numsV [i.ballot.e,i.ballot.s]:=by rw [bodyIt,hk];rfl
   rw [hb]
   repeat' (first|refine bn (hab:=by omega) ?_|refine bt (hab:=by omega) ?_|apply ab|apply Qu|apply Qv|refine aj ?_|refine ad ?_|refine az ?_|refine aA ?_|refine aD ?_|refine bu ?_|refine aK fun _=>?_|refine Qy ?_|refine Qz ?_|apply Qx|apply Qw|(refine ao (hc:=c1) (hX:=fun w h=>h) ?_)|(refine ao (hc:=c3) (hX:=fun _ _=>trivial) ?_)|fail)
   (apply bI;kernel_rfl)
   all_goals refine aa 0 ?_<;>refine aa 1 ?_<;>(refine aa 2 (hy:=by (apply cK (vs:=i.ballot.cells);rfl;exact .head _;rfl;rfl)) ?_)<;>refine aa 5 ?_<;>refine aa 6 ?_<;>(refine aa 7 (hy:=by (apply cK (vs:=[.int .i64 i.ballot.e,.int .i64 i.ballot.s]);rfl;exact .head _;rfl;rfl)) ?_)<;>(refine ag 3 ?_;(refine ao (hc:=iR _ hl hm) ?_);apply ab;refine ai ?_)<;>(refine aa 4 (hy:=by (apply bF;rfl;rfl;(try simp only [Zl]);omega)) ?_)<;>(refine ag 8 ?_;(refine ao (hc:=ij _ _ hl.e hl.s) ?_);apply ab;refine ai ?_)<;>(refine aa 9 (hy:=by (apply bF;rfl;rfl;(try simp only [Zl]);omega)) ?_)<;>refine aa 10 ?_<;>(refine aw ?_)
   all_goals
    repeat' (first|apply ar|fail)
    refine ak (ap rfl rfl) ?_
    simp only [ZV]
 · obtain ⟨hl,hm⟩:=je hdn hR
   have c3:=bD i.kind ae
   have e1:=eD hm
   have e2:=dM i.dec.e i.dec.s
   have c4:=iQ i.dec hl hm
   have hb:bodyIt i=coreDe i.dec++numsV [i.dec.e,i.dec.s]:=by rw [bodyIt,hk];rfl
   rw [hb]
   repeat' (first|refine bt (hab:=by omega) ?_|apply ab|apply Qu|apply Qv|refine aj ?_|refine ad ?_|refine az ?_|refine aA ?_|refine aD ?_|refine bu ?_|refine aK fun _=>?_|refine Qz ?_|apply Qx|apply Qw|(refine ao (hc:=c1) (hX:=fun w h=>h) ?_)|(refine ao (hc:=c3) (hX:=fun _ _=>trivial) ?_)|fail)
   (apply bI;kernel_rfl)
   all_goals refine aa 0 ?_<;>refine aa 1 ?_<;>(refine aa 2 (hy:=by (apply cK (vs:=i.dec.cells);rfl;exact .head _;rfl;rfl)) ?_)<;>refine aa 5 ?_<;>refine aa 6 ?_<;>(refine aa 7 (hy:=by (apply cK (vs:=[.int .i64 i.dec.e,.int .i64 i.dec.s]);rfl;exact .head _;rfl;rfl)) ?_)<;>(refine ag 3 ?_;(refine ao (hc:=c4) (hX:=fun w h=>h.2) ?_);apply ab;refine ai ?_)<;>(refine aa 4 (hy:=by (apply bF;rfl;rfl;(try simp only [Zl]);omega)) ?_)<;>(refine ag 8 ?_;(refine ao (hc:=ij _ _ hl.e hl.s) ?_);apply ab;refine ai ?_)<;>(refine aa 9 (hy:=by (apply bF;rfl;rfl;(try simp only [Zl]);omega)) ?_)<;>refine aa 10 ?_<;>(refine aw ?_)
   all_goals
    repeat' (first|apply ar|fail)
    refine ak (ap rfl rfl) ?_
    simp only [ZV]
theorem ib (i:ItemD) (hs:i.Str) (hdn:i.dec.to.n=i.dec.toL.length):Pu Tryz.prog 65 #[i.v] (fun w=>i.at_ w) (.string (digIt i)):=by
 have c1:=oJ i hs hdn
 have hsz:=@jj i hs.rng hdn
 have c2:=nu (bytesIt i) ae
 rw [digIt]
 cases hB:seqB (bytesIt i) ⟨#[]⟩ with
 | true =>
  refine ay (args:=[_]) _ Tryz.func65 rfl Tryz.ntmps65 rfl fun av bor w0=>?_
  repeat' (first|apply ab|apply Qu|apply Qv|refine aj ?_|refine ad ?_|refine aD ?_|refine cE ?_|refine aK fun _=>?_|refine Qy ?_|apply ar|(refine ao (hc:=c1) (hX:=fun w h=>h) ?_)|fail)
  all_goals first
   | (rw [hB] at hx_;exact absurd hx_ (by decide))
   | (refine ak (ap rfl rfl) ?_;simp only [ZC,ZB];done)
 | false =>
  refine ay (args:=[_]) _ Tryz.func65 rfl Tryz.ntmps65 rfl fun av bor w0=>?_
  repeat' (first|apply ab|apply Qu|apply Qv|refine aj ?_|refine ad ?_|refine aD ?_|refine cE ?_|refine aK fun _=>?_|refine Qz ?_|apply Qx|apply ar|(refine ao (hc:=c1) (hX:=fun w h=>h) ?_)|(refine ao (hc:=c2) (hX:=fun _ _=>trivial) ?_)|fail)
  all_goals first
   | (rw [hB] at hx_;exact absurd hx_ (by decide))
   | (refine ak (ap rfl rfl) ?_;simp only [ZC,ZB];done)
theorem kx (x:BallotD) (hl:x.Lt) (hs:x.Sm):Pu Tryz.prog 106 #[x.v] (fun _=>True) (.string (msgB x)):=by
 refine ay (args:=[_]) _ Tryz.func106 rfl Tryz.ntmps106 rfl fun av bor w0=>?_
 have c1:=bY nameB (by decide)
 have c2:=iR x hl hs
 have h1:=eE hs
 have h2:=aY nameB
 have h3:nameB.size≤20:=by decide
 have e:msgB x=textV nameB++coreBa x:=by rw [msgB,dp,dH,ByteArray.append_empty]
 rw [e]
 repeat' (first|apply ab|apply Qu|apply Qv|refine ad ?_|refine aK fun _=>?_|fail)
 (apply bI;kernel_rfl)
 all_goals refine aa 1 ?_<;>(refine ag 0 ?_;(refine ao (hc:=c1) (hX:=fun _ _=>trivial) ?_);apply ab;refine ai ?_)<;>(refine ag 2 ?_;(refine ao (hc:=c2) (hX:=fun _ _=>trivial) ?_);apply ab;refine ai ?_)<;>(refine aa 3 (hy:=by (apply bF;rfl;rfl;(try simp only [Zl]);omega)) ?_)<;>refine aa 4 ?_<;>(refine aw ?_)
 all_goals
  repeat' (first|apply ar|fail)
  exact ak (ap rfl rfl) rfl
theorem iO (x:DecD) (hl:x.Lt) (hs:x.Sm):Pu Tryz.prog 107 #[x.v] (fun w=>x.at_ w) (.string (msgD x)):=by
 refine ay (args:=[_]) _ Tryz.func107 rfl Tryz.ntmps107 rfl fun av bor w0=>?_
 have c1:=bY nameD (by decide)
 have c2:=iQ x hl hs
 have h1:=eD hs
 have h2:=aY nameD
 have h3:nameD.size≤20:=by decide
 have e:msgD x=textV nameD++coreDe x:=by rw [msgD,dp,dH,ByteArray.append_empty]
 rw [e]
 repeat' (first|apply ab|apply Qu|apply Qv|refine ad ?_|refine aK fun _=>?_|fail)
 (apply bI;kernel_rfl)
 all_goals refine aa 1 ?_<;>(refine ag 0 ?_;(refine ao (hc:=c1) (hX:=fun _ _=>trivial) ?_);apply ab;refine ai ?_)<;>(refine ag 2 ?_;(refine ao (hc:=c2) (hX:=fun w h=>h) ?_);apply ab;refine ai ?_)<;>(refine aa 3 (hy:=by (apply bF;rfl;rfl;(try simp only [Zl]);omega)) ?_)<;>refine aa 4 ?_<;>(refine aw ?_)
 all_goals
  repeat' (first|apply ar|fail)
  exact ak (ap rfl rfl) rfl
set_option maxRecDepth 20000 in
set_option maxHeartbeats 16000000 in
theorem oD (s:SlV) (L:List Int) (i:ItemD) (hs:i.Str) (hdn:i.dec.to.n=i.dec.toL.length):Pu Tryz.prog 64 #[s.v,i.v] (fun w=>Ints w s L∧i.at_ w) (.bool (signedIt L i)):=by
 refine ay (args:=[_,_]) _ Tryz.func64 rfl Tryz.ntmps64 rfl fun av bor w0=>?_
 refine bK (p:=s.n=L.length∧s.n≤maxLen∧(0<L.length→s.p.isSome=true)) (fun w h=>⟨h.1.len_,Qq (RowsD.cap h.1) (RowsD.max h.1),h.1.some_⟩) fun ⟨hsn,hsm,hsp⟩=>?_
 simp only [maxLen] at hsm
 have hri:=iN i hs
 cases hrB:rightIt i with
 | false =>
  rw [hrB] at hri
  rw [show signedIt L i=false from by rw [signedIt,hrB];rfl]
  repeat' (first|apply ab|apply Qu|apply Qv|refine aj ?_|refine ad ?_|refine aD ?_|refine bu ?_|refine aK fun _=>?_|refine Qy ?_|apply ar|(refine ao (hc:=hri) (hX:=fun w h=>h.2) ?_)|fail)
  exact ak (ap rfl rfl) rfl
 | true =>
 rw [hrB] at hri
 have hk:=dr hrB
 by_cases h2:i.kind=2
 · rcases hk with h|h|h|h
   all_goals first|(exfalso;omega)|skip
   have h1:=h.2
   clear h
   obtain ⟨hl,hz⟩:=fB h1
   have hlo:0≤i.ballot.server:=(cD (by have:=h1;simp only [ballotR,ZM] at this;exact this.1)).1
   have hms:=gJ (nm:=nameB) (by decide) (Qq (eE hz) (by decide))
   have hsg:=fun p:Int=>Rf4.refVerify_pu p (msgB i.ballot) i.ballot.e i.ballot.s (Qq hms (by decide))
   have hcm:=kx i.ballot hl hz
   by_cases hlt:i.ballot.server<(L.length:Nat)
   · have hsp':=hsp ae
     have e:signedIt L i=sgnB (L.getD i.ballot.server.toNat 0) i.ballot:=by rw [signedIt,hrB,ZA h2,ZC,ZA hlt,ZD,ZD]
     rw [e]
     have hget:∀ w,Ints w s L∧i.at_ w→CellAt w s.p i.ballot.server.toNat (.int .i64 (L.getD i.ballot.server.toNat 0)):=fun w h=>Ints.get h.1 ae
     have hsg1:Pu Tryz.prog 105 _ _ (.bool (sgnB (L.getD i.ballot.server.toNat 0) i.ballot)):=hsg (L.getD i.ballot.server.toNat 0)
     generalize L.getD i.ballot.server.toNat 0=pk at *
     repeat' (first|refine bn (hab:=by omega) ?_|apply ab|apply Qu|apply Qv|refine aj ?_|refine ad ?_|refine az ?_|refine aA ?_|refine aD ?_|refine bu ?_|refine aK fun _=>?_|refine Qy ?_|refine Qz ?_|apply Qx|apply Qw|(refine ao (hc:=hri) (hX:=fun w h=>h.2) ?_)|fail)
     rename_i b3
     (refine aU [cel b3 57 i.cells] (fun w=>Ints w s L∧i.at_ w) al ?_)
     all_goals refine aa 0 ?_<;>refine aa 1 ?_<;>refine aa 2 ?_<;>refine aa 3 ?_<;>refine aa 4 ?_<;>(refine aa 5 (hy:=by (apply bQ true;rfl;rfl;exact ZA ae)) ?_)<;>refine aa 6 ?_<;>refine aa 7 ?_<;>refine aa 8 ?_<;>refine aa 9 ?_<;>refine aa 10 ?_<;>(refine aa 11 (hy:=by (apply aN (q:=i.ballot.server.toNat);rfl;rfl;omega;omega;assumption;omega)) ?_)<;>(refine aa 12 (hy:=by (apply dT (q:=i.ballot.server.toNat) (u:=.int .i64 pk);rfl;exact hget)) ?_)<;>refine aa 13 ?_<;>(refine aa 14 (hy:=by (apply cK (vs:=i.ballot.cells);rfl;exact .head _;rfl;rfl)) ?_)<;>refine aa 16 ?_<;>refine aa 17 ?_<;>(refine aa 18 (hy:=by (apply cK (vs:=SgD.cells ⟨i.ballot.e,i.ballot.s⟩);rfl;exact .head _;rfl;rfl)) ?_)<;>(refine ag 15 ?_;(refine ao (hc:=hcm) (hX:=fun _ _=>trivial) ?_);apply ab;refine ai ?_)<;>(refine ag 19 ?_;(refine ao (hc:=hsg1) (hX:=fun _ _=>trivial) ?_);apply ab;refine ai ?_)<;>refine aa 20 ?_<;>refine aa 21 ?_<;>(refine aw ?_)
     all_goals
      repeat' (first|apply ar|fail)
      exact ak (ap rfl rfl) rfl
   · have e:signedIt L i=false:=by rw [signedIt,hrB,ZA h2,ZC,Zn hlt];rfl
     rw [e]
     repeat' (first|refine bn (hab:=by omega) ?_|apply ab|apply Qu|apply Qv|refine aj ?_|refine ad ?_|refine az ?_|refine aA ?_|refine aD ?_|refine bu ?_|refine aK fun _=>?_|refine Qy ?_|refine Qz ?_|apply Qx|apply Qw|(refine ao (hc:=hri) (hX:=fun w h=>h.2) ?_)|fail)
     rename_i b3
     (refine aU [cel b3 57 i.cells] (fun w=>Ints w s L∧i.at_ w) al ?_)
     all_goals refine aa 0 ?_<;>refine aa 1 ?_<;>refine aa 2 ?_<;>refine aa 3 ?_<;>refine aa 4 ?_<;>(refine aa 5 (hy:=by (apply bQ false;rfl;rfl;exact Zn ae)) ?_)<;>refine aa 6 ?_<;>refine aM 7 ?_<;>refine aM 8 ?_<;>refine aM 9 ?_<;>refine aM 10 ?_<;>refine aM 11 ?_<;>refine aM 12 ?_<;>refine aM 13 ?_<;>refine aM 14 ?_<;>refine aM 16 ?_<;>refine aM 17 ?_<;>refine aM 18 ?_<;>(refine ag 15 ?_;(refine aL ?_);apply ab;refine ai ?_)<;>(refine ag 19 ?_;(refine aL ?_);apply ab;refine ai ?_)<;>refine aa 20 ?_<;>refine aa 21 ?_<;>(refine aw ?_)
     all_goals
      repeat' (first|apply ar|fail)
      exact ak (ap rfl rfl) rfl
 by_cases h3:i.kind=3
 · rcases hk with h|h|h|h
   all_goals first|(exfalso;omega)|skip
   have h1:=h.2
   clear h
   obtain ⟨hl,hz⟩:=je hdn h1
   have hlo:0≤i.dec.server:=(cD (by have:=h1;simp only [decR,ZM] at this;exact this.1)).1
   have hms:=gJ (nm:=nameD) (by decide) (Qq (eD hz) (by decide))
   have hsg:=fun p:Int=>Rf4.refVerify_pu p (msgD i.dec) i.dec.e i.dec.s (Qq hms (by decide))
   have hcm:=iO i.dec hl hz
   by_cases hlt:i.dec.server<(L.length:Nat)
   · have hsp':=hsp ae
     have e:signedIt L i=sgnD (L.getD i.dec.server.toNat 0) i.dec:=by rw [signedIt,hrB,Zn h2,ZB,ZA h3,ZC,ZA hlt,ZD,ZD]
     rw [e]
     have hget:∀ w,Ints w s L∧i.at_ w→CellAt w s.p i.dec.server.toNat (.int .i64 (L.getD i.dec.server.toNat 0)):=fun w h=>Ints.get h.1 ae
     have hsg1:Pu Tryz.prog 105 _ _ (.bool (sgnD (L.getD i.dec.server.toNat 0) i.dec)):=hsg (L.getD i.dec.server.toNat 0)
     generalize L.getD i.dec.server.toNat 0=pk at *
     repeat' (first|refine bn (hab:=by omega) ?_|refine bt (hab:=by omega) ?_|apply ab|apply Qu|apply Qv|refine aj ?_|refine ad ?_|refine az ?_|refine aA ?_|refine aD ?_|refine bu ?_|refine aK fun _=>?_|refine Qy ?_|refine Qz ?_|apply Qx|apply Qw|(refine ao (hc:=hri) (hX:=fun w h=>h.2) ?_)|fail)
     rename_i b3
     (refine aU [cel b3 57 i.cells] (fun w=>Ints w s L∧i.at_ w) al ?_)
     all_goals refine aa 0 ?_<;>refine aa 1 ?_<;>refine aa 2 ?_<;>refine aa 3 ?_<;>refine aa 4 ?_<;>(refine aa 5 (hy:=by (apply bQ true;rfl;rfl;exact ZA ae)) ?_)<;>refine aa 6 ?_<;>refine aa 7 ?_<;>refine aa 8 ?_<;>refine aa 9 ?_<;>refine aa 10 ?_<;>(refine aa 11 (hy:=by (apply aN (q:=i.dec.server.toNat);rfl;rfl;omega;omega;assumption;omega)) ?_)<;>(refine aa 12 (hy:=by (apply dT (q:=i.dec.server.toNat) (u:=.int .i64 pk);rfl;exact hget)) ?_)<;>refine aa 13 ?_<;>(refine aa 14 (hy:=by (apply cK (vs:=i.dec.cells);rfl;exact .head _;rfl;rfl)) ?_)<;>refine aa 16 ?_<;>refine aa 17 ?_<;>(refine aa 18 (hy:=by (apply cK (vs:=SgD.cells ⟨i.dec.e,i.dec.s⟩);rfl;exact .head _;rfl;rfl)) ?_)<;>(refine ag 15 ?_;(refine ao (hc:=hcm) (hX:=fun w h=>h.2.2) ?_);apply ab;refine ai ?_)<;>(refine ag 19 ?_;(refine ao (hc:=hsg1) (hX:=fun _ _=>trivial) ?_);apply ab;refine ai ?_)<;>refine aa 20 ?_<;>refine aa 21 ?_<;>(refine aw ?_)
     all_goals
      repeat' (first|apply ar|fail)
      exact ak (ap rfl rfl) rfl
   · have e:signedIt L i=false:=by rw [signedIt,hrB,Zn h2,ZB,ZA h3,ZC,Zn hlt];rfl
     rw [e]
     repeat' (first|refine bn (hab:=by omega) ?_|refine bt (hab:=by omega) ?_|apply ab|apply Qu|apply Qv|refine aj ?_|refine ad ?_|refine az ?_|refine aA ?_|refine aD ?_|refine bu ?_|refine aK fun _=>?_|refine Qy ?_|refine Qz ?_|apply Qx|apply Qw|(refine ao (hc:=hri) (hX:=fun w h=>h.2) ?_)|fail)
     rename_i b3
     (refine aU [cel b3 57 i.cells] (fun w=>Ints w s L∧i.at_ w) al ?_)
     all_goals refine aa 0 ?_<;>refine aa 1 ?_<;>refine aa 2 ?_<;>refine aa 3 ?_<;>refine aa 4 ?_<;>(refine aa 5 (hy:=by (apply bQ false;rfl;rfl;exact Zn ae)) ?_)<;>refine aa 6 ?_<;>refine aM 7 ?_<;>refine aM 8 ?_<;>refine aM 9 ?_<;>refine aM 10 ?_<;>refine aM 11 ?_<;>refine aM 12 ?_<;>refine aM 13 ?_<;>refine aM 14 ?_<;>refine aM 16 ?_<;>refine aM 17 ?_<;>refine aM 18 ?_<;>(refine ag 15 ?_;(refine aL ?_);apply ab;refine ai ?_)<;>(refine ag 19 ?_;(refine aL ?_);apply ab;refine ai ?_)<;>refine aa 20 ?_<;>refine aa 21 ?_<;>(refine aw ?_)
     all_goals
      repeat' (first|apply ar|fail)
      exact ak (ap rfl rfl) rfl
 have e:signedIt L i=true:=by rw [signedIt,hrB,Zn h2,Zn h3];rfl
 rw [e]
 repeat' (first|refine bt (hab:=by omega) ?_|apply ab|apply Qu|apply Qv|refine aj ?_|refine ad ?_|refine az ?_|refine aA ?_|refine aD ?_|refine bu ?_|refine aK fun _=>?_|refine Qz ?_|apply Qx|apply Qw|apply ar|(refine ao (hc:=hri) (hX:=fun w h=>h.2) ?_)|fail)
 exact ak (ap rfl rfl) rfl
def badSv (L:List Int) (k:Nat):Bool:=decide (L.getD k 0<1)||decide (2305843009213693950<L.getD k 0)
def badKn (L:List Int) (I:List ItemD) (k:Nat):Bool:=!signedIt L (I.getD k ItemD.zero)||(decide (0<k)&&!ltB (digIt (I.getD (k-1) ItemD.zero)) (digIt (I.getD k ItemD.zero)))
def rightKn (L:List Int) (I:List ItemD):Bool:=decide (L.length≤20)&&(allB L.length (badSv L)&&allB I.length (badKn L I))
section
variable {P:Program} {N:Nat} {av bor:List Nat} {w0:World} {st:St} {ty:TypeId} {x y:Operand} {t t2:TypeId}
theorem Aa {a b:ByteArray} (hx:ev st.env x=some (.string a)) (hy:ev st.env y=some (.string b)) (hab:ltB a b=false):Sy.Yields P N av bor w0 st (.binOp .geq t x y t2) ty (.bool true):=by
 have h:=rl (P:=P) (N:=N) (av:=av) (bor:=bor) (w0:=w0) (t:=t) (t2:=t2) (ty:=ty) hx hy
 rw [show Op.bytesLess a.toList b.toList=false from hab] at h
 exact h
end
set_option maxRecDepth 20000 in
set_option maxHeartbeats 16000000 in
theorem oF (ks ki:SlV) (L:List Int) (I:List ItemD) (hs:∀ i∈I,i.Str) (hdn:∀ i∈I,i.dec.to.n=i.dec.toL.length) :
  Pu Tryz.prog 31 #[.agg #[ks.v,ki.v]] (fun w=>Ints w ks L∧Items w ki I) (.bool (rightKn L I)):=by
 refine ay (args:=[_]) _ Tryz.func31 rfl Tryz.ntmps31 rfl fun av bor w0=>?_
 refine bK (p:=(ks.n=L.length∧ks.n≤maxLen∧(0<L.length→ks.p.isSome=true))∧(ki.n=I.length∧ki.n≤maxLen∧(0<I.length→ki.p.isSome=true))) (fun w h=>⟨⟨h.1.len_,Qq (RowsD.cap h.1) (RowsD.max h.1),h.1.some_⟩,h.2.len_,h.2.max_,h.2.some_⟩) fun ⟨⟨hn,hm,hp⟩,hin,him,hip⟩=>?_
 simp only [maxLen] at hm him
 repeat' (first|apply ab|apply Qu|apply Qv|refine ad ?_|refine az ?_|refine aA ?_|refine cF ?_|refine aW ?_|refine aK fun _=>?_|apply Qx|apply Qw|apply ar|(refine aF (ht:=?_) (hf:=?_);all_goals (intro hx_;first|have:=aO hx_|have:=aQ hx_)))
 · refine ak (ap rfl rfl) ?_
   rw [rightKn,Zn (by omega)]
   rfl
 rename_i b
 have h20:L.length≤20:=by omega
 rw [rightKn,ZA h20,ZD]
 refine aT (ι:=Upto L.length (badSv L)) (fun i=>⟨[(1,.pointer (some ⟨b,0,none⟩)),(3,.int .i64 (i.k:Nat))],[cel b 25 [ks.v,ki.v]],fun w=>Ints w ks L∧Items w ki I⟩) (fun i=>L.length-i.k) (Upto.zero _ _) (ax ⟨rfl,rfl,trivial⟩ (aG _) fun _ h=>h) fun i=>?_
 have hik:=i.hk
 by_cases hlt:i.k<L.length
 · have hks:=hp ae
   repeat' (first|apply ab|apply Qu|apply Qv|refine aj ?_|refine ad ?_|refine az ?_|refine aA ?_|refine aB ?_|refine aC ?_|refine bj ?_|refine cF ?_|refine aW ?_|refine be (h:=?_)|refine bC ?_|refine Qy ?_|apply Qx|apply Qw|apply ar|apply aS|(refine bz (q:=i.k) ?_)|(refine eH (q:=i.k) (u:=.int .i64 (L.getD i.k 0)) (hF:=fun w h=>Ints.get h.1 hlt) ?_)|((fail_if_success (refine aZ ?_));refine aP (ht:=?_) (hf:=?_);all_goals (intro hx_;first|have:=aO hx_|have:=aQ hx_))|(refine aF (ht:=?_) (hf:=?_);all_goals (intro hx_;first|have:=aO hx_|have:=aQ hx_)))
   all_goals first
    | (exfalso;omega)
    | (refine ak (ap rfl rfl) ?_;rw [dE (k:=i.k) hlt (by simp only [badSv, *,ZQ,ZO,ZC,ZB,ZE,ZD,ZH,ZG,ZK,ZI,ZP,ZJ,ZN,ZF]),ZG];done)
    | exact ⟨i.next hlt (by simp only [badSv, *,ZQ,ZO,ZC,ZB,ZE,ZD,ZH,ZG,ZK,ZI,ZP,ZJ,ZN,ZF]),(by show L.length-(i.k+1)<L.length-i.k;omega),ax ⟨rfl,rfl,trivial⟩ (aG _) fun _ h=>h⟩
 · rw [i.all hlt,ZD]
   repeat' (first|refine SrG.sy_lssF_g (hab:=by omega) (h:=?_)|apply ab|apply Qu|apply Qv|refine aj ?_|refine ad ?_|refine az ?_|refine aA ?_|refine aW ?_|refine Qz ?_|apply Qw|apply aS|fail)
   refine aT (ι:=Upto I.length (badKn L I)) (fun j=>⟨[(1,.pointer (some ⟨b,0,none⟩)),(4,.int .i64 (j.k:Nat))],[cel b 25 [ks.v,ki.v]],fun w=>Ints w ks L∧Items w ki I⟩) (fun j=>I.length-j.k) (Upto.zero _ _) (ax ⟨rfl,rfl,trivial⟩ (aG _) fun _ h=>h) fun j=>?_
   have hjk:=j.hk
   by_cases hlj:j.k<I.length
   · have hki:=hip ae
     obtain ⟨x,hx⟩:∃ x,I[j.k]?=some x:=⟨_,Zm hlj⟩
     have hxm:=List.mem_of_getElem? hx
     have hxD:I.getD j.k ItemD.zero=x:=by rw [ZL,hx];rfl
     have hsg:=oD ks L x (hs x hxm) (hdn x hxm)
     have hdx:=ib x (hs x hxm) (hdn x hxm)
     cases hsB:signedIt L x with
     | false =>
      rw [hsB] at hsg
      have hbad:badKn L I j.k=true:=by rw [badKn,hxD,hsB];rfl
      repeat' (first|refine SrG.sy_lssT_g (hab:=by omega) (h:=?_)|apply ab|apply Qu|apply Qv|refine aj ?_|refine az ?_|refine aA ?_|refine aW ?_|refine Qy ?_|apply Qx|apply Qw|fail)
      (refine aU [cel b 25 [ks.v,ki.v]] (fun w=>Ints w ks L∧Items w ki I) al ?_)
      all_goals refine aa 0 ?_<;>refine aa 1 ?_<;>refine aa 2 ?_<;>refine aa 3 ?_<;>refine aa 4 ?_<;>(refine aa 5 (hy:=by (apply aN (q:=j.k*49);rfl;rfl;omega;omega;assumption;omega)) ?_)<;>(refine aa 6 (hy:=by (apply cZ (cs:=x.cells);rfl;exact (fun w h=>Items.get h.2 hx))) ?_)<;>(refine ag 7 ?_;(refine ao (hc:=hsg) (hX:=fun w h=>⟨h.1,h.2.2 x hxm⟩) ?_);apply ab;refine ai ?_)<;>refine aa 8 ?_<;>(refine aw ?_)
      all_goals
       repeat' (first|apply ab|apply Qu|apply Qv|refine ad ?_|refine Qy ?_|apply ar|fail)
       all_goals (refine ak (ap rfl rfl) ?_;rw [dE hlj hbad])
     | true =>
      rw [hsB] at hsg
      by_cases h0:0<j.k
      · obtain ⟨y,hy⟩:∃ y,I[j.k-1]?=some y:=⟨_,Zm ae⟩
        have hym:=List.mem_of_getElem? hy
        have hyD:I.getD (j.k-1) ItemD.zero=y:=by rw [ZL,hy];rfl
        have hdy:=ib y (hs y hym) (hdn y hym)
        have hbq:badKn L I j.k=!ltB (digIt y) (digIt x):=by rw [badKn,hxD,hyD,hsB,ZA h0];rfl
        generalize digIt x=dx at *
        generalize digIt y=dy at *
        cases hlB:ltB dy dx with
        | true =>
         have hok:badKn L I j.k=false:=by rw [hbq,hlB];rfl
         repeat' (first|refine SrG.sy_lssT_g (hab:=by omega) (h:=?_)|apply ab|apply Qu|apply Qv|refine aj ?_|refine az ?_|refine aA ?_|refine aW ?_|refine Qy ?_|apply Qx|apply Qw|fail)
         (refine aU [cel b 25 [ks.v,ki.v]] (fun w=>Ints w ks L∧Items w ki I) al ?_)
         all_goals refine aa 0 ?_<;>refine aa 1 ?_<;>refine aa 2 ?_<;>refine aa 3 ?_<;>refine aa 4 ?_<;>(refine aa 5 (hy:=by (apply aN (q:=j.k*49);rfl;rfl;omega;omega;assumption;omega)) ?_)<;>(refine aa 6 (hy:=by (apply cZ (cs:=x.cells);rfl;exact (fun w h=>Items.get h.2 hx))) ?_)<;>(refine ag 7 ?_;(refine ao (hc:=hsg) (hX:=fun w h=>⟨h.1,h.2.2 x hxm⟩) ?_);apply ab;refine ai ?_)<;>refine aa 8 ?_<;>(refine aw ?_)
         all_goals
          repeat' (first|apply Qu|refine Qz ?_|apply Qx|fail)
          (refine aU [cel b 25 [ks.v,ki.v]] (fun w=>Ints w ks L∧Items w ki I) al ?_)
          all_goals refine aa 0 ?_<;>(refine aa 1 (hy:=by (apply SrG.y_gtrT_g;rfl;rfl;omega)) ?_)<;>refine aa 2 ?_<;>refine aa 3 ?_<;>refine aa 4 ?_<;>refine aa 5 ?_<;>(refine aa 6 (hy:=by (apply Rf4.y_subM (q:=1);rfl;rfl;omega)) ?_)<;>(refine aa 7 (hy:=by (apply aN (q:=(j.k-1)*49);rfl;rfl;omega;omega;assumption;omega)) ?_)<;>(refine aa 8 (hy:=by (apply cZ (cs:=y.cells);rfl;exact (fun w h=>Items.get h.2 hy))) ?_)<;>refine aa 10 ?_<;>refine aa 11 ?_<;>refine aa 12 ?_<;>(refine aa 13 (hy:=by (apply aN (q:=j.k*49);rfl;rfl;omega;omega;assumption;omega)) ?_)<;>(refine aa 14 (hy:=by (apply cZ (cs:=x.cells);rfl;exact (fun w h=>Items.get h.2 hx))) ?_)<;>(refine ag 9 ?_;(refine ao (hc:=hdy) (hX:=fun w h=>h.2.2 y hym) ?_);apply ab;refine ai ?_)<;>(refine ag 15 ?_;(refine ao (hc:=hdx) (hX:=fun w h=>h.2.2 x hxm) ?_);apply ab;refine ai ?_)<;>(refine aa 16 (hy:=by (apply Ab;rfl;rfl;exact hlB)) ?_)<;>refine aa 17 ?_<;>(refine aw ?_)
          all_goals
           repeat' (first|apply ab|apply Qv|refine aj ?_|refine ad ?_|refine be (h:=?_)|refine Qz ?_|apply Qx|fail)
           all_goals exact ⟨j.next hlj hok,(by show I.length-(j.k+1)<I.length-j.k;omega),ax ⟨rfl,rfl,trivial⟩ (aG _) fun _ h=>h⟩
        | false =>
         have hbad:badKn L I j.k=true:=by rw [hbq,hlB];rfl
         repeat' (first|refine SrG.sy_lssT_g (hab:=by omega) (h:=?_)|apply ab|apply Qu|apply Qv|refine aj ?_|refine az ?_|refine aA ?_|refine aW ?_|refine Qy ?_|apply Qx|apply Qw|fail)
         (refine aU [cel b 25 [ks.v,ki.v]] (fun w=>Ints w ks L∧Items w ki I) al ?_)
         all_goals refine aa 0 ?_<;>refine aa 1 ?_<;>refine aa 2 ?_<;>refine aa 3 ?_<;>refine aa 4 ?_<;>(refine aa 5 (hy:=by (apply aN (q:=j.k*49);rfl;rfl;omega;omega;assumption;omega)) ?_)<;>(refine aa 6 (hy:=by (apply cZ (cs:=x.cells);rfl;exact (fun w h=>Items.get h.2 hx))) ?_)<;>(refine ag 7 ?_;(refine ao (hc:=hsg) (hX:=fun w h=>⟨h.1,h.2.2 x hxm⟩) ?_);apply ab;refine ai ?_)<;>refine aa 8 ?_<;>(refine aw ?_)
         all_goals
          repeat' (first|apply Qu|refine Qz ?_|apply Qx|fail)
          (refine aU [cel b 25 [ks.v,ki.v]] (fun w=>Ints w ks L∧Items w ki I) al ?_)
          all_goals refine aa 0 ?_<;>(refine aa 1 (hy:=by (apply SrG.y_gtrT_g;rfl;rfl;omega)) ?_)<;>refine aa 2 ?_<;>refine aa 3 ?_<;>refine aa 4 ?_<;>refine aa 5 ?_<;>(refine aa 6 (hy:=by (apply Rf4.y_subM (q:=1);rfl;rfl;omega)) ?_)<;>(refine aa 7 (hy:=by (apply aN (q:=(j.k-1)*49);rfl;rfl;omega;omega;assumption;omega)) ?_)<;>(refine aa 8 (hy:=by (apply cZ (cs:=y.cells);rfl;exact (fun w h=>Items.get h.2 hy))) ?_)<;>refine aa 10 ?_<;>refine aa 11 ?_<;>refine aa 12 ?_<;>(refine aa 13 (hy:=by (apply aN (q:=j.k*49);rfl;rfl;omega;omega;assumption;omega)) ?_)<;>(refine aa 14 (hy:=by (apply cZ (cs:=x.cells);rfl;exact (fun w h=>Items.get h.2 hx))) ?_)<;>(refine ag 9 ?_;(refine ao (hc:=hdy) (hX:=fun w h=>h.2.2 y hym) ?_);apply ab;refine ai ?_)<;>(refine ag 15 ?_;(refine ao (hc:=hdx) (hX:=fun w h=>h.2.2 x hxm) ?_);apply ab;refine ai ?_)<;>(refine aa 16 (hy:=by (apply Aa;rfl;rfl;exact hlB)) ?_)<;>refine aa 17 ?_<;>(refine aw ?_)
          all_goals
           repeat' (first|apply ab|apply Qu|apply Qv|refine ad ?_|refine Qy ?_|apply ar|fail)
           all_goals (refine ak (ap rfl rfl) ?_;rw [dE hlj hbad])
      · have hok:badKn L I j.k=false:=by rw [badKn,hxD,hsB,Zn h0];rfl
        repeat' (first|refine SrG.sy_lssT_g (hab:=by omega) (h:=?_)|apply ab|apply Qu|apply Qv|refine aj ?_|refine az ?_|refine aA ?_|refine aW ?_|refine Qy ?_|apply Qx|apply Qw|fail)
        (refine aU [cel b 25 [ks.v,ki.v]] (fun w=>Ints w ks L∧Items w ki I) al ?_)
        all_goals refine aa 0 ?_<;>refine aa 1 ?_<;>refine aa 2 ?_<;>refine aa 3 ?_<;>refine aa 4 ?_<;>(refine aa 5 (hy:=by (apply aN (q:=j.k*49);rfl;rfl;omega;omega;assumption;omega)) ?_)<;>(refine aa 6 (hy:=by (apply cZ (cs:=x.cells);rfl;exact (fun w h=>Items.get h.2 hx))) ?_)<;>(refine ag 7 ?_;(refine ao (hc:=hsg) (hX:=fun w h=>⟨h.1,h.2.2 x hxm⟩) ?_);apply ab;refine ai ?_)<;>refine aa 8 ?_<;>(refine aw ?_)
        all_goals
         repeat' (first|apply Qu|refine Qz ?_|apply Qx|fail)
         (refine aU [cel b 25 [ks.v,ki.v]] (fun w=>Ints w ks L∧Items w ki I) al ?_)
         all_goals refine aa 0 ?_<;>(refine aa 1 (hy:=by (apply SrG.y_gtrF_g;rfl;rfl;omega)) ?_)<;>refine aa 2 ?_<;>refine aM 3 ?_<;>refine aM 4 ?_<;>refine aM 5 ?_<;>refine aM 6 ?_<;>refine aM 7 ?_<;>refine aM 8 ?_<;>refine aM 10 ?_<;>refine aM 11 ?_<;>refine aM 12 ?_<;>refine aM 13 ?_<;>refine aM 14 ?_<;>(refine ag 9 ?_;(refine aL ?_);apply ab;refine ai ?_)<;>(refine ag 15 ?_;(refine aL ?_);apply ab;refine ai ?_)<;>refine aM 16 ?_<;>refine aa 17 ?_<;>(refine aw ?_)
         all_goals
          repeat' (first|apply ab|apply Qv|refine aj ?_|refine ad ?_|refine be (h:=?_)|refine Qz ?_|apply Qx|fail)
          all_goals exact ⟨j.next hlj hok,(by show I.length-(j.k+1)<I.length-j.k;omega),ax ⟨rfl,rfl,trivial⟩ (aG _) fun _ h=>h⟩
   · rw [j.all hlj]
     repeat' (first|refine SrG.sy_lssF_g (hab:=by omega) (h:=?_)|apply ab|apply Qu|apply Qv|refine aj ?_|refine ad ?_|refine az ?_|refine aA ?_|refine aW ?_|refine Qz ?_|apply ar|apply aS|fail)
     all_goals first
      | exact ak (ap rfl rfl) rfl
theorem sM {l:List ByteArray} (h:∀ k (hk:k+1<l.length),ltB (l[k]'(by omega)) l[k+1]=true):Asc l:=by
 have key:∀ d i (hj:i+d+1<l.length),ltB (l[i]'(by omega)) l[i+d+1]=true:=by
  intro d
  induction d with
  | zero=>exact fun i hj=>h i hj
  | succ d ih =>
   intro i hj
   exact fY (ih i ae) (h (i+d+1) hj)
 refine List.pairwise_iff_getElem.2 fun i j hi hj hij=>?_
 obtain ⟨d,rfl⟩:∃ d,j=i+d+1:=⟨j-i-1,by omega⟩
 exact key d i hj
theorem lP {L:List Int} {I:List ItemD} (h:rightKn L I=true):∀ i∈I,signedIt L i=true:=fun i hi=>by
 rw [rightKn,ZM,ZM] at h
 obtain ⟨k,hk⟩:=List.mem_iff_getElem?.1 hi
 obtain ⟨hlt,e⟩:=List.getElem?_eq_some_iff.1 hk
 have h1:=jo h.2.2 hlt
 have e2:I.getD k ItemD.zero=i:=by rw [ZL,hk];rfl
 rw [badKn,e2,Bool.or_eq_false_iff,Bool.not_eq_false'] at h1
 exact h1.1
theorem pY {L:List Int} {I:List ItemD} (h:rightKn L I=true):Asc (I.map digIt):=by
 rw [rightKn,ZM,ZM] at h
 refine sM fun k hk=>?_
 rw [Z3] at hk
 have h1:=jo h.2.2 hk
 rw [badKn,Bool.or_eq_false_iff] at h1
 have h2:=h1.2
 rw [ZA ae,ZD,Bool.not_eq_false',ZL,ZL,Nat.add_sub_cancel,Zm hk,Zm (show k<I.length by omega)] at h2
 rw [List.getElem_map,List.getElem_map]
 exact h2
theorem Dk {L:List Int} {I:List ItemD} (h:rightKn L I=true) (hl:I.length≤100) (hr:∀ i∈I,i.act.Rng) (hs:∀ i∈I,i.act.Sm) (hd:∀ i∈I,i.dec.to.n=i.dec.toL.length):KnR L I where
 sv:=by
  rw [rightKn,ZM] at h
  exact aO h.1
 len:=hl
 rng:=hr
 sm:=hs
 dn:=hd
 right:=fun i hi=>by
  have h1:=lP h i hi
  rw [signedIt,ZM] at h1
  exact h1.1
 asc:=pY h
theorem zU (ks ki:SlV) (L:List Int) (I:List ItemD) (it:ItemD) (hdn:it.dec.to.n=it.dec.toL.length) (hs:signedIt L it=false) :
  Pu Tryz.prog 18 #[.agg #[ks.v,ki.v],it.v] (fun w=>((Ints w ks L∧Items w ki I)∧it.at_ w)∧Glob w) (.tuple #[.agg #[ks.v,ki.v],.bool false]):=by
 refine ay (args:=[_,_]) _ Tryz.func18 rfl Tryz.ntmps18 rfl fun av bor w0=>?_
 have hR:=dQ it
 have hS:=gC ks L it hdn
 rw [hs] at hS
 repeat' (first|apply ab|apply Qu|apply Qv|refine aj ?_|refine ad ?_|refine az ?_|refine aA ?_|refine aD ?_|refine aB ?_|refine aC ?_|refine bu ?_|refine bC ?_|refine aI fun _=>?_|refine aK fun _=>?_|refine aH ?_|refine Qy ?_|apply ar|(refine ao (hc:=hR) (hX:=fun w h=>h.1.2) ?_)|(refine ao (hc:=hS) (hX:=fun w h=>⟨⟨h.1.1.1,h.1.2⟩,h.2⟩) ?_)|((fail_if_success (refine aZ ?_));refine aP (ht:=?_) (hf:=?_);all_goals (intro hx_;skip))|fail)
 all_goals first
  | exact ak (dc rfl rfl rfl bL (by rfl)) rfl
structure DupI (p:Nat) where
 k:Nat
 hk:k≤p
 at0:Int
set_option maxHeartbeats 16000000 in
theorem wA (ks ki:SlV) (L:List Int) (I:List ItemD) (it:ItemD) (hr:∀ i∈I,i.act.Rng) (hd:∀ i∈I,i.dec.to.n=i.dec.toL.length) (hit:it.act.Rng) (hdn:it.dec.to.n=it.dec.toL.length) (hI:I.length≤1000) (hs:signedIt L it=true)
  (p:Nat) (x0:ItemD) (hp:I[p]?=some x0) (he:digIt x0=digIt it) (hno:∀ (j:Nat) (y:ItemD),j<p→I[j]?=some y→seqB (digIt y) (digIt it)=false) :
  Pu Tryz.prog 18 #[.agg #[ks.v,ki.v],it.v] (fun w=>((Ints w ks L∧Items w ki I)∧it.at_ w)∧Glob w) (.tuple #[.agg #[ks.v,ki.v],.bool false]):=by
 refine ay (args:=[_,_]) _ Tryz.func18 rfl Tryz.ntmps18 rfl fun av bor w0=>?_
 have hR:=dQ it
 have hS:=gC ks L it hdn
 rw [hs] at hS
 have hri:rightIt it=true:=by
  rw [signedIt,ZM] at hs
  exact hs.1
 rw [hri] at hR
 have hD0:=dF it hit hdn
 have hD:=fun x (hx:x∈I)=>dF x (hr x hx) (hd x hx)
 have hplt:=(List.getElem?_eq_some_iff.1 hp).1
 refine bK (p:=ki.n=I.length∧ki.n≤maxLen∧(0<I.length→ki.p.isSome=true)) (fun w h=>⟨h.1.1.2.len_,h.1.1.2.max_,h.1.1.2.some_⟩) fun ⟨hkn,hkm,hkp⟩=>?_
 simp only [maxLen] at hkm
 have hkp':=hkp ae
 generalize digIt it=d at *
 clear hs hri hr hd hit hdn
 repeat' (first|apply ab|apply Qu|apply Qv|refine aj ?_|refine ad ?_|refine az ?_|refine aA ?_|refine aD ?_|refine aC ?_|refine bu ?_|refine aW ?_|refine aI fun _=>?_|refine aK fun _=>?_|refine Qz ?_|apply Qx|apply Qw|(refine ao (hc:=hR) (hX:=fun w h=>h.1.2) ?_)|(refine ao (hc:=hS) (hX:=fun w h=>⟨⟨h.1.1.1,h.1.2⟩,h.2⟩) ?_)|(refine ao (hc:=hD0) (hX:=fun w h=>⟨h.1.2,h.2⟩) ?_)|fail)
 rename_i b2 b3 b4
 refine aT (ι:=DupI p) (fun i=>⟨[(2,.pointer (some ⟨b2,0,none⟩)),(3,.pointer (some ⟨b3,0,none⟩)),(4,.pointer (some ⟨b4,0,none⟩)),(6,.string d),(7,.int .i64 i.at0),(29,ki.v),(30,.int .i64 (ki.n:Nat)),(31,.int .i64 (i.k:Nat))],[cel b4 25 [.slice none 0 0,.slice none 0 0],cel b3 57 it.cells,cel b2 25 [ks.v,ki.v]],fun w=>((Ints w ks L∧Items w ki I)∧it.at_ w)∧Glob w⟩) (fun i=>p-i.k) ⟨0,Nat.zero_le _,(ki.n:Nat)⟩ (ax ⟨rfl,rfl,rfl,rfl,rfl,rfl,rfl,rfl,trivial⟩ (aG _) fun _ h=>h) fun i=>?_
 obtain ⟨k,hk,at0⟩:=i
 simp only
 obtain ⟨x,hx⟩:∃ x,I[k]?=some x:=⟨_,Zm ae⟩
 have hxm:=List.mem_of_getElem? hx
 have hDx:=hD x hxm
 by_cases hkp2:k=p
 · obtain rfl:x=x0:=by rw [hkp2,hp] at hx;exact (Option.some.inj hx).symm
   rw [he] at hDx
   have hdd:seqB d d=true:=bN _
   repeat' (first|refine am (bQ true rfl rfl (ZA ae)) rfl aE rfl ?_|refine am (dm true rfl rfl hdd) rfl aE rfl ?_|apply ab|apply Qu|apply Qv|refine aj ?_|refine ad ?_|refine aD ?_|refine aI fun _=>?_|refine aH ?_|refine Qy ?_|apply Qx|apply Qw|apply ar|(refine bz (q:=k*49) ?_)|(refine cq (cs:=x.cells) (hF:=fun w h=>h.1.1.2.get hx) ?_)|(refine ao (hc:=hDx) (hX:=fun w h=>⟨h.1.1.2.2 x hxm,h.2⟩) ?_)|fail)
   all_goals first
    | exact ak (dc rfl rfl rfl bL (by rfl)) rfl
 · have hne:=hno k x ae hx
   cases hg:gtB (digIt x) d
   all_goals
    repeat' (first|refine am (bQ true rfl rfl (ZA ae)) rfl aE rfl ?_|refine am (dm false rfl rfl hne) rfl aE rfl ?_|refine am (kD _ rfl rfl hg) rfl aE rfl ?_|apply ab|apply Qu|apply Qv|refine aj ?_|refine ad ?_|refine az ?_|refine aA ?_|refine aD ?_|refine aB ?_|refine aC ?_|refine bM ?_|refine aW ?_|refine be (h:=?_)|refine aL ?_|refine aI fun _=>?_|refine aH ?_|refine Qy ?_|refine Qz ?_|apply Qx|apply Qw|(refine bz (q:=k*49) ?_)|(refine cq (cs:=x.cells) (hF:=fun w h=>h.1.1.2.get hx) ?_)|(refine ao (hc:=hDx) (hX:=fun w h=>⟨h.1.1.2.2 x hxm,h.2⟩) ?_)|(refine aF (ht:=?_) (hf:=?_);all_goals (intro hx_;first|have:=aO hx_|have:=aQ hx_)))
   all_goals first
    | exact ⟨(⟨k+1,by omega,at0⟩:DupI p),(by show p-(k+1)<p-k;omega),ax ⟨rfl,rfl,rfl,rfl,rfl,rfl,rfl,rfl,trivial⟩ (.cons _ (aG _)) fun _ h=>h⟩
    | exact ⟨(⟨k+1,by omega,(k:Nat)⟩:DupI p),(by show p-(k+1)<p-k;omega),ax ⟨rfl,rfl,rfl,rfl,rfl,rfl,rfl,rfl,trivial⟩ (.cons _ (aG _)) fun _ h=>h⟩
def canAdd (L:List Int) (I:List ItemD) (it:ItemD):Bool:=signedIt L it&&!(I.any fun x=>seqB (digIt x) (digIt it))
def addK (L:List Int) (I:List ItemD) (it:ItemD):List ItemD:=bif canAdd L I it then addV digIt it I else I
theorem qB {P:Program} {f:FuncId} {args:Array Value} {X:World→Prop} {v:Value} {Φ:Value→(World→Prop)→Prop} (h:Pu P f args X v) (hi:∀ X',Φ v X'):Mk P f args X Φ:=by
 unfold Pu at h
 unfold Mk
 exact h.mono fun u R X' ⟨h1,h2⟩=>⟨h1▸hi X',h2⟩
theorem wg {I:List ItemD} {d:ByteArray}:(∃ x∈I,digIt x=d)→∃ (p:Nat) (x0:ItemD),I[p]?=some x0∧digIt x0=d∧∀ (j:Nat) (y:ItemD),j<p→I[j]?=some y→seqB (digIt y) d=false:=by
 induction I with
 | nil=>rintro ⟨x,hx,_⟩;cases hx
 | cons a I ih =>
  rintro ⟨x,hx,e⟩
  by_cases ha:digIt a=d
  · exact ⟨0,a,rfl,ha,fun j y hj=>absurd hj (Nat.not_lt_zero _)⟩
  · rcases List.mem_cons.1 hx with rfl|hx
    · exact absurd e ha
    · obtain ⟨p,x0,h1,h2,h3⟩:=ih ⟨x,hx,e⟩
      refine ⟨p+1,x0,h1,h2,fun j y hj hy=>?_⟩
      cases j with
      | zero =>
       obtain rfl:a=y:=by simpa using hy
       cases hs:seqB (digIt a) d with
       | false=>rfl
       | true=>exact absurd (seqB_iff.1 hs) ha
      | succ j=>exact h3 j y ae hy
theorem pq (ks ki:SlV) {L:List Int} {I:List ItemD} (h:KnR L I) (it:ItemD) (hit:it.act.Rng) (hdn:it.dec.to.n=it.dec.toL.length) :
  Mk Tryz.prog 18 #[.agg #[ks.v,ki.v],it.v] (fun w=>((Ints w ks L∧Items w ki I)∧it.at_ w)∧Glob w)
   (fun u X'=>∃ s:SlV,u=.tuple #[.agg #[ks.v,s.v],.bool (canAdd L I it)]∧∀ w,(Items w ki I∧X' w)→Items w s (addK L I it)):=by
 have hlen:=h.len
 cases hs:signedIt L it with
 | false =>
  have e:canAdd L I it=false:=by rw [canAdd,hs];rfl
  rw [addK,e]
  exact qB (zU ks ki L I it hdn hs) fun X'=>⟨ki,rfl,fun w h=>h.1⟩
 | true =>
  cases hn:I.any fun x=>seqB (digIt x) (digIt it) with
  | true =>
   have e:canAdd L I it=false:=by rw [canAdd,hs,hn];rfl
   rw [addK,e]
   obtain ⟨x,hx,hx2⟩:=List.any_eq_true.1 hn
   obtain ⟨p,x0,h1,h2,h3⟩:=wg ⟨x,hx,seqB_iff.1 hx2⟩
   exact qB (wA ks ki L I it h.rng h.dn hit hdn ae hs p x0 h1 h2 h3) fun X'=>⟨ki,rfl,fun w h=>h.1⟩
  | false =>
   have e:canAdd L I it=true:=by rw [canAdd,hs,hn];rfl
   rw [addK,e]
   have hri:rightIt it=true:=by
    rw [signedIt,ZM] at hs
    exact hs.1
   have hR:=dQ it
   have hS:=gC ks L it hdn
   rw [hri] at hR
   rw [hs] at hS
   exact tS (Cf (fun w=>Ints w ks L) ks ki I it rightIt digIt hR hS (dF it hit hdn) (fun x hx=>dF x (h.rng x hx) (h.dn x hx)) ae fun x hx=>by
    cases hb:seqB (digIt x) (digIt it) with
    | false=>rfl
    | true=>exact absurd (List.any_eq_true.2 ⟨x,hx,hb⟩) (by rw [hn];decide)) fun u X' ⟨s,h1,h2⟩=>⟨s,h1,fun w h=>h2 w h.2⟩
end Go.Proofs.YtcdilibijnboeaaGreatDoor
