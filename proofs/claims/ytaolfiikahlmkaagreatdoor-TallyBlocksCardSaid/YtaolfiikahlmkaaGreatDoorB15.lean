/- Joined. -/
import Derived.Test.YtaolfiikahlmkaaGreatDoorB14
set_option linter.unusedVariables false
set_option linter.unusedSimpArgs false
set_option maxHeartbeats 16000000
namespace Go.Proofs.YtaolfiikahlmkaaGreatDoor
open Go Go.Proofs Sy Tryz
theorem FN (ks ki:Xk) (L:List Int) (I:List Xc) (it:Xc) (hdn:it.dec.to.n=it.dec.toL.length) (hs:signedIt L it=false) :
  Pu prog 35 #[.agg #[ks.v,ki.v],it.v] (fun w=>((Ints w ks L∧Items w ki I)∧it.at_ w)∧Xe w) (.tuple #[.agg #[ks.v,ki.v],.bool false]):=by
 refine ax func35 ntmps35 fun av bor w0=>?_
 have hR:=dE it
 have hS:=ik ks L it hdn
 rw [hs] at hS
 repeat' (first|(refine ae (hc:=hR) (hX:=fun w h=>h.1.2) ?_)|(refine ae (hc:=hS) (hX:=fun w h=>⟨⟨h.1.1.1,h.1.2⟩,h.2⟩) ?_)|refine gs ?_|refine gs1 fun _=>?_|(refine gp ?_ ?_<;>intro hx_ this)|fail)
 all_goals first
  | exact ab (dc rfl rfl rfl aM (by rfl)) rfl
structure DupI (p:Nat) where
 k:Nat
 hk:k≤p
 at0:Int
theorem BN (ks ki:Xk) (L:List Int) (I:List Xc) (it:Xc) (hr:∀ i∈I,i.act.Rng) (hd:∀ i∈I,i.dec.to.n=i.dec.toL.length) (hit:it.act.Rng) (hdn:it.dec.to.n=it.dec.toL.length) (hI:I.length≤1000) (hs:signedIt L it=true)
  (p:Nat) (x0:Xc) (hp:I[p]?=some x0) (he:digIt x0=digIt it) (hno:∀ (j:Nat) (y:Xc),j<p→I[j]?=some y→seqB (digIt y) (digIt it)=false) :
  Pu prog 35 #[.agg #[ks.v,ki.v],it.v] (fun w=>((Ints w ks L∧Items w ki I)∧it.at_ w)∧Xe w) (.tuple #[.agg #[ks.v,ki.v],.bool false]):=by
 refine ax func35 ntmps35 fun av bor w0=>?_
 have hR:=dE it
 have hS:=ik ks L it hdn
 rw [hs] at hS
 have hri:rightIt it=true:=by
  rw [signedIt,Zq] at hs
  exact hs.1
 rw [hri] at hR
 have hD0:=dq it hit hdn
 have hD:=fun x (hx:x∈I)=>dq x (hr x hx) (hd x hx)
 have hplt:=(QI.1 hp).1
 refine aQ (p:=ki.n=I.length∧ki.n≤maxLen∧(0<I.length→ki.p.isSome=true)) (fun w h=>⟨h.1.1.2.len_,h.1.1.2.max_,h.1.1.2.some_⟩) fun ⟨hkn,hkm,hkp⟩=>?_
 simp only [maxLen] at hkm
 have hkp':=hkp aa
 generalize digIt it=d at *
 clear hs hri hr hd hit hdn
 repeat' (first|(refine ae (hc:=hR) (hX:=fun w h=>h.1.2) ?_)|(refine ae (hc:=hS) (hX:=fun w h=>⟨⟨h.1.1.1,h.1.2⟩,h.2⟩) ?_)|(refine ae (hc:=hD0) (hX:=fun w h=>⟨h.1.2,h.2⟩) ?_)|refine gs ?_|refine gs1 fun _=>?_|fail)
 rename_i b2 b3 b4
 refine aq (ι:=DupI p) (fun i=>⟨[(2,.pointer (some ⟨b2,0,none⟩)),(3,.pointer (some ⟨b3,0,none⟩)),(4,.pointer (some ⟨b4,0,none⟩)),(6,.string d),(7,.int .i64 i.at0),(29,ki.v),(30,.int .i64 (ki.n:Nat)),(31,.int .i64 (i.k:Nat))],[cel b4 25 [.slice none 0 0,.slice none 0 0],cel b3 60 it.cells,cel b2 25 [ks.v,ki.v]],fun w=>((Ints w ks L∧Items w ki I)∧it.at_ w)∧Xe w⟩) (fun i=>p-i.k) ⟨0,Z2 _,(ki.n:Nat)⟩ (ai am (ak _) fun _ h=>h) fun i=>?_
 obtain ⟨k,hk,at0⟩:=i
 simp only
 obtain ⟨x,hx⟩:∃ x,I[k]?=some x:=⟨_,Zc aa⟩
 have hxm:=Z4 hx
 have hDx:=hD x hxm
 by_cases hkp2:k=p
 · obtain rfl:x=x0:=by rw [hkp2,hp] at hx;exact (Option.some.inj hx).symm
   rw [he] at hDx
   have hdd:seqB d d=true:=bP _
   repeat' (first|refine aT ?_ (bZ true rfl rfl (Ze aa))|refine aT ?_ (cJ true rfl rfl hdd)|(refine ae (hc:=hDx) (hX:=fun w h=>⟨h.1.1.2.2 x hxm,h.2⟩) ?_)|refine gs ?_|refine gs1 fun _=>?_|(refine aD (q:=k*49) ?_)|(refine aN (cs:=x.cells) (hF:=fun w h=>h.1.1.2.get hx) ?_)|fail)
   all_goals first
    | exact ab (dc rfl rfl rfl aM (by rfl)) rfl
 · have hne:=hno k x aa hx
   cases hg:gtB (digIt x) d
   all_goals
    repeat' (first|refine aT ?_ (bZ true rfl rfl (Ze aa))|refine aT ?_ (cJ false rfl rfl hne)|refine aT ?_ (mA _ rfl rfl hg)|(refine ae (hc:=hDx) (hX:=fun w h=>⟨h.1.1.2.2 x hxm,h.2⟩) ?_)|refine gs ?_|refine gs1 fun _=>?_|(refine aD (q:=k*49) ?_)|(refine aN (cs:=x.cells) (hF:=fun w h=>h.1.1.2.get hx) ?_)|(refine gp ?_ ?_<;>intro hx_ this)|fail)
   all_goals first
    | exact ⟨(⟨k+1,by omega,at0⟩:DupI p),(by show p-(k+1)<p-k;omega),ai am (.cons _ (ak _)) fun _ h=>h⟩
    | exact ⟨(⟨k+1,by omega,(k:Nat)⟩:DupI p),(by show p-(k+1)<p-k;omega),ai am (.cons _ (ak _)) fun _ h=>h⟩
def canAdd (L:List Int) (I:List Xc) (it:Xc):Bool:=signedIt L it&&!(I.any fun x=>seqB (digIt x) (digIt it))
def addK (L:List Int) (I:List Xc) (it:Xc):List Xc:=bif canAdd L I it then addV digIt it I else I
theorem uy {P:Program} {f:FuncId} {args:Array Value} {X:World→Prop} {v:Value} {Φ:Value→(World→Prop)→Prop} (h:Pu P f args X v) (hi:∀ X',Φ v X'):Mk P f args X Φ:=by
 unfold Pu at h
 unfold Mk
 exact h.mono fun u R X' ⟨h1,h2⟩=>⟨h1▸hi X',h2⟩
theorem Bw {I:List Xc} {d:ByteArray}:(∃ x∈I,digIt x=d)→∃ (p:Nat) (x0:Xc),I[p]?=some x0∧digIt x0=d∧∀ (j:Nat) (y:Xc),j<p→I[j]?=some y→seqB (digIt y) d=false:=by
 induction I with
 | nil=>rintro ⟨x,hx,_⟩;cases hx
 | cons a I ih =>
  rintro ⟨x,hx,e⟩
  by_cases ha:digIt a=d
  · exact ⟨0,a,rfl,ha,fun j y hj=>absurd hj (Nat.not_lt_zero _)⟩
  · rcases ZH.1 hx with rfl|hx
    · exact absurd e ha
    · obtain ⟨p,x0,h1,h2,h3⟩:=ih ⟨x,hx,e⟩
      refine ⟨p+1,x0,h1,h2,fun j y hj hy=>?_⟩
      cases j with
      | zero =>
       obtain rfl:a=y:=by simpa using hy
       cases hs:seqB (digIt a) d with
       | false=>rfl
       | true=>exact absurd (seqB_iff.1 hs) ha
      | succ j=>exact h3 j y aa hy
theorem Is (ks ki:Xk) {L:List Int} {I:List Xc} (h:KnR L I) (it:Xc) (hit:it.act.Rng) (hdn:it.dec.to.n=it.dec.toL.length) :
  Mk prog 35 #[.agg #[ks.v,ki.v],it.v] (fun w=>((Ints w ks L∧Items w ki I)∧it.at_ w)∧Xe w)
   (fun u X'=>∃ s:Xk,u=.tuple #[.agg #[ks.v,s.v],.bool (canAdd L I it)]∧∀ w,(Items w ki I∧X' w)→Items w s (addK L I it)):=by
 have hlen:=h.len
 cases hs:signedIt L it with
 | false =>
  have e:canAdd L I it=false:=by rw [canAdd,hs];rfl
  rw [addK,e]
  exact uy (FN ks ki L I it hdn hs) fun X'=>⟨ki,rfl,fun w h=>h.1⟩
 | true =>
  cases hn:I.any fun x=>seqB (digIt x) (digIt it) with
  | true =>
   have e:canAdd L I it=false:=by rw [canAdd,hs,hn];rfl
   rw [addK,e]
   obtain ⟨x,hx,hx2⟩:=List.any_eq_true.1 hn
   obtain ⟨p,x0,h1,h2,h3⟩:=Bw ⟨x,hx,seqB_iff.1 hx2⟩
   exact uy (BN ks ki L I it h.rng h.dn hit hdn aa hs p x0 h1 h2 h3) fun X'=>⟨ki,rfl,fun w h=>h.1⟩
  | false =>
   have e:canAdd L I it=true:=by rw [canAdd,hs,hn];rfl
   rw [addK,e]
   have hri:rightIt it=true:=by
    rw [signedIt,Zq] at hs
    exact hs.1
   have hR:=dE it
   have hS:=ik ks L it hdn
   rw [hri] at hR
   rw [hs] at hS
   exact j7 (Iq (fun w=>Ints w ks L) ks ki I it rightIt digIt hR hS (dq it hit hdn) (fun x hx=>dq x (h.rng x hx) (h.dn x hx)) aa fun x hx=>by
    cases hb:seqB (digIt x) (digIt it) with
    | false=>rfl
    | true=>exact absurd (List.any_eq_true.2 ⟨x,hx,hb⟩) (by rw [hn];decide)) fun u X' ⟨s,h1,h2⟩=>⟨s,h1,fun w h=>h2 w h.2⟩
theorem E0 {a b:ByteArray} (h:gtB a b=true):ltB b a=true:=by
 rw [gtB,Bool.not_eq_true',Qj] at h
 cases hh:ltB b a with
 | true=>rfl
 | false =>
  have:=ll (a:=a) (b:=b) h.1 hh
  rw [this,bP] at h
  exact absurd h.2 (by decide)
theorem Be {a b:ByteArray} (h:gtB a b=false) (hn:a≠b):ltB a b=true:=by
 rw [gtB,Bool.not_eq_false',Bool.or_eq_true] at h
 rcases h with h|h
 · exact h
 · exact absurd (seqB_iff.1 h) hn
theorem jd (dI:Xc→ByteArray) (it:Xc) (I:List Xc):(addV dI it I).Perm (it::I):=by
 rw [addV]
 refine List.perm_middle.trans ?_
 rw [Qq]
theorem me (dI:Xc→ByteArray) {it:Xc} (I:List Xc) {q:Xc→Bool} (h:q it=false):(addV dI it I).filter q=I.filter q:=by
 rw [addV,Qt,List.filter_cons_of_neg (by rw [h];decide),←Qt,Qq]
theorem FM (dI:Xc→ByteArray) (it:Xc) (I:List Xc) (h:Asc (I.map dI)) (hn:∀ x∈I,dI x≠dI it):Asc ((addV dI it I).map dI):=by
 obtain ⟨p,hp⟩:∃ p,addAt dI (dI it) I I.length=p:=⟨_,rfl⟩
 have hlow:∀ (j:Nat) (x:Xc),j<p→I[j]?=some x→ltB (dI x) (dI it)=true:=fun j x hj hx=>by
  refine Be ?_ (hn x (Z4 hx))
  rw [addAt,Qf] at hp
  obtain ⟨hlt,e⟩:=QI.1 hx
  cases hf:I.findIdx? fun x=>gtB (dI x) (dI it) with
  | none =>
   have:=List.findIdx?_eq_none_iff.1 hf x (Z4 hx)
   exact this
  | some q =>
   rw [hf] at hp
   obtain ⟨h1,h2,h3⟩:=QB.1 hf
   have:=h3 j (by rw [Qc] at hp;omega)
   rw [e] at this
   simpa using this
 have hhigh:∀ (j:Nat) (x:Xc),p≤j→I[j]?=some x→ltB (dI it) (dI x)=true:=fun j x hj hx=>by
  rw [addAt,Qf] at hp
  obtain ⟨hlt,e⟩:=QI.1 hx
  cases hf:I.findIdx? fun x=>gtB (dI x) (dI it) with
  | none =>
   rw [hf,Option.getD_none] at hp
   omega
  | some q =>
   rw [hf,Qc] at hp
   subst hp
   obtain ⟨h1,h2,h3⟩:=QB.1 hf
   have h4:=E0 h2
   rcases Nat.lt_or_eq_of_le hj with h5|h5
   · exact fK h4 (mK h h5 (by rw [Z5,Zc h1];rfl) (by rw [Z5,hx];rfl))
   · subst h5
     rw [e] at h4
     exact h4
 rw [addV,hp,ZU,ZZ]
 refine List.pairwise_append.2 ⟨mJ h ((List.take_sublist _ _).map dI),List.pairwise_cons.2 ⟨fun y hy=>?_,mJ h ((List.drop_sublist _ _).map dI)⟩,fun x hx y hy=>?_⟩
 · obtain ⟨z,hz,rfl⟩:=QH.1 hy
   obtain ⟨j,hj⟩:=QN.1 hz
   rw [List.getElem?_drop] at hj
   exact hhigh _ z aa hj
 · obtain ⟨z,hz,rfl⟩:=QH.1 hx
   obtain ⟨j,hj⟩:=QN.1 hz
   rw [QF] at hj
   split at hj
   · rename_i hjp
     have h1:=hlow j z hjp hj
     rcases ZH.1 hy with rfl|hy
     · exact h1
     · obtain ⟨u,hu,rfl⟩:=QH.1 hy
       obtain ⟨k,hk⟩:=QN.1 hu
       rw [List.getElem?_drop] at hk
       exact fK h1 (hhigh _ u aa hk)
   · cases hj
theorem pi {L:List Int} {I:List Xc} {it:Xc} (h:canAdd L I it=true):signedIt L it=true∧rightIt it=true∧∀ x∈I,digIt x≠digIt it:=by
 rw [canAdd,Zq,Bool.not_eq_true'] at h
 refine ⟨h.1,?_,fun x hx e=>?_⟩
 · have h1:=h.1
   rw [signedIt,Zq] at h1
   exact h1.1
 · rw [List.any_eq_true.2 ⟨x,hx,seqB_iff.2 e⟩] at h
   exact absurd h.2 (by decide)
theorem uK {L:List Int} {I:List Xc} (h:KnR L I) {it:Xc} (hit:it.act.Rng) (hsm:it.act.Sm) (hdn:it.dec.to.n=it.dec.toL.length) (hl:I.length<100):KnR L (addK L I it):=by
 rw [addK]
 cases hc:canAdd L I it with
 | false=>exact h
 | true =>
  obtain ⟨h1,h2,h3⟩:=pi hc
  have hp:=jd digIt it I
  have hm:∀ i∈addV digIt it I,i=it∨i∈I:=fun i hi=>ZH.1 (hp.subset hi)
  show KnR L (addV digIt it I)
  refine ⟨h.sv,by rw [hp.length_eq,ZA];omega,fun i hi=>?_,fun i hi=>?_,fun i hi=>?_,fun i hi=>?_,FM digIt it I h.asc h3⟩
  · rcases hm i hi with rfl|hi
    · exact hit
    · exact h.rng i hi
  · rcases hm i hi with rfl|hi
    · exact hsm
    · exact h.sm i hi
  · rcases hm i hi with rfl|hi
    · exact hdn
    · exact h.dn i hi
  · rcases hm i hi with rfl|hi
    · exact h2
    · exact h.right i hi
theorem ur (n:Nat) (I:List Xc) (au:ByteArray) {it:Xc} (hk:it.kind=0):OfWK n (addV digIt it I) au=OfWK n I au:=by
 have h1:claimsV (addV digIt it I) au=claimsV I au:=by
  rw [claimsV,claimsV,selC,selC,me]
  rw [selBC,wantC,hk]
  rfl
 have h2:∀ g,selB2 au g rightIt (addV digIt it I)=selB2 au g rightIt I:=fun g=>by
  rw [selB2,selB2,me]
  rw [selBB,wantB,hk]
  rfl
 have h3:∀ g,wonK n (addV digIt it I) au g=wonK n I au g:=fun g=>by rw [wonK,wonK,h1,h2]
 have h4:genB n (addV digIt it I) au=genB n I au:=by
  rw [genB,genB,h1]
  congr 1
  funext g
  exact h3 g
 rw [OfWK,OfWK,h4]
 congr 1
 funext g
 rw [h3]
theorem tv {I:List Xc} {au:ByteArray} {it:Xc}:(selA au rightIt (addV digIt it I)).Perm (bif selB au rightIt it then it.act::selA au rightIt I else selA au rightIt I):=by
 have h:=((jd digIt it I).filter (selB au rightIt)).map Xc.act
 cases hs:selB au rightIt it with
 | true =>
  rw [List.filter_cons_of_pos hs,ZZ] at h
  exact h
 | false =>
  rw [List.filter_cons_of_neg (by rw [hs];decide)] at h
  exact h
def lastK (kl:List Xm):Int:=(kl.getD (kl.length-1) Xm.zero).public_
theorem wk {L:List Int} {I I':List Xc} {au:ByteArray} {c n:Xb} {kl kl':List Xm} (hW:OfWK L.length I' au=OfWK L.length I au) (hA:(selA au rightIt I').Perm (selA au rightIt I)) (q:QK L I au c kl) (q':QK L I' au n kl'):SameC n c∧kl'=kl:=by
 obtain ⟨A,sa,sk,st,f,p,r,rfl,rfl⟩:=q
 obtain ⟨A',sa',sk',st',f',p',r',rfl,rfl⟩:=q'
 rw [hW] at r'
 have r2:=ow (OfWK L.length I au) ((p'.trans hA).trans p.symm) r'
 obtain ⟨rfl,rfl⟩:=AS r2 r
 exact ⟨⟨rfl,rfl,rfl,rfl,rfl⟩,rfl⟩
theorem DH {L:List Int} {I:List Xc} {it:Xc} {au:ByteArray} {c n:Xb} {kl kl':List Xm} (hk:it.kind=0) (hs:selB au rightIt it=false) (q:QK L I au c kl) (q':QK L (addV digIt it I) au n kl'):SameC n c∧kl'=kl :=
 wk (ur _ I au hk) (by have:=tv (I:=I) (au:=au) (it:=it);rw [hs] at this;exact this) q q'
theorem Kf {n:Nat} {I:List Xc} {au:ByteArray}:∀ g c,(OfWK n I au).won g=some c→g<(OfWK n I au).B:=fun g c hw=>(fe hw).1
theorem Ew {W:Ef} {st:Ec} {f:Bool} (r:OfRes W st f) (h:0<st.acts.length):∃ b,oneA (firstL W)=some b∧st=finS W b:=by
 rw [OfRes] at r
 cases ho:oneA (firstL W) with
 | none =>
  rw [ho] at r
  rw [r.1] at h
  exact absurd h (by decide)
 | some b =>
  rw [ho] at r
  exact ⟨b,rfl,r.1⟩
theorem Hl {L:List Int} {I:List Xc} (h:KnR L I) {it:Xc} {au:ByteArray} {c n:Xb} {kl kl':List Xm} (hk:it.kind=0) (hs:selB au rightIt it=true) (q:QK L I au c kl) (q':QK L (addV digIt it I) au n kl')
  (h0:0<c.actsL.length) (h1:it.act.seq=(c.actsL.length:Int)) (h2:it.act.prev=c.prev) (hcn:c.acts.n=c.actsL.length) :
  bif !c.fork&&(fitsV c it.act (idxV c.actsL it.act.object)&&verV (lastK kl) it.act) then
   c.fork=false∧n.id=c.id∧∃ M K,n.actsL=c.actsL++it.act::M∧kl'=(kl++bif decide (it.act.kind=18) then [⟨((c.actsL.length+1:Nat):Int),it.act.n,it.act.m⟩] else [])++K∧(∀ k∈K,(c.actsL.length:Int)+1≤k.from_) ∧
    (M=[]→n.gen=c.gen→K=[]∧n.prev=digV it.act)
  else SameC n c∧kl'=kl:=by
 obtain ⟨A,sa,sk,st,f,p,r,rfl,rfl⟩:=q
 obtain ⟨A',sa',sk',st',f',p',r',rfl,rfl⟩:=q'
 rw [ur _ I au hk] at r'
 have hsel:=tv (I:=I) (au:=au) (it:=it)
 rw [hs,Zg] at hsel
 have r2:=ow (OfWK L.length I au) ((p'.trans hsel).trans (p.symm.cons it.act)) r'
 obtain ⟨b,hb,hst⟩:=Ew r h0
 have hx:=Ib (If h p) Kf hb r r2 h1 h2
 have hc:candB ((OfWK L.length I au).at A) st it.act=(fitsV (⟨au,sa,sk,st.prev,(st.gen:Nat),f,st.acts⟩:Xb) it.act (idxV st.acts it.act.object)&&verV (lastK st.keys) it.act):=by
  have e:fitsV (st.ch au) it.act (idxV st.acts it.act.object)=fitsV (⟨au,sa,sk,st.prev,(st.gen:Nat),f,st.acts⟩:Xb) it.act (idxV st.acts it.act.object):=lr rfl hcn.symm rfl rfl
  rw [←e]
  rfl
 rw [hc] at hx
 show bif !f&&(fitsV (⟨au,sa,sk,st.prev,(st.gen:Nat),f,st.acts⟩:Xb) it.act (idxV st.acts it.act.object)&&verV (lastK st.keys) it.act) then _ else _
 cases hb2:!f&&(fitsV (⟨au,sa,sk,st.prev,(st.gen:Nat),f,st.acts⟩:Xb) it.act (idxV st.acts it.act.object)&&verV (lastK st.keys) it.act) with
 | false =>
  rw [hb2,Zf] at hx
  obtain ⟨rfl,rfl⟩:=hx
  exact ⟨⟨rfl,rfl,rfl,rfl,rfl⟩,rfl⟩
 | true =>
  rw [hb2,Zg] at hx
  obtain ⟨hf,m,hm⟩:=hx
  obtain ⟨M,K,e1,e2,e3⟩:=xY (W:=(OfWK L.length I au).at (it.act::A)) m (addS st it.act)
  have el:((addS st it.act).acts.length:Int)=(st.acts.length:Int)+1:=by simp [addS]
  refine ⟨hf,rfl,M,K,?_,?_,fun k hk2=>?_,fun hM hg=>?_⟩
  · show st'.acts=_
    rw [hm,e1]
    simp [addS]
  · rw [hm,e2]
    congr 1
    show (bif decide (it.act.kind=18) then st.keys++[_] else st.keys)=_
    cases decide (it.act.kind=18)<;>simp
  · have:=e3 k hk2
    show (st.acts.length:Int)+1≤k.from_
    omega
  · have hgr:=jP (W:=(OfWK L.length I au).at (it.act::A)) m (addS st it.act)
    have hg2:st'.gen=st.gen:=by have:((st'.gen:Nat):Int)=(st.gen:Nat):=hg;omega
    have hg3:(addS st it.act).gen=st.gen:=rfl
    rw [hm] at hg2
    rw [hM,ZI] at e1
    have hfix:runS ((OfWK L.length I au).at (it.act::A)) m (addS st it.act)=addS st it.act:=by
     rcases hgr with hgr|hgr|⟨_,g,cc,g1,g2,_⟩
     · exact hgr
     · rw [e1] at hgr;omega
     · omega
    rw [hfix] at e2 hm
    refine ⟨?_,by rw [hm];rfl⟩
    have:=congrArg List.length e2
    rw [Zz] at this
    exact Z6 aa
def ItemTo (b:Xa) (u:Value) (X:World→Prop):Prop:=∃ s1 s2:Xk,u=(ofActI (b.re s1 s2)).v∧s1.n=b.to.n∧s2.n=b.wraps.n∧∀ w,X w→(b.re s1 s2).at_ w
set_option maxRecDepth 20000 in
theorem AT (a:Xa) (hr:a.Rng) (hs:a.Sm):Mk prog 19 #[a.v] (Xa.at_ · a) (ItemTo a):=by
 refine dm func19 ntmps19 fun av bor w0=>?_
 repeat' (first|refine gs ?_|refine gs1 fun _=>?_|fail)
 refine bF (hc:=iZ a.to (strs a.toL) hs.to (fun cs hcs=>by simp only [strs,QH] at hcs;obtain ⟨x,_,rfl⟩:=hcs;rfl)) fun v1 X1 h1=>?_
 obtain ⟨s1,rfl,hn1,hw1⟩:=h1
 repeat' (first|refine gs ?_|fail)
 refine bF (hc:=lB a.wraps (a.wrapsL.map Xy.cells) hs.wraps (fun cs hcs=>by simp only [QH] at hcs;obtain ⟨x,_,rfl⟩:=hcs;rfl)) (hX:=fun w h=>h.1.2) fun v2 X2 h2=>?_
 obtain ⟨s2,rfl,hn2,hw2⟩:=h2
 repeat' (first|refine gs ?_|(refine aG ?_)|fail)
 have e1:s1.n=a.to.n:=by rw [hn1,hr.to_len];simp [strs]
 have e2:s2.n=a.wraps.n:=by rw [hn2,hr.wraps_len];simp
 apply ab;refine bV rfl rfl aM ?_
 · rfl
 refine ⟨s1,s2,rfl,e1,e2,fun w h=>⟨?_,?_⟩⟩
 · exact hw1 w h.1.1.2
 · exact hw2 w h.1.2
theorem mE {a:Xa} (h:a.Rng) {s1 s2:Xk} (h1:s1.n=a.to.n) (h2:s2.n=a.wraps.n):(a.re s1 s2).Rng:=⟨h.ints,h.wints,h1.trans h.to_len,h2.trans h.wraps_len⟩
theorem vS {a:Xa} (h:a.Sm) {s1 s2:Xk} (h1:s1.n=a.to.n) (h2:s2.n=a.wraps.n):(a.re s1 s2).Sm:=⟨by show s1.n*16≤_;rw [h1];exact h.to,by show s2.n*64≤_;rw [h2];exact h.wraps,h.target⟩
theorem Bk (c:Xb) (a:Xa) (o:Option Nat) {s1 s2:Xk} (h1:s1.n=a.to.n) (h2:s2.n=a.wraps.n):fitsV c (a.re s1 s2) o=fitsV c a o:=by
 rw [fitsV,fitsV,oc h1 h2]
 rfl
def draftX (c:Xb) (x:Xa):Xa:={ x with author:=c.id,seq:=(c.acts.n:Int),prev:=c.prev }
theorem Dp {k:Ed} {a:Xa} (h:rightB (actSignV k a)=true):rightK k=true∧actSignV k a=a.sig (signV k (coreV (a.sig Eo.zero))):=by
 rw [actSignV] at h ⊢
 cases hb:rightB (a.sig Eo.zero)&&rightK k with
 | false =>
  rw [hb,Zf] at h
  exact absurd h (by decide +kernel)
 | true =>
  rw [Zq] at hb
  exact ⟨hb.2,rfl⟩
theorem ji {L:List Int} {I:List Xc} {au:ByteArray} {c:Xb} {kl:List Xm} (q:QK L I au c kl):c.id=au:=by
 obtain ⟨A,sa,sk,st,f,p,r,rfl,rfl⟩:=q
 rfl
theorem BK {L:List Int} {I:List Xc} {au:ByteArray} {c:Xb} {kl:List Xm} (q:QK L I au c kl) {k:Ed} {x:Xa} {s3 s4:Xk} (e3:s3.n=(actSignV k (draftX c x)).to.n) (e4:s4.n=(actSignV k (draftX c x)).wraps.n)
  (ha:canAdd L I (ofActI ((actSignV k (draftX c x)).re s3 s4))=true):rightK k=true∧rightB (actSignV k (draftX c x))=true∧actSignV k (draftX c x)=(draftX c x).sig (signV k (coreV ((draftX c x).sig Eo.zero)))∧selB au rightIt (ofActI ((actSignV k (draftX c x)).re s3 s4))=true:=by
 obtain ⟨h1,h2,h3⟩:=pi ha
 have hr:rightB (actSignV k (draftX c x))=true:=by
  have:=iq (i:=ofActI ((actSignV k (draftX c x)).re s3 s4)) rfl h2
  rw [←oc e3 e4]
  exact this
 obtain ⟨h4,h5⟩:=Dp hr
 refine ⟨h4,hr,h5,?_⟩
 rw [selB,h2,Zi,wantA]
 show (true&&seqB (actSignV k (draftX c x)).author au)=true
 rw [Zh,h5]
 show seqB c.id au=true
 rw [ji q]
 exact bP _
def viewC (l:List Xb) (id:ByteArray):Option (List Xa):=(findC l id).map fun c=>c.actsL.map Xa.can
def viewK (c:Xb):Option (List Xa):=bif decide (0<c.actsL.length) then some (c.actsL.map Xa.can) else none
theorem J6 (a:Xa):digV a.can=digV a:=wP rfl rfl
theorem In (l:List Xa) (i:Nat):(l.map Xa.can).getD i Xa.zero=(l.getD i Xa.zero).can:=by
 rw [Zp,Zp,Z5]
 cases l[i]?<;>rfl
theorem wT (l:List Xa) (d:ByteArray):idxV (l.map Xa.can) d=idxV l d:=by
 rw [idxV,idxV,List.findIdx?_map]
 exact congrArg (fun p=>l.findIdx? p) (funext fun a=>by
  show seqB (digV a.can) d=_
  rw [J6])
theorem m0 {c n:Xb} (h:SameC n c):viewK n=viewK c:=by
 have e:n.actsL.length=c.actsL.length:=by simpa using congrArg List.length h.acts.symm
 rw [viewK,viewK,e,h.acts]
theorem pV {c:Xb} (h:0<c.actsL.length):viewK c=some (c.actsL.map Xa.can):=by rw [viewK,Ze h];rfl
def AllK (L:List Int) (I:List Xc) (l:List Xb):Prop:=∃ M:List ChK,Es (fun id p=>QK L I id p.1 p.2) (compB (sortB (authI I))) M∧l=(M.filter neK).map Prod.fst
theorem vC (c:Xb) (l:List Xb) (id:ByteArray):viewC (c::l) id=bif seqB c.id id then some (c.actsL.map Xa.can) else viewC l id:=by
 rw [viewC,findC,List.find?_cons]
 cases seqB c.id id<;>rfl
theorem sS {L:List Int} {I:List Xc}:∀ {ids:List ByteArray} {M:List ChK},Es (fun id p=>QK L I id p.1 p.2) ids M→ids.Nodup →
  (∀ id c kl,id∈ids→QK L I id c kl→viewC ((M.filter neK).map Prod.fst) id=viewK c)∧∀ id,id∉ids→viewC ((M.filter neK).map Prod.fst) id=none:=by
 intro ids M h
 induction h with
 | nil=>exact fun _=>⟨fun id c kl hi=>absurd hi (by simp),fun id _=>rfl⟩
 | @cons a p ids M hp _ ih =>
  intro hn
  obtain ⟨hn1,hn2⟩:=List.nodup_cons.1 hn
  obtain ⟨ih1,ih2⟩:=ih hn2
  have hpa:p.1.id=a:=ji hp
  have hstep:∀ id,viewC (((p::M).filter neK).map Prod.fst) id=bif neK p&&seqB a id then some (p.1.actsL.map Xa.can) else viewC ((M.filter neK).map Prod.fst) id:=fun id=>by
   rw [List.filter_cons]
   cases neK p with
   | true =>
    show viewC (p.1::(M.filter neK).map Prod.fst) id=_
    rw [vC,hpa,Zh]
   | false=>rfl
  refine ⟨fun id c kl hi q=>?_,fun id hi=>?_⟩
  · rw [hstep]
    by_cases e:a=id
    · subst e
      have hs:=m0 (wk rfl (Ql _) q hp).1
      rw [bP,Zi,←hs,viewK]
      show (bif decide (0<p.1.actsL.length) then _ else _)=_
      cases decide (0<p.1.actsL.length) with
      | true=>rfl
      | false=>exact ih2 a hn1
    · have hne:seqB a id=false:=by
       cases hb:seqB a id with
       | false=>rfl
       | true=>exact absurd (seqB_iff.1 hb) e
      rw [hne,Zl]
      rcases ZH.1 hi with rfl|hi
      · exact absurd rfl e
      · exact ih1 id c kl hi q
  · rw [hstep]
    have hne:seqB a id=false:=by
     cases hb:seqB a id with
     | false=>rfl
     | true=>exact absurd (by rw [seqB_iff.1 hb];exact ao) hi
    rw [hne,Zl]
    exact ih2 id fun h=>hi (Zu _ h)
theorem lp (I:List Xc):(compB (sortB (authI I))).Nodup:=(my _).imp fun h e=>by subst e;rw [dk] at h;cases h
theorem mem_ids {I:List Xc} {id:ByteArray}:id∈compB (sortB (authI I))↔id∈authI I:=mv
theorem BJ {L:List Int} {I:List Xc} {l:List Xb} (h:AllK L I l) {id:ByteArray} {c:Xb} (hf:findC l id=some c):∃ kl,QK L I id c kl∧0<c.actsL.length∧id∈authI I:=by
 obtain ⟨M,hM,rfl⟩:=h
 have h1:seqB c.id id=true:=List.find?_some (p:=fun c:Xb=>seqB c.id id) hf
 replace h1:=seqB_iff.1 h1
 obtain ⟨p,hp,rfl⟩:=QH.1 (Qx hf)
 obtain ⟨hp1,hp2⟩:=QL.1 hp
 obtain ⟨a,ha,q⟩:=hM.right p hp1
 have e:a=id:=(ji q).symm.trans h1
 subst e
 exact ⟨p.2,q,bA hp2,mem_ids.1 ha⟩
theorem gO {L:List Int} {I:List Xc} {l:List Xb} (h:AllK L I l) {id:ByteArray} (hi:id∈authI I) {c:Xb} {kl:List Xm} (q:QK L I id c kl):viewC l id=viewK c:=by
 obtain ⟨M,hM,rfl⟩:=h
 exact (sS hM (lp I)).1 id c kl (mem_ids.2 hi) q
theorem mL {L:List Int} {I:List Xc} {l:List Xb} (h:AllK L I l) {id:ByteArray} (hi:id∉authI I):viewC l id=none:=by
 obtain ⟨M,hM,rfl⟩:=h
 exact (sS hM (lp I)).2 id fun h=>hi (mem_ids.1 h)
theorem Es.leftQ {α β:Type} {R:α→β→Prop} {l:List α} {m:List β} (h:Es R l m):∀ a∈l,∃ b∈m,R a b:=by
 induction h with
 | nil=>exact fun a ha=>absurd ha (by simp)
 | cons h1 _ ih =>
  intro a ha
  rcases ZH.1 ha with rfl|ha
  · exact ⟨_,ao,h1⟩
  · obtain ⟨b,hb,r⟩:=ih a ha
    exact ⟨b,Zu _ hb,r⟩
theorem sG {L:List Int} {I:List Xc} {l:List Xb} (h:AllK L I l) {id:ByteArray} (hi:id∈authI I):∃ c kl,QK L I id c kl:=by
 obtain ⟨M,hM,rfl⟩:=h
 obtain ⟨p,_,q⟩:=Es.leftQ hM id (mem_ids.2 hi)
 exact ⟨_,_,q⟩
theorem pr {I:List Xc} {it:Xc} (hk:it.kind=0) {id:ByteArray}:id∈authI (addV digIt it I)↔id=it.act.author∨id∈authI I:=by
 have h:=((jd digIt it I).filter fun i=>decide (i.kind=0)).map fun i=>i.act.author
 rw [List.filter_cons_of_pos (p:=fun i:Xc=>decide (i.kind=0)) (Ze hk),ZZ] at h
 exact h.mem_iff.trans ZH
theorem FI {L:List Int} {I:List Xc} {it:Xc} (hk:it.kind=0) {l l':List Xb} (h:AllK L I l) (h':AllK L (addK L I it) l') {id:ByteArray} (hi:id≠it.act.author):viewC l' id=viewC l id:=by
 rw [addK] at h'
 cases hc:canAdd L I it with
 | false =>
  rw [hc,Zf] at h'
  by_cases hm:id∈authI I
  · obtain ⟨c,kl,q⟩:=sG h hm
    rw [gO h hm q,gO h' hm q]
  · rw [mL h hm,mL h' hm]
 | true =>
  rw [hc,Zg] at h'
  have hm':id∈authI (addV digIt it I)↔id∈authI I:=by rw [pr hk];exact ⟨fun h=>h.resolve_left hi,.inr⟩
  by_cases hm:id∈authI I
  · obtain ⟨c,kl,q⟩:=sG h hm
    obtain ⟨c',kl',q'⟩:=sG h' (hm'.2 hm)
    have hs:selB id rightIt it=false:=by
     have hne:seqB it.act.author id=false:=by
      cases hb:seqB it.act.author id with
      | false=>rfl
      | true=>exact absurd (seqB_iff.1 hb).symm hi
     rw [selB,wantA,hne,Zl,Zk]
    rw [gO h hm q,gO h' (hm'.2 hm) q',m0 (DH hk hs q q').1]
  · rw [mL h hm,mL h' fun h=>hm (hm'.1 h)]
theorem lE {L:List Int} {I:List Xc} {it:Xc} (hk:it.kind=0) {id:ByteArray} (h:id∈authI I):id∈authI (addK L I it):=by
 rw [addK]
 cases canAdd L I it with
 | false=>exact h
 | true=>exact (pr hk).2 (.inr h)
structure SignD (L:List Int) (I:List Xc) (c n:Xb) (k:Ed) (x b:Xa):Prop where
 right:rightB b=true
 sig:b=(draftX c x).sig (signV k (coreV ((draftX c x).sig Eo.zero)))
 fits:fitsV c b (idxV c.actsL b.object)=true
 acts:n.actsL.map Xa.can=c.actsL.map Xa.can++[b.can]
 len:n.actsL.length=c.actsL.length+1
theorem vT {L:List Int} {I:List Xc} (h:KnR L I) {au:ByteArray} {c n:Xb} {kl kl':List Xm} (q:QK L I au c kl) (h0:0<c.actsL.length) (hcn:c.acts.n=c.actsL.length) {k:Ed} {x:Xa} {s3 s4:Xk}
  (e3:s3.n=(actSignV k (draftX c x)).to.n) (e4:s4.n=(actSignV k (draftX c x)).wraps.n) (q':QK L (addK L I (ofActI ((actSignV k (draftX c x)).re s3 s4))) au n kl') (hl:n.actsL.length=c.actsL.length+1) :
  SignD L I c n k x (actSignV k (draftX c x))∧canAdd L I (ofActI ((actSignV k (draftX c x)).re s3 s4))=true:=by
 cases ha:canAdd L I (ofActI ((actSignV k (draftX c x)).re s3 s4)) with
 | false =>
  rw [addK,ha] at q'
  have:=congrArg List.length (wk rfl (Ql _) q q').1.acts
  simp at this
  omega
 | true =>
  obtain ⟨g1,g2,g3,g4⟩:=BK q e3 e4 ha
  rw [addK,ha] at q'
  have h1:(actSignV k (draftX c x)).seq=(c.actsL.length:Int):=by rw [g3,←hcn];rfl
  have h2:(actSignV k (draftX c x)).prev=c.prev:=by rw [g3];rfl
  have hx:=Hl h (it:=ofActI ((actSignV k (draftX c x)).re s3 s4)) rfl g4 q q' h0 h1 h2 hcn
  have hf2:fitsV c (ofActI ((actSignV k (draftX c x)).re s3 s4)).act (idxV c.actsL (ofActI ((actSignV k (draftX c x)).re s3 s4)).act.object)=fitsV c (actSignV k (draftX c x)) (idxV c.actsL (actSignV k (draftX c x)).object):=by
   rw [show (ofActI ((actSignV k (draftX c x)).re s3 s4)).act=(actSignV k (draftX c x)).re s3 s4 from rfl,Bk c _ _ e3 e4]
   rfl
  cases hb:!c.fork&&(fitsV c (ofActI ((actSignV k (draftX c x)).re s3 s4)).act (idxV c.actsL (ofActI ((actSignV k (draftX c x)).re s3 s4)).act.object)&&verV (lastK kl) (ofActI ((actSignV k (draftX c x)).re s3 s4)).act) with
  | false =>
   rw [hb,Zf] at hx
   have:=congrArg List.length hx.1.acts
   simp at this
   omega
  | true =>
   rw [hb,Zg] at hx
   obtain ⟨_,x2,M,K,x3,x4,x5,x6⟩:=hx
   have hM:M=[]:=by
    refine Z6 ?_
    have:=congrArg List.length x3
    simp at this
    omega
   subst hM
   rw [Zq,Zq,hf2] at hb
   refine ⟨⟨g2,g3,hb.2.1,?_,hl⟩,rfl⟩
   rw [x3,ZU]
   show _++[((actSignV k (draftX c x)).re s3 s4).can]=_
   rw [J7 _ e3 e4]
theorem kE {L:List Int} {I:List Xc} (h:KnR L I) {l:List Xb} (hl:AllK L I l):∀ c∈l,Xw c.actsL∧c.actsL.length≤100:=by
 obtain ⟨M,hM,rfl⟩:=hl
 intro c hc
 obtain ⟨p,hp,rfl⟩:=QH.1 hc
 obtain ⟨a,_,q⟩:=hM.right p (QL.1 hp).1
 exact ⟨(fY h q).ok,(fY h q).len⟩
theorem BI {L:List Int} {I:List Xc} {it:Xc} (hk:it.kind=0) {l':List Xb} (h':AllK L (addK L I it) l') {id:ByteArray} (hi:id∈authI I) {n:Xb} {kl':List Xm} (q':QK L (addK L I it) id n kl') (h0:0<n.actsL.length) :
  viewC l' id=some (n.actsL.map Xa.can):=by
 rw [gO h' (lE hk hi) q',pV h0]
theorem tY {P:Program} {fn:Func} {N t u r ty ty2 n n2:Nat} {s:St} {b b2 T T2:Nat} {cs cs2:List Value} {x:Value} [hI:Xu P ty n] [hI2:Xu P ty2 n2] (hr:fn.results=#[.cell t ty,.cell u ty2,.tmp r]) (h:Sy.look s.env t=some (.pointer (some ⟨b,0,none⟩))) (h':Sy.look s.env u=some (.pointer (some ⟨b2,0,none⟩))) (h'':Sy.look s.env r=some x) (hm:cel b T cs∈s.loc) (hn:cs.length=n) (hm2:cel b2 T2 cs2∈s.loc) (hn2:cs2.length=n2) :
  Res1 P fn N s (.tuple #[.agg cs.toArray,.agg cs2.toArray,x]):=fun av bor w0 a w ok=>by
 obtain ⟨D,h1,h2,h3⟩:=cR hI.out
 obtain ⟨D2,g1,g2,g3⟩:=cR hI2.out
 have ht:=ok.env t _ h
 have hu:=ok.env u _ h'
 have hx:=ok.env r _ h''
 have l1:(loadVar ty ⟨b,0,none⟩).run P w=.ok (.agg cs.toArray) w:=by
  cases D<;>simp at h2
  · exact run_loadVar_row w b T ty cs.toArray (0,0) _ (eU ok hm) h1 rfl (by rw [h3];simp [hn])
  · exact run_loadVar_row w b T ty cs.toArray (0,0) _ (eU ok hm) h1 rfl (by rw [h3];simp [hn])
 have l2:(loadVar ty2 ⟨b2,0,none⟩).run P w=.ok (.agg cs2.toArray) w:=by
  cases D2<;>simp at g2
  · exact run_loadVar_row w b2 T2 ty2 cs2.toArray (0,0) _ (eU ok hm2) g1 rfl (by rw [g3];simp [hn2])
  · exact run_loadVar_row w b2 T2 ty2 cs2.toArray (0,0) _ (eU ok hm2) g1 rfl (by rw [g3];simp [hn2])
 simp [results,hr,ht,hu,hx,asAddr,l1,l2]
theorem sF (ks ki:Xk) {L:List Int} {I:List Xc} (h:KnR L I) :
  Mk prog 11 #[.agg #[ks.v,ki.v]] (fun w=>(Ints w ks L∧Items w ki I)∧Xe w) (fun u X=>∃ (s:Xk) (l:List Xb),AllK L I l∧u=s.v∧∀ w,X w→Chains w s l) :=
 j7 (FK (QK L I) ks ki L I (by have:=h.len;omega) fun au=>yo ks ki h au) fun u X ⟨s,M,hM,e,hw⟩=>⟨s,_,⟨M,hM,rfl⟩,e,fun w h=>(hw w h).1⟩
def sgA (k:Ed) (c:Xb) (x:Xa):Xa:=actSignV k (draftX c { x with time:=1 })
def SignR (L:List Int) (I:List Xc) (ks ki:Xk) (c:Xb) (k:Ed) (x:Xa) (u:Value) (X:World→Prop):Prop :=
 ∃ (s3 s4 s:Xk) (n:Xb) (kl':List Xm),s3.n=(sgA k c x).to.n∧s4.n=(sgA k c x).wraps.n∧QK L (addK L I (ofActI ((sgA k c x).re s3 s4))) c.id n kl' ∧
  u=.tuple #[.agg #[ks.v,s.v],n.v,.bool (decide ((n.acts.n:Int)=(c.acts.n:Int)+1))]∧∀ w,(Items w ki I∧X w)→Items w s (addK L I (ofActI ((sgA k c x).re s3 s4)))∧n.at_ w
structure AddW (L:List Int) (I:List Xc) (ki:Xk) (b:Xa) where
 s3:Xk
 s4:Xk
 s:Xk
 bk:Nat
 Y:World→Prop
 e3:s3.n=b.to.n
 e4:s4.n=b.wraps.n
 hw:∀ w,(Items w ki I∧Y w)→Items w s (addK L I (ofActI (b.re s3 s4)))
set_option maxRecDepth 20000 in
theorem lL (ks ki:Xk) {L:List Int} {I:List Xc} (hK:KnR L I) (hI:I.length<100) (c:Xb) (hc:c.actsL.length≤1000) (k:Ed) (x:Xa) (hx:x.Rng) (hs:x.Sm) :
  Mk prog 41 #[.agg #[ks.v,ki.v],c.v,k.v,x.v] (fun w=>(((Ints w ks L∧Items w ki I)∧c.at_ w)∧x.at_ w)∧Xe w) (SignR L I ks ki c k x):=by
 refine dm func41 ntmps41 fun av bor w0=>?_
 refine aQ (p:=c.acts.n=c.actsL.length) (fun w h=>h.1.1.2.len_) fun hcn=>?_
 have hxR:(draftX c { x with time:=1 }).Rng:=⟨⟨by show (c.acts.n:Int)<_;omega,hx.ints.2.1,by show (1:Int)<_;decide,hx.ints.2.2.2⟩,hx.wints,hx.to_len,hx.wraps_len⟩
 have hxS:(draftX c { x with time:=1 }).Sm:=⟨hs.to,hs.wraps,hs.target⟩
 have hbR:(sgA k c x).Rng:=tG hxR
 have hbS:(sgA k c x).Sm:=xU hxS
 have hdr:=Fm c x.kind 1
 have hsg:Mk prog 36 #[k.v,(draftX c { x with time:=1 }).v] (fun w=>(draftX c { x with time:=1 }).at_ w∧Xe w) (ActTo (sgA k c x)):=xj k (draftX c { x with time:=1 }) hxR hxS
 unfold SignR
 obtain ⟨b,hb⟩:∃ b,sgA k c x=b:=⟨_,rfl⟩
 rw [hb] at hbR hbS hsg ⊢
 repeat' (first|(refine ae (hc:=hdr) ?_)|refine gs ?_|refine gs1 fun _=>?_|fail)
 rename_i b4 b5 b6 b7 b8 b9 b11
 refine mf (ai (E':=[(4,.pointer (some ⟨b4,0,none⟩)),(5,.pointer (some ⟨b5,0,none⟩)),(6,.pointer (some ⟨b6,0,none⟩)),(7,.pointer (some ⟨b7,0,none⟩)),(8,.pointer (some ⟨b8,0,none⟩)),(9,.pointer (some ⟨b9,0,none⟩))]) (l':=[cel b9 35 Xb.zero.cells,cel b8 25 [.slice none 0 0,.slice none 0 0],cel b7 46 (draftX c { x with time:=1 }).cells,cel b6 27 k.v.cells.toList,cel b5 35 c.cells,cel b4 25 [ks.v,ki.v]]) (X':=fun w=>(((Ints w ks L∧Items w ki I)∧c.at_ w)∧x.at_ w)∧Xe w) ⟨rfl,rfl,rfl,rfl,rfl,rfl,trivial⟩ (.cons _ (ak _)) fun _ h=>h) ?_
 refine ib (ι:=AddW L I ki b) (fun m=>⟨[(5,.pointer (some ⟨b5,0,none⟩)),(8,.pointer (some ⟨b8,0,none⟩)),(9,.pointer (some ⟨b9,0,none⟩)),(12,.pointer (some ⟨m.bk,0,none⟩))],[cel m.bk 25 [ks.v,m.s.v],cel b9 35 Xb.zero.cells,cel b8 25 [.slice none 0 0,.slice none 0 0],cel b5 35 c.cells],fun w=>((((Ints w ks L∧Items w ki I)∧c.at_ w)∧x.at_ w)∧Xe w)∧m.Y w⟩) ?_ fun m=>?_
 · (refine ap ⟨[0,1,2],[(3,⟨[],[(4,⟨[],[(5,⟨[6,7,8],[(9,⟨[],[(10,⟨[11],[]⟩)]⟩)]⟩),(9,⟨[],[(5,⟨[6,7,8],[(10,⟨[11],[]⟩)]⟩)]⟩)]⟩),(9,⟨[],[(4,⟨[],[(5,⟨[6,7,8],[(10,⟨[11],[]⟩)]⟩)]⟩)]⟩)]⟩),(9,⟨[],[(3,⟨[],[(4,⟨[],[(5,⟨[6,7,8],[(10,⟨[11],[]⟩)]⟩)]⟩)]⟩)]⟩)]⟩ [cel b7 46 (draftX c { x with time:=1 }).cells,cel b6 27 k.v.cells.toList,cel b4 25 [ks.v,ki.v]] (fun w=>(((Ints w ks L∧Items w ki I)∧c.at_ w)∧x.at_ w)∧Xe w) (h:=?_))
   all_goals repeat' (first|((refine bF (hc:=hsg) (hX:=fun w h=>⟨h.1.2,h.2⟩) fun v X2 h2=>?_;obtain ⟨s1,s2,rfl,e1,e2,hw2⟩:=h2))|((refine bF (hc:=AT (b.re s1 s2) (mE hbR e1 e2) (vS hbS e1 e2)) (hX:=fun w h=>hw2 w h.2) fun v X3 h3=>?_;obtain ⟨s3,s4,rfl,e3,e4,hw3⟩:=h3;refine cI (X':=fun w=>((((Ints w ks L∧Items w ki I)∧c.at_ w)∧x.at_ w)∧Xe w)∧X3 w) (fun w h=>⟨h.1.1,h.2⟩) ?_))|((refine bF (hc:=Is ks ki hK (ofActI (b.re s3 s4)) (mE hbR (e3.trans e1) (e4.trans e2)) rfl) (hX:=fun w h=>⟨⟨h.1.1.1.1,hw3 w h.2,bz w 1⟩,h.1.2⟩) fun v X4 h4=>?_;obtain ⟨s,rfl,hw4⟩:=h4))|refine gdz ?_|refine az ?_ (h':=?_)|exact aA|refine gs1 fun _=>?_|fail)
   all_goals first
    | exact ⟨(⟨s3,s4,s,_,fun w=>X3 w∧X4 w,e3.trans e1,e4.trans e2,fun w h=>hw4 w ⟨h.1,h.2.2⟩⟩:AddW L I ki b),ai am (.cons_cons _ (.cons_cons _ (.cons_cons _ (.cons _ (.cons _ (.cons_cons _ (Zt _))))))) fun w h=>⟨h.1.1,h.1.2,h.2⟩⟩
 obtain ⟨s3,s4,s,bk,Y,e3,e4,hwI⟩:=m
 simp only
 have hK':KnR L (addK L I (ofActI (b.re s3 s4))):=uK hK (mE hbR e3 e4) (vS hbS e3 e4) rfl hI
 repeat' (first|(refine bF (hc:=yo ks s hK' c.id) (hX:=fun w h=>⟨⟨h.1.1.1.1.1,hwI w ⟨h.1.1.1.1.2,h.2⟩⟩,h.1.2⟩) fun v X5 h5=>?_;obtain ⟨n,kl',hQ',rfl,hw5⟩:=h5)|refine gs ?_|refine gs1 fun _=>?_|fail)
 rename_i b14
 refine aQ (p:=n.acts.n=n.actsL.length) (fun w h=>(hw5 w h.2).1.len_) fun hnn=>?_
 have hnl:=(fY hK' hQ').len
 (refine ap ⟨[0,1,2,3,4,5,6,7,8,9],[(10,⟨[],[(11,⟨[12],[]⟩)]⟩)]⟩ [cel b14 35 n.cells,cel bk 25 [ks.v,s.v],cel b5 35 c.cells] (fun w=>(((((Ints w ks L∧Items w ki I)∧c.at_ w)∧x.at_ w)∧Xe w)∧Y w)∧X5 w) (h:=?_))
 all_goals repeat' (first|refine gdz ?_|refine az ?_ (h':=?_)|exact aA|fail)
 all_goals
  repeat' (first|refine gs ?_|fail)
  all_goals refine ab (tY (n:=2) (n2:=6) rfl rfl rfl rfl aM rfl aM rfl) ?_
  all_goals exact ⟨s3,s4,s,n,kl',e3,e4,hQ',rfl,fun w h=>⟨hwI w ⟨h.1,h.2.1.1.2⟩,(hw5 w h.2.1.2).1⟩⟩
end Go.Proofs.YtaolfiikahlmkaaGreatDoor
namespace Go.Proofs.YtaolfiikahlmkaaGreatDoor
open Go Go.Proofs Sy Tryz
section
variable {P:Program} {N:Nat} {av bor:List Nat} {w0:World} {st:St} {ty:TypeId} {x y:Operand} {t t2:TypeId} {k:IntKind}
theorem IW {a b:Int} [hI:Xs P t k] (hx:ev st.env x=some (.int k a)) (hy:ev st.env y=some (.int k b)) (hab:b<a):Sy.Yields P N av bor w0 st (.binOp .gtr t x y t2) ty (.bool true):=by
 have h:=lH (P:=P) (N:=N) (av:=av) (bor:=bor) (w0:=w0) (st:=st) (ty:=ty) (t:=t) (t2:=t2) hx hy
 rwa [Ze hab] at h
theorem IX {a b:Int} [hI:Xs P t k] (hx:ev st.env x=some (.int k a)) (hy:ev st.env y=some (.int k b)) (hab:¬ b<a):Sy.Yields P N av bor w0 st (.binOp .gtr t x y t2) ty (.bool false):=by
 have h:=lH (P:=P) (N:=N) (av:=av) (bor:=bor) (w0:=w0) (st:=st) (ty:=ty) (t:=t) (t2:=t2) hx hy
 rwa [Zd hab] at h
end
structure InsI (P:List Xd) (a b:Nat) where
 k:Nat
 h1:a+1≤k
 h2:k≤b∨k=a+1
 Q:List Xd
 hQ:Q.Perm P
structure InsJ (P:List Xd) (a k:Nat) where
 j:Nat
 h1:a≤j
 h2:j≤k
 Q:List Xd
 hQ:Q.Perm P
theorem cE (s:Xk) (P:List Xd) (a b:Nat) (hs:s.n=P.length) (hm:s.n≤1000000) (ha:a≤s.n) (hb:b≤s.n) :
  Ct prog 228 #[s.v,.int .i64 (a:Nat),.int .i64 (b:Nat),cmpF] [postR s P] (fun _=>True) (PermAt s P):=by
 refine cP func228 ntmps228 fun av bor w0=>?_
 refine bY (r:=postR s P) ao (p:=0<s.n→s.p.isSome=true) (fun w h hn=>bK h hn) fun hp=>?_
 repeat' (first|refine dL (q:=1) (hq:=by omega) ?_|refine gs ?_|fail)
 refine aq (ι:=InsI P a b) (fun i=>⟨[(0,s.v),(1,.int .i64 (a:Nat)),(2,.int .i64 (b:Nat)),(3,cmpF),(8,.int .i64 (i.k:Nat))],[postR s i.Q],fun _=>True⟩) (fun i=>b-i.k) ⟨a+1,ZV _,.inr rfl,P,Ql _⟩ (ai am (ak _) fun _ h=>h) fun i=>?_
 obtain ⟨k,h1,h2,Q,hQ⟩:=i
 simp only
 have hl:=hQ.length_eq
 repeat' (first|refine gs ?_|(refine gp ?_ ?_<;>intro hx_ this)|fail)
 · have hkb:k<b:=by omega
   refine aq (ι:=InsJ P a k) (fun i=>⟨[(0,s.v),(1,.int .i64 (a:Nat)),(2,.int .i64 (b:Nat)),(3,cmpF),(8,.int .i64 (k:Nat)),(9,.int .i64 (i.j:Nat))],[postR s i.Q],fun _=>True⟩) (fun i=>i.j) ⟨k,by omega,ZV _,Q,hQ⟩ (ai am (ak _) fun _ h=>h) fun i=>?_
   obtain ⟨j,h3,h4,Q2,hQ2⟩:=i
   simp only
   have hl2:=hQ2.length_eq
   have hp':=hp aa
   by_cases hja:a<j
   · obtain ⟨x,hx⟩:∃ x,Q2[j]?=some x:=⟨_,Zc aa⟩
     obtain ⟨y,hy⟩:∃ y,Q2[j-1]?=some y:=⟨_,Zc aa⟩
     have hcm:=dz x y
     generalize cmpB x.id y.id=z at *
     apply QQ
     apply QQ
     unfold cmpF
     (refine ap ⟨[0,1,2,3,4,5,6,7,9,10,11,12],[(8,⟨[],[(13,⟨[],[(14,⟨[15,16],[]⟩)]⟩)]⟩),(13,⟨[],[(8,⟨[],[(14,⟨[15,16],[]⟩)]⟩)]⟩)]⟩ [] (fun _=>True) (h:=?_))
     all_goals repeat' (first|refine ay (hy:=by (apply IW;rfl;rfl;omega)) ?_|(refine ae (hc:=hcm) ?_)|refine gd ?_|refine ay (hy:=by first|(apply aB (q:=j*11);rfl;rfl;omega;omega;assumption;(rfl))|(apply aB (q:=(j-1)*11);rfl;rfl;omega;omega;assumption;(omega))) ?_|refine az ?_ (h':=?_)|exact aA|(refine al (bt (i:=j) (P:=Q2) rfl ao aa hx) rfl rfl rfl ?_)|(refine al (bt (i:=j-1) (P:=Q2) rfl ao aa hy) rfl rfl rfl ?_)|fail)
     all_goals
      repeat' (first|refine gs ?_|(refine gp ?_ ?_<;>intro hx_ this)|fail)
      · (refine ap ⟨[0,1,2,3,4,5,6,7,8,10,11,12],[(9,⟨[],[(13,⟨[14],[(15,⟨[16],[(17,⟨[],[]⟩)]⟩)]⟩)]⟩),(13,⟨[],[(9,⟨[14],[(15,⟨[16],[(17,⟨[],[]⟩)]⟩)]⟩)]⟩)]⟩ [] (fun _=>True) (h:=?_))
        all_goals repeat' (first|refine gd ?_|refine ay (hy:=by first|(apply aB (q:=j*11);rfl;rfl;omega;omega;assumption;(rfl))|(apply aB (q:=(j-1)*11);rfl;rfl;omega;omega;assumption;(omega))) ?_|refine az ?_ (h':=?_)|exact aA|(refine al (bt (i:=j) (P:=Q2) rfl ao aa hx) rfl rfl rfl ?_)|(refine al (bt (i:=j-1) (P:=Q2) rfl ao aa hy) rfl rfl rfl ?_)|((refine cg (i:=j) (p:=y) rfl rfl aa (by first|omega|(simp only [Z7];omega)) (At.here _) rfl aw rfl ?_))|((refine cg (i:=j-1) (p:=x) rfl rfl aa (by (simp only [Z7];omega)) (At.here _) rfl aw rfl ?_))|fail)
        all_goals
         repeat' (first|refine eP (q:=1) (hq:=by omega) ?_|refine gs ?_|fail)
         exact ⟨(⟨j-1,by omega,by omega,(Q2.set j y).set (j-1) x,(cS hx hy).trans hQ2⟩:InsJ P a k),(by show j-1<j;omega),ai am (ak _) fun _ h=>h⟩
      · repeat' (first|refine dL (q:=1) (hq:=by omega) ?_|fail)
        exact ⟨(⟨k+1,by omega,by omega,Q2,hQ2⟩:InsI P a b),(by show b-(k+1)<b-k;omega),ai am (ak _) fun _ h=>h⟩
   · apply QQ
     apply QQ
     unfold cmpF
     (refine ap ⟨[0,1,2,3,4,5,6,7,9,10,11,12],[(8,⟨[],[(13,⟨[],[(14,⟨[15,16],[]⟩)]⟩)]⟩),(13,⟨[],[(8,⟨[],[(14,⟨[15,16],[]⟩)]⟩)]⟩)]⟩ [] (fun _=>True) (h:=?_))
     all_goals repeat' (first|refine ay (hy:=by (apply IX;rfl;rfl;omega)) ?_|refine gd ?_|refine az ?_ (h':=?_)|exact aA|fail)
     all_goals
      repeat' (first|refine dL (q:=1) (hq:=by omega) ?_|refine gs ?_|fail)
      exact ⟨(⟨k+1,by omega,by omega,Q2,hQ2⟩:InsI P a b),(by show b-(k+1)<b-k;omega),ai am (ak _) fun _ h=>h⟩
 · exact aR (aH rfl) ⟨rfl,Q,hQ,rfl⟩
end Go.Proofs.YtaolfiikahlmkaaGreatDoor
namespace Go.Proofs.YtaolfiikahlmkaaGreatDoor
open Go Go.Proofs Sy Tryz
theorem shr1 (x:Nat):shrV .u64 (x:Int) 1=((x/2:Nat):Int):=by
 show (x:Int).fdiv (2 ^ (min (1:Int).toNat 64))=_
 rw [show (2:Int) ^ (min (1:Int).toNat 64)=((2:Nat):Int) from rfl,←Int.ofNat_fdiv]
section
variable {N:Nat} {av bor:List Nat} {w0:World} {ops:Array Oper} {rest:List Oper} {k:St→Prop} {E:Env} {loc:List Xl} {X:World→Prop} {d:Option Tmp} {ty:TypeId} {pos:String} {af:Array Edge} {g:Option (Nat×Bool)} {bb want:Bool} {n:Nat} {t t2:TypeId}
theorem mD {p:Nat} {x y:Operand} (h:Sw prog N av bor w0 ops rest ⟨(n,.int .u64 ((p/2:Nat):Int))::E,loc,X⟩ k) (hx:ev E x=some (.int .u64 (p:Nat)):=by rfl) (hy:ev E y=some (.int .u64 1):=by rfl) (hg:gdB ops E g=some (bb,want):=by rfl) (hbb:bb=want:=by exact aw) (hd:Nat.blt n N=true:=by rfl) :
  Sw prog N av bor w0 ops (⟨some n,.binOp .shr t x y t2,ty,pos,af,g⟩::rest) ⟨E,loc,X⟩ k:=rm hx hy (by decide) hg hbb hd (by rw [shr1];exact h)
theorem F8 {p:Nat} (h:p<9223372036854775808):IntKind.u64.wrap (p:Int)=(p:Int):=by
 simp [IntKind.wrap,IntKind.signed,IntKind.bits]
 omega
theorem rj [h1:Xs prog t .i64] [h2:Xs prog t2 .u64] {p:Nat} {x:Operand} (h:Sw prog N av bor w0 ops rest ⟨(n,.int .u64 (p:Nat))::E,loc,X⟩ k) (hx:ev E x=some (.int .i64 (p:Nat)):=by rfl) (hq:p<9223372036854775808) (hg:gdB ops E g=some (bb,want):=by rfl) (hbb:bb=want:=by exact aw) (hd:Nat.blt n N=true:=by rfl) :
  Sw prog N av bor w0 ops (⟨some n,.convert t t2 x,ty,pos,af,g⟩::rest) ⟨E,loc,X⟩ k:=kQ hx (F8 hq) hg hbb hd h
theorem rk [h1:Xs prog t .u64] [h2:Xs prog t2 .i64] {p:Nat} {x:Operand} (h:Sw prog N av bor w0 ops rest ⟨(n,.int .i64 (p:Nat))::E,loc,X⟩ k) (hx:ev E x=some (.int .u64 (p:Nat)):=by rfl) (hq:p<9223372036854775808) (hg:gdB ops E g=some (bb,want):=by rfl) (hbb:bb=want:=by exact aw) (hd:Nat.blt n N=true:=by rfl) :
  Sw prog N av bor w0 ops (⟨some n,.convert t t2 x,ty,pos,af,g⟩::rest) ⟨E,loc,X⟩ k:=kQ hx (IntWalk.i64_in _ aa) hg hbb hd h
theorem GI {x y:Operand} {k':IntKind} {a b:Int} [hI:Xs prog t k'] (h:Sw prog N av bor w0 ops rest ⟨(n,.bool false)::E,loc,X⟩ k) (hx:ev E x=some (.int k' a):=by rfl) (hy:ev E y=some (.int k' b):=by rfl) (hab:¬ a<b:=by first|omega|decide) (hg:gdB ops E g=some (bb,want):=by rfl) (hbb:bb=want:=by exact aw) (hd:Nat.blt n N=true:=by rfl) :
  Sw prog N av bor w0 ops (⟨some n,.binOp .lss t x y t2,ty,pos,af,g⟩::rest) ⟨E,loc,X⟩ k:=eX (hx:=hx) (hy:=hy) (hg:=hg) (hbb:=hbb) (hd:=hd) (h:=by
   have e:∀ u,u=Value.bool false→Sw prog N av bor w0 ops rest ⟨(n,u)::E,loc,X⟩ k:=fun u hu=>hu▸h
   exact e _ (by simp [hab]))
theorem xM {x y:Operand} {k':IntKind} {a b:Int} [hI:Xs prog t k'] (h:Sw prog N av bor w0 ops rest ⟨(n,.bool true)::E,loc,X⟩ k) (hx:ev E x=some (.int k' a):=by rfl) (hy:ev E y=some (.int k' b):=by rfl) (hab:a<b:=by first|omega|decide) (hg:gdB ops E g=some (bb,want):=by rfl) (hbb:bb=want:=by exact aw) (hd:Nat.blt n N=true:=by rfl) :
  Sw prog N av bor w0 ops (⟨some n,.binOp .lss t x y t2,ty,pos,af,g⟩::rest) ⟨E,loc,X⟩ k:=eX (hx:=hx) (hy:=hy) (hg:=hg) (hbb:=hbb) (hd:=hd) (h:=by
   have e:∀ u,u=Value.bool true→Sw prog N av bor w0 ops rest ⟨(n,u)::E,loc,X⟩ k:=fun u hu=>hu▸h
   exact e _ (by simp [hab]))
theorem fg {x:Operand} {xs:List Operand} {ats:Array TypeId} {f:FuncId} {args:List Value} {s:Xk} {P Q:List Xd} (h:∀ Q':List Xd,Q'.Perm P→Sw prog N av bor w0 ops rest ⟨putE E d (.tuple #[]),[postR s Q'],X⟩ k) (hQ:Q.Perm P) (hx:ev E x=some (.func (.func f) #[] #[]):=by rfl) (ha:evs E xs=some args:=by rfl) (hg:gdB ops E g=some (bb,want):=by rfl) (hb:bb=want:=by exact aw) (hd:inB N d=true:=by rfl) (hf:Xv prog f:=by first|infer_instance|exact ⟨aj⟩) (hc:∀ Q:List Xd,Q.Perm P→Ct prog f args.toArray [postR s Q] (fun _=>True) (PermAt s Q)) :
  Sw prog N av bor w0 ops (⟨d,.call ⟨.value x,xs.toArray,ats⟩,ty,pos,af,g⟩::rest) ⟨E,[postR s Q],X⟩ k:=cb hx ha hg hb hd hf (hc Q hQ) fun Q' h1=>h Q' (h1.trans hQ)
end
structure BinI (lo hi:Nat) where
 i:Nat
 j:Nat
 h1:lo≤i
 h2:i≤j
 h3:j≤hi
structure UpI (P:List Xd) (a:Nat) where
 k:Nat
 h1:a≤k
 Q:List Xd
 hQ:Q.Perm P
structure DownI (P:List Xd) (i m:Nat) where
 k:Nat
 h1:i≤k
 h2:k≤m
 Q:List Xd
 hQ:Q.Perm P
structure MerI (a m b mid:Nat) where
 i:Nat
 j:Nat
 h1:i≤j
 h2:mid<m→mid+m≤i+b∧j≤mid
 h3:m≤mid→a≤i∧j≤m
set_option maxRecDepth 20000 in
theorem cf:∀ (d:Nat) (s:Xk) (P:List Xd) (a m b:Nat),b-a≤d→s.n=P.length→s.n≤1000000→a<m→m<b→b≤s.n →
  Ct prog 229 #[s.v,.int .i64 (a:Nat),.int .i64 (m:Nat),.int .i64 (b:Nat),cmpF] [postR s P] (fun _=>True) (PermAt s P)
 | 0,s,P,a,m,b,hd,hs,hm,ha,hb,hbs=>absurd hd aa
 | d+1,s,P,a,m,b,hd,hs,hm,ha,hb,hbs=>by
  have ih:=cf d
  have hP:P.Perm P:=Ql P
  refine cP func229 ntmps229 fun av bor w0=>?_
  refine bY (r:=postR s P) ao (p:=0<s.n→s.p.isSome=true) (fun w h hn=>bK h hn) fun hp=>?_
  have hp':=hp aa
  by_cases hA:m-a=1
  · repeat' (first|refine eP (hq:=by omega) ?_|refine aF ?_|refine gs ?_|fail)
    refine aq (ι:=BinI m b) (fun r=>⟨[(0,s.v),(1,.int .i64 (a:Nat)),(4,cmpF),(10,.int .i64 (r.i:Nat)),(11,.int .i64 (r.j:Nat))],[postR s P],fun _=>True⟩) (fun r=>r.j-r.i) ⟨m,b,by omega,by omega,by omega⟩ (ai am (ak _) fun _ h=>h) fun r=>?_
    obtain ⟨i,j,h1,h2,h3⟩:=r
    simp only
    repeat' (first|refine dL (hq:=by omega) ?_|refine rj (hq:=by omega) ?_|refine mD ?_|refine rk (hq:=by omega) ?_|refine gs ?_|(refine gp ?_ ?_<;>intro hx_ this)|fail)
    · have hlt:i<j:=by omega
      obtain ⟨x,hx⟩:∃ x,P[(i+j)/2]?=some x:=⟨_,Zc aa⟩
      obtain ⟨y,hy⟩:∃ y,P[a]?=some y:=⟨_,Zc aa⟩
      have hcm:=dz x y
      generalize cmpB x.id y.id=z at *
      unfold cmpF
      (refine ap ⟨[0,1,2,3,5,6,7],[(4,⟨[],[(8,⟨[],[(9,⟨[10],[]⟩)]⟩)]⟩),(8,⟨[],[(4,⟨[],[(9,⟨[10],[]⟩)]⟩)]⟩)]⟩ [] (fun _=>True) (h:=?_))
      all_goals repeat' (first|(refine ae (hc:=hcm) ?_)|refine gd ?_|refine ay (hy:=by first|(apply aB (q:=((i+j)/2)*11);rfl;rfl;omega;omega;assumption;(rfl))|(apply aB (q:=(a)*11);rfl;rfl;omega;omega;assumption;(rfl))) ?_|refine az ?_ (h':=?_)|exact aA|(refine al (bt (i:=(i+j)/2) (P:=P) rfl ao aa hx) rfl rfl rfl ?_)|(refine al (bt (i:=a) (P:=P) rfl ao aa hy) rfl rfl rfl ?_)|fail)
      all_goals
       repeat' (first|refine dL (q:=1) (hq:=by omega) ?_|refine gs ?_|(refine gp ?_ ?_<;>intro hx_ this)|fail)
       · exact ⟨(⟨(i+j)/2+1,j,by omega,by omega,h3⟩:BinI m b),(by show j-((i+j)/2+1)<j-i;omega),ai am (ak _) fun _ h=>h⟩
       · exact ⟨(⟨i,(i+j)/2,h1,by omega,by omega⟩:BinI m b),(by show (i+j)/2-i<j-i;omega),ai am (ak _) fun _ h=>h⟩
    · refine aq (ι:=UpI P a) (fun r=>⟨[(0,s.v),(10,.int .i64 (i:Nat)),(13,.int .i64 (r.k:Nat))],[postR s r.Q],fun _=>True⟩) (fun r=>i-r.k) ⟨a,ZV _,P,hP⟩ (ai am (ak _) fun _ h=>h) fun r=>?_
      obtain ⟨k,h4,Q,hQ⟩:=r
      simp only
      have hl:=hQ.length_eq
      repeat' (first|refine eP (q:=1) (hq:=by omega) ?_|refine gs ?_|(refine gp ?_ ?_<;>intro hx_ this)|fail)
      · have hlt:k+1<i:=by omega
        obtain ⟨x,hx⟩:∃ x,Q[k]?=some x:=⟨_,Zc aa⟩
        obtain ⟨y,hy⟩:∃ y,Q[k+1]?=some y:=⟨_,Zc aa⟩
        (refine ap ⟨[0,1,2,3,4,5,6,7,8,10,11,12],[(9,⟨[],[(13,⟨[14],[(15,⟨[16],[(17,⟨[],[]⟩)]⟩)]⟩)]⟩),(13,⟨[],[(9,⟨[14],[(15,⟨[16],[(17,⟨[],[]⟩)]⟩)]⟩)]⟩)]⟩ [] (fun _=>True) (h:=?_))
        all_goals repeat' (first|refine gd ?_|refine ay (hy:=by first|(apply aB (q:=(k)*11);rfl;rfl;omega;omega;assumption;(rfl))|(apply aB (q:=(k+1)*11);rfl;rfl;omega;omega;assumption;(rfl))) ?_|refine az ?_ (h':=?_)|exact aA|(refine al (bt (i:=k) (P:=Q) rfl ao aa hx) rfl rfl rfl ?_)|(refine al (bt (i:=k+1) (P:=Q) rfl ao aa hy) rfl rfl rfl ?_)|((refine cg (i:=k) (p:=y) rfl rfl aa (by first|omega|(simp only [Z7];omega)) (At.here _) rfl aw rfl ?_))|((refine cg (i:=k+1) (p:=x) rfl rfl aa (by (simp only [Z7];omega)) (At.here _) rfl aw rfl ?_))|fail)
        all_goals
         repeat' (first|refine dL (q:=1) (hq:=by omega) ?_|refine gs ?_|fail)
         exact ⟨(⟨k+1,by omega,(Q.set k y).set (k+1) x,(cS hx hy).trans hQ⟩:UpI P a),(by show i-(k+1)<i-k;omega),ai am (ak _) fun _ h=>h⟩
      · exact ab (aH rfl) ⟨rfl,Q,hQ,rfl⟩
  · by_cases hB:b-m=1
    · repeat' (first|refine eP (hq:=by omega) ?_|refine aF ?_|refine aI ?_|refine gs ?_|fail)
      refine aq (ι:=BinI a m) (fun r=>⟨[(0,s.v),(2,.int .i64 (m:Nat)),(4,cmpF),(14,.int .i64 (r.i:Nat)),(15,.int .i64 (r.j:Nat))],[postR s P],fun _=>True⟩) (fun r=>r.j-r.i) ⟨a,m,by omega,by omega,by omega⟩ (ai am (ak _) fun _ h=>h) fun r=>?_
      obtain ⟨i,j,h1,h2,h3⟩:=r
      simp only
      repeat' (first|refine dL (hq:=by omega) ?_|refine rj (hq:=by omega) ?_|refine mD ?_|refine rk (hq:=by omega) ?_|refine gs ?_|(refine gp ?_ ?_<;>intro hx_ this)|fail)
      · have hlt:i<j:=by omega
        obtain ⟨x,hx⟩:∃ x,P[m]?=some x:=⟨_,Zc aa⟩
        obtain ⟨y,hy⟩:∃ y,P[(i+j)/2]?=some y:=⟨_,Zc aa⟩
        have hcm:=dz x y
        generalize cmpB x.id y.id=z at *
        unfold cmpF
        (refine ap ⟨[0,1,2,3,5,6,7],[(4,⟨[],[(8,⟨[],[(9,⟨[10,11],[]⟩)]⟩)]⟩),(8,⟨[],[(4,⟨[],[(9,⟨[10,11],[]⟩)]⟩)]⟩)]⟩ [] (fun _=>True) (h:=?_))
        all_goals repeat' (first|(refine ae (hc:=hcm) ?_)|refine gd ?_|refine ay (hy:=by first|(apply aB (q:=(m)*11);rfl;rfl;omega;omega;assumption;(rfl))|(apply aB (q:=((i+j)/2)*11);rfl;rfl;omega;omega;assumption;(rfl))) ?_|refine az ?_ (h':=?_)|exact aA|(refine al (bt (i:=m) (P:=P) rfl ao aa hx) rfl rfl rfl ?_)|(refine al (bt (i:=(i+j)/2) (P:=P) rfl ao aa hy) rfl rfl rfl ?_)|fail)
        all_goals
         repeat' (first|refine dL (q:=1) (hq:=by omega) ?_|refine gs ?_|(refine gp ?_ ?_<;>intro hx_ this)|fail)
         · exact ⟨(⟨(i+j)/2+1,j,by omega,by omega,h3⟩:BinI a m),(by show j-((i+j)/2+1)<j-i;omega),ai am (ak _) fun _ h=>h⟩
         · exact ⟨(⟨i,(i+j)/2,h1,by omega,by omega⟩:BinI a m),(by show (i+j)/2-i<j-i;omega),ai am (ak _) fun _ h=>h⟩
      · refine aq (ι:=DownI P i m) (fun r=>⟨[(0,s.v),(14,.int .i64 (i:Nat)),(17,.int .i64 (r.k:Nat))],[postR s r.Q],fun _=>True⟩) (fun r=>r.k) ⟨m,by omega,ZV _,P,hP⟩ (ai am (ak _) fun _ h=>h) fun r=>?_
        obtain ⟨k,h4,h5,Q,hQ⟩:=r
        simp only
        have hl:=hQ.length_eq
        repeat' (first|refine gs ?_|(refine gp ?_ ?_<;>intro hx_ this)|fail)
        · have hlt:i<k:=by omega
          obtain ⟨x,hx⟩:∃ x,Q[k]?=some x:=⟨_,Zc aa⟩
          obtain ⟨y,hy⟩:∃ y,Q[k-1]?=some y:=⟨_,Zc aa⟩
          (refine ap ⟨[0,1,2,3,4,5,6,7,8,10,11,12],[(9,⟨[],[(13,⟨[14],[(15,⟨[16],[(17,⟨[],[]⟩)]⟩)]⟩)]⟩),(13,⟨[],[(9,⟨[14],[(15,⟨[16],[(17,⟨[],[]⟩)]⟩)]⟩)]⟩)]⟩ [] (fun _=>True) (h:=?_))
          all_goals repeat' (first|refine gd ?_|refine ay (hy:=by first|(apply aB (q:=(k)*11);rfl;rfl;omega;omega;assumption;(rfl))|(apply aB (q:=(k-1)*11);rfl;rfl;omega;omega;assumption;(omega))) ?_|refine az ?_ (h':=?_)|exact aA|(refine al (bt (i:=k) (P:=Q) rfl ao aa hx) rfl rfl rfl ?_)|(refine al (bt (i:=k-1) (P:=Q) rfl ao aa hy) rfl rfl rfl ?_)|((refine cg (i:=k) (p:=y) rfl rfl aa (by first|omega|(simp only [Z7];omega)) (At.here _) rfl aw rfl ?_))|((refine cg (i:=k-1) (p:=x) rfl rfl aa (by (simp only [Z7];omega)) (At.here _) rfl aw rfl ?_))|fail)
          all_goals
           repeat' (first|refine eP (q:=1) (hq:=by omega) ?_|refine gs ?_|fail)
           exact ⟨(⟨k-1,by omega,by omega,(Q.set k y).set (k-1) x,(cS hx hy).trans hQ⟩:DownI P i m),(by show k-1<k;omega),ai am (ak _) fun _ h=>h⟩
        · exact ab (aH rfl) ⟨rfl,Q,hQ,rfl⟩
    · obtain ⟨mid,hmid⟩:∃ mid,mid=(a+b)/2:=⟨_,rfl⟩
      have hm1:a<mid:=by omega
      have hm2:mid<b:=by omega
      have hm3:2*mid≤a+b:=by omega
      have hm4:a+b≤2*mid+1:=by omega
      by_cases hmm:mid<m
      all_goals
       repeat' (first|refine aI ?_|refine d5 ?_|refine eQ ?_|refine eP (q:=1) (hq:=by omega) ?_|refine eP (hq:=by omega) ?_|refine dL (hq:=by omega) ?_|refine rj (hq:=by omega) ?_|refine mD ?_|refine rk (hq:=by omega) ?_|refine gs ?_|fail)
       rw [←hmid]
       first
        | refine aq (ι:=MerI a m b mid) (fun r=>⟨[(0,s.v),(1,.int .i64 (a:Nat)),(2,.int .i64 (m:Nat)),(3,.int .i64 (b:Nat)),(4,cmpF),(18,.int .i64 (mid:Nat)),(19,.int .i64 ((mid+m:Nat):Int)),(20,.int .i64 (r.i:Nat)),(21,.int .i64 (r.j:Nat)),(22,.int .i64 ((mid+m-1:Nat):Int))],[postR s P],fun _=>True⟩) (fun r=>r.j-r.i) ⟨mid+m-b,mid,by omega,by omega,by omega⟩ (ai am (ak _) fun _ h=>h) fun r=>?_
        | refine aq (ι:=MerI a m b mid) (fun r=>⟨[(0,s.v),(1,.int .i64 (a:Nat)),(2,.int .i64 (m:Nat)),(3,.int .i64 (b:Nat)),(4,cmpF),(18,.int .i64 (mid:Nat)),(19,.int .i64 ((mid+m:Nat):Int)),(20,.int .i64 (r.i:Nat)),(21,.int .i64 (r.j:Nat)),(22,.int .i64 ((mid+m-1:Nat):Int))],[postR s P],fun _=>True⟩) (fun r=>r.j-r.i) ⟨a,m,by omega,by omega,by omega⟩ (ai am (ak _) fun _ h=>h) fun r=>?_
       obtain ⟨i,j,h1,h2,h3⟩:=r
       simp only
       have hk1:a≤i:=by omega
       have hk2:j≤m:=by omega
       have hk3:i≤mid+m:=by omega
       by_cases hij:i<j
       · have hk4:(i+j)/2<j:=by omega
         have hk5:i≤(i+j)/2:=by omega
         have hk6:(i+j)/2≤mid+m-1:=by omega
         have hk7:mid+m-1-(i+j)/2<b:=by omega
         repeat' (first|refine xM ?_|refine dL (hq:=by omega) ?_|refine rj (hq:=by omega) ?_|refine mD ?_|refine rk (hq:=by omega) ?_|refine gs ?_|fail)
         obtain ⟨x,hx⟩:∃ x,P[mid+m-1-(i+j)/2]?=some x:=⟨_,Zc aa⟩
         obtain ⟨y,hy⟩:∃ y,P[(i+j)/2]?=some y:=⟨_,Zc aa⟩
         have hcm:=dz x y
         generalize cmpB x.id y.id=z at *
         unfold cmpF
         (refine ap ⟨[0,1,2,3,4,5,7,8,9],[(6,⟨[],[(10,⟨[],[(11,⟨[12,13],[]⟩)]⟩)]⟩),(10,⟨[],[(6,⟨[],[(11,⟨[12,13],[]⟩)]⟩)]⟩)]⟩ [] (fun _=>True) (h:=?_))
         all_goals repeat' (first|(refine ae (hc:=hcm) ?_)|refine gd ?_|refine ay (hy:=by first|(apply aB (q:=(mid+m-1-(i+j)/2)*11);rfl;rfl;omega;omega;assumption;(omega))|(apply aB (q:=((i+j)/2)*11);rfl;rfl;omega;omega;assumption;(rfl))) ?_|refine az ?_ (h':=?_)|exact aA|(refine al (bt (i:=mid+m-1-(i+j)/2) (P:=P) rfl ao aa hx) rfl rfl rfl ?_)|(refine al (bt (i:=(i+j)/2) (P:=P) rfl ao aa hy) rfl rfl rfl ?_)|fail)
         all_goals
          repeat' (first|refine dL (q:=1) (hq:=by omega) ?_|refine gs ?_|(refine gp ?_ ?_<;>intro hx_ this)|fail)
          · exact ⟨(⟨(i+j)/2+1,j,by omega,by omega,by omega⟩:MerI a m b mid),(by show j-((i+j)/2+1)<j-i;omega),ai am (ak _) fun _ h=>h⟩
          · exact ⟨(⟨i,(i+j)/2,by omega,by omega,by omega⟩:MerI a m b mid),(by show (i+j)/2-i<j-i;omega),ai am (ak _) fun _ h=>h⟩
       · have hk8:mid+m-i≤b:=by omega
         have hnl:¬ (i:Int)<(j:Int):=by omega
         repeat' (first|refine GI (hab:=by first|exact hnl|omega) ?_|refine xM ?_|refine eP (hq:=by omega) ?_|refine gs ?_|(refine fg (P:=P) (hQ:=by assumption) (hc:=fun Q hQ=>fa s Q i m (mid+m-i) cmpF (hs.trans hQ.length_eq.symm) hm aa aa aa) fun Q2 hQ2=>?_)|(refine fg (P:=P) (hQ:=by assumption) (hc:=fun Q hQ=>ih s Q a i mid aa (hs.trans hQ.length_eq.symm) hm aa aa aa) fun Q2 hQ2=>?_)|(refine fg (P:=P) (hQ:=by assumption) (hc:=fun Q hQ=>ih s Q mid (mid+m-i) b aa (hs.trans hQ.length_eq.symm) hm aa aa aa) fun Q2 hQ2=>?_)|(refine gp ?_ ?_<;>intro hx_ this)|fail)
         all_goals
          refine aR (aH rfl) ⟨rfl,_,?_,rfl⟩
          assumption
end Go.Proofs.YtaolfiikahlmkaaGreatDoor
namespace Go.Proofs.YtaolfiikahlmkaaGreatDoor
open Go Go.Proofs Sy Tryz
section
variable {N:Nat} {av bor:List Nat} {w0:World} {ops:Array Oper} {rest:List Oper} {k:St→Prop} {E:Env} {loc:List Xl} {X:World→Prop} {ty:TypeId} {pos:String} {af:Array Edge} {g:Option (Nat×Bool)} {bb want:Bool} {n:Nat} {t t2:TypeId} {x y:Operand}
theorem rq [hI:Xs prog t .i64] {p q:Nat} (h:Sw prog N av bor w0 ops rest ⟨(n,.int .i64 ((p*q:Nat):Int))::E,loc,X⟩ k) (hx:ev E x=some (.int .i64 (p:Nat)):=by rfl) (hy:ev E y=some (.int .i64 (q:Nat)):=by rfl) (hq:p*q<9223372036854775808) (hg:gdB ops E g=some (bb,want):=by rfl) (hbb:bb=want:=by exact aw) (hd:Nat.blt n N=true:=by rfl) :
  Sw prog N av bor w0 ops (⟨some n,.binOp .mul t x y t2,ty,pos,af,g⟩::rest) ⟨E,loc,X⟩ k:=gm (c:=((p*q:Nat):Int)) hx hy (by rw [←Int.natCast_mul];exact IntWalk.i64_in _ aa) hg hbb hd h
end
structure StaI (P:List Xd) (n w:Nat) where
 a:Nat
 b:Nat
 h1:a≤n
 h2:b=a+w
 Q:List Xd
 hQ:Q.Perm P
structure StaO (P:List Xd) (n:Nat) where
 z:Nat
 h1:1≤z
 h2:z≤2*n+20
 Q:List Xd
 hQ:Q.Perm P
set_option maxRecDepth 20000 in
theorem eZ (s:Xk) (P:List Xd) (hs:s.n=P.length) (hm:s.n≤1000000):Ct prog 141 #[s.v,.int .i64 (s.n:Nat),cmpF] [postR s P] (fun _=>True) (PermAt s P):=by
 have hP:P.Perm P:=Ql P
 refine cP func141 ntmps141 fun av bor w0=>?_
 repeat' (first|refine gs ?_|fail)
 refine aq (ι:=StaI P s.n 20) (fun r=>⟨[(0,s.v),(1,.int .i64 (s.n:Nat)),(2,cmpF),(6,.int .i64 20),(7,.int .i64 (r.a:Nat)),(8,.int .i64 (r.b:Nat))],[postR s r.Q],fun _=>True⟩) (fun r=>s.n-r.a) ⟨0,20,Z2 _,rfl,P,hP⟩ (ai am (ak _) fun _ h=>h) fun r=>?_
 obtain ⟨a,b,h1,h2,Q,hQ⟩:=r
 simp only
 repeat' (first|refine dL (q:=20) (hq:=by omega) ?_|refine gs ?_|(refine fg (P:=P) (hQ:=by assumption) (hc:=fun Q hQ=>cE s Q a b (hs.trans hQ.length_eq.symm) hm aa aa) fun Q2 hQ2=>?_)|(refine fg (P:=P) (hQ:=by assumption) (hc:=fun Q hQ=>cE s Q a s.n (hs.trans hQ.length_eq.symm) hm aa aa) fun Q2 hQ2=>?_)|(refine gp ?_ ?_<;>intro hx_ this)|fail)
 · exact ⟨(⟨b,b+20,by omega,rfl,Q2,hQ2⟩:StaI P s.n 20),(by show s.n-b<s.n-a;omega),ai am (ak _) fun _ h=>h⟩
 · refine aq (ι:=StaO P s.n) (fun r=>⟨[(0,s.v),(1,.int .i64 (s.n:Nat)),(2,cmpF),(6,.int .i64 (r.z:Nat))],[postR s r.Q],fun _=>True⟩) (fun r=>s.n-r.z) ⟨20,by omega,by omega,Q2,hQ2⟩ (ai am (ak _) fun _ h=>h) fun r=>?_
   clear h1 h2 hQ hQ2
   obtain ⟨z,h1,h2,Q,hQ⟩:=r
   simp only
   repeat' (first|refine rq (p:=2) (hq:=by omega) ?_|refine gs ?_|(refine gp ?_ ?_<;>intro hx_ this)|fail)
   · have hzn:z<s.n:=by omega
     refine aq (ι:=StaI P s.n (2*z)) (fun r=>⟨[(0,s.v),(1,.int .i64 (s.n:Nat)),(2,cmpF),(6,.int .i64 (z:Nat)),(7,.int .i64 (r.a:Nat)),(8,.int .i64 (r.b:Nat))],[postR s r.Q],fun _=>True⟩) (fun r=>s.n-r.a) ⟨0,2*z,Z2 _,(ZS _).symm,Q,hQ⟩ (ai am (ak _) fun _ h=>h) fun r=>?_
     obtain ⟨a,b,h3,h4,Q3,hQ3⟩:=r
     simp only
     repeat' (first|refine dL (hq:=by omega) ?_|refine rq (p:=2) (hq:=by omega) ?_|refine rq (q:=2) (hq:=by omega) ?_|refine gs ?_|(refine fg (P:=P) (hQ:=by assumption) (hc:=fun Q hQ=>cf (b-a) s Q a (a+z) b (ZV _) (hs.trans hQ.length_eq.symm) hm aa aa aa) fun Q2 hQ2=>?_)|(refine fg (P:=P) (hQ:=by assumption) (hc:=fun Q hQ=>cf (s.n-a) s Q a (a+z) s.n (ZV _) (hs.trans hQ.length_eq.symm) hm aa aa aa) fun Q2 hQ2=>?_)|(refine gp ?_ ?_<;>intro hx_ this)|fail)
     · exact ⟨(⟨b,b+2*z,by omega,rfl,Q2,hQ2⟩:StaI P s.n (2*z)),(by show s.n-b<s.n-a;omega),ai am (ak _) fun _ h=>h⟩
     all_goals
      refine ⟨(⟨z*2,by omega,by omega,_,?_⟩:StaO P s.n),(by show s.n-z*2<s.n-z;omega),ai am (ak _) fun _ h=>h⟩
      assumption
   · exact aR (aH rfl) ⟨rfl,Q,hQ,rfl⟩
theorem sortStable_ct (s:Xk) (P:List Xd) (hs:s.n=P.length) (hm:s.n≤1000000):Ct prog 82 #[s.v,cmpF] [postR s P] (fun _=>True) (PermAt s P):=by
 have hP:P.Perm P:=Ql P
 refine cP func82 ntmps82 fun av bor w0=>?_
 repeat' (first|refine gs ?_|(refine fg (P:=P) (hQ:=by assumption) (hc:=fun Q hQ=>eZ s Q (hs.trans hQ.length_eq.symm) hm) fun Q2 hQ2=>?_)|fail)
 exact aR (aH rfl) ⟨rfl,Q2,hQ2,rfl⟩
end Go.Proofs.YtaolfiikahlmkaaGreatDoor
namespace Go.Proofs.YtaolfiikahlmkaaGreatDoor
open Go Go.Proofs Sy Tryz
theorem oq (L:List Xd):∀ cs∈L.map Xd.cells,cs.all (·.oneCell')=true:=by
 intro r hr
 obtain ⟨a,_,rfl⟩:=QH.1 hr
 rfl
def AllPAt (l:List Xb) (u:Value) (X:World→Prop):Prop:=∃ (s:Xk) (P:List Xd),u=s.v∧(P.map Xd.can).Perm (l.flatMap postsV)∧P.length≤1000000∧∀ w,X w→Xf w 11 s (P.map Xd.cells)
def Behind (w:World) (P:List Xd):Prop:=∀ p∈P,Strs w p.to p.toL∧Ints w p.ed p.edL
def AllAtS (l:List Xb) (u:Value) (X:World→Prop):Prop:=∃ (s:Xk) (P:List Xd),u=s.v∧(P.map Xd.can).Perm (l.flatMap postsV)∧P.length≤1000000∧∀ w,X w→Xf w 11 s (P.map Xd.cells)∧Behind w P
theorem AllAtS.weak {l:List Xb} {u:Value} {X:World→Prop} (h:AllAtS l u X):AllPAt l u X:=by
 obtain ⟨s,P,h1,h2,h3,h4⟩:=h
 exact ⟨s,P,h1,h2,h3,fun w hw=>(h4 w hw).1⟩
theorem Behind.nil {w:World}:Behind w []:=fun p hp=>(Qi hp).elim
theorem Behind.app {w:World} {P Q:List Xd} (h:Behind w P) (k:Behind w Q):Behind w (P++Q):=fun p hp=>(Qw.1 hp).elim (h p) (k p)
structure AllI (l:List Xb) where
 k:Nat
 hk:k≤l.length
 P:List Xd
 hP:P.map Xd.can=(l.take k).flatMap postsV
 hm:P.length≤k*1000
 n:Nat
 hn:n=P.length
 xs:List Value
 hxs:xs=(P.map Xd.cells).flatten
 A:Option Addr
 c:Nat
theorem FH (s:Xk) (l:List Xb) (hok:∀ c∈l,Xw c.actsL) (hlen:∀ c∈l,c.actsL.length≤1000) (hll:l.length≤1000):Mk prog 42 #[s.v] (fun w=>Chains w s l∧Xe w) (AllAtS l):=by
 refine dm func42 ntmps42 fun av bor w0=>?_
 refine aQ (p:=s.n=l.length∧s.n≤maxLen∧(0<l.length→s.p.isSome=true)) (fun w h=>⟨h.1.len_,h.1.max_,h.1.some_⟩) fun ⟨hl,hm,hp⟩=>?_
 simp only [maxLen] at hm
 refine cL 68 11 ?_
 repeat' (first|refine gs ?_|fail)
 refine aq (ι:=AllI l) (fun i=>⟨[(3,.slice i.A i.n i.c),(6,s.v),(7,.int .i64 (s.n:Nat)),(8,.int .i64 (i.k:Nat))],[orow 68 11 (.slice i.A i.n i.c) i.n i.xs],fun w=>(Chains w s l∧Xe w)∧Behind w i.P⟩) (fun i=>l.length-i.k) ⟨0,Z2 _,[],rfl,Z2 _,0,rfl,[],rfl,none,0⟩ (ai am (ak _) fun _ h=>⟨h,Behind.nil⟩) fun i=>?_
 obtain ⟨k,hk,P,hP,hPm,n,hn,xs,hxs,A,cp⟩:=i
 simp only
 repeat' (first|refine gs ?_|(refine gp ?_ ?_<;>intro hx_ this)|fail)
 · have hlt:k<l.length:=by omega
   have hp':=hp aa
   obtain ⟨c,hc⟩:∃ c,l[k]?=some c:=⟨_,Zc hlt⟩
   have hcm:=Z4 hc
   have hcl:=hlen c hcm
   have hof:=Ev c (hok c hcm) aa
   repeat' (first|refine gs ?_|refine gs1 fun _=>?_|(refine aD (q:=k*6) ?_)|(refine aN (cs:=c.cells) (hF:=fun w h=>Chains.get h.1.1 hc) ?_)|fail)
   refine bF (hc:=hof) (hX:=fun w h=>⟨h.1.1.2 c hcm,h.1.2⟩) fun v1 X1 h1=>?_
   obtain ⟨s1,Q,rfl,hQ,hQl,hw⟩:=h1
   refine iR (p:=s1.n=Q.length) (fun w h=>by simpa using Xf.len (hw w h.2).1) fun hl1=>?_
   have hnl:n+s1.n≤1000000:=by omega
   refine aL (size:=11) (news:=(Q.map Xd.cells).flatten) (q:=s1.n) rfl rfl rfl rfl (fun _=>At.there _ (At.here _)) (fun w G=>gC (hw w G.keep.now.2).1 (oq Q)) aa (by simp only [maxLen];omega) rfl ?_ rfl ?_
   · (with_reducible rfl)
   intro A2 c2
   repeat' (first|refine gs ?_|fail)
   exact ⟨(⟨k+1,hlt,P++Q,by rw [ZU,hP,hQ,Qe,hc,Qs,QO,List.flatMap_cons,List.flatMap_nil,ZI],by rw [Zz];omega,n+s1.n,by rw [Zz,hn,hl1],xs++(Q.map Xd.cells).flatten,by rw [hxs,ZU,List.flatten_append],A2,c2⟩:AllI l),(by show l.length-(k+1)<l.length-k;omega),ai am (Z0 _ (ak _)) fun w h=>⟨h.1.1,h.1.2.app (hw w h.2).2⟩⟩
 · have hkE:k=l.length:=by omega
   subst hn hxs
   have hPb:P.length≤1000000:=by omega
   have hst:=sortStable_ct ⟨A,P.length,cp⟩ P rfl hPb
   repeat' (first|refine gs ?_|(refine cb (hc:=hst) (h:=fun Q hQ=>?_))|fail)
   exact ab (ag rfl rfl) ⟨⟨A,P.length,cp⟩,Q,rfl,by
    have h1:=hQ.map Xd.can
    rw [hP,hkE,Qf] at h1
    exact h1,by rw [hQ.length_eq];exact hPb,fun w h=>⟨bu (h.2 _ ao) (by rw [ZE];exact hQ.length_eq.symm) (cells11 Q),fun p hp=>h.1.2 p (hQ.mem_iff.1 hp)⟩⟩
theorem yY (s:Xk) (l:List Xb) (hok:∀ c∈l,Xw c.actsL) (hlen:∀ c∈l,c.actsL.length≤1000) (hll:l.length≤1000):Mk prog 42 #[s.v] (fun w=>Chains w s l∧Xe w) (AllPAt l):=yu (FH s l hok hlen hll) fun u X h=>h.weak
theorem lg:∀ (ks:List ByteArray) (k:ByteArray),mget (setM ks) k=bif hasS ks k then some (.bool true) else none
 | [],_=>rfl
 | a::ks,k=>by
  have ih:=lg ks k
  have e:Xj.eqb k a=seqB k a:=Bool.eq_iff_iff.2 ((Xj.eqb_iff k a).trans seqB_iff.symm)
  simp only [setM,ZZ,mget,hasS,List.any_cons,e] at ih ⊢
  cases seqB k a with
  | true=>rfl
  | false=>simpa using ih
section
variable {N:Nat} {av bor:List Nat} {w0:World} {ops:Array Oper} {rest:List Oper} {k:St→Prop} {E:Env} {loc:List Xl} {X:World→Prop} {x:Operand} {st:St}
variable {n:Nat} {ty:TypeId} {pos:String} {af:Array Edge} {g:Option (Nat×Bool)} {bb want:Bool}
theorem tj {m x:Operand} {q:Nat} {ks:List ByteArray} {kk:ByteArray} (h:Sw prog N av bor w0 ops rest ⟨(n,.bool (hasS ks kk))::E,loc,X⟩ k) (hm:ev E m=some (.map (some q)):=by rfl) (hx:ev E x=some (.string kk):=by rfl) (hl:mapr q (setM ks)∈loc:=by exact aM) (hg:gdB ops E g=some (bb,want):=by rfl) (hb:bb=want:=by exact aw) (hd:Nat.blt n N=true:=by rfl):Sw prog N av bor w0 ops (⟨some n,.lookup 117 m x false,ty,pos,af,g⟩::rest) ⟨E,loc,X⟩ k:=by
 refine fS (κ:=ByteArray) (kk:=kk) (o:=_) hm hx (de hl) (lg ks kk) hg hb hd ?_
 have e:(bif hasS ks kk then some (Value.bool true) else none).getD (Value.bool false)=.bool (hasS ks kk):=by cases hasS ks kk<;>rfl
 exact e▸h
theorem za (q1 q2 q3 q4:Nat) (hx:ev st.env x=some (setsV q1 q2 q3 q4)):Sy.Yields prog N av bor w0 st (.field 119 x 2) ty (.map (some q3)):=Sy.Yields.mk fun A w ok d pos af g=>by
 simp only [setsV] at hx
 simp [execOp,ok.eval hx,Instr.field,run_underlying underlying119,asAgg,part,isAgg,run_underlying underlying117]
theorem nO {q1 q2 q3 q4:Nat} (h:Sw prog N av bor w0 ops rest ⟨(n,.map (some q3))::E,loc,X⟩ k) (hx:ev E x=some (setsV q1 q2 q3 q4):=by rfl) (hg:gdB ops E g=some (bb,want):=by rfl) (hbb:bb=want:=by exact aw) (hd:Nat.blt n N=true:=by rfl) :
  Sw prog N av bor w0 ops (⟨some n,.field 119 x 2,ty,pos,af,g⟩::rest) ⟨E,loc,X⟩ k:=al (za q1 q2 q3 q4 hx) hg hbb hd h
end
def chainC (l:List Xb) (id:ByteArray):Xb:=(findC l id).getD Xb.zero
def tieC (l:List Xb) (id:ByteArray):En:=tieV (chainC l id).actsL ((chainC l id).acts.n:Int)
theorem qR (l:List Xb) (id:ByteArray):(chainC l id∈l∧(chainC l id).id=id)∨chainC l id=Xb.zero:=by
 unfold chainC
 cases h:findC l id with
 | none=>exact .inr rfl
 | some c =>
  rw [findC] at h
  exact .inl ⟨Qx h,seqB_iff.1 (List.find?_some (p:=fun c:Xb=>seqB c.id id) h)⟩
theorem BD {l:List Xb} (id:ByteArray) {w:World} {s:Xk} (h:Chains w s l):(chainC l id).at_ w:=by
 rcases qR l id with ⟨hm,_⟩|hz
 · exact h.2 _ hm
 · rw [hz];exact ⟨bz w 20,fun a ha=>(Qi ha).elim⟩
theorem BC {l:List Xb} (id:ByteArray) (h:∀ c∈l,Xw c.actsL):Xw (chainC l id).actsL:=by
 rcases qR l id with ⟨hm,_⟩|hz
 · exact h _ hm
 · rw [hz];exact ⟨fun a ha=>(Qi ha).elim,fun a ha=>(Qi ha).elim⟩
theorem II (s:Xk) (l:List Xb) (id:ByteArray) (hok:∀ c∈l,Xw c.actsL) :
  Ct prog 60 #[s.v,.string id] [] (fun w=>Chains w s l∧Xe w) fun u R _=>∃ q1 q2 q3 q4,u=setsV q1 q2 q3 q4∧R=setsR q1 q2 q3 q4 (tieC l id):=by
 refine eK (args:=[_,_]) (Post:=fun u R=>∃ q1 q2 q3 q4,u=setsV q1 q2 q3 q4∧R=setsR q1 q2 q3 q4 (tieC l id)) _ func60 rfl ntmps60 rfl fun av bor w0=>?_
 have hD:=BC id hok
 have hti:=Jd (chainC l id) hD ((chainC l id).acts.n:Int)
 have hfi:Pu prog 12 #[s.v,.string id] (fun w=>Chains w s l) (.tuple #[(chainC l id).v,.bool (findC l id).isSome]):=yG s l id
 generalize hB:(findC l id).isSome=B at *
 repeat' (first|(refine ae (hc:=hfi) ?_)|refine gs ?_|refine gs1 fun _=>?_|fail)
 refine rx (hc:=hti) (hX:=fun w h=>⟨BD id h.1,h.2⟩) ?_
 rintro _ _ X' ⟨q1,q2,q3,q4,rfl,rfl⟩
 repeat' (first|refine gs ?_|fail)
 exact ab (bV rfl rfl aM (by rfl)) ⟨_,QC _ _,q1,q2,q3,q4,rfl,rfl⟩
def blockedV (l:List Xb) (a b:ByteArray):Bool:=hasS (tieC l a).b b||hasS (tieC l b).b a
theorem pj (s:Xk) (l:List Xb) (a b:ByteArray) (hok:∀ c∈l,Xw c.actsL):Pu prog 25 #[s.v,.string a,.string b] (fun w=>Chains w s l∧Xe w) (.bool (blockedV l a b)):=by
 refine ax func25 ntmps25 fun av bor w0=>?_
 have h1:=II s l a hok
 have h2:=II s l b hok
 unfold blockedV
 generalize tieC l a=ta at *
 generalize tieC l b=tb at *
 repeat' (first|refine gs ?_|fail)
 refine rx (hc:=h1) (hX:=fun w h=>h) ?_
 rintro _ _ X1 ⟨q1,q2,q3,q4,rfl,rfl⟩
 unfold setsR
 repeat' (first|refine gs ?_|(refine nO ?_)|(refine tj ?_)|(refine gp ?_ ?_<;>intro hx_ this)|fail)
 · (all_goals (apply ab;apply ag;rfl;rfl));all_goals (simp only [*,Za,Zg,Zf];done)
 · refine rx (hc:=h2) (hX:=fun w h=>h.1) ?_
   rintro _ _ X2 ⟨p1,p2,p3,p4,rfl,rfl⟩
   unfold setsR
   repeat' (first|refine gs ?_|(refine nO ?_)|(refine tj ?_)|fail)
   (all_goals (apply ab;apply ag;rfl;rfl));all_goals (simp only [*,Za,Zg,Zf];done)
instance:Ek prog 237 4 (keyD Int):=⟨aj⟩
section
variable {P:Program} {N:Nat} {av bor:List Nat} {w0:World} {ops:Array Oper} {rest:List Oper} {kk:St→Prop} {E:Env} {loc:List Xl} {X:World→Prop} {x y:Operand} {t t2:TypeId}
variable {n:Nat} {ty:TypeId} {pos:String} {af:Array Edge} {g:Option (Nat×Bool)} {bb want:Bool}
theorem dp {a b:ByteArray} (v:Bool) (hx:ev E x=some (.string a):=by rfl) (hy:ev E y=some (.string b):=by rfl) (hv:seqB a b=v) (hg:gdB ops E g=some (bb,want):=by rfl) (hbb:bb=want:=by exact aw) (hd:Nat.blt n N=true:=by rfl) (h:Sw P N av bor w0 ops rest ⟨(n,.bool v)::E,loc,X⟩ kk) :
  Sw P N av bor w0 ops (⟨some n,.binOp .eql t x y t2,ty,pos,af,g⟩::rest) ⟨E,loc,X⟩ kk:=al (mB v hx hy hv) hg hbb hd h
end
def admV (l:List Xb) (a au:ByteArray):Bool:=bif seqB a au then true else !blockedV l a au
theorem mn (s:Xk) (l:List Xb) (a:ByteArray) (p:Xd) (hok:∀ c∈l,Xw c.actsL):Pu prog 58 #[s.v,.string a,p.v] (fun w=>Chains w s l∧Xe w) (.bool (admV l a p.author)):=by
 refine ax func58 ntmps58 fun av bor w0=>?_
 have hb:=pj s l a p.author hok
 cases h:seqB a p.author with
 | true =>
  repeat' (first|refine dp _ (hv:=h) (h:=?_)|refine gs ?_|refine gs1 fun _=>?_|fail)
  exact ab (ag rfl rfl) (by rw [admV,h];rfl)
 | false =>
  repeat' (first|refine dp _ (hv:=h) (h:=?_)|(refine ae (hc:=hb) ?_)|refine gs ?_|refine gs1 fun _=>?_|fail)
  exact ab (ag rfl rfl) (by rw [admV,h];rfl)
def hasM (c:Xb) (kind:Int) (id:ByteArray):Nat→List (Int×Value)
 | 0=>[]
 | i+1 =>
  let x:=c.actsL.getD i Xa.zero
  let m:=bif decide (x.kind=kind)&&seqB x.object id then mput (hasM c kind id i) (i:Int) (.bool true) else hasM c kind id i
  bif decide (x.kind=6)&&decide (0<m.length) then (match idxV c.actsL x.object with
   | some j=>mdel m (j:Int)
   | none=>m) else m
def hasV (c:Xb) (kind:Int) (id:ByteArray):Bool:=decide (0<(hasM c kind id c.actsL.length).length)
theorem j6 {κ β:Type} [Xj κ]:∀ (b:List (κ×β)) (k:κ) (v:β),(mput b k v).length≤b.length+1
 | [],_,_=>ZV 1
 | (k',v')::r,k,v=>by
  have ih:=j6 r k v
  rw [mput]
  cases Xj.eqb k k' with
  | true=>exact Nat.le_succ _
  | false=>rw [Zf,ZA,ZA];omega
theorem uF {κ β:Type} [Xj κ]:∀ (b:List (κ×β)) (k:κ),(mdel b k).length≤b.length
 | [],_=>ZV 0
 | (k',v')::r,k=>by
  have ih:=uF r k
  rw [mdel]
  cases Xj.eqb k k' with
  | true=>exact Nat.le_succ _
  | false=>rw [Zf,ZA,ZA];omega
theorem uO (c:Xb) (kind:Int) (id:ByteArray):∀ i,(hasM c kind id i).length≤i
 | 0=>ZV 0
 | i+1=>by
  have ih:=uO c kind id i
  rw [hasM]
  have h1:(bif decide ((c.actsL.getD i Xa.zero).kind=kind)&&seqB (c.actsL.getD i Xa.zero).object id then mput (hasM c kind id i) (i:Int) (.bool true) else hasM c kind id i).length≤i+1:=by
   cases decide ((c.actsL.getD i Xa.zero).kind=kind)&&seqB (c.actsL.getD i Xa.zero).object id with
   | true=>exact ZW (j6 _ _ _) (Nat.succ_le_succ ih)
   | false=>exact Nat.le_succ_of_le ih
  generalize (bif decide ((c.actsL.getD i Xa.zero).kind=kind)&&seqB (c.actsL.getD i Xa.zero).object id then mput (hasM c kind id i) (i:Int) (.bool true) else hasM c kind id i)=m at *
  cases decide ((c.actsL.getD i Xa.zero).kind=6)&&decide (0<m.length) with
  | false=>exact h1
  | true =>
   rw [Zg]
   cases idxV c.actsL (c.actsL.getD i Xa.zero).object with
   | none=>exact h1
   | some j=>exact ZW (uF _ _) h1
structure HasI (c:Xb) (kind:Int) (id:ByteArray) where
 k:Nat
 hk:k≤c.actsL.length
 M:List (Int×Value)
 hM:M=hasM c kind id k
theorem GC (c:Xb) (hc:Xw c.actsL) (hcl:c.actsL.length≤1000000) (kind:Int) (id:ByteArray):Pu prog 101 #[c.v,.int .i64 kind,.string id] (fun w=>c.at_ w∧Xe w) (.bool (hasV c kind id)):=by
 refine ax func101 ntmps101 fun av bor w0=>?_
 refine aQ (p:=c.acts.n=c.actsL.length∧c.acts.n≤maxLen∧(0<c.actsL.length→c.acts.p.isSome=true)) (fun w h=>⟨h.1.len_,h.1.max_,h.1.some_⟩) fun ⟨hl,hm,hp⟩=>?_
 simp only [maxLen] at hm
 repeat' (first|refine gs ?_|refine gs1 fun _=>?_|fail)
 refine eB Int (h:=fun q=>?_)
 repeat' (first|refine gs ?_|fail)
 rename_i b
 refine aq (ι:=HasI c kind id) (fun i=>⟨[(1,.int .i64 kind),(2,.string id),(3,.pointer (some ⟨b,0,none⟩)),(7,.map (some q)),(14,c.acts.v),(15,.int .i64 (c.acts.n:Nat)),(16,.int .i64 (i.k:Nat))],[mapr q i.M,cel b 35 c.cells],fun w=>c.at_ w∧Xe w⟩) (fun i=>c.actsL.length-i.k) ⟨0,Z2 _,[],rfl⟩ (ai am (ak _) fun _ h=>h) fun i=>?_
 obtain ⟨k,hk,M,hM⟩:=i
 simp only
 repeat' (first|refine gs ?_|(refine gp ?_ ?_<;>intro hx_ this)|fail)
 · have hlt:k<c.actsL.length:=by omega
   have hp':=hp aa
   obtain ⟨x,hx⟩:∃ x,c.actsL[k]?=some x:=⟨_,Zc hlt⟩
   have hxD:c.actsL.getD k Xa.zero=x:=by rw [Zp,hx];rfl
   have hix:=oI c hc x.object
   have hMl:M.length≤k:=by rw [hM];exact uO c kind id k
   have hS:∀ M1 M2,(bif decide (x.kind=kind)&&seqB x.object id then mput M (k:Int) (.bool true) else M)=M1→(bif decide (x.kind=6)&&decide (0<M1.length) then (match idxV c.actsL x.object with|some j=>mdel M1 (j:Int)|none=>M1) else M1)=M2→M2=hasM c kind id (k+1):=fun M1 M2 h1 h2=>by
    rw [hasM,hxD,←hM]
    simp only [h1,h2]
   cases h1:decide (x.kind=kind)<;>cases h2:seqB x.object id<;>cases h3:decide (x.kind=6)
   · have hm1:(bif decide (x.kind=kind)&&seqB x.object id then mput M (k:Int) (.bool true) else M)=M:=by rw [h1,h2];rfl
     have hM2:M=hasM c kind id (k+1):=hS _ _ hm1 (by rw [h3,Zk];rfl)
     have j:Nat:=0
     repeat' (first|refine aI (hab:=cw h1) ?_|refine aI (hab:=cw h3) ?_|refine gs ?_|refine gs1 fun _=>?_|(refine aD (q:=k*20) ?_)|(refine aN (cs:=x.cells) (hF:=fun w h=>Acts.get h.1 hx) ?_)|fail)
     exact ⟨(⟨k+1,hlt,M,hM2⟩:HasI c kind id),(by show c.actsL.length-(k+1)<c.actsL.length-k;omega),ai am (Z0 _ (ak _)) fun _ h=>h⟩
   · have hm1:(bif decide (x.kind=kind)&&seqB x.object id then mput M (k:Int) (.bool true) else M)=M:=by rw [h1,h2];rfl
     by_cases h4:0<(M).length
     · cases h5:idxV c.actsL x.object with
       | none =>
        rw [h5] at hix
        have hix:Pu prog 50 #[c.v,.string x.object] (fun w=>c.at_ w∧Xe w) (.tuple #[.int .i64 0,.bool false]):=hix
        have hM2:M=hasM c kind id (k+1):=hS _ _ hm1 (by rw [h3,Ze h4,Zi,Zg,h5])
        have j:Nat:=0
        repeat' (first|refine aF (hab:=bA h3) ?_|refine aI (hab:=cw h1) ?_|refine d5 ?_|(refine ae (hc:=hix) ?_)|refine gs ?_|refine gs1 fun _=>?_|(refine aD (q:=k*20) ?_)|(refine aN (cs:=x.cells) (hF:=fun w h=>Acts.get h.1 hx) ?_)|(refine dK (κ:=Int) (hl:=by exact aM) ?_)|fail)
        exact ⟨(⟨k+1,hlt,M,hM2⟩:HasI c kind id),(by show c.actsL.length-(k+1)<c.actsL.length-k;omega),ai am (Z0 _ (ak _)) fun _ h=>h⟩
       | some j =>
        rw [h5] at hix
        have hix:Pu prog 50 #[c.v,.string x.object] (fun w=>c.at_ w∧Xe w) (.tuple #[.int .i64 (j:Nat),.bool true]):=hix
        have hM2:mdel (M) (j:Int)=hasM c kind id (k+1):=hS _ _ hm1 (by rw [h3,Ze h4,Zi,Zg,h5])
        repeat' (first|refine aF (hab:=bA h3) ?_|refine aI (hab:=cw h1) ?_|refine d5 ?_|(refine ae (hc:=hix) ?_)|refine gs ?_|refine gs1 fun _=>?_|(refine aD (q:=k*20) ?_)|(refine aN (cs:=x.cells) (hF:=fun w h=>Acts.get h.1 hx) ?_)|(refine dK (κ:=Int) (hl:=by exact aM) ?_)|(refine gB (κ:=Int) (kk:=(j:Nat)) (hA:=by (repeat (first|exact At.here _|apply At.there))) ?_)|fail)
        exact ⟨(⟨k+1,hlt,mdel (M) (j:Int),hM2⟩:HasI c kind id),(by show c.actsL.length-(k+1)<c.actsL.length-k;omega),ai am (Z0 _ (ak _)) fun _ h=>h⟩
     · have hM2:M=hasM c kind id (k+1):=hS _ _ hm1 (by rw [h3,Zd h4,Zl];rfl)
       have j:Nat:=0
       repeat' (first|refine aF (hab:=bA h3) ?_|refine aI (hab:=cw h1) ?_|refine eQ ?_|refine gs ?_|refine gs1 fun _=>?_|(refine aD (q:=k*20) ?_)|(refine aN (cs:=x.cells) (hF:=fun w h=>Acts.get h.1 hx) ?_)|(refine dK (κ:=Int) (hl:=by exact aM) ?_)|fail)
       exact ⟨(⟨k+1,hlt,M,hM2⟩:HasI c kind id),(by show c.actsL.length-(k+1)<c.actsL.length-k;omega),ai am (Z0 _ (ak _)) fun _ h=>h⟩
   · have hm1:(bif decide (x.kind=kind)&&seqB x.object id then mput M (k:Int) (.bool true) else M)=M:=by rw [h1,h2];rfl
     have hM2:M=hasM c kind id (k+1):=hS _ _ hm1 (by rw [h3,Zk];rfl)
     have j:Nat:=0
     repeat' (first|refine aI (hab:=cw h1) ?_|refine aI (hab:=cw h3) ?_|refine gs ?_|refine gs1 fun _=>?_|(refine aD (q:=k*20) ?_)|(refine aN (cs:=x.cells) (hF:=fun w h=>Acts.get h.1 hx) ?_)|fail)
     exact ⟨(⟨k+1,hlt,M,hM2⟩:HasI c kind id),(by show c.actsL.length-(k+1)<c.actsL.length-k;omega),ai am (Z0 _ (ak _)) fun _ h=>h⟩
   · have hm1:(bif decide (x.kind=kind)&&seqB x.object id then mput M (k:Int) (.bool true) else M)=M:=by rw [h1,h2];rfl
     by_cases h4:0<(M).length
     · cases h5:idxV c.actsL x.object with
       | none =>
        rw [h5] at hix
        have hix:Pu prog 50 #[c.v,.string x.object] (fun w=>c.at_ w∧Xe w) (.tuple #[.int .i64 0,.bool false]):=hix
        have hM2:M=hasM c kind id (k+1):=hS _ _ hm1 (by rw [h3,Ze h4,Zi,Zg,h5])
        have j:Nat:=0
        repeat' (first|refine aF (hab:=bA h3) ?_|refine aI (hab:=cw h1) ?_|refine d5 ?_|(refine ae (hc:=hix) ?_)|refine gs ?_|refine gs1 fun _=>?_|(refine aD (q:=k*20) ?_)|(refine aN (cs:=x.cells) (hF:=fun w h=>Acts.get h.1 hx) ?_)|(refine dK (κ:=Int) (hl:=by exact aM) ?_)|fail)
        exact ⟨(⟨k+1,hlt,M,hM2⟩:HasI c kind id),(by show c.actsL.length-(k+1)<c.actsL.length-k;omega),ai am (Z0 _ (ak _)) fun _ h=>h⟩
       | some j =>
        rw [h5] at hix
        have hix:Pu prog 50 #[c.v,.string x.object] (fun w=>c.at_ w∧Xe w) (.tuple #[.int .i64 (j:Nat),.bool true]):=hix
        have hM2:mdel (M) (j:Int)=hasM c kind id (k+1):=hS _ _ hm1 (by rw [h3,Ze h4,Zi,Zg,h5])
        repeat' (first|refine aF (hab:=bA h3) ?_|refine aI (hab:=cw h1) ?_|refine d5 ?_|(refine ae (hc:=hix) ?_)|refine gs ?_|refine gs1 fun _=>?_|(refine aD (q:=k*20) ?_)|(refine aN (cs:=x.cells) (hF:=fun w h=>Acts.get h.1 hx) ?_)|(refine dK (κ:=Int) (hl:=by exact aM) ?_)|(refine gB (κ:=Int) (kk:=(j:Nat)) (hA:=by (repeat (first|exact At.here _|apply At.there))) ?_)|fail)
        exact ⟨(⟨k+1,hlt,mdel (M) (j:Int),hM2⟩:HasI c kind id),(by show c.actsL.length-(k+1)<c.actsL.length-k;omega),ai am (Z0 _ (ak _)) fun _ h=>h⟩
     · have hM2:M=hasM c kind id (k+1):=hS _ _ hm1 (by rw [h3,Zd h4,Zl];rfl)
       have j:Nat:=0
       repeat' (first|refine aF (hab:=bA h3) ?_|refine aI (hab:=cw h1) ?_|refine eQ ?_|refine gs ?_|refine gs1 fun _=>?_|(refine aD (q:=k*20) ?_)|(refine aN (cs:=x.cells) (hF:=fun w h=>Acts.get h.1 hx) ?_)|(refine dK (κ:=Int) (hl:=by exact aM) ?_)|fail)
       exact ⟨(⟨k+1,hlt,M,hM2⟩:HasI c kind id),(by show c.actsL.length-(k+1)<c.actsL.length-k;omega),ai am (Z0 _ (ak _)) fun _ h=>h⟩
   · have hm1:(bif decide (x.kind=kind)&&seqB x.object id then mput M (k:Int) (.bool true) else M)=M:=by rw [h1,h2];rfl
     have hM2:M=hasM c kind id (k+1):=hS _ _ hm1 (by rw [h3,Zk];rfl)
     have j:Nat:=0
     repeat' (first|refine aF (hab:=bA h1) ?_|refine aI (hab:=cw h3) ?_|refine dp _ (hv:=h2) (h:=?_)|refine gs ?_|refine gs1 fun _=>?_|(refine aD (q:=k*20) ?_)|(refine aN (cs:=x.cells) (hF:=fun w h=>Acts.get h.1 hx) ?_)|fail)
     exact ⟨(⟨k+1,hlt,M,hM2⟩:HasI c kind id),(by show c.actsL.length-(k+1)<c.actsL.length-k;omega),ai am (Z0 _ (ak _)) fun _ h=>h⟩
   · have hm1:(bif decide (x.kind=kind)&&seqB x.object id then mput M (k:Int) (.bool true) else M)=M:=by rw [h1,h2];rfl
     by_cases h4:0<(M).length
     · cases h5:idxV c.actsL x.object with
       | none =>
        rw [h5] at hix
        have hix:Pu prog 50 #[c.v,.string x.object] (fun w=>c.at_ w∧Xe w) (.tuple #[.int .i64 0,.bool false]):=hix
        have hM2:M=hasM c kind id (k+1):=hS _ _ hm1 (by rw [h3,Ze h4,Zi,Zg,h5])
        have j:Nat:=0
        repeat' (first|refine aF (hab:=bA h1) ?_|refine aF (hab:=bA h3) ?_|refine dp _ (hv:=h2) (h:=?_)|refine d5 ?_|(refine ae (hc:=hix) ?_)|refine gs ?_|refine gs1 fun _=>?_|(refine aD (q:=k*20) ?_)|(refine aN (cs:=x.cells) (hF:=fun w h=>Acts.get h.1 hx) ?_)|(refine dK (κ:=Int) (hl:=by exact aM) ?_)|fail)
        exact ⟨(⟨k+1,hlt,M,hM2⟩:HasI c kind id),(by show c.actsL.length-(k+1)<c.actsL.length-k;omega),ai am (Z0 _ (ak _)) fun _ h=>h⟩
       | some j =>
        rw [h5] at hix
        have hix:Pu prog 50 #[c.v,.string x.object] (fun w=>c.at_ w∧Xe w) (.tuple #[.int .i64 (j:Nat),.bool true]):=hix
        have hM2:mdel (M) (j:Int)=hasM c kind id (k+1):=hS _ _ hm1 (by rw [h3,Ze h4,Zi,Zg,h5])
        repeat' (first|refine aF (hab:=bA h1) ?_|refine aF (hab:=bA h3) ?_|refine dp _ (hv:=h2) (h:=?_)|refine d5 ?_|(refine ae (hc:=hix) ?_)|refine gs ?_|refine gs1 fun _=>?_|(refine aD (q:=k*20) ?_)|(refine aN (cs:=x.cells) (hF:=fun w h=>Acts.get h.1 hx) ?_)|(refine dK (κ:=Int) (hl:=by exact aM) ?_)|(refine gB (κ:=Int) (kk:=(j:Nat)) (hA:=by (repeat (first|exact At.here _|apply At.there))) ?_)|fail)
        exact ⟨(⟨k+1,hlt,mdel (M) (j:Int),hM2⟩:HasI c kind id),(by show c.actsL.length-(k+1)<c.actsL.length-k;omega),ai am (Z0 _ (ak _)) fun _ h=>h⟩
     · have hM2:M=hasM c kind id (k+1):=hS _ _ hm1 (by rw [h3,Zd h4,Zl];rfl)
       have j:Nat:=0
       repeat' (first|refine aF (hab:=bA h1) ?_|refine aF (hab:=bA h3) ?_|refine dp _ (hv:=h2) (h:=?_)|refine eQ ?_|refine gs ?_|refine gs1 fun _=>?_|(refine aD (q:=k*20) ?_)|(refine aN (cs:=x.cells) (hF:=fun w h=>Acts.get h.1 hx) ?_)|(refine dK (κ:=Int) (hl:=by exact aM) ?_)|fail)
       exact ⟨(⟨k+1,hlt,M,hM2⟩:HasI c kind id),(by show c.actsL.length-(k+1)<c.actsL.length-k;omega),ai am (Z0 _ (ak _)) fun _ h=>h⟩
   · have hm1:(bif decide (x.kind=kind)&&seqB x.object id then mput M (k:Int) (.bool true) else M)=mput M (k:Int) (.bool true):=by rw [h1,h2];rfl
     have hMl2:=j6 M (k:Int) (Value.bool true)
     have hM2:mput M (k:Int) (.bool true)=hasM c kind id (k+1):=hS _ _ hm1 (by rw [h3,Zk];rfl)
     have j:Nat:=0
     repeat' (first|refine aF (hab:=bA h1) ?_|refine aI (hab:=cw h3) ?_|refine dp _ (hv:=h2) (h:=?_)|refine gs ?_|refine gs1 fun _=>?_|(refine aD (q:=k*20) ?_)|(refine aN (cs:=x.cells) (hF:=fun w h=>Acts.get h.1 hx) ?_)|(refine dB (κ:=Int) (kk:=(k:Int)) (hA:=by (repeat (first|exact At.here _|apply At.there))) ?_)|fail)
     exact ⟨(⟨k+1,hlt,mput M (k:Int) (.bool true),hM2⟩:HasI c kind id),(by show c.actsL.length-(k+1)<c.actsL.length-k;omega),ai am (Z0 _ (ak _)) fun _ h=>h⟩
   · have hm1:(bif decide (x.kind=kind)&&seqB x.object id then mput M (k:Int) (.bool true) else M)=mput M (k:Int) (.bool true):=by rw [h1,h2];rfl
     have hMl2:=j6 M (k:Int) (Value.bool true)
     by_cases h4:0<(mput M (k:Int) (.bool true)).length
     · cases h5:idxV c.actsL x.object with
       | none =>
        rw [h5] at hix
        have hix:Pu prog 50 #[c.v,.string x.object] (fun w=>c.at_ w∧Xe w) (.tuple #[.int .i64 0,.bool false]):=hix
        have hM2:mput M (k:Int) (.bool true)=hasM c kind id (k+1):=hS _ _ hm1 (by rw [h3,Ze h4,Zi,Zg,h5])
        have j:Nat:=0
        repeat' (first|refine aF (hab:=bA h1) ?_|refine aF (hab:=bA h3) ?_|refine dp _ (hv:=h2) (h:=?_)|refine d5 ?_|(refine ae (hc:=hix) ?_)|refine gs ?_|refine gs1 fun _=>?_|(refine aD (q:=k*20) ?_)|(refine aN (cs:=x.cells) (hF:=fun w h=>Acts.get h.1 hx) ?_)|(refine dB (κ:=Int) (kk:=(k:Int)) (hA:=by (repeat (first|exact At.here _|apply At.there))) ?_)|(refine dK (κ:=Int) (hl:=by exact aM) ?_)|fail)
        exact ⟨(⟨k+1,hlt,mput M (k:Int) (.bool true),hM2⟩:HasI c kind id),(by show c.actsL.length-(k+1)<c.actsL.length-k;omega),ai am (Z0 _ (ak _)) fun _ h=>h⟩
       | some j =>
        rw [h5] at hix
        have hix:Pu prog 50 #[c.v,.string x.object] (fun w=>c.at_ w∧Xe w) (.tuple #[.int .i64 (j:Nat),.bool true]):=hix
        have hM2:mdel (mput M (k:Int) (.bool true)) (j:Int)=hasM c kind id (k+1):=hS _ _ hm1 (by rw [h3,Ze h4,Zi,Zg,h5])
        repeat' (first|refine aF (hab:=bA h1) ?_|refine aF (hab:=bA h3) ?_|refine dp _ (hv:=h2) (h:=?_)|refine d5 ?_|(refine ae (hc:=hix) ?_)|refine gs ?_|refine gs1 fun _=>?_|(refine aD (q:=k*20) ?_)|(refine aN (cs:=x.cells) (hF:=fun w h=>Acts.get h.1 hx) ?_)|(refine dB (κ:=Int) (kk:=(k:Int)) (hA:=by (repeat (first|exact At.here _|apply At.there))) ?_)|(refine dK (κ:=Int) (hl:=by exact aM) ?_)|(refine gB (κ:=Int) (kk:=(j:Nat)) (hA:=by (repeat (first|exact At.here _|apply At.there))) ?_)|fail)
        exact ⟨(⟨k+1,hlt,mdel (mput M (k:Int) (.bool true)) (j:Int),hM2⟩:HasI c kind id),(by show c.actsL.length-(k+1)<c.actsL.length-k;omega),ai am (Z0 _ (ak _)) fun _ h=>h⟩
     · have hM2:mput M (k:Int) (.bool true)=hasM c kind id (k+1):=hS _ _ hm1 (by rw [h3,Zd h4,Zl];rfl)
       have j:Nat:=0
       repeat' (first|refine aF (hab:=bA h1) ?_|refine aF (hab:=bA h3) ?_|refine dp _ (hv:=h2) (h:=?_)|refine eQ ?_|refine gs ?_|refine gs1 fun _=>?_|(refine aD (q:=k*20) ?_)|(refine aN (cs:=x.cells) (hF:=fun w h=>Acts.get h.1 hx) ?_)|(refine dB (κ:=Int) (kk:=(k:Int)) (hA:=by (repeat (first|exact At.here _|apply At.there))) ?_)|(refine dK (κ:=Int) (hl:=by exact aM) ?_)|fail)
       exact ⟨(⟨k+1,hlt,mput M (k:Int) (.bool true),hM2⟩:HasI c kind id),(by show c.actsL.length-(k+1)<c.actsL.length-k;omega),ai am (Z0 _ (ak _)) fun _ h=>h⟩
 · have hkE:k=c.actsL.length:=by omega
   by_cases h4:0<M.length
   · repeat' (first|refine d5 ?_|refine gs ?_|(refine dK (κ:=Int) (hl:=by exact aM) ?_)|fail)
     exact ab (ag rfl rfl) (by rw [hasV,←hkE,←hM,Ze h4])
   · repeat' (first|refine eQ ?_|refine gs ?_|(refine dK (κ:=Int) (hl:=by exact aM) ?_)|fail)
     exact ab (ag rfl rfl) (by rw [hasV,←hkE,←hM,Zd h4])
end Go.Proofs.YtaolfiikahlmkaaGreatDoor
namespace Go.Proofs.YtaolfiikahlmkaaGreatDoor
open Go Go.Proofs Sy Go.Shelf Go.Maps Go.Sort Tryz
theorem keysMS_c:KeysC prog 102 179 116 where
 keys:=fun mb W=>(callsIn_wide (n:=5)).1 (AnyZ.keys_in Tryz.keys_map_string_bool_string_bool Fence.wide 5 trivial rfl mb W)
theorem sortedMS_c:SortedSC prog 51 179 9 where
 key:=underlying9
 sorted:=fun w Bm q nn D0 hB hc hown h1 h2=>(callsIn_wide (n:=5)).1 (AnyZ.sorted_in Tryz.sortedS Fence.wide 5 trivial trivial trivial trivial rfl aa (sortsS _) (enters_of func48 aj rfl) _ _ trivial (enters_of func179 aj rfl) _ _ h1 h2 _
  (AnyZ.keys_gives (ρ:=Tryz.keys_map_string_bool_string_bool_ren) { Tryz.keys_map_string_bool_string_bool with } Fence.wide _ trivial rfl aa Bm q nn D0 w hB hc hown))
instance:Ek prog 116 4 (keyD ByteArray):=⟨aj⟩
def cntB (l:List Xb) (p:Xd) (kind:Int) (ks:List ByteArray) (c:Xb):Bool:=bif hasS ks c.id then false else bif hasV c kind p.id then admV l c.id p.author else false
def actF (l:List Xb) (p:Xd) (kind:Int):Nat→List ByteArray
 | 0=>[]
 | i+1=>bif cntB l p kind (actF l p kind i) (l.getD i Xb.zero) then sput (actF l p kind i) (l.getD i Xb.zero).id else actF l p kind i
def actorsV (l:List Xb) (p:Xd) (kind:Int):List ByteArray:=sortB (actF l p kind l.length)
structure ActI (l:List Xb) (p:Xd) (kind:Int) where
 k:Nat
 hk:k≤l.length
 M:List ByteArray
 hM:M=actF l p kind k
theorem xT {k:ByteArray}:∀ ks:List ByteArray,(sput ks k).length≤ks.length+1
 | []=>ZV 1
 | a::ks=>by
  have ih:=xT (k:=k) ks
  rw [sput]
  cases Xj.eqb k a with
  | true=>exact Nat.le_succ _
  | false=>rw [Zf,ZA,ZA];omega
theorem px (l:List Xb) (p:Xd) (kind:Int):∀ i,(actF l p kind i).length≤i
 | 0=>ZV 0
 | i+1=>by
  have ih:=px l p kind i
  rw [actF]
  cases cntB l p kind (actF l p kind i) (l.getD i Xb.zero) with
  | true=>exact ZW (xT _) (Nat.succ_le_succ ih)
  | false=>exact Nat.le_succ_of_le ih
theorem pw (l:List Xb) (p:Xd) (kind:Int):∀ i,i≤l.length→∀ x∈actF l p kind i,∃ c∈l,c.id=x∧hasV c kind p.id=true∧admV l x p.author=true
 | 0,_,x,h=>(Qi h).elim
 | i+1,hi,x,h=>by
  have ih:=pw l p kind i aa
  rw [actF] at h
  cases hb:cntB l p kind (actF l p kind i) (l.getD i Xb.zero) with
  | false=>rw [hb] at h;exact ih x h
  | true =>
   rw [hb] at h
   rcases mem_sput.1 h with rfl|h
   · rw [cntB] at hb
     cases h1:hasS (actF l p kind i) (l.getD i Xb.zero).id with
     | true=>rw [h1] at hb;cases hb
     | false =>
      rw [h1,Zf] at hb
      cases h2:hasV (l.getD i Xb.zero) kind p.id with
      | false=>rw [h2] at hb;cases hb
      | true =>
       rw [h2,Zg] at hb
       refine ⟨l.getD i Xb.zero,?_,rfl,h2,hb⟩
       rw [Zp,Zc (by omega)]
       exact ZP _
   · exact ih x h
theorem pu (l:List Xb) (p:Xd) (kind:Int):∀ i,(actF l p kind i).Nodup
 | 0=>List.nodup_nil
 | i+1=>by
  have ih:=pu l p kind i
  rw [actF]
  cases cntB l p kind (actF l p kind i) (l.getD i Xb.zero) with
  | true=>exact eD ih
  | false=>exact ih
theorem fN (s:Xk) (l:List Xb) (p:Xd) (kind:Int) (hok:∀ c∈l,Xw c.actsL) (hlen:∀ c∈l,c.actsL.length≤1000000) (hids:∀ c∈l,c.id.size≤maxLen) (hll:l.length≤1000000) :
  Mk prog 57 #[s.v,p.v,.int .i64 kind] (fun w=>Chains w s l∧Xe w) fun u X'=>∃ so:Xk,u=so.v∧so.n=(actorsV l p kind).length∧∀ w,X' w→Strs w so (actorsV l p kind):=by
 refine dm func57 ntmps57 fun av bor w0=>?_
 refine aQ (p:=s.n=l.length∧s.n≤maxLen∧(0<l.length→s.p.isSome=true)) (fun w h=>⟨h.1.len_,h.1.max_,h.1.some_⟩) fun ⟨hl,hm,hp⟩=>?_
 simp only [maxLen] at hm
 repeat' (first|refine gs ?_|refine gs1 fun _=>?_|fail)
 refine eB ByteArray (h:=fun q=>?_)
 repeat' (first|refine gs ?_|fail)
 rename_i b
 refine aq (ι:=ActI l p kind) (fun i=>⟨[(0,s.v),(2,.int .i64 kind),(4,.pointer (some ⟨b,0,none⟩)),(7,.map (some q)),(11,s.v),(12,.int .i64 (s.n:Nat)),(13,.int .i64 (i.k:Nat))],[mapr q (setM i.M),cel b 68 p.cells],fun w=>Chains w s l∧Xe w⟩) (fun i=>l.length-i.k) ⟨0,Z2 _,[],rfl⟩ (ai am (ak _) fun _ h=>h) fun i=>?_
 obtain ⟨k,hk,M,hM⟩:=i
 simp only
 repeat' (first|refine gs ?_|(refine gp ?_ ?_<;>intro hx_ this)|fail)
 · have hlt:k<l.length:=by omega
   have hp':=hp aa
   obtain ⟨c,hc⟩:∃ c,l[k]?=some c:=⟨_,Zc hlt⟩
   have hcm:=Z4 hc
   have hcD:l.getD k Xb.zero=c:=by rw [Zp,hc];rfl
   have hha:=GC c (hok c hcm) (hlen c hcm) kind p.id
   have had:=mn s l c.id p hok
   have hlk:=lg M c.id
   have hS:actF l p kind (k+1)=bif cntB l p kind M c then sput M c.id else M:=by rw [actF,hcD,←hM]
   rw [cntB] at hS
   have hmp:=oA M c.id
   cases h1:hasS M c.id with
   | true =>
    rw [h1] at hS hlk
    repeat' (first|refine gs ?_|refine gs1 fun _=>?_|(refine aD (q:=k*6) ?_)|(refine aN (cs:=c.cells) (hF:=fun w h=>Chains.get h.1 hc) ?_)|(refine fS (κ:=ByteArray) (kk:=c.id) (hl:=de aM) (ho:=hlk) (h:=?_))|fail)
    exact ⟨(⟨k+1,hlt,M,hS.symm⟩:ActI l p kind),(by show l.length-(k+1)<l.length-k;omega),ai am (Z0 _ (ak _)) fun _ h=>h⟩
   | false =>
    rw [h1,Zf] at hS
    rw [h1] at hlk
    cases h2:hasV c kind p.id with
    | false =>
     rw [h2] at hS hha
     repeat' (first|(refine ae (hc:=hha) (hX:=fun w h=>⟨h.1.2 c hcm,h.2⟩) ?_)|refine gs ?_|refine gs1 fun _=>?_|(refine aD (q:=k*6) ?_)|(refine aN (cs:=c.cells) (hF:=fun w h=>Chains.get h.1 hc) ?_)|(refine fS (κ:=ByteArray) (kk:=c.id) (hl:=de aM) (ho:=hlk) (h:=?_))|fail)
     exact ⟨(⟨k+1,hlt,M,hS.symm⟩:ActI l p kind),(by show l.length-(k+1)<l.length-k;omega),ai am (Z0 _ (ak _)) fun _ h=>h⟩
    | true =>
     rw [h2,Zg] at hS
     rw [h2] at hha
     cases h3:admV l c.id p.author with
     | false =>
      rw [h3] at hS had
      repeat' (first|(refine ae (hc:=hha) (hX:=fun w h=>⟨h.1.2 c hcm,h.2⟩) ?_)|(refine ae (hc:=had) ?_)|refine gs ?_|refine gs1 fun _=>?_|(refine aD (q:=k*6) ?_)|(refine aN (cs:=c.cells) (hF:=fun w h=>Chains.get h.1 hc) ?_)|(refine fS (κ:=ByteArray) (kk:=c.id) (hl:=de aM) (ho:=hlk) (h:=?_))|fail)
      exact ⟨(⟨k+1,hlt,M,hS.symm⟩:ActI l p kind),(by show l.length-(k+1)<l.length-k;omega),ai am (Z0 _ (ak _)) fun _ h=>h⟩
     | true =>
      rw [h3] at hS had
      repeat' (first|(refine ae (hc:=hha) (hX:=fun w h=>⟨h.1.2 c hcm,h.2⟩) ?_)|(refine ae (hc:=had) ?_)|refine gs ?_|refine gs1 fun _=>?_|(refine aD (q:=k*6) ?_)|(refine aN (cs:=c.cells) (hF:=fun w h=>Chains.get h.1 hc) ?_)|(refine fS (κ:=ByteArray) (kk:=c.id) (hl:=de aM) (ho:=hlk) (h:=?_))|(refine dB (κ:=ByteArray) (kk:=c.id) (l:=setM M) (hA:=At.there _ (At.here _)) ?_;rw [hmp])|fail)
      exact ⟨(⟨k+1,hlt,sput M c.id,hS.symm⟩:ActI l p kind),(by show l.length-(k+1)<l.length-k;omega),ai am (Z0 _ (ak _)) fun _ h=>h⟩
 · have hkE:k=l.length:=by omega
   have hsl:(setM M).length=M.length:=by simp [setM]
   have hsm:(setM M).map (·.1)=M:=by simp [setM,Function.comp_def]
   have hMl:M.length≤1000000:=by have:=px l p kind k;rw [hM];omega
   have hMi:∀ x∈M,x.size≤maxLen:=fun x hx=>by
    rw [hM] at hx
    obtain ⟨c,hcm,rfl,_⟩:=pw l p kind k hk x hx
    exact hids c hcm
   repeat' (first|refine gs ?_|fail)
   refine bO (pre:=[]) (fr:=[mapr q (setM M),cel b 68 p.cells]) (hc:=keysMS_c.ct (some q)) (hX:=fun _ _=>trivial) (h:=?_)
   rintro v R X' ⟨b2,rfl,rfl⟩
   refine bO (pre:=[cel b2 116 [.map (some q)],mapr q (setM M)]) (fr:=[cel b 68 p.cells]) (hc:=(sortedMS_c.ct (M:=116) b2 q (setM M) (fun x hx=>by simp only [setM,QH] at hx;obtain ⟨k,hk,rfl⟩:=hx;exact hMi k hk) (by rw [hsl];exact hMl))) (hX:=fun _ _=>trivial) (h:=?_)
   rintro v R X2 ⟨A,cp,rfl,rfl⟩
   rw [hsl,hsm]
   repeat' (first|refine gs ?_|fail)
   have e:actorsV l p kind=sortB M:=by rw [actorsV,hM,hkE]
   exact ab (ag rfl rfl) ⟨⟨A,M.length,cp⟩,rfl,by rw [e];simp [sortB],fun w h=>by
    rw [e]
    exact vN (l:=M) (h.2 _ ao) rfl⟩
end Go.Proofs.YtaolfiikahlmkaaGreatDoor
