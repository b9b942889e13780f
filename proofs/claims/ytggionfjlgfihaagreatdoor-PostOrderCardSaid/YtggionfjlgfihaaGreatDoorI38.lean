/- Joined. -/
import Derived.Test.YtggionfjlgfihaaGreatDoorI0
import Derived.Test.YtggionfjlgfihaaGreatDoorI35
import Derived.Test.YtggionfjlgfihaaGreatDoorI37
import Derived.Test.YtggionfjlgfihaaGreatDoorI14
import Derived.Test.YtggionfjlgfihaaGreatDoorI39
import Derived.Test.YtggionfjlgfihaaGreatDoorI29
import Derived.Test.YtggionfjlgfihaaGreatDoorI40
import Derived.Test.YtggionfjlgfihaaGreatDoorI41
import Derived.Test.YtggionfjlgfihaaGreatDoorI11
import Derived.Test.YtggionfjlgfihaaGreatDoorI13
import Derived.Test.YtggionfjlgfihaaGreatDoorI32
import Derived.Test.YtggionfjlgfihaaGreatDoorI12
import Derived.Test.YtggionfjlgfihaaGreatDoorI8
set_option linter.unusedVariables false
set_option linter.unusedSimpArgs false
set_option maxHeartbeats 16000000
namespace Go.Proofs.YtggionfjlgfihaaGreatDoor
open Go Go.Proofs Sy
theorem wS {α β:Type} {f:α→β} {P:List α} {Q:List β} (h:Q.Perm (P.map f)):∃ Q':List α,Q'.Perm P∧Q'.map f=Q:=by
 generalize e:P.map f=R at h
 induction h generalizing P with
 | nil =>
  cases P with
  | nil=>exact ⟨[],List.Perm.refl _,rfl⟩
  | cons a P=>cases e
 | cons x h ih =>
  cases P with
  | nil=>cases e
  | cons a P =>
   rw [List.map_cons,List.cons.injEq] at e
   obtain ⟨Q',h1,h2⟩:=ih e.2
   exact ⟨a::Q',h1.cons a,by rw [List.map_cons,h2,e.1]⟩
 | swap x y l =>
  cases P with
  | nil=>cases e
  | cons a P =>
   cases P with
   | nil=>cases e
   | cons b P =>
    rw [List.map_cons,List.map_cons,List.cons.injEq,List.cons.injEq] at e
    exact ⟨b::a::P,List.Perm.swap _ _ _,by rw [List.map_cons,List.map_cons,e.1,e.2.1,e.2.2]⟩
 | trans h1 h2 ih1 ih2 =>
  obtain ⟨Q2,p2,e2⟩:=ih2 e
  obtain ⟨Q1,p1,e1⟩:=ih1 e2
  exact ⟨Q1,p1.trans p2,e1⟩
def fndX (f:Eg):SrA.FndX:=⟨f.rank,f.dg,f.a.cells,rfl,rfl⟩
theorem lz (P:List Eg):(P.map fndX).map SrA.FndX.cells=P.map Eg.cells:=by rw [List.map_map];rfl
theorem tW (n:Nat) (hn:n≤1000000):SortA n:=fun s P hs hl=>by
 have h:=SrA.sortStable_ct s (P.map fndX) (by rw [List.length_map];exact hs) aa
 have e:SrA.postR s (P.map fndX)=fndR s P:=by
  show orow _ 22 _ _ ((P.map fndX).map SrA.FndX.cells).flatten=orow _ 22 _ _ (P.map Eg.cells).flatten
  rw [lz]
 rw [e] at h
 refine h.mono fun u R X' ⟨h1,Q,h2,h3⟩=>?_
 obtain ⟨Q',p,rfl⟩:=wS h2.1
 refine ⟨h1,Q',p,?_⟩
 rw [h3]
 show [orow _ 22 _ _ ((Q'.map fndX).map SrA.FndX.cells).flatten]=[orow _ 22 _ _ (Q'.map Eg.cells).flatten]
 rw [lz]
theorem Items.keep {w w':World} {s:Xj} {l:List Xb} (h:Items w s l) (hs:∀ k,k<w.heap.size→w'.heap[k]?=w.heap[k]?):Items w' s l :=
 ⟨Xe.keep h.1 hs,fun i hi=>⟨⟨Xe.keep (h.2 i hi).1.1 hs,Xe.keep (h.2 i hi).1.2 hs⟩,Xe.keep (h.2 i hi).2 hs⟩⟩
theorem tq {α:Type} {f:α→ByteArray} {I:List α} (h:Asc (I.map f)) {x y:α} (hx:x∈I) (hy:y∈I) (e:f x=f y):x=y:=by
 obtain ⟨p,hp⟩:=List.mem_iff_getElem?.1 hx
 obtain ⟨q,hq⟩:=List.mem_iff_getElem?.1 hy
 have key:∀ {a b:Nat} {u v:α},I[a]?=some u→I[b]?=some v→f u=f v→¬ a<b:=fun {a b u v} h1 h2 e hab=>by
  have:=kp h hab (x:=f u) (y:=f v) (by rw [List.getElem?_map,h1];rfl) (by rw [List.getElem?_map,h2];rfl)
  rw [e,fN] at this
  cases this
 rcases Nat.lt_trichotomy p q with h1|rfl|h1
 · exact absurd h1 (key hp hq e)
 · exact Option.some.inj (hp.symm.trans hq)
 · exact absurd h1 (key hq hp e.symm)
theorem eM {I:List Xb} {au:ByteArray} {a:Xa} (h:a∈selA au rightIt I):∃ i∈I,i.act=a∧i.kind=0∧rightIt i=true∧digIt i=digV a∧a.author=au:=by
 rw [selA] at h
 obtain ⟨i,hi,rfl⟩:=List.mem_map.1 h
 obtain ⟨h1,h2⟩:=List.mem_filter.1 hi
 rw [selB,Bool.and_eq_true,wantA,Bool.and_eq_true,decide_eq_true_eq,seqB_iff] at h2
 exact ⟨i,h1,rfl,h2.1.1,h2.2,uY h2.1.1 h2.2,h2.1.2⟩
theorem sY {L:List Int} {I:List Xb} (h:KnR L I) {au au':ByteArray} {a b:Xa} (ha:a∈selA au rightIt I) (hb:b∈selA au' rightIt I) (e:digV a=digV b):a=b:=by
 obtain ⟨i,hi,rfl,_,_,e1,_⟩:=eM ha
 obtain ⟨j,hj,rfl,_,_,e2,_⟩:=eM hb
 rw [tq h.asc hi hj (by rw [e1,e2,e])]
theorem xB {l:List Xa} (hd:∀ a∈l,∀ b∈l,digV a=digV b→a=b) (hs:∀ (i:Nat) (x:Xa),l[i]?=some x→x.seq=(i:Int)) {n:Nat} {x:Xa} (hx:l[n]?=some x):idxV l (digV x)=some n:=by
 obtain ⟨hn,e⟩:=List.getElem?_eq_some_iff.1 hx
 rw [idxV,List.findIdx?_eq_some_iff_getElem]
 refine ⟨hn,by rw [e];exact be _,fun j hj hc=>?_⟩
 have h1:=seqB_iff.1 hc
 have h2:=hd _ (List.getElem_mem aa) x (List.mem_of_getElem? hx) h1
 have h3:=hs j _ (List.getElem?_eq_getElem aa)
 have h4:=hs n x hx
 rw [h2] at h3
 omega
theorem ef {P:Program} {f:FuncId} {args:Array Value} {X:World→Prop} {Φ Ψ:Value→(World→Prop)→Prop} (h:Mk P f args X Φ) (hi:∀ u X',Φ u X'→Ψ u X'):Mk P f args X Ψ:=by
 unfold Mk at *
 exact h.mono fun u R X' h1=>⟨hi u X' h1.1,h1.2⟩
def QK (L:List Int) (I:List Xb) (au:ByteArray) (c:Xd) (kl:List Xl):Prop :=
 ∃ (A:List Xa) (sa sk:Xj) (st:Xz) (fork:Bool),A.Perm (selA au rightIt I)∧OfRes ((OfWK L.length I au).at A) st fork∧c=⟨au,sa,sk,st.prev,(st.gen:Nat),fork,st.acts⟩∧kl=st.keys
theorem yX (ks ki:Xj) {L:List Int} {I:List Xb} (h:KnR L I) (au:ByteArray) :
  Mk Tryz.prog 32 #[.agg #[ks.v,ki.v],.string au] (fun w=>(Ints w ks L∧Items w ki I)∧Xf w) (OfQ (QK L I) au) :=
 ef (AH tW ks ki h au) fun u X ⟨A,sa,sk,st,fork,h1,h2,h3,h4⟩=>⟨⟨au,sa,sk,st.prev,(st.gen:Nat),fork,st.acts⟩,st.keys,⟨A,sa,sk,st,fork,h1,h2,rfl,rfl⟩,h3,h4⟩
structure ChGood (c:Xd) (kl:List Xl):Prop where
 ok:Xt c.actsL
 len:c.actsL.length≤100
 klen:kl.length≤1000
 seq:∀ (i:Nat) (x:Xa),c.actsL[i]?=some x→x.seq=(i:Int)
 fit:∀ (n:Nat) (x:Xa),1≤n→c.actsL[n]?=some x→∀ d:Xd,d.id=c.id→d.acts.n=n→d.prev=x.prev→d.actsL=c.actsL.take n→fitsV d x (idxV d.actsL x.object)=true
 key0:0<c.actsL.length→∃ k r,kl=k::r∧k.from_=0
 own:∀ (n:Nat) (x:Xa),c.actsL[n]?=some x→idxV c.actsL (digV x)=some n
theorem zy {W:Ee} (hB:∀ g c,W.won g=some c→g<W.B) {a:Xa} (ha:a∈firstL W):InvS W (finS W a) :=
 nH (P:=InvS W) (fun st s h hs=>(oK hB h hs).1) _ _ (tk ha).1
theorem wo (au:ByteArray) (I:List Xb):(selA au rightIt I).length≤I.length:=by rw [selA,List.length_map];exact List.length_filter_le _ _
theorem sK {L:List Int} {I:List Xb} (h:KnR L I) {au:ByteArray} {c:Xd} {kl:List Xl} (q:QK L I au c kl):ChGood c kl:=by
 obtain ⟨A,sa,sk,st,fork,hA,hR,rfl,rfl⟩:=q
 have hAl:A.length≤100:=by have h1:=hA.length_eq;have h2:=wo au I;have h3:=h.len;omega
 have hAm:∀ a∈A,a∈selA au rightIt I:=fun a ha=>hA.subset ha
 rw [OfRes] at hR
 cases ho:oneA (firstL ((OfWK L.length I au).at A)) with
 | none =>
  rw [ho] at hR
  obtain ⟨rfl,rfl⟩:=hR
  exact ⟨⟨fun a ha=>absurd ha (by simp),fun a ha=>absurd ha (by simp)⟩,by simp,by simp,fun i x hx=>by simp at hx,fun n x _ hx=>by simp at hx,fun hl=>by simp at hl,fun n x hx=>by simp at hx⟩
 | some a =>
  rw [ho] at hR
  obtain ⟨rfl,rfl⟩:=hR
  have ha:a∈firstL ((OfWK L.length I au).at A):=by rw [gR ho];exact List.mem_singleton.2 rfl
  have hF:=sQ ha
  have hB:∀ g c,((OfWK L.length I au).at A).won g=some c→g<((OfWK L.length I au).at A).B:=fun g c hw=>(ip hw).1
  have hI:=zy hB ha
  have hg:=oa L.length I au
  have hcl:(claimsV I au).length≤I.length:=by rw [claimsV,selC,List.length_map];exact List.length_filter_le _ _
  have hIl:=h.len
  have h1:=hI.len
  have h2:=hI.keyn
  have h3:(finS ((OfWK L.length I au).at A) a).gen≤genB L.length I au:=hI.gen
  have h4:(finS ((OfWK L.length I au).at A) a).acts.length≤A.length:=h1
  have hmem:∀ x∈(finS ((OfWK L.length I au).at A) a).acts,x∈selA au rightIt I:=fun x hx=>hAm x (hF.mem x hx)
  refine ⟨⟨fun x hx=>?_,fun x hx=>?_⟩,by show (finS ((OfWK L.length I au).at A) a).acts.length≤100;omega,by omega,hF.seq,fun n x hn hx d e1 e2 e3 e4=>?_,fun _=>hF.key0,fun n x hx=>?_⟩
  · obtain ⟨i,hi,rfl,_⟩:=eM (hmem x hx)
    exact h.rng i hi
  · obtain ⟨i,hi,rfl,_⟩:=eM (hmem x hx)
    exact h.sm i hi
  · have h5:=hF.fit n x hx hn
    rw [e4]
    rw [←h5]
    refine mN e1 ?_ e3 e4
    rw [e2]
    show n=((finS ((OfWK L.length I au).at A) a).acts.take n).length
    rw [List.length_take]
    obtain ⟨hlt,_⟩:=List.getElem?_eq_some_iff.1 hx
    change n<(finS ((OfWK L.length I au).at A) a).acts.length at hlt
    omega
  · exact xB (fun x hx y hy e=>sY h (hmem x hx) (hmem y hy) e) hF.seq hx
theorem sG:KnR [] []:=⟨by simp,by simp,fun i hi=>absurd hi (by simp),fun i hi=>absurd hi (by simp),fun i hi=>absurd hi (by simp),fun i hi=>absurd hi (by simp),List.Pairwise.nil⟩
theorem mA {l m:List Xa} (h:l.Perm m):oneA l=oneA m:=by
 have hl:=h.length_eq
 match l,m,h,hl with
 | [],m,h,_=>rw [List.Perm.nil_eq h]
 | [a],m,h,_=>rw [List.singleton_perm.1 h]
 | a::b::r,[],h,hl=>cases hl
 | a::b::r,[c],h,hl=>cases hl
 | a::b::r,c::d::s,h,_=>rfl
theorem lL (W:Ee) {A B:List Xa} (h:A.Perm B) (st:Xz):(candL (W.at A) st).Perm (candL (W.at B) st):=(h.filter _).filter _
theorem qG (W:Ee) {A B:List Xa} (h:A.Perm B) (st:Xz):stepS (W.at A) st=stepS (W.at B) st:=by
 have h1:regS (W.at A) st=regS (W.at B) st:=rfl
 rw [stepS,stepS,h1,mA (lL W h st)]
theorem mv (W:Ee) {A B:List Xa} (h:A.Perm B):∀ n st,runS (W.at A) n st=runS (W.at B) n st
 | 0,st=>rfl
 | n+1,st=>by
  rw [runS,runS,qG W h st]
  cases stepS (W.at B) st with
  | none=>rfl
  | some s=>exact mv W h n s
theorem jQ (W:Ee) {A B:List Xa} (h:A.Perm B):(firstL (W.at A)).Perm (firstL (W.at B)):=(h.filter _).filter _
theorem uR (W:Ee) {A B:List Xa} (h:A.Perm B) (a:Xa):finS (W.at A) a=finS (W.at B) a:=by
 rw [finS,finS,show (W.at A).L.length=(W.at B).L.length from h.length_eq]
 exact mv W h _ _
theorem q9 (W:Ee) {A B:List Xa} (h:A.Perm B) {st:Xz} {fork:Bool} (r:OfRes (W.at A) st fork):OfRes (W.at B) st fork:=by
 rw [OfRes] at r ⊢
 rw [←mA (jQ W h)]
 cases ho:oneA (firstL (W.at A)) with
 | none =>
  rw [ho] at r
  exact ⟨r.1,by rw [r.2,(jQ W h).length_eq]⟩
 | some a =>
  rw [ho] at r
  simp only at r ⊢
  rw [←uR W h a,←(lL W h _).length_eq]
  exact r
theorem uv {W:Ee} {st st':Xz} {f f':Bool} (r:OfRes W st f) (r':OfRes W st' f'):st=st'∧f=f':=by
 rw [OfRes] at r r'
 cases ho:oneA (firstL W) with
 | none =>
  rw [ho] at r r'
  exact ⟨r.1.trans r'.1.symm,r.2.trans r'.2.symm⟩
 | some a =>
  rw [ho] at r r'
  exact ⟨r.1.trans r'.1.symm,r.2.trans r'.2.symm⟩
theorem yj (ks ki:Xj) (L:List Int) (I:List Xb) (it:Xb) (hdn:it.dec.to.n=it.dec.toL.length) (hs:signedIt L it=false) :
  Pu Tryz.prog 6 #[.agg #[ks.v,ki.v],it.v] (fun w=>((Ints w ks L∧Items w ki I)∧it.at_ w)∧Xf w) (.tuple #[.agg #[ks.v,ki.v],.bool false]):=by
 refine ar Tryz.func6 Tryz.ntmps6 fun av bor w0=>?_
 have hR:=cW it
 have hS:=gi ks L it hdn
 rw [hs] at hS
 repeat' (first|(refine ag (hc:=hR) (hX:=fun w h=>h.1.2) ?_)|(refine ag (hc:=hS) (hX:=fun w h=>⟨⟨h.1.1.1,h.1.2⟩,h.2⟩) ?_)|refine gs ?_|refine gs1 fun _=>?_|(refine gp ?_ ?_<;>intro hx_ this)|fail)
 all_goals first
  | exact ab (bC rfl rfl rfl aL (by rfl)) rfl
structure DupI (p:Nat) where
 k:Nat
 hk:k≤p
 at0:Int
theorem vl (ks ki:Xj) (L:List Int) (I:List Xb) (it:Xb) (hr:∀ i∈I,i.act.Rng) (hd:∀ i∈I,i.dec.to.n=i.dec.toL.length) (hit:it.act.Rng) (hdn:it.dec.to.n=it.dec.toL.length) (hI:I.length≤1000) (hs:signedIt L it=true)
  (p:Nat) (x0:Xb) (hp:I[p]?=some x0) (he:digIt x0=digIt it) (hno:∀ (j:Nat) (y:Xb),j<p→I[j]?=some y→seqB (digIt y) (digIt it)=false) :
  Pu Tryz.prog 6 #[.agg #[ks.v,ki.v],it.v] (fun w=>((Ints w ks L∧Items w ki I)∧it.at_ w)∧Xf w) (.tuple #[.agg #[ks.v,ki.v],.bool false]):=by
 refine ar Tryz.func6 Tryz.ntmps6 fun av bor w0=>?_
 have hR:=cW it
 have hS:=gi ks L it hdn
 rw [hs] at hS
 have hri:rightIt it=true:=by
  rw [signedIt,Bool.and_eq_true] at hs
  exact hs.1
 rw [hri] at hR
 have hD0:=cb it hit hdn
 have hD:=fun x (hx:x∈I)=>cb x (hr x hx) (hd x hx)
 have hplt:=(List.getElem?_eq_some_iff.1 hp).1
 refine aH (p:=ki.n=I.length∧ki.n≤maxLen∧(0<I.length→ki.p.isSome=true)) (fun w h=>⟨h.1.1.2.len_,h.1.1.2.max_,h.1.1.2.some_⟩) fun ⟨hkn,hkm,hkp⟩=>?_
 simp only [maxLen] at hkm
 have hkp':=hkp aa
 generalize digIt it=d at *
 clear hs hri hr hd hit hdn
 repeat' (first|(refine ag (hc:=hR) (hX:=fun w h=>h.1.2) ?_)|(refine ag (hc:=hS) (hX:=fun w h=>⟨⟨h.1.1.1,h.1.2⟩,h.2⟩) ?_)|(refine ag (hc:=hD0) (hX:=fun w h=>⟨h.1.2,h.2⟩) ?_)|refine gs ?_|refine gs1 fun _=>?_|(refine gp ?_ ?_<;>intro hx_ this)|fail)
 rename_i b2 b3 b4
 refine am (ι:=DupI p) (fun i=>⟨[(2,.pointer (some ⟨b2,0,none⟩)),(3,.pointer (some ⟨b3,0,none⟩)),(4,.pointer (some ⟨b4,0,none⟩)),(6,.string d),(7,.int .i64 i.at0),(29,ki.v),(30,.int .i64 (ki.n:Nat)),(31,.int .i64 (i.k:Nat))],[cel b4 26 [.slice none 0 0,.slice none 0 0],cel b3 45 it.cells,cel b2 26 [ks.v,ki.v]],fun w=>((Ints w ks L∧Items w ki I)∧it.at_ w)∧Xf w⟩) (fun i=>p-i.k) ⟨0,Nat.zero_le _,(ki.n:Nat)⟩ (ae al (aj _) fun _ h=>h) fun i=>?_
 obtain ⟨k,hk,at0⟩:=i
 simp only
 obtain ⟨x,hx⟩:∃ x,I[k]?=some x:=⟨_,List.getElem?_eq_getElem aa⟩
 have hxm:=List.mem_of_getElem? hx
 have hDx:=hD x hxm
 by_cases hkp2:k=p
 · obtain rfl:x=x0:=by rw [hkp2,hp] at hx;exact (Option.some.inj hx).symm
   rw [he] at hDx
   have hdd:seqB d d=true:=be _
   repeat' (first|refine aO ?_ (bj true rfl rfl (decide_eq_true aa))|refine aO ?_ (cw true rfl rfl hdd)|(refine ag (hc:=hDx) (hX:=fun w h=>⟨h.1.1.2.2 x hxm,h.2⟩) ?_)|refine gs ?_|refine gs1 fun _=>?_|(refine aE (q:=k*49) ?_)|(refine aS (cs:=x.cells) (hF:=fun w h=>h.1.1.2.get hx) ?_)|(refine gp ?_ ?_<;>intro hx_ this)|fail)
   all_goals first
    | exact ab (bC rfl rfl rfl aL (by rfl)) rfl
 · have hne:=hno k x aa hx
   cases hg:gtB (digIt x) d
   all_goals
    repeat' (first|refine aO ?_ (bj true rfl rfl (decide_eq_true aa))|refine aO ?_ (cw false rfl rfl hne)|refine aO ?_ (j7 _ rfl rfl hg)|(refine ag (hc:=hDx) (hX:=fun w h=>⟨h.1.1.2.2 x hxm,h.2⟩) ?_)|refine gs ?_|refine gs1 fun _=>?_|(refine aE (q:=k*49) ?_)|(refine aS (cs:=x.cells) (hF:=fun w h=>h.1.1.2.get hx) ?_)|(refine gp ?_ ?_<;>intro hx_ this)|fail)
   all_goals first
    | exact ⟨(⟨k+1,by omega,at0⟩:DupI p),(by show p-(k+1)<p-k;omega),ae al (.cons _ (aj _)) fun _ h=>h⟩
    | exact ⟨(⟨k+1,by omega,(k:Nat)⟩:DupI p),(by show p-(k+1)<p-k;omega),ae al (.cons _ (aj _)) fun _ h=>h⟩
def canAdd (L:List Int) (I:List Xb) (it:Xb):Bool:=signedIt L it&&!(I.any fun x=>seqB (digIt x) (digIt it))
def addK (L:List Int) (I:List Xb) (it:Xb):List Xb:=bif canAdd L I it then addV digIt it I else I
theorem pE {P:Program} {f:FuncId} {args:Array Value} {X:World→Prop} {v:Value} {Φ:Value→(World→Prop)→Prop} (h:Pu P f args X v) (hi:∀ X',Φ v X'):Mk P f args X Φ:=by
 unfold Pu at h
 unfold Mk
 exact h.mono fun u R X' ⟨h1,h2⟩=>⟨h1▸hi X',h2⟩
theorem mU {I:List Xb} {d:ByteArray}:(∃ x∈I,digIt x=d)→∃ (p:Nat) (x0:Xb),I[p]?=some x0∧digIt x0=d∧∀ (j:Nat) (y:Xb),j<p→I[j]?=some y→seqB (digIt y) d=false:=by
 induction I with
 | nil=>rintro ⟨x,hx,_⟩;cases hx
 | cons a I ih =>
  rintro ⟨x,hx,e⟩
  by_cases ha:digIt a=d
  · exact ⟨0,a,rfl,ha,fun j y hj=>absurd hj (Nat.not_lt_zero _)⟩
  · rcases List.mem_cons.1 hx with rfl|hx
    · exact absurd e ha
    · obtain ⟨p,x0,h1,h2,h3⟩:=ih ⟨x,hx,e⟩
      refine ⟨p+1,x0,h1,h2,fun j y hj hy=>?_⟩
      cases j with
      | zero =>
       obtain rfl:a=y:=by simpa using hy
       cases hs:seqB (digIt a) d with
       | false=>rfl
       | true=>exact absurd (seqB_iff.1 hs) ha
      | succ j=>exact h3 j y aa hy
theorem tv (ks ki:Xj) {L:List Int} {I:List Xb} (h:KnR L I) (it:Xb) (hit:it.act.Rng) (hdn:it.dec.to.n=it.dec.toL.length) :
  Mk Tryz.prog 6 #[.agg #[ks.v,ki.v],it.v] (fun w=>((Ints w ks L∧Items w ki I)∧it.at_ w)∧Xf w)
   (fun u X'=>∃ s:Xj,u=.tuple #[.agg #[ks.v,s.v],.bool (canAdd L I it)]∧∀ w,(Items w ki I∧X' w)→Items w s (addK L I it)):=by
 have hlen:=h.len
 cases hs:signedIt L it with
 | false =>
  have e:canAdd L I it=false:=by rw [canAdd,hs];rfl
  rw [addK,e]
  exact pE (yj ks ki L I it hdn hs) fun X'=>⟨ki,rfl,fun w h=>h.1⟩
 | true =>
  cases hn:I.any fun x=>seqB (digIt x) (digIt it) with
  | true =>
   have e:canAdd L I it=false:=by rw [canAdd,hs,hn];rfl
   rw [addK,e]
   obtain ⟨x,hx,hx2⟩:=List.any_eq_true.1 hn
   obtain ⟨p,x0,h1,h2,h3⟩:=mU ⟨x,hx,seqB_iff.1 hx2⟩
   exact pE (vl ks ki L I it h.rng h.dn hit hdn aa hs p x0 h1 h2 h3) fun X'=>⟨ki,rfl,fun w h=>h.1⟩
  | false =>
   have e:canAdd L I it=true:=by rw [canAdd,hs,hn];rfl
   rw [addK,e]
   have hri:rightIt it=true:=by
    rw [signedIt,Bool.and_eq_true] at hs
    exact hs.1
   have hR:=cW it
   have hS:=gi ks L it hdn
   rw [hri] at hR
   rw [hs] at hS
   exact ef (tu (fun w=>Ints w ks L) ks ki I it rightIt digIt hR hS (cb it hit hdn) (fun x hx=>cb x (h.rng x hx) (h.dn x hx)) aa fun x hx=>by
    cases hb:seqB (digIt x) (digIt it) with
    | false=>rfl
    | true=>exact absurd (List.any_eq_true.2 ⟨x,hx,hb⟩) (by rw [hn];decide)) fun u X' ⟨s,h1,h2⟩=>⟨s,h1,fun w h=>h2 w h.2⟩
theorem xF {a b:ByteArray} (h:gtB a b=true):ltB b a=true:=by
 rw [gtB,Bool.not_eq_true',Bool.or_eq_false_iff] at h
 cases hh:ltB b a with
 | true=>rfl
 | false =>
  have:=gT (a:=a) (b:=b) h.1 hh
  rw [this,be] at h
  exact absurd h.2 (by decide)
theorem uL {a b:ByteArray} (h:gtB a b=false) (hn:a≠b):ltB a b=true:=by
 rw [gtB,Bool.not_eq_false',Bool.or_eq_true] at h
 rcases h with h|h
 · exact h
 · exact absurd (seqB_iff.1 h) hn
theorem m5 (dI:Xb→ByteArray) (it:Xb) (I:List Xb):(addV dI it I).Perm (it::I):=by
 rw [addV]
 refine List.perm_middle.trans ?_
 rw [List.take_append_drop]
theorem yi (dI:Xb→ByteArray) (it:Xb) (I:List Xb) (h:Asc (I.map dI)) (hn:∀ x∈I,dI x≠dI it):Asc ((addV dI it I).map dI):=by
 obtain ⟨p,hp⟩:∃ p,addAt dI (dI it) I I.length=p:=⟨_,rfl⟩
 have hlow:∀ (j:Nat) (x:Xb),j<p→I[j]?=some x→ltB (dI x) (dI it)=true:=fun j x hj hx=>by
  refine uL ?_ (hn x (List.mem_of_getElem? hx))
  rw [addAt,List.take_length] at hp
  obtain ⟨hlt,e⟩:=List.getElem?_eq_some_iff.1 hx
  cases hf:I.findIdx? fun x=>gtB (dI x) (dI it) with
  | none =>
   have:=List.findIdx?_eq_none_iff.1 hf x (List.mem_of_getElem? hx)
   exact this
  | some q =>
   rw [hf] at hp
   obtain ⟨h1,h2,h3⟩:=List.findIdx?_eq_some_iff_getElem.1 hf
   have:=h3 j (by rw [Option.getD_some] at hp;omega)
   rw [e] at this
   simpa using this
 have hhigh:∀ (j:Nat) (x:Xb),p≤j→I[j]?=some x→ltB (dI it) (dI x)=true:=fun j x hj hx=>by
  rw [addAt,List.take_length] at hp
  obtain ⟨hlt,e⟩:=List.getElem?_eq_some_iff.1 hx
  cases hf:I.findIdx? fun x=>gtB (dI x) (dI it) with
  | none =>
   rw [hf,Option.getD_none] at hp
   omega
  | some q =>
   rw [hf,Option.getD_some] at hp
   subst hp
   obtain ⟨h1,h2,h3⟩:=List.findIdx?_eq_some_iff_getElem.1 hf
   have h4:=xF h2
   rcases Nat.lt_or_eq_of_le hj with h5|h5
   · exact fj h4 (kp h h5 (by rw [List.getElem?_map,List.getElem?_eq_getElem h1];rfl) (by rw [List.getElem?_map,hx];rfl))
   · subst h5
     rw [e] at h4
     exact h4
 rw [addV,hp,List.map_append,List.map_cons]
 refine List.pairwise_append.2 ⟨ko h ((List.take_sublist _ _).map dI),List.pairwise_cons.2 ⟨fun y hy=>?_,ko h ((List.drop_sublist _ _).map dI)⟩,fun x hx y hy=>?_⟩
 · obtain ⟨z,hz,rfl⟩:=List.mem_map.1 hy
   obtain ⟨j,hj⟩:=List.mem_iff_getElem?.1 hz
   rw [List.getElem?_drop] at hj
   exact hhigh _ z aa hj
 · obtain ⟨z,hz,rfl⟩:=List.mem_map.1 hx
   obtain ⟨j,hj⟩:=List.mem_iff_getElem?.1 hz
   rw [List.getElem?_take] at hj
   split at hj
   · rename_i hjp
     have h1:=hlow j z hjp hj
     rcases List.mem_cons.1 hy with rfl|hy
     · exact h1
     · obtain ⟨u,hu,rfl⟩:=List.mem_map.1 hy
       obtain ⟨k,hk⟩:=List.mem_iff_getElem?.1 hu
       rw [List.getElem?_drop] at hk
       exact fj h1 (hhigh _ u aa hk)
   · cases hj
theorem lM {L:List Int} {I:List Xb} {it:Xb} (h:canAdd L I it=true):signedIt L it=true∧rightIt it=true∧∀ x∈I,digIt x≠digIt it:=by
 rw [canAdd,Bool.and_eq_true,Bool.not_eq_true'] at h
 refine ⟨h.1,?_,fun x hx e=>?_⟩
 · have h1:=h.1
   rw [signedIt,Bool.and_eq_true] at h1
   exact h1.1
 · rw [List.any_eq_true.2 ⟨x,hx,seqB_iff.2 e⟩] at h
   exact absurd h.2 (by decide)
theorem xv {L:List Int} {I:List Xb} (h:KnR L I) {it:Xb} (hit:it.act.Rng) (hsm:it.act.Sm) (hdn:it.dec.to.n=it.dec.toL.length) (hl:I.length<100):KnR L (addK L I it):=by
 rw [addK]
 cases hc:canAdd L I it with
 | false=>exact h
 | true =>
  obtain ⟨h1,h2,h3⟩:=lM hc
  have hp:=m5 digIt it I
  have hm:∀ i∈addV digIt it I,i=it∨i∈I:=fun i hi=>List.mem_cons.1 (hp.subset hi)
  show KnR L (addV digIt it I)
  refine ⟨h.sv,by rw [hp.length_eq,List.length_cons];omega,fun i hi=>?_,fun i hi=>?_,fun i hi=>?_,fun i hi=>?_,yi digIt it I h.asc h3⟩
  · rcases hm i hi with rfl|hi
    · exact hit
    · exact h.rng i hi
  · rcases hm i hi with rfl|hi
    · exact hsm
    · exact h.sm i hi
  · rcases hm i hi with rfl|hi
    · exact hdn
    · exact h.dn i hi
  · rcases hm i hi with rfl|hi
    · exact h2
    · exact h.right i hi
theorem AF {L:List Int} {I I':List Xb} {au:ByteArray} {c n:Xd} {kl kl':List Xl} (hW:OfWK L.length I' au=OfWK L.length I au) (hA:(selA au rightIt I').Perm (selA au rightIt I)) (q:QK L I au c kl) (q':QK L I' au n kl'):SameC n c∧kl'=kl:=by
 obtain ⟨A,sa,sk,st,f,p,r,rfl,rfl⟩:=q
 obtain ⟨A',sa',sk',st',f',p',r',rfl,rfl⟩:=q'
 rw [hW] at r'
 have r2:=q9 (OfWK L.length I au) ((p'.trans hA).trans p.symm) r'
 obtain ⟨rfl,rfl⟩:=uv r2 r
 exact ⟨⟨rfl,rfl,rfl,rfl,rfl⟩,rfl⟩
def draftX (c:Xd) (x:Xa):Xa:={ x with author:=c.id,seq:=(c.acts.n:Int),prev:=c.prev }
theorem pd {L:List Int} {I:List Xb} {au:ByteArray} {c:Xd} {kl:List Xl} (q:QK L I au c kl):c.id=au:=by
 obtain ⟨A,sa,sk,st,f,p,r,rfl,rfl⟩:=q
 rfl
def AllK (L:List Int) (I:List Xb) (l:List Xd):Prop:=∃ M:List ChK,All2 (fun id p=>QK L I id p.1 p.2) (compB (sortB (authI I))) M∧l=(M.filter neK).map Prod.fst
theorem uJ (I:List Xb):(compB (sortB (authI I))).Nodup:=(j5 _).imp fun h e=>by subst e;rw [fN] at h;cases h
structure SignD (L:List Int) (I:List Xb) (c n:Xd) (k:El) (x b:Xa):Prop where
 right:rightB b=true
 sig:b=(draftX c x).sig (signV k (coreV ((draftX c x).sig Ei.zero)))
 fits:fitsV c b (idxV c.actsL b.object)=true
 acts:n.actsL.map Xa.can=c.actsL.map Xa.can++[b.can]
 len:n.actsL.length=c.actsL.length+1
def nuN (id:ByteArray) (l:List Xa):Xd:=⟨id,⟨none,l.length,0⟩,⟨none,0,0⟩,⟨#[]⟩,0,false,l⟩
def canoC (c:Xd):Xd:=nuN c.id (c.actsL.map Xa.can)
def cano (l:List Xd):List Xd:=l.map canoC
theorem xn (id:ByteArray) (i:Nat) (a:Xa):newP id i a.can=newP id i a:=by
 unfold newP
 rw [tf]
 rfl
theorem lc (c:Xd):∀ i,openF (canoC c) i=openF c i
 | 0=>rfl
 | i+1=>by
  rw [openF,openF,lc c i]
  show (openF c i++bif postK ((c.actsL.map Xa.can).getD i Xa.zero).kind then [newP c.id i ((c.actsL.map Xa.can).getD i Xa.zero)] else [])=_
  rw [fm,xn]
  rfl
theorem tQ (l:List Xa) (i:Nat) (P:List Xc):stepP (l.map Xa.can) i P=stepP l i P:=by
 have e:refV (l.map Xa.can) P i=refV l P i:=by
  rw [refV,refV,fm]
  show (match idxV (l.map Xa.can) (l.getD i Xa.zero).object with|some j=>bif decide (j<i) then posP P j else none|none=>none)=_
  rw [pN]
  rfl
 rw [stepP,stepP,e,fm]
 rfl
theorem py (c:Xd):∀ i,ofP (canoC c) i=ofP c i
 | 0=>by
  rw [ofP,ofP,lc]
  show openF c (c.actsL.map Xa.can).length=_
  rw [List.length_map]
 | i+1=>by
  rw [ofP,ofP,py c i]
  exact tQ _ _ _
theorem pi (c:Xd):postsV (canoC c)=postsV c:=by
 rw [postsV,postsV,py]
 show ofP c (c.actsL.map Xa.can).length=_
 rw [List.length_map]
theorem kW (l:List Xd):(cano l).flatMap postsV=l.flatMap postsV:=by
 rw [cano,List.flatMap_map]
 exact congrArg (fun f=>l.flatMap f) (funext pi)
theorem mO {l:List Xd} (hn:(l.map Xd.id).Nodup) {id:ByteArray} {c:Xd}:findC l id=some c↔c∈l∧c.id=id:=by
 constructor
 · intro h
   exact ⟨List.mem_of_find?_eq_some h,seqB_iff.1 (List.find?_some (p:=fun c:Xd=>seqB c.id id) h)⟩
 · rintro ⟨hc,rfl⟩
   induction l with
   | nil=>cases hc
   | cons a l ih =>
    rw [List.map_cons,List.nodup_cons] at hn
    rw [findC,List.find?_cons]
    rcases List.mem_cons.1 hc with rfl|hc
    · rw [be]
    · have hne:seqB a.id c.id=false:=seqB_ne.2 fun e=>hn.1 (e▸List.mem_map.2 ⟨c,hc,rfl⟩)
      rw [hne]
      exact ih hn.2 hc
structure Uniq (l:List Xd):Prop where
 ids:(l.map Xd.id).Nodup
 dig:∀ c∈l,∀ d∈l,∀ a∈c.actsL,∀ b∈d.actsL,digV a=digV b→c.id=d.id
 own:∀ c∈l,∀ (n:Nat) (x:Xa),c.actsL[n]?=some x→idxV c.actsL (digV x)=some n
def PostIn (c:Xd) (p:Xc):Prop:=∃ a,c.actsL[p.pos]?=some a∧p.id=digV a∧p.author=c.id∧p.kind=a.kind
theorem pu (c:Xd):∀ i,i≤c.actsL.length→∀ p∈openF c i,PostIn c p
 | 0,_,p,hp=>by cases hp
 | i+1,hi,p,hp=>by
  rw [openF,List.mem_append] at hp
  rcases hp with h|h
  · exact pu c i aa p h
  · have hx:c.actsL[i]?=some (c.actsL.getD i Xa.zero):=by rw [List.getD_eq_getElem?_getD,List.getElem?_eq_getElem (by omega)];rfl
    cases hk:postK (c.actsL.getD i Xa.zero).kind with
    | false=>rw [hk] at h;cases h
    | true =>
     rw [hk,cond_true,List.mem_singleton] at h
     subst h
     exact ⟨_,hx,rfl,rfl,rfl⟩
theorem sA {c:Xd} {P:List Xc} (o:Option Nat) {f:Xc→Xc} (h:∀ p∈P,PostIn c p) (hf:∀ p,PostIn c p→PostIn c (f p)):∀ p∈modP P o f,PostIn c p:=by
 cases o with
 | none=>exact h
 | some n =>
  intro p hp
  by_cases hn:n<P.length
  · rcases List.mem_or_eq_of_mem_set hp with h1|rfl
    · exact h p h1
    · refine hf _ (h _ ?_)
      rw [List.getD_eq_getElem?_getD,List.getElem?_eq_getElem hn]
      exact List.getElem_mem hn
  · rw [modP,List.set_eq_of_length_le (by omega)] at hp
    exact h p hp
theorem xa (c:Xd):∀ i,∀ p∈ofP c i,PostIn c p
 | 0=>pu c _ (Nat.le_refl _)
 | i+1=>by
  have ih:=xa c i
  rw [ofP,stepP]
  cases decide ((c.actsL.getD i Xa.zero).kind=13) with
  | true=>exact sA _ ih fun p h=>h
  | false =>
   cases decide ((c.actsL.getD i Xa.zero).kind=14) with
   | true =>
    refine sA _ ih fun p h=>?_
    show PostIn c (editP _ i p)
    rw [editP]
    cases editB (c.actsL.getD i Xa.zero) p with
    | true=>exact h
    | false=>exact h
   | false=>exact ih
theorem d5 {c:Xd} {p:Xc} (h:p∈postsV c):PostIn c p:=xa c _ p h
theorem PostIn.mem {c:Xd} {p:Xc} (h:PostIn c p):∃ a∈c.actsL,p.id=digV a∧p.author=c.id∧p.kind=a.kind:=by
 obtain ⟨a,h1,h2⟩:=h
 exact ⟨a,List.mem_of_getElem? h1,h2⟩
theorem qy {l:List Xd} (h:Uniq l) {c d:Xd} (hc:c∈l) (hd:d∈l) (e:c.id=d.id):c=d :=
 Option.some.inj ((mO h.ids (id:=d.id)).2 ⟨hc,e⟩ |>.symm.trans ((mO h.ids).2 ⟨hd,rfl⟩))
theorem my {l:List Xd} (h:Uniq l) {p q:Xc} (hp:p∈l.flatMap postsV) (hq:q∈l.flatMap postsV) (e:p.id=q.id):p=q:=by
 obtain ⟨c,hc,hp⟩:=List.mem_flatMap.1 hp
 obtain ⟨d,hd,hq⟩:=List.mem_flatMap.1 hq
 obtain ⟨a,ha,pa,-⟩:=d5 hp
 obtain ⟨b,hb,qb,-⟩:=d5 hq
 have eab:digV a=digV b:=by rw [←pa,←qb,e]
 have hcd:=qy h hc hd (h.dig c hc d hd a (List.mem_of_getElem? ha) b (List.mem_of_getElem? hb) eab)
 subst hcd
 have h1:=h.own c hc _ _ ha
 have h2:=h.own c hc _ _ hb
 rw [eab,h2] at h1
 have epos:p.pos=q.pos:=(Option.some.inj h1).symm
 obtain ⟨i,hi,rfl⟩:=List.getElem_of_mem hp
 obtain ⟨j,hj,rfl⟩:=List.getElem_of_mem hq
 have:=wM (kX c).1 (List.getElem?_eq_getElem hi) (List.getElem?_eq_getElem hj) epos
 subst this
 rfl
theorem ru {l:List Xd} (h:Uniq l) {id:ByteArray} {p:Xc}:findPV l id=some p↔p∈l.flatMap postsV∧p.id=id:=by
 constructor
 · intro e
   exact ⟨List.mem_of_find?_eq_some e,seqB_iff.1 (List.find?_some (p:=isPost id) e)⟩
 · rintro ⟨hp,rfl⟩
   cases hf:findPV l p.id with
   | none =>
    rw [findPV,List.find?_eq_none] at hf
    exact absurd (be p.id) (hf p hp)
   | some q =>
    have hq:seqB q.id p.id=true:=List.find?_some (p:=isPost p.id) hf
    rw [my h (List.mem_of_find?_eq_some hf) hp (seqB_iff.1 hq)]
theorem qV {L:List Int} {I:List Xb} {au:ByteArray} {c:Xd} {kl:List Xl} (q:QK L I au c kl):∀ a∈c.actsL,a∈selA au rightIt I:=by
 obtain ⟨A,sa,sk,st,fork,hA,hR,rfl,rfl⟩:=q
 rw [OfRes] at hR
 cases ho:oneA (firstL ((OfWK L.length I au).at A)) with
 | none =>
  rw [ho] at hR
  obtain ⟨rfl,rfl⟩:=hR
  exact fun a ha=>absurd ha (by simp)
 | some a =>
  rw [ho] at hR
  obtain ⟨rfl,rfl⟩:=hR
  have ha:a∈firstL ((OfWK L.length I au).at A):=by rw [gR ho];exact List.mem_singleton.2 rfl
  exact fun x hx=>hA.subset ((sQ ha).mem x hx)
theorem ye {L:List Int} {I:List Xb} {ids:List ByteArray} {M:List ChK} (h:All2 (fun id p=>QK L I id p.1 p.2) ids M):M.map (fun p=>p.1.id)=ids:=by
 induction h with
 | nil=>rfl
 | cons h1 _ ih=>rw [List.map_cons,ih,pd h1]
theorem iZ {L:List Int} {I:List Xb} (hK:KnR L I) {l:List Xd} (h:AllK L I l):Uniq l:=by
 obtain ⟨M,hM,rfl⟩:=h
 have hq:∀ c∈(M.filter neK).map Prod.fst,∃ kl,QK L I c.id c kl:=fun c hc=>by
  obtain ⟨p,hp,rfl⟩:=List.mem_map.1 hc
  obtain ⟨a,ha,q⟩:=hM.right p (List.mem_filter.1 hp).1
  exact ⟨p.2,by rw [pd q];exact q⟩
 refine ⟨?_,fun c hc d hd a ha b hb e=>?_,fun c hc n x hx=>?_⟩
 · rw [List.map_map]
   have h1:=uJ I
   rw [←ye hM] at h1
   exact h1.sublist (List.filter_sublist.map _)
 · obtain ⟨k1,q1⟩:=hq c hc
   obtain ⟨k2,q2⟩:=hq d hd
   have m1:=qV q1 a ha
   have m2:=qV q2 b hb
   have eab:=sY hK m1 m2 e
   subst eab
   obtain ⟨_,_,_,_,_,_,a1⟩:=eM m1
   obtain ⟨_,_,_,_,_,_,a2⟩:=eM m2
   exact a1.symm.trans a2
 · obtain ⟨k1,q1⟩:=hq c hc
   exact (sK hK q1).own n x hx
def canS (st:Xz):Xz:={ st with acts:=st.acts.map Xa.can }
theorem ez {p q:Xa→Bool} (h:∀ a:Xa,q a.can=p a):∀ l:List Xa,(l.map Xa.can).filter q=(l.filter p).map Xa.can
 | []=>rfl
 | a::l=>by
  rw [List.map_cons,List.filter_cons,List.filter_cons,h a,ez h l]
  cases p a<;>rfl
theorem qm (st:Xz) (a:Xa):addS (canS st) a.can=canS (addS st a):=by
 have h:digV a.can=digV a:=gB rfl rfl
 simp only [addS,canS,List.map_append,List.map_cons,List.map_nil,List.length_map,h]
 rfl
theorem oO (l:List Xa):∀ n,setI (l.map Xa.can) n=setI l n
 | 0=>rfl
 | n+1=>by
  rw [setI,setI,oO l n,fm]
  rfl
theorem zI (st:Xz) (id:ByteArray):(canS st).ch id=(st.ch id).can:=by
 simp only [Xz.ch,canS,Xd.can,List.length_map]
theorem vd {W:Ee} (hv:∀ p a,W.ver p (Xa.can a)=W.ver p a) (st:Xz) (a:Xa):candB W (canS st) a.can=candB W st a:=by
 rw [candB,candB,zI,uP,show (canS st).acts=st.acts.map Xa.can from rfl,pN,show (canS st).key=st.key from rfl,hv]
 show (fitsV (st.ch W.id) (a.re _ _) _&&_)=_
 rw [xI (st.ch W.id) a (s1:=⟨none,a.to.n,0⟩) (s2:=⟨none,a.wraps.n,0⟩) _ rfl rfl]
 rfl
theorem px:∀ l:List Xa,oneA (l.map Xa.can)=(oneA l).map Xa.can
 | []=>rfl
 | [a]=>rfl
 | a::b::l=>rfl
theorem wF (W:Ee) (A:List Xa) (st:Xz):regS (W.at (A.map Xa.can)) (canS st)=(regS (W.at A) st).map canS:=by
 rw [regS,regS]
 show (match W.won st.gen with|none=>none|some c=>_)=Option.map canS (match W.won st.gen with|none=>none|some c=>_)
 cases W.won st.gen with
 | none=>rfl
 | some c =>
  simp only
  rw [show (canS st).acts=st.acts.map Xa.can from rfl,List.length_map,show (canS st).prev=st.prev from rfl,oO]
  cases decide (c.base=(st.acts.length:Int))&&seqB c.prev st.prev with
  | false=>rfl
  | true =>
   rw [cond_true,cond_true]
   cases setI st.acts st.acts.length with
   | none=>rfl
   | some i =>
    simp only
    rw [fm]
    show (bif W.clm (st.acts.getD i Xa.zero).m c then _ else _)=Option.map canS (bif W.clm (st.acts.getD i Xa.zero).m c then _ else _)
    cases W.clm (st.acts.getD i Xa.zero).m c<;>rfl
theorem mY {W:Ee} (hv:∀ p a,W.ver p (Xa.can a)=W.ver p a) (A:List Xa) (st:Xz):candL (W.at (A.map Xa.can)) (canS st)=(candL (W.at A) st).map Xa.can:=by
 show ((A.map Xa.can).filter (posB (st.acts.map Xa.can).length st.prev)).filter (candB (W.at (A.map Xa.can)) (canS st))=((A.filter (posB st.acts.length st.prev)).filter (candB (W.at A) st)).map Xa.can
 rw [List.length_map,ez (p:=posB st.acts.length st.prev) (fun a=>rfl)]
 exact ez (fun a=>vd (W:=W) hv st a) _
theorem tP {W:Ee} (hv:∀ p a,W.ver p (Xa.can a)=W.ver p a) (A:List Xa) (st:Xz):stepS (W.at (A.map Xa.can)) (canS st)=(stepS (W.at A) st).map canS:=by
 rw [stepS,stepS,wF,mY hv,px]
 cases regS (W.at A) st with
 | some s=>rfl
 | none =>
  simp only [Option.map_none]
  cases oneA (candL (W.at A) st) with
  | none=>rfl
  | some a=>exact congrArg some (qm st a)
theorem oV {W:Ee} (hv:∀ p a,W.ver p (Xa.can a)=W.ver p a) (A:List Xa):∀ (n:Nat) (st:Xz),runS (W.at (A.map Xa.can)) n (canS st)=canS (runS (W.at A) n st)
 | 0,st=>rfl
 | n+1,st=>by
  rw [runS,runS,tP hv]
  cases stepS (W.at A) st with
  | none=>rfl
  | some s=>exact oV hv A n s
theorem rt {W:Ee} (hv:∀ p a,W.ver p (Xa.can a)=W.ver p a) (A:List Xa):firstL (W.at (A.map Xa.can))=(firstL (W.at A)).map Xa.can:=by
 show ((A.map Xa.can).filter (posB 0 ⟨#[]⟩)).filter (firstB (W.at (A.map Xa.can)))=((A.filter (posB 0 ⟨#[]⟩)).filter (firstB (W.at A))).map Xa.can
 rw [ez (p:=posB 0 ⟨#[]⟩) (fun a=>rfl)]
 refine ez (fun a=>?_) _
 show (decide (a.kind=0)&&seqB (idV a.n) W.id&&W.ver a.n a.can)=(decide (a.kind=0)&&seqB (idV a.n) W.id&&W.ver a.n a)
 rw [hv]
theorem xN {W:Ee} (hv:∀ p a,W.ver p (Xa.can a)=W.ver p a) (A:List Xa) (a:Xa):finS (W.at (A.map Xa.can)) a.can=canS (finS (W.at A) a):=by
 rw [finS,finS,show begS a.can=canS (begS a) from qm ⟨[],[⟨0,a.n,a.m⟩],⟨#[]⟩,0⟩ a,oV hv]
 show canS (runS (W.at A) ((A.map Xa.can).length+W.B) (begS a))=canS (runS (W.at A) (A.length+W.B) (begS a))
 rw [List.length_map]
theorem uw {W:Ee} (hv:∀ p a,W.ver p (Xa.can a)=W.ver p a) {A:List Xa} {st:Xz} {f:Bool} (h:OfRes (W.at A) st f):OfRes (W.at (A.map Xa.can)) (canS st) f:=by
 rw [OfRes] at h ⊢
 rw [rt hv,px]
 cases ho:oneA (firstL (W.at A)) with
 | none =>
  rw [ho] at h
  simp only [Option.map_none,List.length_map] at h ⊢
  exact ⟨by rw [h.1];rfl,h.2⟩
 | some a =>
  rw [ho] at h
  simp only [Option.map_some] at h ⊢
  obtain ⟨rfl,h2⟩:=h
  rw [xN hv,mY hv,List.length_map]
  exact ⟨rfl,h2⟩
theorem eX {q:Xb→Bool} (h:∀ i:Xb,i.dec.Fit→q i.can=q i):∀ I:List Xb,(∀ i∈I,i.dec.Fit)→(I.map Xb.can).filter q=(I.filter q).map Xb.can
 | [],_=>rfl
 | i::I,hf=>by
  rw [List.map_cons,List.filter_cons,List.filter_cons,h i (hf i ap),eX h I fun x hx=>hf x (List.mem_cons_of_mem _ hx)]
  cases q i<;>rfl
theorem wq {I:List Xb} (hf:∀ i∈I,i.dec.Fit) (au:ByteArray):selA au rightIt (I.map Xb.can)=(selA au rightIt I).map Xa.can:=by
 rw [selA,selA,eX (fun i h=>by rw [selB,selB,gl h];rfl) I hf,List.map_map,List.map_map]
 rfl
theorem wZ {I:List Xb} (hf:∀ i∈I,i.dec.Fit) (n:Nat) (au:ByteArray):OfWK n (I.map Xb.can) au=OfWK n I au:=by
 have h1:claimsV (I.map Xb.can) au=claimsV I au:=by
  rw [claimsV,claimsV,selC,selC,eX (fun i h=>by rw [selBC,selBC,gl h];rfl) I hf,List.map_map]
  rfl
 have h2:∀ g,selB2 au g rightIt (I.map Xb.can)=selB2 au g rightIt I:=fun g=>by
  rw [selB2,selB2,eX (fun i h=>by rw [selBB,selBB,gl h];rfl) I hf,List.map_map]
  rfl
 have h3:∀ g,wonK n (I.map Xb.can) au g=wonK n I au g:=fun g=>by rw [wonK,wonK,h1,h2]
 have h4:genB n (I.map Xb.can) au=genB n I au:=by
  rw [genB,genB,h1]
  congr 1
  funext g
  exact h3 g
 rw [OfWK,OfWK,h4]
 congr 1
 funext g
 rw [h3]
theorem wH {L:List Int} {I:List Xb} (hf:∀ i∈I,i.dec.Fit) {au:ByteArray} {c:Xd} {kl:List Xl} (q:QK L I au c kl):QK L (I.map Xb.can) au { c with actsL:=c.actsL.map Xa.can } kl:=by
 obtain ⟨A,sa,sk,st,f,p,r,rfl,rfl⟩:=q
 refine ⟨A.map Xa.can,sa,sk,canS st,f,?_,?_,rfl,rfl⟩
 · rw [wq hf]
   exact p.map _
 · rw [wZ hf]
   exact uw (W:=OfWK L.length I au) (fun p a=>vM p rfl rfl) r
theorem yR {L:List Int} {I J:List Xb} (hI:∀ i∈I,i.dec.Fit) (hJ:∀ i∈J,i.dec.Fit) (h:I.map Xb.can=J.map Xb.can) {au:ByteArray} {c n:Xd} {kl kl':List Xl} (q:QK L I au c kl) (q':QK L J au n kl'):n.actsL.map Xa.can=c.actsL.map Xa.can∧kl'=kl:=by
 have h1:=wH hI q
 have h2:=wH hJ q'
 rw [h] at h1
 obtain ⟨h3,h4⟩:=AF rfl (List.Perm.refl _) h1 h2
 have h5:=h3.acts
 have e:(Xa.can ∘ Xa.can)=Xa.can:=rfl
 simp only [List.map_map,e] at h5
 exact ⟨h5.symm,h4⟩
inductive Lead (W:Ee) (f:Xz):Xz→Prop
 | done:stepS W f=none→Lead W f f
 | step {st s:Xz}:stepS W st=some s→Lead W f s→Lead W f st
structure HolS (st:Xz):Prop where
 one:0<st.acts.length
 key:0<st.keys.length
 from_:∀ k∈st.keys,k.from_≤(st.acts.length:Int)
 mov:∀ a,st.acts[st.acts.length-1]?=some a→a.kind=18→∃ k,st.keys[st.keys.length-1]?=some k∧k.from_=(st.acts.length:Int)
theorem rA {a:Xa} (h:rightB a=true):seqB (digV a) ⟨#[]⟩=false:=by
 have h1:(numV 0).size=1:=by decide +kernel
 have h2:seqB (bytesV a) ⟨#[]⟩=false:=by
  cases hs:seqB (bytesV a) ⟨#[]⟩ with
  | false=>rfl
  | true =>
   have h3:=congrArg ByteArray.size (seqB_iff.1 hs)
   rw [bytesV,h,cond_true,ByteArray.size_append,h1] at h3
   change 1+_=0 at h3
   omega
 cases hs:seqB (digV a) ⟨#[]⟩ with
 | false=>rfl
 | true =>
  have h3:=congrArg ByteArray.size (seqB_iff.1 hs)
  rw [digV,h2,cond_false,gO] at h3
  cases h3
structure FndI (p:Nat) where
 k:Nat
 hk:k≤p
 it:Xb
theorem nW (ks ki:Xj) (I:List Xb) (hr:∀ i∈I,i.act.Rng) (hd:∀ i∈I,i.dec.to.n=i.dec.toL.length) (hI:I.length≤1000) (d:ByteArray) (hn:seqB d ⟨#[]⟩=false)
  (p:Nat) (x0:Xb) (hp:I[p]?=some x0) (he:digIt x0=d) (hno:∀ (j:Nat) (y:Xb),j<p→I[j]?=some y→seqB (digIt y) d=false) :
  Pu Tryz.prog 13 #[.agg #[ks.v,ki.v],.string d] (fun w=>Items w ki I∧Xf w) (.tuple #[x0.v,.bool true]):=by
 refine ar Tryz.func13 Tryz.ntmps13 fun av bor w0=>?_
 have hD:=fun x (hx:x∈I)=>cb x (hr x hx) (hd x hx)
 have hplt:=(List.getElem?_eq_some_iff.1 hp).1
 refine aH (p:=ki.n=I.length∧ki.n≤maxLen∧(0<I.length→ki.p.isSome=true)) (fun w h=>⟨h.1.len_,h.1.max_,h.1.some_⟩) fun ⟨hkn,hkm,hkp⟩=>?_
 simp only [maxLen] at hkm
 have hkp':=hkp aa
 clear hr hd
 repeat' (first|refine aO ?_ (cw false rfl rfl hn)|refine gs ?_|refine gs1 fun _=>?_|(refine gp ?_ ?_<;>intro hx_ this)|fail)
 rename_i b2 b4
 refine am (ι:=FndI p) (fun i=>⟨[(1,.string d),(2,.pointer (some ⟨b2,0,none⟩)),(4,.pointer (some ⟨b4,0,none⟩)),(5,.bool false),(12,ki.v),(13,.int .i64 (ki.n:Nat)),(14,.int .i64 (i.k:Nat))],[cel b4 45 Xb.zero.cells,cel b2 26 [ks.v,ki.v]],fun w=>Items w ki I∧Xf w⟩) (fun i=>p-i.k) ⟨0,Nat.zero_le _,Xb.zero⟩ (ae al (aj _) fun _ h=>h) fun i=>?_
 obtain ⟨k,hk,it⟩:=i
 simp only
 obtain ⟨x,hx⟩:∃ x,I[k]?=some x:=⟨_,List.getElem?_eq_getElem aa⟩
 have hxm:=List.mem_of_getElem? hx
 have hDx:=hD x hxm
 by_cases hkp2:k=p
 · obtain rfl:x=x0:=by rw [hkp2,hp] at hx;exact (Option.some.inj hx).symm
   rw [he] at hDx
   have hdd:seqB d d=true:=be _
   repeat' (first|refine aO ?_ (bj true rfl rfl (decide_eq_true aa))|refine aO ?_ (cw true rfl rfl hdd)|(refine ag (hc:=hDx) (hX:=fun w h=>⟨h.1.2 x hxm,h.2⟩) ?_)|refine gs ?_|refine gs1 fun _=>?_|(refine aE (q:=k*49) ?_)|(refine aS (cs:=x.cells) (hF:=fun w h=>h.1.get hx) ?_)|(refine gp ?_ ?_<;>intro hx_ this)|fail)
   all_goals first
    | exact ab (bC rfl rfl rfl aL (by rfl)) rfl
 · have hne:=hno k x aa hx
   repeat' (first|refine aO ?_ (bj true rfl rfl (decide_eq_true aa))|refine aO ?_ (cw false rfl rfl hne)|(refine ag (hc:=hDx) (hX:=fun w h=>⟨h.1.2 x hxm,h.2⟩) ?_)|refine gs ?_|refine gs1 fun _=>?_|(refine aE (q:=k*49) ?_)|(refine aS (cs:=x.cells) (hF:=fun w h=>h.1.get hx) ?_)|(refine gp ?_ ?_<;>intro hx_ this)|fail)
   all_goals first
    | exact ⟨(⟨k+1,by omega,x⟩:FndI p),(by show p-(k+1)<p-k;omega),ae al (.cons _ (aj _)) fun _ h=>h⟩
theorem tr (ks ki:Xj) {L:List Int} {I:List Xb} (h:KnR L I) :
  Mk Tryz.prog 9 #[.agg #[ks.v,ki.v]] (fun w=>(Ints w ks L∧Items w ki I)∧Xf w) (fun u X=>∃ (s:Xj) (l:List Xd),AllK L I l∧u=s.v∧∀ w,X w→Chains w s l) :=
 ef (yf (QK L I) ks ki L I (by have:=h.len;omega) fun au=>yX ks ki h au) fun u X ⟨s,M,hM,e,hw⟩=>⟨s,_,⟨M,hM,rfl⟩,e,fun w h=>(hw w h).1⟩
structure AddW (L:List Int) (I:List Xb) (ki:Xj) (b:Xa) where
 s3:Xj
 s4:Xj
 s:Xj
 bk:Nat
 Y:World→Prop
 e3:s3.n=b.to.n
 e4:s4.n=b.wraps.n
 hw:∀ w,(Items w ki I∧Y w)→Items w s (addK L I (ofActI (b.re s3 s4)))
end Go.Proofs.YtggionfjlgfihaaGreatDoor
