/- Joined by program out of: S1 S2 S8 Kq Ld Lk Lj Lo Lq Lr S3 Vl Lv Lw Lm Wm. -/
import Derived.Test.YtoefdofbekihdaaGreatDoorW13
import Derived.Laws.StructEq
import Derived.Shelf.SlIter.AllValuesS
import Derived.Lib.SlKeysI
set_option linter.unusedVariables false
set_option linter.unusedSimpArgs false
set_option maxHeartbeats 16000000
namespace Go.Proofs.YtoefdofbekihdaaGreatDoor
open Go Go.Proofs Sy
def viewC (l:List ChainD) (id:ByteArray):Option (List ActD):=(findC l id).map fun c=>c.actsL.map ActD.can
def viewK (c:ChainD):Option (List ActD):=bif decide (0<c.actsL.length) then some (c.actsL.map ActD.can) else none
theorem DH (l:List ActD) (i:Nat):(l.map ActD.can).getD i ActD.zero=(l.getD i ActD.zero).can:=by
 rw [ZL,ZL,List.getElem?_map]
 cases l[i]?<;>rfl
theorem lj {c n:ChainD} (h:SameC n c):viewK n=viewK c:=by
 have e:n.actsL.length=c.actsL.length:=by simpa using congrArg List.length h.acts.symm
 rw [viewK,viewK,e,h.acts]
theorem nA {c:ChainD} (h:0<c.actsL.length):viewK c=some (c.actsL.map ActD.can):=by rw [viewK,ZA h];rfl
def AllK (L:List Int) (I:List ItemD) (l:List ChainD):Prop:=∃ M:List ChK,All2 (fun id p=>QK L I id p.1 p.2) (compB (sortB (authI I))) M∧l=(M.filter neK).map Prod.fst
theorem su (c:ChainD) (l:List ChainD) (id:ByteArray):viewC (c::l) id=bif seqB c.id id then some (c.actsL.map ActD.can) else viewC l id:=by
 rw [viewC,findC,List.find?_cons]
 cases seqB c.id id<;>rfl
theorem pZ {L:List Int} {I:List ItemD}:∀ {ids:List ByteArray} {M:List ChK},All2 (fun id p=>QK L I id p.1 p.2) ids M→ids.Nodup →
  (∀ id c kl,id∈ids→QK L I id c kl→viewC ((M.filter neK).map Prod.fst) id=viewK c)∧∀ id,id∉ids→viewC ((M.filter neK).map Prod.fst) id=none:=by
 intro ids M h
 induction h with
 | nil=>exact fun _=>⟨fun id c kl hi=>absurd hi (by simp),fun id _=>rfl⟩
 | @cons a p ids M hp _ ih =>
  intro hn
  obtain ⟨hn1,hn2⟩:=List.nodup_cons.1 hn
  obtain ⟨ih1,ih2⟩:=ih hn2
  have hpa:p.1.id=a:=nV hp
  have hstep:∀ id,viewC (((p::M).filter neK).map Prod.fst) id=bif neK p&&seqB a id then some (p.1.actsL.map ActD.can) else viewC ((M.filter neK).map Prod.fst) id:=fun id=>by
   rw [List.filter_cons]
   cases neK p with
   | true =>
    show viewC (p.1::(M.filter neK).map Prod.fst) id=_
    rw [su,hpa,ZD]
   | false=>rfl
  refine ⟨fun id c kl hi q=>?_,fun id hi=>?_⟩
  · rw [hstep]
    by_cases e:a=id
    · subst e
      have hs:=lj (tk rfl (List.Perm.refl _) q hp).1
      rw [cV,ZE,←hs,viewK]
      show (bif decide (0<p.1.actsL.length) then _ else _)=_
      cases decide (0<p.1.actsL.length) with
      | true=>rfl
      | false=>exact ih2 a hn1
    · have hne:seqB a id=false:=by
       cases hb:seqB a id with
       | false=>rfl
       | true=>exact absurd (seqB_iff.1 hb) e
      rw [hne,ZH]
      rcases List.mem_cons.1 hi with rfl|hi
      · exact absurd rfl e
      · exact ih1 id c kl hi q
  · rw [hstep]
    have hne:seqB a id=false:=by
     cases hb:seqB a id with
     | false=>rfl
     | true=>exact absurd (by rw [seqB_iff.1 hb];exact ar) hi
    rw [hne,ZH]
    exact ih2 id fun h=>hi (ZS _ h)
theorem jV (I:List ItemD):(compB (sortB (authI I))).Nodup:=(gA _).imp fun h e=>by subst e;rw [dq] at h;cases h
theorem mem_ids {I:List ItemD} {id:ByteArray}:id∈compB (sortB (authI I))↔id∈authI I:=mem_compB_sortB
theorem xE {L:List Int} {I:List ItemD} {l:List ChainD} (h:AllK L I l) {id:ByteArray} {c:ChainD} (hf:findC l id=some c):∃ kl,QK L I id c kl∧0<c.actsL.length∧id∈authI I:=by
 obtain ⟨M,hM,rfl⟩:=h
 have h1:seqB c.id id=true:=List.find?_some (p:=fun c:ChainD=>seqB c.id id) hf
 replace h1:=seqB_iff.1 h1
 obtain ⟨p,hp,rfl⟩:=List.mem_map.1 (List.mem_of_find?_eq_some hf)
 obtain ⟨hp1,hp2⟩:=List.mem_filter.1 hp
 obtain ⟨a,ha,q⟩:=hM.right p hp1
 have e:a=id:=(nV q).symm.trans h1
 subst e
 exact ⟨p.2,q,aP hp2,mem_ids.1 ha⟩
theorem fV {L:List Int} {I:List ItemD} {l:List ChainD} (h:AllK L I l) {id:ByteArray} (hi:id∈authI I) {c:ChainD} {kl:List KeyD} (q:QK L I id c kl):viewC l id=viewK c:=by
 obtain ⟨M,hM,rfl⟩:=h
 exact (pZ hM (jV I)).1 id c kl (mem_ids.2 hi) q
theorem kY {L:List Int} {I:List ItemD} {l:List ChainD} (h:AllK L I l) {id:ByteArray} (hi:id∉authI I):viewC l id=none:=by
 obtain ⟨M,hM,rfl⟩:=h
 exact (pZ hM (jV I)).2 id fun h=>hi (mem_ids.1 h)
theorem All2.leftQ {α β:Type} {R:α→β→Prop} {l:List α} {m:List β} (h:All2 R l m):∀ a∈l,∃ b∈m,R a b:=by
 induction h with
 | nil=>exact fun a ha=>absurd ha (by simp)
 | cons h1 _ ih =>
  intro a ha
  rcases List.mem_cons.1 ha with rfl|ha
  · exact ⟨_,ar,h1⟩
  · obtain ⟨b,hb,r⟩:=ih a ha
    exact ⟨b,ZS _ hb,r⟩
theorem pS {L:List Int} {I:List ItemD} {l:List ChainD} (h:AllK L I l) {id:ByteArray} (hi:id∈authI I):∃ c kl,QK L I id c kl:=by
 obtain ⟨M,hM,rfl⟩:=h
 obtain ⟨p,_,q⟩:=All2.leftQ hM id (mem_ids.2 hi)
 exact ⟨_,_,q⟩
theorem rY {I:List ItemD} {it:ItemD} (hk:it.kind=0) {id:ByteArray}:id∈authI (addV digIt it I)↔id=it.act.author∨id∈authI I:=by
 have h:=((j7 digIt it I).filter fun i=>decide (i.kind=0)).map fun i=>i.act.author
 rw [List.filter_cons_of_pos (p:=fun i:ItemD=>decide (i.kind=0)) (ZA hk),Qu] at h
 exact h.mem_iff.trans Z8
theorem Bv {L:List Int} {I:List ItemD} {it:ItemD} (hk:it.kind=0) {l l':List ChainD} (h:AllK L I l) (h':AllK L (addK L I it) l') {id:ByteArray} (hi:id≠it.act.author):viewC l' id=viewC l id:=by
 rw [addK] at h'
 cases hc:canAdd L I it with
 | false =>
  rw [hc,ZB] at h'
  by_cases hm:id∈authI I
  · obtain ⟨c,kl,q⟩:=pS h hm
    rw [fV h hm q,fV h' hm q]
  · rw [kY h hm,kY h' hm]
 | true =>
  rw [hc,ZC] at h'
  have hm':id∈authI (addV digIt it I)↔id∈authI I:=by rw [rY hk];exact ⟨fun h=>h.resolve_left hi,.inr⟩
  by_cases hm:id∈authI I
  · obtain ⟨c,kl,q⟩:=pS h hm
    obtain ⟨c',kl',q'⟩:=pS h' (hm'.2 hm)
    have hs:selB id rightIt it=false:=by
     have hne:seqB it.act.author id=false:=by
      cases hb:seqB it.act.author id with
      | false=>rfl
      | true=>exact absurd (seqB_iff.1 hb).symm hi
     rw [selB,wantA,hne,ZH,ZG]
    rw [fV h hm q,fV h' (hm'.2 hm) q',lj (zP hk hs q q').1]
  · rw [kY h hm,kY h' fun h=>hm (hm'.1 h)]
theorem xB {L:List Int} {I:List ItemD} {it:ItemD} (hk:it.kind=0) {id:ByteArray} (h:id∈authI I):id∈authI (addK L I it):=by
 rw [addK]
 cases canAdd L I it with
 | false=>exact h
 | true=>exact (rY hk).2 (.inr h)
structure SignD (L:List Int) (I:List ItemD) (c n:ChainD) (k:KyD) (x b:ActD):Prop where
 right:rightB b=true
 sig:b=(draftX c x).sig (signV k (coreV ((draftX c x).sig SgD.zero)))
 fits:fitsV c b (idxV c.actsL b.object)=true
 acts:n.actsL.map ActD.can=c.actsL.map ActD.can++[b.can]
 len:n.actsL.length=c.actsL.length+1
theorem sQ {L:List Int} {I:List ItemD} (h:KnR L I) {au:ByteArray} {c n:ChainD} {kl kl':List KeyD} (q:QK L I au c kl) (h0:0<c.actsL.length) (hcn:c.acts.n=c.actsL.length) {k:KyD} {x:ActD} {s3 s4:SlV}
  (e3:s3.n=(actSignV k (draftX c x)).to.n) (e4:s4.n=(actSignV k (draftX c x)).wraps.n) (q':QK L (addK L I (ofActI ((actSignV k (draftX c x)).re s3 s4))) au n kl') (hl:n.actsL.length=c.actsL.length+1) :
  SignD L I c n k x (actSignV k (draftX c x))∧canAdd L I (ofActI ((actSignV k (draftX c x)).re s3 s4))=true:=by
 cases ha:canAdd L I (ofActI ((actSignV k (draftX c x)).re s3 s4)) with
 | false =>
  rw [addK,ha] at q'
  have:=congrArg List.length (tk rfl (List.Perm.refl _) q q').1.acts
  simp at this
  omega
 | true =>
  obtain ⟨g1,g2,g3,g4⟩:=xF q e3 e4 ha
  rw [addK,ha] at q'
  have h1:(actSignV k (draftX c x)).seq=(c.actsL.length:Int):=by rw [g3,←hcn];rfl
  have h2:(actSignV k (draftX c x)).prev=c.prev:=by rw [g3];rfl
  have hx:=CL h (it:=ofActI ((actSignV k (draftX c x)).re s3 s4)) rfl g4 q q' h0 h1 h2 hcn
  have hf2:fitsV c (ofActI ((actSignV k (draftX c x)).re s3 s4)).act (idxV c.actsL (ofActI ((actSignV k (draftX c x)).re s3 s4)).act.object)=fitsV c (actSignV k (draftX c x)) (idxV c.actsL (actSignV k (draftX c x)).object):=by
   rw [show (ofActI ((actSignV k (draftX c x)).re s3 s4)).act=(actSignV k (draftX c x)).re s3 s4 from rfl,xl c _ _ e3 e4]
   rfl
  cases hb:!c.fork&&(fitsV c (ofActI ((actSignV k (draftX c x)).re s3 s4)).act (idxV c.actsL (ofActI ((actSignV k (draftX c x)).re s3 s4)).act.object)&&verV (lastK kl) (ofActI ((actSignV k (draftX c x)).re s3 s4)).act) with
  | false =>
   rw [hb,ZB] at hx
   have:=congrArg List.length hx.1.acts
   simp at this
   omega
  | true =>
   rw [hb,ZC] at hx
   obtain ⟨_,x2,M,K,x3,x4,x5,x6⟩:=hx
   have hM:M=[]:=by
    refine List.eq_nil_of_length_eq_zero ?_
    have:=congrArg List.length x3
    simp at this
    omega
   subst hM
   rw [ZM,ZM,hf2] at hb
   refine ⟨⟨g2,g3,hb.2.1,?_,hl⟩,rfl⟩
   rw [x3,Qn]
   show _++[((actSignV k (draftX c x)).re s3 s4).can]=_
   rw [Fg _ e3 e4]
theorem vm {L:List Int} {I:List ItemD} (h:KnR L I) {l:List ChainD} (hl:AllK L I l):∀ c∈l,ActsOk c.actsL∧c.actsL.length≤100:=by
 obtain ⟨M,hM,rfl⟩:=hl
 intro c hc
 obtain ⟨p,hp,rfl⟩:=List.mem_map.1 hc
 obtain ⟨a,_,q⟩:=hM.right p (List.mem_filter.1 hp).1
 exact ⟨(kU h q).ok,(kU h q).len⟩
theorem xD {L:List Int} {I:List ItemD} {it:ItemD} (hk:it.kind=0) {l':List ChainD} (h':AllK L (addK L I it) l') {id:ByteArray} (hi:id∈authI I) {n:ChainD} {kl':List KeyD} (q':QK L (addK L I it) id n kl') (h0:0<n.actsL.length) :
  viewC l' id=some (n.actsL.map ActD.can):=by
 rw [fV h' (xB hk hi) q',nA h0]
theorem qM {P:Program} {fn:Func} {N t u r ty ty2 n n2:Nat} {s:St} {b b2 T T2:Nat} {cs cs2:List Value} {x:Value} [hI:TyAgg P ty n] [hI2:TyAgg P ty2 n2] (hr:fn.results=#[.cell t ty,.cell u ty2,.tmp r]) (h:Sy.look s.env t=some (.pointer (some ⟨b,0,none⟩))) (h':Sy.look s.env u=some (.pointer (some ⟨b2,0,none⟩))) (h'':Sy.look s.env r=some x) (hm:cel b T cs∈s.loc) (hn:cs.length=n) (hm2:cel b2 T2 cs2∈s.loc) (hn2:cs2.length=n2) :
  Res1 P fn N s (.tuple #[.agg cs.toArray,.agg cs2.toArray,x]):=fun av bor w0 a w ok=>by
 obtain ⟨D,h1,h2,h3⟩:=cX hI.out
 obtain ⟨D2,g1,g2,g3⟩:=cX hI2.out
 have ht:=ok.env t _ h
 have hu:=ok.env u _ h'
 have hx:=ok.env r _ h''
 have l1:(loadVar ty ⟨b,0,none⟩).run P w=.ok (.agg cs.toArray) w:=by
  cases D<;>simp at h2
  · exact run_loadVar_row w b T ty cs.toArray (0,0) _ (eH ok hm) h1 rfl (by rw [h3];simp [hn])
  · exact run_loadVar_row w b T ty cs.toArray (0,0) _ (eH ok hm) h1 rfl (by rw [h3];simp [hn])
 have l2:(loadVar ty2 ⟨b2,0,none⟩).run P w=.ok (.agg cs2.toArray) w:=by
  cases D2<;>simp at g2
  · exact run_loadVar_row w b2 T2 ty2 cs2.toArray (0,0) _ (eH ok hm2) g1 rfl (by rw [g3];simp [hn2])
  · exact run_loadVar_row w b2 T2 ty2 cs2.toArray (0,0) _ (eH ok hm2) g1 rfl (by rw [g3];simp [hn2])
 simp [results,hr,ht,hu,hx,asAddr,l1,l2]
theorem vl (ks ki:SlV) {L:List Int} {I:List ItemD} (h:KnR L I) :
  Mk Tryz.prog 8 #[.agg #[ks.v,ki.v]] (fun w=>(Ints w ks L∧Items w ki I)∧Glob w) (fun u X=>∃ (s:SlV) (l:List ChainD),AllK L I l∧u=s.v∧∀ w,X w→Chains w s l) :=
 pw (Bw (QK L I) ks ki L I (by have:=h.len;omega) fun au=>uQ ks ki h au) fun u X ⟨s,M,hM,e,hw⟩=>⟨s,_,⟨M,hM,rfl⟩,e,fun w h=>(hw w h).1⟩
def sgA (k:KyD) (c:ChainD) (x:ActD):ActD:=actSignV k (draftX c { x with time:=1 })
def SignR (L:List Int) (I:List ItemD) (ks ki:SlV) (c:ChainD) (k:KyD) (x:ActD) (u:Value) (X:World→Prop):Prop :=
 ∃ (s3 s4 s:SlV) (n:ChainD) (kl':List KeyD),s3.n=(sgA k c x).to.n∧s4.n=(sgA k c x).wraps.n∧QK L (addK L I (ofActI ((sgA k c x).re s3 s4))) c.id n kl' ∧
  u=.tuple #[.agg #[ks.v,s.v],n.v,.bool (decide ((n.acts.n:Int)=(c.acts.n:Int)+1))]∧∀ w,(Items w ki I∧X w)→Items w s (addK L I (ofActI ((sgA k c x).re s3 s4)))∧n.at_ w
structure AddW (L:List Int) (I:List ItemD) (ki:SlV) (b:ActD) where
 s3:SlV
 s4:SlV
 s:SlV
 bk:Nat
 Y:World→Prop
 e3:s3.n=b.to.n
 e4:s4.n=b.wraps.n
 hw:∀ w,(Items w ki I∧Y w)→Items w s (addK L I (ofActI (b.re s3 s4)))
set_option maxRecDepth 20000 in
set_option maxHeartbeats 16000000 in
theorem ql (ks ki:SlV) {L:List Int} {I:List ItemD} (hK:KnR L I) (hI:I.length<100) (c:ChainD) (hc:c.actsL.length≤1000) (k:KyD) (x:ActD) (hx:x.Rng) (hs:x.Sm) :
  Mk Tryz.prog 20 #[.agg #[ks.v,ki.v],c.v,k.v,x.v] (fun w=>(((Ints w ks L∧Items w ki I)∧c.at_ w)∧x.at_ w)∧Glob w) (SignR L I ks ki c k x):=by
 refine bF (args:=[_,_,_,_]) _ Tryz.func20 rfl Tryz.ntmps20 rfl fun av bor w0=>?_
 refine aO (p:=c.acts.n=c.actsL.length) (fun w h=>h.1.1.2.len_) fun hcn=>?_
 have hxR:(draftX c { x with time:=1 }).Rng:=⟨⟨by show (c.acts.n:Int)<_;omega,hx.ints.2.1,by show (1:Int)<_;decide,hx.ints.2.2.2⟩,hx.wints,hx.to_len,hx.wraps_len⟩
 have hxS:(draftX c { x with time:=1 }).Sm:=⟨hs.to,hs.wraps,hs.target⟩
 have hbR:(sgA k c x).Rng:=qv hxR
 have hbS:(sgA k c x).Sm:=uA hxS
 have hdr:=Ba c x.kind 1
 have hsg:Mk Tryz.prog 35 #[k.v,(draftX c { x with time:=1 }).v] (fun w=>(draftX c { x with time:=1 }).at_ w∧Glob w) (ActTo (sgA k c x)):=tX k (draftX c { x with time:=1 }) hxR hxS
 unfold SignR
 obtain ⟨b,hb⟩:∃ b,sgA k c x=b:=⟨_,rfl⟩
 rw [hb] at hbR hbS hsg ⊢
 repeat' (first|(refine ab (hc:=hdr) (hX:=fun _ _=>trivial) ?_)|refine gs ?_|refine gs1 fun _=>?_|(refine gp ?_ ?_<;>intro hx_ this)|fail)
 rename_i b4 b5 b6 b7 b8 b9 b11
 refine rP (aj (E':=[(4,.pointer (some ⟨b4,0,none⟩)),(5,.pointer (some ⟨b5,0,none⟩)),(6,.pointer (some ⟨b6,0,none⟩)),(7,.pointer (some ⟨b7,0,none⟩)),(8,.pointer (some ⟨b8,0,none⟩)),(9,.pointer (some ⟨b9,0,none⟩))]) (l':=[cel b9 36 ChainD.zero.cells,cel b8 25 [.slice none 0 0,.slice none 0 0],cel b7 50 (draftX c { x with time:=1 }).cells,cel b6 27 k.v.cells.toList,cel b5 36 c.cells,cel b4 25 [ks.v,ki.v]]) (X':=fun w=>(((Ints w ks L∧Items w ki I)∧c.at_ w)∧x.at_ w)∧Glob w) ⟨rfl,rfl,rfl,rfl,rfl,rfl,trivial⟩ (.cons _ (al _)) fun _ h=>h) ?_
 refine kV (ι:=AddW L I ki b) (fun m=>⟨[(5,.pointer (some ⟨b5,0,none⟩)),(8,.pointer (some ⟨b8,0,none⟩)),(9,.pointer (some ⟨b9,0,none⟩)),(12,.pointer (some ⟨m.bk,0,none⟩))],[cel m.bk 25 [ks.v,m.s.v],cel b9 36 ChainD.zero.cells,cel b8 25 [.slice none 0 0,.slice none 0 0],cel b5 36 c.cells],fun w=>((((Ints w ks L∧Items w ki I)∧c.at_ w)∧x.at_ w)∧Glob w)∧m.Y w⟩) ?_ fun m=>?_
 · (refine aq ⟨[0,1,2],[(3,⟨[],[(4,⟨[],[(5,⟨[6,7,8],[(9,⟨[],[(10,⟨[11],[]⟩)]⟩)]⟩),(9,⟨[],[(5,⟨[6,7,8],[(10,⟨[11],[]⟩)]⟩)]⟩)]⟩),(9,⟨[],[(4,⟨[],[(5,⟨[6,7,8],[(10,⟨[11],[]⟩)]⟩)]⟩)]⟩)]⟩),(9,⟨[],[(3,⟨[],[(4,⟨[],[(5,⟨[6,7,8],[(10,⟨[11],[]⟩)]⟩)]⟩)]⟩)]⟩)]⟩ [cel b7 50 (draftX c { x with time:=1 }).cells,cel b6 27 k.v.cells.toList,cel b4 25 [ks.v,ki.v]] (fun w=>(((Ints w ks L∧Items w ki I)∧c.at_ w)∧x.at_ w)∧Glob w) (h:=?_))
   all_goals repeat' (first|((refine cP (hc:=hsg) (hX:=fun w h=>⟨h.1.2,h.2⟩) fun v X2 h2=>?_;obtain ⟨s1,s2,rfl,e1,e2,hw2⟩:=h2))|((refine cP (hc:=wU (b.re s1 s2) (kQ hbR e1 e2) (sP hbS e1 e2)) (hX:=fun w h=>hw2 w h.2) fun v X3 h3=>?_;obtain ⟨s3,s4,rfl,e3,e4,hw3⟩:=h3;refine cE (X':=fun w=>((((Ints w ks L∧Items w ki I)∧c.at_ w)∧x.at_ w)∧Glob w)∧X3 w) (fun w h=>⟨h.1.1,h.2⟩) ?_))|((refine cP (hc:=DO ks ki hK (ofActI (b.re s3 s4)) (kQ hbR (e3.trans e1) (e4.trans e2)) rfl) (hX:=fun w h=>⟨⟨h.1.1.1.1,hw3 w h.2,bp w 1⟩,h.1.2⟩) fun v X4 h4=>?_;obtain ⟨s,rfl,hw4⟩:=h4))|refine gdz ?_|refine az ?_ (h':=?_)|exact aA|refine gs1 fun _=>?_|(refine gq ?_ ?_<;>intro hx_ this)|fail)
   all_goals first
    | exact ⟨(⟨s3,s4,s,_,fun w=>X3 w∧X4 w,e3.trans e1,e4.trans e2,fun w h=>hw4 w ⟨h.1,h.2.2⟩⟩:AddW L I ki b),aj ⟨rfl,rfl,rfl,rfl,trivial⟩ (.cons_cons _ (.cons_cons _ (.cons_cons _ (.cons _ (.cons _ (.cons_cons _ (ZR _))))))) fun w h=>⟨h.1.1,h.1.2,h.2⟩⟩
 obtain ⟨s3,s4,s,bk,Y,e3,e4,hwI⟩:=m
 simp only
 have hK':KnR L (addK L I (ofActI (b.re s3 s4))):=rx hK (kQ hbR e3 e4) (sP hbS e3 e4) rfl hI
 repeat' (first|(refine cP (hc:=uQ ks s hK' c.id) (hX:=fun w h=>⟨⟨h.1.1.1.1.1,hwI w ⟨h.1.1.1.1.2,h.2⟩⟩,h.1.2⟩) fun v X5 h5=>?_;obtain ⟨n,kl',hQ',rfl,hw5⟩:=h5)|refine gs ?_|refine gs1 fun _=>?_|(refine gp ?_ ?_<;>intro hx_ this)|fail)
 rename_i b14
 refine aO (p:=n.acts.n=n.actsL.length) (fun w h=>(hw5 w h.2).1.len_) fun hnn=>?_
 have hnl:=(kU hK' hQ').len
 (refine aq ⟨[0,1,2,3,4,5,6,7,8,9],[(10,⟨[],[(11,⟨[12],[]⟩)]⟩)]⟩ [cel b14 36 n.cells,cel bk 25 [ks.v,s.v],cel b5 36 c.cells] (fun w=>(((((Ints w ks L∧Items w ki I)∧c.at_ w)∧x.at_ w)∧Glob w)∧Y w)∧X5 w) (h:=?_))
 all_goals repeat' (first|refine gdz ?_|refine az ?_ (h':=?_)|exact aA|refine gs1 fun _=>?_|(refine gq ?_ ?_<;>intro hx_ this)|fail)
 all_goals
  repeat' (first|refine gs ?_|refine gs1 fun _=>?_|(refine gp ?_ ?_<;>intro hx_ this)|fail)
  all_goals refine ad (qM (n:=2) (n2:=6) rfl rfl rfl rfl aS rfl aS rfl) ?_
  all_goals exact ⟨s3,s4,s,n,kl',e3,e4,hQ',rfl,fun w h=>⟨hwI w ⟨h.1,h.2.1.1.2⟩,(hw5 w h.2.1.2).1⟩⟩
end Go.Proofs.YtoefdofbekihdaaGreatDoor
set_option maxHeartbeats 16000000
namespace Go.Proofs.YtoefdofbekihdaaGreatDoor
open Go Go.Proofs Sy Go.Shelf Go.Maps Go.Sort
end Go.Proofs.YtoefdofbekihdaaGreatDoor
set_option maxHeartbeats 16000000
namespace Go.Proofs.YtoefdofbekihdaaGreatDoor
open Go Go.Proofs Sy
structure ListD where
 actor:ByteArray
 reason:ByteArray
 by_:ByteArray
 until_:Int
def ListD.cells (a:ListD):List Value:=[.string a.actor,.string a.reason,.string a.by_,.int .i64 a.until_]
def ListD.v (a:ListD):Value:=.agg a.cells.toArray
structure EntD where
 l:ListD
 at_:Int
def EntD.cells (a:EntD):List Value:=[.string a.l.actor,.string a.l.reason,.string a.l.by_,.int .i64 a.l.until_,.int .i64 a.at_]
def EntD.v (a:EntD):Value:=.agg a.cells.toArray
def eqLD (a b:ListD):Bool:=seqB a.actor b.actor&&(seqB a.reason b.reason&&(seqB a.by_ b.by_&&decide (a.until_=b.until_)))
def eqED (a b:EntD):Bool:=eqLD a.l b.l&&decide (a.at_=b.at_)
theorem A6 {a b:ListD}:eqLD a b=true↔a=b:=by
 cases a;cases b
 simp only [eqLD,ZM,seqB_iff,ZT,ListD.mk.injEq]
theorem eqED_iff {a b:EntD}:eqED a b=true↔a=b:=by
 cases a;cases b
 simp only [eqED,ZM,A6,ZT,EntD.mk.injEq]
theorem wy (w:World) {cs:Array Value} {off:Nat} {v:Value} (h:cs[off]?=some v):(part 9 cs off).run Tryz.prog w=.ok v w:=by
 simp [part,isAgg,run_underlying Tryz.underlying9,h]
theorem wz (w:World) {cs:Array Value} {off:Nat} {v:Value} (h:cs[off]?=some v):(part 3 cs off).run Tryz.prog w=.ok v w:=by
 simp [part,isAgg,run_underlying Tryz.underlying3,h]
theorem Dx (w:World) (d:Nat) (a b:ByteArray):(Op.equalIn (d+1) 9 (.string a) (.string b)).run Tryz.prog w=.ok (seqB a b) w:=run_equalIn_string w d _ a b Tryz.underlying9
theorem Dy (w:World) (d:Nat) (a b:Int):(Op.equalIn (d+1) 3 (.int .i64 a) (.int .i64 b)).run Tryz.prog w=.ok (decide (a=b)) w:=by
 rw [run_equalIn_int w d _ .i64 .i64 a b Tryz.underlying3]
 rfl
section
variable {N:Nat} {av bor:List Nat} {w0:World} {ops:Array Oper} {rest:List Oper} {k:St→Prop} {E:Env} {loc:List Res} {X:World→Prop} {x y:Operand} {t2:TypeId}
variable {n:Nat} {ty:TypeId} {pos:String} {af:Array Edge} {g:Option (Nat×Bool)} {bb want:Bool} {st:St}
end
def betV (a b:EntD):Bool:=bif !decide (a.l.until_=b.l.until_) then decide (b.l.until_<a.l.until_) else bif !seqB a.l.by_ b.l.by_ then ltB a.l.by_ b.l.by_ else decide (b.at_<a.at_)
end Go.Proofs.YtoefdofbekihdaaGreatDoor
set_option maxHeartbeats 16000000
namespace Go.Proofs.YtoefdofbekihdaaGreatDoor
open Go Go.Proofs Sy Go.Shelf Go.Maps Go.Sort
instance tymL11:TyMap Tryz.prog 78 4 (keyD ByteArray):=⟨ae⟩
def ListD.zero:ListD:=⟨⟨#[]⟩,⟨#[]⟩,⟨#[]⟩,0⟩
def Lists (w:World) (s:SlV) (l:List ListD):Prop:=RowsD w 4 s (l.map ListD.cells)
def Ents (w:World) (s:SlV) (l:List EntD):Prop:=RowsD w 5 s (l.map EntD.cells)
theorem Lists.len_ {w:World} {s:SlV} {l:List ListD} (h:Lists w s l):s.n=l.length:=by have:=RowsD.len h;simpa using this
theorem Lists.know {s:SlV} {l:List ListD}:∀ w,Lists w s l→s.n=l.length∧s.n≤maxLen∧(0<l.length→s.p.isSome=true):=fun w h =>
 ⟨h.len_,Qr (RowsD.cap h) (RowsD.max h),fun hl=>(RowsD.row h 0 l[0].cells (by simp [Zm hl])).2.1⟩
theorem Lists.get {w:World} {s:SlV} {l:List ListD} (h:Lists w s l) {i:Nat} {x:ListD} (hx:l[i]?=some x):x.cells.length=4∧s.p.isSome=true∧∀ j u,x.cells[j]?=some u→CellAt w s.p (i*4+j) u :=
 RowsD.row h i x.cells (by simp [hx])
theorem Ents.know {s:SlV} {l:List EntD}:∀ w,Ents w s l→s.n=l.length∧s.n≤maxLen∧(0<l.length→s.p.isSome=true):=fun w h =>
 ⟨by have:=RowsD.len h;simpa using this,Qr (RowsD.cap h) (RowsD.max h),fun hl=>(RowsD.row h 0 l[0].cells (by simp [Zm hl])).2.1⟩
theorem Ents.get {w:World} {s:SlV} {l:List EntD} (h:Ents w s l) {i:Nat} {x:EntD} (hx:l[i]?=some x):x.cells.length=5∧s.p.isSome=true∧∀ j u,x.cells[j]?=some u→CellAt w s.p (i*5+j) u :=
 RowsD.row h i x.cells (by simp [hx])
def hasL (l:List ListD) (a:ByteArray):Option ListD:=l.find? fun e=>seqB e.actor a
end Go.Proofs.YtoefdofbekihdaaGreatDoor
set_option maxHeartbeats 16000000
namespace Go.Proofs.YtoefdofbekihdaaGreatDoor
open Go Go.Proofs Sy Go.Sort
def entA (k:ByteArray) (l:List ActD) (j:Nat):EntD:=⟨⟨(l.getD j ActD.zero).target,(l.getD j ActD.zero).text,k,(l.getD j ActD.zero).n⟩,j⟩
def foundF (l:List ActD):Nat→List Nat
 | 0=>[]
 | i+1=>bif decide ((l.getD i ActD.zero).kind=23) then foundF l i++[i] else bif decide ((l.getD i ActD.zero).kind=6) then (match idxV l (l.getD i ActD.zero).object with|some j=>(foundF l i).erase j|none=>foundF l i) else foundF l i
def idxP' (f:Nat→Value) (F:List Nat):List (Int×Value):=F.map fun (j:Nat)=>((j:Int),f j)
theorem pE (a b:Int):KeyT.eqb a b=decide (a=b):=rfl
theorem rf (f:Nat→Value) (i:Nat):∀ F:List Nat,i∉F→mput (idxP' f F) (i:Int) (f i)=idxP' f (F++[i])
 | [],_=>rfl
 | j::F,h=>by
  have h1:¬ (i:Int)=(j:Int):=fun e=>h (by rw [show i=j by omega];exact ar)
  have ih:=rf f i F fun h2=>h (ZS _ h2)
  simp only [idxP',Qu,mput,pE,Zn h1,ZB,Qa] at ih ⊢
  rw [ih]
theorem rr (f:Nat→Value) (i:Nat):∀ F:List Nat,mdel (idxP' f F) (i:Int)=idxP' f (F.erase i)
 | []=>rfl
 | j::F=>by
  have ih:=rr f i F
  by_cases h:i=j
  · subst h
    simp only [idxP',Qu,mdel,pE,ZQ,ZC,List.erase_cons_head]
  · have h1:¬ (i:Int)=(j:Int):=by omega
    rw [List.erase_cons_tail (by simpa using fun e:j=i=>h e.symm)]
    simp only [idxP',Qu,mdel,pE,Zn h1,ZB] at ih ⊢
    rw [ih]
theorem Eq {j:Nat} (h:j≤1000000000):(Lit.int .i64 (j:Int)).wf=true:=by
 have h1:IntKind.i64.min=-9223372036854775808:=by decide
 have h2:IntKind.i64.max=9223372036854775807:=by decide
 simp only [Lit.wf,ZM,ZT,h1,h2]
 omega
def entsV (l:List ChainD) (k:ByteArray):List EntD:=match findC l k with
 | some c=>(foundF c.actsL c.actsL.length).map (entA k c.actsL)
 | none=>[]
theorem om {l:List ChainD} {k:ByteArray} {c:ChainD} (h:findC l k=some c):c∈l:=List.mem_of_find?_eq_some h
def hasK (ks:List ByteArray) (k:ByteArray):Bool:=ks.any fun y=>KeyT.eqb k y
theorem rl:∀ (ks:List ByteArray) (k:ByteArray),mget (setM ks) k=bif hasK ks k then some (.bool true) else none
 | [],_=>rfl
 | a::ks,k=>by
  have ih:=rl ks k
  simp only [setM,Qu,mget,hasK,List.any_cons] at ih ⊢
  cases KeyT.eqb k a with
  | true=>rfl
  | false=>simpa using ih
def bestStep (now:Int) (b:List (ByteArray×EntD)) (e:EntD):List (ByteArray×EntD) :=
 bif decide (e.l.until_≤now) then b else
  match mget b e.l.actor with
  | none=>mput b e.l.actor e
  | some old=>bif (!eqED e old)&&betV e old then mput b e.l.actor e else b
def bestF (l:List ChainD) (now:Int) (ks:List ByteArray):Nat→List ByteArray×List (ByteArray×EntD)
 | 0=>([],[])
 | i+1=>bif hasK (bestF l now ks i).1 (ks.getD i .empty) then bestF l now ks i else (sput (bestF l now ks i).1 (ks.getD i .empty),(entsV l (ks.getD i .empty)).foldl (bestStep now) (bestF l now ks i).2)
def EntD.zero:EntD:=⟨ListD.zero,0⟩
def ofV (l:List ChainD) (ks:List ByteArray) (now:Int):List ListD:=(sortB ((bestF l now ks ks.length).2.map (·.1))).map fun a=>((mget (bestF l now ks ks.length).2 a).getD EntD.zero).l
theorem tG {α β:Type} (f:β→α→β) (b:β) (E:List α) {j:Nat} {e:α} (h:E[j]?=some e):(E.take (j+1)).foldl f b=f ((E.take j).foldl f b) e:=by
 rw [List.take_add_one,h]
 simp
section
variable {N:Nat} {av bor:List Nat} {w0:World} {ops:Array Oper} {rest:List Oper} {k:St→Prop} {E:Env} {loc:List Res} {X:World→Prop} {x:Operand} {st:St}
variable {n:Nat} {ty:TypeId} {pos:String} {af:Array Edge} {g:Option (Nat×Bool)} {bb want:Bool}
end
theorem mu {β:Type}:∀ {b:List (ByteArray×β)} {a:ByteArray},a∈b.map (·.1)→∃ e,mget b a=some e
 | [],a,h=>by cases h
 | (k',v')::r,a,h=>by
  simp only [mget]
  cases hk:KeyT.eqb a k' with
  | true=>exact ⟨v',rfl⟩
  | false =>
   simp only [Qu,Z8] at h
   rcases h with rfl|h
   · rw [(KeyT.eqb_iff a a).2 rfl] at hk;cases hk
   · exact mu h
structure BBnd (m:Nat) (b:List (ByteArray×EntD)):Prop where
 len:b.length≤m
 size:∀ p∈b,p.1.size≤maxLen
theorem BBnd.mono {m m':Nat} {b:List (ByteArray×EntD)} (h:BBnd m b) (hm:m≤m'):BBnd m' b:=⟨Qr h.len hm,h.size⟩
end Go.Proofs.YtoefdofbekihdaaGreatDoor
set_option maxHeartbeats 16000000
namespace Go.Proofs.YtoefdofbekihdaaGreatDoor
open Go Go.Proofs Sy
theorem g6 {a b:EntD}:betV a b=true↔b.l.until_<a.l.until_∨(a.l.until_=b.l.until_∧(ltB a.l.by_ b.l.by_=true∨(a.l.by_=b.l.by_∧b.at_<a.at_))):=by
 unfold betV
 by_cases h:a.l.until_=b.l.until_
 · rw [ZA h]
   simp only [ZK,ZB]
   cases hs:seqB a.l.by_ b.l.by_ with
   | true =>
    have e:=seqB_iff.1 hs
    simp only [ZK,ZB,ZT]
    constructor
    · intro h1;exact .inr ⟨h,.inr ⟨e,h1⟩⟩
    · rintro (h1|⟨_,h1|h1⟩)
      · omega
      · rw [e,dq] at h1;cases h1
      · exact h1.2
   | false =>
    have e:=seqB_ne.1 hs
    simp only [ZI,ZC]
    constructor
    · intro h1;exact .inr ⟨h,.inl h1⟩
    · rintro (h1|⟨_,h1|h1⟩)
      · omega
      · exact h1
      · exact absurd h1.1 e
 · rw [Zn h]
   simp only [ZI,ZC,ZT]
   constructor
   · intro h1;exact .inl h1
   · rintro (h1|h1)
     · exact h1
     · exact absurd h1.1 h
theorem tS {a b:EntD} (h:betV a b=true) (k:betV b a=true):False:=by
 rw [g6] at h k
 rcases h with h|⟨h,h2⟩
 · rcases k with k|⟨k,_⟩<;>omega
 · rcases k with k|⟨k,k2⟩
   · omega
   · rcases h2 with h2|⟨h2,h3⟩
     · rcases k2 with k2|⟨k2,_⟩
       · rw [ij h2] at k2;cases k2
       · rw [k2,dq] at h2;cases h2
     · rcases k2 with k2|⟨k2,k3⟩
       · rw [h2,dq] at k2;cases k2
       · omega
theorem tQ {a b c:EntD} (h:betV a b=true) (k:betV b c=true):betV a c=true:=by
 rw [g6] at *
 rcases h with h|⟨h,h2⟩
 · rcases k with k|⟨k,_⟩<;>exact .inl aa
 · rcases k with k|⟨k,k2⟩
   · exact .inl aa
   · refine .inr ⟨by omega,?_⟩
     rcases h2 with h2|⟨h2,h3⟩
     · rcases k2 with k2|⟨k2,_⟩
       · exact .inl (fq h2 k2)
       · exact .inl (k2▸h2)
     · rcases k2 with k2|⟨k2,k3⟩
       · exact .inl (h2▸k2)
       · exact .inr ⟨h2.trans k2,by omega⟩
theorem tR {a b:EntD} (h:¬ betV a b=true) (k:¬ betV b a=true):a.l.by_=b.l.by_∧a.at_=b.at_:=by
 rw [g6] at *
 simp only [not_or,not_and] at h k
 have hu:a.l.until_=b.l.until_:=by omega
 have h2:=h.2 hu
 have k2:=k.2 hu.symm
 have e:a.l.by_=b.l.by_:=jS (by simpa using h2.1) (by simpa using k2.1)
 exact ⟨e,by have:=h2.2 e;have:=k2.2 e.symm;omega⟩
theorem iC {l:List ChainD} {k:ByteArray} {e:EntD} (h:e∈entsV l k):∃ c j,findC l k=some c∧j∈foundF c.actsL c.actsL.length∧e=entA k c.actsL j:=by
 unfold entsV at h
 cases hf:findC l k with
 | none=>rw [hf] at h;cases h
 | some c =>
  rw [hf] at h
  obtain ⟨j,hj,rfl⟩:=List.mem_map.1 h
  exact ⟨c,j,rfl,hj,rfl⟩
theorem A9 {l:List ChainD} {k:ByteArray} {e:EntD} (h:e∈entsV l k):e.l.by_=k:=by
 obtain ⟨c,j,_,_,rfl⟩:=iC h
 rfl
theorem A8 {l:List ChainD} {k k':ByteArray} {e e':EntD} (h:e∈entsV l k) (h':e'∈entsV l k') (hb:e.l.by_=e'.l.by_) (ha:e.at_=e'.at_):e=e':=by
 have hk:k=k':=by rw [←A9 h,←A9 h',hb]
 subst hk
 obtain ⟨c,j,hc,_,rfl⟩:=iC h
 obtain ⟨c',j',hc',_,rfl⟩:=iC h'
 rw [hc] at hc'
 cases hc'
 have:(j:Int)=(j':Int):=ha
 rw [show j=j' by omega]
def Best (S:EntD→Prop) (a:ByteArray) (e:EntD):Prop:=S e∧e.l.actor=a∧∀ e',S e'→e'.l.actor=a→e'=e∨betV e e'=true
theorem Best.uniq {S:EntD→Prop} {a:ByteArray} {e e':EntD} (h:Best S a e) (h':Best S a e'):e=e':=by
 rcases h.2.2 e' h'.1 h'.2.1 with h1|h1
 · exact h1.symm
 · rcases h'.2.2 e h.1 h.2.1 with h2|h2
   · exact h2
   · exact (tS h1 h2).elim
theorem jQ {β:Type}:∀ (b:List (ByteArray×β)) (k a:ByteArray) (v:β),mget (mput b k v) a=if a=k then some v else mget b a
 | [],k,a,v=>by
  by_cases h:a=k
  · simp only [mput,mget,(KeyT.eqb_iff a k).2 h,ZC,Qf h]
  · have:KeyT.eqb a k=false:=by rw [←Z2,KeyT.eqb_iff];exact h
    simp only [mput,mget,this,ZB,Qg h]
 | (k',v')::r,k,a,v=>by
  have ih:=jQ r k a v
  simp only [mput]
  cases hk:KeyT.eqb k k' with
  | true =>
   have e:=(KeyT.eqb_iff k k').1 hk
   subst e
   by_cases h:a=k
   · simp only [ZC,mget,(KeyT.eqb_iff a k).2 h,Qf h]
   · have:KeyT.eqb a k=false:=by rw [←Z2,KeyT.eqb_iff];exact h
     simp only [ZC,mget,this,ZB,Qg h]
  | false =>
   simp only [ZB,mget]
   cases ha:KeyT.eqb a k' with
   | true =>
    have e:=(KeyT.eqb_iff a k').1 ha
    subst e
    have hne:¬ a=k:=fun e=>by rw [e,(KeyT.eqb_iff k k).2 rfl] at hk;cases hk
    simp only [ZC,Qg hne]
   | false=>simp only [ZB,ih]
theorem rp {β:Type}:∀ (b:List (ByteArray×β)) (k a:ByteArray) (v:β),a∈(mput b k v).map (·.1)↔a=k∨a∈b.map (·.1)
 | [],k,a,v=>by simp [mput]
 | (k',v')::r,k,a,v=>by
  have ih:=rp r k a v
  simp only [mput]
  cases hk:KeyT.eqb k k' with
  | true =>
   have e:=(KeyT.eqb_iff k k').1 hk
   subst e
   simp
  | false =>
   simp only [ZB,Qu,Z8,ih]
   constructor
   · rintro (h|h|h)
     · exact .inr (.inl h)
     · exact .inl h
     · exact .inr (.inr h)
   · rintro (h|h|h)
     · exact .inr (.inl h)
     · exact .inl h
     · exact .inr (.inr h)
theorem mo {β:Type}:∀ (b:List (ByteArray×β)) (k:ByteArray) (v:β),(b.map (·.1)).Nodup→((mput b k v).map (·.1)).Nodup
 | [],k,v,_=>by simp [mput]
 | (k',v')::r,k,v,h=>by
  simp only [Qu,List.nodup_cons] at h
  have ih:=mo r k v h.2
  simp only [mput]
  cases hk:KeyT.eqb k k' with
  | true =>
   have e:=(KeyT.eqb_iff k k').1 hk
   subst e
   simp only [ZC,Qu,List.nodup_cons]
   exact h
  | false =>
   simp only [ZB,Qu,List.nodup_cons]
   refine ⟨fun hm=>?_,ih⟩
   rcases (rp r k k' v).1 hm with e|e
   · rw [e,(KeyT.eqb_iff k k).2 rfl] at hk;cases hk
   · exact h.1 e
theorem nZ {β:Type}:∀ {b:List (ByteArray×β)} {a:ByteArray} {e:β},mget b a=some e→a∈b.map (·.1)
 | [],a,e,h=>by cases h
 | (k',v')::r,a,e,h=>by
  simp only [mget] at h
  cases hk:KeyT.eqb a k' with
  | true=>rw [(KeyT.eqb_iff a k').1 hk];simp
  | false=>rw [hk] at h;simp only [Qu,Z8];exact .inr (nZ h)
structure Inv (l:List ChainD) (S:EntD→Prop) (b:List (ByteArray×EntD)):Prop where
 wf:∀ e,S e→∃ k,e∈entsV l k
 nodup:(b.map (·.1)).Nodup
 best:∀ a e,mget b a=some e→Best S a e
 all:∀ e,S e→∃ e',mget b e.l.actor=some e'
theorem Inv.congr {l:List ChainD} {S S':EntD→Prop} {b:List (ByteArray×EntD)} (h:Inv l S b) (hs:∀ e,S e↔S' e):Inv l S' b:=by
 have:S=S':=funext fun e=>propext (hs e)
 subst this
 exact h
theorem AE {l:List ChainD} {S:EntD→Prop} {b:List (ByteArray×EntD)} {now:Int} {e:EntD} {k:ByteArray} (h:Inv l S b) (he:e∈entsV l k):Inv l (fun x=>S x∨(x=e∧now<e.l.until_)) (bestStep now b e):=by
 unfold bestStep
 by_cases hu:e.l.until_≤now
 · rw [ZA hu,ZC]
   exact h.congr fun x=>⟨.inl,fun hx=>hx.elim id fun hx=>by omega⟩
 · rw [Zn hu,ZB]
   have hu':now<e.l.until_:=by omega
   have hS:(fun x=>S x∨(x=e∧now<e.l.until_))=fun x=>S x∨x=e:=funext fun x=>propext ⟨fun hx=>hx.imp id And.left,fun hx=>hx.imp id fun hx=>⟨hx,hu'⟩⟩
   rw [hS]
   have hwf:∀ x,S x∨x=e→∃ k,x∈entsV l k:=fun x hx=>hx.elim (h.wf x) fun hx=>⟨k,hx▸he⟩
   have put:(∀ x,S x→x.l.actor=e.l.actor→x=e∨betV e x=true)→Inv l (fun x=>S x∨x=e) (mput b e.l.actor e):=fun hb=>by
    refine ⟨hwf,mo b _ _ h.nodup,fun a x hx=>?_,fun x hx=>?_⟩
    · rw [jQ] at hx
      by_cases ha:a=e.l.actor
      · rw [Qf ha] at hx
        cases hx
        refine ⟨.inr rfl,ha.symm,fun e' h1 h2=>?_⟩
        rcases h1 with h1|h1
        · exact hb e' h1 (h2.trans ha)
        · exact .inl h1
      · rw [Qg ha] at hx
        have h1:=h.best a x hx
        refine ⟨.inl h1.1,h1.2.1,fun e' h2 h3=>?_⟩
        rcases h2 with h2|h2
        · exact h1.2.2 e' h2 h3
        · subst h2;exact absurd h3.symm ha
    · rw [jQ]
      by_cases ha:x.l.actor=e.l.actor
      · rw [Qf ha];exact ⟨_,rfl⟩
      · rw [Qg ha]
        rcases hx with hx|hx
        · exact h.all x hx
        · subst hx;exact absurd rfl ha
   cases ho:mget b e.l.actor with
   | none =>
    refine put fun x hx ha=>?_
    obtain ⟨e',h1⟩:=h.all x hx
    rw [ha,ho] at h1
    cases h1
   | some old =>
    have hbo:=h.best _ _ ho
    simp only
    cases hc:((!eqED e old)&&betV e old) with
    | true =>
     have hb:=(ZM _ _).mp hc
     refine put fun x hx ha=>?_
     rcases hbo.2.2 x hx ha with h1|h1
     · rw [h1];exact .inr hb.2
     · exact .inr (tQ hb.2 h1)
    | false =>
     simp only [ZB]
     have hoe:old=e∨betV old e=true:=by
      by_cases h1:betV old e=true
      · exact .inr h1
      · by_cases h2:betV e old=true
        · rw [h2,ZE] at hc
          have:eqED e old=true:=by simpa using hc
          exact .inl (eqED_iff.1 this).symm
        · obtain ⟨k',hk'⟩:=h.wf old hbo.1
          have h3:=tR h1 h2
          exact .inl (A8 hk' he h3.1 h3.2)
     refine ⟨hwf,h.nodup,fun a x hx=>?_,fun x hx=>?_⟩
     · have h1:=h.best a x hx
       refine ⟨.inl h1.1,h1.2.1,fun e' h2 h3=>?_⟩
       rcases h2 with h2|h2
       · exact h1.2.2 e' h2 h3
       · subst h2
         rw [←h3,ho] at hx
         cases hx
         rcases hoe with h4|h4
         · exact .inl h4.symm
         · exact .inr h4
     · rcases hx with hx|hx
       · exact h.all x hx
       · subst hx;exact ⟨old,ho⟩
theorem rz {l:List ChainD} {now:Int} {k:ByteArray}:∀ (E:List EntD) {S:EntD→Prop} {b:List (ByteArray×EntD)},Inv l S b→(∀ e∈E,e∈entsV l k)→Inv l (fun x=>S x∨(x∈E∧now<x.l.until_)) (E.foldl (bestStep now) b)
 | [],S,b,h,_=>h.congr fun x=>⟨.inl,fun hx=>hx.elim id fun hx=>by cases hx.1⟩
 | e::E,S,b,h,he=>by
  have h1:=AE (now:=now) h (he e ar)
  have h2:=rz (now:=now) E h1 fun x hx=>he x (ZS _ hx)
  refine h2.congr fun x=>?_
  simp only [Z8]
  constructor
  · rintro ((h|⟨rfl,h⟩)|⟨h,h'⟩)
    · exact .inl h
    · exact .inr ⟨.inl rfl,h⟩
    · exact .inr ⟨.inr h,h'⟩
  · rintro (h|⟨rfl|h,h'⟩)
    · exact .inl (.inl h)
    · exact .inl (.inr ⟨rfl,h'⟩)
    · exact .inr ⟨h,h'⟩
def Cand (l:List ChainD) (ks:List ByteArray) (now:Int) (e:EntD):Prop:=(∃ k∈ks,e∈entsV l k)∧now<e.l.until_
theorem hasK_iff {ks:List ByteArray} {k:ByteArray}:hasK ks k=true↔k∈ks:=by
 rw [hasK,List.any_eq_true]
 constructor
 · rintro ⟨y,hy,h⟩
   rw [(KeyT.eqb_iff k y).1 h];exact hy
 · intro h
   exact ⟨k,h,(KeyT.eqb_iff k k).2 rfl⟩
theorem wX {ks:List ByteArray} {k a:ByteArray}:a∈sput ks k↔a=k∨a∈ks:=by
 induction ks with
 | nil=>simp [sput]
 | cons y ks ih =>
  simp only [sput]
  cases hk:KeyT.eqb k y with
  | true=>rw [(KeyT.eqb_iff k y).1 hk];simp
  | false =>
   simp only [ZB,Z8,ih]
   constructor
   · rintro (h|h|h)
     · exact .inr (.inl h)
     · exact .inl h
     · exact .inr (.inr h)
   · rintro (h|h|h)
     · exact .inr (.inl h)
     · exact .inl h
     · exact .inr (.inr h)
theorem rA (l:List ChainD) (now:Int) (ks:List ByteArray):∀ i,i≤ks.length→(∀ k,k∈(bestF l now ks i).1↔k∈ks.take i)∧Inv l (Cand l (ks.take i) now) (bestF l now ks i).2
 | 0,_=>⟨fun k=>(by simp [bestF]),{ wf:=fun e h=>(by obtain ⟨⟨k,hk,_⟩,_⟩:=h;simp at hk),nodup:=(by simp [bestF]),best:=fun a e h=>(by cases h),all:=fun e h=>(by obtain ⟨⟨k,hk,_⟩,_⟩:=h;simp at hk) }⟩
 | i+1,hi=>by
  obtain ⟨ih1,ih2⟩:=rA l now ks i aa
  have hx:ks.getD i .empty=ks[i]:=by rw [ZL,Zm (by omega)];rfl
  have ht:ks.take (i+1)=ks.take i++[ks[i]]:=by rw [List.take_add_one,Zm (by omega)];rfl
  simp only [bestF,hx,ht]
  generalize ks[i]=k0 at *
  cases hh:hasK (bestF l now ks i).1 k0 with
  | true =>
   have hin:k0∈ks.take i:=(ih1 k0).1 (hasK_iff.1 hh)
   simp only [ZC]
   refine ⟨fun k=>?_,ih2.congr fun e=>?_⟩
   · rw [ih1,List.mem_append,List.mem_singleton]
     exact ⟨.inl,fun h=>h.elim id fun h=>h▸hin⟩
   · unfold Cand
     simp only [List.mem_append,List.mem_singleton]
     exact ⟨fun ⟨⟨k,h1,h2⟩,h3⟩=>⟨⟨k,.inl h1,h2⟩,h3⟩,fun ⟨⟨k,h1,h2⟩,h3⟩=>⟨⟨k,h1.elim id fun h=>h▸hin,h2⟩,h3⟩⟩
  | false =>
   simp only [ZB]
   refine ⟨fun k=>?_,(rz (now:=now) (k:=k0) (entsV l k0) ih2 fun e he=>he).congr fun e=>?_⟩
   · rw [wX,ih1,List.mem_append,List.mem_singleton]
     exact Or.comm
   · unfold Cand
     simp only [List.mem_append,List.mem_singleton]
     constructor
     · rintro (⟨⟨k,h1,h2⟩,h3⟩|⟨h2,h3⟩)
       · exact ⟨⟨k,.inl h1,h2⟩,h3⟩
       · exact ⟨⟨k0,.inr rfl,h2⟩,h3⟩
     · rintro ⟨⟨k,h1|rfl,h2⟩,h3⟩
       · exact .inl ⟨⟨k,h1,h2⟩,h3⟩
       · exact .inr ⟨h2,h3⟩
theorem AF (l:List ChainD) (now:Int) (ks:List ByteArray):Inv l (Cand l ks now) (bestF l now ks ks.length).2:=by
 have:=(rA l now ks ks.length (Qq _)).2
 rwa [List.take_length] at this
def Lst (l:List ChainD) (ks:List ByteArray) (now:Int) (x:ListD):Prop:=∃ e,Best (Cand l ks now) x.actor e∧e.l=x
theorem mem_ofV {l:List ChainD} {ks:List ByteArray} {now:Int} {x:ListD}:x∈ofV l ks now↔Lst l ks now x:=by
 have hI:=AF l now ks
 unfold ofV
 rw [List.mem_map]
 constructor
 · rintro ⟨a,ha,rfl⟩
   obtain ⟨e,he⟩:=mu (mem_sortB.1 ha)
   have hb:=hI.best a e he
   rw [he]
   refine ⟨e,?_,rfl⟩
   show Best _ e.l.actor e
   rw [hb.2.1]
   exact hb
 · rintro ⟨e,hb,rfl⟩
   obtain ⟨e',he'⟩:=hI.all e hb.1
   have hb':=hI.best _ e' he'
   have:e=e':=hb.uniq hb'
   subst this
   exact ⟨e.l.actor,mem_sortB.2 (nZ he'),by rw [he'];rfl⟩
theorem Lst.uniq {l:List ChainD} {ks:List ByteArray} {now:Int} {x y:ListD} (hx:Lst l ks now x) (hy:Lst l ks now y) (h:x.actor=y.actor):x=y:=by
 obtain ⟨e,he,rfl⟩:=hx
 obtain ⟨e',he',rfl⟩:=hy
 rw [h] at he
 rw [he.uniq he']
theorem hasL_iff {l:List ChainD} {ks:List ByteArray} {now:Int} {x:ListD} {a:ByteArray}:hasL (ofV l ks now) a=some x↔Lst l ks now x∧x.actor=a:=by
 constructor
 · intro h
   have h1:=List.find?_some h
   exact ⟨mem_ofV.1 (List.mem_of_find?_eq_some h),seqB_iff.1 h1⟩
 · rintro ⟨h,rfl⟩
   cases hf:hasL (ofV l ks now) x.actor with
   | none =>
    rw [hasL,List.find?_eq_none] at hf
    exact absurd (cV x.actor) (hf x (mem_ofV.2 h))
   | some y =>
    have h1:=mem_ofV.1 (List.mem_of_find?_eq_some hf)
    have h2:=List.find?_some hf
    rw [h.uniq h1 (seqB_iff.1 h2).symm]
theorem listed {l:List ChainD} {ks:List ByteArray} {now:Int} {e:EntD} (h:Cand l ks now e):∃ x,Lst l ks now x∧x.actor=e.l.actor∧e.l.until_≤x.until_∧(x.until_=e.l.until_→ltB e.l.by_ x.by_=false):=by
 have hI:=AF l now ks
 obtain ⟨e',he'⟩:=hI.all e h
 have hb:=hI.best _ e' he'
 refine ⟨e'.l,⟨e',by rw [hb.2.1];exact hb,rfl⟩,hb.2.1,?_,fun hu=>?_⟩
 · rcases hb.2.2 e h rfl with h1|h1
   · rw [h1];exact Int.le_refl _
   · rw [g6] at h1;omega
 · rcases hb.2.2 e h rfl with h1|h1
   · rw [h1];exact dq _
   · rw [g6] at h1
     rcases h1 with h1|⟨_,h1|h1⟩
     · omega
     · exact ij h1
     · rw [h1.1];exact dq _
theorem Lst.after {l:List ChainD} {ks:List ByteArray} {now:Int} {x:ListD} (h:Lst l ks now x):now<x.until_:=by
 obtain ⟨e,he,rfl⟩:=h
 exact he.1.2
theorem AR (l:List ActD) (a:ActD) (r:List ActD):(l++a::r).getD l.length ActD.zero=a:=by
 rw [ZL,Qm (Qq _),Nat.sub_self]
 rfl
structure OneMore (l l':List ChainD) (ks:List ByteArray) (id:ByteArray) (e0:EntD):Prop where
 mem:id∈ks
 far:∀ k,k≠id→entsV l' k=entsV l k
 own:entsV l' id=entsV l id++[e0]
theorem OneMore.cand {l l':List ChainD} {ks:List ByteArray} {id:ByteArray} {e0:EntD} (h:OneMore l l' ks id e0) {now:Int} {e:EntD}:Cand l' ks now e↔Cand l ks now e∨(e=e0∧now<e0.l.until_):=by
 constructor
 · rintro ⟨⟨k,hk,he⟩,hu⟩
   by_cases hki:k=id
   · subst hki
     rw [h.own] at he
     rcases List.mem_append.1 he with he|he
     · exact .inl ⟨⟨k,hk,he⟩,hu⟩
     · rw [List.mem_singleton.1 he] at hu ⊢
       exact .inr ⟨rfl,hu⟩
   · rw [h.far k hki] at he
     exact .inl ⟨⟨k,hk,he⟩,hu⟩
 · rintro (⟨⟨k,hk,he⟩,hu⟩|⟨rfl,hu⟩)
   · by_cases hki:k=id
     · subst hki
       exact ⟨⟨k,hk,by rw [h.own];exact List.mem_append_left _ he⟩,hu⟩
     · exact ⟨⟨k,hk,by rw [h.far k hki];exact he⟩,hu⟩
   · exact ⟨⟨id,h.mem,by rw [h.own];exact List.mem_append_right _ (List.mem_singleton.2 rfl)⟩,hu⟩
theorem OneMore.others {l l':List ChainD} {ks:List ByteArray} {id:ByteArray} {e0:EntD} (h:OneMore l l' ks id e0) {now:Int} {x:ListD} (hx:x∈ofV l' ks now) (hn:x.actor≠e0.l.actor):hasL (ofV l ks now) x.actor=some x:=by
 obtain ⟨e,⟨h1,h2,h3⟩,rfl⟩:=mem_ofV.1 hx
 refine hasL_iff.2 ⟨⟨e,⟨?_,rfl,fun e' he' ha=>h3 e' (h.cand.2 (.inl he')) ha⟩,rfl⟩,rfl⟩
 rcases h.cand.1 h1 with h1|⟨rfl,_⟩
 · exact h1
 · exact absurd rfl hn
theorem mU {l:List ChainD} {ks:List ByteArray} {now:Int} {e:EntD} (h:Cand l ks now e):∃ x,hasL (ofV l ks now) e.l.actor=some x∧e.l.until_≤x.until_:=by
 obtain ⟨x,h1,h2,h3,_⟩:=listed h
 exact ⟨x,hasL_iff.2 ⟨h1,h2⟩,h3⟩
theorem OneMore.first {l l':List ChainD} {ks:List ByteArray} {id:ByteArray} {e0:EntD} (h:OneMore l l' ks id e0) {now:Int} (h0:0≤e0.l.until_) :
  (hasL (ofV l' ks now) e0.l.actor).isSome=((hasL (ofV l ks now) e0.l.actor).isSome||decide (now<e0.l.until_)) ∧
  ∀ x,hasL (ofV l' ks now) e0.l.actor=some x→e0.l.until_≤x.until_∧((hasL (ofV l ks now) e0.l.actor).getD ListD.zero).until_≤x.until_:=by
 have hold:∀ y,hasL (ofV l ks now) e0.l.actor=some y→∃ x,hasL (ofV l' ks now) e0.l.actor=some x∧y.until_≤x.until_:=fun y hy=>by
  obtain ⟨⟨e,he,rfl⟩,ha⟩:=hasL_iff.1 hy
  obtain ⟨x,hx,hu⟩:=mU (h.cand.2 (.inl he.1))
  rw [ha] at hx
  exact ⟨x,hx,hu⟩
 have hnew:now<e0.l.until_→∃ x,hasL (ofV l' ks now) e0.l.actor=some x∧e0.l.until_≤x.until_:=fun hu=>mU (h.cand.2 (.inr ⟨rfl,hu⟩))
 constructor
 · cases hw:hasL (ofV l ks now) e0.l.actor with
   | some y =>
    obtain ⟨x,hx,_⟩:=hold y hw
    rw [hx]
    rfl
   | none =>
    by_cases hu:now<e0.l.until_
    · obtain ⟨x,hx,_⟩:=hnew hu
      rw [hx,ZA hu]
      rfl
    · rw [Zn hu]
      cases hx:hasL (ofV l' ks now) e0.l.actor with
      | none=>rfl
      | some x =>
       obtain ⟨⟨e,he,rfl⟩,ha⟩:=hasL_iff.1 hx
       rcases h.cand.1 he.1 with h1|⟨_,h1⟩
       · obtain ⟨y,hy,_⟩:=mU h1
         rw [ha,hw] at hy
         cases hy
       · exact absurd h1 hu
 · intro x hx
   have hafter:now<x.until_:=(hasL_iff.1 hx).1.after
   have h1:e0.l.until_≤x.until_:=by
    by_cases hu:now<e0.l.until_
    · obtain ⟨x',hx',hu'⟩:=hnew hu
      rw [hx] at hx'
      cases hx'
      exact hu'
    · omega
   refine ⟨h1,?_⟩
   cases hw:hasL (ofV l ks now) e0.l.actor with
   | none=>exact Int.le_trans h0 h1
   | some y =>
    obtain ⟨x',hx',hu'⟩:=hold y hw
    rw [hx] at hx'
    cases hx'
    exact hu'
end Go.Proofs.YtoefdofbekihdaaGreatDoor
set_option maxHeartbeats 16000000
namespace Go.Proofs.YtoefdofbekihdaaGreatDoor
open Go Go.Proofs Sy Go.Shelf Go.Maps Go.Sort Go.RowKit
structure ValsL (P:Program) (ρ:Ren):Prop where
 mixed:P.follows .mixedOrders=true
 f7:Bears P (ρ.f 7) (SlBodyY.n7 ρ)
 t0:P.underlying (ρ.t 0)=some (TypeDesc.tuple #[])
 a0:∀ w,(isAgg (ρ.t 0)).run P w=.ok false w
 z0:∀ w,(Go.sizeOf (ρ.t 0)).run P w=.ok 1 w
 v0:∀ w,(zeroValue (ρ.t 0)).run P w=.ok (Value.tuple #[]) w
 t3:P.underlying (ρ.t 3)=some (TypeDesc.string)
 a3:∀ w,(isAgg (ρ.t 3)).run P w=.ok false w
 z3:∀ w,(Go.sizeOf (ρ.t 3)).run P w=.ok 1 w
 v3:∀ w,(zeroValue (ρ.t 3)).run P w=.ok (Value.string { data:=#[] }) w
 t4:P.underlying (ρ.t 4)=some (TypeDesc.bool)
 a4:∀ w,(isAgg (ρ.t 4)).run P w=.ok false w
 z4:∀ w,(Go.sizeOf (ρ.t 4)).run P w=.ok 1 w
 v4:∀ w,(zeroValue (ρ.t 4)).run P w=.ok (Value.bool false) w
 t23:P.underlying (ρ.t 23)=some (TypeDesc.map (ρ.t 27) (ρ.t 3))
 a23:∀ w,(isAgg (ρ.t 23)).run P w=.ok false w
 z23:∀ w,(Go.sizeOf (ρ.t 23)).run P w=.ok 1 w
 v23:∀ w,(zeroValue (ρ.t 23)).run P w=.ok (Value.map none) w
 t33:P.underlying (ρ.t 33)=some (TypeDesc.func #[ρ.t 3] #[ρ.t 4] false)
 a33:∀ w,(isAgg (ρ.t 33)).run P w=.ok false w
 z33:∀ w,(Go.sizeOf (ρ.t 33)).run P w=.ok 1 w
 v33:∀ w,(zeroValue (ρ.t 33)).run P w=.ok (Value.nilFunc) w
 t27:P.underlying (ρ.t 27)=some (TypeDesc.int .i64)
def ValIL {H:Type} (D0:DataW H) (p:Int×List UInt8):Prop:=∀ zd,D0.atKey (.int .i64 p.1) zd=.lit (.string p.2)
def AllI {H:Type} (D0:DataW H) (ps:List (Int×List UInt8)):Prop:=(ps.map (·.1)).Perm (intKeys D0)∧∀ p∈ps,ValIL D0 p
variable {P:Program} {ρ:Ren}
set_option maxRecDepth 100000 in
set_option maxHeartbeats 1000000 in
theorem yg (L:ValsL P ρ) {H:Type} (F:Fence) (n:Nat) (h8:F.fn (ρ.f 7)) (hro:F.round=none) (hn:1≤n) (l Bm b nn:Nat) (D0:DataW H) (J:List (List UInt8)→World→Prop)
  (hY:∀ pre x W,J pre W→pre.length<Maps.size D0→YieldAt F (n-1) P l #[encStr x] W fun e W'=>e=.returned (.bool true)∧J (pre++[x]) W'∧KeepsWalks W W')
  (W:World) (hJ:AbidesFrom W.heap.size J) (hm:W.cell? ⟨Bm,0,none⟩=some (.map (some b))) (hown:W.ownsMap P (ρ.t 27) (plainElem P (ρ.t 3)) b nn D0) (h0:J [] W) :
  CallsIn F n P (ρ.f 7) #[.func (.yield l) #[] #[],.pointer (some ⟨Bm,0,none⟩)] W fun e W'=>(∃ v,e=.returned v)∧∃ xs,(∃ ps,AllI D0 ps∧xs=ps.map (·.2))∧J xs W':=by
 have mixed:=L.mixed;have t0:=L.t0;have a0:=L.a0;have z0:=L.z0;have v0:=L.v0;have t3:=L.t3;have a3:=L.a3;have z3:=L.z3;have v3:=L.v3;have t4:=L.t4;have a4:=L.a4;have z4:=L.z4;have v4:=L.v4;have t23:=L.t23;have a23:=L.a23;have z23:=L.z23;have v23:=L.v23;have t33:=L.t33;have a33:=L.a33;have z33:=L.z33;have v33:=L.v33;have t27:=L.t27
 have u0:=run_underlying L.t0;have u3:=run_underlying L.t3;have u4:=run_underlying L.t4;have u23:=run_underlying L.t23;have u33:=run_underlying L.t33;have u27:=run_underlying L.t27
 obtain ⟨_,_,FG⟩:=L.f7
 refine callsIn_of_wp FG rfl h8 ?_ hro
 simp only [SlBodyY.n7_ntmps ρ,List.size_toArray,ZY,Qi,Nat.reduceAdd,Nat.reduceSub,Array.replicate_succ,Array.replicate_zero,List.push_toArray,List.append_toArray,Qb,Qa]
 gi_wp2_with (first
  | (gi_at_range;refine wpListIn_range_own _ rfl _ (ρ.t 23) rfl (ρ.t 27) (ρ.t 3) (int_keyed L.t27) L.t23 _ b nn _ rfl hown ?_;intro w0 hrg0 hg0 hs0)
  | gi_in)
 go_frame
 gi_loopw [4] (fun _ wr=>∃ (left:Lit→Bool) (cnt:Nat) (ps:List (Int×List UInt8)),wr.ranges P (ρ.t 27) (plainElem P (ρ.t 3)) b W.heap.size nn D0 left cnt∧ps.length+cnt≤Maps.size D0∧CollectedI D0 left (ps.map (·.1))∧(∀ p∈ps,ValIL D0 p)∧J (ps.map (·.2)) wr)
  (fun _ wr=>wr.rangeLeft b W.heap.size)
 case atStart =>
  exact ⟨_,_,[],hrg0,by simp,CollectedI.start D0,by simp,hJ [] W w0 none h0 hg0 (fun r e=>by cases e)⟩
 case round =>
  obtain ⟨left,cnt,ps,hrg,hcs,hC,hV,hJs⟩:=hrel
  gi_wp2_with (first
   | (gi_at_next;refine wpListIn_next_ranges _ rfl _ rfl (ρ.t 27) (int_keyed L.t27) (plainElem P (ρ.t 3)) encZ encStr (fun key kl hk=>by obtain ⟨x,hx,_⟩:=Maps.keyOf_i64 L.t27 hk;exact ⟨x,hx⟩) (fun v y hv=>by obtain ⟨c,rfl,_⟩:=plainElem_string_inv L.t3 hv;exact ⟨c,rfl⟩) b W.heap.size nn _ _ _ rfl hrg ?_ ?_)
   | gi_in)
  · intro hc0 hl0
    gi_wp2
    go_end0
    exact ⟨⟨_,rfl⟩,_,⟨ps,⟨hC.perm hown (int_keyed L.t27) L.t27 hl0,hV⟩,rfl⟩,hJs⟩
  · intro x c kl yd yp w2 cnt2 hkey hlk hv hat hrg2 hlt hg2 hs2 hen
    obtain ⟨x',ex,rfl,_⟩:=Maps.keyOf_i64 L.t27 hkey
    obtain rfl:x=x':=encZ_inj ex
    obtain ⟨c',ec,ez,_⟩:=plainElem_string_inv L.t3 hv
    obtain rfl:c=c':=encStr_inj ec
    obtain rfl:yd=.lit (.string c):=(Prod.mk.inj ez).1
    have hJ2:J (ps.map (·.2)) w2:=hJ _ wr w2 (some W.heap.size) hJs hg2 (fun r e=>by cases e;exact ⟨Qq _,hrg.iter_walk⟩)
    obtain ⟨fn,tmps,assign,body,hy,hR⟩:=hY (ps.map (·.2)) c w2 hJ2 (by simp;omega)
    clear hs2
    gi_wp2
    refine hR.mono ?_
    have hC2:CollectedI D0 (fun z=>left z&&!z.sameKey (.int .i64 x)) ((ps++[(x,c)]).map (·.1)):=by simpa using hC.step hlk hat
    have hV2:∀ p∈ps++[(x,c)],ValIL D0 p:=fun p hp=>(List.mem_append.1 hp).elim (hV p) (fun e=>by simp at e;subst e;exact hat)
    rintro e W3 ⟨rfl,hJ3,hk3⟩
    gi_wp2
    have hrg3:=hrg2.of_walks hk3
    go_roundw
    case rel=>exact ⟨_,cnt2,ps++[(x,c)],hrg3,by simp;omega,hC2,hV2,by simpa using hJ3⟩
    case measure=>rw [hrg3.left_eq,hrg.left_eq];exact hlt
theorem p5 (L:ValsL P ρ) {H:Type} (F:Fence) (n:Nat) (h7:F.fn (ρ.f 7)) (hro:F.round=none) (hn:1≤n) (Bm b nn:Nat) (D0:DataW H) (w:World) (hBm:Bm<w.heap.size)
  (hm:w.cell? ⟨Bm,0,none⟩=some (.map (some b))) (hown:w.ownsMap P (ρ.t 27) (plainElem P (ρ.t 3)) b nn D0) :
  SeqGives F n P (ρ.f 7) #[.pointer (some ⟨Bm,0,none⟩)] encStr (fun xs=>∃ ps,AllI D0 ps∧xs=ps.map (·.2)) (Maps.size D0) w:=fun l J W hW hJ hY h0=>by
 have hown':W.ownsMap P (ρ.t 27) (plainElem P (ρ.t 3)) b nn D0:=by
  have hbl:=hown.lt
  obtain ⟨es,clock,hb,Ft,hs,hD⟩:=hown
  exact ⟨es,clock,(hW.block b hbl).trans hb,Ft,hs,hD⟩
 exact yg L F n h7 hro hn l Bm b nn D0 J hY W hJ ((hW.cell (p:=⟨Bm,0,none⟩) hBm).trans hm) hown' h0
def valsRen:Ren:=⟨fun|7=>75|n=>n,fun|0=>0|3=>9|4=>4|23=>102|33=>131|27=>3|n=>n,fun|n=>n⟩
theorem valsL:ValsL Tryz.prog valsRen where
 mixed:=by kernel_rfl
 f7:=⟨Tryz.f75.name,by decide,Tryz.func75.trans (congrArg some ae)⟩
 t0:=Tryz.underlying0
 a0:=Tryz.isAgg0
 z0:=Tryz.sizeOf0
 v0:=Tryz.zeroValue0
 t3:=Tryz.underlying9
 a3:=Tryz.isAgg9
 z3:=Tryz.sizeOf9
 v3:=Tryz.zeroValue9
 t4:=Tryz.underlying4
 a4:=Tryz.isAgg4
 z4:=Tryz.sizeOf4
 v4:=Tryz.zeroValue4
 t23:=Tryz.underlying102
 a23:=Tryz.isAgg102
 z23:=Tryz.sizeOf102
 v23:=Tryz.zeroValue102
 t33:=Tryz.underlying131
 a33:=Tryz.isAgg131
 z33:=Tryz.sizeOf131
 v33:=Tryz.zeroValue131
 t27:=Tryz.underlying3
def strV (l:List (Int×ByteArray)):List (Int×Value):=l.map fun p=>(p.1,.string p.2)
theorem ng {P:Program} {K V:Nat} (hk:P.underlying K=some (.int .i64)) (hv:P.underlying V=some .string) {w:World} {q:Nat} {l:List (Int×ByteArray)} (h:MapAt w q (strV l)) (hs:∀ p∈l,(Lit.int .i64 p.1).wf=true∧p.2.size≤maxLen) (hlen:l.length≤maxLen) :
  ∃ D0:DataW Unit,w.ownsMap P K (plainElem P V) q l.length D0∧(intKeys D0).Perm (l.map fun p=>p.1)∧Maps.size D0=l.length∧∀ p∈l,ValIL D0 (p.1,bl p.2):=by
 obtain ⟨es,clock,hb,hst,hl⟩:=h
 have hz:es.size=l.length:=by have:=px (w:=w) (q:=q) hl;simpa [strV] using this
 have hl':es.toList.map (fun e=>(e.key,e.val))=l.map fun p=>(Value.int .i64 p.1,Value.string p.2):=by rw [hl,strV,Qt];rfl
 have hrd:∀ x∈es.toList,∃ p∈l,x.key=.int .i64 p.1∧x.val=.string p.2∧WideElems.rd P K (plainElem (H:=Unit) P V) x=some (.int .i64 p.1,.lit (.string (bl p.2))):=by
  intro x hx
  have h1:(x.key,x.val)∈l.map fun p=>(Value.int .i64 p.1,Value.string p.2):=by rw [←hl'];exact List.mem_map.2 ⟨x,hx,rfl⟩
  obtain ⟨p,hp,he⟩:=List.mem_map.1 h1
  have e1:x.key=.int .i64 p.1:=(congrArg Prod.fst he).symm
  have e2:x.val=.string p.2:=(congrArg Prod.snd he).symm
  have h3:Go.keyOf P K x.key=some (.int .i64 p.1):=by rw [e1];simp [Go.keyOf,hk,mapKey,(hs p hp).1]
  have h4:plainElem (H:=Unit) P V x.val=some (.lit (.string (bl p.2)),[]):=by rw [e2];simp [plainElem,hv,(hs p hp).2,bl]
  exact ⟨p,hp,e1,e2,by simp [WideElems.rd,h3,h4]⟩
 have hown:w.ownsMap P K (plainElem (H:=Unit) P V) q l.length (.map ((es.toList.map (WideElems.rg P K (plainElem P V))).foldr DataW.insert [])) :=
  ⟨es,clock,hb,⟨by omega,hst,fun x hx=>by obtain ⟨p,_,_,_,h2⟩:=hrd x hx;exact ⟨_,h2⟩⟩,by omega,rfl⟩
 have hperm:=WideShapes.sorted_perm (es.toList.map (WideElems.rg P K (plainElem (H:=Unit) P V)))
 refine ⟨_,hown,?_,?_,fun p hp zd=>?_⟩
 · have h1:=hperm.map fun p=>Go.intOf p.1
   refine h1.trans ?_
   have h2:(es.toList.map (WideElems.rg P K (plainElem (H:=Unit) P V))).map (fun p=>Go.intOf p.1)=es.toList.map fun x=>match x.key with|.int _ s=>s|_=>0:=by
    rw [Qt]
    refine List.map_congr_left fun x hx=>?_
    obtain ⟨p,_,h3,_,h4⟩:=hrd x hx
    simp [WideElems.rg,h4,h3,Go.intOf]
   have h5:(es.toList.map fun x=>match x.key with|.int _ s=>s|_=>0)=l.map fun p=>p.1:=by
    have h6:=congrArg (List.map fun (p:Value×Value)=>match p.1 with|.int _ s=>s|_=>0) hl'
    rw [Qt,Qt] at h6
    exact h6
   rw [h2,h5]
 · show ((es.toList.map (WideElems.rg P K (plainElem (H:=Unit) P V))).foldr DataW.insert []).length=l.length
   rw [length_sorted]
   simp [hz]
 · have h1:(Value.int .i64 p.1,Value.string p.2)∈es.toList.map (fun e=>(e.key,e.val)):=by rw [hl'];exact List.mem_map.2 ⟨p,hp,rfl⟩
   obtain ⟨x,hx,he⟩:=List.mem_map.1 h1
   obtain ⟨p',_,e1,e2,h4⟩:=hrd x hx
   have e3:p'.1=p.1:=by have:=congrArg Prod.fst he;rw [e1] at this;injection this
   have e4:p'.2=p.2:=by have:=congrArg Prod.snd he;rw [e2] at this;injection this
   rw [e3,e4] at h4
   have hm:(Lit.int .i64 p.1,(DataW.lit (.string (bl p.2)):DataW Unit))∈(es.toList.map (WideElems.rg P K (plainElem (H:=Unit) P V))).foldr DataW.insert [] :=
    hperm.symm.subset (List.mem_map.2 ⟨x,hx,by simp [WideElems.rg,h4]⟩)
   obtain ⟨es',hD',hpw,_⟩:=hown.entries (int_keyed hk)
   injection hD' with hD'
   rw [←hD'] at hpw
   exact WideAt.atKey_mem zd trivial hpw hm
def litS {H:Type}:DataW H→List UInt8
 | .lit (.string s)=>s
 | _=>[]
theorem vp {H:Type} {D0:DataW H} {ps:List (Int×List UInt8)} {l:List (Int×ByteArray)} (h:AllI D0 ps) (h2:(intKeys D0).Perm (l.map fun p=>p.1)) (h3:∀ p∈l,ValIL D0 (p.1,bl p.2)):(ps.map (·.2)).Perm (l.map fun p=>bl p.2):=by
 have e1:ps.map (·.2)=(ps.map (·.1)).map fun k=>litS (D0.atKey (.int .i64 k) .nil):=by
  rw [Qt]
  exact List.map_congr_left fun p hp=>by simp only [Function.comp_apply,h.2 p hp .nil,litS]
 have e2:(l.map fun p=>bl p.2)=(l.map fun p=>p.1).map fun k=>litS (D0.atKey (.int .i64 k) .nil):=by
  rw [Qt]
  exact List.map_congr_left fun p hp=>by simp only [Function.comp_apply,h3 p hp .nil,litS]
 rw [e1,e2]
 exact (h.1.trans h2).map _
theorem sortedVS {w:World} {Bm q nn:Nat} {D0:DataW Unit} (hB:Bm<w.heap.size) (hc:w.cell? ⟨Bm,0,none⟩=some (.map (some q))) (hown:w.ownsMap Tryz.prog 3 (plainElem Tryz.prog 9) q nn D0) (h1:Maps.size D0≤maxLen) (h2:Maps.size D0*16≤140737488355328) :
  Calls Tryz.prog 31 #[.func (.func 75) #[] #[.pointer (some ⟨Bm,0,none⟩)]] w fun e w'=>∃ (v:Value) (ss:List (List UInt8)),e=.returned v∧(∃ ps,AllI D0 ps∧ss=ps.map (·.2)) ∧
   w'.ownsRow w.heap.size 9 1 v ss.length ((ss.mergeSort (fun x y=>decide (x≤y))).map encStr)∧(v=.slice none 0 0↔ss=[])∧Below w.heap.size w w' :=
 (callsIn_wide (n:=5)).1 (AnyZ.sorted_in Tryz.sortedS Fence.wide 5 trivial trivial trivial trivial rfl aa (sortsS _) (enters_of Tryz.func26 ae rfl) _ _ trivial (enters_of Tryz.func75 ae rfl) _ _ h1 h2 _
  (p5 (ρ:=valsRen) valsL Fence.wide _ trivial rfl aa Bm q nn D0 w hB hc hown))
theorem qi {M:Nat} (b q:Nat) (l:List (Int×ByteArray)) (hs:∀ p∈l,(Lit.int .i64 p.1).wf=true∧p.2.size≤maxLen) (hl:l.length≤1000000) :
  Ct Tryz.prog 31 #[.func (.func 75) #[] #[.pointer (some ⟨b,0,none⟩)]] [cel b M [.map (some q)],mapr q (strV l)] (fun _=>True)
   fun u R _=>∃ A c,u=.slice A l.length c∧R=[orow 9 1 u l.length ((sortB (l.map (·.2))).map encB),cel b M [.map (some q)],mapr q (strV l)]:=Ct.mk fun w av G=>by
 have hb:w.heap[b]?=some (.cells #[.map (some q)] M (0,0)):=(G.here (cel b M [.map (some q)]) ar).now
 have hm:MapAt w q (strV l):=(G.here (mapr q (strV l)) (ZS _ ar)).now
 obtain ⟨D0,hown,hperm,hsz,hval⟩:=ng Tryz.underlying3 Tryz.underlying9 hm hs (by simp only [maxLen];omega)
 have hbl:b<w.heap.size:=(Array.getElem?_eq_some_iff.1 hb).1
 have hc:w.cell? ⟨b,0,none⟩=some (.map (some q)):=by simp [World.cell?,hb]
 refine (sortedVS hbl hc hown (by rw [hsz];simp only [maxLen];omega) (by rw [hsz];omega)).mono fun e w' ⟨v,ss,he,hS,hrow,hnil,hB⟩=>?_
 obtain ⟨ps,hps,rfl⟩:=hS
 have hp:=vp hps hperm hval
 have hlen:(ps.map (·.2)).length=l.length:=by rw [hp.length_eq];simp
 have hsort:((ps.map (·.2)).mergeSort fun x y=>decide (x≤y)).map encStr=(sortB (l.map (·.2))).map encB:=by
  have:=mergeSort_of_perm hp
  rw [show ((ps.map (·.2)).mergeSort fun x y=>decide (x≤y))=(ps.map (·.2)).mergeSort leB from rfl,this,gl,sortB]
  simp only [Qt]
  rfl
 rw [hsort,hlen] at hrow
 obtain ⟨f1,f2,A,c,rfl⟩:=pp hrow
 exact ⟨_,_,fun _=>True,he,⟨A,c,rfl,rfl⟩,(G.more hB (dU (gi hrow)) f1 f2).imp fun _ _=>trivial⟩
end Go.Proofs.YtoefdofbekihdaaGreatDoor
set_option maxHeartbeats 16000000
namespace Go.Proofs.YtoefdofbekihdaaGreatDoor
open Go Go.Proofs Sy Go.Sort
instance tymV:TyMap Tryz.prog 102 9 (keyD Int):=⟨ae⟩
def labB (t:ByteArray) (a:ActD):Bool:=seqB a.object t||seqB a.target t
def labF (l:List ActD) (t:ByteArray):Nat→List Nat
 | 0=>[]
 | i+1=>bif decide ((l.getD i ActD.zero).kind=17) then (bif labB t (l.getD i ActD.zero) then labF l t i++[i] else labF l t i) else bif decide ((l.getD i ActD.zero).kind=6) then (match idxV l (l.getD i ActD.zero).object with|some j=>(labF l t i).erase j|none=>labF l t i) else labF l t i
theorem py (l:List ActD) (t:ByteArray):∀ i,∀ j∈labF l t i,j<i
 | 0,j,h=>by cases h
 | i+1,j,h=>by
  have ih:=py l t i
  simp only [labF] at h
  cases h1:decide ((l.getD i ActD.zero).kind=17) with
  | true =>
   rw [h1,ZC] at h
   cases h3:labB t (l.getD i ActD.zero) with
   | true =>
    rw [h3,ZC] at h
    rcases List.mem_append.1 h with h|h
    · have:=ih j h;omega
    · rw [List.mem_singleton.1 h];omega
   | false =>
    rw [h3,ZB] at h
    have:=ih j h;omega
  | false =>
   rw [h1] at h
   simp only [ZB] at h
   cases h2:decide ((l.getD i ActD.zero).kind=6) with
   | true =>
    rw [h2] at h
    simp only [ZC] at h
    split at h
    · have:=ih j (List.mem_of_mem_erase h);omega
    · have:=ih j h;omega
   | false=>rw [h2] at h;have:=ih j h;omega
theorem mz (l:List ActD) (t:ByteArray):∀ i,(labF l t i).length≤i
 | 0=>Qq _
 | i+1=>by
  have ih:=mz l t i
  simp only [labF]
  cases decide ((l.getD i ActD.zero).kind=17) with
  | true =>
   cases labB t (l.getD i ActD.zero) with
   | true=>simp only [ZC,ZX,List.length_singleton];omega
   | false=>simp only [ZC,ZB];omega
  | false =>
   simp only [ZB]
   cases decide ((l.getD i ActD.zero).kind=6) with
   | true =>
    simp only [ZC]
    split
    · have:=List.length_erase_le (a:=‹Nat›) (l:=labF l t i);omega
    · omega
   | false=>simp only [ZB];omega
def textA (l:List ActD) (j:Nat):ByteArray:=(l.getD j ActD.zero).text
def labV (l:List ActD) (t:ByteArray):List ByteArray:=compB (sortB ((labF l t l.length).map (textA l)))
def validV (l:List ChainD) (k t:ByteArray):List ByteArray:=bif seqB t ⟨#[]⟩ then [] else match findC l k with
 | some c=>labV c.actsL t
 | none=>[]
theorem AI (g:Nat→ByteArray) (F:List Nat):idxP' (fun j=>.string (g j)) F=strV (F.map fun (j:Nat)=>((j:Int),g j)):=by simp [idxP',strV,Qt,Function.comp_def]
theorem sx (mb:Option Nat):Ct Tryz.prog 43 #[.map mb] [] (fun _=>True) fun u R _=>∃ b,u=.func (.func 75) #[] #[.pointer (some ⟨b,0,none⟩)]∧R=[cel b 102 [.map mb]]:=by
 refine Sy.dw (args:=[_]) (Post:=fun u R=>∃ b,u=.func (.func 75) #[] #[.pointer (some ⟨b,0,none⟩)]∧R=[cel b 102 [.map mb]]) _ Tryz.func43 rfl Tryz.ntmps43 rfl fun av bor w0=>?_
 repeat' (first|refine gs ?_|refine gs1 fun _=>?_|(refine dN ?_)|fail)
 exact ad (ag rfl rfl) ⟨_,al _,_,rfl,rfl⟩
set_option maxHeartbeats 4000000 in
theorem yi (s:SlV) (l:List ChainD) (k t:ByteArray) (hok:∀ c∈l,ActsOk c.actsL) (hlen:∀ c∈l,c.actsL.length≤1000000) (htx:∀ c∈l,∀ a∈c.actsL,a.text.size≤1000000) :
    Ct Tryz.prog 19 #[s.v,.string k,.string t] [] (fun w=>Chains w s l∧Glob w) (fun u R _=>OwnStrs (validV l k t) u R):=by
  refine Sy.dw (args:=[_,_,_]) (Post:=OwnStrs (validV l k t)) _ Tryz.func19 rfl Tryz.ntmps19 rfl fun av bor w0=>?_
  have hfi:=u7 s l k
  refine cO 9 1 ?_
  cases ht:seqB t ⟨#[]⟩ with
  | true =>
    have e:validV l k t=[]:=by rw [validV,ht];rfl
    rw [e]
    repeat' (first|refine gs ?_|refine gs1 fun _=>?_|fail)
    exact ad (ag rfl rfl) ⟨_,al _,none,0,rfl,rfl⟩
  | false =>
  cases hf:findC l k with
  | none =>
    rw [hf] at hfi
    have hfi:Pu Tryz.prog 9 #[s.v,.string k] (fun w=>Chains w s l) (.tuple #[ChainD.zero.v,.bool false]):=hfi
    have e:validV l k t=[]:=by rw [validV,ht,hf];rfl
    rw [e]
    repeat' (first|(refine ab (hc:=hfi) (hX:=fun w h=>h.1) ?_)|refine gs ?_|refine gs1 fun _=>?_|(refine gp ?_ ?_<;>intro hx_ this)|fail)
    exact ad (ag rfl rfl) ⟨_,List.Sublist.cons _ (al _),none,0,rfl,rfl⟩
  | some c =>
    rw [hf] at hfi
    have hfi:Pu Tryz.prog 9 #[s.v,.string k] (fun w=>Chains w s l) (.tuple #[c.v,.bool true]):=hfi
    have hcm:=om hf
    have hc:=hok c hcm
    have hcl:=hlen c hcm
    have hct:=htx c hcm
    have e:validV l k t=compB (sortB ((labF c.actsL t c.actsL.length).map (textA c.actsL))):=by rw [validV,ht,hf];rfl
    rw [e]
    have hF:=py c.actsL t
    have hFl:=mz c.actsL t
    have hS:∀ i,labF c.actsL t (i+1)=_:=fun i=>labF.eq_2 c.actsL t i
    have hE:∀ j x,c.actsL[j]?=some x→textA c.actsL j=x.text:=fun j x hx=>by simp only [textA,ZL,hx,Option.getD_some]
    have hT:∀ j,(textA c.actsL j).size≤1000000:=fun j=>by
      cases hj:c.actsL[j]? with
      | none=>simp only [textA,ZL,hj,Option.getD_none];decide
      | some x=>rw [hE j x hj];exact hct x (List.mem_of_getElem? hj)
    generalize hFg:labF c.actsL t=F at *
    generalize hTg:textA c.actsL=T at *
    refine aO (p:=c.acts.n=c.actsL.length∧c.acts.n≤maxLen∧(0<c.actsL.length→c.acts.p.isSome=true)∧c.acts.n≤c.acts.c) (fun w h=>XC.know (c:=c) w ⟨h.1.2 c hcm,h.2⟩) fun ⟨hl,hm,hp,hcap⟩=>?_
    simp only [maxLen] at hm
    repeat' (first|(refine ab (hc:=hfi) (hX:=fun w h=>h.1) ?_)|refine gs ?_|refine gs1 fun _=>?_|(refine fx Int (h:=fun q=>?_))|(refine gp ?_ ?_<;>intro hx_ this)|fail)
    rename_i b7
    refine ap (ι:=Kth c.actsL.length) (fun i=>⟨[(2,.string t),(7,.pointer (some ⟨b7,0,none⟩)),(9,.map (some q)),(26,c.acts.v),(27,.int .i64 c.acts.n),(28,.int .i64 i.k)],
      [mapr q (idxP' (fun j=>.string (T j)) (F i.k)),cel b7 36 c.cells],fun w=>Chains w s l∧Glob w⟩) (fun i=>c.actsL.length-i.k) ⟨0,Nat.zero_le _⟩ (aj ⟨rfl,rfl,rfl,rfl,rfl,rfl,trivial⟩ (by rw [←hFg];exact List.Sublist.cons_cons _ (List.Sublist.cons_cons _ (ZR _))) fun _ h=>h) fun i=>?_
    have hik:=i.hk
    repeat' (first|refine gs ?_|refine gs1 fun _=>?_|(refine gp ?_ ?_<;>intro hx_ this)|fail)
    · have hlt:i.k<c.actsL.length:=by omega
      have hp':=hp aa
      obtain ⟨x,hx⟩:∃ x,c.actsL[i.k]?=some x:=⟨_,Zm hlt⟩
      have hidx:=AH c hc x.object
      have hEx:=hE i.k x hx
      have hSx:=hS i.k
      rw [show c.actsL.getD i.k ActD.zero=x from by rw [ZL,hx];rfl] at hSx
      simp only [labB] at hSx
      have hnew:i.k∉F i.k:=fun h=>absurd (hF i.k i.k h) (Nat.lt_irrefl _)
      have hFlen:=hFl i.k
      have hml:(idxP' (fun j=>Value.string (T j)) (F i.k)).length=(F i.k).length:=by simp [idxP']
      have hm1:mput (idxP' (fun j=>Value.string (T j)) (F i.k)) (i.k:Int) (Value.string x.text)=idxP' (fun j=>Value.string (T j)) (F i.k++[i.k]):=by
        have h:=rf (fun j=>Value.string (T j)) i.k (F i.k) hnew
        simp only [hEx] at h
        exact h
      cases ho:idxV c.actsL x.object with
      | none =>
        rw [ho] at hidx hSx
        have hidx:Pu Tryz.prog 42 #[c.v,.string x.object] (fun w=>c.at_ w∧Glob w) (.tuple #[.int .i64 0,.bool false]):=hidx
        repeat' (first|(refine ab (hc:=hidx) (hX:=fun w h=>⟨h.1.2 c hcm,h.2⟩) ?_)|refine gs ?_|refine gs1 fun _=>?_|(refine aI (q:=i.k*20) ?_)|(refine bN (cs:=x.cells) (hF:=fun w h=>Acts.get (h.1.2 c hcm) hx) ?_)|(refine eM (κ:=Int) (kk:=(i.k:Int)) (hA:=by (repeat (first|exact At.here _|apply At.there))) ?_)|(refine oK (κ:=Int) (hl:=by exact aS) ?_)|(refine nF (κ:=Int) (kk:=(j:Nat)) (hA:=by (repeat (first|exact At.here _|apply At.there))) ?_)|(refine gp ?_ ?_<;>intro hx_ this)|fail)
        all_goals first
          | (have hSx':F (i.k+1)=F i.k++[i.k]:=by rw [hSx,ZA (by assumption),ZC,show (seqB x.object t||seqB x.target t)=true from by rw [‹seqB x.object t=true›];rfl,ZC]
             refine ⟨(⟨i.k+1,hlt⟩:Kth c.actsL.length),(by show c.actsL.length-(i.k+1)<c.actsL.length-i.k;omega),aj ⟨rfl,rfl,rfl,rfl,rfl,rfl,trivial⟩ ?_ fun _ h=>h⟩
             show List.Sublist [mapr q (idxP' (fun j=>Value.string (T j)) (F (i.k+1))),_] _
             rw [hSx',←hm1]
             exact List.Sublist.cons _ (al _))
          | (have hSx':F (i.k+1)=F i.k++[i.k]:=by rw [hSx,ZA (by assumption),ZC,show (seqB x.object t||seqB x.target t)=true from by rw [‹seqB x.object t=false›,‹seqB x.target t=true›];rfl,ZC]
             refine ⟨(⟨i.k+1,hlt⟩:Kth c.actsL.length),(by show c.actsL.length-(i.k+1)<c.actsL.length-i.k;omega),aj ⟨rfl,rfl,rfl,rfl,rfl,rfl,trivial⟩ ?_ fun _ h=>h⟩
             show List.Sublist [mapr q (idxP' (fun j=>Value.string (T j)) (F (i.k+1))),_] _
             rw [hSx',←hm1]
             exact List.Sublist.cons _ (al _))
          | (have hSx':F (i.k+1)=F i.k:=by rw [hSx,ZA (by assumption),ZC,show (seqB x.object t||seqB x.target t)=false from by rw [‹seqB x.object t=false›,‹seqB x.target t=false›];rfl,ZB]
             refine ⟨(⟨i.k+1,hlt⟩:Kth c.actsL.length),(by show c.actsL.length-(i.k+1)<c.actsL.length-i.k;omega),aj ⟨rfl,rfl,rfl,rfl,rfl,rfl,trivial⟩ ?_ fun _ h=>h⟩
             show List.Sublist [mapr q (idxP' (fun j=>Value.string (T j)) (F (i.k+1))),_] _
             rw [hSx']
             exact List.Sublist.cons _ (al _))
          | (have hSx':F (i.k+1)=F i.k:=by
               have h0:F i.k=[]:=List.eq_nil_of_length_eq_zero aa
               rw [hSx,Zn (by assumption),ZB,ZA (by assumption),ZC,h0]
               try rfl
             refine ⟨(⟨i.k+1,hlt⟩:Kth c.actsL.length),(by show c.actsL.length-(i.k+1)<c.actsL.length-i.k;omega),aj ⟨rfl,rfl,rfl,rfl,rfl,rfl,trivial⟩ ?_ fun _ h=>h⟩
             show List.Sublist [mapr q (idxP' (fun j=>Value.string (T j)) (F (i.k+1))),_] _
             rw [hSx']
             exact List.Sublist.cons _ (al _))
          | (have hSx':F (i.k+1)=F i.k:=by rw [hSx,Zn (by assumption),ZB,Zn (by assumption),ZB]
             refine ⟨(⟨i.k+1,hlt⟩:Kth c.actsL.length),(by show c.actsL.length-(i.k+1)<c.actsL.length-i.k;omega),aj ⟨rfl,rfl,rfl,rfl,rfl,rfl,trivial⟩ ?_ fun _ h=>h⟩
             show List.Sublist [mapr q (idxP' (fun j=>Value.string (T j)) (F (i.k+1))),_] _
             rw [hSx']
             exact List.Sublist.cons _ (al _))
          | (have hSx':F (i.k+1)=F i.k:=by rw [hSx,Zn (by assumption),ZB,ZA (by assumption),ZC]
             refine ⟨(⟨i.k+1,hlt⟩:Kth c.actsL.length),(by show c.actsL.length-(i.k+1)<c.actsL.length-i.k;omega),aj ⟨rfl,rfl,rfl,rfl,rfl,rfl,trivial⟩ ?_ fun _ h=>h⟩
             show List.Sublist [mapr q (idxP' (fun j=>Value.string (T j)) (F (i.k+1))),_] _
             rw [hSx']
             exact List.Sublist.cons _ (al _))
      | some j =>
        rw [ho] at hidx hSx
        have hidx:Pu Tryz.prog 42 #[c.v,.string x.object] (fun w=>c.at_ w∧Glob w) (.tuple #[.int .i64 (j:Nat),.bool true]):=hidx
        repeat' (first|(refine ab (hc:=hidx) (hX:=fun w h=>⟨h.1.2 c hcm,h.2⟩) ?_)|refine gs ?_|refine gs1 fun _=>?_|(refine aI (q:=i.k*20) ?_)|(refine bN (cs:=x.cells) (hF:=fun w h=>Acts.get (h.1.2 c hcm) hx) ?_)|(refine eM (κ:=Int) (kk:=(i.k:Int)) (hA:=by (repeat (first|exact At.here _|apply At.there))) ?_)|(refine oK (κ:=Int) (hl:=by exact aS) ?_)|(refine nF (κ:=Int) (kk:=(j:Nat)) (hA:=by (repeat (first|exact At.here _|apply At.there))) ?_)|(refine gp ?_ ?_<;>intro hx_ this)|fail)
        all_goals first
          | (have hSx':F (i.k+1)=F i.k++[i.k]:=by rw [hSx,ZA (by assumption),ZC,show (seqB x.object t||seqB x.target t)=true from by rw [‹seqB x.object t=true›];rfl,ZC]
             refine ⟨(⟨i.k+1,hlt⟩:Kth c.actsL.length),(by show c.actsL.length-(i.k+1)<c.actsL.length-i.k;omega),aj ⟨rfl,rfl,rfl,rfl,rfl,rfl,trivial⟩ ?_ fun _ h=>h⟩
             show List.Sublist [mapr q (idxP' (fun j=>Value.string (T j)) (F (i.k+1))),_] _
             rw [hSx',←hm1]
             exact List.Sublist.cons _ (al _))
          | (have hSx':F (i.k+1)=F i.k++[i.k]:=by rw [hSx,ZA (by assumption),ZC,show (seqB x.object t||seqB x.target t)=true from by rw [‹seqB x.object t=false›,‹seqB x.target t=true›];rfl,ZC]
             refine ⟨(⟨i.k+1,hlt⟩:Kth c.actsL.length),(by show c.actsL.length-(i.k+1)<c.actsL.length-i.k;omega),aj ⟨rfl,rfl,rfl,rfl,rfl,rfl,trivial⟩ ?_ fun _ h=>h⟩
             show List.Sublist [mapr q (idxP' (fun j=>Value.string (T j)) (F (i.k+1))),_] _
             rw [hSx',←hm1]
             exact List.Sublist.cons _ (al _))
          | (have hSx':F (i.k+1)=F i.k:=by rw [hSx,ZA (by assumption),ZC,show (seqB x.object t||seqB x.target t)=false from by rw [‹seqB x.object t=false›,‹seqB x.target t=false›];rfl,ZB]
             refine ⟨(⟨i.k+1,hlt⟩:Kth c.actsL.length),(by show c.actsL.length-(i.k+1)<c.actsL.length-i.k;omega),aj ⟨rfl,rfl,rfl,rfl,rfl,rfl,trivial⟩ ?_ fun _ h=>h⟩
             show List.Sublist [mapr q (idxP' (fun j=>Value.string (T j)) (F (i.k+1))),_] _
             rw [hSx']
             exact List.Sublist.cons _ (al _))
          | (have hSx':F (i.k+1)=F i.k:=by
               have h0:F i.k=[]:=List.eq_nil_of_length_eq_zero aa
               rw [hSx,Zn (by assumption),ZB,ZA (by assumption),ZC,h0]
               try rfl
             refine ⟨(⟨i.k+1,hlt⟩:Kth c.actsL.length),(by show c.actsL.length-(i.k+1)<c.actsL.length-i.k;omega),aj ⟨rfl,rfl,rfl,rfl,rfl,rfl,trivial⟩ ?_ fun _ h=>h⟩
             show List.Sublist [mapr q (idxP' (fun j=>Value.string (T j)) (F (i.k+1))),_] _
             rw [hSx']
             exact List.Sublist.cons _ (al _))
          | (have hSx':F (i.k+1)=F i.k:=by rw [hSx,Zn (by assumption),ZB,Zn (by assumption),ZB]
             refine ⟨(⟨i.k+1,hlt⟩:Kth c.actsL.length),(by show c.actsL.length-(i.k+1)<c.actsL.length-i.k;omega),aj ⟨rfl,rfl,rfl,rfl,rfl,rfl,trivial⟩ ?_ fun _ h=>h⟩
             show List.Sublist [mapr q (idxP' (fun j=>Value.string (T j)) (F (i.k+1))),_] _
             rw [hSx']
             exact List.Sublist.cons _ (al _))
          | (have hSx':F (i.k+1)=(F i.k).erase j:=by rw [hSx,Zn (by assumption),ZB,ZA (by assumption),ZC]
             refine ⟨(⟨i.k+1,hlt⟩:Kth c.actsL.length),(by show c.actsL.length-(i.k+1)<c.actsL.length-i.k;omega),aj ⟨rfl,rfl,rfl,rfl,rfl,rfl,trivial⟩ ?_ fun _ h=>h⟩
             show List.Sublist [mapr q (idxP' (fun j=>Value.string (T j)) (F (i.k+1))),_] _
             rw [hSx',←rr]
             exact List.Sublist.cons _ (al _))
    have hik':i.k=c.actsL.length:=by omega
    rw [hik']
    have hGlt:=hF c.actsL.length
    have hGl:=hFl c.actsL.length
    generalize F c.actsL.length=G at *
    rw [AI]
    have hmv:((G.map fun (j:Nat)=>((j:Int),T j)).map fun p=>p.2)=G.map T:=by simp [Qt,Function.comp_def]
    have hml:(G.map fun (j:Nat)=>((j:Int),T j)).length=G.length:=by simp
    refine zr (hc:=sx (some q)) (hX:=fun _ _=>trivial) ?_
    rintro v1 R1 X1 ⟨bk,rfl,rfl⟩
    refine bZ (pre:=[cel bk 102 [.map (some q)],mapr q (strV (G.map fun (j:Nat)=>((j:Int),T j)))]) (fr:=[cel b7 36 c.cells]) (hc:=qi bk q (G.map fun (j:Nat)=>((j:Int),T j)) (fun p hp=>?_) aa) (hX:=fun _ _=>trivial) (h:=?_)
    · obtain ⟨j,hj,rfl⟩:=List.mem_map.1 hp
      have h1:=hGlt j hj
      have h2:=hT j
      exact ⟨Eq aa,by simp only [maxLen];show (T j).size≤_;omega⟩
    rintro v2 R2 X2 ⟨A,c2,rfl,rfl⟩
    rw [hmv,hml]
    refine oR (hc:=rR) (hX:=fun _ _=>trivial) ?_
    rintro _ _ X3 ⟨A3,c3,rfl,rfl⟩
    repeat' (first|refine gs ?_|refine gs1 fun _=>?_|fail)
    exact ad (ag rfl rfl) ⟨_,List.Sublist.cons_cons _ (ZR _),A3,c3,rfl,rfl⟩
end Go.Proofs.YtoefdofbekihdaaGreatDoor
set_option maxHeartbeats 16000000
namespace Go.Proofs.YtoefdofbekihdaaGreatDoor
open Go Go.Proofs Sy Go.Sort Go.Shelf Go.Maps
instance tymW:TyMap Tryz.prog 115 3 (keyD ByteArray):=⟨ae⟩
theorem keysSI_c:KeysC Tryz.prog 74 144 115 where
 keys:=fun mb W=>(callsIn_wide (n:=5)).1 (AnyZ.keys_in Tryz.keys_map_string_int_string_int Fence.wide 5 trivial rfl mb W)
theorem sortedSI_c:SortedSC Tryz.prog 31 144 9 where
 key:=Tryz.underlying9
 sorted:=fun w Bm q nn D0 hB hc hown h1 h2=>(callsIn_wide (n:=5)).1 (AnyZ.sorted_in Tryz.sortedS Fence.wide 5 trivial trivial trivial trivial rfl aa (sortsS _) (enters_of Tryz.func26 ae rfl) _ _ trivial (enters_of Tryz.func144 ae rfl) _ _ h1 h2 _
  (AnyZ.keys_gives (ρ:=Tryz.keys_map_string_int_string_int_ren) { Tryz.keys_map_string_int_string_int with } Fence.wide _ trivial rfl aa Bm q nn D0 w hB hc hown))
structure CntD where
 name:ByteArray
 n:Nat
def CntD.cells (a:CntD):List Value:=[.string a.name,.int .i64 a.n]
def CntD.v (a:CntD):Value:=.agg a.cells.toArray
def Cnts (w:World) (s:SlV) (l:List CntD):Prop:=RowsD w 2 s (l.map CntD.cells)
def cm (M:List (ByteArray×Nat)):List (ByteArray×Value):=M.map fun p=>(p.1,.int .i64 p.2)
theorem uS (b:List (ByteArray×Nat)) (k:ByteArray):mget (cm b) k=(mget b k).map fun n:Nat=>Value.int .i64 n:=rn (fun n:Nat=>Value.int .i64 n) b k
theorem CX (b:List (ByteArray×Nat)) (k:ByteArray) (n:Nat):mput (cm b) k (.int .i64 n)=cm (mput b k n):=ri (fun n:Nat=>Value.int .i64 n) b k n
def cntStep (M:List (ByteArray×Nat)) (k:ByteArray):List (ByteArray×Nat):=mput M k ((mget M k).getD 0+1)
def cntFL (l:List ChainD) (t:ByteArray) (ks:List ByteArray):Nat→List ByteArray×List (ByteArray×Nat)
 | 0=>([],[])
 | i+1=>bif hasK (cntFL l t ks i).1 (ks.getD i .empty) then cntFL l t ks i else (sput (cntFL l t ks i).1 (ks.getD i .empty),(validV l (ks.getD i .empty) t).foldl cntStep (cntFL l t ks i).2)
def cntV (l:List ChainD) (ks:List ByteArray) (t:ByteArray):List CntD:=(sortB ((cntFL l t ks ks.length).2.map (·.1))).map fun a=>⟨a,(mget (cntFL l t ks ks.length).2 a).getD 0⟩
structure CBnd (m:Nat) (b:List (ByteArray×Nat)):Prop where
 len:b.length≤m
 size:∀ p∈b,p.1.size≤maxLen
 val:∀ k,(mget b k).getD 0≤m
theorem CBnd.mono {m m':Nat} {b:List (ByteArray×Nat)} (h:CBnd m b) (hm:m≤m'):CBnd m' b:=⟨Qr h.len hm,h.size,fun k=>Qr (h.val k) hm⟩
theorem rj {β:Type} (k:ByteArray) (v:β):∀ b:List (ByteArray×β),(mput b k v).length≤b.length+1
 | []=>by simp [mput]
 | p::r=>by
  have ih:=rj k v r
  obtain ⟨k',v'⟩:=p
  simp only [mput]
  cases KeyT.eqb k k' with
  | true=>simp
  | false=>simp only [ZB,ZY];omega
theorem mq {β:Type} {k:ByteArray} {v:β} (hk:k.size≤maxLen):∀ {b:List (ByteArray×β)},(∀ p∈b,p.1.size≤maxLen)→∀ p∈mput b k v,p.1.size≤maxLen
 | [],_,p,hp=>by
  simp only [mput,List.mem_singleton] at hp
  subst hp
  exact hk
 | (k',v')::r,h,p,hp=>by
  simp only [mput] at hp
  cases hkk:KeyT.eqb k k' with
  | true =>
   rw [hkk] at hp
   rcases List.mem_cons.1 hp with rfl|hp
   · exact hk
   · exact h p (ZS _ hp)
  | false =>
   rw [hkk] at hp
   rcases List.mem_cons.1 hp with rfl|hp
   · exact h _ ar
   · exact mq hk (fun q hq=>h q (ZS _ hq)) p hp
theorem mt {β:Type}:∀ (b:List (ByteArray×β)) (k a:ByteArray) (v:β),mget (mput b k v) a=if a=k then some v else mget b a
 | [],k,a,v=>by
  simp only [mput,mget]
  by_cases h:a=k
  · rw [(KeyT.eqb_iff a k).2 h,Qf h];rfl
  · rw [Qg h]
    cases hb:KeyT.eqb a k with
    | true=>exact absurd ((KeyT.eqb_iff a k).1 hb) h
    | false=>rfl
 | (k',v')::r,k,a,v=>by
  have ih:=mt r k a v
  simp only [mput]
  cases hkk:KeyT.eqb k k' with
  | true =>
   have e:=(KeyT.eqb_iff k k').1 hkk
   subst e
   simp only [ZC,mget]
   by_cases h:a=k
   · rw [(KeyT.eqb_iff a k).2 h,Qf h];rfl
   · rw [Qg h]
     cases hb:KeyT.eqb a k with
     | true=>exact absurd ((KeyT.eqb_iff a k).1 hb) h
     | false=>rfl
  | false =>
   simp only [ZB,mget]
   cases hb:KeyT.eqb a k' with
   | true =>
    have e:=(KeyT.eqb_iff a k').1 hb
    subst e
    have h:¬ a=k:=fun h=>by rw [h,(KeyT.eqb_iff k k).2 rfl] at hkk;cases hkk
    rw [Qg h];rfl
   | false=>simp only [ZB];exact ih
theorem rS {m:Nat} {b:List (ByteArray×Nat)} {k:ByteArray} (h:CBnd m b) (hk:k.size≤maxLen):CBnd (m+1) (cntStep b k) :=
 ⟨Qr (rj k _ b) (Nat.succ_le_succ h.len),mq hk h.size,fun a=>by
  unfold cntStep
  rw [mt]
  by_cases e:a=k
  · rw [Qf e]
    have:=h.val k
    simp only [Option.getD_some]
    omega
  · rw [Qg e]
    have:=h.val a
    omega⟩
theorem gW:∀ (E:List ByteArray) {m:Nat} {b:List (ByteArray×Nat)},CBnd m b→(∀ e∈E,e.size≤maxLen)→CBnd (m+E.length) (E.foldl cntStep b)
 | [],m,b,h,_=>h
 | e::E,m,b,h,he=>by
  have:=gW E (rS h (he e ar)) fun x hx=>he x (ZS _ hx)
  simp only [List.foldl_cons,ZY]
  exact this.mono aa
theorem tL (l:List ByteArray):(compB l).length≤l.length:=by
 have:=Lib.compact_length_le (l.map bl)
 simpa [compB] using this
theorem nB {l:List ChainD} (hlen:∀ c∈l,c.actsL.length≤1000) (htx:∀ c∈l,∀ a∈c.actsL,a.text.size≤1000000) (k t:ByteArray):(validV l k t).length≤1000∧∀ x∈validV l k t,x.size≤maxLen:=by
 unfold validV
 cases seqB t ⟨#[]⟩ with
 | true=>simp
 | false =>
  cases hf:findC l k with
  | none=>simp
  | some c =>
   have hcm:=om hf
   simp only [ZB,labV]
   refine ⟨?_,fun x hx=>?_⟩
   · have h1:=tL (sortB ((labF c.actsL t c.actsL.length).map (textA c.actsL)))
     rw [jG,Z3] at h1
     have h2:=mz c.actsL t c.actsL.length
     have h3:=hlen c hcm
     omega
   · obtain ⟨j,hj,rfl⟩:=List.mem_map.1 (mem_compB_sortB.1 hx)
     have hj2:=py _ _ _ _ hj
     show (c.actsL.getD j ActD.zero).text.size≤maxLen
     rw [ZL,Zm hj2]
     have:=htx c hcm _ (Qh hj2)
     simp only [maxLen,Option.getD_some]
     omega
theorem rT {l:List ChainD} (hlen:∀ c∈l,c.actsL.length≤1000) (htx:∀ c∈l,∀ a∈c.actsL,a.text.size≤1000000) (t:ByteArray) (ks:List ByteArray):∀ i,CBnd (i*1000) (cntFL l t ks i).2
 | 0=>⟨by simp [cntFL],by simp [cntFL],fun k=>by simp [cntFL,mget]⟩
 | i+1=>by
  have ih:=rT hlen htx t ks i
  simp only [cntFL]
  cases hasK (cntFL l t ks i).1 (ks.getD i .empty) with
  | true=>exact ih.mono aa
  | false =>
   have he:=nB hlen htx (ks.getD i .empty) t
   exact (gW (validV l (ks.getD i .empty) t) ih he.2).mono (by have:=he.1;omega)
theorem lk (s:SlV) (l:List ChainD) (k t:ByteArray) (hok:∀ c∈l,ActsOk c.actsL) (hlen:∀ c∈l,c.actsL.length≤1000000) (htx:∀ c∈l,∀ a∈c.actsL,a.text.size≤1000000) :
  Mk Tryz.prog 19 #[s.v,.string k,.string t] (fun w=>Chains w s l∧Glob w) (StrsAt (validV l k t)):=wW (yi s l k t hok hlen htx)
set_option maxHeartbeats 4000000 in
theorem rQ (s:SlV) (l:List ChainD) (sk:SlV) (ks:List ByteArray) (t:ByteArray) (hok:∀ c∈l,ActsOk c.actsL) (hlen:∀ c∈l,c.actsL.length≤1000) (htx:∀ c∈l,∀ a∈c.actsL,a.text.size≤1000000) (hkl:ks.length≤1000) :
  Mk Tryz.prog 40 #[s.v,sk.v,.string t] (fun w=>Chains w s l∧Strs w sk ks∧Glob w) fun u X=>∃ S:SlV,u=S.v∧∀ w,X w→Cnts w S (cntV l ks t):=by
 refine bF (args:=[_,_,_]) _ Tryz.func40 rfl Tryz.ntmps40 rfl fun av bor w0=>?_
 refine aO (p:=sk.n=ks.length∧sk.n≤maxLen∧(0<ks.length→sk.p.isSome=true)) (fun w h=>⟨h.2.1.len_,Qr (RowsD.cap h.2.1) (RowsD.max h.2.1),h.2.1.some_⟩) fun ⟨hl,hm,hp⟩=>?_
 simp only [maxLen] at hm
 have hS:∀ i,cntFL l t ks (i+1)=_:=fun i=>cntFL.eq_2 l t ks i
 have hB:=rT hlen htx t ks
 have hofV:cntV l ks t=(sortB ((cntFL l t ks ks.length).2.map (·.1))).map fun a=>⟨a,(mget (cntFL l t ks ks.length).2 a).getD 0⟩:=rfl
 generalize hFg:cntFL l t ks=F at *
 repeat' (first|refine gs ?_|refine gs1 fun _=>?_|(refine fx ByteArray (h:=fun _=>?_))|(refine gp ?_ ?_<;>intro hx_ this)|fail)
 rename_i q1 q2
 refine ap (ι:=Kth ks.length) (fun i=>⟨[(0,s.v),(2,.string t),(7,.map (some q1)),(8,.map (some q2)),(18,sk.v),(19,.int .i64 sk.n),(20,.int .i64 i.k)],
  [mapr q2 (cm (F i.k).2),mapr q1 (setM (F i.k).1)],fun w=>Chains w s l∧Strs w sk ks∧Glob w⟩) (fun i=>ks.length-i.k) ⟨0,Nat.zero_le _⟩ (aj ⟨rfl,rfl,rfl,rfl,rfl,rfl,rfl,trivial⟩ (by rw [←hFg];exact al _) fun _ h=>h) fun i=>?_
 have hik:=i.hk
 repeat' (first|refine gs ?_|refine gs1 fun _=>?_|(refine gp ?_ ?_<;>intro hx_ this)|fail)
 · have hlt:i.k<ks.length:=by omega
   have hp':=hp aa
   have hSx:=hS i.k
   have hBi:=hB i.k
   have hc1:∀ w,Chains w s l∧Strs w sk ks∧Glob w→CellAt w sk.p i.k (.string (ks.getD i.k .empty)):=fun w h=>Strs.get h.2.1 hlt
   generalize ks.getD i.k .empty=x at *
   have hen:=lk s l x t hok (fun c hc=>Qr (hlen c hc) (by decide)) htx
   have hEb:=nB hlen htx x t
   have hgs:=rl (F i.k).1 x
   have hps:=mr (F i.k).1 x
   generalize validV l x t=E at *
   cases hh:hasK (F i.k).1 x with
   | true =>
    rw [hh] at hgs hSx
    repeat' (first|refine aI (q:=i.k) ?_|refine dA (q:=i.k) (u:=.string x) (hF:=fun w h=>hc1 w h) ?_|refine gs ?_|refine gs1 fun _=>?_|(refine fw (κ:=ByteArray) (kk:=x) (o:=some (.bool true)) (hl:=gk aS) (ho:=hgs) ?_)|(refine gp ?_ ?_<;>intro hx_ this)|fail)
    simp only [ZC] at hSx
    refine ⟨(⟨i.k+1,hlt⟩:Kth ks.length),(by show ks.length-(i.k+1)<ks.length-i.k;omega),aj ⟨rfl,rfl,rfl,rfl,rfl,rfl,rfl,trivial⟩ ?_ fun _ h=>h⟩
    show List.Sublist [mapr q2 (cm (F (i.k+1)).2),mapr q1 (setM (F (i.k+1)).1)] _
    rw [hSx]
    exact al _
   | false =>
    rw [hh] at hgs hSx
    repeat' (first|refine aI (q:=i.k) ?_|refine dA (q:=i.k) (u:=.string x) (hF:=fun w h=>hc1 w h) ?_|(refine cP (hc:=hen) (hX:=fun w h=>⟨h.1,h.2.2⟩) fun v1 X1 h1=>?_;obtain ⟨S,rfl,hs⟩:=h1)|refine gs ?_|refine gs1 fun _=>?_|(refine fw (κ:=ByteArray) (kk:=x) (o:=none) (hl:=gk aS) (ho:=hgs) ?_)|(refine eM (κ:=ByteArray) (kk:=x) (hA:=by (repeat (first|with_reducible exact At.here _|apply At.there))) ?_)|(refine gp ?_ ?_<;>intro hx_ this)|fail)
    rw [hps]
    simp only [ZB] at hSx
    refine aO (p:=S.n=E.length∧S.n≤maxLen∧(0<E.length→S.p.isSome=true)) (fun w h=>⟨(hs w h.2).len_,Qr (RowsD.cap (hs w h.2)) (RowsD.max (hs w h.2)),(hs w h.2).some_⟩) fun ⟨hn1,hm1,hp1⟩=>?_
    simp only [maxLen] at hm1
    have hBf:∀ j,j≤E.length→CBnd (i.k*1000+j) ((E.take j).foldl cntStep (F i.k).2):=fun j hj=>by
     have h:=gW (E.take j) hBi fun e he=>hEb.2 e (List.mem_of_mem_take he)
     rw [List.length_take,Nat.min_eq_left hj] at h
     exact h
    generalize hsk:sput (F i.k).1 x=sn at *
    generalize hb0:(F i.k).2=b0 at *
    refine ap (ι:=Kth E.length) (fun j=>⟨[(0,s.v),(2,.string t),(7,.map (some q1)),(8,.map (some q2)),(18,sk.v),(19,.int .i64 sk.n),(20,.int .i64 i.k),(32,S.v),(33,.int .i64 S.n),(34,.int .i64 j.k)],
     [mapr q2 (cm ((E.take j.k).foldl cntStep b0)),mapr q1 (setM sn)],fun w=>(Chains w s l∧Strs w sk ks∧Glob w)∧X1 w⟩) (fun j=>E.length-j.k) ⟨0,Nat.zero_le _⟩ (aj ⟨rfl,rfl,rfl,rfl,rfl,rfl,rfl,rfl,rfl,rfl,trivial⟩ (al _) fun _ h=>h) fun j=>?_
    have hjk:=j.hk
    repeat' (first|refine gs ?_|refine gs1 fun _=>?_|(refine gp ?_ ?_<;>intro hx_ this)|fail)
    · have hlt2:j.k<E.length:=by omega
      have hp2:=hp1 aa
      obtain ⟨e,he⟩:∃ e,E[j.k]?=some e:=⟨_,Zm hlt2⟩
      have hfo:=tG cntStep b0 E he
      have hBj:=hBf j.k aa
      generalize (E.take j.k).foldl cntStep b0=b at *
      have hmb:=uS b e
      have hvb:=hBj.val e
      have hi1:i.k*1000≤1000000:=Qr (Nat.mul_le_mul_right 1000 (Qr hik hkl)) (by decide)
      obtain ⟨n,hn,hst,hnb⟩:∃ n:Nat,(mget b e).getD 0=n∧cntStep b e=mput b e (n+1)∧n≤1001000:=⟨_,rfl,rfl,by omega⟩
      have hpb:mput (cm b) e (.int .i64 ((n:Int)+1))=cm (mput b e (n+1)):=CX b e (n+1)
      cases ho:mget b e with
      | none =>
       rw [ho] at hmb hn
       have hn0:n=0:=hn.symm
       subst hn0
       have hpb:mput (cm b) e (.int .i64 1)=cm (mput b e (0+1)):=hpb
       repeat' (first|refine aI (q:=j.k) ?_|refine dA (q:=j.k) (u:=.string e) (hF:=fun w h=>(hs w h.2).at_ he) ?_|refine gs ?_|refine gs1 fun _=>?_|(refine fw (κ:=ByteArray) (kk:=e) (o:=none) (hl:=gk aS) (ho:=hmb) ?_)|(refine eM (κ:=ByteArray) (kk:=e) (v:=.int .i64 1) (hA:=by (repeat (first|with_reducible exact At.here _|apply At.there))) ?_)|(refine gp ?_ ?_<;>intro hx_ this)|fail)
       refine ⟨(⟨j.k+1,hlt2⟩:Kth E.length),(by show E.length-(j.k+1)<E.length-j.k;omega),aj ⟨rfl,rfl,rfl,rfl,rfl,rfl,rfl,rfl,rfl,rfl,trivial⟩ ?_ fun _ h=>h⟩
       show List.Sublist [mapr q2 (cm ((E.take (j.k+1)).foldl cntStep b0)),mapr q1 (setM sn)] _
       rw [hfo,hst,←hpb]
       exact al _
      | some m =>
       rw [ho] at hmb hn
       have hn0:m=n:=hn
       subst hn0
       repeat' (first|refine aI (q:=j.k) ?_|refine dA (q:=j.k) (u:=.string e) (hF:=fun w h=>(hs w h.2).at_ he) ?_|refine gs ?_|refine gs1 fun _=>?_|(refine fw (κ:=ByteArray) (kk:=e) (o:=some (.int .i64 (m:Nat))) (hl:=gk aS) (ho:=hmb) ?_)|(refine eM (κ:=ByteArray) (kk:=e) (v:=.int .i64 ((m:Int)+1)) (hA:=by (repeat (first|with_reducible exact At.here _|apply At.there))) ?_)|(refine gp ?_ ?_<;>intro hx_ this)|fail)
       refine ⟨(⟨j.k+1,hlt2⟩:Kth E.length),(by show E.length-(j.k+1)<E.length-j.k;omega),aj ⟨rfl,rfl,rfl,rfl,rfl,rfl,rfl,rfl,rfl,rfl,trivial⟩ ?_ fun _ h=>h⟩
       show List.Sublist [mapr q2 (cm ((E.take (j.k+1)).foldl cntStep b0)),mapr q1 (setM sn)] _
       rw [hfo,hst,←hpb]
       exact al _
    · have hj:j.k=E.length:=by omega
      refine ⟨(⟨i.k+1,hlt⟩:Kth ks.length),(by show ks.length-(i.k+1)<ks.length-i.k;omega),aj ⟨rfl,rfl,rfl,rfl,rfl,rfl,rfl,trivial⟩ ?_ fun _ h=>h.1⟩
      show List.Sublist [mapr q2 (cm (F (i.k+1)).2),mapr q1 (setM (F (i.k+1)).1)] _
      rw [hSx,hj,List.take_length]
      exact al _
 · have hik':i.k=ks.length:=by omega
   rw [hik']
   have hBx:=hB ks.length
   generalize (F ks.length).2=b at *
   have hbl:b.length≤1000000:=by have:=hBx.len;have:ks.length*1000≤1000000:=Nat.mul_le_mul_right 1000 hkl;omega
   have hml:(cm b).length=b.length:=by simp [cm]
   have hmk:(cm b).map (·.1)=b.map (·.1):=by simp [cm,Function.comp_def]
   refine Ce (l:=[mapr q2 (cm b)]) (List.Sublist.cons_cons _ (ZR _)) ?_
   refine zr (hc:=keysSI_c.ct (some q2)) (hX:=fun _ _=>trivial) ?_
   rintro v1 R1 X1 ⟨bk,rfl,rfl⟩
   refine bZ (pre:=[cel bk 115 [.map (some q2)],mapr q2 (cm b)]) (fr:=[]) (hc:=sortedSI_c.ct bk q2 (cm b) (fun p hp=>?_) aa) (hX:=fun _ _=>trivial) (h:=?_)
   · simp only [cm,List.mem_map] at hp
     obtain ⟨p',hp',rfl⟩:=hp
     exact hBx.size p' hp'
   rintro v2 R2 X2 ⟨A,c2,rfl,rfl⟩
   rw [hml,hmk]
   have hKl:(sortB (b.map (·.1))).length=b.length:=by rw [jG,Z3]
   have hKm:∀ a∈sortB (b.map (·.1)),∃ e,mget b a=some e:=fun a ha=>mu (mem_sortB.1 ha)
   generalize sortB (b.map (·.1))=K at *
   refine aX ?_
   repeat' (first|refine gs ?_|refine gs1 fun _=>?_|fail)
   refine Fe (X':=fun w=>Strs w ⟨A,b.length,c2⟩ K) (fun w h=>ga h.2 hKl.symm) ?_
   refine aO (p:=0<K.length→A.isSome=true) (fun w h=>h.some_) fun hpA=>?_
   refine cO 101 2 ?_
   refine ap (ι:=FilS K.length) (fun j=>⟨[(8,.map (some q2)),(13,.slice j.A j.k j.c),(46,.slice A b.length c2),(47,.int .i64 (b.length:Nat)),(48,.int .i64 j.k)],
    [orow 101 2 (.slice j.A j.k j.c) j.k ((K.take j.k).map fun a=>CntD.cells ⟨a,(mget b a).getD 0⟩).flatten,mapr q2 (cm b)],fun w=>Strs w ⟨A,b.length,c2⟩ K⟩) (fun j=>K.length-j.k) ⟨0,Nat.zero_le _,none,0⟩
    (aj ⟨rfl,rfl,rfl,rfl,rfl,trivial⟩ (List.Sublist.cons_cons _ (List.Sublist.cons _ (List.Sublist.cons_cons _ (ZR _)))) fun _ h=>h) fun j=>?_
   have hjk:=j.hk
   repeat' (first|refine gs ?_|refine gs1 fun _=>?_|(refine gp ?_ ?_<;>intro hx_ this)|fail)
   · have hltj:j.k<K.length:=by omega
     have hpA':=hpA aa
     obtain ⟨a,ha⟩:∃ a,K[j.k]?=some a:=⟨_,Zm hltj⟩
     obtain ⟨e,he⟩:=hKm a (List.mem_of_getElem? ha)
     have hmb:mget (cm b) a=some (.int .i64 e):=by rw [uS,he];rfl
     have hfl:((K.take (j.k+1)).map fun a=>CntD.cells ⟨a,(mget b a).getD 0⟩).flatten=((K.take j.k).map fun a=>CntD.cells ⟨a,(mget b a).getD 0⟩).flatten++CntD.cells ⟨a,e⟩:=by
      rw [List.take_add_one,ha]
      simp [he]
     generalize ((K.take j.k).map fun a=>CntD.cells ⟨a,(mget b a).getD 0⟩).flatten=acc at *
     repeat' (first|refine aI (q:=j.k) ?_|refine dA (q:=j.k) (u:=.string a) (hF:=fun w h=>h.at_ ha) ?_|refine aC (cs:=CntD.cells ⟨a,e⟩) (hf:=by rfl) ?_|refine cF (size:=2) (vs:=[CntD.v ⟨a,e⟩]) (css:=CntD.cells ⟨a,e⟩) (hsz:=by rfl) (hcs:=by rfl) fun _=>?_|(refine aH (size:=2) (news:=CntD.cells ⟨a,e⟩) (q:=1) rfl rfl rfl rfl (fun _=>At.there _ (At.here _)) (fun w G=>bP G ar rfl rfl 1) aa (by simp only [maxLen];omega) rfl ?_ rfl ?_;(first|with_reducible rfl|with_reducible assumption|with_reducible exact ZI|with_reducible exact ZK);intro A3 c3)|refine gs ?_|refine gs1 fun _=>?_|(refine fw (κ:=ByteArray) (kk:=a) (o:=some (.int .i64 (e:Nat))) (hl:=gk aS) (ho:=hmb) ?_)|(refine gp ?_ ?_<;>intro hx_ this)|fail)
     refine ⟨(⟨j.k+1,hltj,A3,c3⟩:FilS K.length),(by show K.length-(j.k+1)<K.length-j.k;omega),aj ⟨rfl,rfl,rfl,rfl,rfl,trivial⟩ ?_ fun _ h=>h⟩
     show List.Sublist [orow 101 2 _ _ ((K.take (j.k+1)).map fun a=>CntD.cells ⟨a,(mget b a).getD 0⟩).flatten,_] _
     rw [hfl]
     exact List.Sublist.cons _ (al _)
   · have hk:j.k=K.length:=by omega
     refine ad (ag rfl rfl) ⟨⟨j.A,j.k,j.c⟩,rfl,fun w h=>?_⟩
     have h1:=h.2 _ ar
     have e1:((K.take j.k).map fun a=>CntD.cells ⟨a,(mget b a).getD 0⟩)=(K.map fun a=>(⟨a,(mget b a).getD 0⟩:CntD)).map CntD.cells:=by
      rw [hk,List.take_length,Qt];rfl
     rw [e1] at h1
     rw [hofV]
     exact bw h1 (by simp [hk]) (by
      intro r hr
      obtain ⟨x,_,rfl⟩:=List.mem_map.1 hr
      rfl)
end Go.Proofs.YtoefdofbekihdaaGreatDoor
set_option maxHeartbeats 16000000
namespace Go.Proofs.YtoefdofbekihdaaGreatDoor
open Go Go.Proofs Sy
def fewBad (l:List ChainD) (k:Nat):Bool:=!shortV (l.getD k ChainD.zero)
def fewV (l:List ChainD):Bool:=decide (l.length≤6)&&allB l.length (fewBad l)
theorem Fa {l:List ChainD} (hr:∀ c∈l,∀ a∈c.actsL,a.Rng∧a.target.size≤maxLen) (h:fewV l=true):l.length≤6∧∀ c∈l,ActsOk c.actsL∧c.actsL.length≤24:=by
 simp only [fewV,ZM,ZT] at h
 refine ⟨h.1,fun c hc=>?_⟩
 obtain ⟨i,hi,rfl⟩:=List.getElem_of_mem hc
 have h1:=jz h.2 hi
 simp only [fewBad,ZL,Zm hi,Option.getD_some,Bool.not_eq_false'] at h1
 exact xI (fun a ha=>(hr _ (Qh hi) a ha).1) (fun a ha=>(hr _ (Qh hi) a ha).2) h1
def spamS:ByteArray:=⟨#[115,112,97,109]⟩
def botS:ByteArray:=⟨#[98,111,116]⟩
def xS:ByteArray:=⟨#[120]⟩
theorem chainsNil (w:World):Chains w ⟨none,0,0⟩ []:=⟨bp w 6,fun c h=>by cases h⟩
set_option maxHeartbeats 1000000 in
theorem AW (s:SlV) (l:List ChainD):Pu Tryz.prog 18 #[s.v] (fun w=>Chains w s l) (.bool (fewV l)):=by
  refine ak (args:=[_]) _ Tryz.func18 rfl Tryz.ntmps18 rfl fun av bor w0=>?_
  refine aO (p:=s.n=l.length∧s.n≤maxLen∧(0<l.length→s.p.isSome=true)) (fun w h=>⟨h.len_,h.max_,h.some_⟩) fun ⟨hl,hm,hp⟩=>?_
  simp only [maxLen] at hm
  repeat' (first|refine gs ?_|refine gs1 fun _=>?_|(refine gp ?_ ?_<;>intro hx_ this)|fail)
  · apply ad;apply ag;rfl;rfl
    rw [fewV,Zn aa,ZG]
  refine ap (ι:=Upto l.length (fewBad l)) (fun i=>⟨[(0,s.v),(3,.int .i64 i.k)],[],fun w=>Chains w s l⟩) (fun i=>l.length-i.k) (Upto.zero _ _) (aj ⟨rfl,rfl,trivial⟩ (al _) fun _ h=>h) fun i=>?_
  have hik:=i.hk
  repeat' (first|refine gs ?_|refine gs1 fun _=>?_|(refine gp ?_ ?_<;>intro hx_ this)|fail)
  · have hlt:i.k<l.length:=by omega
    have hp':=hp aa
    obtain ⟨c,hc⟩:∃ c,l[i.k]?=some c:=⟨_,Zm hlt⟩
    have hcm:=List.mem_of_getElem? hc
    have hfb:fewBad l i.k=!shortV c:=by simp only [fewBad,ZL,hc,Option.getD_some]
    refine f0 (p:=c.acts.n=c.actsL.length∧c.acts.n≤maxLen∧(0<c.actsL.length→c.acts.p.isSome=true)) (fun w h=>⟨(h.2 c hcm).len_,(h.2 c hcm).max_,(h.2 c hcm).some_⟩) fun ⟨hl2,hm2,hp2⟩=>?_
    simp only [maxLen] at hm2
    repeat' (first|refine gs ?_|refine gs1 fun _=>?_|(refine aI (q:=i.k*6) ?_)|(refine iH ?_)|(refine dA (q:=i.k*6+1) (u:=c.acts.v) (hF:=fun w h=>(Chains.get h hc).2.2 1 _ rfl) ?_)|(refine gp ?_ ?_<;>intro hx_ this)|fail)
    · apply ad;apply ag;rfl;rfl
      rw [fewV,cH hlt (by rw [hfb,shortV,Zn (by omega)];rfl),ZH]
    refine ap (ι:=Upto c.actsL.length (shortBad c.actsL)) (fun j=>⟨[(0,s.v),(3,.int .i64 i.k),(4,.int .i64 j.k)],[],fun w=>Chains w s l⟩) (fun j=>c.actsL.length-j.k) (Upto.zero _ _) (aj ⟨rfl,rfl,rfl,trivial⟩ (al _) fun _ h=>h) fun j=>?_
    have hjk:=j.hk
    repeat' (first|refine gs ?_|refine gs1 fun _=>?_|(refine aI (q:=i.k*6) ?_)|(refine iH ?_)|(refine dA (q:=i.k*6+1) (u:=c.acts.v) (hF:=fun w h=>(Chains.get h hc).2.2 1 _ rfl) ?_)|(refine gp ?_ ?_<;>intro hx_ this)|fail)
    · have hjl:j.k<c.actsL.length:=by omega
      have hp3:=hp2 aa
      obtain ⟨x,hx⟩:∃ x,c.actsL[j.k]?=some x:=⟨_,Zm hjl⟩
      have hB:shortBad c.actsL j.k=(decide (8<x.to.n)||decide (8<x.wraps.n)||decide (600<x.text.size)||decide (600<x.body.data.size)):=by simp only [shortBad,ZL,hx,Option.getD_some]
      repeat' (first|refine gs ?_|refine gs1 fun _=>?_|(refine aI (q:=j.k*20) ?_)|(refine bN (cs:=x.cells) (hF:=fun w h=>Acts.get (h.2 c hcm) hx) ?_)|(refine gp ?_ ?_<;>intro hx_ this)|fail)
      all_goals first
        | (apply ad;apply ag;rfl;rfl
           have hb:shortBad c.actsL j.k=true:=by
             rw [hB];simp only [Bool.or_eq_true,ZT];simp only [ZT,decide_eq_false_iff_not] at *;omega
           rw [fewV,cH hlt (by rw [hfb,shortV,cH hjl hb,ZH];rfl),ZH])
        | (have hb:shortBad c.actsL j.k=false:=by
             rw [hB];simp only [Bool.or_eq_false_iff,decide_eq_false_iff_not];simp only [ZT,decide_eq_false_iff_not] at *;omega
           exact ⟨j.next hjl hb,(by show c.actsL.length-(j.k+1)<c.actsL.length-j.k;omega),aj ⟨rfl,rfl,rfl,trivial⟩ (List.Sublist.cons _ (al _)) fun _ h=>h⟩)
    · have hsv:shortV c=true:=by rw [shortV,j.all aa,ZA (by omega)];rfl
      exact ⟨i.next hlt (by rw [hfb,hsv];rfl),(by show l.length-(i.k+1)<l.length-i.k;omega),aj ⟨rfl,rfl,trivial⟩ (al _) fun _ h=>h⟩
  · apply ad;apply ag;rfl;rfl
    rw [fewV,i.all aa,ZA (by omega)]
    rfl
def CntD.zero:CntD:=⟨⟨#[]⟩,0⟩
def eqCD (a b:CntD):Bool:=seqB a.name b.name&&decide (a.n=b.n)
theorem eqCD_iff {a b:CntD}:eqCD a b=true↔a=b:=by
 cases a;cases b
 simp only [eqCD,ZM,seqB_iff,ZT,CntD.mk.injEq]
theorem zE (w:World) (d:Nat) (a b:CntD):(Op.equalIn (d+2) 101 a.v b.v).run Tryz.prog w=.ok (eqCD a b) w:=by
 have p0:∀ x:CntD,(part 9 x.cells.toArray 0).run Tryz.prog w=.ok (.string x.name) w:=fun x=>wy w rfl
 have p1:∀ x:CntD,(part 3 x.cells.toArray 1).run Tryz.prog w=.ok (.int .i64 x.n) w:=fun x=>wz w rfl
 unfold CntD.v
 rw [run_equalIn_agg _ _ _ _ _ ae ae]
 simp only [Program.fieldsOf,Tryz.underlying101]
 simp [Op.eqFields,p0,p1,Dx,Dy]
 unfold eqCD
 cases seqB a.name b.name<;>by_cases h:a.n=b.n<;>simp [h,Int.ofNat_inj]
section
variable {N:Nat} {av bor:List Nat} {w0:World} {ops:Array Oper} {rest:List Oper} {k:St→Prop} {E:Env} {loc:List Res} {X:World→Prop} {x y:Operand} {t2:TypeId}
variable {n:Nat} {ty:TypeId} {pos:String} {af:Array Edge} {g:Option (Nat×Bool)} {bb want:Bool} {st:St}
theorem BI (a b:CntD) (hx:ev st.env x=some a.v) (hy:ev st.env y=some b.v):Sy.Yields Tryz.prog N av bor w0 st (.binOp .neq 101 x y t2) ty (.bool (!eqCD a b)):=Sy.Yields.mk fun A w ok d pos af g=>by
 have h1:=run_eqGuard_agg (P:=Tryz.prog) w .neq 101 x y a.cells.toArray b.cells.toArray ae
 have h2:=run_neq_struct (P:=Tryz.prog) w 101 a.cells.toArray b.cells.toArray
 have h3:=zE w 9998 a b
 simp only [CntD.v] at hx hy h3
 simp [execOp,ok.eval hx,ok.eval hy,h1,h2,h3]
end
theorem Cnts.know {s:SlV} {l:List CntD}:∀ w,Cnts w s l→s.n=l.length∧s.n≤maxLen∧(0<l.length→s.p.isSome=true):=fun w h =>
 ⟨by have:=RowsD.len h;simpa using this,Qr (RowsD.cap h) (RowsD.max h),fun hl=>(RowsD.row h 0 l[0].cells (by simp [Zm hl])).2.1⟩
theorem Cnts.get {w:World} {s:SlV} {l:List CntD} (h:Cnts w s l) {i:Nat} {x:CntD} (hx:l[i]?=some x):x.cells.length=2∧s.p.isSome=true∧∀ j u,x.cells[j]?=some u→CellAt w s.p (i*2+j) u :=
 RowsD.row h i x.cells (by simp [hx])
def eqBadC (l m:List CntD) (k:Nat):Bool:=!eqCD (l.getD k CntD.zero) (m.getD k CntD.zero)
def eqCL (l m:List CntD):Bool:=decide (l.length=m.length)&&allB l.length (eqBadC l m)
theorem xp (l:List CntD):eqCL l l=true:=by
 rw [eqCL,ZA rfl,ZD]
 refine j6 fun j hj=>?_
 simp only [eqBadC,eqCD_iff.2 rfl,ZK]
theorem wu (s r:SlV) (l m:List CntD):Pu Tryz.prog 41 #[s.v,r.v] (fun w=>Cnts w s l∧Cnts w r m) (.bool (eqCL l m)):=by
 refine ak (args:=[_,_]) _ Tryz.func41 rfl Tryz.ntmps41 rfl fun av bor w0=>?_
 refine aO (fun w h=>And.intro (Cnts.know w h.1) (Cnts.know w h.2)) fun ⟨⟨hl,hm,hp⟩,⟨hl',hm',hp'⟩⟩=>?_
 simp only [maxLen] at hm hm'
 repeat' (first|refine gs ?_|(refine gp ?_ ?_<;>intro hx_ this)|fail)
 · apply ad;apply ag;rfl;rfl
   have:¬ l.length=m.length:=by
    have h1:¬ (s.n:Int)=(r.n:Int):=by simpa using hx_
    omega
   simp only [eqCL,Zn this,ZG]
 have hlm:l.length=m.length:=by
  have h1:(s.n:Int)=(r.n:Int):=by simpa using hx_
  omega
 refine ap (ι:=Upto l.length (eqBadC l m)) (fun i=>⟨[(0,s.v),(1,r.v),(5,.int .i64 i.k)],[],fun w=>Cnts w s l∧Cnts w r m⟩) (fun i=>l.length-i.k) (Upto.zero _ _) (aj (by repeat (first|exact trivial|refine ⟨rfl,?_⟩)) (al _) fun _ h=>h) fun i=>?_
 have hik:=i.hk
 repeat' (first|refine gs ?_|(refine gp ?_ ?_<;>intro hx_ this)|fail)
 · have hlt:i.k<l.length:=by omega
   have hlt':i.k<m.length:=by omega
   have hp1:=hp aa
   have hp2:=hp' aa
   have hx:l[i.k]?=some (l.getD i.k CntD.zero):=by rw [ZL,Zm hlt];rfl
   have hx':m[i.k]?=some (m.getD i.k CntD.zero):=by rw [ZL,Zm hlt'];rfl
   have hB:eqBadC l m i.k=!eqCD (l.getD i.k CntD.zero) (m.getD i.k CntD.zero):=rfl
   generalize l.getD i.k CntD.zero=x at *
   generalize m.getD i.k CntD.zero=x' at *
   (refine aq ⟨[0,1,2,3,4,5,6,7,8],[]⟩ [] (fun w=>Cnts w s l∧Cnts w r m) (h:=?_))
   all_goals repeat' (first|refine gdz ?_|refine ay (hsub:=by exact aF) (hy:=by first|(apply aB (q:=i.k*2);rfl;rfl;omega;omega;assumption;omega)|(apply eX (cs:=x.cells);rfl;exact fun w h=>Cnts.get h.1 hx)|(apply eX (cs:=x'.cells);rfl;exact fun w h=>Cnts.get h.2 hx')|(apply BI x x';rfl;rfl)) ?_|refine az ?_ (h':=?_)|exact aA|(refine gq ?_ ?_<;>intro hx_ this)|fail)
   repeat' (first|refine gs ?_|(refine gp ?_ ?_<;>intro hx_ this)|fail)
   · apply ad;apply ag;rfl;rfl
     rw [eqCL,cH hlt (by rw [hB];assumption),ZH]
   · exact ⟨i.next hlt (by rw [hB];assumption),(by show l.length-(i.k+1)<l.length-i.k;omega),aj (by repeat (first|exact trivial|refine ⟨rfl,?_⟩)) (al _) fun _ h=>h⟩
 · apply ad;apply ag;rfl;rfl
   rw [eqCL,i.all aa,ZA hlm]
   rfl
def repB (id:ByteArray) (a:ActD):Bool:=decide (a.kind=12)&&seqB a.object id
def repA (l:List ActD) (id:ByteArray):Nat→Bool
 | 0=>false
 | j+1=>repA l id j||repB id (l.getD j ActD.zero)
def repF (l:List ChainD) (id:ByteArray):Nat→List ByteArray
 | 0=>[]
 | i+1=>bif repA (l.getD i ChainD.zero).actsL id (l.getD i ChainD.zero).actsL.length then sput (repF l id i) (l.getD i ChainD.zero).id else repF l id i
def reportsV (l:List ChainD) (id:ByteArray):Nat:=bif seqB id ⟨#[]⟩ then 0 else (repF l id l.length).length
theorem nH:∀ (ks:List ByteArray) (k:ByteArray),sput (sput ks k) k=sput ks k
 | [],k=>by simp only [sput,(KeyT.eqb_iff k k).2 rfl,ZC]
 | a::ks,k=>by
  have ih:=nH ks k
  simp only [sput]
  cases h:KeyT.eqb k a with
  | true=>simp only [ZC,sput,(KeyT.eqb_iff k k).2 rfl]
  | false=>simp only [ZB,sput,h,ih]
set_option maxHeartbeats 2000000 in
theorem ei (s:SlV) (l:List ChainD) (id:ByteArray) (hlen:∀ c∈l,c.actsL.length≤1000000):Pu Tryz.prog 23 #[s.v,.string id] (fun w=>Chains w s l) (.int .i64 (reportsV l id)):=by
  refine ak (args:=[_,_]) _ Tryz.func23 rfl Tryz.ntmps23 rfl fun av bor w0=>?_
  refine aO (p:=s.n=l.length∧s.n≤maxLen∧(0<l.length→s.p.isSome=true)) (fun w h=>⟨h.len_,h.max_,h.some_⟩) fun ⟨hl,hm,hp⟩=>?_
  simp only [maxLen] at hm
  cases ht:seqB id ⟨#[]⟩ with
  | true =>
    repeat' (first|refine gs ?_|refine gs1 fun _=>?_|fail)
    apply ad;apply ag;rfl;rfl
    rw [reportsV,ht]
    rfl
  | false =>
    have hS:∀ i,repF l id (i+1)=_:=fun i=>repF.eq_2 l id i
    have hofV:reportsV l id=(repF l id l.length).length:=by rw [reportsV,ht];rfl
    generalize hFg:repF l id=F at *
    repeat' (first|refine gs ?_|refine gs1 fun _=>?_|(refine fx ByteArray (h:=fun q=>?_))|(refine gp ?_ ?_<;>intro hx_ this)|fail)
    refine ap (ι:=Kth l.length) (fun i=>⟨[(1,.string id),(5,.map (some q)),(13,s.v),(14,.int .i64 s.n),(15,.int .i64 i.k)],[mapr q (setM (F i.k))],fun w=>Chains w s l⟩) (fun i=>l.length-i.k) ⟨0,Nat.zero_le _⟩ (aj ⟨rfl,rfl,rfl,rfl,rfl,trivial⟩ (by rw [←hFg];exact al _) fun _ h=>h) fun i=>?_
    have hik:=i.hk
    repeat' (first|refine gs ?_|refine gs1 fun _=>?_|(refine gp ?_ ?_<;>intro hx_ this)|fail)
    · have hlt:i.k<l.length:=by omega
      have hp':=hp aa
      obtain ⟨c,hc⟩:∃ c,l[i.k]?=some c:=⟨_,Zm hlt⟩
      have hcm:=List.mem_of_getElem? hc
      have hcl:=hlen c hcm
      have hSx:=hS i.k
      rw [show l.getD i.k ChainD.zero=c from by rw [ZL,hc];rfl] at hSx
      refine f0 (p:=c.acts.n=c.actsL.length∧c.acts.n≤maxLen∧(0<c.actsL.length→c.acts.p.isSome=true)) (fun w h=>⟨(h.2 c hcm).len_,(h.2 c hcm).max_,(h.2 c hcm).some_⟩) fun ⟨hl2,hm2,hp2⟩=>?_
      simp only [maxLen] at hm2
      generalize F i.k=R at *
      repeat' (first|refine gs ?_|refine gs1 fun _=>?_|(refine aI (q:=i.k*6) ?_)|(refine bN (cs:=c.cells) (hF:=fun w h=>Chains.get h hc) ?_)|(refine gp ?_ ?_<;>intro hx_ this)|fail)
      rename_i b7
      refine ap (ι:=Kth c.actsL.length) (fun j=>⟨[(1,.string id),(5,.map (some q)),(7,.pointer (some ⟨b7,0,none⟩)),(13,s.v),(14,.int .i64 s.n),(15,.int .i64 i.k),(20,c.acts.v),(21,.int .i64 c.acts.n),(22,.int .i64 j.k)],[cel b7 36 c.cells,mapr q (setM (bif repA c.actsL id j.k then sput R c.id else R))],fun w=>Chains w s l⟩) (fun j=>c.actsL.length-j.k) ⟨0,Nat.zero_le _⟩ (aj ⟨rfl,rfl,rfl,rfl,rfl,rfl,rfl,rfl,rfl,trivial⟩ (al _) fun _ h=>h) fun j=>?_
      have hjk:=j.hk
      repeat' (first|refine gs ?_|refine gs1 fun _=>?_|(refine gp ?_ ?_<;>intro hx_ this)|fail)
      · have hjl:j.k<c.actsL.length:=by omega
        have hp3:=hp2 aa
        obtain ⟨x,hx⟩:∃ x,c.actsL[j.k]?=some x:=⟨_,Zm hjl⟩
        have hst:repA c.actsL id (j.k+1)=(repA c.actsL id j.k||(decide (x.kind=12)&&seqB x.object id)):=by simp only [repA,repB,ZL,hx,Option.getD_some]
        have hps:mput (setM (bif repA c.actsL id j.k then sput R c.id else R)) c.id (.bool true)=setM (sput R c.id):=by
          rw [mr]
          cases repA c.actsL id j.k with
          | true=>simp only [ZC,nH]
          | false=>rfl
        generalize repA c.actsL id j.k=b at *
        generalize hbR:(bif b then sput R c.id else R)=bR at *
        repeat' (first|refine gs ?_|refine gs1 fun _=>?_|(refine aI (q:=j.k*20) ?_)|(refine bN (cs:=x.cells) (hF:=fun w h=>Acts.get (h.2 c hcm) hx) ?_)|(refine eM (κ:=ByteArray) (kk:=c.id) (hA:=by (repeat (first|with_reducible exact At.here _|apply At.there))) ?_)|(refine gp ?_ ?_<;>intro hx_ this)|fail)
        all_goals first
          | (have e1:repA c.actsL id (j.k+1)=true:=by rw [hst,ZA (by assumption),show seqB x.object id=true from by assumption,ZD,ZP]
             refine ⟨(⟨j.k+1,hjl⟩:Kth c.actsL.length),(by show c.actsL.length-(j.k+1)<c.actsL.length-j.k;omega),aj ⟨rfl,rfl,rfl,rfl,rfl,rfl,rfl,rfl,rfl,trivial⟩ ?_ fun _ h=>h⟩
             show List.Sublist [_,mapr q (setM (bif repA c.actsL id (j.k+1) then sput R c.id else R))] _
             rw [e1,ZC,←hps]
             exact List.Sublist.cons _ (al _))
          | (have e1:repA c.actsL id (j.k+1)=b:=by rw [hst,ZA (by assumption),show seqB x.object id=false from by assumption,ZH,ZN]
             refine ⟨(⟨j.k+1,hjl⟩:Kth c.actsL.length),(by show c.actsL.length-(j.k+1)<c.actsL.length-j.k;omega),aj ⟨rfl,rfl,rfl,rfl,rfl,rfl,rfl,rfl,rfl,trivial⟩ ?_ fun _ h=>h⟩
             show List.Sublist [_,mapr q (setM (bif repA c.actsL id (j.k+1) then sput R c.id else R))] _
             rw [e1,hbR]
             exact List.Sublist.cons _ (al _))
          | (have e1:repA c.actsL id (j.k+1)=b:=by rw [hst,Zn (by assumption),ZG,ZN]
             refine ⟨(⟨j.k+1,hjl⟩:Kth c.actsL.length),(by show c.actsL.length-(j.k+1)<c.actsL.length-j.k;omega),aj ⟨rfl,rfl,rfl,rfl,rfl,rfl,rfl,rfl,rfl,trivial⟩ ?_ fun _ h=>h⟩
             show List.Sublist [_,mapr q (setM (bif repA c.actsL id (j.k+1) then sput R c.id else R))] _
             rw [e1,hbR]
             exact List.Sublist.cons _ (al _))
      · have hj:j.k=c.actsL.length:=by omega
        refine ⟨(⟨i.k+1,hlt⟩:Kth l.length),(by show l.length-(i.k+1)<l.length-i.k;omega),aj ⟨rfl,rfl,rfl,rfl,rfl,trivial⟩ ?_ fun _ h=>h⟩
        show List.Sublist [mapr q (setM (F (i.k+1)))] _
        rw [hSx,hj]
        exact List.Sublist.cons _ (al _)
    · have hk:i.k=l.length:=by omega
      rw [hk]
      have hml:(setM (F l.length)).length=(F l.length).length:=by simp [setM]
      repeat' (first|refine gs ?_|refine gs1 fun _=>?_|(refine oK (κ:=ByteArray) (hl:=by exact aS) ?_)|(refine gp ?_ ?_<;>intro hx_ this)|fail)
      apply ad;apply ag;rfl;rfl
      rw [hofV,hml]
end Go.Proofs.YtoefdofbekihdaaGreatDoor
