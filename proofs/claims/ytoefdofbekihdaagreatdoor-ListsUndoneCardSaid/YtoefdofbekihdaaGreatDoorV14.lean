/- Joined by program out of: S1 S2 Kq Ld Lk Lj Lo Lq Lr S3 S9. -/
import Derived.Test.YtoefdofbekihdaaGreatDoorV13
import Derived.Laws.StructEq
set_option linter.unusedVariables false
set_option linter.unusedSimpArgs false
set_option maxHeartbeats 16000000
namespace Go.Proofs.YtoefdofbekihdaaGreatDoor
open Go Go.Proofs Sy
def viewC (l:List ChainD) (id:ByteArray):Option (List ActD):=(findC l id).map fun c=>c.actsL.map ActD.can
def viewK (c:ChainD):Option (List ActD):=bif decide (0<c.actsL.length) then some (c.actsL.map ActD.can) else none
theorem Fv (a:ActD):digV a.can=digV a:=Bn rfl rfl
theorem pT (l:List ActD) (i:Nat):(l.map ActD.can).getD i ActD.zero=(l.getD i ActD.zero).can:=by
 rw [ZL,ZL,List.getElem?_map]
 cases l[i]?<;>rfl
theorem tY (l:List ActD) (d:ByteArray):idxV (l.map ActD.can) d=idxV l d:=by
 rw [idxV,idxV,List.findIdx?_map]
 exact congrArg (fun p=>l.findIdx? p) (funext fun a=>by
  show seqB (digV a.can) d=_
  rw [Fv])
theorem lw {c n:ChainD} (h:SameC n c):viewK n=viewK c:=by
 have e:n.actsL.length=c.actsL.length:=by simpa using congrArg List.length h.acts.symm
 rw [viewK,viewK,e,h.acts]
theorem jI {c:ChainD} (h:0<c.actsL.length):viewK c=some (c.actsL.map ActD.can):=by rw [viewK,ZA h];rfl
def AllK (L:List Int) (I:List ItemD) (l:List ChainD):Prop:=∃ M:List ChK,All2 (fun id p=>QK L I id p.1 p.2) (compB (sortB (authI I))) M∧l=(M.filter neK).map Prod.fst
theorem sI (c:ChainD) (l:List ChainD) (id:ByteArray):viewC (c::l) id=bif seqB c.id id then some (c.actsL.map ActD.can) else viewC l id:=by
 rw [viewC,findC,List.find?_cons]
 cases seqB c.id id<;>rfl
theorem qo {L:List Int} {I:List ItemD}:∀ {ids:List ByteArray} {M:List ChK},All2 (fun id p=>QK L I id p.1 p.2) ids M→ids.Nodup →
  (∀ id c kl,id∈ids→QK L I id c kl→viewC ((M.filter neK).map Prod.fst) id=viewK c)∧∀ id,id∉ids→viewC ((M.filter neK).map Prod.fst) id=none:=by
 intro ids M h
 induction h with
 | nil=>exact fun _=>⟨fun id c kl hi=>absurd hi (by simp),fun id _=>rfl⟩
 | @cons a p ids M hp _ ih =>
  intro hn
  obtain ⟨hn1,hn2⟩:=List.nodup_cons.1 hn
  obtain ⟨ih1,ih2⟩:=ih hn2
  have hpa:p.1.id=a:=mx hp
  have hstep:∀ id,viewC (((p::M).filter neK).map Prod.fst) id=bif neK p&&seqB a id then some (p.1.actsL.map ActD.can) else viewC ((M.filter neK).map Prod.fst) id:=fun id=>by
   rw [List.filter_cons]
   cases neK p with
   | true =>
    show viewC (p.1::(M.filter neK).map Prod.fst) id=_
    rw [sI,hpa,ZD]
   | false=>rfl
  refine ⟨fun id c kl hi q=>?_,fun id hi=>?_⟩
  · rw [hstep]
    by_cases e:a=id
    · subst e
      have hs:=lw (tw rfl (List.Perm.refl _) q hp).1
      rw [cW,ZE,←hs,viewK]
      show (bif decide (0<p.1.actsL.length) then _ else _)=_
      cases decide (0<p.1.actsL.length) with
      | true=>rfl
      | false=>exact ih2 a hn1
    · have hne:seqB a id=false:=by
       cases hb:seqB a id with
       | false=>rfl
       | true=>exact absurd (seqB_iff.1 hb) e
      rw [hne,ZH]
      rcases List.mem_cons.1 hi with rfl|hi
      · exact absurd rfl e
      · exact ih1 id c kl hi q
  · rw [hstep]
    have hne:seqB a id=false:=by
     cases hb:seqB a id with
     | false=>rfl
     | true=>exact absurd (by rw [seqB_iff.1 hb];exact ar) hi
    rw [hne,ZH]
    exact ih2 id fun h=>hi (ZS _ h)
theorem oy (I:List ItemD):(compB (sortB (authI I))).Nodup:=(kU _).imp fun h e=>by subst e;rw [cY] at h;cases h
theorem mem_ids {I:List ItemD} {id:ByteArray}:id∈compB (sortB (authI I))↔id∈authI I:=kR
theorem xU {L:List Int} {I:List ItemD} {l:List ChainD} (h:AllK L I l) {id:ByteArray} {c:ChainD} (hf:findC l id=some c):∃ kl,QK L I id c kl∧0<c.actsL.length∧id∈authI I:=by
 obtain ⟨M,hM,rfl⟩:=h
 have h1:seqB c.id id=true:=List.find?_some (p:=fun c:ChainD=>seqB c.id id) hf
 replace h1:=seqB_iff.1 h1
 obtain ⟨p,hp,rfl⟩:=List.mem_map.1 (List.mem_of_find?_eq_some hf)
 obtain ⟨hp1,hp2⟩:=List.mem_filter.1 hp
 obtain ⟨a,ha,q⟩:=hM.right p hp1
 have e:a=id:=(mx q).symm.trans h1
 subst e
 exact ⟨p.2,q,aN hp2,mem_ids.1 ha⟩
theorem fC {L:List Int} {I:List ItemD} {l:List ChainD} (h:AllK L I l) {id:ByteArray} (hi:id∈authI I) {c:ChainD} {kl:List KeyD} (q:QK L I id c kl):viewC l id=viewK c:=by
 obtain ⟨M,hM,rfl⟩:=h
 exact (qo hM (oy I)).1 id c kl (mem_ids.2 hi) q
theorem lg {L:List Int} {I:List ItemD} {l:List ChainD} (h:AllK L I l) {id:ByteArray} (hi:id∉authI I):viewC l id=none:=by
 obtain ⟨M,hM,rfl⟩:=h
 exact (qo hM (oy I)).2 id fun h=>hi (mem_ids.1 h)
theorem All2.leftQ {α β:Type} {R:α→β→Prop} {l:List α} {m:List β} (h:All2 R l m):∀ a∈l,∃ b∈m,R a b:=by
 induction h with
 | nil=>exact fun a ha=>absurd ha (by simp)
 | cons h1 _ ih =>
  intro a ha
  rcases List.mem_cons.1 ha with rfl|ha
  · exact ⟨_,ar,h1⟩
  · obtain ⟨b,hb,r⟩:=ih a ha
    exact ⟨b,ZS _ hb,r⟩
theorem qf {L:List Int} {I:List ItemD} {l:List ChainD} (h:AllK L I l) {id:ByteArray} (hi:id∈authI I):∃ c kl,QK L I id c kl:=by
 obtain ⟨M,hM,rfl⟩:=h
 obtain ⟨p,_,q⟩:=All2.leftQ hM id (mem_ids.2 hi)
 exact ⟨_,_,q⟩
theorem su {I:List ItemD} {it:ItemD} (hk:it.kind=0) {id:ByteArray}:id∈authI (addV digIt it I)↔id=it.act.author∨id∈authI I:=by
 have h:=((ip digIt it I).filter fun i=>decide (i.kind=0)).map fun i=>i.act.author
 rw [List.filter_cons_of_pos (p:=fun i:ItemD=>decide (i.kind=0)) (ZA hk),Qv] at h
 exact h.mem_iff.trans Z8
theorem BJ {L:List Int} {I:List ItemD} {it:ItemD} (hk:it.kind=0) {l l':List ChainD} (h:AllK L I l) (h':AllK L (addK L I it) l') {id:ByteArray} (hi:id≠it.act.author):viewC l' id=viewC l id:=by
 rw [addK] at h'
 cases hc:canAdd L I it with
 | false =>
  rw [hc,ZB] at h'
  by_cases hm:id∈authI I
  · obtain ⟨c,kl,q⟩:=qf h hm
    rw [fC h hm q,fC h' hm q]
  · rw [lg h hm,lg h' hm]
 | true =>
  rw [hc,ZC] at h'
  have hm':id∈authI (addV digIt it I)↔id∈authI I:=by rw [su hk];exact ⟨fun h=>h.resolve_left hi,.inr⟩
  by_cases hm:id∈authI I
  · obtain ⟨c,kl,q⟩:=qf h hm
    obtain ⟨c',kl',q'⟩:=qf h' (hm'.2 hm)
    have hs:selB id rightIt it=false:=by
     have hne:seqB it.act.author id=false:=by
      cases hb:seqB it.act.author id with
      | false=>rfl
      | true=>exact absurd (seqB_iff.1 hb).symm hi
     rw [selB,wantA,hne,ZH,ZG]
    rw [fC h hm q,fC h' (hm'.2 hm) q',lw (Ab hk hs q q').1]
  · rw [lg h hm,lg h' fun h=>hm (hm'.1 h)]
theorem oL {L:List Int} {I:List ItemD} {it:ItemD} (hk:it.kind=0) {id:ByteArray} (h:id∈authI I):id∈authI (addK L I it):=by
 rw [addK]
 cases canAdd L I it with
 | false=>exact h
 | true=>exact (su hk).2 (.inr h)
structure SignD (L:List Int) (I:List ItemD) (c n:ChainD) (k:KyD) (x b:ActD):Prop where
 right:rightB b=true
 sig:b=(draftX c x).sig (signV k (coreV ((draftX c x).sig SgD.zero)))
 fits:fitsV c b (idxV c.actsL b.object)=true
 acts:n.actsL.map ActD.can=c.actsL.map ActD.can++[b.can]
 len:n.actsL.length=c.actsL.length+1
theorem sY {L:List Int} {I:List ItemD} (h:KnR L I) {au:ByteArray} {c n:ChainD} {kl kl':List KeyD} (q:QK L I au c kl) (h0:0<c.actsL.length) (hcn:c.acts.n=c.actsL.length) {k:KyD} {x:ActD} {s3 s4:SlV}
  (e3:s3.n=(actSignV k (draftX c x)).to.n) (e4:s4.n=(actSignV k (draftX c x)).wraps.n) (q':QK L (addK L I (ofActI ((actSignV k (draftX c x)).re s3 s4))) au n kl') (hl:n.actsL.length=c.actsL.length+1) :
  SignD L I c n k x (actSignV k (draftX c x))∧canAdd L I (ofActI ((actSignV k (draftX c x)).re s3 s4))=true:=by
 cases ha:canAdd L I (ofActI ((actSignV k (draftX c x)).re s3 s4)) with
 | false =>
  rw [addK,ha] at q'
  have:=congrArg List.length (tw rfl (List.Perm.refl _) q q').1.acts
  simp at this
  omega
 | true =>
  obtain ⟨g1,g2,g3,g4⟩:=xV q e3 e4 ha
  rw [addK,ha] at q'
  have h1:(actSignV k (draftX c x)).seq=(c.actsL.length:Int):=by rw [g3,←hcn];rfl
  have h2:(actSignV k (draftX c x)).prev=c.prev:=by rw [g3];rfl
  have hx:=CZ h (it:=ofActI ((actSignV k (draftX c x)).re s3 s4)) rfl g4 q q' h0 h1 h2 hcn
  have hf2:fitsV c (ofActI ((actSignV k (draftX c x)).re s3 s4)).act (idxV c.actsL (ofActI ((actSignV k (draftX c x)).re s3 s4)).act.object)=fitsV c (actSignV k (draftX c x)) (idxV c.actsL (actSignV k (draftX c x)).object):=by
   rw [show (ofActI ((actSignV k (draftX c x)).re s3 s4)).act=(actSignV k (draftX c x)).re s3 s4 from rfl,xB c _ _ e3 e4]
   rfl
  cases hb:!c.fork&&(fitsV c (ofActI ((actSignV k (draftX c x)).re s3 s4)).act (idxV c.actsL (ofActI ((actSignV k (draftX c x)).re s3 s4)).act.object)&&verV (lastK kl) (ofActI ((actSignV k (draftX c x)).re s3 s4)).act) with
  | false =>
   rw [hb,ZB] at hx
   have:=congrArg List.length hx.1.acts
   simp at this
   omega
  | true =>
   rw [hb,ZC] at hx
   obtain ⟨_,x2,M,K,x3,x4,x5,x6⟩:=hx
   have hM:M=[]:=by
    refine List.eq_nil_of_length_eq_zero ?_
    have:=congrArg List.length x3
    simp at this
    omega
   subst hM
   rw [ZM,ZM,hf2] at hb
   refine ⟨⟨g2,g3,hb.2.1,?_,hl⟩,rfl⟩
   rw [x3,Qn]
   show _++[((actSignV k (draftX c x)).re s3 s4).can]=_
   rw [Fw _ e3 e4]
theorem lf {L:List Int} {I:List ItemD} (h:KnR L I) {l:List ChainD} (hl:AllK L I l):∀ c∈l,ActsOk c.actsL∧c.actsL.length≤100:=by
 obtain ⟨M,hM,rfl⟩:=hl
 intro c hc
 obtain ⟨p,hp,rfl⟩:=List.mem_map.1 hc
 obtain ⟨a,_,q⟩:=hM.right p (List.mem_filter.1 hp).1
 exact ⟨(gD h q).ok,(gD h q).len⟩
theorem oM {L:List Int} {I:List ItemD} {it:ItemD} (hk:it.kind=0) {l':List ChainD} (h':AllK L (addK L I it) l') {id:ByteArray} (hi:id∈authI I) {n:ChainD} {kl':List KeyD} (q':QK L (addK L I it) id n kl') (h0:0<n.actsL.length) :
  viewC l' id=some (n.actsL.map ActD.can):=by
 rw [fC h' (oL hk hi) q',jI h0]
theorem rc {P:Program} {fn:Func} {N t u r ty ty2 n n2:Nat} {s:St} {b b2 T T2:Nat} {cs cs2:List Value} {x:Value} [hI:TyAgg P ty n] [hI2:TyAgg P ty2 n2] (hr:fn.results=#[.cell t ty,.cell u ty2,.tmp r]) (h:Sy.look s.env t=some (.pointer (some ⟨b,0,none⟩))) (h':Sy.look s.env u=some (.pointer (some ⟨b2,0,none⟩))) (h'':Sy.look s.env r=some x) (hm:cel b T cs∈s.loc) (hn:cs.length=n) (hm2:cel b2 T2 cs2∈s.loc) (hn2:cs2.length=n2) :
  Res1 P fn N s (.tuple #[.agg cs.toArray,.agg cs2.toArray,x]):=fun av bor w0 a w ok=>by
 obtain ⟨D,h1,h2,h3⟩:=cV hI.out
 obtain ⟨D2,g1,g2,g3⟩:=cV hI2.out
 have ht:=ok.env t _ h
 have hu:=ok.env u _ h'
 have hx:=ok.env r _ h''
 have l1:(loadVar ty ⟨b,0,none⟩).run P w=.ok (.agg cs.toArray) w:=by
  cases D<;>simp at h2
  · exact run_loadVar_row w b T ty cs.toArray (0,0) _ (eI ok hm) h1 rfl (by rw [h3];simp [hn])
  · exact run_loadVar_row w b T ty cs.toArray (0,0) _ (eI ok hm) h1 rfl (by rw [h3];simp [hn])
 have l2:(loadVar ty2 ⟨b2,0,none⟩).run P w=.ok (.agg cs2.toArray) w:=by
  cases D2<;>simp at g2
  · exact run_loadVar_row w b2 T2 ty2 cs2.toArray (0,0) _ (eI ok hm2) g1 rfl (by rw [g3];simp [hn2])
  · exact run_loadVar_row w b2 T2 ty2 cs2.toArray (0,0) _ (eI ok hm2) g1 rfl (by rw [g3];simp [hn2])
 simp [results,hr,ht,hu,hx,asAddr,l1,l2]
theorem qe (ks ki:SlV) {L:List Int} {I:List ItemD} (h:KnR L I) :
  Mk Tryz.prog 8 #[.agg #[ks.v,ki.v]] (fun w=>(Ints w ks L∧Items w ki I)∧Glob w) (fun u X=>∃ (s:SlV) (l:List ChainD),AllK L I l∧u=s.v∧∀ w,X w→Chains w s l) :=
 pE (BK (QK L I) ks ki L I (by have:=h.len;omega) fun au=>vi ks ki h au) fun u X ⟨s,M,hM,e,hw⟩=>⟨s,_,⟨M,hM,rfl⟩,e,fun w h=>(hw w h).1⟩
def sgA (k:KyD) (c:ChainD) (x:ActD):ActD:=actSignV k (draftX c { x with time:=1 })
def SignR (L:List Int) (I:List ItemD) (ks ki:SlV) (c:ChainD) (k:KyD) (x:ActD) (u:Value) (X:World→Prop):Prop :=
 ∃ (s3 s4 s:SlV) (n:ChainD) (kl':List KeyD),s3.n=(sgA k c x).to.n∧s4.n=(sgA k c x).wraps.n∧QK L (addK L I (ofActI ((sgA k c x).re s3 s4))) c.id n kl' ∧
  u=.tuple #[.agg #[ks.v,s.v],n.v,.bool (decide ((n.acts.n:Int)=(c.acts.n:Int)+1))]∧∀ w,(Items w ki I∧X w)→Items w s (addK L I (ofActI ((sgA k c x).re s3 s4)))∧n.at_ w
structure AddW (L:List Int) (I:List ItemD) (ki:SlV) (b:ActD) where
 s3:SlV
 s4:SlV
 s:SlV
 bk:Nat
 Y:World→Prop
 e3:s3.n=b.to.n
 e4:s4.n=b.wraps.n
 hw:∀ w,(Items w ki I∧Y w)→Items w s (addK L I (ofActI (b.re s3 s4)))
set_option maxRecDepth 20000 in
set_option maxHeartbeats 16000000 in
theorem kn (ks ki:SlV) {L:List Int} {I:List ItemD} (hK:KnR L I) (hI:I.length<100) (c:ChainD) (hc:c.actsL.length≤1000) (k:KyD) (x:ActD) (hx:x.Rng) (hs:x.Sm) :
  Mk Tryz.prog 12 #[.agg #[ks.v,ki.v],c.v,k.v,x.v] (fun w=>(((Ints w ks L∧Items w ki I)∧c.at_ w)∧x.at_ w)∧Glob w) (SignR L I ks ki c k x):=by
 refine bF (args:=[_,_,_,_]) _ Tryz.func12 rfl Tryz.ntmps12 rfl fun av bor w0=>?_
 refine aK (p:=c.acts.n=c.actsL.length) (fun w h=>h.1.1.2.len_) fun hcn=>?_
 have hxR:(draftX c { x with time:=1 }).Rng:=⟨⟨by show (c.acts.n:Int)<_;omega,hx.ints.2.1,by show (1:Int)<_;decide,hx.ints.2.2.2⟩,hx.wints,hx.to_len,hx.wraps_len⟩
 have hxS:(draftX c { x with time:=1 }).Sm:=⟨hs.to,hs.wraps,hs.target⟩
 have hbR:(sgA k c x).Rng:=qM hxR
 have hbS:(sgA k c x).Sm:=uS hxS
 have hdr:=Bl c x.kind 1
 have hsg:Mk Tryz.prog 35 #[k.v,(draftX c { x with time:=1 }).v] (fun w=>(draftX c { x with time:=1 }).at_ w∧Glob w) (ActTo (sgA k c x)):=un k (draftX c { x with time:=1 }) hxR hxS
 unfold SignR
 obtain ⟨b,hb⟩:∃ b,sgA k c x=b:=⟨_,rfl⟩
 rw [hb] at hbR hbS hsg ⊢
 repeat' (first|(refine ab (hc:=hdr) (hX:=fun _ _=>trivial) ?_)|refine gs ?_|refine gs1 fun _=>?_|(refine gp ?_ ?_<;>intro hx_ this)|fail)
 rename_i b4 b5 b6 b7 b8 b9 b11
 refine se (aj (E':=[(4,.pointer (some ⟨b4,0,none⟩)),(5,.pointer (some ⟨b5,0,none⟩)),(6,.pointer (some ⟨b6,0,none⟩)),(7,.pointer (some ⟨b7,0,none⟩)),(8,.pointer (some ⟨b8,0,none⟩)),(9,.pointer (some ⟨b9,0,none⟩))]) (l':=[cel b9 36 ChainD.zero.cells,cel b8 25 [.slice none 0 0,.slice none 0 0],cel b7 50 (draftX c { x with time:=1 }).cells,cel b6 27 k.v.cells.toList,cel b5 36 c.cells,cel b4 25 [ks.v,ki.v]]) (X':=fun w=>(((Ints w ks L∧Items w ki I)∧c.at_ w)∧x.at_ w)∧Glob w) ⟨rfl,rfl,rfl,rfl,rfl,rfl,trivial⟩ (.cons _ (al _)) fun _ h=>h) ?_
 refine im (ι:=AddW L I ki b) (fun m=>⟨[(5,.pointer (some ⟨b5,0,none⟩)),(8,.pointer (some ⟨b8,0,none⟩)),(9,.pointer (some ⟨b9,0,none⟩)),(12,.pointer (some ⟨m.bk,0,none⟩))],[cel m.bk 25 [ks.v,m.s.v],cel b9 36 ChainD.zero.cells,cel b8 25 [.slice none 0 0,.slice none 0 0],cel b5 36 c.cells],fun w=>((((Ints w ks L∧Items w ki I)∧c.at_ w)∧x.at_ w)∧Glob w)∧m.Y w⟩) ?_ fun m=>?_
 · (refine aq ⟨[0,1,2],[(3,⟨[],[(4,⟨[],[(5,⟨[6,7,8],[(9,⟨[],[(10,⟨[11],[]⟩)]⟩)]⟩),(9,⟨[],[(5,⟨[6,7,8],[(10,⟨[11],[]⟩)]⟩)]⟩)]⟩),(9,⟨[],[(4,⟨[],[(5,⟨[6,7,8],[(10,⟨[11],[]⟩)]⟩)]⟩)]⟩)]⟩),(9,⟨[],[(3,⟨[],[(4,⟨[],[(5,⟨[6,7,8],[(10,⟨[11],[]⟩)]⟩)]⟩)]⟩)]⟩)]⟩ [cel b7 50 (draftX c { x with time:=1 }).cells,cel b6 27 k.v.cells.toList,cel b4 25 [ks.v,ki.v]] (fun w=>(((Ints w ks L∧Items w ki I)∧c.at_ w)∧x.at_ w)∧Glob w) (h:=?_))
   all_goals repeat' (first|((refine cB (hc:=hsg) (hX:=fun w h=>⟨h.1.2,h.2⟩) fun v X2 h2=>?_;obtain ⟨s1,s2,rfl,e1,e2,hw2⟩:=h2))|((refine cB (hc:=xj (b.re s1 s2) (iX hbR e1 e2) (pa hbS e1 e2)) (hX:=fun w h=>hw2 w h.2) fun v X3 h3=>?_;obtain ⟨s3,s4,rfl,e3,e4,hw3⟩:=h3;refine cv (X':=fun w=>((((Ints w ks L∧Items w ki I)∧c.at_ w)∧x.at_ w)∧Glob w)∧X3 w) (fun w h=>⟨h.1.1,h.2⟩) ?_))|((refine cB (hc:=DZ ks ki hK (ofActI (b.re s3 s4)) (iX hbR (e3.trans e1) (e4.trans e2)) rfl) (hX:=fun w h=>⟨⟨h.1.1.1.1,hw3 w h.2,aW w 1⟩,h.1.2⟩) fun v X4 h4=>?_;obtain ⟨s,rfl,hw4⟩:=h4))|refine gdz ?_|refine az ?_ (h':=?_)|exact aA|refine gs1 fun _=>?_|(refine gq ?_ ?_<;>intro hx_ this)|fail)
   all_goals first
    | exact ⟨(⟨s3,s4,s,_,fun w=>X3 w∧X4 w,e3.trans e1,e4.trans e2,fun w h=>hw4 w ⟨h.1,h.2.2⟩⟩:AddW L I ki b),aj ⟨rfl,rfl,rfl,rfl,trivial⟩ (.cons_cons _ (.cons_cons _ (.cons_cons _ (.cons _ (.cons _ (.cons_cons _ (ZR _))))))) fun w h=>⟨h.1.1,h.1.2,h.2⟩⟩
 obtain ⟨s3,s4,s,bk,Y,e3,e4,hwI⟩:=m
 simp only
 have hK':KnR L (addK L I (ofActI (b.re s3 s4))):=mK hK (iX hbR e3 e4) (pa hbS e3 e4) rfl hI
 repeat' (first|(refine cB (hc:=vi ks s hK' c.id) (hX:=fun w h=>⟨⟨h.1.1.1.1.1,hwI w ⟨h.1.1.1.1.2,h.2⟩⟩,h.1.2⟩) fun v X5 h5=>?_;obtain ⟨n,kl',hQ',rfl,hw5⟩:=h5)|refine gs ?_|refine gs1 fun _=>?_|(refine gp ?_ ?_<;>intro hx_ this)|fail)
 rename_i b14
 refine aK (p:=n.acts.n=n.actsL.length) (fun w h=>(hw5 w h.2).1.len_) fun hnn=>?_
 have hnl:=(gD hK' hQ').len
 (refine aq ⟨[0,1,2,3,4,5,6,7,8,9],[(10,⟨[],[(11,⟨[12],[]⟩)]⟩)]⟩ [cel b14 36 n.cells,cel bk 25 [ks.v,s.v],cel b5 36 c.cells] (fun w=>(((((Ints w ks L∧Items w ki I)∧c.at_ w)∧x.at_ w)∧Glob w)∧Y w)∧X5 w) (h:=?_))
 all_goals repeat' (first|refine gdz ?_|refine az ?_ (h':=?_)|exact aA|refine gs1 fun _=>?_|(refine gq ?_ ?_<;>intro hx_ this)|fail)
 all_goals
  repeat' (first|refine gs ?_|refine gs1 fun _=>?_|(refine gp ?_ ?_<;>intro hx_ this)|fail)
  all_goals refine ad (rc (n:=2) (n2:=6) rfl rfl rfl rfl aQ rfl aQ rfl) ?_
  all_goals exact ⟨s3,s4,s,n,kl',e3,e4,hQ',rfl,fun w h=>⟨hwI w ⟨h.1,h.2.1.1.2⟩,(hw5 w h.2.1.2).1⟩⟩
end Go.Proofs.YtoefdofbekihdaaGreatDoor
set_option maxHeartbeats 16000000
namespace Go.Proofs.YtoefdofbekihdaaGreatDoor
open Go Go.Proofs Sy Go.Shelf Go.Maps Go.Sort
theorem sortsI (m:Nat):AnyZI.SortsIn Tryz.prog Tryz.sortedI_ren Fence.wide m :=
  ⟨fun blk off cap ss W hH hblk hsz=>callsIn_wide.2 (AnyM.slices_Sort_int Tryz.sortI blk off cap ss W hH hblk hsz),
   fun p cap W=>callsIn_wide.2 (AnyM.slices_Sort_int_none Tryz.sortI p cap W)⟩
end Go.Proofs.YtoefdofbekihdaaGreatDoor
set_option maxHeartbeats 16000000
namespace Go.Proofs.YtoefdofbekihdaaGreatDoor
open Go Go.Proofs Sy
structure ListD where
 actor:ByteArray
 reason:ByteArray
 by_:ByteArray
 until_:Int
def ListD.cells (a:ListD):List Value:=[.string a.actor,.string a.reason,.string a.by_,.int .i64 a.until_]
def ListD.v (a:ListD):Value:=.agg a.cells.toArray
structure EntD where
 l:ListD
 at_:Int
def EntD.cells (a:EntD):List Value:=[.string a.l.actor,.string a.l.reason,.string a.l.by_,.int .i64 a.l.until_,.int .i64 a.at_]
def EntD.v (a:EntD):Value:=.agg a.cells.toArray
def eqLD (a b:ListD):Bool:=seqB a.actor b.actor&&(seqB a.reason b.reason&&(seqB a.by_ b.by_&&decide (a.until_=b.until_)))
def eqED (a b:EntD):Bool:=eqLD a.l b.l&&decide (a.at_=b.at_)
theorem eqLD_iff {a b:ListD}:eqLD a b=true↔a=b:=by
 cases a;cases b
 simp only [eqLD,ZM,seqB_iff,ZT,ListD.mk.injEq]
theorem eqED_iff {a b:EntD}:eqED a b=true↔a=b:=by
 cases a;cases b
 simp only [eqED,ZM,eqLD_iff,ZT,EntD.mk.injEq]
theorem jN (w:World) {cs:Array Value} {off:Nat} {v:Value} (h:cs[off]?=some v):(part 9 cs off).run Tryz.prog w=.ok v w:=by
 simp [part,isAgg,run_underlying Tryz.underlying9,h]
theorem oa (w:World) {cs:Array Value} {off:Nat} {v:Value} (h:cs[off]?=some v):(part 3 cs off).run Tryz.prog w=.ok v w:=by
 simp [part,isAgg,run_underlying Tryz.underlying3,h]
theorem DL (w:World) (d:Nat) (a b:ByteArray):(Op.equalIn (d+1) 9 (.string a) (.string b)).run Tryz.prog w=.ok (seqB a b) w:=run_equalIn_string w d _ a b Tryz.underlying9
theorem vB (w:World) (d:Nat) (a b:Int):(Op.equalIn (d+1) 3 (.int .i64 a) (.int .i64 b)).run Tryz.prog w=.ok (decide (a=b)) w:=by
 rw [run_equalIn_int w d _ .i64 .i64 a b Tryz.underlying3]
 rfl
theorem mo (w:World) (d:Nat) (a b:ListD):(Op.equalIn (d+2) 52 a.v b.v).run Tryz.prog w=.ok (eqLD a b) w:=by
 have p0:∀ x:ListD,(part 9 x.cells.toArray 0).run Tryz.prog w=.ok (.string x.actor) w:=fun x=>jN w rfl
 have p1:∀ x:ListD,(part 9 x.cells.toArray 1).run Tryz.prog w=.ok (.string x.reason) w:=fun x=>jN w rfl
 have p2:∀ x:ListD,(part 9 x.cells.toArray 2).run Tryz.prog w=.ok (.string x.by_) w:=fun x=>jN w rfl
 have p3:∀ x:ListD,(part 3 x.cells.toArray 3).run Tryz.prog w=.ok (.int .i64 x.until_) w:=fun x=>oa w rfl
 unfold ListD.v
 rw [run_equalIn_agg _ _ _ _ _ ae ae]
 simp only [Program.fieldsOf,Tryz.underlying52]
 simp [Op.eqFields,p0,p1,p2,p3,DL,vB]
 unfold eqLD
 cases seqB a.actor b.actor<;>cases seqB a.reason b.reason<;>cases seqB a.by_ b.by_<;>by_cases h:a.until_=b.until_<;>simp [h]
theorem zR (w:World) (d:Nat) (a b:EntD):(Op.equalIn (d+3) 82 a.v b.v).run Tryz.prog w=.ok (eqED a b) w:=by
 have p0:∀ x:EntD,(part 52 x.cells.toArray 0).run Tryz.prog w=.ok x.l.v w:=fun x=>by
  have hs:(sizeOf 52).run Tryz.prog w=.ok 4 w:=Sy.run_sizeOf (P:=Tryz.prog) (t:=52) (n:=4) ae w
  simp [part,isAgg,run_underlying Tryz.underlying52,hs]
  rfl
 have p4:∀ x:EntD,(part 3 x.cells.toArray 4).run Tryz.prog w=.ok (.int .i64 x.at_) w:=fun x=>oa w rfl
 unfold EntD.v
 rw [run_equalIn_agg _ _ _ _ _ ae ae]
 simp only [Program.fieldsOf,Tryz.underlying82]
 have hl:=fun w=>mo w d a.l b.l
 simp [Op.eqFields,p0,p4,vB,hl]
 unfold eqED
 cases eqLD a.l b.l<;>by_cases h:a.at_=b.at_<;>simp [h]
section
variable {N:Nat} {av bor:List Nat} {w0:World} {ops:Array Oper} {rest:List Oper} {k:St→Prop} {E:Env} {loc:List Res} {X:World→Prop} {x y:Operand} {t2:TypeId}
variable {n:Nat} {ty:TypeId} {pos:String} {af:Array Edge} {g:Option (Nat×Bool)} {bb want:Bool} {st:St}
theorem Ew (a b:ListD) (hx:ev st.env x=some a.v) (hy:ev st.env y=some b.v):Sy.Yields Tryz.prog N av bor w0 st (.binOp .eql 52 x y t2) ty (.bool (eqLD a b)):=Sy.Yields.mk fun A w ok d pos af g=>by
 have h1:=run_eqGuard_agg (P:=Tryz.prog) w .eql 52 x y a.cells.toArray b.cells.toArray ae
 have h2:=run_eql_struct (P:=Tryz.prog) w 52 a.cells.toArray b.cells.toArray
 have h3:=mo w 9998 a b
 simp only [ListD.v] at hx hy h3
 simp [execOp,ok.eval hx,ok.eval hy,h1,h2,h3]
theorem ut (a b:ListD) (hx:ev st.env x=some a.v) (hy:ev st.env y=some b.v):Sy.Yields Tryz.prog N av bor w0 st (.binOp .neq 52 x y t2) ty (.bool (!eqLD a b)):=Sy.Yields.mk fun A w ok d pos af g=>by
 have h1:=run_eqGuard_agg (P:=Tryz.prog) w .neq 52 x y a.cells.toArray b.cells.toArray ae
 have h2:=run_neq_struct (P:=Tryz.prog) w 52 a.cells.toArray b.cells.toArray
 have h3:=mo w 9998 a b
 simp only [ListD.v] at hx hy h3
 simp [execOp,ok.eval hx,ok.eval hy,h1,h2,h3]
theorem BX (a b:EntD) (hx:ev st.env x=some a.v) (hy:ev st.env y=some b.v):Sy.Yields Tryz.prog N av bor w0 st (.binOp .neq 82 x y t2) ty (.bool (!eqED a b)):=Sy.Yields.mk fun A w ok d pos af g=>by
 have h1:=run_eqGuard_agg (P:=Tryz.prog) w .neq 82 x y a.cells.toArray b.cells.toArray ae
 have h2:=run_neq_struct (P:=Tryz.prog) w 82 a.cells.toArray b.cells.toArray
 have h3:=zR w 9997 a b
 simp only [EntD.v] at hx hy h3
 simp [execOp,ok.eval hx,ok.eval hy,h1,h2,h3]
theorem zz (a b:EntD) (hx:ev E x=some a.v:=by rfl) (hy:ev E y=some b.v:=by rfl) (hg:gdB ops E g=some (bb,want):=by rfl) (hbb:bb=want:=by exact am) (hd:Nat.blt n N=true:=by rfl) (h:Sw Tryz.prog N av bor w0 ops rest ⟨(n,.bool (!eqED a b))::E,loc,X⟩ k) :
  Sw Tryz.prog N av bor w0 ops (⟨some n,.binOp .neq 82 x y t2,ty,pos,af,g⟩::rest) ⟨E,loc,X⟩ k:=ai (BX a b hx hy) hg hbb hd h
end
def betV (a b:EntD):Bool:=bif !decide (a.l.until_=b.l.until_) then decide (b.l.until_<a.l.until_) else bif !seqB a.l.by_ b.l.by_ then ltB a.l.by_ b.l.by_ else decide (b.at_<a.at_)
theorem xR (a b:EntD):Pu Tryz.prog 30 #[a.v,b.v] (fun _=>True) (.bool (betV a b)):=by
 refine ak (args:=[_,_]) _ Tryz.func30 rfl Tryz.ntmps30 rfl fun av bor w0=>?_
 repeat' (first|refine gs ?_|refine gs1 fun _=>?_|(refine uK ?_)|(refine gp ?_ ?_<;>intro hx_ this)|fail)
 all_goals
  apply ad;apply ag;rfl;rfl
  first|(simp only [betV, *,ZQ,ZO,ZC,ZB,ZE,ZD,ZH,ZG,ZK,ZI,ZP,ZJ,ZN,ZF];done)|(simp only [betV, *,ZQ,ZO,ZC,ZB,ZE,ZD,ZH,ZG,ZK,ZI,ZP,ZJ,ZN,ZF];rfl)
end Go.Proofs.YtoefdofbekihdaaGreatDoor
set_option maxHeartbeats 16000000
namespace Go.Proofs.YtoefdofbekihdaaGreatDoor
open Go Go.Proofs Sy Go.Shelf Go.Maps Go.Sort
instance tymL0:TyMap Tryz.prog 126 82 (keyD Int):=⟨ae⟩
instance tymL1:TyMap Tryz.prog 77 82 (keyD ByteArray):=⟨ae⟩
instance tymL11:TyMap Tryz.prog 78 4 (keyD ByteArray):=⟨ae⟩
theorem keysEI_c:KeysC Tryz.prog 60 118 126 where
 keys:=fun mb W=>(callsIn_wide (n:=5)).1 (AnyZI.keys_in Tryz.keys_map_int_agora_lists_entry_int_agora_lists_entry Fence.wide 5 trivial rfl mb W)
theorem sortedEI_c:SortedIC Tryz.prog 59 118 3 where
 key:=Tryz.underlying3
 sorted:=fun w Bm q nn D0 hB hc hown h1 h2=>(callsIn_wide (n:=5)).1 (AnyZI.sorted_in Tryz.sortedI Fence.wide 5 trivial trivial trivial trivial rfl aa (sortsI _) (enters_of Tryz.func117 ae rfl) _ _ trivial (enters_of Tryz.func118 ae rfl) _ _ h1 h2 _
  (AnyZI.keys_gives (ρ:=Tryz.keys_map_int_agora_lists_entry_int_agora_lists_entry_ren) { Tryz.keys_map_int_agora_lists_entry_int_agora_lists_entry with } Fence.wide _ trivial rfl aa Bm q nn D0 w hB hc hown))
theorem keysES_c:KeysC Tryz.prog 32 62 77 where
 keys:=fun mb W=>(callsIn_wide (n:=5)).1 (AnyZ.keys_in Tryz.keys_map_string_agora_lists_entry_string_agora_lists_entry Fence.wide 5 trivial rfl mb W)
theorem sortedES_c:SortedSC Tryz.prog 31 62 9 where
 key:=Tryz.underlying9
 sorted:=fun w Bm q nn D0 hB hc hown h1 h2=>(callsIn_wide (n:=5)).1 (AnyZ.sorted_in Tryz.sortedS Fence.wide 5 trivial trivial trivial trivial rfl aa (sortsS _) (enters_of Tryz.func26 ae rfl) _ _ trivial (enters_of Tryz.func62 ae rfl) _ _ h1 h2 _
  (AnyZ.keys_gives (ρ:=Tryz.keys_map_string_agora_lists_entry_string_agora_lists_entry_ren) { Tryz.keys_map_string_agora_lists_entry_string_agora_lists_entry with } Fence.wide _ trivial rfl aa Bm q nn D0 w hB hc hown))
def ListD.zero:ListD:=⟨⟨#[]⟩,⟨#[]⟩,⟨#[]⟩,0⟩
def Lists (w:World) (s:SlV) (l:List ListD):Prop:=RowsD w 4 s (l.map ListD.cells)
def Ents (w:World) (s:SlV) (l:List EntD):Prop:=RowsD w 5 s (l.map EntD.cells)
theorem Lists.len_ {w:World} {s:SlV} {l:List ListD} (h:Lists w s l):s.n=l.length:=by have:=RowsD.len h;simpa using this
theorem Lists.know {s:SlV} {l:List ListD}:∀ w,Lists w s l→s.n=l.length∧s.n≤maxLen∧(0<l.length→s.p.isSome=true):=fun w h =>
 ⟨h.len_,Qr (RowsD.cap h) (RowsD.max h),fun hl=>(RowsD.row h 0 l[0].cells (by simp [Zm hl])).2.1⟩
theorem Lists.get {w:World} {s:SlV} {l:List ListD} (h:Lists w s l) {i:Nat} {x:ListD} (hx:l[i]?=some x):x.cells.length=4∧s.p.isSome=true∧∀ j u,x.cells[j]?=some u→CellAt w s.p (i*4+j) u :=
 RowsD.row h i x.cells (by simp [hx])
theorem Ents.know {s:SlV} {l:List EntD}:∀ w,Ents w s l→s.n=l.length∧s.n≤maxLen∧(0<l.length→s.p.isSome=true):=fun w h =>
 ⟨by have:=RowsD.len h;simpa using this,Qr (RowsD.cap h) (RowsD.max h),fun hl=>(RowsD.row h 0 l[0].cells (by simp [Zm hl])).2.1⟩
theorem Ents.get {w:World} {s:SlV} {l:List EntD} (h:Ents w s l) {i:Nat} {x:EntD} (hx:l[i]?=some x):x.cells.length=5∧s.p.isSome=true∧∀ j u,x.cells[j]?=some u→CellAt w s.p (i*5+j) u :=
 RowsD.row h i x.cells (by simp [hx])
def hasL (l:List ListD) (a:ByteArray):Option ListD:=l.find? fun e=>seqB e.actor a
def hasP (o:Option ListD):Value:=.tuple #[(o.getD ListD.zero).v,.bool o.isSome]
def badL (l:List ListD) (d:ByteArray) (k:Nat):Bool :=
 match l[k]? with
 | some x=>seqB x.actor d
 | none=>false
theorem qa {l:List ListD} {d:ByteArray} {k:Nat} {x:ListD} (h:l[k]?=some x):badL l d k=seqB x.actor d:=by simp only [badL,h]
theorem tO {l:List ListD} {d:ByteArray} (i:Upto l.length (badL l d)) {x:ListD} (hx:l[i.k]?=some x) (hb:seqB x.actor d=true):hasL l d=some x :=
 pO l i.k x hx hb fun j y hj hy=>by have:=i.ok j hj;rwa [qa hy] at this
theorem xx {l:List ListD} {d:ByteArray} (i:Upto l.length (badL l d)) (h:¬ i.k<l.length):hasL l d=none:=by
 rw [hasL,List.find?_eq_none]
 intro x hx
 obtain ⟨k,hk,rfl⟩:=List.getElem_of_mem hx
 have:=i.ok k aa
 rw [qa (Zm hk)] at this
 simp [this]
theorem j2 (s:SlV) (l:List ListD) (a:ByteArray):Pu Tryz.prog 13 #[s.v,.string a] (fun w=>Lists w s l) (hasP (hasL l a)):=by
 refine ak (args:=[_,_]) _ Tryz.func13 rfl Tryz.ntmps13 rfl fun av bor w0=>?_
 refine aK Lists.know fun ⟨hl,hm,hp⟩=>?_
 simp only [maxLen] at hm
 repeat' (first|refine gs ?_|refine gs1 fun _=>?_|fail)
 rename_i b
 refine ap (ι:=Upto l.length (badL l a)) (fun i=>⟨[(1,.string a),(4,.pointer (some ⟨b,0,none⟩)),(8,s.v),(9,.int .i64 s.n),(10,.int .i64 i.k)],[cel b 52 ListD.zero.cells],fun w=>Lists w s l⟩) (fun i=>l.length-i.k) (Upto.zero _ _) (aj ⟨rfl,rfl,rfl,rfl,rfl,trivial⟩ (al _) fun _ h=>h) fun i=>?_
 have hik:=i.hk
 repeat' (first|refine gs ?_|refine gs1 fun _=>?_|(refine gp ?_ ?_<;>intro hx_ this)|fail)
 · have hlt:i.k<l.length:=by omega
   have hp':=hp aa
   obtain ⟨x,hx⟩:∃ x,l[i.k]?=some x:=⟨_,Zm hlt⟩
   repeat' (first|refine gs ?_|refine gs1 fun _=>?_|(refine aI (q:=i.k*4) ?_)|(refine bQ (cs:=x.cells) (hF:=fun w h=>Lists.get h hx) ?_)|(refine gp ?_ ?_<;>intro hx_ this)|fail)
   · apply ad;refine dj rfl rfl rfl aQ ?_
     · rfl
     rw [tO i hx (by assumption)]
     rfl
   · exact ⟨i.next hlt (by rw [qa hx];assumption),(by show l.length-(i.k+1)<l.length-i.k;omega),aj ⟨rfl,rfl,rfl,rfl,rfl,trivial⟩ (List.Sublist.cons _ (al _)) fun _ h=>h⟩
 · repeat' (first|refine gs ?_|refine gs1 fun _=>?_|(refine aC ?_)|fail)
   apply ad;refine dj rfl rfl rfl aQ ?_
   · rfl
   rw [xx i (by omega)]
   rfl
def eqBadL (l m:List ListD) (k:Nat):Bool:=!eqLD (l.getD k ListD.zero) (m.getD k ListD.zero)
def eqLL (l m:List ListD):Bool:=decide (l.length=m.length)&&allB l.length (eqBadL l m)
theorem oD (l:List ListD):eqLL l l=true:=by
 rw [eqLL,ZA rfl,ZD]
 refine oN fun j hj=>?_
 simp only [eqBadL,eqLD_iff.2 rfl,ZK]
theorem nW (s r:SlV) (l m:List ListD):Pu Tryz.prog 16 #[s.v,r.v] (fun w=>Lists w s l∧Lists w r m) (.bool (eqLL l m)):=by
 refine ak (args:=[_,_]) _ Tryz.func16 rfl Tryz.ntmps16 rfl fun av bor w0=>?_
 refine aK (fun w h=>And.intro (Lists.know w h.1) (Lists.know w h.2)) fun ⟨⟨hl,hm,hp⟩,⟨hl',hm',hp'⟩⟩=>?_
 simp only [maxLen] at hm hm'
 repeat' (first|refine gs ?_|(refine gp ?_ ?_<;>intro hx_ this)|fail)
 · apply ad;apply ag;rfl;rfl
   have:¬ l.length=m.length:=by
    have h1:¬ (s.n:Int)=(r.n:Int):=by simpa using hx_
    omega
   simp only [eqLL,Zn this,ZG]
 have hlm:l.length=m.length:=by
  have h1:(s.n:Int)=(r.n:Int):=by simpa using hx_
  omega
 refine ap (ι:=Upto l.length (eqBadL l m)) (fun i=>⟨[(0,s.v),(1,r.v),(5,.int .i64 i.k)],[],fun w=>Lists w s l∧Lists w r m⟩) (fun i=>l.length-i.k) (Upto.zero _ _) (aj (by repeat (first|exact trivial|refine ⟨rfl,?_⟩)) (al _) fun _ h=>h) fun i=>?_
 have hik:=i.hk
 repeat' (first|refine gs ?_|(refine gp ?_ ?_<;>intro hx_ this)|fail)
 · have hlt:i.k<l.length:=by omega
   have hlt':i.k<m.length:=by omega
   have hp1:=hp aa
   have hp2:=hp' aa
   have hx:l[i.k]?=some (l.getD i.k ListD.zero):=by rw [ZL,Zm hlt];rfl
   have hx':m[i.k]?=some (m.getD i.k ListD.zero):=by rw [ZL,Zm hlt'];rfl
   have hB:eqBadL l m i.k=!eqLD (l.getD i.k ListD.zero) (m.getD i.k ListD.zero):=rfl
   generalize l.getD i.k ListD.zero=x at *
   generalize m.getD i.k ListD.zero=x' at *
   (refine aq ⟨[0,1,2,3,4,5,6,7,8],[]⟩ [] (fun w=>Lists w s l∧Lists w r m) (h:=?_))
   all_goals repeat' (first|refine gd ?_|refine ax (hy:=by first|(apply aB (q:=i.k*4);rfl;rfl;omega;omega;assumption;omega)|(apply ef (cs:=x.cells);rfl;exact fun w h=>Lists.get h.1 hx)|(apply ef (cs:=x'.cells);rfl;exact fun w h=>Lists.get h.2 hx')|(apply ut x x';rfl;rfl)) ?_|refine az ?_ (h':=?_)|exact aA|(refine gq ?_ ?_<;>intro hx_ this)|fail)
   repeat' (first|refine gs ?_|(refine gp ?_ ?_<;>intro hx_ this)|fail)
   · apply ad;apply ag;rfl;rfl
     rw [eqLL,cN hlt (by rw [hB];assumption),ZH]
   · exact ⟨i.next hlt (by rw [hB];assumption),(by show l.length-(i.k+1)<l.length-i.k;omega),aj (by repeat (first|exact trivial|refine ⟨rfl,?_⟩)) (al _) fun _ h=>h⟩
 · apply ad;apply ag;rfl;rfl
   rw [eqLL,i.all aa,ZA hlm]
   rfl
end Go.Proofs.YtoefdofbekihdaaGreatDoor
set_option maxHeartbeats 16000000
namespace Go.Proofs.YtoefdofbekihdaaGreatDoor
open Go Go.Proofs Sy Go.Sort
def entA (k:ByteArray) (l:List ActD) (j:Nat):EntD:=⟨⟨(l.getD j ActD.zero).target,(l.getD j ActD.zero).text,k,(l.getD j ActD.zero).n⟩,j⟩
def foundF (l:List ActD):Nat→List Nat
 | 0=>[]
 | i+1=>bif decide ((l.getD i ActD.zero).kind=23) then foundF l i++[i] else bif decide ((l.getD i ActD.zero).kind=6) then (match idxV l (l.getD i ActD.zero).object with|some j=>(foundF l i).erase j|none=>foundF l i) else foundF l i
theorem eO (l:List ActD):∀ i,∀ j∈foundF l i,j<i
 | 0,j,h=>by cases h
 | i+1,j,h=>by
  have ih:=eO l i
  simp only [foundF] at h
  cases h1:decide ((l.getD i ActD.zero).kind=23) with
  | true =>
   rw [h1] at h
   rcases List.mem_append.1 h with h|h
   · have:=ih j h;omega
   · rw [List.mem_singleton.1 h];omega
  | false =>
   rw [h1] at h
   simp only [ZB] at h
   cases h2:decide ((l.getD i ActD.zero).kind=6) with
   | true =>
    rw [h2] at h
    simp only [ZC] at h
    split at h
    · have:=ih j (List.mem_of_mem_erase h);omega
    · have:=ih j h;omega
   | false=>rw [h2] at h;have:=ih j h;omega
theorem iF (l:List ActD):∀ i,(foundF l i).Pairwise (·<·)
 | 0=>List.Pairwise.nil
 | i+1=>by
  have ih:=iF l i
  simp only [foundF]
  cases h1:decide ((l.getD i ActD.zero).kind=23) with
  | true =>
   simp only [ZC]
   rw [List.pairwise_append]
   refine ⟨ih,List.pairwise_singleton _ _,fun a ha b hb=>?_⟩
   rw [List.mem_singleton.1 hb]
   exact eO l i a ha
  | false =>
   simp only [ZB]
   cases h2:decide ((l.getD i ActD.zero).kind=6) with
   | true =>
    simp only [ZC]
    split
    · exact ih.sublist List.erase_sublist
    · exact ih
   | false=>exact ih
theorem pN (l:List ActD) (i:Nat):(foundF l i).Nodup:=(iF l i).imp fun h=>by omega
theorem iE (l:List ActD):∀ i,(foundF l i).length≤i
 | 0=>Qq _
 | i+1=>by
  have ih:=iE l i
  simp only [foundF]
  cases decide ((l.getD i ActD.zero).kind=23) with
  | true=>simp only [ZC,ZX,List.length_singleton];omega
  | false =>
   simp only [ZB]
   cases decide ((l.getD i ActD.zero).kind=6) with
   | true =>
    simp only [ZC]
    split
    · have:=List.length_erase_le (a:=‹Nat›) (l:=foundF l i);omega
    · omega
   | false=>simp only [ZB];omega
def idxP' (f:Nat→Value) (F:List Nat):List (Int×Value):=F.map fun (j:Nat)=>((j:Int),f j)
theorem ju (a b:Int):KeyT.eqb a b=decide (a=b):=rfl
theorem ry (f:Nat→Value) (i:Nat):∀ F:List Nat,i∉F→mput (idxP' f F) (i:Int) (f i)=idxP' f (F++[i])
 | [],_=>rfl
 | j::F,h=>by
  have h1:¬ (i:Int)=(j:Int):=fun e=>h (by rw [show i=j by omega];exact ar)
  have ih:=ry f i F fun h2=>h (ZS _ h2)
  simp only [idxP',Qv,mput,ju,Zn h1,ZB,Qa] at ih ⊢
  rw [ih]
theorem rH (f:Nat→Value) (i:Nat):∀ F:List Nat,mdel (idxP' f F) (i:Int)=idxP' f (F.erase i)
 | []=>rfl
 | j::F=>by
  have ih:=rH f i F
  by_cases h:i=j
  · subst h
    simp only [idxP',Qv,mdel,ju,ZQ,ZC,List.erase_cons_head]
  · have h1:¬ (i:Int)=(j:Int):=by omega
    rw [List.erase_cons_tail (by simpa using fun e:j=i=>h e.symm)]
    simp only [idxP',Qv,mdel,ju,Zn h1,ZB] at ih ⊢
    rw [ih]
theorem rE (f:Nat→Value) (i:Nat):∀ F:List Nat,i∈F→mget (idxP' f F) (i:Int)=some (f i)
 | [],h=>by cases h
 | j::F,h=>by
  by_cases e:i=j
  · subst e
    simp only [idxP',Qv,mget,ju,ZQ,ZC]
  · have h1:¬ (i:Int)=(j:Int):=by omega
    have ih:=rE f i F ((List.mem_cons.1 h).resolve_left e)
    simp only [idxP',Qv,mget,ju,Zn h1,ZB] at ih ⊢
    exact ih
theorem wG {l:List Int} (h:l.Pairwise (·<·)):sortI l=l:=List.mergeSort_of_pairwise (h.imp fun h=>by simp only [leI,ZT];omega)
theorem AP (f:Nat→Value) (F:List Nat):(idxP' f F).map (·.1)=F.map fun (j:Nat)=>(j:Int):=by simp [idxP',Function.comp_def]
theorem ED {j:Nat} (h:j≤1000000000):(Lit.int .i64 (j:Int)).wf=true:=by
 have h1:IntKind.i64.min=-9223372036854775808:=by decide
 have h2:IntKind.i64.max=9223372036854775807:=by decide
 simp only [Lit.wf,ZM,ZT,h1,h2]
 omega
def entsV (l:List ChainD) (k:ByteArray):List EntD:=match findC l k with
 | some c=>(foundF c.actsL c.actsL.length).map (entA k c.actsL)
 | none=>[]
def intsR (l:List Int):List (List Value):=l.map fun z=>[.int .i64 z]
theorem tL (l:List Int):l.map encZ=(intsR l).flatten:=by
 induction l with
 | nil=>rfl
 | cons a l ih =>
  simp only [intsR,Qv,List.flatten_cons] at ih ⊢
  rw [ih]
  rfl
theorem xu (l:List Int):∀ r∈intsR l,r.length=1:=by
 intro r hr
 simp only [intsR,List.mem_map] at hr
 obtain ⟨x,_,rfl⟩:=hr
 rfl
theorem pK {w:World} {e n c:Nat} {A:Option Addr} {l:List Int} (h:ORow w e 1 (.slice A n c) n (l.map encZ)) (hn:n=l.length):RowsD w 1 ⟨A,n,c⟩ (intsR l):=by
 rw [tL] at h
 exact bu h (by simpa [intsR] using hn) (xu l)
theorem oA {l:List ChainD} {k:ByteArray} {c:ChainD} (h:findC l k=some c):c∈l:=List.mem_of_find?_eq_some h
set_option maxHeartbeats 2000000 in
theorem tU (s:SlV) (l:List ChainD) (k:ByteArray) (hok:∀ c∈l,ActsOk c.actsL) (hlen:∀ c∈l,c.actsL.length≤1000000) :
    Mk Tryz.prog 29 #[s.v,.string k] (fun w=>Chains w s l∧Glob w) fun u X=>∃ S:SlV,u=S.v∧∀ w,X w→Ents w S (entsV l k):=by
  refine bF (args:=[_,_]) _ Tryz.func29 rfl Tryz.ntmps29 rfl fun av bor w0=>?_
  have hfi:=vu s l k
  cases hf:findC l k with
  | none =>
    rw [hf] at hfi
    have hfi:Pu Tryz.prog 9 #[s.v,.string k] (fun w=>Chains w s l) (.tuple #[ChainD.zero.v,.bool false]):=hfi
    repeat' (first|(refine ab (hc:=hfi) (hX:=fun w h=>h.1) ?_)|refine gs ?_|refine gs1 fun _=>?_|(refine gp ?_ ?_<;>intro hx_ this)|fail)
    have e:entsV l k=[]:=by rw [entsV,hf]
    rw [e]
    exact ad (ag rfl rfl) ⟨⟨none,0,0⟩,rfl,fun w _=>aW w 5⟩
  | some c =>
    rw [hf] at hfi
    have hfi:Pu Tryz.prog 9 #[s.v,.string k] (fun w=>Chains w s l) (.tuple #[c.v,.bool true]):=hfi
    have hcm:=oA hf
    have hc:=hok c hcm
    have hcl:=hlen c hcm
    have e:entsV l k=(foundF c.actsL c.actsL.length).map (entA k c.actsL):=by rw [entsV,hf]
    rw [e]
    have hF:=eO c.actsL
    have hA:=iF c.actsL
    have hN:=pN c.actsL
    have hFl:=iE c.actsL
    have hS:∀ i,foundF c.actsL (i+1)=_:=fun i=>foundF.eq_2 c.actsL i
    have hE:∀ j x,c.actsL[j]?=some x→entA k c.actsL j=⟨⟨x.target,x.text,k,x.n⟩,j⟩:=fun j x hx=>by simp only [entA,ZL,hx,Option.getD_some]
    generalize hFg:foundF c.actsL=F at *
    refine aK (p:=c.acts.n=c.actsL.length∧c.acts.n≤maxLen∧(0<c.actsL.length→c.acts.p.isSome=true)∧c.acts.n≤c.acts.c) (fun w h=>XC.know (c:=c) w ⟨h.1.2 c hcm,h.2⟩) fun ⟨hl,hm,hp,hcap⟩=>?_
    simp only [maxLen] at hm
    repeat' (first|(refine ab (hc:=hfi) (hX:=fun w h=>h.1) ?_)|refine gs ?_|refine gs1 fun _=>?_|(refine gk Int (h:=fun q=>?_))|(refine gp ?_ ?_<;>intro hx_ this)|fail)
    rename_i b5
    refine ap (ι:=Kth c.actsL.length) (fun i=>⟨[(1,.string k),(5,.pointer (some ⟨b5,0,none⟩)),(7,.map (some q)),(25,c.acts.v),(26,.int .i64 c.acts.n),(27,.int .i64 i.k)],
      [mapr q (idxP' (fun j=>(entA k c.actsL j).v) (F i.k)),cel b5 36 c.cells],fun w=>Chains w s l∧Glob w⟩) (fun i=>c.actsL.length-i.k) ⟨0,Nat.zero_le _⟩ (aj ⟨rfl,rfl,rfl,rfl,rfl,rfl,trivial⟩ (by rw [←hFg];exact al _) fun _ h=>h) fun i=>?_
    have hik:=i.hk
    repeat' (first|refine gs ?_|refine gs1 fun _=>?_|(refine gp ?_ ?_<;>intro hx_ this)|fail)
    · have hlt:i.k<c.actsL.length:=by omega
      have hp':=hp aa
      obtain ⟨x,hx⟩:∃ x,c.actsL[i.k]?=some x:=⟨_,Zm hlt⟩
      have hidx:=AT c hc x.object
      have hEx:=hE i.k x hx
      have hSx:=hS i.k
      rw [show c.actsL.getD i.k ActD.zero=x from by rw [ZL,hx];rfl] at hSx
      have hnew:i.k∉F i.k:=fun h=>absurd (hF i.k i.k h) (Qs _)
      have hFlen:=hFl i.k
      have hml:(idxP' (fun j=>(entA k c.actsL j).v) (F i.k)).length=(F i.k).length:=by simp [idxP']
      have hm1:mput (idxP' (fun j=>(entA k c.actsL j).v) (F i.k)) (i.k:Int) (Value.agg (⟨⟨x.target,x.text,k,x.n⟩,i.k⟩:EntD).cells.toArray)=idxP' (fun j=>(entA k c.actsL j).v) (F i.k++[i.k]):=by
        have h:=ry (fun j=>(entA k c.actsL j).v) i.k (F i.k) hnew
        simp only [hEx] at h
        exact h
      cases ho:idxV c.actsL x.object with
      | none =>
        rw [ho] at hidx hSx
        have hidx:Pu Tryz.prog 42 #[c.v,.string x.object] (fun w=>c.at_ w∧Glob w) (.tuple #[.int .i64 0,.bool false]):=hidx
        repeat' (first|refine aC (cs:=[.string x.target,.string x.text,.string k,.int .i64 x.n]) (hf:=by rfl) ?_|refine aC (cs:=(⟨⟨x.target,x.text,k,x.n⟩,i.k⟩:EntD).cells) (hf:=by rfl) ?_|(refine ab (hc:=hidx) (hX:=fun w h=>⟨h.1.2 c hcm,h.2⟩) ?_)|refine gs ?_|refine gs1 fun _=>?_|(refine aI (q:=i.k*20) ?_)|(refine bQ (cs:=x.cells) (hF:=fun w h=>Acts.get (h.1.2 c hcm) hx) ?_)|(refine fq (κ:=Int) (kk:=(i.k:Int)) (hA:=by (repeat (first|exact At.here _|apply At.there))) ?_)|(refine uM (κ:=Int) (hl:=by exact aQ) ?_)|(refine nP (κ:=Int) (kk:=(j:Nat)) (hA:=by (repeat (first|exact At.here _|apply At.there))) ?_)|(refine gp ?_ ?_<;>intro hx_ this)|fail)
        all_goals first
          | (have hSx':F (i.k+1)=F i.k++[i.k]:=by rw [hSx,ZA (by assumption),ZC]
             refine ⟨(⟨i.k+1,hlt⟩:Kth c.actsL.length),(by show c.actsL.length-(i.k+1)<c.actsL.length-i.k;omega),aj ⟨rfl,rfl,rfl,rfl,rfl,rfl,trivial⟩ ?_ fun _ h=>h⟩
             show List.Sublist [mapr q (idxP' (fun j=>(entA k c.actsL j).v) (F (i.k+1))),_] _
             rw [hSx',←hm1]
             exact List.Sublist.cons _ (al _))
          | (have hSx':F (i.k+1)=F i.k:=by
               have h0:F i.k=[]:=List.eq_nil_of_length_eq_zero aa
               rw [hSx,Zn (by assumption),ZB,ZA (by assumption),ZC,h0]
               try rfl
             refine ⟨(⟨i.k+1,hlt⟩:Kth c.actsL.length),(by show c.actsL.length-(i.k+1)<c.actsL.length-i.k;omega),aj ⟨rfl,rfl,rfl,rfl,rfl,rfl,trivial⟩ ?_ fun _ h=>h⟩
             show List.Sublist [mapr q (idxP' (fun j=>(entA k c.actsL j).v) (F (i.k+1))),_] _
             rw [hSx']
             exact List.Sublist.cons _ (al _))
          | (have hSx':F (i.k+1)=F i.k:=by
               rw [hSx,Zn (by assumption),ZB,Zn (by assumption),ZB]
             refine ⟨(⟨i.k+1,hlt⟩:Kth c.actsL.length),(by show c.actsL.length-(i.k+1)<c.actsL.length-i.k;omega),aj ⟨rfl,rfl,rfl,rfl,rfl,rfl,trivial⟩ ?_ fun _ h=>h⟩
             show List.Sublist [mapr q (idxP' (fun j=>(entA k c.actsL j).v) (F (i.k+1))),_] _
             rw [hSx']
             exact List.Sublist.cons _ (al _))
          | (have hSx':F (i.k+1)=F i.k:=by
               rw [hSx,Zn (by assumption),ZB,ZA (by assumption),ZC]
             refine ⟨(⟨i.k+1,hlt⟩:Kth c.actsL.length),(by show c.actsL.length-(i.k+1)<c.actsL.length-i.k;omega),aj ⟨rfl,rfl,rfl,rfl,rfl,rfl,trivial⟩ ?_ fun _ h=>h⟩
             show List.Sublist [mapr q (idxP' (fun j=>(entA k c.actsL j).v) (F (i.k+1))),_] _
             rw [hSx']
             exact List.Sublist.cons _ (al _))
      | some j =>
        rw [ho] at hidx hSx
        have hidx:Pu Tryz.prog 42 #[c.v,.string x.object] (fun w=>c.at_ w∧Glob w) (.tuple #[.int .i64 (j:Nat),.bool true]):=hidx
        repeat' (first|refine aC (cs:=[.string x.target,.string x.text,.string k,.int .i64 x.n]) (hf:=by rfl) ?_|refine aC (cs:=(⟨⟨x.target,x.text,k,x.n⟩,i.k⟩:EntD).cells) (hf:=by rfl) ?_|(refine ab (hc:=hidx) (hX:=fun w h=>⟨h.1.2 c hcm,h.2⟩) ?_)|refine gs ?_|refine gs1 fun _=>?_|(refine aI (q:=i.k*20) ?_)|(refine bQ (cs:=x.cells) (hF:=fun w h=>Acts.get (h.1.2 c hcm) hx) ?_)|(refine fq (κ:=Int) (kk:=(i.k:Int)) (hA:=by (repeat (first|exact At.here _|apply At.there))) ?_)|(refine uM (κ:=Int) (hl:=by exact aQ) ?_)|(refine nP (κ:=Int) (kk:=(j:Nat)) (hA:=by (repeat (first|exact At.here _|apply At.there))) ?_)|(refine gp ?_ ?_<;>intro hx_ this)|fail)
        all_goals first
          | (have hSx':F (i.k+1)=F i.k++[i.k]:=by rw [hSx,ZA (by assumption),ZC]
             refine ⟨(⟨i.k+1,hlt⟩:Kth c.actsL.length),(by show c.actsL.length-(i.k+1)<c.actsL.length-i.k;omega),aj ⟨rfl,rfl,rfl,rfl,rfl,rfl,trivial⟩ ?_ fun _ h=>h⟩
             show List.Sublist [mapr q (idxP' (fun j=>(entA k c.actsL j).v) (F (i.k+1))),_] _
             rw [hSx',←hm1]
             exact List.Sublist.cons _ (al _))
          | (have hSx':F (i.k+1)=F i.k:=by
               have h0:F i.k=[]:=List.eq_nil_of_length_eq_zero aa
               rw [hSx,Zn (by assumption),ZB,ZA (by assumption),ZC,h0]
               try rfl
             refine ⟨(⟨i.k+1,hlt⟩:Kth c.actsL.length),(by show c.actsL.length-(i.k+1)<c.actsL.length-i.k;omega),aj ⟨rfl,rfl,rfl,rfl,rfl,rfl,trivial⟩ ?_ fun _ h=>h⟩
             show List.Sublist [mapr q (idxP' (fun j=>(entA k c.actsL j).v) (F (i.k+1))),_] _
             rw [hSx']
             exact List.Sublist.cons _ (al _))
          | (have hSx':F (i.k+1)=F i.k:=by
               rw [hSx,Zn (by assumption),ZB,Zn (by assumption),ZB]
             refine ⟨(⟨i.k+1,hlt⟩:Kth c.actsL.length),(by show c.actsL.length-(i.k+1)<c.actsL.length-i.k;omega),aj ⟨rfl,rfl,rfl,rfl,rfl,rfl,trivial⟩ ?_ fun _ h=>h⟩
             show List.Sublist [mapr q (idxP' (fun j=>(entA k c.actsL j).v) (F (i.k+1))),_] _
             rw [hSx']
             exact List.Sublist.cons _ (al _))
          | (have hSx':F (i.k+1)=(F i.k).erase j:=by
               rw [hSx,Zn (by assumption),ZB,ZA (by assumption),ZC]
             refine ⟨(⟨i.k+1,hlt⟩:Kth c.actsL.length),(by show c.actsL.length-(i.k+1)<c.actsL.length-i.k;omega),aj ⟨rfl,rfl,rfl,rfl,rfl,rfl,trivial⟩ ?_ fun _ h=>h⟩
             show List.Sublist [mapr q (idxP' (fun j=>(entA k c.actsL j).v) (F (i.k+1))),_] _
             rw [hSx',←rH]
             exact List.Sublist.cons _ (al _))
    have hik':i.k=c.actsL.length:=by omega
    rw [hik']
    have hGlt:=hF c.actsL.length
    have hGA:=hA c.actsL.length
    have hGl:=hFl c.actsL.length
    generalize F c.actsL.length=G at *
    have hml:(idxP' (fun j=>(entA k c.actsL j).v) G).length=G.length:=by simp [idxP']
    have hasc:(G.map fun (j:Nat)=>(j:Int)).Pairwise (·<·):=by
      rw [List.pairwise_map]
      exact hGA.imp fun h=>by omega
    refine zG (hc:=keysEI_c.ct (some q)) (hX:=fun _ _=>trivial) ?_
    rintro v1 R1 X1 ⟨bk,rfl,rfl⟩
    refine bZ (pre:=[cel bk 126 [.map (some q)],mapr q (idxP' (fun j=>(entA k c.actsL j).v) G)]) (fr:=[cel b5 36 c.cells]) (hc:=sortedEI_c.ct bk q (idxP' (fun j=>(entA k c.actsL j).v) G) (fun p hp=>?_) aa) (hX:=fun _ _=>trivial) (h:=?_)
    · simp only [idxP',List.mem_map] at hp
      obtain ⟨j,hj,rfl⟩:=hp
      have:=hGlt j hj
      exact ED aa
    rintro v2 R2 X2 ⟨A,c2,rfl,rfl⟩
    rw [hml,AP,wG hasc]
    refine bp ?_
    repeat' (first|refine gs ?_|refine gs1 fun _=>?_|fail)
    refine tW (X':=fun w=>RowsD w 1 ⟨A,G.length,c2⟩ (intsR (G.map fun (j:Nat)=>(j:Int)))) (fun w h=>pK h.2 (by simp)) ?_
    refine aK (p:=0<G.length→A.isSome=true) (fun w h h0=>?_) fun hpA=>?_
    · exact (RowsD.row h 0 [.int .i64 (G[0]:Nat)] (by simp [intsR,Zm h0])).2.1
    refine cM 82 5 ?_
    refine ap (ι:=FilS G.length) (fun j=>⟨[(7,.map (some q)),(12,.slice j.A j.k j.c),(66,.slice A G.length c2),(67,.int .i64 (G.length:Nat)),(68,.int .i64 j.k)],
      [orow 82 5 (.slice j.A j.k j.c) j.k ((G.take j.k).map fun j=>(entA k c.actsL j).cells).flatten,mapr q (idxP' (fun j=>(entA k c.actsL j).v) G)],fun w=>RowsD w 1 ⟨A,G.length,c2⟩ (intsR (G.map fun (j:Nat)=>(j:Int)))⟩) (fun j=>G.length-j.k) ⟨0,Nat.zero_le _,none,0⟩
      (aj ⟨rfl,rfl,rfl,rfl,rfl,trivial⟩ (List.Sublist.cons_cons _ (List.Sublist.cons _ (List.Sublist.cons_cons _ (ZR _)))) fun _ h=>h) fun j=>?_
    have hjk:=j.hk
    repeat' (first|refine gs ?_|refine gs1 fun _=>?_|(refine gp ?_ ?_<;>intro hx_ this)|fail)
    · have hlt:j.k<G.length:=by omega
      have hpA':=hpA aa
      obtain ⟨g,hg⟩:∃ g,G[j.k]?=some g:=⟨_,Zm hlt⟩
      have hgm:=List.mem_of_getElem? hg
      have hc1:∀ w,RowsD w 1 ⟨A,G.length,c2⟩ (intsR (G.map fun (j:Nat)=>(j:Int)))→CellAt w A j.k (.int .i64 (g:Nat)):=fun w h=>by
        have:=(RowsD.row h j.k [.int .i64 (g:Nat)] (by simp [intsR,hg])).2.2 0 _ rfl
        simpa using this
      have hfl:((G.take (j.k+1)).map fun j=>(entA k c.actsL j).cells).flatten=((G.take j.k).map fun j=>(entA k c.actsL j).cells).flatten++(entA k c.actsL g).cells:=by
        rw [List.take_add_one,hg]
        simp
      repeat' (first|refine aI (q:=j.k) ?_|refine dt (q:=j.k) (u:=.int .i64 (g:Nat)) (hF:=fun w h=>hc1 w h) ?_|refine cT (size:=5) (vs:=[(entA k c.actsL g).v]) (css:=(entA k c.actsL g).cells) (hsz:=by rfl) (hcs:=by rfl) fun _=>?_|refine gs ?_|refine gs1 fun _=>?_|(refine gi (κ:=Int) (kk:=(g:Nat)) (o:=some (entA k c.actsL g).v) (hl:=fD aQ) (ho:=rE _ g G hgm) ?_)|(refine gp ?_ ?_<;>intro hx_ this)|fail)
      refine aG (size:=5) (news:=(entA k c.actsL g).cells) (q:=1) rfl rfl rfl rfl (fun _=>At.there _ (At.here _)) (fun w G=>bL G ar rfl rfl 1) ?_ ?_ rfl ?_ rfl ?_
      · omega
      · simp only [maxLen];omega
      · rfl
      intro A3 c3
      repeat' (first|refine gs ?_|refine gs1 fun _=>?_|fail)
      refine ⟨(⟨j.k+1,hlt,A3,c3⟩:FilS G.length),(by show G.length-(j.k+1)<G.length-j.k;omega),aj ⟨rfl,rfl,rfl,rfl,rfl,trivial⟩ ?_ fun _ h=>h⟩
      show List.Sublist [orow 82 5 _ _ ((G.take (j.k+1)).map fun j=>(entA k c.actsL j).cells).flatten,_] _
      rw [hfl]
      exact List.Sublist.cons _ (al _)
    · have hk:j.k=G.length:=by omega
      refine ad (ag rfl rfl) ⟨⟨j.A,j.k,j.c⟩,rfl,fun w h=>?_⟩
      have h1:=h.2 _ ar
      have e1:((G.take j.k).map fun j=>(entA k c.actsL j).cells)=(G.map (entA k c.actsL)).map EntD.cells:=by
        rw [hk,List.take_length,Qu];rfl
      rw [e1] at h1
      exact bu h1 (by simp [hk]) (by
        intro r hr
        obtain ⟨x,_,rfl⟩:=List.mem_map.1 hr
        rfl)
def hasK (ks:List ByteArray) (k:ByteArray):Bool:=ks.any fun y=>KeyT.eqb k y
theorem rB:∀ (ks:List ByteArray) (k:ByteArray),mget (setM ks) k=bif hasK ks k then some (.bool true) else none
 | [],_=>rfl
 | a::ks,k=>by
  have ih:=rB ks k
  simp only [setM,Qv,mget,hasK,List.any_cons] at ih ⊢
  cases KeyT.eqb k a with
  | true=>rfl
  | false=>simpa using ih
def bestStep (now:Int) (b:List (ByteArray×EntD)) (e:EntD):List (ByteArray×EntD) :=
 bif decide (e.l.until_≤now) then b else
  match mget b e.l.actor with
  | none=>mput b e.l.actor e
  | some old=>bif (!eqED e old)&&betV e old then mput b e.l.actor e else b
def bestF (l:List ChainD) (now:Int) (ks:List ByteArray):Nat→List ByteArray×List (ByteArray×EntD)
 | 0=>([],[])
 | i+1=>bif hasK (bestF l now ks i).1 (ks.getD i .empty) then bestF l now ks i else (sput (bestF l now ks i).1 (ks.getD i .empty),(entsV l (ks.getD i .empty)).foldl (bestStep now) (bestF l now ks i).2)
def bm (b:List (ByteArray×EntD)):List (ByteArray×Value):=b.map fun p=>(p.1,p.2.v)
theorem vk (b:List (ByteArray×EntD)) (k:ByteArray):mget (bm b) k=(mget b k).map EntD.v:=rD EntD.v b k
theorem Db (b:List (ByteArray×EntD)) (k:ByteArray) (e:EntD):mput (bm b) k e.v=bm (mput b k e):=rz EntD.v b k e
def EntD.zero:EntD:=⟨ListD.zero,0⟩
def ofV (l:List ChainD) (ks:List ByteArray) (now:Int):List ListD:=(sortB ((bestF l now ks ks.length).2.map (·.1))).map fun a=>((mget (bestF l now ks ks.length).2 a).getD EntD.zero).l
theorem tR {α β:Type} (f:β→α→β) (b:β) (E:List α) {j:Nat} {e:α} (h:E[j]?=some e):(E.take (j+1)).foldl f b=f ((E.take j).foldl f b) e:=by
 rw [List.take_add_one,h]
 simp
section
variable {N:Nat} {av bor:List Nat} {w0:World} {ops:Array Oper} {rest:List Oper} {k:St→Prop} {E:Env} {loc:List Res} {X:World→Prop} {x:Operand} {st:St}
variable {n:Nat} {ty:TypeId} {pos:String} {af:Array Edge} {g:Option (Nat×Bool)} {bb want:Bool}
theorem yk (e:EntD) (hx:ev st.env x=some e.v):Sy.Yields Tryz.prog N av bor w0 st (.field 82 x 0) ty e.l.v:=Sy.Yields.mk fun A w ok d pos af g=>by
 have p0:(part 52 e.cells.toArray 0).run Tryz.prog w=.ok e.l.v w:=by
  have hs:(sizeOf 52).run Tryz.prog w=.ok 4 w:=Sy.run_sizeOf (P:=Tryz.prog) (t:=52) (n:=4) ae w
  simp [part,isAgg,run_underlying Tryz.underlying52,hs]
  rfl
 simp only [EntD.v] at hx
 simp [execOp,ok.eval hx,Instr.field,run_underlying Tryz.underlying82,asAgg,p0]
theorem wA (e:EntD) (hx:ev E x=some e.v:=by rfl) (hg:gdB ops E g=some (bb,want):=by rfl) (hbb:bb=want:=by exact am) (hd:Nat.blt n N=true:=by rfl) (h:Sw Tryz.prog N av bor w0 ops rest ⟨(n,e.l.v)::E,loc,X⟩ k) :
  Sw Tryz.prog N av bor w0 ops (⟨some n,.field 82 x 0,ty,pos,af,g⟩::rest) ⟨E,loc,X⟩ k:=ai (yk e hx) hg hbb hd h
end
theorem jl {β:Type}:∀ {b:List (ByteArray×β)} {a:ByteArray},a∈b.map (·.1)→∃ e,mget b a=some e
 | [],a,h=>by cases h
 | (k',v')::r,a,h=>by
  simp only [mget]
  cases hk:KeyT.eqb a k' with
  | true=>exact ⟨v',rfl⟩
  | false =>
   simp only [Qv,Z8] at h
   rcases h with rfl|h
   · rw [(KeyT.eqb_iff a a).2 rfl] at hk;cases hk
   · exact jl h
structure BBnd (m:Nat) (b:List (ByteArray×EntD)):Prop where
 len:b.length≤m
 size:∀ p∈b,p.1.size≤maxLen
theorem mE {k:ByteArray} {e:EntD} (hk:k.size≤maxLen):∀ {b:List (ByteArray×EntD)} {m:Nat},BBnd m b→BBnd (m+1) (mput b k e)
 | [],m,h=>⟨by simp [mput],by simp [mput,hk]⟩
 | p::r,m,h=>by
  obtain ⟨k',v'⟩:=p
  have hl:=h.len
  simp only [ZY] at hl
  simp only [mput]
  cases KeyT.eqb k k' with
  | true=>exact ⟨by simp only [ZC,ZY];omega,fun q hq=>by
    rcases List.mem_cons.1 hq with rfl|hq
    · exact hk
    · exact h.size q (ZS _ hq)⟩
  | false =>
   have ih:=mE (e:=e) hk (b:=r) (m:=m-1) ⟨by omega,fun q hq=>h.size q (ZS _ hq)⟩
   exact ⟨by have:=ih.len;simp only [ZB,ZY];omega,fun q hq=>by
    rcases List.mem_cons.1 hq with rfl|hq
    · exact h.size _ ar
    · exact ih.size q hq⟩
theorem BBnd.mono {m m':Nat} {b:List (ByteArray×EntD)} (h:BBnd m b) (hm:m≤m'):BBnd m' b:=⟨Qr h.len hm,h.size⟩
theorem pY {m:Nat} {now:Int} {b:List (ByteArray×EntD)} {e:EntD} (h:BBnd m b) (he:e.l.actor.size≤maxLen):BBnd (m+1) (bestStep now b e):=by
 unfold bestStep
 cases decide (e.l.until_≤now) with
 | true=>exact h.mono (Nat.le_succ m)
 | false =>
  simp only [ZB]
  split
  · exact mE he h
  · cases (!eqED e _&&betV e _) with
    | true=>exact mE he h
    | false=>exact h.mono (Nat.le_succ m)
theorem rS {now:Int}:∀ (E:List EntD) {m:Nat} {b:List (ByteArray×EntD)},BBnd m b→(∀ e∈E,e.l.actor.size≤maxLen)→BBnd (m+E.length) (E.foldl (bestStep now) b)
 | [],m,b,h,_=>h
 | e::E,m,b,h,he=>by
  have:=rS (now:=now) E (pY (now:=now) h (he e ar)) fun x hx=>he x (ZS _ hx)
  simp only [List.foldl_cons,ZY]
  exact this.mono aa
theorem Bg {l:List ChainD} (hok:∀ c∈l,ActsOk c.actsL) (hlen:∀ c∈l,c.actsL.length≤1000) (k:ByteArray):(entsV l k).length≤1000∧∀ e∈entsV l k,e.l.actor.size≤maxLen:=by
 unfold entsV
 cases hf:findC l k with
 | none=>simp
 | some c =>
  have hcm:=oA hf
  refine ⟨?_,fun e he=>?_⟩
  · have h1:=iE c.actsL c.actsL.length
    have h2:=hlen c hcm
    simp only [Z3]
    omega
  · obtain ⟨j,hj,rfl⟩:=List.mem_map.1 he
    have hj2:=eO _ _ _ hj
    show (c.actsL.getD j ActD.zero).target.size≤maxLen
    rw [ZL,Zm hj2]
    exact ((hok c hcm).sm _ (Qh hj2)).target
theorem oK {l:List ChainD} (hok:∀ c∈l,ActsOk c.actsL) (hlen:∀ c∈l,c.actsL.length≤1000) (now:Int) (ks:List ByteArray):∀ i,BBnd (i*1000) (bestF l now ks i).2
 | 0=>⟨by simp [bestF],by simp [bestF]⟩
 | i+1=>by
  have ih:=oK hok hlen now ks i
  simp only [bestF]
  cases hasK (bestF l now ks i).1 (ks.getD i .empty) with
  | true=>exact ih.mono aa
  | false =>
   have he:=Bg hok hlen (ks.getD i .empty)
   exact (rS (entsV l (ks.getD i .empty)) ih he.2).mono (by have:=he.1;omega)
set_option maxHeartbeats 2000000 in
theorem rr (s:SlV) (l:List ChainD) (sk:SlV) (ks:List ByteArray) (now:Int) (hok:∀ c∈l,ActsOk c.actsL) (hlen:∀ c∈l,c.actsL.length≤1000) (hkl:ks.length≤1000) :
    Mk Tryz.prog 11 #[s.v,sk.v,.int .i64 now] (fun w=>Chains w s l∧Strs w sk ks∧Glob w) fun u X=>∃ S:SlV,u=S.v∧∀ w,X w→Lists w S (ofV l ks now):=by
  refine bF (args:=[_,_,_]) _ Tryz.func11 rfl Tryz.ntmps11 rfl fun av bor w0=>?_
  refine aK (p:=sk.n=ks.length∧sk.n≤maxLen∧(0<ks.length→sk.p.isSome=true)) (fun w h=>⟨h.2.1.len_,Qr (RowsD.cap h.2.1) (RowsD.max h.2.1),h.2.1.some_⟩) fun ⟨hl,hm,hp⟩=>?_
  simp only [maxLen] at hm
  have hS:∀ i,bestF l now ks (i+1)=_:=fun i=>bestF.eq_2 l now ks i
  have hB:=oK hok hlen now ks
  have hofV:ofV l ks now=(sortB ((bestF l now ks ks.length).2.map (·.1))).map fun a=>((mget (bestF l now ks ks.length).2 a).getD EntD.zero).l:=rfl
  generalize hFg:bestF l now ks=F at *
  repeat' (first|refine gs ?_|refine gs1 fun _=>?_|(refine gk ByteArray (h:=fun _=>?_))|(refine gp ?_ ?_<;>intro hx_ this)|fail)
  rename_i q1 q2
  refine ap (ι:=Kth ks.length) (fun i=>⟨[(0,s.v),(2,.int .i64 now),(7,.map (some q1)),(8,.map (some q2)),(20,sk.v),(21,.int .i64 sk.n),(22,.int .i64 i.k)],
    [mapr q2 (setM (F i.k).1),mapr q1 (bm (F i.k).2)],fun w=>Chains w s l∧Strs w sk ks∧Glob w⟩) (fun i=>ks.length-i.k) ⟨0,Nat.zero_le _⟩ (aj ⟨rfl,rfl,rfl,rfl,rfl,rfl,rfl,trivial⟩ (by rw [←hFg];exact al _) fun _ h=>h) fun i=>?_
  have hik:=i.hk
  repeat' (first|refine gs ?_|refine gs1 fun _=>?_|(refine gp ?_ ?_<;>intro hx_ this)|fail)
  · have hlt:i.k<ks.length:=by omega
    have hp':=hp aa
    have hSx:=hS i.k
    have hc1:∀ w,Chains w s l∧Strs w sk ks∧Glob w→CellAt w sk.p i.k (.string (ks.getD i.k .empty)):=fun w h=>Strs.get h.2.1 hlt
    generalize ks.getD i.k .empty=x at *
    have hen:=tU s l x hok (fun c hc=>Qr (hlen c hc) (by decide))
    have hgs:=rB (F i.k).1 x
    have hps:=rx (F i.k).1 x
    generalize entsV l x=E at *
    cases hh:hasK (F i.k).1 x with
    | true =>
      rw [hh] at hgs hSx
      repeat' (first|refine aI (q:=i.k) ?_|refine dt (q:=i.k) (u:=.string x) (hF:=fun w h=>hc1 w h) ?_|refine gs ?_|refine gs1 fun _=>?_|(refine gi (κ:=ByteArray) (kk:=x) (o:=some (.bool true)) (hl:=fD aQ) (ho:=hgs) ?_)|(refine gp ?_ ?_<;>intro hx_ this)|fail)
      simp only [ZC] at hSx
      refine ⟨(⟨i.k+1,hlt⟩:Kth ks.length),(by show ks.length-(i.k+1)<ks.length-i.k;omega),aj ⟨rfl,rfl,rfl,rfl,rfl,rfl,rfl,trivial⟩ ?_ fun _ h=>h⟩
      show List.Sublist [mapr q2 (setM (F (i.k+1)).1),mapr q1 (bm (F (i.k+1)).2)] _
      rw [hSx]
      exact al _
    | false =>
      rw [hh] at hgs hSx
      repeat' (first|refine aI (q:=i.k) ?_|refine dt (q:=i.k) (u:=.string x) (hF:=fun w h=>hc1 w h) ?_|(refine cB (hc:=hen) (hX:=fun w h=>⟨h.1,h.2.2⟩) fun v1 X1 h1=>?_;obtain ⟨S,rfl,hs⟩:=h1)|refine gs ?_|refine gs1 fun _=>?_|(refine gi (κ:=ByteArray) (kk:=x) (o:=none) (hl:=fD aQ) (ho:=hgs) ?_)|(refine fq (κ:=ByteArray) (kk:=x) (hA:=by (repeat (first|with_reducible exact At.here _|apply At.there))) ?_)|(refine gp ?_ ?_<;>intro hx_ this)|fail)
      rw [hps]
      simp only [ZB] at hSx
      refine aK (fun w h=>Ents.know w (hs w h.2)) fun ⟨hn1,hm1,hp1⟩=>?_
      simp only [maxLen] at hm1
      generalize hsk:sput (F i.k).1 x=sn at *
      generalize hb0:(F i.k).2=b0 at *
      refine ap (ι:=Kth E.length) (fun j=>⟨[(0,s.v),(2,.int .i64 now),(7,.map (some q1)),(8,.map (some q2)),(20,sk.v),(21,.int .i64 sk.n),(22,.int .i64 i.k),(33,S.v),(34,.int .i64 S.n),(35,.int .i64 j.k)],
        [mapr q2 (setM sn),mapr q1 (bm ((E.take j.k).foldl (bestStep now) b0))],fun w=>(Chains w s l∧Strs w sk ks∧Glob w)∧X1 w⟩) (fun j=>E.length-j.k) ⟨0,Nat.zero_le _⟩ (aj ⟨rfl,rfl,rfl,rfl,rfl,rfl,rfl,rfl,rfl,rfl,trivial⟩ (al _) fun _ h=>h) fun j=>?_
      have hjk:=j.hk
      repeat' (first|refine gs ?_|refine gs1 fun _=>?_|(refine gp ?_ ?_<;>intro hx_ this)|fail)
      · have hlt2:j.k<E.length:=by omega
        have hp2:=hp1 aa
        obtain ⟨e,he⟩:∃ e,E[j.k]?=some e:=⟨_,Zm hlt2⟩
        have hfo:=tR (bestStep now) b0 E he
        generalize (E.take j.k).foldl (bestStep now) b0=b at *
        have hmb:=vk b e.l.actor
        have hpb:=Db b e.l.actor e
        cases ho:mget b e.l.actor with
        | none =>
          rw [ho] at hmb
          have hst:bestStep now b e=bif decide (e.l.until_≤now) then b else mput b e.l.actor e:=by unfold bestStep;rw [ho]
          repeat' (first|refine aI (q:=j.k*5) ?_|refine bQ (cs:=e.cells) (hF:=fun w h=>Ents.get (hs w h.2) he) ?_|refine gs ?_|refine gs1 fun _=>?_|(refine dM (κ:=ByteArray) (kk:=e.l.actor) (o:=none) (v:=EntD.zero.v) (b:=false) (hl:=fD aQ) (ho:=hmb) ?_)|(refine fq (κ:=ByteArray) (kk:=e.l.actor) (v:=e.v) (hA:=by (repeat (first|with_reducible exact At.here _|apply At.there))) ?_)|(refine gp ?_ ?_<;>intro hx_ this)|fail)
          · have e1:bestStep now b e=b:=by rw [hst,ZA (by assumption),ZC]
            refine ⟨(⟨j.k+1,hlt2⟩:Kth E.length),(by show E.length-(j.k+1)<E.length-j.k;omega),aj ⟨rfl,rfl,rfl,rfl,rfl,rfl,rfl,rfl,rfl,rfl,trivial⟩ ?_ fun _ h=>h⟩
            show List.Sublist [mapr q2 (setM sn),mapr q1 (bm ((E.take (j.k+1)).foldl (bestStep now) b0))] _
            rw [hfo,e1]
            exact List.Sublist.cons _ (al _)
          · have e1:bestStep now b e=mput b e.l.actor e:=by rw [hst,Zn (by assumption),ZB]
            refine ⟨(⟨j.k+1,hlt2⟩:Kth E.length),(by show E.length-(j.k+1)<E.length-j.k;omega),aj ⟨rfl,rfl,rfl,rfl,rfl,rfl,rfl,rfl,rfl,rfl,trivial⟩ ?_ fun _ h=>h⟩
            show List.Sublist [mapr q2 (setM sn),mapr q1 (bm ((E.take (j.k+1)).foldl (bestStep now) b0))] _
            rw [hfo,e1,←hpb]
            exact List.Sublist.cons _ (List.Sublist.cons _ (al _))
        | some old =>
          rw [ho] at hmb
          have hst:bestStep now b e=bif decide (e.l.until_≤now) then b else bif ((!eqED e old)&&betV e old) then mput b e.l.actor e else b:=by unfold bestStep;rw [ho]
          repeat' (first|refine aI (q:=j.k*5) ?_|refine bQ (cs:=e.cells) (hF:=fun w h=>Ents.get (hs w h.2) he) ?_|refine zz e old (hx:=by rfl) (hy:=by rfl) (h:=?_)|(refine ab (hc:=xR e old) (hX:=fun w h=>trivial) ?_)|refine gs ?_|refine gs1 fun _=>?_|(refine dM (κ:=ByteArray) (kk:=e.l.actor) (o:=some old.v) (v:=old.v) (b:=true) (hl:=fD aQ) (ho:=hmb) ?_)|(refine fq (κ:=ByteArray) (kk:=e.l.actor) (v:=e.v) (hA:=by (repeat (first|with_reducible exact At.here _|apply At.there))) ?_)|(refine gp ?_ ?_<;>intro hx_ this)|fail)
          all_goals first
            | (have e1:bestStep now b e=b:=by
                 first
                   | rw [hst,ZA (by assumption),ZC]
                   | rw [hst,Zn (by assumption),ZB,show (!eqED e old)=false from by assumption,ZG,ZB]
                   | rw [hst,Zn (by assumption),ZB,show (!eqED e old)=true from by assumption,show betV e old=false from by assumption,ZH,ZB]
               refine ⟨(⟨j.k+1,hlt2⟩:Kth E.length),(by show E.length-(j.k+1)<E.length-j.k;omega),aj ⟨rfl,rfl,rfl,rfl,rfl,rfl,rfl,rfl,rfl,rfl,trivial⟩ ?_ fun _ h=>h⟩
               show List.Sublist [mapr q2 (setM sn),mapr q1 (bm ((E.take (j.k+1)).foldl (bestStep now) b0))] _
               rw [hfo,e1]
               first
                 | exact List.Sublist.cons _ (al _)
                 | exact List.Sublist.cons _ (List.Sublist.cons _ (al _)))
            | (have e1:bestStep now b e=mput b e.l.actor e:=by
                 rw [hst,Zn (by assumption),ZB,show (!eqED e old)=true from by assumption,show betV e old=true from by assumption,ZE,ZC]
               refine ⟨(⟨j.k+1,hlt2⟩:Kth E.length),(by show E.length-(j.k+1)<E.length-j.k;omega),aj ⟨rfl,rfl,rfl,rfl,rfl,rfl,rfl,rfl,rfl,rfl,trivial⟩ ?_ fun _ h=>h⟩
               show List.Sublist [mapr q2 (setM sn),mapr q1 (bm ((E.take (j.k+1)).foldl (bestStep now) b0))] _
               rw [hfo,e1,←hpb]
               exact List.Sublist.cons _ (List.Sublist.cons _ (al _)))
      · have hj:j.k=E.length:=by omega
        refine ⟨(⟨i.k+1,hlt⟩:Kth ks.length),(by show ks.length-(i.k+1)<ks.length-i.k;omega),aj ⟨rfl,rfl,rfl,rfl,rfl,rfl,rfl,trivial⟩ ?_ fun _ h=>h.1⟩
        show List.Sublist [mapr q2 (setM (F (i.k+1)).1),mapr q1 (bm (F (i.k+1)).2)] _
        rw [hSx,hj,List.take_length]
        exact al _
  · have hik':i.k=ks.length:=by omega
    rw [hik']
    have hBx:=hB ks.length
    generalize (F ks.length).2=b at *
    have hbl:b.length≤1000000:=by have:=hBx.len;have:ks.length*1000≤1000000:=Nat.mul_le_mul_right 1000 hkl;omega
    have hml:(bm b).length=b.length:=by simp [bm]
    have hmk:(bm b).map (·.1)=b.map (·.1):=by simp [bm,Function.comp_def]
    refine Cy (l:=[mapr q1 (bm b)]) (List.Sublist.cons _ (al _)) ?_
    refine zG (hc:=keysES_c.ct (some q1)) (hX:=fun _ _=>trivial) ?_
    rintro v1 R1 X1 ⟨bk,rfl,rfl⟩
    refine bZ (pre:=[cel bk 77 [.map (some q1)],mapr q1 (bm b)]) (fr:=[]) (hc:=sortedES_c.ct bk q1 (bm b) (fun p hp=>?_) aa) (hX:=fun _ _=>trivial) (h:=?_)
    · simp only [bm,List.mem_map] at hp
      obtain ⟨p',hp',rfl⟩:=hp
      exact hBx.size p' hp'
    rintro v2 R2 X2 ⟨A,c2,rfl,rfl⟩
    rw [hml,hmk]
    have hKl:(sortB (b.map (·.1))).length=b.length:=by rw [nQ,Z3]
    have hKm:∀ a∈sortB (b.map (·.1)),∃ e,mget b a=some e:=fun a ha=>jl (mem_sortB.1 ha)
    generalize sortB (b.map (·.1))=K at *
    refine bp ?_
    repeat' (first|refine gs ?_|refine gs1 fun _=>?_|fail)
    refine tW (X':=fun w=>Strs w ⟨A,b.length,c2⟩ K) (fun w h=>gl h.2 hKl.symm) ?_
    refine aK (p:=0<K.length→A.isSome=true) (fun w h=>h.some_) fun hpA=>?_
    refine cM 52 4 ?_
    refine ap (ι:=FilS K.length) (fun j=>⟨[(7,.map (some q1)),(15,.slice j.A j.k j.c),(73,.slice A b.length c2),(74,.int .i64 (b.length:Nat)),(75,.int .i64 j.k)],
      [orow 52 4 (.slice j.A j.k j.c) j.k ((K.take j.k).map fun a=>((mget b a).getD EntD.zero).l.cells).flatten,mapr q1 (bm b)],fun w=>Strs w ⟨A,b.length,c2⟩ K⟩) (fun j=>K.length-j.k) ⟨0,Nat.zero_le _,none,0⟩
      (aj ⟨rfl,rfl,rfl,rfl,rfl,trivial⟩ (List.Sublist.cons_cons _ (List.Sublist.cons _ (List.Sublist.cons_cons _ (ZR _)))) fun _ h=>h) fun j=>?_
    have hjk:=j.hk
    repeat' (first|refine gs ?_|refine gs1 fun _=>?_|(refine gp ?_ ?_<;>intro hx_ this)|fail)
    · have hltj:j.k<K.length:=by omega
      have hpA':=hpA aa
      obtain ⟨a,ha⟩:∃ a,K[j.k]?=some a:=⟨_,Zm hltj⟩
      obtain ⟨e,he⟩:=hKm a (List.mem_of_getElem? ha)
      have hmb:mget (bm b) a=some e.v:=by rw [vk,he];rfl
      have hfl:((K.take (j.k+1)).map fun a=>((mget b a).getD EntD.zero).l.cells).flatten=((K.take j.k).map fun a=>((mget b a).getD EntD.zero).l.cells).flatten++e.l.cells:=by
        rw [List.take_add_one,ha]
        simp [he]
      generalize ((K.take j.k).map fun a=>((mget b a).getD EntD.zero).l.cells).flatten=acc at *
      repeat' (first|refine aI (q:=j.k) ?_|refine dt (q:=j.k) (u:=.string a) (hF:=fun w h=>h.at_ ha) ?_|refine cT (size:=4) (vs:=[e.l.v]) (css:=e.l.cells) (hsz:=by rfl) (hcs:=by rfl) fun _=>?_|(refine aG (size:=4) (news:=e.l.cells) (q:=1) rfl rfl rfl rfl (fun _=>At.there _ (At.here _)) (fun w G=>bL G ar rfl rfl 1) aa (by simp only [maxLen];omega) rfl ?_ rfl ?_;(first|with_reducible rfl|with_reducible assumption|with_reducible exact ZI|with_reducible exact ZK);intro A3 c3)|refine gs ?_|refine gs1 fun _=>?_|(refine gi (κ:=ByteArray) (kk:=a) (o:=some e.v) (hl:=fD aQ) (ho:=hmb) ?_)|(refine wA e (hx:=by rfl) (h:=?_))|(refine gp ?_ ?_<;>intro hx_ this)|fail)
      refine ⟨(⟨j.k+1,hltj,A3,c3⟩:FilS K.length),(by show K.length-(j.k+1)<K.length-j.k;omega),aj ⟨rfl,rfl,rfl,rfl,rfl,trivial⟩ ?_ fun _ h=>h⟩
      show List.Sublist [orow 52 4 _ _ ((K.take (j.k+1)).map fun a=>((mget b a).getD EntD.zero).l.cells).flatten,_] _
      rw [hfl]
      exact List.Sublist.cons _ (al _)
    · have hk:j.k=K.length:=by omega
      refine ad (ag rfl rfl) ⟨⟨j.A,j.k,j.c⟩,rfl,fun w h=>?_⟩
      have h1:=h.2 _ ar
      have e1:((K.take j.k).map fun a=>((mget b a).getD EntD.zero).l.cells)=(K.map fun a=>((mget b a).getD EntD.zero).l).map ListD.cells:=by
        rw [hk,List.take_length,Qu];rfl
      rw [e1] at h1
      rw [hofV]
      exact bu h1 (by simp [hk]) (by
        intro r hr
        obtain ⟨x,_,rfl⟩:=List.mem_map.1 hr
        rfl)
end Go.Proofs.YtoefdofbekihdaaGreatDoor
set_option maxHeartbeats 16000000
namespace Go.Proofs.YtoefdofbekihdaaGreatDoor
open Go Go.Proofs Sy
theorem g9 {a b:EntD}:betV a b=true↔b.l.until_<a.l.until_∨(a.l.until_=b.l.until_∧(ltB a.l.by_ b.l.by_=true∨(a.l.by_=b.l.by_∧b.at_<a.at_))):=by
 unfold betV
 by_cases h:a.l.until_=b.l.until_
 · rw [ZA h]
   simp only [ZK,ZB]
   cases hs:seqB a.l.by_ b.l.by_ with
   | true =>
    have e:=seqB_iff.1 hs
    simp only [ZK,ZB,ZT]
    constructor
    · intro h1;exact .inr ⟨h,.inr ⟨e,h1⟩⟩
    · rintro (h1|⟨_,h1|h1⟩)
      · omega
      · rw [e,cY] at h1;cases h1
      · exact h1.2
   | false =>
    have e:=seqB_ne.1 hs
    simp only [ZI,ZC]
    constructor
    · intro h1;exact .inr ⟨h,.inl h1⟩
    · rintro (h1|⟨_,h1|h1⟩)
      · omega
      · exact h1
      · exact absurd h1.1 e
 · rw [Zn h]
   simp only [ZI,ZC,ZT]
   constructor
   · intro h1;exact .inl h1
   · rintro (h1|h1)
     · exact h1
     · exact absurd h1.1 h
theorem ug {a b:EntD} (h:betV a b=true) (k:betV b a=true):False:=by
 rw [g9] at h k
 rcases h with h|⟨h,h2⟩
 · rcases k with k|⟨k,_⟩<;>omega
 · rcases k with k|⟨k,k2⟩
   · omega
   · rcases h2 with h2|⟨h2,h3⟩
     · rcases k2 with k2|⟨k2,_⟩
       · rw [f0 h2] at k2;cases k2
       · rw [k2,cY] at h2;cases h2
     · rcases k2 with k2|⟨k2,k3⟩
       · rw [h2,cY] at k2;cases k2
       · omega
theorem ue {a b c:EntD} (h:betV a b=true) (k:betV b c=true):betV a c=true:=by
 rw [g9] at *
 rcases h with h|⟨h,h2⟩
 · rcases k with k|⟨k,_⟩<;>exact .inl aa
 · rcases k with k|⟨k,k2⟩
   · exact .inl aa
   · refine .inr ⟨by omega,?_⟩
     rcases h2 with h2|⟨h2,h3⟩
     · rcases k2 with k2|⟨k2,_⟩
       · exact .inl (ft h2 k2)
       · exact .inl (k2▸h2)
     · rcases k2 with k2|⟨k2,k3⟩
       · exact .inl (h2▸k2)
       · exact .inr ⟨h2.trans k2,by omega⟩
theorem uf {a b:EntD} (h:¬ betV a b=true) (k:¬ betV b a=true):a.l.by_=b.l.by_∧a.at_=b.at_:=by
 rw [g9] at *
 simp only [not_or,not_and] at h k
 have hu:a.l.until_=b.l.until_:=by omega
 have h2:=h.2 hu
 have k2:=k.2 hu.symm
 have e:a.l.by_=b.l.by_:=jZ (by simpa using h2.1) (by simpa using k2.1)
 exact ⟨e,by have:=h2.2 e;have:=k2.2 e.symm;omega⟩
theorem iG {l:List ChainD} {k:ByteArray} {e:EntD} (h:e∈entsV l k):∃ c j,findC l k=some c∧j∈foundF c.actsL c.actsL.length∧e=entA k c.actsL j:=by
 unfold entsV at h
 cases hf:findC l k with
 | none=>rw [hf] at h;cases h
 | some c =>
  rw [hf] at h
  obtain ⟨j,hj,rfl⟩:=List.mem_map.1 h
  exact ⟨c,j,rfl,hj,rfl⟩
theorem Bj {l:List ChainD} {k:ByteArray} {e:EntD} (h:e∈entsV l k):e.l.by_=k:=by
 obtain ⟨c,j,_,_,rfl⟩:=iG h
 rfl
theorem Bi {l:List ChainD} {k k':ByteArray} {e e':EntD} (h:e∈entsV l k) (h':e'∈entsV l k') (hb:e.l.by_=e'.l.by_) (ha:e.at_=e'.at_):e=e':=by
 have hk:k=k':=by rw [←Bj h,←Bj h',hb]
 subst hk
 obtain ⟨c,j,hc,_,rfl⟩:=iG h
 obtain ⟨c',j',hc',_,rfl⟩:=iG h'
 rw [hc] at hc'
 cases hc'
 have:(j:Int)=(j':Int):=ha
 rw [show j=j' by omega]
def Best (S:EntD→Prop) (a:ByteArray) (e:EntD):Prop:=S e∧e.l.actor=a∧∀ e',S e'→e'.l.actor=a→e'=e∨betV e e'=true
theorem Best.uniq {S:EntD→Prop} {a:ByteArray} {e e':EntD} (h:Best S a e) (h':Best S a e'):e=e':=by
 rcases h.2.2 e' h'.1 h'.2.1 with h1|h1
 · exact h1.symm
 · rcases h'.2.2 e h.1 h.2.1 with h2|h2
   · exact h2
   · exact (ug h1 h2).elim
theorem jX {β:Type}:∀ (b:List (ByteArray×β)) (k a:ByteArray) (v:β),mget (mput b k v) a=if a=k then some v else mget b a
 | [],k,a,v=>by
  by_cases h:a=k
  · simp only [mput,mget,(KeyT.eqb_iff a k).2 h,ZC,Qf h]
  · have:KeyT.eqb a k=false:=by rw [←Z2,KeyT.eqb_iff];exact h
    simp only [mput,mget,this,ZB,Qg h]
 | (k',v')::r,k,a,v=>by
  have ih:=jX r k a v
  simp only [mput]
  cases hk:KeyT.eqb k k' with
  | true =>
   have e:=(KeyT.eqb_iff k k').1 hk
   subst e
   by_cases h:a=k
   · simp only [ZC,mget,(KeyT.eqb_iff a k).2 h,Qf h]
   · have:KeyT.eqb a k=false:=by rw [←Z2,KeyT.eqb_iff];exact h
     simp only [ZC,mget,this,ZB,Qg h]
  | false =>
   simp only [ZB,mget]
   cases ha:KeyT.eqb a k' with
   | true =>
    have e:=(KeyT.eqb_iff a k').1 ha
    subst e
    have hne:¬ a=k:=fun e=>by rw [e,(KeyT.eqb_iff k k).2 rfl] at hk;cases hk
    simp only [ZC,Qg hne]
   | false=>simp only [ZB,ih]
theorem rF {β:Type}:∀ (b:List (ByteArray×β)) (k a:ByteArray) (v:β),a∈(mput b k v).map (·.1)↔a=k∨a∈b.map (·.1)
 | [],k,a,v=>by simp [mput]
 | (k',v')::r,k,a,v=>by
  have ih:=rF r k a v
  simp only [mput]
  cases hk:KeyT.eqb k k' with
  | true =>
   have e:=(KeyT.eqb_iff k k').1 hk
   subst e
   simp
  | false =>
   simp only [ZB,Qv,Z8,ih]
   constructor
   · rintro (h|h|h)
     · exact .inr (.inl h)
     · exact .inl h
     · exact .inr (.inr h)
   · rintro (h|h|h)
     · exact .inr (.inl h)
     · exact .inl h
     · exact .inr (.inr h)
theorem mD {β:Type}:∀ (b:List (ByteArray×β)) (k:ByteArray) (v:β),(b.map (·.1)).Nodup→((mput b k v).map (·.1)).Nodup
 | [],k,v,_=>by simp [mput]
 | (k',v')::r,k,v,h=>by
  simp only [Qv,List.nodup_cons] at h
  have ih:=mD r k v h.2
  simp only [mput]
  cases hk:KeyT.eqb k k' with
  | true =>
   have e:=(KeyT.eqb_iff k k').1 hk
   subst e
   simp only [ZC,Qv,List.nodup_cons]
   exact h
  | false =>
   simp only [ZB,Qv,List.nodup_cons]
   refine ⟨fun hm=>?_,ih⟩
   rcases (rF r k k' v).1 hm with e|e
   · rw [e,(KeyT.eqb_iff k k).2 rfl] at hk;cases hk
   · exact h.1 e
theorem oo {β:Type}:∀ {b:List (ByteArray×β)} {a:ByteArray} {e:β},mget b a=some e→a∈b.map (·.1)
 | [],a,e,h=>by cases h
 | (k',v')::r,a,e,h=>by
  simp only [mget] at h
  cases hk:KeyT.eqb a k' with
  | true=>rw [(KeyT.eqb_iff a k').1 hk];simp
  | false=>rw [hk] at h;simp only [Qv,Z8];exact .inr (oo h)
structure Inv (l:List ChainD) (S:EntD→Prop) (b:List (ByteArray×EntD)):Prop where
 wf:∀ e,S e→∃ k,e∈entsV l k
 nodup:(b.map (·.1)).Nodup
 best:∀ a e,mget b a=some e→Best S a e
 all:∀ e,S e→∃ e',mget b e.l.actor=some e'
theorem Inv.congr {l:List ChainD} {S S':EntD→Prop} {b:List (ByteArray×EntD)} (h:Inv l S b) (hs:∀ e,S e↔S' e):Inv l S' b:=by
 have:S=S':=funext fun e=>propext (hs e)
 subst this
 exact h
theorem AR {l:List ChainD} {S:EntD→Prop} {b:List (ByteArray×EntD)} {now:Int} {e:EntD} {k:ByteArray} (h:Inv l S b) (he:e∈entsV l k):Inv l (fun x=>S x∨(x=e∧now<e.l.until_)) (bestStep now b e):=by
 unfold bestStep
 by_cases hu:e.l.until_≤now
 · rw [ZA hu,ZC]
   exact h.congr fun x=>⟨.inl,fun hx=>hx.elim id fun hx=>by omega⟩
 · rw [Zn hu,ZB]
   have hu':now<e.l.until_:=by omega
   have hS:(fun x=>S x∨(x=e∧now<e.l.until_))=fun x=>S x∨x=e:=funext fun x=>propext ⟨fun hx=>hx.imp id And.left,fun hx=>hx.imp id fun hx=>⟨hx,hu'⟩⟩
   rw [hS]
   have hwf:∀ x,S x∨x=e→∃ k,x∈entsV l k:=fun x hx=>hx.elim (h.wf x) fun hx=>⟨k,hx▸he⟩
   have put:(∀ x,S x→x.l.actor=e.l.actor→x=e∨betV e x=true)→Inv l (fun x=>S x∨x=e) (mput b e.l.actor e):=fun hb=>by
    refine ⟨hwf,mD b _ _ h.nodup,fun a x hx=>?_,fun x hx=>?_⟩
    · rw [jX] at hx
      by_cases ha:a=e.l.actor
      · rw [Qf ha] at hx
        cases hx
        refine ⟨.inr rfl,ha.symm,fun e' h1 h2=>?_⟩
        rcases h1 with h1|h1
        · exact hb e' h1 (h2.trans ha)
        · exact .inl h1
      · rw [Qg ha] at hx
        have h1:=h.best a x hx
        refine ⟨.inl h1.1,h1.2.1,fun e' h2 h3=>?_⟩
        rcases h2 with h2|h2
        · exact h1.2.2 e' h2 h3
        · subst h2;exact absurd h3.symm ha
    · rw [jX]
      by_cases ha:x.l.actor=e.l.actor
      · rw [Qf ha];exact ⟨_,rfl⟩
      · rw [Qg ha]
        rcases hx with hx|hx
        · exact h.all x hx
        · subst hx;exact absurd rfl ha
   cases ho:mget b e.l.actor with
   | none =>
    refine put fun x hx ha=>?_
    obtain ⟨e',h1⟩:=h.all x hx
    rw [ha,ho] at h1
    cases h1
   | some old =>
    have hbo:=h.best _ _ ho
    simp only
    cases hc:((!eqED e old)&&betV e old) with
    | true =>
     have hb:=(ZM _ _).mp hc
     refine put fun x hx ha=>?_
     rcases hbo.2.2 x hx ha with h1|h1
     · rw [h1];exact .inr hb.2
     · exact .inr (ue hb.2 h1)
    | false =>
     simp only [ZB]
     have hoe:old=e∨betV old e=true:=by
      by_cases h1:betV old e=true
      · exact .inr h1
      · by_cases h2:betV e old=true
        · rw [h2,ZE] at hc
          have:eqED e old=true:=by simpa using hc
          exact .inl (eqED_iff.1 this).symm
        · obtain ⟨k',hk'⟩:=h.wf old hbo.1
          have h3:=uf h1 h2
          exact .inl (Bi hk' he h3.1 h3.2)
     refine ⟨hwf,h.nodup,fun a x hx=>?_,fun x hx=>?_⟩
     · have h1:=h.best a x hx
       refine ⟨.inl h1.1,h1.2.1,fun e' h2 h3=>?_⟩
       rcases h2 with h2|h2
       · exact h1.2.2 e' h2 h3
       · subst h2
         rw [←h3,ho] at hx
         cases hx
         rcases hoe with h4|h4
         · exact .inl h4.symm
         · exact .inr h4
     · rcases hx with hx|hx
       · exact h.all x hx
       · subst hx;exact ⟨old,ho⟩
theorem rN {l:List ChainD} {now:Int} {k:ByteArray}:∀ (E:List EntD) {S:EntD→Prop} {b:List (ByteArray×EntD)},Inv l S b→(∀ e∈E,e∈entsV l k)→Inv l (fun x=>S x∨(x∈E∧now<x.l.until_)) (E.foldl (bestStep now) b)
 | [],S,b,h,_=>h.congr fun x=>⟨.inl,fun hx=>hx.elim id fun hx=>by cases hx.1⟩
 | e::E,S,b,h,he=>by
  have h1:=AR (now:=now) h (he e ar)
  have h2:=rN (now:=now) E h1 fun x hx=>he x (ZS _ hx)
  refine h2.congr fun x=>?_
  simp only [Z8]
  constructor
  · rintro ((h|⟨rfl,h⟩)|⟨h,h'⟩)
    · exact .inl h
    · exact .inr ⟨.inl rfl,h⟩
    · exact .inr ⟨.inr h,h'⟩
  · rintro (h|⟨rfl|h,h'⟩)
    · exact .inl (.inl h)
    · exact .inl (.inr ⟨rfl,h'⟩)
    · exact .inr ⟨h,h'⟩
def Cand (l:List ChainD) (ks:List ByteArray) (now:Int) (e:EntD):Prop:=(∃ k∈ks,e∈entsV l k)∧now<e.l.until_
theorem hasK_iff {ks:List ByteArray} {k:ByteArray}:hasK ks k=true↔k∈ks:=by
 rw [hasK,List.any_eq_true]
 constructor
 · rintro ⟨y,hy,h⟩
   rw [(KeyT.eqb_iff k y).1 h];exact hy
 · intro h
   exact ⟨k,h,(KeyT.eqb_iff k k).2 rfl⟩
theorem xl {ks:List ByteArray} {k a:ByteArray}:a∈sput ks k↔a=k∨a∈ks:=by
 induction ks with
 | nil=>simp [sput]
 | cons y ks ih =>
  simp only [sput]
  cases hk:KeyT.eqb k y with
  | true=>rw [(KeyT.eqb_iff k y).1 hk];simp
  | false =>
   simp only [ZB,Z8,ih]
   constructor
   · rintro (h|h|h)
     · exact .inr (.inl h)
     · exact .inl h
     · exact .inr (.inr h)
   · rintro (h|h|h)
     · exact .inr (.inl h)
     · exact .inl h
     · exact .inr (.inr h)
theorem rO (l:List ChainD) (now:Int) (ks:List ByteArray):∀ i,i≤ks.length→(∀ k,k∈(bestF l now ks i).1↔k∈ks.take i)∧Inv l (Cand l (ks.take i) now) (bestF l now ks i).2
 | 0,_=>⟨fun k=>(by simp [bestF]),{ wf:=fun e h=>(by obtain ⟨⟨k,hk,_⟩,_⟩:=h;simp at hk),nodup:=(by simp [bestF]),best:=fun a e h=>(by cases h),all:=fun e h=>(by obtain ⟨⟨k,hk,_⟩,_⟩:=h;simp at hk) }⟩
 | i+1,hi=>by
  obtain ⟨ih1,ih2⟩:=rO l now ks i aa
  have hx:ks.getD i .empty=ks[i]:=by rw [ZL,Zm (by omega)];rfl
  have ht:ks.take (i+1)=ks.take i++[ks[i]]:=by rw [List.take_add_one,Zm (by omega)];rfl
  simp only [bestF,hx,ht]
  generalize ks[i]=k0 at *
  cases hh:hasK (bestF l now ks i).1 k0 with
  | true =>
   have hin:k0∈ks.take i:=(ih1 k0).1 (hasK_iff.1 hh)
   simp only [ZC]
   refine ⟨fun k=>?_,ih2.congr fun e=>?_⟩
   · rw [ih1,List.mem_append,List.mem_singleton]
     exact ⟨.inl,fun h=>h.elim id fun h=>h▸hin⟩
   · unfold Cand
     simp only [List.mem_append,List.mem_singleton]
     exact ⟨fun ⟨⟨k,h1,h2⟩,h3⟩=>⟨⟨k,.inl h1,h2⟩,h3⟩,fun ⟨⟨k,h1,h2⟩,h3⟩=>⟨⟨k,h1.elim id fun h=>h▸hin,h2⟩,h3⟩⟩
  | false =>
   simp only [ZB]
   refine ⟨fun k=>?_,(rN (now:=now) (k:=k0) (entsV l k0) ih2 fun e he=>he).congr fun e=>?_⟩
   · rw [xl,ih1,List.mem_append,List.mem_singleton]
     exact Or.comm
   · unfold Cand
     simp only [List.mem_append,List.mem_singleton]
     constructor
     · rintro (⟨⟨k,h1,h2⟩,h3⟩|⟨h2,h3⟩)
       · exact ⟨⟨k,.inl h1,h2⟩,h3⟩
       · exact ⟨⟨k0,.inr rfl,h2⟩,h3⟩
     · rintro ⟨⟨k,h1|rfl,h2⟩,h3⟩
       · exact .inl ⟨⟨k,h1,h2⟩,h3⟩
       · exact .inr ⟨h2,h3⟩
theorem pJ (l:List ChainD) (now:Int) (ks:List ByteArray):Inv l (Cand l ks now) (bestF l now ks ks.length).2:=by
 have:=(rO l now ks ks.length (Qq _)).2
 rwa [List.take_length] at this
def Lst (l:List ChainD) (ks:List ByteArray) (now:Int) (x:ListD):Prop:=∃ e,Best (Cand l ks now) x.actor e∧e.l=x
theorem mem_ofV {l:List ChainD} {ks:List ByteArray} {now:Int} {x:ListD}:x∈ofV l ks now↔Lst l ks now x:=by
 have hI:=pJ l now ks
 unfold ofV
 rw [List.mem_map]
 constructor
 · rintro ⟨a,ha,rfl⟩
   obtain ⟨e,he⟩:=jl (mem_sortB.1 ha)
   have hb:=hI.best a e he
   rw [he]
   refine ⟨e,?_,rfl⟩
   show Best _ e.l.actor e
   rw [hb.2.1]
   exact hb
 · rintro ⟨e,hb,rfl⟩
   obtain ⟨e',he'⟩:=hI.all e hb.1
   have hb':=hI.best _ e' he'
   have:e=e':=hb.uniq hb'
   subst this
   exact ⟨e.l.actor,mem_sortB.2 (oo he'),by rw [he'];rfl⟩
theorem um (l:List ChainD) (ks:List ByteArray) (now:Int):(ofV l ks now).map (·.actor)=sortB ((bestF l now ks ks.length).2.map (·.1)):=by
 have hI:=pJ l now ks
 unfold ofV
 rw [Qu]
 conv=>rhs;rw [←List.map_id (sortB ((bestF l now ks ks.length).2.map (·.1)))]
 refine List.map_congr_left fun a ha=>?_
 obtain ⟨e,he⟩:=jl (mem_sortB.1 ha)
 have hb:=hI.best a e he
 simp only [Function.comp_apply,he,Option.getD_some,id_eq]
 exact hb.2.1
theorem vH (l:List ChainD) (ks:List ByteArray) (now:Int):(ofV l ks now).Pairwise fun x y=>ltB x.actor y.actor=true:=by
 have h:Asc ((ofV l ks now).map (·.actor)):=by
  rw [um]
  exact xT (pJ l now ks).nodup
 unfold Asc at h
 rwa [List.pairwise_map] at h
theorem DJ {l m:List ListD} (hl:l.Pairwise fun x y=>ltB x.actor y.actor=true) (hm:m.Pairwise fun x y=>ltB x.actor y.actor=true) (h:∀ x,x∈l↔x∈m):l=m:=by
 have nd:∀ {l:List ListD},(l.Pairwise fun x y=>ltB x.actor y.actor=true)→l.Nodup:=fun h=>h.imp fun h e=>by subst e;rw [cY] at h;cases h
 refine ((List.perm_ext_iff_of_nodup (nd hl) (nd hm)).2 h).eq_of_pairwise (fun a b _ _ h1 h2=>?_) hl hm
 rw [f0 h1] at h2
 cases h2
theorem Lst.uniq {l:List ChainD} {ks:List ByteArray} {now:Int} {x y:ListD} (hx:Lst l ks now x) (hy:Lst l ks now y) (h:x.actor=y.actor):x=y:=by
 obtain ⟨e,he,rfl⟩:=hx
 obtain ⟨e',he',rfl⟩:=hy
 rw [h] at he
 rw [he.uniq he']
theorem hasL_iff {l:List ChainD} {ks:List ByteArray} {now:Int} {x:ListD} {a:ByteArray}:hasL (ofV l ks now) a=some x↔Lst l ks now x∧x.actor=a:=by
 constructor
 · intro h
   have h1:=List.find?_some h
   exact ⟨mem_ofV.1 (List.mem_of_find?_eq_some h),seqB_iff.1 h1⟩
 · rintro ⟨h,rfl⟩
   cases hf:hasL (ofV l ks now) x.actor with
   | none =>
    rw [hasL,List.find?_eq_none] at hf
    exact absurd (cW x.actor) (hf x (mem_ofV.2 h))
   | some y =>
    have h1:=mem_ofV.1 (List.mem_of_find?_eq_some hf)
    have h2:=List.find?_some hf
    rw [h.uniq h1 (seqB_iff.1 h2).symm]
theorem listed {l:List ChainD} {ks:List ByteArray} {now:Int} {e:EntD} (h:Cand l ks now e):∃ x,Lst l ks now x∧x.actor=e.l.actor∧e.l.until_≤x.until_∧(x.until_=e.l.until_→ltB e.l.by_ x.by_=false):=by
 have hI:=pJ l now ks
 obtain ⟨e',he'⟩:=hI.all e h
 have hb:=hI.best _ e' he'
 refine ⟨e'.l,⟨e',by rw [hb.2.1];exact hb,rfl⟩,hb.2.1,?_,fun hu=>?_⟩
 · rcases hb.2.2 e h rfl with h1|h1
   · rw [h1];exact Int.le_refl _
   · rw [g9] at h1;omega
 · rcases hb.2.2 e h rfl with h1|h1
   · rw [h1];exact cY _
   · rw [g9] at h1
     rcases h1 with h1|⟨_,h1|h1⟩
     · omega
     · exact f0 h1
     · rw [h1.1];exact cY _
theorem Lst.after {l:List ChainD} {ks:List ByteArray} {now:Int} {x:ListD} (h:Lst l ks now x):now<x.until_:=by
 obtain ⟨e,he,rfl⟩:=h
 exact he.1.2
theorem gdApp {l r:List ActD} {i:Nat} (h:i<l.length):(l++r).getD i ActD.zero=l.getD i ActD.zero:=by
 rw [ZL,ZL,Z4 h]
theorem gW (l:List ActD) (a:ActD) (r:List ActD):(l++a::r).getD l.length ActD.zero=a:=by
 rw [ZL,Qm (Qq _),Nat.sub_self]
 rfl
def UndOk (l:List ActD):Prop:=∀ i,i<l.length→(l.getD i ActD.zero).kind=6→(idxV l (l.getD i ActD.zero).object).isSome=true
theorem js {l r:List ActD} {d:ByteArray} (h:(idxV l d).isSome=true):idxV (l++r) d=idxV l d:=by
 rw [idxV,List.findIdx?_append]
 rw [idxV] at h ⊢
 cases hf:l.findIdx? fun a=>seqB (digV a) d with
 | none=>rw [hf] at h;cases h
 | some j=>rfl
theorem nM {l:List ActD} (h:UndOk l):UndOk (l.map ActD.can):=fun i hi hk=>by
 rw [Z3] at hi
 rw [pT] at hk ⊢
 rw [tY]
 exact h i hi hk
theorem mQ (l:List ActD):∀ i,foundF (l.map ActD.can) i=foundF l i
 | 0=>rfl
 | i+1=>by
  have ih:=mQ l i
  simp only [foundF]
  rw [pT,ih,tY]
  rfl
theorem Bk (k:ByteArray) (l:List ActD) (j:Nat):entA k (l.map ActD.can) j=entA k l j:=by
 rw [entA,entA,pT]
 rfl
theorem E1 {L:List Int} {I:List ItemD} {au:ByteArray} {c:ChainD} {kl:List KeyD} (q:QK L I au c kl):∀ x∈c.actsL,x∈selA au rightIt I:=by
 obtain ⟨A,sa,sk,st,fork,hA,hR,rfl,rfl⟩:=q
 rw [OfRes] at hR
 cases ho:oneA (firstL ((OfWK L.length I au).at A)) with
 | none =>
  rw [ho] at hR
  obtain ⟨rfl,rfl⟩:=hR
  exact fun x hx=>absurd hx (by simp)
 | some a =>
  rw [ho] at hR
  obtain ⟨rfl,rfl⟩:=hR
  have ha:a∈firstL ((OfWK L.length I au).at A):=by rw [fZ ho];exact List.mem_singleton.2 rfl
  exact fun x hx=>hA.subset ((vw ha).mem x hx)
theorem qq {L:List Int} {I:List ItemD} (h:KnR L I) {au:ByteArray} {c:ChainD} {kl:List KeyD} (q:QK L I au c kl):UndOk c.actsL:=fun i hi hk=>by
 have G:=gD h q
 have hx:c.actsL[i]?=some (c.actsL.getD i ActD.zero):=by rw [ZL,Zm hi];rfl
 generalize c.actsL.getD i ActD.zero=x at *
 by_cases h0:i=0
 · subst h0
   obtain ⟨it,_,rfl,k0,hr,_⟩:=fR (E1 q x (List.mem_of_getElem? hx))
   have h1:=gP k0 hr
   have h2:=G.seq 0 _ hx
   simp only [rightB,ZM] at h1
   have h3:=h1.1.1.1.1.2
   rw [placedB,ZA aa,ZC,ZM,ZT] at h3
   rw [h3.1] at hk
   exact absurd hk (by decide)
 · have hf:=G.fit i x aa hx ⟨c.id,⟨none,i,0⟩,⟨none,0,0⟩,x.prev,0,false,c.actsL.take i⟩ rfl rfl rfl rfl
   have hs:(idxV (c.actsL.take i) x.object).isSome=true:=by
    cases ho:idxV (c.actsL.take i) x.object with
    | some j=>rfl
    | none =>
     rw [fitsV] at hf
     change (bif _ then false else bif _ then false else bif decide (x.kind=6) then atK _ (idxV (c.actsL.take i) x.object) undoK else _)=true at hf
     rw [ho,ZA hk,ZC,atK] at hf
     cases hb:!rightB x||!seqB x.author c.id||!decide (x.seq=((i:Nat):Int))||!seqB x.prev x.prev with
     | true =>
      change (bif (!rightB x||!seqB x.author c.id||!decide (x.seq=((i:Nat):Int))||!seqB x.prev x.prev) then false else _)=true at hf
      rw [hb] at hf;cases hf
     | false =>
      change (bif (!rightB x||!seqB x.author c.id||!decide (x.seq=((i:Nat):Int))||!seqB x.prev x.prev) then false else bif (decide (x.kind=0) != decide (((i:Nat):Int)=0)) then false else false)=true at hf
      rw [hb,ZB] at hf
      cases hc:decide (x.kind=0) != decide (((i:Nat):Int)=0)<;>rw [hc] at hf<;>cases hf
   have e:=js (r:=c.actsL.drop i) hs
   rw [List.take_append_drop] at e
   rw [e]
   exact hs
def entsW (o:Option (List ActD)) (k:ByteArray):List EntD:=match o with
 | some acts=>(foundF acts acts.length).map (entA k acts)
 | none=>[]
theorem eP (l:List ChainD) (k:ByteArray):entsV l k=entsW (viewC l k) k:=by
 rw [entsV,viewC]
 cases findC l k with
 | none=>rfl
 | some c =>
  show _=(foundF (c.actsL.map ActD.can) (c.actsL.map ActD.can).length).map (entA k (c.actsL.map ActD.can))
  rw [Z3,mQ]
  exact List.map_congr_left fun j _=>(Bk k c.actsL j).symm
theorem gE {l:List ActD} (r:List ActD) (hu:UndOk l):∀ i,i≤l.length→foundF (l++r) i=foundF l i
 | 0,_=>rfl
 | i+1,h=>by
  have ih:=gE r hu i aa
  simp only [foundF]
  rw [gdApp aa,ih]
  cases decide ((l.getD i ActD.zero).kind=23) with
  | true=>rfl
  | false =>
   by_cases h6:(l.getD i ActD.zero).kind=6
   · rw [js (hu i aa h6)]
   · rw [Zn h6]
     rfl
theorem r3 {l:List ActD} (r:List ActD) (k:ByteArray) {F:List Nat} (h:∀ j∈F,j<l.length):F.map (entA k (l++r))=F.map (entA k l) :=
 List.map_congr_left fun j hj=>by rw [entA,entA,gdApp (h j hj)]
theorem xF {l:List ActD} (hu:UndOk l) (k:ByteArray) {a:ActD} (ha:a.kind=23):entsW (some (l++[a])) k=entsW (some l) k++[⟨⟨a.target,a.text,k,a.n⟩,(l.length:Nat)⟩]:=by
 show (foundF (l++[a]) (l++[a]).length).map _=_
 rw [ZX]
 show (foundF (l++[a]) (l.length+1)).map _=_
 have e:foundF (l++[a]) (l.length+1)=foundF l l.length++[l.length]:=by
  simp only [foundF]
  rw [gW,ZA ha,ZC,gE [a] hu _ (Qq _)]
 rw [e,Qn,r3 [a] k (eO l l.length),Qv,entA,gW]
 rfl
theorem rZ {l:List ActD} (hu:UndOk l) (k:ByteArray) {a u:ActD} (ha:a.kind=23) (hk:u.kind=6) (ho:idxV (l++[a]) u.object=some l.length):entsW (some (l++[a]++[u])) k=entsW (some l) k:=by
 have hu2:UndOk (l++[a]):=fun i hi h6=>by
  rw [ZX] at hi
  have hi':i<l.length+1:=hi
  by_cases e:i=l.length
  · subst e
    rw [gW,ha] at h6
    exact absurd h6 (by decide)
  · rw [gdApp (by omega)] at h6 ⊢
    rw [js (hu i aa h6)]
    exact hu i aa h6
 have hl:(l++[a]).length=l.length+1:=by rw [ZX];rfl
 show (foundF (l++[a]++[u]) (l++[a]++[u]).length).map _=_
 rw [ZX,hl]
 show (foundF (l++[a]++[u]) (l.length+1+1)).map _=_
 have e:foundF (l++[a]++[u]) (l.length+1+1)=foundF l l.length:=by
  have e1:(l++[a]++[u]).getD (l.length+1) ActD.zero=u:=by
   have:=gW (l++[a]) u []
   rwa [hl] at this
  have e2:foundF (l++[a]++[u]) (l.length+1)=foundF l l.length++[l.length]:=by
   rw [gE [u] hu2 _ (by rw [hl];exact Qq _)]
   simp only [foundF]
   rw [gW,ZA ha,ZC,gE [a] hu _ (Qq _)]
  rw [foundF,e1,e2,Zn (by rw [hk];decide),ZA hk,ZB,ZC,js (by rw [ho];rfl),ho]
  show (foundF l l.length++[l.length]).erase l.length=_
  have hn:l.length∉foundF l l.length:=fun h=>Qs _ (eO l _ _ h)
  rw [List.erase_append_right _ hn]
  simp
 rw [e,ZZ,r3 _ k (eO l l.length)]
 rfl
theorem ua {l l':List ChainD} {ks:List ByteArray} (h:∀ k∈ks,entsV l' k=entsV l k) (now:Int):Cand l' ks now=Cand l ks now :=
 funext fun e=>propext ⟨fun ⟨⟨k,hk,he⟩,hu⟩=>⟨⟨k,hk,by rw [←h k hk];exact he⟩,hu⟩,fun ⟨⟨k,hk,he⟩,hu⟩=>⟨⟨k,hk,by rw [h k hk];exact he⟩,hu⟩⟩
theorem AC {l l':List ChainD} {ks:List ByteArray} (h:∀ k∈ks,entsV l' k=entsV l k) (now:Int):ofV l' ks now=ofV l ks now :=
 DJ (vH _ _ _) (vH _ _ _) fun x=>by rw [mem_ofV,mem_ofV,Lst,Lst,ua h now]
structure OneMore (l l':List ChainD) (ks:List ByteArray) (id:ByteArray) (e0:EntD):Prop where
 mem:id∈ks
 far:∀ k,k≠id→entsV l' k=entsV l k
 own:entsV l' id=entsV l id++[e0]
theorem OneMore.cand {l l':List ChainD} {ks:List ByteArray} {id:ByteArray} {e0:EntD} (h:OneMore l l' ks id e0) {now:Int} {e:EntD}:Cand l' ks now e↔Cand l ks now e∨(e=e0∧now<e0.l.until_):=by
 constructor
 · rintro ⟨⟨k,hk,he⟩,hu⟩
   by_cases hki:k=id
   · subst hki
     rw [h.own] at he
     rcases List.mem_append.1 he with he|he
     · exact .inl ⟨⟨k,hk,he⟩,hu⟩
     · rw [List.mem_singleton.1 he] at hu ⊢
       exact .inr ⟨rfl,hu⟩
   · rw [h.far k hki] at he
     exact .inl ⟨⟨k,hk,he⟩,hu⟩
 · rintro (⟨⟨k,hk,he⟩,hu⟩|⟨rfl,hu⟩)
   · by_cases hki:k=id
     · subst hki
       exact ⟨⟨k,hk,by rw [h.own];exact List.mem_append_left _ he⟩,hu⟩
     · exact ⟨⟨k,hk,by rw [h.far k hki];exact he⟩,hu⟩
   · exact ⟨⟨id,h.mem,by rw [h.own];exact List.mem_append_right _ (List.mem_singleton.2 rfl)⟩,hu⟩
theorem OneMore.others {l l':List ChainD} {ks:List ByteArray} {id:ByteArray} {e0:EntD} (h:OneMore l l' ks id e0) {now:Int} {x:ListD} (hx:x∈ofV l' ks now) (hn:x.actor≠e0.l.actor):hasL (ofV l ks now) x.actor=some x:=by
 obtain ⟨e,⟨h1,h2,h3⟩,rfl⟩:=mem_ofV.1 hx
 refine hasL_iff.2 ⟨⟨e,⟨?_,rfl,fun e' he' ha=>h3 e' (h.cand.2 (.inl he')) ha⟩,rfl⟩,rfl⟩
 rcases h.cand.1 h1 with h1|⟨rfl,_⟩
 · exact h1
 · exact absurd rfl hn
theorem na {l:List ChainD} {ks:List ByteArray} {now:Int} {e:EntD} (h:Cand l ks now e):∃ x,hasL (ofV l ks now) e.l.actor=some x∧e.l.until_≤x.until_:=by
 obtain ⟨x,h1,h2,h3,_⟩:=listed h
 exact ⟨x,hasL_iff.2 ⟨h1,h2⟩,h3⟩
theorem OneMore.first {l l':List ChainD} {ks:List ByteArray} {id:ByteArray} {e0:EntD} (h:OneMore l l' ks id e0) {now:Int} (h0:0≤e0.l.until_) :
  (hasL (ofV l' ks now) e0.l.actor).isSome=((hasL (ofV l ks now) e0.l.actor).isSome||decide (now<e0.l.until_)) ∧
  ∀ x,hasL (ofV l' ks now) e0.l.actor=some x→e0.l.until_≤x.until_∧((hasL (ofV l ks now) e0.l.actor).getD ListD.zero).until_≤x.until_:=by
 have hold:∀ y,hasL (ofV l ks now) e0.l.actor=some y→∃ x,hasL (ofV l' ks now) e0.l.actor=some x∧y.until_≤x.until_:=fun y hy=>by
  obtain ⟨⟨e,he,rfl⟩,ha⟩:=hasL_iff.1 hy
  obtain ⟨x,hx,hu⟩:=na (h.cand.2 (.inl he.1))
  rw [ha] at hx
  exact ⟨x,hx,hu⟩
 have hnew:now<e0.l.until_→∃ x,hasL (ofV l' ks now) e0.l.actor=some x∧e0.l.until_≤x.until_:=fun hu=>na (h.cand.2 (.inr ⟨rfl,hu⟩))
 constructor
 · cases hw:hasL (ofV l ks now) e0.l.actor with
   | some y =>
    obtain ⟨x,hx,_⟩:=hold y hw
    rw [hx]
    rfl
   | none =>
    by_cases hu:now<e0.l.until_
    · obtain ⟨x,hx,_⟩:=hnew hu
      rw [hx,ZA hu]
      rfl
    · rw [Zn hu]
      cases hx:hasL (ofV l' ks now) e0.l.actor with
      | none=>rfl
      | some x =>
       obtain ⟨⟨e,he,rfl⟩,ha⟩:=hasL_iff.1 hx
       rcases h.cand.1 he.1 with h1|⟨_,h1⟩
       · obtain ⟨y,hy,_⟩:=na h1
         rw [ha,hw] at hy
         cases hy
       · exact absurd h1 hu
 · intro x hx
   have hafter:now<x.until_:=(hasL_iff.1 hx).1.after
   have h1:e0.l.until_≤x.until_:=by
    by_cases hu:now<e0.l.until_
    · obtain ⟨x',hx',hu'⟩:=hnew hu
      rw [hx] at hx'
      cases hx'
      exact hu'
    · omega
   refine ⟨h1,?_⟩
   cases hw:hasL (ofV l ks now) e0.l.actor with
   | none=>exact Int.le_trans h0 h1
   | some y =>
    obtain ⟨x',hx',hu'⟩:=hold y hw
    rw [hx] at hx'
    cases hx'
    exact hu'
theorem zY {k:KyD} {c:ChainD} {x:ActD} (hx:x.Rng) (hc:c.acts.n≤1000):(sgA k c x).Rng :=
 qM ⟨⟨by show (c.acts.n:Int)<_;omega,hx.ints.2.1,by show (1:Int)<_;decide,hx.ints.2.2.2⟩,hx.wints,hx.to_len,hx.wraps_len⟩
theorem D6 {k:KyD} {c:ChainD} {x:ActD} (hs:x.Sm):(sgA k c x).Sm:=uS ⟨hs.to,hs.wraps,hs.target⟩
theorem BO (L:List Int) (I:List ItemD) (it:ItemD):(addK L I it).length≤I.length+1:=by
 rw [addK]
 cases canAdd L I it with
 | false=>exact Nat.le_succ _
 | true =>
  have:=(ip digIt it I).length_eq
  rw [ZY] at this
  exact Nat.le_of_eq this
theorem qD {L:List Int} {I:List ItemD} (h:KnR L I) {au:ByteArray} {c n:ChainD} {kl kl':List KeyD} (q:QK L I au c kl) (h0:0<c.actsL.length) (hcn:c.acts.n=c.actsL.length) (hnn:n.acts.n=n.actsL.length) {k:KyD} {x:ActD} {s3 s4:SlV}
  (e3:s3.n=(sgA k c x).to.n) (e4:s4.n=(sgA k c x).wraps.n) (q':QK L (addK L I (ofActI ((sgA k c x).re s3 s4))) c.id n kl') (hl:(n.acts.n:Int)=(c.acts.n:Int)+1) :
  SignD L I c n k { x with time:=1 } (sgA k c x)∧QK L (addK L I (ofActI ((sgA k c x).re s3 s4))) au n kl':=by
 rw [mx q] at q'
 exact ⟨(sY h q h0 hcn e3 e4 q' aa).1,q'⟩
theorem SignD.author {L:List Int} {I:List ItemD} {c n:ChainD} {k:KyD} {x b:ActD} (h:SignD L I c n k x b):b.author=c.id:=by rw [h.sig];rfl
theorem SignD.kind {L:List Int} {I:List ItemD} {c n:ChainD} {k:KyD} {x b:ActD} (h:SignD L I c n k x b):b.kind=x.kind:=by rw [h.sig];rfl
theorem SignD.object {L:List Int} {I:List ItemD} {c n:ChainD} {k:KyD} {x b:ActD} (h:SignD L I c n k x b):b.object=x.object:=by rw [h.sig];rfl
theorem SignD.target {L:List Int} {I:List ItemD} {c n:ChainD} {k:KyD} {x b:ActD} (h:SignD L I c n k x b):b.target=x.target:=by rw [h.sig];rfl
theorem SignD.text {L:List Int} {I:List ItemD} {c n:ChainD} {k:KyD} {x b:ActD} (h:SignD L I c n k x b):b.text=x.text:=by rw [h.sig];rfl
theorem SignD.num {L:List Int} {I:List ItemD} {c n:ChainD} {k:KyD} {x b:ActD} (h:SignD L I c n k x b):b.n=x.n:=by rw [h.sig];rfl
theorem E7 {a:ActD} (h:rightB a=true) (hk:a.kind=23):0≤a.n:=by
 simp only [rightB,ZM] at h
 have h6:=h.2
 rw [ruleB,hk] at h6
 change (decide _&&rule6B a)=true at h6
 rw [ZM] at h6
 have h7:=h6.2
 simp only [rule6B,ZM] at h7
 exact (bY h7.2).1
theorem m0 {L:List Int} {I:List ItemD} {it:ItemD} (hk:it.kind=0) {l l':List ChainD} (h:AllK L I l) (h':AllK L (addK L I it) l') {k:ByteArray} (hi:k≠it.act.author):entsV l' k=entsV l k:=by
 rw [eP,eP,BJ hk h h' hi]
theorem tI {L:List Int} {I:List ItemD} (hK:KnR L I) {id:ByteArray} {c n:ChainD} {kl kl':List KeyD} {k:KyD} {x b:ActD} {s3 s4:SlV} {l1 l2:List ChainD} (hQ:QK L I id c kl) (h0:0<c.actsL.length) (hau:id∈authI I) (hS:SignD L I c n k x b)
  (hQ':QK L (addK L I (ofActI (b.re s3 s4))) id n kl') (hA1:AllK L I l1) (hA2:AllK L (addK L I (ofActI (b.re s3 s4))) l2) (hx:x.kind=23) {KS:List ByteArray} (hm:id∈KS) :
  OneMore l1 l2 KS id ⟨⟨x.target,x.text,id,x.n⟩,(c.actsL.length:Nat)⟩∧0≤x.n:=by
 have hid:=mx hQ
 refine ⟨⟨hm,fun k hk=>m0 rfl hA1 hA2 (by show k≠b.author;rw [hS.author,hid];exact hk),?_⟩,?_⟩
 · have hu:=nM (qq hK hQ)
   have hmore:=xF hu id (a:=b.can) (hS.kind.trans hx)
   rw [eP,eP,fC hA1 hau hQ,jI h0,oM rfl hA2 hau hQ' (by rw [hS.len];omega),hS.acts,hmore,Z3]
   show _++[(⟨⟨b.target,b.text,id,b.n⟩,_⟩:EntD)]=_
   rw [hS.target,hS.text,hS.num]
 · have:=E7 hS.right (hS.kind.trans hx)
   rw [hS.num] at this
   exact this
theorem pG {L:List Int} {I I2:List ItemD} (hK:KnR L I) (hK2:KnR L I2) {id:ByteArray} {c n m:ChainD} {kl kl' kl2:List KeyD} {k kk:KyD} {x b y u:ActD} {s3 s4 s5 s6:SlV} {l1 l2 l3:List ChainD} (hQ:QK L I id c kl) (h0:0<c.actsL.length) (hau:id∈authI I) (hS:SignD L I c n k x b)
  (hI2:addK L I (ofActI (b.re s3 s4))=I2) (hQ2:QK L I2 id n kl') (hT:SignD L I2 n m kk y u) (hQ3:QK L (addK L I2 (ofActI (u.re s5 s6))) id m kl2) (hA1:AllK L I l1) (hA2:AllK L I2 l2) (hA3:AllK L (addK L I2 (ofActI (u.re s5 s6))) l3)
  (hx:x.kind=23) (hy:y.kind=6) {z:ActD} (hz:n.actsL[c.actsL.length]?=some z) (ho:y.object=digV z):∀ k,entsV l3 k=entsV l1 k:=by
 have hid:=mx hQ
 have hid2:=mx hQ2
 intro k
 by_cases hk:k=id
 · subst hk
   have hu:=nM (qq hK hQ)
   have hau2:k∈authI I2:=by rw [←hI2];exact oL rfl hau
   have hown:idxV (c.actsL.map ActD.can++[b.can]) u.can.object=some c.actsL.length:=by
    show idxV _ u.object=_
    rw [←hS.acts,tY,hT.object,ho]
    exact (gD hK2 hQ2).own _ _ hz
   rw [eP,eP,fC hA1 hau hQ,jI h0,oM rfl hA3 hau2 hQ3 (by rw [hT.len];omega),hT.acts,hS.acts,rZ hu k (a:=b.can) (u:=u.can) (hS.kind.trans hx) (hT.kind.trans hy) (by rw [Z3];exact hown)]
 · subst hI2
   rw [m0 rfl hA2 hA3 (by show k≠u.author;rw [hT.author,hid2];exact hk),m0 rfl hA1 hA2 (by show k≠b.author;rw [hS.author,hid];exact hk)]
end Go.Proofs.YtoefdofbekihdaaGreatDoor
