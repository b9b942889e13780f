/- Joined by program out of: S5 S9 Rz Ws S0 S7 Yq Po. -/
import Derived.Test.YtoefdofbekihdaaGreatDoorW14
import Derived.Test.YtoefdofbekihdaaGreatDoorCards
import Derived.Test.YtoefdofbekihdaaGreatDoorTie
import Derived.WalkKit
import Derived.ProofKit
import Derived.Deep.DeepHandedRow
import Derived.Lib.LaidTab
set_option linter.unusedVariables false
set_option linter.unusedSimpArgs false
set_option maxHeartbeats 16000000
namespace Go.Proofs.YtoefdofbekihdaaGreatDoor
open Go Go.Proofs Sy
def repO (p:ByteArray) (o:Option (List ActD)):Bool:=match o with
 | some acts=>repA acts p acts.length
 | none=>false
theorem iU (l:List ActD) (p:ByteArray):∀ i,repA (l.map ActD.can) p i=repA l p i
 | 0=>rfl
 | i+1=>by
  rw [repA,repA,iU l p i,DH]
  rfl
theorem wI (l:List ActD) (p:ByteArray) {a:ActD} (h:repB p a=true):repO p (some (l++[a]))=true:=by
 show repA (l++[a]) p (l++[a]).length=true
 rw [ZX]
 show (repA (l++[a]) p l.length||repB p ((l++[a]).getD l.length ActD.zero))=true
 rw [AR,h,ZP]
theorem ro {p x:ByteArray} (l:List ChainD):∀ i,i≤l.length→(x∈repF l p i↔∃ j,j<i∧(l.getD j ChainD.zero).id=x∧repA (l.getD j ChainD.zero).actsL p (l.getD j ChainD.zero).actsL.length=true)
 | 0,_=>⟨fun h=>absurd h (by simp [repF]),fun ⟨j,h,_⟩=>absurd h (Nat.not_lt_zero _)⟩
 | i+1,h=>by
  have ih:=ro (p:=p) (x:=x) l i aa
  rw [repF]
  cases hb:repA (l.getD i ChainD.zero).actsL p (l.getD i ChainD.zero).actsL.length with
  | true =>
   rw [ZC,mem_sput,ih]
   constructor
   · rintro (rfl|⟨j,h1,h2,h3⟩)
     · exact ⟨i,by omega,rfl,hb⟩
     · exact ⟨j,by omega,h2,h3⟩
   · rintro ⟨j,h1,h2,h3⟩
     by_cases e:j=i
     · subst e;exact .inl h2.symm
     · exact .inr ⟨j,by omega,h2,h3⟩
  | false =>
   rw [ZB,ih]
   constructor
   · rintro ⟨j,h1,h2,h3⟩;exact ⟨j,by omega,h2,h3⟩
   · rintro ⟨j,h1,h2,h3⟩
     by_cases e:j=i
     · subst e;rw [hb] at h3;cases h3
     · exact ⟨j,by omega,h2,h3⟩
theorem lX {k:ByteArray}:∀ {ks:List ByteArray},ks.Nodup→(sput ks k).Nodup
 | [],_=>by simp [sput]
 | a::ks,h=>by
  obtain ⟨h1,h2⟩:=List.nodup_cons.1 h
  rw [sput]
  cases hk:KeyT.eqb k a with
  | true =>
   rw [ZC]
   have:=(KeyT.eqb_iff k a).1 hk
   subst this
   exact h
  | false =>
   rw [ZB]
   refine List.nodup_cons.2 ⟨fun hm=>?_,lX h2⟩
   rcases mem_sput.1 hm with rfl|hm
   · have:=(KeyT.eqb_iff a a).2 rfl
     rw [this] at hk
     cases hk
   · exact h1 hm
theorem sM (ks:List ByteArray) (k:ByteArray):(sput ks k).length≤ks.length+1:=by
 induction ks with
 | nil=>simp [sput]
 | cons a ks ih =>
  rw [sput]
  cases KeyT.eqb k a with
  | true=>simp
  | false=>simp only [ZB,ZY];omega
theorem dS (l:List ChainD) (p:ByteArray):∀ i,(repF l p i).Nodup
 | 0=>List.nodup_nil
 | i+1=>by
  rw [repF]
  cases repA (l.getD i ChainD.zero).actsL p (l.getD i ChainD.zero).actsL.length with
  | true=>exact lX (dS l p i)
  | false=>exact dS l p i
theorem qQ (l:List ChainD) (p:ByteArray):∀ i,(repF l p i).length≤i
 | 0=>Qq _
 | i+1=>by
  have ih:=qQ l p i
  rw [repF]
  cases repA (l.getD i ChainD.zero).actsL p (l.getD i ChainD.zero).actsL.length with
  | true=>rw [ZC];have:=sM (repF l p i) (l.getD i ChainD.zero).id;omega
  | false=>rw [ZB];omega
theorem mv {p x:ByteArray} (l:List ChainD):x∈repF l p l.length↔∃ c∈l,c.id=x∧repA c.actsL p c.actsL.length=true:=by
 rw [ro l l.length (Qq _)]
 constructor
 · rintro ⟨j,h1,h2,h3⟩
   refine ⟨_,?_,h2,h3⟩
   rw [ZL,Zm h1]
   exact Qh _
 · rintro ⟨c,hc,h2,h3⟩
   obtain ⟨j,hj⟩:=List.mem_iff_getElem?.1 hc
   obtain ⟨hlt,_⟩:=List.getElem?_eq_some_iff.1 hj
   refine ⟨j,hlt,?_⟩
   rw [ZL,hj]
   exact ⟨h2,h3⟩
def IdsOk (l:List ChainD):Prop:=∀ c∈l,findC l c.id=some c
theorem ii {p x:ByteArray} {l:List ChainD} (h:IdsOk l):x∈repF l p l.length↔repO p (viewC l x)=true:=by
 rw [mv]
 constructor
 · rintro ⟨c,hc,rfl,h3⟩
   rw [viewC,h c hc]
   show repA (c.actsL.map ActD.can) p (c.actsL.map ActD.can).length=true
   rw [Z3,iU]
   exact h3
 · intro hv
   rw [viewC] at hv
   cases hf:findC l x with
   | none=>rw [hf] at hv;cases hv
   | some c =>
    rw [hf] at hv
    have hf1:seqB c.id x=true:=List.find?_some (p:=fun c:ChainD=>seqB c.id x) hf
    refine ⟨c,List.mem_of_find?_eq_some hf,seqB_iff.1 hf1,?_⟩
    have hv:repA (c.actsL.map ActD.can) p (c.actsL.map ActD.can).length=true:=hv
    rw [Z3,iU] at hv
    exact hv
theorem zO {p:ByteArray} {l l':List ChainD} (h:∀ x,x∈repF l' p l'.length↔x∈repF l p l.length):reportsV l' p=reportsV l p:=by
 have e:(repF l' p l'.length).length=(repF l p l.length).length:=((List.perm_ext_iff_of_nodup (dS _ _ _) (dS _ _ _)).2 h).length_eq
 rw [reportsV,reportsV,e]
theorem qN (p:ByteArray) (l:List ChainD):reportsV l.reverse p=reportsV l p:=zO fun x=>by simp only [mv,List.mem_reverse]
theorem qP (p:ByteArray) (l:List ChainD):reportsV l p≤l.length:=by
 have:=qQ l p l.length
 rw [reportsV]
 cases seqB p ⟨#[]⟩ with
 | true=>exact Nat.zero_le _
 | false=>exact this
theorem gM (p:ByteArray) (c:ChainD) (hp:seqB p ⟨#[]⟩=false):reportsV [c] p=bif repA c.actsL p c.actsL.length then 1 else 0:=by
 rw [reportsV,hp]
 show (repF [c] p 1).length=_
 rw [repF]
 show (bif repA c.actsL p c.actsL.length then sput [] c.id else []).length=_
 cases repA c.actsL p c.actsL.length<;>rfl
theorem qO {p:ByteArray} {l:List ChainD} {c:ChainD} (hc:c∈l) (hp:seqB p ⟨#[]⟩=false):reportsV [c] p≤reportsV l p:=by
 rw [gM p c hp]
 cases hb:repA c.actsL p c.actsL.length with
 | false=>exact Nat.zero_le _
 | true =>
  rw [reportsV,hp]
  have:=(mv (p:=p) (x:=c.id) l).2 ⟨c,hc,rfl,hb⟩
  exact List.length_pos_of_mem this
theorem o9 {p id:ByteArray} {l l':List ChainD} (h:IdsOk l) (h':IdsOk l') (hp:seqB p ⟨#[]⟩=false) (hf:∀ x,x≠id→viewC l' x=viewC l x) {C:List ActD} {c:ChainD} (hc:c.actsL.map ActD.can=C) (ho:viewC l id=some C) {a:ActD} (ho':viewC l' id=some (C++[a])) (ha:repB p a=true) :
  reportsV l' p+reportsV [c] p=reportsV l p+1:=by
 rw [gM p c hp,reportsV,reportsV,hp]
 show (repF l' p l'.length).length+_=(repF l p l.length).length+1
 have hm:∀ x,x∈repF l' p l'.length↔x=id∨x∈repF l p l.length:=fun x=>by
  rw [ii h',ii h]
  by_cases e:x=id
  · subst e
    rw [ho',wI C p ha]
    exact ⟨fun _=>.inl rfl,fun _=>rfl⟩
  · rw [hf x e]
    exact ⟨.inr,fun h=>h.resolve_left e⟩
 have hown:repA c.actsL p c.actsL.length=repO p (viewC l id):=by
  rw [ho,←hc]
  show _=repA (c.actsL.map ActD.can) p (c.actsL.map ActD.can).length
  rw [Z3,iU]
 cases hb:repA c.actsL p c.actsL.length with
 | true =>
  have hin:id∈repF l p l.length:=by rw [ii h,←hown];exact hb
  have e:(repF l' p l'.length).length=(repF l p l.length).length:=((List.perm_ext_iff_of_nodup (dS _ _ _) (dS _ _ _)).2 fun x=>by
   rw [hm]
   exact ⟨fun h=>h.elim (fun h=>h▸hin) fun h=>h,.inr⟩).length_eq
  rw [e]
  rfl
 | false =>
  have hout:id∉repF l p l.length:=fun hin=>by rw [ii h,←hown,hb] at hin;cases hin
  have e:(repF l' p l'.length).length=(id::repF l p l.length).length:=((List.perm_ext_iff_of_nodup (dS _ _ _) (List.nodup_cons.2 ⟨hout,dS _ _ _⟩)).2 fun x=>by
   rw [hm,Z8]).length_eq
  rw [e]
  rfl
theorem rZ {L:List Int} {I:List ItemD} {l:List ChainD} (h:AllK L I l):IdsOk l:=by
 obtain ⟨M,hM,rfl⟩:=h
 have key:∀ {ids:List ByteArray} {M:List ChK},All2 (fun id p=>QK L I id p.1 p.2) ids M→ids.Nodup→(∀ c∈(M.filter neK).map Prod.fst,findC ((M.filter neK).map Prod.fst) c.id=some c)∧∀ c∈(M.filter neK).map Prod.fst,c.id∈ids:=by
  intro ids M h
  induction h with
  | nil=>exact fun _=>⟨fun c hc=>absurd hc (by simp),fun c hc=>absurd hc (by simp)⟩
  | @cons a p ids M hp _ ih =>
   intro hn
   obtain ⟨hn1,hn2⟩:=List.nodup_cons.1 hn
   obtain ⟨ih1,ih2⟩:=ih hn2
   have hpa:p.1.id=a:=nV hp
   rw [List.filter_cons]
   cases neK p with
   | false=>exact ⟨ih1,fun c hc=>ZS _ (ih2 c hc)⟩
   | true =>
    rw [Qf rfl,Qu]
    refine ⟨fun c hc=>?_,fun c hc=>?_⟩
    · rcases List.mem_cons.1 hc with rfl|hc
      · rw [findC,List.find?_cons,cV]
      · have hne:seqB p.1.id c.id=false:=by
         cases hb:seqB p.1.id c.id with
         | false=>rfl
         | true=>exact absurd (by rw [←hpa,seqB_iff.1 hb];exact ih2 c hc) hn1
        rw [findC,List.find?_cons,hne]
        exact ih1 c hc
    · rcases List.mem_cons.1 hc with rfl|hc
      · rw [hpa];exact ar
      · exact ZS _ (ih2 c hc)
 exact (key hM (jV I)).1
theorem EM {k:KyD} {c:ChainD} {x:ActD} (hx:x.Rng) (hc:c.acts.n≤1000):(sgA k c x).Rng :=
 qv ⟨⟨by show (c.acts.n:Int)<_;omega,hx.ints.2.1,by show (1:Int)<_;decide,hx.ints.2.2.2⟩,hx.wints,hx.to_len,hx.wraps_len⟩
theorem Fq {k:KyD} {c:ChainD} {x:ActD} (hs:x.Sm):(sgA k c x).Sm:=uA ⟨hs.to,hs.wraps,hs.target⟩
theorem zz {L:List Int} {I:List ItemD} (h:KnR L I) {au:ByteArray} {c n:ChainD} {kl kl':List KeyD} (q:QK L I au c kl) (h0:0<c.actsL.length) (hcn:c.acts.n=c.actsL.length) (hnn:n.acts.n=n.actsL.length) {k:KyD} {x:ActD} {s3 s4:SlV}
  (e3:s3.n=(sgA k c x).to.n) (e4:s4.n=(sgA k c x).wraps.n) (q':QK L (addK L I (ofActI ((sgA k c x).re s3 s4))) c.id n kl') (hl:(n.acts.n:Int)=(c.acts.n:Int)+1) :
  SignD L I c n k { x with time:=1 } (sgA k c x)∧QK L (addK L I (ofActI ((sgA k c x).re s3 s4))) au n kl':=by
 rw [nV q] at q'
 exact ⟨(sQ h q h0 hcn e3 e4 q' aa).1,q'⟩
theorem SignD.author {L:List Int} {I:List ItemD} {c n:ChainD} {k:KyD} {x b:ActD} (h:SignD L I c n k x b):b.author=c.id:=by rw [h.sig];rfl
theorem SignD.kind {L:List Int} {I:List ItemD} {c n:ChainD} {k:KyD} {x b:ActD} (h:SignD L I c n k x b):b.kind=x.kind:=by rw [h.sig];rfl
theorem SignD.object {L:List Int} {I:List ItemD} {c n:ChainD} {k:KyD} {x b:ActD} (h:SignD L I c n k x b):b.object=x.object:=by rw [h.sig];rfl
theorem SignD.target {L:List Int} {I:List ItemD} {c n:ChainD} {k:KyD} {x b:ActD} (h:SignD L I c n k x b):b.target=x.target:=by rw [h.sig];rfl
theorem SignD.text {L:List Int} {I:List ItemD} {c n:ChainD} {k:KyD} {x b:ActD} (h:SignD L I c n k x b):b.text=x.text:=by rw [h.sig];rfl
theorem SignD.num {L:List Int} {I:List ItemD} {c n:ChainD} {k:KyD} {x b:ActD} (h:SignD L I c n k x b):b.n=x.n:=by rw [h.sig];rfl
theorem wv (s r:SlV) (l m:List ByteArray):Pu Tryz.prog 22 #[s.v,r.v] (fun w=>Strs w s l∧Strs w r m) (.bool (eqL l m)):=by
 refine ak (args:=[_,_]) _ Tryz.func22 rfl Tryz.ntmps22 rfl fun av bor w0=>?_
 refine aO (p:=(s.n=l.length∧s.n≤maxLen∧(0<l.length→s.p.isSome=true))∧(r.n=m.length∧r.n≤maxLen∧(0<m.length→r.p.isSome=true))) (fun w h=>⟨⟨h.1.len_,Qr (RowsD.cap h.1) (RowsD.max h.1),h.1.some_⟩,⟨h.2.len_,Qr (RowsD.cap h.2) (RowsD.max h.2),h.2.some_⟩⟩) fun ⟨⟨hl,hm,hp⟩,⟨hl',hm',hp'⟩⟩=>?_
 simp only [maxLen] at hm hm'
 repeat' (first|refine gs ?_|(refine gp ?_ ?_<;>intro hx_ this)|fail)
 · apply ad;apply ag;rfl;rfl
   have:¬ l.length=m.length:=by
    have h1:¬ (s.n:Int)=(r.n:Int):=by simpa using hx_
    omega
   simp only [eqL,Zn this,ZG]
 have hlm:l.length=m.length:=by
  have h1:(s.n:Int)=(r.n:Int):=by simpa using hx_
  omega
 refine ap (ι:=Upto l.length (eqBad l m)) (fun i=>⟨[(0,s.v),(1,r.v),(5,.int .i64 i.k)],[],fun w=>Strs w s l∧Strs w r m⟩) (fun i=>l.length-i.k) (Upto.zero _ _) (aj (by repeat (first|exact trivial|refine ⟨rfl,?_⟩)) (al _) fun _ h=>h) fun i=>?_
 have hik:=i.hk
 repeat' (first|refine gs ?_|(refine gp ?_ ?_<;>intro hx_ this)|fail)
 · have hlt:i.k<l.length:=by omega
   have hlt':i.k<m.length:=by omega
   have hp1:=hp aa
   have hp2:=hp' aa
   (refine aR ⟨[0,1,2,3,4,5,6,7,8],[]⟩ (h:=?_))
   all_goals repeat' (first|refine gd ?_|refine ay (hy:=by first|(apply aB (q:=i.k);rfl;rfl;omega;omega;assumption;omega)|(apply eI;rfl;exact fun w h=>Strs.get h.1 hlt)|(apply eI;rfl;exact fun w h=>Strs.get h.2 hlt')) ?_|refine az ?_ (h':=?_)|exact aA|(refine gq ?_ ?_<;>intro hx_ this)|fail)
   repeat' (first|refine gs ?_|(refine gp ?_ ?_<;>intro hx_ this)|fail)
   · apply ad;apply ag;rfl;rfl
     rw [eqL,cH hlt (by assumption),ZH]
   · exact ⟨i.next hlt (by assumption),(by show l.length-(i.k+1)<l.length-i.k;omega),aj (by repeat (first|exact trivial|refine ⟨rfl,?_⟩)) (al _) fun _ h=>h⟩
 · apply ad;apply ag;rfl;rfl
   rw [eqL,i.all aa,ZA hlm]
   rfl
def lbP1:ActD:={ ActD.zero with kind:=17,target:=idB,text:=spamS }
def lbP2:ActD:={ ActD.zero with kind:=17,target:=idB,text:=botS }
def lbP3:ActD:={ ActD.zero with kind:=12,object:=xS }
def lbL:List ActD:=[lbP1,lbP2,lbP3]
def chainB (b:Nat):ChainD:=⟨idA,⟨some ⟨b,0,none⟩,3,3⟩,⟨none,0,0⟩,⟨#[]⟩,0,false,lbL⟩
def lb0:CntD:=⟨botS,1⟩
def lb1:CntD:=⟨spamS,1⟩
theorem kT {P:ActD→Prop} (h1:P lbP1) (h2:P lbP2) (h3:P lbP3):∀ a∈lbL,P a:=by
 intro a ha
 simp only [lbL,Z8,List.not_mem_nil,or_false] at ha
 rcases ha with rfl|rfl|rfl
 · exact h1
 · exact h2
 · exact h3
theorem Az:ActsOk lbL:=⟨kT ⟨by decide,fun w hw=>absurd hw (by show ¬ w∈[];simp),rfl,rfl⟩ ⟨by decide,fun w hw=>absurd hw (by show ¬ w∈[];simp),rfl,rfl⟩ ⟨by decide,fun w hw=>absurd hw (by show ¬ w∈[];simp),rfl,rfl⟩,
 kT ⟨by decide,by decide,by decide⟩ ⟨by decide,by decide,by decide⟩ ⟨by decide,by decide,by decide⟩⟩
theorem rv:∀ a∈lbL,a.text.size≤1000000:=kT (by decide) (by decide) (by decide)
theorem ow {b:Nat} {w:World} (hc:(cel b 50 (lbL.map ActD.cells).flatten).F w):(chainB b).at_ w :=
 ⟨aJ hc rfl (by decide) (ft lbL),kT ⟨bp w 1,bp w 5⟩ ⟨bp w 1,bp w 5⟩ ⟨bp w 1,bp w 5⟩⟩
theorem chainsB {b b2:Nat} {w:World} (hc:(cel b 50 (lbL.map ActD.cells).flatten).F w) (h2:(cel b2 36 (chainB b).cells).F w):Chains w ⟨some ⟨b2,0,none⟩,1,1⟩ [chainB b] :=
 ⟨aJ (xs:=[(chainB b).cells]) h2 rfl (by decide) (by intro r hr;rw [List.mem_singleton.1 hr];rfl),fun c h=>by rw [List.mem_singleton.1 h];exact ow hc⟩
theorem chainsB2 {b b2:Nat} {w:World} (hc:(cel b 50 (lbL.map ActD.cells).flatten).F w) (h2:(cel b2 36 ((chainB b).cells++(chainB b).cells)).F w):Chains w ⟨some ⟨b2,0,none⟩,2,2⟩ [chainB b,chainB b] :=
 ⟨aJ (xs:=[(chainB b).cells,(chainB b).cells]) h2 rfl (by decide) (by intro r hr;simp only [Z8,List.not_mem_nil,or_false,or_self] at hr;rw [hr];rfl),fun c h=>by simp only [Z8,List.not_mem_nil,or_false,or_self] at h;rw [h];exact ow hc⟩
theorem mem1 {α:Type} {P:α→Prop} {a:α} (h:P a):∀ x∈[a],P x:=fun x hx=>by rw [List.mem_singleton.1 hx];exact h
theorem asc2:Asc [botS,spamS]:=List.Pairwise.cons (fun b hb=>by rw [List.mem_singleton.1 hb];kernel_rfl) (List.pairwise_singleton _ _)
theorem nC (b:Nat):validV [chainB b] idA idB=[botS,spamS]:=by
 have h:validV [chainB b] idA idB=compB (sortB [spamS,botS]):=by kernel_rfl
 rw [h]
 refine mR asc2 fun x=>?_
 simp only [Z8,List.not_mem_nil,or_false]
 exact or_comm
theorem DG (b:Nat):cntV [chainB b] [idA,idA] idB=[lb0,lb1]:=by
 have h1:cntFL [chainB b] idB [idA,idA] 2=([idA],(validV [chainB b] idA idB).foldl cntStep []):=by kernel_rfl
 rw [nC] at h1
 have h2:[botS,spamS].foldl cntStep []=[(botS,1),(spamS,1)]:=by kernel_rfl
 rw [h2] at h1
 have h3:sortB [botS,spamS]=[botS,spamS]:=(xC asc2.nodup).ext asc2 fun x=>mem_sortB
 have h4:cntV [chainB b] [idA,idA] idB=(sortB ((cntFL [chainB b] idB [idA,idA] 2).2.map (·.1))).map fun a=>⟨a,(mget (cntFL [chainB b] idB [idA,idA] 2).2 a).getD 0⟩:=rfl
 rw [h4,h1]
 show (sortB [botS,spamS]).map _=_
 rw [h3]
 kernel_rfl
set_option maxHeartbeats 1000000 in
theorem sO:Pu Tryz.prog 17 #[] Glob (.bool true):=by
 refine ak (args:=[]) _ Tryz.func17 rfl Tryz.ntmps17 rfl fun av bor w0=>?_
 repeat' (first|refine aC (cs:=lbP1.cells) (hf:=by rfl) ?_|refine aC (cs:=lbP2.cells) (hf:=by rfl) ?_|refine aC (cs:=lbP3.cells) (hf:=by rfl) ?_|(refine cF (size:=20) (vs:=[.agg lbP1.cells.toArray,.agg lbP2.cells.toArray,.agg lbP3.cells.toArray]) (css:=(lbL.map ActD.cells).flatten) (hsz:=by rfl) (hcs:=by rfl) fun bR=>?_;refine aX ?_)|refine aC (cs:=(chainB bR).cells) (hf:=by rfl) ?_|(refine cF (size:=6) (vs:=[(chainB bR).v]) (css:=(chainB bR).cells) (hsz:=by rfl) (hcs:=by rfl) fun bC=>?_;refine aX ?_)|(refine dt (len:=2) (vs:=[encB idA,encB idA]) fun bK=>?_;refine aX ?_)|refine gs ?_|refine gs1 fun _=>?_|(refine gp ?_ ?_<;>intro hx_ this)|fail)
 have ho:=rQ ⟨some ⟨bC,0,none⟩,1,1⟩ [chainB bR] ⟨some ⟨bK,0,none⟩,2,2⟩ [idA,idA] idB (mem1 Az) (fun c h=>by rw [List.mem_singleton.1 h];show (3:Nat)≤1000;decide) (mem1 rv) (by decide)
 rw [DG] at ho
 refine cP (hc:=ho) (hX:=fun w h=>⟨chainsB h.1.1.2 h.1.2,gF (l:=[idA,idA]) h.2 (by decide),h.1.1.1⟩) fun v4 X4 h4=>?_
 obtain ⟨s4,rfl,hs4⟩:=h4
 have hv0:=lk ⟨none,0,0⟩ [] idA idB (fun c h=>by cases h) (fun c h=>by cases h) (fun c h=>by cases h)
 rw [show validV [] idA idB=[] from by kernel_rfl] at hv0
 have hv1:∀ b:Nat,Mk Tryz.prog 19 #[(⟨some ⟨b,0,none⟩,1,1⟩:SlV).v,.string idA,.string idB] (fun w=>Chains w ⟨some ⟨b,0,none⟩,1,1⟩ [chainB bR]∧Glob w) (StrsAt [botS,spamS]):=fun b=>by
  have h:=lk ⟨some ⟨b,0,none⟩,1,1⟩ [chainB bR] idA idB (mem1 Az) (fun c h=>by rw [List.mem_singleton.1 h];show (3:Nat)≤1000000;decide) (mem1 rv)
  rw [nC] at h
  exact h
 have ho0:∀ b:Nat,Mk Tryz.prog 40 #[(⟨none,0,0⟩:SlV).v,(⟨some ⟨b,0,none⟩,1,1⟩:SlV).v,.string idB] (fun w=>Chains w ⟨none,0,0⟩ []∧Strs w ⟨some ⟨b,0,none⟩,1,1⟩ [idA]∧Glob w) (fun u X=>∃ S:SlV,u=S.v∧∀ w,X w→Cnts w S []):=fun b=>by
  have h:=rQ ⟨none,0,0⟩ [] ⟨some ⟨b,0,none⟩,1,1⟩ [idA] idB (fun c h=>by cases h) (fun c h=>by cases h) (fun c h=>by cases h) (by decide)
  rw [show cntV [] [idA] idB=[] from by kernel_rfl] at h
  exact h
 have hr0:Pu Tryz.prog 23 #[(⟨none,0,0⟩:SlV).v,.string xS] (fun w=>Chains w ⟨none,0,0⟩ []) (.int .i64 0):=by
  have h:=ei ⟨none,0,0⟩ [] xS (fun c h=>by cases h)
  rw [show reportsV [] xS=0 from by kernel_rfl] at h
  exact h
 have hr1:∀ b:Nat,Pu Tryz.prog 23 #[(⟨some ⟨b,0,none⟩,2,2⟩:SlV).v,.string xS] (fun w=>Chains w ⟨some ⟨b,0,none⟩,2,2⟩ [chainB bR,chainB bR]) (.int .i64 1):=fun b=>by
  have h:=ei ⟨some ⟨b,0,none⟩,2,2⟩ [chainB bR,chainB bR] xS (fun c h=>by simp only [Z8,List.not_mem_nil,or_false,or_self] at h;rw [h];show 3≤1000000;decide)
  rw [show reportsV [chainB bR,chainB bR] xS=1 from by kernel_rfl] at h
  exact h
 have hr2:∀ b:Nat,Pu Tryz.prog 23 #[(⟨some ⟨b,0,none⟩,1,1⟩:SlV).v,.string ⟨#[]⟩] (fun w=>Chains w ⟨some ⟨b,0,none⟩,1,1⟩ [chainB bR]) (.int .i64 0):=fun b=>by
  have h:=ei ⟨some ⟨b,0,none⟩,1,1⟩ [chainB bR] ⟨#[]⟩ (fun c h=>by rw [List.mem_singleton.1 h];show (3:Nat)≤1000000;decide)
  rw [show reportsV [chainB bR] ⟨#[]⟩=0 from by kernel_rfl] at h
  exact h
 have hs21:∀ r q:SlV,Pu Tryz.prog 22 #[r.v,q.v] (fun w=>Strs w r [botS,spamS]∧Strs w q [botS,spamS]) (.bool true):=fun r q=>by
  have h:=wv r q [botS,spamS] [botS,spamS]
  rw [AZ] at h
  exact h
 have hs34:∀ r q:SlV,Pu Tryz.prog 41 #[r.v,q.v] (fun w=>Cnts w r [lb0,lb1]∧Cnts w q [lb0,lb1]) (.bool true):=fun r q=>by
  have h:=wu r q [lb0,lb1] [lb0,lb1]
  rw [xp] at h
  exact h
 refine cE (X':=fun w=>Glob w∧(cel bR 50 (lbL.map ActD.cells).flatten).F w∧Cnts w s4 [lb0,lb1]) (fun w h=>⟨h.1.1.1.1,h.1.1.1.2,hs4 w h.2⟩) ?_
 repeat' (first|refine aE (hab:=by omega) ?_|(refine dt (len:=1) (vs:=[encB idA]) fun bK1=>?_;refine aX ?_)|(refine cF (size:=6) (vs:=[(chainB bR).v]) (css:=(chainB bR).cells) (hsz:=by rfl) (hcs:=by rfl) fun bD=>?_;refine aX ?_)|(refine dt (len:=2) (vs:=[encB botS,encB spamS]) fun bS=>?_;refine aX ?_)|refine aC (cs:=lb0.cells) (hf:=by rfl) ?_|refine aC (cs:=lb1.cells) (hf:=by rfl) ?_|(refine cF (size:=2) (vs:=[.agg lb0.cells.toArray,.agg lb1.cells.toArray]) (css:=([lb0,lb1].map CntD.cells).flatten) (hsz:=by rfl) (hcs:=by rfl) fun bQ=>?_;refine aX ?_)|(refine cF (size:=6) (vs:=[(chainB bR).v,(chainB bR).v]) (css:=(chainB bR).cells++(chainB bR).cells) (hsz:=by rfl) (hcs:=by rfl) fun bE=>?_;refine aX ?_)|(refine cP (hc:=hv0) (hX:=fun w h=>⟨chainsNil w,h.1⟩) fun v5 X5 h5=>?_;obtain ⟨s5,rfl,hs5⟩:=h5;refine f0 (p:=(s5.n:Int)=0) (fun w h=>by have:=(hs5 w h.2).len_;rw [this];rfl) fun hn5=>?_)|(refine cP (hc:=ho0 bK1) (hX:=fun w h=>⟨chainsNil w,gF (l:=[idA]) h.2 (by decide),h.1.1.1⟩) fun v6 X6 h6=>?_;obtain ⟨s6,rfl,hs6⟩:=h6;refine f0 (p:=(s6.n:Int)=0) (fun w h=>by have:=(Cnts.know w (hs6 w h.2)).1;rw [this];rfl) fun hn6=>?_)|(refine ab (hc:=hr0) (hX:=fun w h=>chainsNil w) ?_)|(refine cP (hc:=hv1 bD) (hX:=fun w h=>⟨chainsB h.1.1.1.1.2.1 h.2,h.1.1.1.1.1⟩) fun v7 X7 h7=>?_;obtain ⟨s7,rfl,hs7⟩:=h7)|(refine ab (hc:=hs21 s7 ⟨some ⟨bS,0,none⟩,2,2⟩) (hX:=fun w h=>⟨hs7 w h.1.2,gF (l:=[botS,spamS]) h.2 (by decide)⟩) ?_)|(refine ab (hc:=hs34 s4 ⟨some ⟨bQ,0,none⟩,2,2⟩) (hX:=fun w h=>⟨h.1.1.1.1.1.1.1.2.2,aJ (xs:=[lb0.cells,lb1.cells]) h.2 rfl (by decide) (by intro r hr;simp only [Z8,List.not_mem_nil,or_false] at hr;rcases hr with rfl|rfl<;>rfl)⟩) ?_)|(refine ab (hc:=hr1 bE) (hX:=fun w h=>chainsB2 h.1.1.1.1.1.1.1.1.2.1 h.2) ?_)|(refine ab (hc:=hr2 bD) (hX:=fun w h=>chainsB h.1.1.1.1.1.1.1.1.1.2.1 h.2) ?_)|refine gs ?_|refine gs1 fun _=>?_|(refine gp ?_ ?_<;>intro hx_ this)|fail)
 apply ad;apply ag;rfl;rfl
 rfl
theorem zx {a:ActD} (hr:a.Rng) (h:rightB a=true) (ht:a.target.size≤maxLen):a.Sm:=by
 simp only [rightB,ZM] at h
 have hB:=kB hr h.2
 have h1:=hB.to.len
 have h2:=hB.wraps.len
 have h3:=hr.to_len
 have h4:=hr.wraps_len
 exact ⟨by omega,by omega,ht⟩
theorem xK {a:ActD} (h:actZ a=true):a.to.n=0∧a.wraps.n=0:=by
 simp only [actZ,ZM,ZT] at h
 omega
theorem Cj {i:ItemD} (hs:i.Str) (h:rightIt i=true):i.act.Sm:=by
 rw [rightIt,ZM] at h
 obtain ⟨h1,h2⟩:=h
 have ht:=hs.act.target
 by_cases h0:i.kind=0
 · rw [rightK2,ZA h0,ZC] at h1
   exact zx hs.rng h1 ht
 · have hz:actZ i.act=true:=by
    rw [rightK2,Zn h0,ZB] at h1
    rw [restI,Zn h0,ZB] at h2
    by_cases k1:i.kind=1
    · rw [ZA k1,ZC,sameIZ,ZM,ZM] at h2
      exact h2.2.1
    · rw [Zn k1,ZB] at h1 h2
      by_cases k2:i.kind=2
      · rw [ZA k2,ZC,sameIZ,ZM,ZM] at h2
        exact h2.2.1
      · rw [Zn k2,ZB] at h1 h2
        by_cases k3:i.kind=3
        · rw [ZA k3,ZC,sameIZ,ZM,ZM] at h2
          exact h2.2.1
        · rw [Zn k3,ZB] at h1
          cases h1
   obtain ⟨e1,e2⟩:=xK hz
   exact ⟨by omega,by omega,ht⟩
theorem xb {L:List Int} {I:List ItemD} (h:rightKn L I=true) (hl:I.length≤100) (hs:∀ i∈I,i.Str) (hd:∀ i∈I,i.dec.to.n=i.dec.toL.length):KnR L I :=
 ET h hl (fun i hi=>(hs i hi).rng) (fun i hi=>Cj (hs i hi) (by
  have h1:=gL h i hi
  rw [signedIt,ZM] at h1
  exact h1.1)) hd
theorem chainsOne {b:Nat} {w:World} {c:ChainD} (hc:c.at_ w) (h2:(cel b 36 c.cells).F w):Chains w ⟨some ⟨b,0,none⟩,1,1⟩ [c] :=
 ⟨aJ (xs:=[c.cells]) h2 rfl (by decide) (by intro r hr;rw [List.mem_singleton.1 hr];rfl),fun x h=>by rw [List.mem_singleton.1 h];exact hc⟩
def repX (post:ByteArray):ActD:={ ActD.zero with kind:=12,object:=post }
theorem CK (w:World) (p:ByteArray):(repX p).at_ w:=⟨bp w 1,bp w 5⟩
structure RevI (l:List ChainD) where
 k:Nat
 hk:k≤l.length
 A:Option Addr
 c:Nat
 xs:List Value
 hxs:xs=((l.reverse.take k).map ChainD.cells).flatten
theorem CJ {l:List ChainD} {k:Nat} {x:ChainD} (hk:k<l.length) (hx:l[l.length-1-k]?=some x):((l.reverse.take (k+1)).map ChainD.cells).flatten=((l.reverse.take k).map ChainD.cells).flatten++x.cells:=by
 have h:l.reverse[k]?=some x:=by rw [List.getElem?_reverse hk];exact hx
 rw [List.take_add_one,h]
 simp
set_option maxRecDepth 20000 in
set_option maxHeartbeats 16000000 in
theorem kJ (ks ki:SlV) (L:List Int) (I:List ItemD) (hs:∀ i∈I,i.Str) (hd:∀ i∈I,i.dec.to.n=i.dec.toL.length) (id:ByteArray) (k:KyD) (post:ByteArray) :
  Pu Tryz.prog 5 #[.agg #[ks.v,ki.v],.string id,k.v,.string post] (fun w=>(Ints w ks L∧Items w ki I)∧Glob w) (.bool true):=by
 have hsm:=sO
 have hrt:=pc ks ki L I hs hd
 refine ak (args:=[_,_,_,_]) _ Tryz.func5 rfl Tryz.ntmps5 rfl fun av bor w0=>?_
 refine aO (p:=ki.n=I.length) (fun w h=>h.1.2.len_) fun hkin=>?_
 by_cases hbig:30<(ki.n:Int)∨¬ (post.size:Int)=32
 · cases hR:rightKn L I
   all_goals
    rw [hR] at hrt
    repeat' (first|(refine ab (hc:=hsm) (hX:=fun w h=>h.2) ?_)|(refine ab (hc:=hrt) (hX:=fun w h=>h.1) ?_)|refine gs ?_|refine gs1 fun _=>?_|(refine aw ?_)|(refine gp ?_ ?_<;>intro hx_ this)|fail)
    all_goals first
     | exact ad (ag rfl rfl) rfl
     | (exfalso;omega)
     | (exfalso;rw [Bool.not_eq_false',ZT] at hx_;omega)
 have hpz:seqB post ⟨#[]⟩=false:=by
  cases hb:seqB post ⟨#[]⟩ with
  | false=>rfl
  | true =>
   have:=seqB_iff.1 hb
   subst this
   exact absurd (show ((⟨#[]⟩:ByteArray).size:Int)=0 from rfl) aa
 cases hR:rightKn L I with
 | false =>
  rw [hR] at hrt
  repeat' (first|refine ia (hab:=by omega) ?_|refine ai (dM false rfl rfl (by rw [ZA (by omega)];rfl)) rfl am rfl ?_|(refine ab (hc:=hsm) (hX:=fun w h=>h.2) ?_)|(refine ab (hc:=hrt) (hX:=fun w h=>h.1) ?_)|refine gs ?_|refine gs1 fun _=>?_|(refine aw ?_)|(refine gp ?_ ?_<;>intro hx_ this)|fail)
  all_goals first
   | exact ad (ag rfl rfl) rfl
 | true =>
  rw [hR] at hrt
  have hK:=xb hR aa hs hd
  repeat' (first|refine ia (hab:=by omega) ?_|refine ai (dM false rfl rfl (by rw [ZA (by omega)];rfl)) rfl am rfl ?_|(refine ab (hc:=hsm) (hX:=fun w h=>h.2) ?_)|(refine ab (hc:=hrt) (hX:=fun w h=>h.1) ?_)|(refine cP (hc:=vl ks ki hK) (hX:=fun w h=>h) fun v X1 h1=>?_;obtain ⟨s1,l1,hA1,rfl,hw1⟩:=h1)|refine gs ?_|refine gs1 fun _=>?_|(refine aw ?_)|(refine gp ?_ ?_<;>intro hx_ this)|fail)
  rename_i b4 b6
  have hfi:=u7 s1 l1 id
  have hfe:=AW s1 l1
  cases hfc:findC l1 id with
  | none =>
   rw [hfc] at hfi
   replace hfi:Pu Tryz.prog 9 #[s1.v,.string id] (fun w=>Chains w s1 l1) (.tuple #[ChainD.zero.v,.bool false]):=hfi
   cases hfB:fewV l1
   all_goals
    rw [hfB] at hfe
    repeat' (first|(refine ab (hc:=hfi) (hX:=fun w h=>hw1 w h.2) ?_)|(refine ab (hc:=hfe) (hX:=fun w h=>hw1 w h.2) ?_)|refine gs ?_|refine gs1 fun _=>?_|(refine aw ?_)|(refine gp ?_ ?_<;>intro hx_ this)|fail)
    all_goals first
     | exact ad (ag rfl rfl) rfl
  | some c =>
   rw [hfc] at hfi
   replace hfi:Pu Tryz.prog 9 #[s1.v,.string id] (fun w=>Chains w s1 l1) (.tuple #[c.v,.bool true]):=hfi
   cases hfB:fewV l1 with
   | false =>
    rw [hfB] at hfe
    repeat' (first|(refine ab (hc:=hfi) (hX:=fun w h=>hw1 w h.2) ?_)|(refine ab (hc:=hfe) (hX:=fun w h=>hw1 w h.2) ?_)|refine gs ?_|refine gs1 fun _=>?_|(refine aw ?_)|(refine gp ?_ ?_<;>intro hx_ this)|fail)
    all_goals first
     | exact ad (ag rfl rfl) rfl
   | true =>
    rw [hfB] at hfe
    obtain ⟨kl,hQ,h0,hau⟩:=xE hA1 hfc
    have hok1:=vm hK hA1
    have G:=kU hK hQ
    have hcm:=List.mem_of_find?_eq_some hfc
    have hrn:=ei s1 l1 post (fun c hc=>Qr (hok1 c hc).2 (by decide))
    have hro:=fun b:Nat=>ei ⟨some ⟨b,0,none⟩,1,1⟩ [c] post (fun x hx=>by rw [List.mem_singleton.1 hx];exact Qr G.len (by decide))
    have hle:=qO hcm hpz
    have hlm:=qP post l1
    have hrv:=qN post l1
    have ho1:=gM post c hpz
    generalize hN:reportsV l1 post=N at *
    generalize hO:reportsV [c] post=O at *
    have hO1:O≤1:=by rw [ho1];cases repA c.actsL post c.actsL.length<;>decide
    refine f0 (p:=c.acts.n=c.actsL.length∧s1.n=l1.length∧s1.n≤maxLen∧(0<l1.length→s1.p.isSome=true)) (fun w h=>⟨((hw1 w h.2).2 c hcm).len_,(hw1 w h.2).len_,(hw1 w h.2).max_,(hw1 w h.2).some_⟩) fun ⟨hcn,hs1n,hs1m,hs1p⟩=>?_
    simp only [maxLen] at hs1m
    refine fo 36 6 ?_
    repeat' (first|(refine ab (hc:=hfi) (hX:=fun w h=>hw1 w h.2) ?_)|(refine ab (hc:=hfe) (hX:=fun w h=>hw1 w h.2) ?_)|(refine ab (hc:=hrn) (hX:=fun w h=>hw1 w h.2) ?_)|refine gs ?_|refine gs1 fun _=>?_|(refine aw ?_)|(refine cF (size:=6) (vs:=[c.v]) (css:=c.cells) (hsz:=by rfl) (hcs:=by rfl) fun _=>?_;refine aX ?_;refine bo ?_;refine ab (hc:=hro _) (hX:=fun w h=>chainsOne ((hw1 w h.1.2).2 c hcm) h.2) ?_)|(refine gp ?_ ?_<;>intro hx_ this)|fail)
    rename_i b11 bs
    have hl6:=(Fa (fun c hc a ha=>⟨(hok1 c hc).1.rng a ha,((hok1 c hc).1.sm a ha).target⟩) hfB).1
    refine ap (ι:=RevI l1) (fun i=>⟨[(3,.string post),(9,.bool true),(10,s1.v),(13,.int .i64 (N:Nat)),(14,.int .i64 (O:Nat)),(4,.pointer (some ⟨b4,0,none⟩)),(6,.pointer (some ⟨b6,0,none⟩)),(11,.pointer (some ⟨b11,0,none⟩)),(15,.slice i.A i.k i.c),(16,.int .i64 ((s1.n:Int)-1-(i.k:Nat)))],[cel b11 36 c.cells,orow 36 6 (.slice i.A i.k i.c) i.k i.xs,cel b6 27 k.v.cells.toList,cel b4 25 [ks.v,ki.v]],fun w=>((Ints w ks L∧Items w ki I)∧Glob w)∧Chains w s1 l1⟩) (fun i=>l1.length-i.k) ⟨0,Nat.zero_le _,none,0,[],rfl⟩
     (aj ⟨rfl,rfl,rfl,rfl,rfl,rfl,rfl,rfl,rfl,by show some (Value.int .i64 ((s1.n:Int)-1))=some (Value.int .i64 ((s1.n:Int)-1-((0:Nat):Int)));congr 2;omega,trivial⟩ (al _) fun w h=>⟨h.1.1,hw1 w h.1.2⟩) fun i=>?_
    obtain ⟨kk,hkk,A,cp,xs,hxs⟩:=i
    simp only
    by_cases hlt:kk<l1.length
    · have hs1p':=hs1p aa
      obtain ⟨x,hx⟩:∃ x,l1[l1.length-1-kk]?=some x:=⟨_,Zm aa⟩
      repeat' (first|refine ai (ir true rfl rfl (ZA aa)) rfl am rfl ?_|refine aI (q:=(l1.length-1-kk)*6) ?_|refine bN (cs:=x.cells) (hF:=fun w h=>Chains.get h.2 hx) ?_|(refine aH (size:=6) (m:=kk) (news:=x.cells) (q:=1) rfl rfl rfl rfl (fun _=>At.there _ (At.there _ (At.here _))) (fun w G=>bP G ar rfl rfl 1) aa (by simp only [maxLen];omega) rfl ?_ rfl ?_;(first|with_reducible rfl|with_reducible assumption|with_reducible exact ZI|with_reducible exact ZK);intro A2 c2)|refine gs ?_|refine gs1 fun _=>?_|(refine cF (size:=6) (vs:=[x.v]) (css:=x.cells) (hsz:=by rfl) (hcs:=by rfl) fun _=>?_)|(refine gp ?_ ?_<;>intro hx_ this)|fail)
      all_goals first
       | exact ⟨(⟨kk+1,hlt,A2,c2,xs++x.cells,by rw [CJ hlt hx,hxs]⟩:RevI l1),(by show l1.length-(kk+1)<l1.length-kk;omega),aj ⟨rfl,rfl,rfl,rfl,rfl,rfl,rfl,rfl,rfl,by show some (Value.int .i64 ((s1.n:Int)-1-((kk:Nat):Int)-1))=some (Value.int .i64 ((s1.n:Int)-1-((kk+1:Nat):Int)));congr 2;omega,trivial⟩ (.cons _ (al _)) fun _ h=>h⟩
    · have hke:kk=l1.length:=by omega
      have hcb:∀ w,Chains w s1 l1→(orow 36 6 (.slice A kk cp) kk xs).F w→Chains w ⟨A,kk,cp⟩ l1.reverse:=fun w h1 h2=>by
       rw [hxs,hke,List.take_of_length_le (by simp)] at h2
       rw [hke]
       exact ⟨bw h2 (by simp) (fun r hr=>by obtain ⟨c,_,rfl⟩:=List.mem_map.1 hr;rfl),fun c hc=>h1.2 c (List.mem_reverse.1 hc)⟩
      have hrb:=ei ⟨A,kk,cp⟩ l1.reverse post (fun c hc=>Qr (hok1 c (List.mem_reverse.1 hc)).2 (by decide))
      rw [hrv] at hrb
      have hxR:(repX post).Rng:=⟨by simp only [repX,ActD.zero];omega,fun w hw=>(List.not_mem_nil hw).elim,rfl,rfl⟩
      have hxS:(repX post).Sm:=⟨by show 0*16≤_;decide,by show 0*64≤_;decide,by show (0:Nat)≤_;decide⟩
      have hG1:=G.len
      repeat' (first|refine ai (ir false rfl rfl (Zn aa)) rfl am rfl ?_|refine sF (hab:=by omega) ?_|refine ia (hab:=by omega) ?_|refine ai (dM false rfl rfl (by rw [ZA rfl];rfl)) rfl am rfl ?_|(refine cP (hc:=ql ks ki hK aa c aa k (repX post) hxR hxS) (hX:=fun w h=>⟨⟨⟨h.1.1.1,h.1.2.2 c hcm⟩,CK w _⟩,h.1.1.2⟩) fun v X3 h3=>?_;obtain ⟨s3,s4,s5,n,kl',e3,e4,hQ',rfl,hw3⟩:=h3)|refine gs ?_|refine gs1 fun _=>?_|(refine da (List.Perm.swap _ _ _) ?_;refine aX ?_;refine ab (hc:=hrb) (hX:=fun w h=>hcb w h.1.2 h.2) ?_)|(refine aw ?_)|(refine aC (cs:=(repX post).cells) (hf:=by rfl) ?_)|(refine gp ?_ ?_<;>intro hx_ this)|fail)
      · exact ad (ag rfl rfl) rfl
      have hone:(n.acts.n:Int)=(c.acts.n:Int)+1:=by
       cases hdd:decide ((n.acts.n:Int)=(c.acts.n:Int)+1) with
       | true=>exact aP hdd
       | false=>rw [hdd] at hx_;exact absurd hx_ (by decide)
      refine f0 (p:=n.acts.n=n.actsL.length) (fun w h=>(hw3 w ⟨h.1.1.1.1.2,h.2⟩).2.len_) fun hnn=>?_
      obtain ⟨hS,hQ2⟩:=zz hK hQ h0 hcn hnn e3 e4 hQ' hone
      have hK2:=rx hK (it:=ofActI ((sgA k c (repX post)).re s3 s4)) (kQ (EM (k:=k) (c:=c) hxR aa) e3 e4) (sP (Fq (k:=k) (c:=c) hxS) e3 e4) rfl aa
      have hfin:∀ l2,AllK L (addK L I (ofActI ((sgA k c (repX post)).re s3 s4))) l2→reportsV l2 post+O=N+1:=fun l2 hA2=>by
       have h:=o9 (id:=id) (p:=post) (rZ hA1) (rZ hA2) hpz (fun x hx=>Bv rfl hA1 hA2 (by show x≠(sgA k c (repX post)).author;rw [hS.author,nV hQ];exact hx)) (c:=c) rfl (by rw [fV hA1 hau hQ,nA h0]) (a:=(sgA k c (repX post)).can) (by rw [xD rfl hA2 hau hQ2 (by rw [hS.len];omega),hS.acts]) (by
        show (decide ((sgA k c (repX post)).kind=12)&&seqB (sgA k c (repX post)).object post)=true
        rw [hS.kind,hS.object,ZA (show (repX post).kind=12 from rfl)]
        exact cV post)
       rw [hN,hO] at h
       exact h
      repeat' (first|(refine cP (hc:=vl ks s5 hK2) (hX:=fun w h=>⟨⟨h.1.1.1.1.1,(hw3 w ⟨h.1.1.1.1.2,h.2⟩).1⟩,h.1.1.1.2⟩) fun v X4 h4=>?_;obtain ⟨s6,l2,hA2,rfl,hw4⟩:=h4)|refine gs ?_|refine gs1 fun _=>?_|(refine gp ?_ ?_<;>intro hx_ this)|fail)
      have hr2:=ei s6 l2 post (fun c hc=>Qr (vm hK2 hA2 c hc).2 (by decide))
      have hf:=hfin l2 hA2
      generalize reportsV l2 post=R2 at *
      repeat' (first|refine aE (hab:=by omega) ?_|(refine ab (hc:=hr2) (hX:=fun w h=>hw4 w h.2) ?_)|refine gs ?_|refine gs1 fun _=>?_|(refine gp ?_ ?_<;>intro hx_ this)|fail)
      all_goals first
       | exact ad (ag rfl rfl) rfl
end Go.Proofs.YtoefdofbekihdaaGreatDoor
set_option maxHeartbeats 16000000
namespace Go.Proofs.YtoefdofbekihdaaGreatDoor
open Go Go.Proofs Sy Go.RowKit Go.Deep Go.ChangeShapes
section
variable {H:Type} {enc:TypeId×Value→H} {P:Program} {w:World} {base:Nat} {spare:Nat→Bool} {held:Bool}
theorem zW {fuel:Nat} {cs:List Value} {x:DataW H×List MemPlace} (h:DataW.trod enc Tryz.prog w base spare held fuel 27 cs=some x):∃ k:KyD,cs=k.cells:=by
 have hl:=fJ Tryz.underlying27 (k:=2) ae h
 obtain ⟨n0,y0,h0⟩:=aK (i:=0) (off:=0) (k:=1) (t':=3) Tryz.underlying27 h rfl rfl rfl ae
 obtain ⟨n1,y1,h1⟩:=aK (i:=1) (off:=1) (k:=1) (t':=3) Tryz.underlying27 h rfl rfl rfl ae
 match cs,hl with
 | [c0,c1],_ =>
  obtain ⟨s0,e0,b0⟩:=aY h0
  obtain ⟨s1,e1,b1⟩:=aY h1
  simp at e0 e1
  exact ⟨⟨s0,s1⟩,by rw [e0,e1];rfl⟩
end
end Go.Proofs.YtoefdofbekihdaaGreatDoor
set_option maxHeartbeats 16000000
namespace Go.Proofs.YtoefdofbekihdaaGreatDoor
open Go Go.Proofs Sy Go.RowKit Go.Deep Go.ChangeShapes Go.WideShapes
theorem laidOut:laidOutB Tryz.prog=true:=by kernel_rfl
theorem im {H:Type} {enc:TypeId×Value→H} {P:Program} (hl:laidOutB P=true) {W W':World} {sp:Nat→Bool}:∀ (ts:List TypeId) (vs:List Value) (ds:List (DataW H)) (ps:List MemPlace),(∀ t∈ts,P.readableRec t=true∧t<P.types.size) →
  DataW.TrodAll enc P W 0 (fun _=>true) true ts vs ds ps→(∀ p∈ps,W.sameAt W' p)→(∀ p∈ps,sp p.block=true)→DataW.TrodAll enc P W' 0 sp true ts vs ds ps
 | [],vs,ds,ps,_,h,_,_=>by
  obtain ⟨rfl,rfl,rfl⟩:=trodAll_nil h
  exact trodAll_mk0
 | t::ts,vs,ds,ps,ht,h,hs,hp=>by
  obtain ⟨v,vs',d,ds',p,q,rfl,rfl,rfl,h1,h2⟩:=trodAll_cons h
  exact trodAll_cons_mk (WideElems.Trod_stays hl (ht t ar).1 (ht t ar).2 h1 (fun x hx=>hs x (List.mem_append_left _ hx)) (fun x hx=>hp x (List.mem_append_left _ hx)))
   (im hl ts vs' ds' q (fun u hu=>ht u (ZS _ hu)) h2 (fun x hx=>hs x (List.mem_append_right _ hx)) (fun x hx=>hp x (List.mem_append_right _ hx)))
theorem xk {X:World→Prop} {w:World} (hX:X w) (hk:∀ w':World,(∀ k,k<w.heap.size→w'.heap[k]?=w.heap[k]?)→X w'):Gam [] (fps []) w [] X w :=
 ⟨Fr.refl _ _,fun k hk=>by simp at hk,by simp [fps],fun k hk=>by simp [fps] at hk,fun r hr=>by simp at hr,⟨fun k=>k<w.heap.size,fun k hk=>⟨hk,by simp [fps]⟩,hk⟩⟩
theorem rV {P:Program} {f:FuncId} {args:Array Value} {X:World→Prop} {v:Value} {w:World} (h:Pu P f args X v) (hX:X w) (hk:∀ w':World,(∀ k,k<w.heap.size→w'.heap[k]?=w.heap[k]?)→X w') :
  Calls P f args w fun e w'=>e=.returned v∧Below w.heap.size w w':=by
 unfold Pu at h
 exact (Ct.run h w [] (xk hX hk)).mono fun e w' ⟨u,R,X',he,⟨hu,hR⟩,G⟩=>⟨by rw [he,hu],G.fr.below⟩
theorem laidK:Rows.laid_agora_sum_constants (H:=Unit)=Lib.tabData .u32 kC:=by kernel_rfl
theorem laidI:Rows.laid_agora_sum_initial (H:=Unit)=Lib.tabData .u32 iniC:=by kernel_rfl
theorem mT {W:World} {name:String} {zs:List Int} {g:Nat} (h:Lib.TabIs Tryz.prog W name .u32 zs) (hg:Tryz.prog.globalNamed name=some g):CellsAt g (u32s zs) W:=fun j v hj=>by
 have hj':j<zs.length:=by have:=(List.getElem?_eq_some_iff.1 hj).1;simpa [u32s] using this
 rw [h.cell hg j hj']
 simp only [u32s,List.getElem?_map,Zm hj',Option.map_some,Qc] at hj
 rw [ZL,Zm hj',←hj]
 rfl
theorem C7 {W:World} (h:laidMet Tryz.prog [("agora/sum.constants",Rows.laid_agora_sum_constants),("agora/sum.initial",Rows.laid_agora_sum_initial)] W):Glob W:=by
 rw [laidK,laidI] at h
 have h1:=Lib.tabIs_of_head (g:=1) (t:=202) (e:=145) (n:=64) ae ae Tryz.underlying202 Tryz.underlying145 ae ae h
 obtain ⟨ps,⟨g',t',cs,fuel,p,q,hg',ht',hvar,hd,hrest,hpq⟩,_⟩:=h
 obtain ⟨g2,t2,cs2,fuel2,p2,q2,hg2,ht2,hvar2,hd2,_,_⟩:=hrest
 have h2:Lib.TabIs Tryz.prog W "agora/sum.initial" .u32 iniC:=by
  have e1:Tryz.prog.globalNamed "agora/sum.initial"=some 0:=by kernel_rfl
  have e2:(Tryz.prog.globals[0]?).map (·.type)=some 146:=by kernel_rfl
  obtain rfl:=Option.some.inj (e1.symm.trans hg2)
  obtain rfl:=Option.some.inj (e2.symm.trans ht2)
  unfold Lib.TabIs
  rw [hvar2,←Lib.cells_of_tab Tryz.underlying146 Tryz.underlying145 ae ae hd2]
 exact ⟨mT h2 ae,mT h1 ae⟩
def layRow (l:List Value):Obj→Obj
 | .cells _ t frozen=>.cells l.toArray t frozen
 | o=>o
noncomputable def laidWorld (os:Os):World :=
 { World.holding Tryz.prog os ⟨#[],#[],[]⟩ with heap:=((World.holding Tryz.prog os ⟨#[],#[],[]⟩).heap.modify 0 (layRow (u32s iniC))).modify 1 (layRow (u32s kC)) }
end Go.Proofs.YtoefdofbekihdaaGreatDoor
