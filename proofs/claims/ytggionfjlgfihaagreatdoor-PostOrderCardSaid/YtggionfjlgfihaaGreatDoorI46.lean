/- Joined. -/
import Derived.Test.YtggionfjlgfihaaGreatDoorI0
import Derived.Test.YtggionfjlgfihaaGreatDoorI38
import Derived.Test.YtggionfjlgfihaaGreatDoorI44
import Derived.Test.YtggionfjlgfihaaGreatDoorI45
import Derived.Test.YtggionfjlgfihaaGreatDoorI35
set_option linter.unusedVariables false
set_option linter.unusedSimpArgs false
set_option maxHeartbeats 16000000
namespace Go.Proofs.YtggionfjlgfihaaGreatDoor
open Go Go.Proofs Sy
theorem pI {α:Type}:∀ {l L:List α},l.Nodup→(∀ x∈l,x∈L)→l.length≤L.length
 | [],L,_,_=>Nat.zero_le _
 | a::l,L,hn,h=>by
  rw [List.nodup_cons] at hn
  obtain ⟨s,t,rfl⟩:=List.append_of_mem (h a ap)
  have h1:=pI (l:=l) (L:=s++t) hn.2 fun x hx=>by
   have h2:=h x (List.mem_cons_of_mem _ hx)
   rcases List.mem_append.1 h2 with h3|h3
   · exact List.mem_append_left _ h3
   · rcases List.mem_cons.1 h3 with rfl|h3
     · exact absurd hx hn.1
     · exact List.mem_append_right _ h3
  simp only [List.length_append,List.length_cons] at *
  omega
section
variable {L:List Int} {I J:List Xb} {l m:List Xd}
theorem qk (h:AllK L I l) {c:Xd} (hc:c∈l):∃ kl,QK L I c.id c kl:=by
 obtain ⟨M,hM,rfl⟩:=h
 obtain ⟨p,hp,rfl⟩:=List.mem_map.1 hc
 obtain ⟨a,ha,q⟩:=hM.right p (List.mem_filter.1 hp).1
 exact ⟨p.2,by rw [pd q];exact q⟩
theorem ql (h:AllK L I l):l.length≤I.length:=by
 obtain ⟨M,hM,rfl⟩:=h
 have h0:=hM.len
 have h1:=qd (sortB (authI I))
 have h2:=gN (authI I)
 have h3:=gY I
 have h4:=List.length_filter_le neK M
 rw [List.length_map]
 omega
theorem eJ (hK:KnR L I) (h:AllK L I l) {c:Xd} (hc:c∈l):Xt c.actsL∧c.actsL.length≤100:=by
 obtain ⟨kl,q⟩:=qk h hc
 have G:=sK hK q
 exact ⟨G.ok,G.len⟩
theorem pj (hK:KnR L I) (h:AllK L I l) {p:Xc} (hp:p∈l.flatMap postsV):∃ x∈I,digIt x=p.id∧x.act.author=p.author∧seqB p.id ⟨#[]⟩=false:=by
 obtain ⟨c,hc,hp⟩:=List.mem_flatMap.1 hp
 obtain ⟨a,ha,e1,e2,_⟩:=(d5 hp).mem
 obtain ⟨kl,q⟩:=qk h hc
 obtain ⟨i,hi,rfl,k0,hr,ed,ea⟩:=eM (qV q a ha)
 exact ⟨i,hi,by rw [ed,e1],by rw [ea,e2],by rw [e1];exact rA (jF k0 hr)⟩
theorem jH (U:Uniq l):((l.flatMap postsV).map Xc.id).Nodup:=by
 rw [List.nodup_iff_pairwise_ne,List.pairwise_map,List.pairwise_flatMap]
 refine ⟨fun c hc=>?_,?_⟩
 · have h1:=(kX c).1
   rw [posL,List.pairwise_map] at h1
   refine List.Pairwise.imp_of_mem (fun {p q} hp hq hlt e=>?_) h1
   obtain ⟨a,ha,pa,-⟩:=d5 hp
   obtain ⟨b,hb,qb,-⟩:=d5 hq
   have h2:=U.own c hc _ _ ha
   have h3:=U.own c hc _ _ hb
   rw [←pa,e,qb,h3] at h2
   have h4:=Option.some.inj h2
   omega
 · have h1:=U.ids
   rw [List.nodup_iff_pairwise_ne,List.pairwise_map] at h1
   refine List.Pairwise.imp_of_mem (fun {c d} hc hd hne x hx y hy e=>?_) h1
   obtain ⟨a,ha,pa,-⟩:=(d5 hx).mem
   obtain ⟨b,hb,qb,-⟩:=(d5 hy).mem
   exact hne (U.dig c hc d hd a ha b hb (by rw [←pa,←qb,e]))
theorem pg (hK:KnR L I) (h:AllK L I l):(l.flatMap postsV).length≤I.length:=by
 have h1:=pI (jH (iZ hK h)) (L:=I.map digIt) fun d hd=>by
  obtain ⟨p,hp,rfl⟩:=List.mem_map.1 hd
  obtain ⟨x,hx,e,_⟩:=pj hK h hp
  exact List.mem_map.2 ⟨x,hx,e⟩
 rw [List.length_map,List.length_map] at h1
 exact h1
theorem zJ (P:List Xc):(P.map Xc.can).map Xc.id=P.map Xc.id:=by
 rw [List.map_map]
 rfl
theorem qY {P:List Xc} (ho:SrP.Ord P P.length) (hn:(P.map Xc.id).Nodup) {i:Nat} (h0:0<i) {x y:Xc} (hx:P[i-1]?=some x) (hy:P[i]?=some y):ltB x.id y.id=true:=by
 obtain ⟨hj,ey⟩:=List.getElem?_eq_some_iff.1 hy
 obtain ⟨hi,ex⟩:=List.getElem?_eq_some_iff.1 hx
 have h1:=ho (i-1) i aa hj
 rw [SrP.rk_get hx,SrP.rk_get hy,leX] at h1
 cases h:ltB x.id y.id with
 | true=>rfl
 | false =>
  have e:=gT h h1
  rw [List.nodup_iff_pairwise_ne,List.pairwise_map,List.pairwise_iff_getElem] at hn
  refine absurd ?_ (hn (i-1) i hi hj aa)
  rw [ex,ey,e]
theorem wV {P:List Xc} (ho:SrP.Ord P P.length):(P.map Xc.can).Pairwise fun a b=>leX a.id b.id:=by
 rw [List.pairwise_map,List.pairwise_iff_getElem]
 intro i j hi hj hij
 have h1:=ho i j hij hj
 rw [SrP.rk_get (List.getElem?_eq_getElem hi),SrP.rk_get (List.getElem?_eq_getElem hj)] at h1
 exact h1
theorem AG (U:Uniq l) {P Q:List Xc} (hp:(P.map Xc.can).Perm (l.flatMap postsV)) (hq:(Q.map Xc.can).Perm (l.flatMap postsV)) (oP:SrP.Ord P P.length) (oQ:SrP.Ord Q Q.length):P.map Xc.can=Q.map Xc.can:=by
 refine (hp.trans hq.symm).eq_of_pairwise (fun a b ha hb h1 h2=>?_) (wV oP) (wV oQ)
 exact my U (hp.mem_iff.1 ha) (hq.mem_iff.1 hb) (gT h2 h1)
theorem m0 (I:List Xb):authI (I.map Xb.can)=authI I:=by
 rw [authI,authI,List.filter_map,List.map_map]
 rfl
theorem vj (hI:∀ i∈I,i.dec.Fit) (hJ:∀ i∈J,i.dec.Fit) (e:I.map Xb.can=J.map Xb.can) {ids:List ByteArray} {M:List ChK} (h:All2 (fun id p=>QK L I id p.1 p.2) ids M) :
  ∀ {N:List ChK},All2 (fun id p=>QK L J id p.1 p.2) ids N→cano ((M.filter neK).map Prod.fst)=cano ((N.filter neK).map Prod.fst):=by
 induction h with
 | nil=>intro N h';cases h';rfl
 | @cons a p ids M hp _ ih =>
  intro N h'
  cases h' with
  | @cons _ q _ N hq h2 =>
   have ih:=ih h2
   obtain ⟨h3,_⟩:=yR hI hJ e hp hq
   have hl:q.1.actsL.length=p.1.actsL.length:=by simpa using congrArg List.length h3
   have hn:neK q=neK p:=by rw [neK,neK,hl]
   have hc:canoC q.1=canoC p.1:=by rw [canoC,canoC,h3,pd hp,pd hq]
   rw [List.filter_cons,List.filter_cons,hn]
   cases neK p with
   | false=>exact ih
   | true =>
    show canoC p.1::cano ((M.filter neK).map Prod.fst)=canoC q.1::cano ((N.filter neK).map Prod.fst)
    rw [hc,ih]
theorem qW (hI:KnR L I) (hJ:KnR L J) (e:I.map Xb.can=J.map Xb.can) (h:AllK L I l) (h':AllK L J m):l.flatMap postsV=m.flatMap postsV:=by
 obtain ⟨M,hM,rfl⟩:=h
 obtain ⟨N,hN,rfl⟩:=h'
 have ea:authI J=authI I:=by rw [←m0 I,e,m0]
 rw [ea] at hN
 rw [←kW,vj hI.dn hJ.dn e hM hN,kW]
theorem qO (hI:KnR L I) (hJ:KnR L J) (hl:I.length=J.length) (h:∀ (k:Nat) (x y:Xb),I[k]?=some x→J[k]?=some y→itemEq x y=true):I.map Xb.can=J.map Xb.can:=by
 refine List.ext_getElem? fun k=>?_
 rw [List.getElem?_map,List.getElem?_map]
 by_cases hk:k<I.length
 · have hx:=List.getElem?_eq_getElem hk
   have hy:=List.getElem?_eq_getElem (l:=J) (i:=k) aa
   rw [hx,hy]
   exact congrArg some (rl (hI.rng _ (List.getElem_mem hk)) (hJ.rng _ (List.getElem_mem aa)) (h k _ _ hx hy))
 · rw [List.getElem?_eq_none aa,List.getElem?_eq_none (by omega)]
theorem qX (hK:KnR L I) (h:AllK L I l) {P:List Xc} (hp:(P.map Xc.can).Perm (l.flatMap postsV)) {p:Xc} (hm:p∈P) :
  findPV l p.id=some p.can∧∃ (k:Nat) (x:Xb),I[k]?=some x∧digIt x=p.id∧(∀ (j:Nat) (y:Xb),j<k→I[j]?=some y→seqB (digIt y) p.id=false)∧x.act.author=p.author∧seqB p.id ⟨#[]⟩=false:=by
 have U:=iZ hK h
 have hin:=hp.mem_iff.1 (List.mem_map_of_mem hm)
 refine ⟨(ru U).2 ⟨hin,rfl⟩,?_⟩
 obtain ⟨x,hx,ed,ea,hne⟩:=pj hK h hin
 obtain ⟨k,x0,h1,h2,h3⟩:=mU ⟨x,hx,ed⟩
 have e0:x0=x:=tq hK.asc (List.mem_of_getElem? h1) hx (h2.trans ed.symm)
 exact ⟨k,x0,h1,h2,h3,by rw [e0];exact ea,hne⟩
end
theorem pK {L:List Int} {I:List Xb} (h:KnR L I) {it:Xb} (hs:it.Str) (hdn:it.dec.to.n=it.dec.toL.length) (hl:I.length<100):KnR L (addK L I it):=by
 cases hc:canAdd L I it with
 | false =>
  rw [addK,hc]
  exact h
 | true=>exact xv h hs.rng (yJ hs (lM hc).2.1) hdn hl
theorem m6 (L:List Int) (I:List Xb) (it:Xb):(addK L I it).length≤I.length+1:=by
 rw [addK]
 cases canAdd L I it with
 | false=>exact Nat.le_succ _
 | true =>
  have hp:=m5 digIt it I
  show (addV digIt it I).length≤_
  rw [hp.length_eq,List.length_cons]
  exact Nat.le_refl _
end Go.Proofs.YtggionfjlgfihaaGreatDoor
