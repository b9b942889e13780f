/- Joined. -/
import Derived.Test.YtgffbiobmamobaaGreatDoorI0
import Derived.Test.YtgffbiobmamobaaGreatDoorI14
import Derived.Test.YtgffbiobmamobaaGreatDoorI15
import Derived.Test.YtgffbiobmamobaaGreatDoorI1
import Derived.Test.YtgffbiobmamobaaGreatDoorI9
import Derived.Test.YtgffbiobmamobaaGreatDoorI8
set_option linter.unusedVariables false
set_option linter.unusedSimpArgs false
set_option maxHeartbeats 16000000
namespace Go.Proofs.YtgffbiobmamobaaGreatDoor
open Go Go.Proofs Sy
section
variable {P:Program} {N:Nat} {av bor:List Nat} {w0:World} {E:Env} {loc:List Xl} {X:World→Prop} {K:Exit→St→Prop} {c:Code}
theorem r4 {w:World}:∀ (P:List Xd),(∀ p∈P,p.ed=⟨none,0,0⟩∧p.edL=[])→Xr av bor w0 loc X w→Xr av bor w0 (P.map edR++loc) X w
 | [],_,G=>G
 | p::P,h,G=>by
  have h1:=h p ay
  have e:edR p=orow 3 1 (.slice none 0 0) 0 []:=by rw [edR,h1.1,h1.2];rfl
  rw [List.map_cons,e]
  exact (r4 P (fun q hq=>h q (List.mem_cons_of_mem _ hq)) G).nilRow _ _
theorem Bw (L:List Xd) (hz:∀ p∈L,p.ed=⟨none,0,0⟩∧p.edL=[]) (h:Cw P N av bor w0 c ⟨E,L.map edR++loc,X⟩ K):Cw P N av bor w0 c ⟨E,loc,X⟩ K:=Cw.mk fun a w ok=>h.run a w (ok.via fun M G=>by
 have:=r4 L hz G
 rwa [←List.append_assoc] at this)
theorem zi {l:List Xl} (hs:loc.Perm l) (h:Cw P N av bor w0 c ⟨E,l,X⟩ K):Cw P N av bor w0 c ⟨E,loc,X⟩ K:=Cw.mk fun a w ok=>h.run a w (ok.via fun M G=>G.perm (hs.append_right M))
theorem jm {st:St} {ty:TypeId} {fn:Fn} {xs:List Operand} {vs:List Value} (hx:evs st.env xs=some vs):Sy.Yields P N av bor w0 st (.makeFunc fn xs.toArray #[]) ty (.func fn vs.toArray #[]):=Sy.Yields.mk fun A w ok d pos af g=>by
 have e:=fJ (E:=st.env) (loc:=st.loc) (X:=st.ext) ok xs vs hx
 have e1:xs.toArray.map A.eval=vs.toArray:=by rw [List.map_toArray,e]
 simp [execOp,Instr.makeFunc,e1,e]
theorem qT {p:Prop} (hp:∀ w,(∀ r∈loc,r.F w)→p) (h:p→Cw P N av bor w0 c ⟨E,loc,X⟩ K):Cw P N av bor w0 c ⟨E,loc,X⟩ K:=Cw.mk fun a w ok=>(h (hp w fun r hr=>(ok.gam.here r hr).now)).run a w ok
end
theorem Ee.len {P Q:List Xd} (h:Ee P Q):Q.length=P.length:=by have:=congrArg List.length h.to;simpa using this
theorem Ee.trans {P Q R:List Xd} (h:Ee P Q) (k:Ee Q R):Ee P R:=⟨k.to.trans h.to⟩
theorem Ee.pos {P Q:List Xd} (h:Ee P Q) (j:Nat):posP Q j=posP P j:=by
 have e:∀ L:List Xd,posP L j=(L.map fun p=>(p.to,p.toL,p.pos)).findIdx? fun t=>t.2.2==j:=fun L=>by rw [posP,List.findIdx?_map];rfl
 rw [e,e,h.to]
theorem Ee.mem {P Q:List Xd} (h:Ee P Q) {p:Xd} (hp:p∈Q):∃ q∈P,q.to=p.to∧q.toL=p.toL:=by
 have h1:(p.to,p.toL,p.pos)∈Q.map fun p=>(p.to,p.toL,p.pos):=List.mem_map_of_mem (f:=fun p:Xd=>(p.to,p.toL,p.pos)) hp
 rw [h.to] at h1
 obtain ⟨q,hq,e⟩:=List.mem_map.1 h1
 simp only [Prod.mk.injEq] at e
 exact ⟨q,hq,e.1,e.2.1⟩
theorem rN {P:List Xd} {o:Option Nat} {f:Xd→Xd} {m:Nat} (h:∀ p∈P,p.edL.length≤m) (hf:∀ p:Xd,(f p).edL.length≤p.edL.length+1):∀ p∈modP P o f,p.edL.length≤m+1:=fun p hp=>by
 cases o with
 | none=>exact Nat.le_succ_of_le (h p hp)
 | some n =>
  rcases List.mem_or_eq_of_mem_set hp with hp|rfl
  · exact Nat.le_succ_of_le (h p hp)
  · refine Nat.le_trans (hf _) ?_
    by_cases hn:n<P.length
    · have:=h (P.getD n Xd.zero) (by rw [List.getD_eq_getElem?_getD,List.getElem?_eq_getElem hn];exact List.getElem_mem hn)
      omega
    · rw [List.getD_eq_getElem?_getD,List.getElem?_eq_none (by omega)]
      exact Nat.succ_le_succ (Nat.zero_le m)
theorem ov (c:Xa):∀ i,∀ p∈openF c i,p.edL=[]
 | 0,p,h=>(List.not_mem_nil h).elim
 | i+1,p,h=>by
  rw [openF] at h
  rcases List.mem_append.1 h with h|h
  · exact ov c i p h
  · revert h
    cases postK (c.actsL.getD i Xc.zero).kind with
    | true=>intro h;rw [cond_true,List.mem_singleton] at h;subst h;rfl
    | false=>intro h;exact (List.not_mem_nil h).elim
theorem xq (a:Xc) (i:Nat) (p:Xd):(editP a i p).edL.length≤p.edL.length+1:=by
 rw [editP]
 cases editB a p with
 | true=>rw [cond_true];show (p.edL++[(i:Int)]).length≤_;rw [List.length_append];exact Nat.le_refl _
 | false=>exact Nat.le_succ _
theorem wj (c:Xa):∀ i,∀ p∈ofP c i,p.edL.length≤i
 | 0,p,h=>by rw [ov c _ p h];exact Nat.le_refl 0
 | i+1,p,h=>by
  have ih:=wj c i
  rw [ofP,stepP] at h
  revert h
  cases decide ((c.actsL.getD i Xc.zero).kind=13) with
  | true=>exact fun h=>rN (f:=goneP) ih (fun p=>Nat.le_succ _) p h
  | false =>
   cases decide ((c.actsL.getD i Xc.zero).kind=14) with
   | true=>exact fun h=>rN (f:=editP _ _) ih (xq _ _) p h
   | false=>exact fun h=>Nat.le_succ_of_le (ih p h)
theorem uf (a:Xc) (i:Nat) (p:Xd):(editP a i p).can=editP a i p.can:=by
 have h:editB a p.can=editB a p:=rfl
 rw [editP,editP,h]
 cases editB a p<;>rfl
theorem ue (a:Xc) (i:Nat) (p:Xd):(editP a i p).pos=p.pos:=by
 rw [editP]
 cases editB a p<;>rfl
theorem permD (c m2 m1 b1 po b0:Xl) (M:List Xl):(M++([c,m2,m1,b1,po]++[b0])).Perm ((c::m2::m1::po::M)++[b1,b0]):=by
 have h1:([c,m2,m1,b1,po]++[b0]).Perm ([c,m2,m1,po]++[b1,b0]):=(((List.Perm.swap po b1 [b0]).cons m1).cons m2).cons c
 have h2:=(List.perm_append_comm (l₁:=M) (l₂:=[c,m2,m1,b1,po]++[b0])).trans (h1.append_right M)
 rw [List.append_assoc] at h2
 exact h2.trans ((List.perm_append_comm (l₁:=[b1,b0]) (l₂:=M)).append_left [c,m2,m1,po])
def PostsAt (c:Xa) (u:Value) (X:World→Prop):Prop:=∃ (s:Xi) (P:List Xd),u=s.v∧P.map Xd.can=postsV c∧P.length≤c.actsL.length∧∀ w,X w→Xe w 11 s (P.map Xd.cells)
theorem rO {P:Program} {f:FuncId} {args:Array Value} {X:World→Prop} {Φ Ψ:Value→(World→Prop)→Prop} (h:Mk P f args X Φ) (hp:∀ u X',Φ u X'→Ψ u X'):Mk P f args X Ψ:=by
 unfold Mk at *
 exact Ct.mono h fun v R X' ⟨a,b⟩=>⟨hp _ _ a,b⟩
theorem wC {w:World} {p:Xd} (hl:p.edL.length=p.ed.n) (h:(edR p).F w):Ints w p.ed p.edL:=by
 have h':ORow w 3 1 (.slice p.ed.p p.ed.n p.ed.c) p.ed.n (p.edL.map fun n=>[(.int .i64 n:Value)]).flatten:=by
  have e:(p.edL.map fun n=>[(.int .i64 n:Value)]).flatten=p.edL.map fun n=>(.int .i64 n:Value):=by
   induction p.edL with
   | nil=>rfl
   | cons a l ih=>rw [List.map_cons,List.flatten_cons,ih];rfl
  rw [e]
  exact h
 exact aM h' (by rw [List.length_map,hl]) fun r hr=>by
  obtain ⟨n,_,rfl⟩:=List.mem_map.1 hr
  rfl
def PostsAtS (c:Xa) (u:Value) (X:World→Prop):Prop:=∃ (s:Xi) (P:List Xd),u=s.v∧P.map Xd.can=postsV c∧P.length≤c.actsL.length∧∀ w,X w→Xe w 11 s (P.map Xd.cells)∧∀ p∈P,Strs w p.to p.toL∧Ints w p.ed p.edL
theorem PostsAtS.weak {c:Xa} {u:Value} {X:World→Prop} (h:PostsAtS c u X):PostsAt c u X:=by
 obtain ⟨s,P,h1,h2,h3,h4⟩:=h
 exact ⟨s,P,h1,h2,h3,fun w hw=>(h4 w hw).1⟩
structure OfI (c:Xa) (P:List Xd) where
 k:Nat
 hk:k≤c.actsL.length
 Q:List Xd
 hQ:Q.map Xd.can=ofP c k
 hT:Ee P Q
theorem wg (c:Xa) (hc:Xx c.actsL) (hcl:c.actsL.length≤1000000):Mk Tryz.prog 45 #[c.v] (fun w=>c.at_ w∧Xg w) (PostsAtS c):=by
 refine bS Tryz.func45 Tryz.ntmps45 fun av bor w0=>?_
 refine aD (p:=c.acts.n=c.actsL.length∧c.acts.n≤maxLen∧(0<c.actsL.length→c.acts.p.isSome=true)) (fun w h=>⟨h.1.len_,h.1.max_,h.1.some_⟩) fun ⟨hl,hm,hp⟩=>?_
 simp only [maxLen] at hm
 repeat' (first|refine gs ?_|refine gs1 fun _=>?_|fail)
 refine vw (hc:=yJ c hc hcl) (hX:=fun w h=>h) ?_
 rintro _ _ X1 ⟨r,b,b1,q1,q2,hrk,rfl,rfl,hX1⟩
 repeat' (first|refine gs ?_|refine gs1 fun _=>?_|fail)
 have hrP:r.P.map Xd.can=openF c c.actsL.length:=by rw [←hrk];exact r.hP
 have hrl:r.P.length≤c.actsL.length:=by
  have h1:=iY c c.actsL.length
  rw [←hrP,List.length_map] at h1
  exact h1
 have hpl:∀ d,mget r.pl d=(idxV c.actsL d).map fun (j:Nat)=>Value.int .i64 (j:Int):=fun d=>by
  rw [r.hpl d,hrk,List.take_length]
 have hsn:r.s.n=r.P.length:=r.hn
 have hnum:=r.hnum
 have hz:=r.hz
 generalize hs:r.s=s at *
 generalize r.P=P at *
 generalize r.pl=pl at *
 generalize r.num=num at *
 rename_i b0
 refine Bw P hz ?_
 refine zi (permD _ _ _ _ _ _ _) ?_
 refine az (ι:=OfI c P) (fun i=>⟨[(3,.pointer (some ⟨b,0,none⟩)),(9,c.acts.v),(10,.int .i64 (c.acts.n:Nat)),(11,.int .i64 (i.k:Nat))],cel b 161 (regC c s.v q1 q2)::mapr q2 pl::mapr q1 num::postR s i.Q::i.Q.map edR,fun w=>(c.at_ w∧Xg w)∧∀ p∈P,Strs w p.to p.toL⟩) (fun i=>c.actsL.length-i.k)
  ⟨0,Nat.zero_le _,P,hrP,⟨rfl⟩⟩ (ak an (List.sublist_append_left _ _) fun w h=>⟨h.1,hX1 w h.2⟩) fun i=>?_
 obtain ⟨k,hk,Q,hQ,hT⟩:=i
 simp only
 have hQl:=hT.len
 have hsQ:s.n=Q.length:=by omega
 refine qT (p:=∀ p∈Q,p.edL.length=p.ed.n) (fun w hr p hp=>by
  have h1:=(hr (edR p) (List.mem_cons_of_mem _ (List.mem_cons_of_mem _ (List.mem_cons_of_mem _ (List.mem_cons_of_mem _ (List.mem_map_of_mem hp)))))).1
  simpa using h1) fun hed=>?_
 have hsto:∀ w,(∀ p∈P,Strs w p.to p.toL)→∀ p∈Q,Strs w p.to p.toL:=fun w h p hp=>by
  obtain ⟨q,hq,e1,e2⟩:=hT.mem hp
  rw [←e1,←e2]
  exact h q hq
 have hnQ:∀ j:Nat,mget num (j:Int)=(posP Q j).map fun (n:Nat)=>Value.int .i64 (n:Int):=fun j=>by rw [hT.pos j];exact hnum j
 have hem:∀ p∈Q,p.ed.n≤1000000:=fun p hp=>by
  have h1:=wj c k p.can (by rw [←hQ];exact List.mem_map_of_mem hp)
  have h2:p.edL.length≤k:=h1
  have h3:=hed p hp
  omega
 repeat' (first|refine gs ?_|refine gs1 fun _=>?_|(refine gp ?_ ?_<;>intro hx_ this)|fail)
 · have hlt:k<c.actsL.length:=by omega
   have hp':=hp ac
   obtain ⟨x,hx⟩:∃ x,c.actsL[k]?=some x:=⟨_,List.getElem?_eq_getElem hlt⟩
   have hxD:c.actsL.getD k Xc.zero=x:=by rw [List.getD_eq_getElem?_getD,hx];rfl
   by_cases h13:x.kind=13
   · repeat' (first|refine cq ?_|refine bK ?_|refine gs ?_|refine gs1 fun _=>?_|(refine aA (q:=k*20) ?_)|(refine aY (cs:=x.cells) (hF:=fun w h=>Acts.get h.1.1 hx) ?_)|(refine am (jm (xs:=[_]) (vs:=[_]) rfl) rfl rfl rfl ?_)|(refine gp ?_ ?_<;>intro hx_ this)|fail)
     rename_i b5
     refine cI (List.perm_append_singleton _ _).symm ?_
     refine ci (first:=#[]) (caps:=#[]) (pre:=[cel b 161 (regC c s.v q1 q2),mapr q2 pl,mapr q1 num,postR s Q]++Q.map edR) (fr:=[cel b5 72 x.cells]) (hc:=oj c s Q b q1 q2 k 83 ⟨ai⟩ pl num x (goneP) hsQ hx ac hpl hnQ hcl ac (fun p=>rfl) (fun p=>rfl) (fun n p hn=>oi _ s Q n p _ k hsQ hn)) (hX:=fun w h=>⟨h.1,hsto w h.2⟩) (h:=?_)
     rintro _ _ X' ⟨rfl,Q',ex,hcan,hto,rfl⟩
     have HQ:Q'.map Xd.can=ofP c (k+1):=by
      rw [hcan,ofP,stepP,hxD,decide_eq_true h13,cond_true,←hQ,om]
     repeat' (first|refine cq ?_|refine bK ?_|refine gs ?_|refine gs1 fun _=>?_|(refine gp ?_ ?_<;>intro hx_ this)|fail)
     exact ⟨(⟨k+1,hlt,Q',HQ,hT.trans hto⟩:OfI c P),(by show c.actsL.length-(k+1)<c.actsL.length-k;omega),ak an ((List.sublist_append_right ex _).trans (List.sublist_append_left _ _)) fun w h=>h.1⟩
   by_cases h14:x.kind=14
   · repeat' (first|refine cq ?_|refine bK ?_|refine gs ?_|refine gs1 fun _=>?_|(refine aA (q:=k*20) ?_)|(refine aY (cs:=x.cells) (hF:=fun w h=>Acts.get h.1.1 hx) ?_)|(refine am (jm (xs:=[_]) (vs:=[_]) rfl) rfl rfl rfl ?_)|(refine gp ?_ ?_<;>intro hx_ this)|fail)
     rename_i b5
     refine cI (List.perm_append_singleton _ _).symm ?_
     refine ci (first:=#[]) (caps:=#[]) (pre:=[cel b 161 (regC c s.v q1 q2),mapr q2 pl,mapr q1 num,postR s Q]++Q.map edR) (fr:=[cel b5 72 x.cells]) (hc:=oj c s Q b q1 q2 k 84 ⟨ai⟩ pl num x (editP x k) hsQ hx ac hpl hnQ hcl ac (uf x k) (ue x k) (fun n p hn=>ud c s Q n p b q1 q2 k x hsQ hn hx ac (hed p (List.mem_of_getElem? hn)).symm (hem p (List.mem_of_getElem? hn)))) (hX:=fun w h=>⟨h.1,hsto w h.2⟩) (h:=?_)
     rintro _ _ X' ⟨rfl,Q',ex,hcan,hto,rfl⟩
     have HQ:Q'.map Xd.can=ofP c (k+1):=by
      rw [hcan,ofP,stepP,hxD,decide_eq_false h13,cond_false,decide_eq_true h14,cond_true,←hQ,om]
     repeat' (first|refine cq ?_|refine bK ?_|refine gs ?_|refine gs1 fun _=>?_|(refine gp ?_ ?_<;>intro hx_ this)|fail)
     exact ⟨(⟨k+1,hlt,Q',HQ,hT.trans hto⟩:OfI c P),(by show c.actsL.length-(k+1)<c.actsL.length-k;omega),ak an ((List.sublist_append_right ex _).trans (List.sublist_append_left _ _)) fun w h=>h.1⟩
   · have HQ:Q.map Xd.can=ofP c (k+1):=by
      rw [ofP,stepP,hxD,decide_eq_false h13,cond_false,decide_eq_false h14,cond_false]
      exact hQ
     repeat' (first|refine bK ?_|refine gs ?_|refine gs1 fun _=>?_|(refine aA (q:=k*20) ?_)|(refine aY (cs:=x.cells) (hF:=fun w h=>Acts.get h.1.1 hx) ?_)|(refine gp ?_ ?_<;>intro hx_ this)|fail)
     exact ⟨(⟨k+1,hlt,Q,HQ,hT⟩:OfI c P),(by show c.actsL.length-(k+1)<c.actsL.length-k;omega),ak an (List.Sublist.cons _ (al _)) fun w h=>h⟩
 · have hkE:k=c.actsL.length:=by omega
   exact ae (aj rfl rfl) ⟨s,Q,rfl,by rw [hQ,hkE];rfl,by omega,fun w h=>⟨aM (h.2 (postR s Q) (List.mem_cons_of_mem _ (List.mem_cons_of_mem _ (List.mem_cons_of_mem _ ay)))) (by simp [hsQ]) (cells11 Q),fun p hp=>⟨hsto w h.1.2 p hp,wC (hed p hp) (h.2 (edR p) (List.mem_cons_of_mem _ (List.mem_cons_of_mem _ (List.mem_cons_of_mem _ (List.mem_cons_of_mem _ (List.mem_map_of_mem hp))))))⟩⟩⟩
theorem AG (c:Xa) (hc:Xx c.actsL) (hcl:c.actsL.length≤1000000):Mk Tryz.prog 45 #[c.v] (fun w=>c.at_ w∧Xg w) (PostsAt c):=rO (wg c hc hcl) fun u X h=>h.weak
end Go.Proofs.YtgffbiobmamobaaGreatDoor
namespace Go.Proofs.YtgffbiobmamobaaGreatDoor
open Go Go.Proofs Sy
instance:Xs Tryz.prog 116 11:=⟨ai⟩
def isPost (id:ByteArray) (p:Xd):Bool:=seqB p.id id
def findPV (l:List Xa) (id:ByteArray):Option Xd:=(l.flatMap postsV).find? (isPost id)
theorem oT {l:List Xa} {id:ByteArray} (h:∀ c∈l,∀ p∈postsV c,isPost id p=false):findPV l id=none:=by
 rw [findPV,List.find?_eq_none]
 intro p hp
 obtain ⟨c,hc,h1⟩:=List.mem_flatMap.1 hp
 rw [h c hc p h1]
 decide
theorem tT {l:List Xa} {id:ByteArray} {k j:Nat} {c:Xa} {P:List Xd} {p:Xd} (hc:l[k]?=some c) (hP:P.map Xd.can=postsV c) (hp:P[j]?=some p) (h1:∀ i x,i<k→l[i]?=some x→∀ q∈postsV x,isPost id q=false) (h2:∀ i q,i<j→P[i]?=some q→isPost id q=false) (h3:isPost id p=true) :
  findPV l id=some p.can:=by
 obtain ⟨hk,rfl⟩:=List.getElem?_eq_some_iff.1 hc
 have e:l=l.take k++l[k]::l.drop (k+1):=by rw [←List.drop_eq_getElem_cons hk,List.take_append_drop]
 rw [findPV,e,List.flatMap_append,List.flatMap_cons,List.find?_append,List.find?_append,List.find?_eq_none.2 (fun q hq=>by
  obtain ⟨x,hx,hq⟩:=List.mem_flatMap.1 hq
  obtain ⟨i,hi⟩:=List.mem_iff_getElem?.1 hx
  rw [List.getElem?_take] at hi
  split at hi
  · rename_i hik
    rw [h1 i x hik hi q hq]
    decide
  · cases hi),Option.none_or]
 have e2:(postsV l[k]).find? (isPost id)=some p.can:=by
  rw [←hP,List.find?_map]
  have e3:(isPost id ∘ Xd.can)=isPost id:=rfl
  rw [e3]
  obtain ⟨hj,rfl⟩:=List.getElem?_eq_some_iff.1 hp
  have e4:P.find? (isPost id)=some P[j]:=by
   rw [List.find?_eq_some_iff_getElem]
   refine ⟨h3,j,hj,rfl,fun i hi=>?_⟩
   rw [h2 i P[i] hi (List.getElem?_eq_getElem ac)]
   decide
  rw [e4]
  rfl
 rw [e2]
 rfl
def FoundAt (l:List Xa) (id:ByteArray) (u:Value) (X:World→Prop):Prop:=∃ p:Xd,u=.tuple #[p.v,.bool (findPV l id).isSome]∧p.can=(findPV l id).getD Xd.zero
structure FinI (l:List Xa) (id:ByteArray) where
 k:Nat
 hk:k≤l.length
 no:∀ i x,i<k→l[i]?=some x→∀ q∈postsV x,isPost id q=false
structure FinJ (P:List Xd) (id:ByteArray) where
 j:Nat
 hj:j≤P.length
 no:∀ i q,i<j→P[i]?=some q→isPost id q=false
theorem wN (s:Xi) (l:List Xa) (id:ByteArray) (hok:∀ c∈l,Xx c.actsL) (hlen:∀ c∈l,c.actsL.length≤1000000):Mk Tryz.prog 110 #[s.v,.string id] (fun w=>Chains w s l∧Xg w) (FoundAt l id):=by
 refine bS Tryz.func110 Tryz.ntmps110 fun av bor w0=>?_
 refine aD (p:=s.n=l.length∧s.n≤maxLen∧(0<l.length→s.p.isSome=true)) (fun w h=>⟨h.1.len_,h.1.max_,h.1.some_⟩) fun ⟨hl,hm,hp⟩=>?_
 simp only [maxLen] at hm
 repeat' (first|refine gs ?_|refine gs1 fun _=>?_|fail)
 rename_i b
 refine az (ι:=FinI l id) (fun i=>⟨[(1,.string id),(4,.pointer (some ⟨b,0,none⟩)),(10,s.v),(11,.int .i64 (s.n:Nat)),(12,.int .i64 (i.k:Nat))],[cel b 116 Xd.zero.cells],fun w=>Chains w s l∧Xg w⟩) (fun i=>l.length-i.k) ⟨0,Nat.zero_le _,fun i x h=>absurd h (Nat.not_lt_zero _)⟩ (ak an (al _) fun _ h=>h) fun i=>?_
 obtain ⟨k,hk,hno⟩:=i
 simp only
 repeat' (first|refine gs ?_|refine gs1 fun _=>?_|(refine gp ?_ ?_<;>intro hx_ this)|fail)
 · have hlt:k<l.length:=by omega
   have hp':=hp ac
   obtain ⟨c,hc⟩:∃ c,l[k]?=some c:=⟨_,List.getElem?_eq_getElem hlt⟩
   have hcm:=List.mem_of_getElem? hc
   have hof:=AG c (hok c hcm) (hlen c hcm)
   repeat' (first|(refine aT (hc:=hof) (hX:=fun w h=>⟨h.1.2 c hcm,h.2⟩) fun v1 X1 h1=>?_;obtain ⟨s1,P,rfl,hP,hPl,hw⟩:=h1)|refine gs ?_|refine gs1 fun _=>?_|(refine aA (q:=k*6) ?_)|(refine aY (cs:=c.cells) (hF:=fun w h=>Chains.get h.1 hc) ?_)|(refine gp ?_ ?_<;>intro hx_ this)|fail)
   refine aD (p:=s1.n=P.length∧s1.n≤maxLen∧(0<P.length→s1.p.isSome=true)) (fun w h=>⟨by simpa using Xe.len (hw w h.2),Nat.le_trans (Xe.cap (hw w h.2)) (Xe.max (hw w h.2)),fun h0=>(Xe.row (hw w h.2) 0 P[0].cells (by simp [List.getElem?_eq_getElem h0])).2.1⟩) fun ⟨hl1,hm1,hp1⟩=>?_
   simp only [maxLen] at hm1
   refine az (ι:=FinJ P id) (fun i=>⟨[(1,.string id),(4,.pointer (some ⟨b,0,none⟩)),(10,s.v),(11,.int .i64 (s.n:Nat)),(12,.int .i64 (k:Nat)),(17,s1.v),(18,.int .i64 (s1.n:Nat)),(19,.int .i64 (i.j:Nat))],[cel b 116 Xd.zero.cells],fun w=>(Chains w s l∧Xg w)∧X1 w⟩) (fun i=>P.length-i.j) ⟨0,Nat.zero_le _,fun i x h=>absurd h (Nat.not_lt_zero _)⟩ (ak an (List.Sublist.cons _ (al _)) fun _ h=>h) fun i=>?_
   obtain ⟨j,hj,hno2⟩:=i
   simp only
   repeat' (first|refine gs ?_|refine gs1 fun _=>?_|(refine gp ?_ ?_<;>intro hx_ this)|fail)
   · have hjl:j<P.length:=by omega
     have hp2:=hp1 ac
     obtain ⟨p,hpj⟩:∃ p,P[j]?=some p:=⟨_,List.getElem?_eq_getElem hjl⟩
     repeat' (first|refine gs ?_|refine gs1 fun _=>?_|(refine aA (q:=j*11) ?_)|(refine aY (cs:=p.cells) (hF:=fun w h=>Xe.row (hw w h.2) j p.cells (by simp [hpj])) ?_)|(refine gp ?_ ?_<;>intro hx_ this)|fail)
     · have hf:=tT hc hP hpj hno hno2 (by assumption)
       apply ae;refine cB rfl rfl rfl aC ?_
       · rfl
       exact ⟨p,by rw [hf];rfl,by rw [hf];rfl⟩
     · exact ⟨(⟨j+1,hjl,fun i q hi hq=>by
        by_cases e:i=j
        · subst e
          obtain rfl:=Option.some.inj (hpj.symm.trans hq)
          assumption
        · exact hno2 i q ac hq⟩:FinJ P id),(by show P.length-(j+1)<P.length-j;omega),ak an (List.Sublist.cons _ (al _)) fun _ h=>h⟩
   · exact ⟨(⟨k+1,hlt,fun i x hi hx q hq=>by
      by_cases e:i=k
      · subst e
        obtain rfl:=Option.some.inj (hc.symm.trans hx)
        rw [←hP] at hq
        obtain ⟨p,hpm,rfl⟩:=List.mem_map.1 hq
        obtain ⟨j2,hj2⟩:=List.mem_iff_getElem?.1 hpm
        exact hno2 j2 p (by have:=(List.getElem?_eq_some_iff.1 hj2).1;omega) hj2
      · exact hno i x ac hx q hq⟩:FinI l id),(by show l.length-(k+1)<l.length-k;omega),ak an (al _) fun _ h=>h.1⟩
 · have hf:findPV l id=none:=oT fun c hc q hq=>by
    obtain ⟨i,hi⟩:=List.mem_iff_getElem?.1 hc
    exact hno i c (by have:=(List.getElem?_eq_some_iff.1 hi).1;omega) hi q hq
   repeat' (first|refine gs ?_|refine gs1 fun _=>?_|(refine aL ?_)|fail)
   apply ae;refine cB rfl rfl rfl aC ?_
   · rfl
   exact ⟨Xd.zero,by rw [hf];rfl,by rw [hf];rfl⟩
structure ChOk (c:Xa):Prop where
 acts:Xx c.actsL
 len:c.actsL.length≤1000000
 to:∀ x∈c.actsL,x.to.n≤1000000
structure HisI (m:Nat) where
 k:Nat
 hk:k≤m
 A:Option Addr
 c:Nat
end Go.Proofs.YtgffbiobmamobaaGreatDoor
namespace Go.Proofs.YtgffbiobmamobaaGreatDoor
open Go Go.Proofs Sy
section
variable {P:Program} {N:Nat} {av bor:List Nat} {w0:World} {E:Env} {loc:List Xl} {X:World→Prop}
theorem eQ {k:IntKind} {a b:Int} {st:St} {t t2 ty:TypeId} {x y:Operand} [hI:Xu P t k] (v:Bool) (hx:ev st.env x=some (.int k a)) (hy:ev st.env y=some (.int k b)) (hv:decide (b<a)=v):Sy.Yields P N av bor w0 st (.binOp .gtr t x y t2) ty (.bool v):=hv▸jn hx hy
end
end Go.Proofs.YtgffbiobmamobaaGreatDoor
namespace Go.Proofs.YtgffbiobmamobaaGreatDoor
open Go Go.Proofs Sy
structure RowA (n:Nat) where
 k:Nat
 hk:k≤n
 A:Option Addr
 c:Nat
theorem U8s.part {w:World} {s:Xi} {l:List Nat} (h:U8s w s l) {i n:Nat} (hi:i+n≤l.length):U8s w ⟨(s.from 1 i).p,n,s.c-i⟩ ((l.drop i).take n):=by
 have h1:=Xe.drop h (n:=i) (by rw [List.length_map];omega)
 rw [←List.map_drop] at h1
 have h2:=Xe.take h1 (n:=n) (by rw [List.length_map,List.length_drop];omega)
 rw [←List.map_take] at h2
 exact h2
section
variable {P:Program} {N:Nat} {av bor:List Nat} {w0:World} {st:St} {ty:TypeId} {x y z:Operand} {t t2:TypeId} {a b:Nat}
end
structure ShaI (L:List Nat) (m:Nat) where
 k:Nat
 hk:k≤m
 s:Xi
 S:S8
 lt:S.Lt
 run:runN (m-k) S (L.drop (64*k))=runN m iniN L
end Go.Proofs.YtgffbiobmamobaaGreatDoor
namespace Go.Proofs.YtgffbiobmamobaaGreatDoor
open Go Go.Proofs Sy
section
variable {N:Nat} {av bor:List Nat} {w0:World} {ops:Array Oper} {rest:List Oper} {kk:St→Prop} {E:Env} {loc:List Xl} {X:World→Prop} {n:Nat} {ty t2:TypeId} {pos:String} {af:Array Edge} {g:Option (Nat×Bool)} {bb want:Bool} {x y:Operand} {a b c d:Int}
end
end Go.Proofs.YtgffbiobmamobaaGreatDoor

namespace Go.Proofs.YtgffbiobmamobaaGreatDoor
open Go Go.Proofs Sy
section
variable {H:Type} {enc:TypeId×Value→H} {P:Program} {w:World} {base:Nat} {spare:Nat→Bool} {held:Bool}
end
end Go.Proofs.YtgffbiobmamobaaGreatDoor
namespace Go.Proofs.YtgffbiobmamobaaGreatDoor
open Go Go.Proofs Sy Go.RowKit Go.Deep Go.ChangeShapes
section
variable {H:Type} {enc:TypeId×Value→H} {P:Program} {w:World} {base:Nat} {spare:Nat→Bool} {held:Bool}
end
end Go.Proofs.YtgffbiobmamobaaGreatDoor
namespace Go.Proofs.YtgffbiobmamobaaGreatDoor
open Go Go.Proofs Sy Go.Shelf
namespace Rf4
theorem iw:∀ f x:Nat,x<2 ^ f→x<2 ^ Lib.bitLenAux f x
 | 0,x,h=>h
 | f+1,x,h=>by
  rw [Lib.bitLenAux]
  split
  · rename_i h0
    rw [h0]
    decide
  · have h1:=iw f (x/2) (by rw [Nat.pow_succ] at h;omega)
    rw [Nat.pow_add]
    omega
theorem oX (a e:Nat):∀ i,(expF a e i).1=a ^ (e%2 ^ i)%2305843009213693951∧(expF a e i).2=a ^ 2 ^ i%2305843009213693951
 | 0=>by
  refine ⟨?_,?_⟩
  · show 1=_
    rw [Nat.pow_zero,Nat.mod_one,Nat.pow_zero]
  · show a%_=_
    rw [Nat.pow_zero,Nat.pow_one]
 | i+1=>by
  obtain ⟨h1,h2⟩:=oX a e i
  refine ⟨?_,?_⟩
  · show (bif decide (e/2 ^ i%2=1) then (expF a e i).1*(expF a e i).2%2305843009213693951 else (expF a e i).1)=_
    rw [Nat.mod_pow_succ,h1,h2]
    by_cases h:e/2 ^ i%2=1
    · rw [decide_eq_true h,cond_true,h,Nat.mul_one,Nat.pow_add,←Nat.mul_mod]
    · have h0:e/2 ^ i%2=0:=by omega
      rw [decide_eq_false h,cond_false,h0,Nat.mul_zero,Nat.add_zero]
  · show (expF a e i).2*(expF a e i).2%2305843009213693951=_
    rw [h2,←Nat.mul_mod,←Nat.pow_add,Nat.pow_succ,Nat.mul_two]
theorem expV_pow (a e:Nat) (he:e<9223372036854775808):expV a e=a ^ e%2305843009213693951:=by
 have h:e<2 ^ Lib.bitLen e:=iw 64 e ac
 rw [expV,(oX a e _).1,Nat.mod_eq_of_lt h]
end Rf4
end Go.Proofs.YtgffbiobmamobaaGreatDoor
