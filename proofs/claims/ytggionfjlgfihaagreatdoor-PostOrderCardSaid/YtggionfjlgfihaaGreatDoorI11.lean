/- Joined. -/
import Derived.Test.YtggionfjlgfihaaGreatDoorI0
import Derived.Test.YtggionfjlgfihaaGreatDoorI9
import Derived.Test.YtggionfjlgfihaaGreatDoorI10
import Derived.Test.YtggionfjlgfihaaGreatDoorI1
import Derived.Test.YtggionfjlgfihaaGreatDoorI7
import Derived.Test.YtggionfjlgfihaaGreatDoorI14
set_option linter.unusedVariables false
set_option linter.unusedSimpArgs false
set_option maxHeartbeats 16000000
namespace Go.Proofs.YtggionfjlgfihaaGreatDoor
open Go Go.Proofs Sy
section
variable {P:Program} {N:Nat} {av bor:List Nat} {w0:World} {E:Env} {loc:List Xk} {X:World→Prop} {K:Exit→St→Prop} {c:Code}
theorem sL {w:World}:∀ (P:List Xc),(∀ p∈P,p.ed=⟨none,0,0⟩∧p.edL=[])→Xq av bor w0 loc X w→Xq av bor w0 (P.map edR++loc) X w
 | [],_,G=>G
 | p::P,h,G=>by
  have h1:=h p ap
  have e:edR p=orow 3 1 (.slice none 0 0) 0 []:=by rw [edR,h1.1,h1.2];rfl
  rw [List.map_cons,e]
  exact (sL P (fun q hq=>h q (List.mem_cons_of_mem _ hq)) G).nilRow _ _
theorem A0 (L:List Xc) (hz:∀ p∈L,p.ed=⟨none,0,0⟩∧p.edL=[]) (h:Cw P N av bor w0 c ⟨E,L.map edR++loc,X⟩ K):Cw P N av bor w0 c ⟨E,loc,X⟩ K:=Cw.mk fun a w ok=>h.run a w (ok.via fun M G=>by
 have:=sL L hz G
 rwa [←List.append_assoc] at this)
theorem zE {l:List Xk} (hs:loc.Perm l) (h:Cw P N av bor w0 c ⟨E,l,X⟩ K):Cw P N av bor w0 c ⟨E,loc,X⟩ K:=Cw.mk fun a w ok=>h.run a w (ok.via fun M G=>G.perm (hs.append_right M))
theorem jz {st:St} {ty:TypeId} {fn:Fn} {xs:List Operand} {vs:List Value} (hx:evs st.env xs=some vs):Sy.Yields P N av bor w0 st (.makeFunc fn xs.toArray #[]) ty (.func fn vs.toArray #[]):=Sy.Yields.mk fun A w ok d pos af g=>by
 have e:=fo (E:=st.env) (loc:=st.loc) (X:=st.ext) ok xs vs hx
 have e1:xs.toArray.map A.eval=vs.toArray:=by rw [List.map_toArray,e]
 simp [execOp,Instr.makeFunc,e1,e]
theorem rC {p:Prop} (hp:∀ w,(∀ r∈loc,r.F w)→p) (h:p→Cw P N av bor w0 c ⟨E,loc,X⟩ K):Cw P N av bor w0 c ⟨E,loc,X⟩ K:=Cw.mk fun a w ok=>(h (hp w fun r hr=>(ok.gam.here r hr).now)).run a w ok
end
theorem Eh.len {P Q:List Xc} (h:Eh P Q):Q.length=P.length:=by have:=congrArg List.length h.to;simpa using this
theorem Eh.trans {P Q R:List Xc} (h:Eh P Q) (k:Eh Q R):Eh P R:=⟨k.to.trans h.to⟩
theorem Eh.pos {P Q:List Xc} (h:Eh P Q) (j:Nat):posP Q j=posP P j:=by
 have e:∀ L:List Xc,posP L j=(L.map fun p=>(p.to,p.toL,p.pos)).findIdx? fun t=>t.2.2==j:=fun L=>by rw [posP,List.findIdx?_map];rfl
 rw [e,e,h.to]
theorem Eh.mem {P Q:List Xc} (h:Eh P Q) {p:Xc} (hp:p∈Q):∃ q∈P,q.to=p.to∧q.toL=p.toL:=by
 have h1:(p.to,p.toL,p.pos)∈Q.map fun p=>(p.to,p.toL,p.pos):=List.mem_map_of_mem (f:=fun p:Xc=>(p.to,p.toL,p.pos)) hp
 rw [h.to] at h1
 obtain ⟨q,hq,e⟩:=List.mem_map.1 h1
 simp only [Prod.mk.injEq] at e
 exact ⟨q,hq,e.1,e.2.1⟩
theorem sB {P:List Xc} {o:Option Nat} {f:Xc→Xc} {m:Nat} (h:∀ p∈P,p.edL.length≤m) (hf:∀ p:Xc,(f p).edL.length≤p.edL.length+1):∀ p∈modP P o f,p.edL.length≤m+1:=fun p hp=>by
 cases o with
 | none=>exact Nat.le_succ_of_le (h p hp)
 | some n =>
  rcases List.mem_or_eq_of_mem_set hp with hp|rfl
  · exact Nat.le_succ_of_le (h p hp)
  · refine Nat.le_trans (hf _) ?_
    by_cases hn:n<P.length
    · have:=h (P.getD n Xc.zero) (by rw [List.getD_eq_getElem?_getD,List.getElem?_eq_getElem hn];exact List.getElem_mem hn)
      omega
    · rw [List.getD_eq_getElem?_getD,List.getElem?_eq_none (by omega)]
      exact Nat.succ_le_succ (Nat.zero_le m)
theorem pw (c:Xd):∀ i,∀ p∈openF c i,p.edL=[]
 | 0,p,h=>(List.not_mem_nil h).elim
 | i+1,p,h=>by
  rw [openF] at h
  rcases List.mem_append.1 h with h|h
  · exact pw c i p h
  · revert h
    cases postK (c.actsL.getD i Xa.zero).kind with
    | true=>intro h;rw [cond_true,List.mem_singleton] at h;subst h;rfl
    | false=>intro h;exact (List.not_mem_nil h).elim
theorem xS (a:Xa) (i:Nat) (p:Xc):(editP a i p).edL.length≤p.edL.length+1:=by
 rw [editP]
 cases editB a p with
 | true=>rw [cond_true];show (p.edL++[(i:Int)]).length≤_;rw [List.length_append];exact Nat.le_refl _
 | false=>exact Nat.le_succ _
theorem xb (c:Xd):∀ i,∀ p∈ofP c i,p.edL.length≤i
 | 0,p,h=>by rw [pw c _ p h];exact Nat.le_refl 0
 | i+1,p,h=>by
  have ih:=xb c i
  rw [ofP,stepP] at h
  revert h
  cases decide ((c.actsL.getD i Xa.zero).kind=13) with
  | true=>exact fun h=>sB (f:=goneP) ih (fun p=>Nat.le_succ _) p h
  | false =>
   cases decide ((c.actsL.getD i Xa.zero).kind=14) with
   | true=>exact fun h=>sB (f:=editP _ _) ih (xS _ _) p h
   | false=>exact fun h=>Nat.le_succ_of_le (ih p h)
theorem uW (a:Xa) (i:Nat) (p:Xc):(editP a i p).can=editP a i p.can:=by
 have h:editB a p.can=editB a p:=rfl
 rw [editP,editP,h]
 cases editB a p<;>rfl
theorem mT (a:Xa) (i:Nat) (p:Xc):(editP a i p).pos=p.pos:=by
 rw [editP]
 cases editB a p<;>rfl
theorem permD (c m2 m1 b1 po b0:Xk) (M:List Xk):(M++([c,m2,m1,b1,po]++[b0])).Perm ((c::m2::m1::po::M)++[b1,b0]):=by
 have h1:([c,m2,m1,b1,po]++[b0]).Perm ([c,m2,m1,po]++[b1,b0]):=(((List.Perm.swap po b1 [b0]).cons m1).cons m2).cons c
 have h2:=(List.perm_append_comm (l₁:=M) (l₂:=[c,m2,m1,b1,po]++[b0])).trans (h1.append_right M)
 rw [List.append_assoc] at h2
 exact h2.trans ((List.perm_append_comm (l₁:=[b1,b0]) (l₂:=M)).append_left [c,m2,m1,po])
theorem zn {P:Program} {f:FuncId} {args:Array Value} {X:World→Prop} {Φ Ψ:Value→(World→Prop)→Prop} (h:Mk P f args X Φ) (hp:∀ u X',Φ u X'→Ψ u X'):Mk P f args X Ψ:=by
 unfold Mk at *
 exact Ct.mono h fun v R X' ⟨a,b⟩=>⟨hp _ _ a,b⟩
theorem xy {w:World} {p:Xc} (hl:p.edL.length=p.ed.n) (h:(edR p).F w):Ints w p.ed p.edL:=by
 have h':ORow w 3 1 (.slice p.ed.p p.ed.n p.ed.c) p.ed.n (p.edL.map fun n=>[(.int .i64 n:Value)]).flatten:=by
  have e:(p.edL.map fun n=>[(.int .i64 n:Value)]).flatten=p.edL.map fun n=>(.int .i64 n:Value):=by
   induction p.edL with
   | nil=>rfl
   | cons a l ih=>rw [List.map_cons,List.flatten_cons,ih];rfl
  rw [e]
  exact h
 exact aV h' (by rw [List.length_map,hl]) fun r hr=>by
  obtain ⟨n,_,rfl⟩:=List.mem_map.1 hr
  rfl
def PostsAtS (c:Xd) (u:Value) (X:World→Prop):Prop:=∃ (s:Xj) (P:List Xc),u=s.v∧P.map Xc.can=postsV c∧P.length≤c.actsL.length∧∀ w,X w→Xe w 11 s (P.map Xc.cells)∧∀ p∈P,Strs w p.to p.toL∧Ints w p.ed p.edL
structure OfI (c:Xd) (P:List Xc) where
 k:Nat
 hk:k≤c.actsL.length
 Q:List Xc
 hQ:Q.map Xc.can=ofP c k
 hT:Eh P Q
theorem wY (c:Xd) (hc:Xt c.actsL) (hcl:c.actsL.length≤1000000):Mk Tryz.prog 33 #[c.v] (fun w=>c.at_ w∧Xf w) (PostsAtS c):=by
 refine cC Tryz.func33 Tryz.ntmps33 fun av bor w0=>?_
 refine aH (p:=c.acts.n=c.actsL.length∧c.acts.n≤maxLen∧(0<c.actsL.length→c.acts.p.isSome=true)) (fun w h=>⟨h.1.len_,h.1.max_,h.1.some_⟩) fun ⟨hl,hm,hp⟩=>?_
 simp only [maxLen] at hm
 repeat' (first|refine gs ?_|refine gs1 fun _=>?_|fail)
 refine vZ (hc:=yV c hc hcl) (hX:=fun w h=>h) ?_
 rintro _ _ X1 ⟨r,b,b1,q1,q2,hrk,rfl,rfl,hX1⟩
 repeat' (first|refine gs ?_|refine gs1 fun _=>?_|fail)
 have hrP:r.P.map Xc.can=openF c c.actsL.length:=by rw [←hrk];exact r.hP
 have hrl:r.P.length≤c.actsL.length:=by
  have h1:=ji c c.actsL.length
  rw [←hrP,List.length_map] at h1
  exact h1
 have hpl:∀ d,mget r.pl d=(idxV c.actsL d).map fun (j:Nat)=>Value.int .i64 (j:Int):=fun d=>by
  rw [r.hpl d,hrk,List.take_length]
 have hsn:r.s.n=r.P.length:=r.hn
 have hnum:=r.hnum
 have hz:=r.hz
 generalize hs:r.s=s at *
 generalize r.P=P at *
 generalize r.pl=pl at *
 generalize r.num=num at *
 rename_i b0
 refine A0 P hz ?_
 refine zE (permD _ _ _ _ _ _ _) ?_
 refine am (ι:=OfI c P) (fun i=>⟨[(3,.pointer (some ⟨b,0,none⟩)),(9,c.acts.v),(10,.int .i64 (c.acts.n:Nat)),(11,.int .i64 (i.k:Nat))],cel b 145 (regC c s.v q1 q2)::mapr q2 pl::mapr q1 num::postR s i.Q::i.Q.map edR,fun w=>(c.at_ w∧Xf w)∧∀ p∈P,Strs w p.to p.toL⟩) (fun i=>c.actsL.length-i.k)
  ⟨0,Nat.zero_le _,P,hrP,⟨rfl⟩⟩ (ae al (List.sublist_append_left _ _) fun w h=>⟨h.1,hX1 w h.2⟩) fun i=>?_
 obtain ⟨k,hk,Q,hQ,hT⟩:=i
 simp only
 have hQl:=hT.len
 have hsQ:s.n=Q.length:=by omega
 refine rC (p:=∀ p∈Q,p.edL.length=p.ed.n) (fun w hr p hp=>by
  have h1:=(hr (edR p) (List.mem_cons_of_mem _ (List.mem_cons_of_mem _ (List.mem_cons_of_mem _ (List.mem_cons_of_mem _ (List.mem_map_of_mem hp)))))).1
  simpa using h1) fun hed=>?_
 have hsto:∀ w,(∀ p∈P,Strs w p.to p.toL)→∀ p∈Q,Strs w p.to p.toL:=fun w h p hp=>by
  obtain ⟨q,hq,e1,e2⟩:=hT.mem hp
  rw [←e1,←e2]
  exact h q hq
 have hnQ:∀ j:Nat,mget num (j:Int)=(posP Q j).map fun (n:Nat)=>Value.int .i64 (n:Int):=fun j=>by rw [hT.pos j];exact hnum j
 have hem:∀ p∈Q,p.ed.n≤1000000:=fun p hp=>by
  have h1:=xb c k p.can (by rw [←hQ];exact List.mem_map_of_mem hp)
  have h2:p.edL.length≤k:=h1
  have h3:=hed p hp
  omega
 repeat' (first|refine gs ?_|refine gs1 fun _=>?_|(refine gp ?_ ?_<;>intro hx_ this)|fail)
 · have hlt:k<c.actsL.length:=by omega
   have hp':=hp aa
   obtain ⟨x,hx⟩:∃ x,c.actsL[k]?=some x:=⟨_,List.getElem?_eq_getElem hlt⟩
   have hxD:c.actsL.getD k Xa.zero=x:=by rw [List.getD_eq_getElem?_getD,hx];rfl
   by_cases h13:x.kind=13
   · repeat' (first|refine bp ?_|refine bo ?_|refine gs ?_|refine gs1 fun _=>?_|(refine aE (q:=k*20) ?_)|(refine aS (cs:=x.cells) (hF:=fun w h=>Acts.get h.1.1 hx) ?_)|(refine ak (jz (xs:=[_]) (vs:=[_]) rfl) rfl rfl rfl ?_)|(refine gp ?_ ?_<;>intro hx_ this)|fail)
     rename_i b5
     refine bX (List.perm_append_singleton _ _).symm ?_
     refine aZ (first:=#[]) (caps:=#[]) (pre:=[cel b 145 (regC c s.v q1 q2),mapr q2 pl,mapr q1 num,postR s Q]++Q.map edR) (fr:=[cel b5 37 x.cells]) (hc:=pb c s Q b q1 q2 k 79 ⟨ac⟩ pl num x (goneP) hsQ hx aa hpl hnQ hcl aa (fun p=>rfl) (fun p=>rfl) (fun n p hn=>o0 _ s Q n p _ k hsQ hn)) (hX:=fun w h=>⟨h.1,hsto w h.2⟩) (h:=?_)
     rintro _ _ X' ⟨rfl,Q',ex,hcan,hto,rfl⟩
     have HQ:Q'.map Xc.can=ofP c (k+1):=by
      rw [hcan,ofP,stepP,hxD,decide_eq_true h13,cond_true,←hQ,pc]
     repeat' (first|refine bp ?_|refine bo ?_|refine gs ?_|refine gs1 fun _=>?_|(refine gp ?_ ?_<;>intro hx_ this)|fail)
     exact ⟨(⟨k+1,hlt,Q',HQ,hT.trans hto⟩:OfI c P),(by show c.actsL.length-(k+1)<c.actsL.length-k;omega),ae al ((List.sublist_append_right ex _).trans (List.sublist_append_left _ _)) fun w h=>h.1⟩
   by_cases h14:x.kind=14
   · repeat' (first|refine bp ?_|refine bo ?_|refine gs ?_|refine gs1 fun _=>?_|(refine aE (q:=k*20) ?_)|(refine aS (cs:=x.cells) (hF:=fun w h=>Acts.get h.1.1 hx) ?_)|(refine ak (jz (xs:=[_]) (vs:=[_]) rfl) rfl rfl rfl ?_)|(refine gp ?_ ?_<;>intro hx_ this)|fail)
     rename_i b5
     refine bX (List.perm_append_singleton _ _).symm ?_
     refine aZ (first:=#[]) (caps:=#[]) (pre:=[cel b 145 (regC c s.v q1 q2),mapr q2 pl,mapr q1 num,postR s Q]++Q.map edR) (fr:=[cel b5 37 x.cells]) (hc:=pb c s Q b q1 q2 k 80 ⟨ac⟩ pl num x (editP x k) hsQ hx aa hpl hnQ hcl aa (uW x k) (mT x k) (fun n p hn=>uV c s Q n p b q1 q2 k x hsQ hn hx aa (hed p (List.mem_of_getElem? hn)).symm (hem p (List.mem_of_getElem? hn)))) (hX:=fun w h=>⟨h.1,hsto w h.2⟩) (h:=?_)
     rintro _ _ X' ⟨rfl,Q',ex,hcan,hto,rfl⟩
     have HQ:Q'.map Xc.can=ofP c (k+1):=by
      rw [hcan,ofP,stepP,hxD,decide_eq_false h13,cond_false,decide_eq_true h14,cond_true,←hQ,pc]
     repeat' (first|refine bp ?_|refine bo ?_|refine gs ?_|refine gs1 fun _=>?_|(refine gp ?_ ?_<;>intro hx_ this)|fail)
     exact ⟨(⟨k+1,hlt,Q',HQ,hT.trans hto⟩:OfI c P),(by show c.actsL.length-(k+1)<c.actsL.length-k;omega),ae al ((List.sublist_append_right ex _).trans (List.sublist_append_left _ _)) fun w h=>h.1⟩
   · have HQ:Q.map Xc.can=ofP c (k+1):=by
      rw [ofP,stepP,hxD,decide_eq_false h13,cond_false,decide_eq_false h14,cond_false]
      exact hQ
     repeat' (first|refine bo ?_|refine gs ?_|refine gs1 fun _=>?_|(refine aE (q:=k*20) ?_)|(refine aS (cs:=x.cells) (hF:=fun w h=>Acts.get h.1.1 hx) ?_)|(refine gp ?_ ?_<;>intro hx_ this)|fail)
     exact ⟨(⟨k+1,hlt,Q,HQ,hT⟩:OfI c P),(by show c.actsL.length-(k+1)<c.actsL.length-k;omega),ae al (List.Sublist.cons _ (aj _)) fun w h=>h⟩
 · have hkE:k=c.actsL.length:=by omega
   exact ab (ai rfl rfl) ⟨s,Q,rfl,by rw [hQ,hkE];rfl,by omega,fun w h=>⟨aV (h.2 (postR s Q) (List.mem_cons_of_mem _ (List.mem_cons_of_mem _ (List.mem_cons_of_mem _ ap)))) (by simp [hsQ]) (cells11 Q),fun p hp=>⟨hsto w h.1.2 p hp,xy (hed p hp) (h.2 (edR p) (List.mem_cons_of_mem _ (List.mem_cons_of_mem _ (List.mem_cons_of_mem _ (List.mem_cons_of_mem _ (List.mem_map_of_mem hp))))))⟩⟩⟩
end Go.Proofs.YtggionfjlgfihaaGreatDoor
namespace Go.Proofs.YtggionfjlgfihaaGreatDoor
open Go Go.Proofs Sy
def posL (P:List Xc):List Nat:=P.map Xc.pos
theorem k8 (c:Xd):∀ i,(posL (openF c i)).Pairwise (·<·)∧∀ x∈posL (openF c i),x<i
 | 0=>⟨List.Pairwise.nil,fun x h=>(List.not_mem_nil h).elim⟩
 | i+1=>by
  obtain ⟨h1,h2⟩:=k8 c i
  rw [openF]
  cases postK (c.actsL.getD i Xa.zero).kind with
  | false =>
   rw [cond_false,List.append_nil]
   exact ⟨h1,fun x hx=>Nat.lt_succ_of_lt (h2 x hx)⟩
  | true =>
   rw [cond_true,posL,List.map_append]
   refine ⟨List.pairwise_append.2 ⟨h1,List.pairwise_singleton _ _,fun x hx y hy=>?_⟩,fun x hx=>?_⟩
   · rw [List.map_cons,List.map_nil,List.mem_singleton] at hy
     subst hy
     exact h2 x hx
   · rcases List.mem_append.1 hx with hx|hx
     · exact Nat.lt_succ_of_lt (h2 x hx)
     · rw [List.map_cons,List.map_nil,List.mem_singleton] at hx
       subst hx
       exact Nat.lt_succ_self _
theorem si {P:List Xc} {n:Nat} {p:Xc} (h:P[n]?=some p):(posL P)[n]?=some p.pos:=by rw [posL,List.getElem?_map,h];rfl
theorem wm {P:List Xc} {n:Nat} {p:Xc} (h:n<P.length→p.pos=(P.getD n Xc.zero).pos):posL (P.set n p)=posL P:=by
 rw [posL,posL,List.map_set]
 by_cases hn:n<P.length
 · rw [h hn]
   refine List.ext_getElem? fun i=>?_
   rw [List.getElem?_set]
   by_cases e:n=i
   · subst e
     rw [if_pos rfl,List.length_map,if_pos hn,List.getElem?_map,List.getD_eq_getElem?_getD,List.getElem?_eq_getElem hn]
     rfl
   · rw [if_neg e]
 · rw [List.set_eq_of_length_le (by rw [List.length_map];omega)]
theorem mE {P:List Xc} {o:Option Nat} {f:Xc→Xc} (hf:∀ p,(f p).pos=p.pos):posL (modP P o f)=posL P:=by
 cases o with
 | none=>rfl
 | some n=>exact wm fun _=>hf _
theorem iH (c:Xd):∀ i,posL (ofP c i)=posL (openF c c.actsL.length)
 | 0=>rfl
 | i+1=>by
  rw [ofP,stepP]
  cases decide ((c.actsL.getD i Xa.zero).kind=13)
  · cases decide ((c.actsL.getD i Xa.zero).kind=14)
    · exact iH c i
    · exact (mE fun p=>mT _ _ p).trans (iH c i)
  · exact (mE (f:=goneP) fun p=>rfl).trans (iH c i)
theorem kX (c:Xd):(posL (postsV c)).Pairwise (·<·)∧∀ x∈posL (postsV c),x<c.actsL.length:=by
 rw [postsV,iH]
 exact k8 c _
theorem wM {P:List Xc} (h:(posL P).Pairwise (·<·)) {i j:Nat} {p q:Xc} (hi:P[i]?=some p) (hj:P[j]?=some q) (e:p.pos=q.pos):i=j:=by
 have hi':=(List.getElem?_eq_some_iff.1 (si hi))
 have hj':=(List.getElem?_eq_some_iff.1 (si hj))
 obtain ⟨a1,a2⟩:=hi'
 obtain ⟨b1,b2⟩:=hj'
 rw [List.pairwise_iff_getElem] at h
 rcases Nat.lt_trichotomy i j with hl|hl|hl
 · have:=h i j a1 b1 hl
   rw [a2,b2] at this
   omega
 · exact hl
 · have:=h j i b1 a1 hl
   rw [a2,b2] at this
   omega
instance:Xs Tryz.prog 54 11:=⟨ac⟩
def isPost (id:ByteArray) (p:Xc):Bool:=seqB p.id id
def findPV (l:List Xd) (id:ByteArray):Option Xc:=(l.flatMap postsV).find? (isPost id)
theorem jR {l:List Xd} {id:ByteArray} (h:∀ c∈l,∀ p∈postsV c,isPost id p=false):findPV l id=none:=by
 rw [findPV,List.find?_eq_none]
 intro p hp
 obtain ⟨c,hc,h1⟩:=List.mem_flatMap.1 hp
 rw [h c hc p h1]
 decide
theorem uQ {l:List Xd} {id:ByteArray} {k j:Nat} {c:Xd} {P:List Xc} {p:Xc} (hc:l[k]?=some c) (hP:P.map Xc.can=postsV c) (hp:P[j]?=some p) (h1:∀ i x,i<k→l[i]?=some x→∀ q∈postsV x,isPost id q=false) (h2:∀ i q,i<j→P[i]?=some q→isPost id q=false) (h3:isPost id p=true) :
  findPV l id=some p.can:=by
 obtain ⟨hk,rfl⟩:=List.getElem?_eq_some_iff.1 hc
 have e:l=l.take k++l[k]::l.drop (k+1):=by rw [←List.drop_eq_getElem_cons hk,List.take_append_drop]
 rw [findPV,e,List.flatMap_append,List.flatMap_cons,List.find?_append,List.find?_append,List.find?_eq_none.2 (fun q hq=>by
  obtain ⟨x,hx,hq⟩:=List.mem_flatMap.1 hq
  obtain ⟨i,hi⟩:=List.mem_iff_getElem?.1 hx
  rw [List.getElem?_take] at hi
  split at hi
  · rename_i hik
    rw [h1 i x hik hi q hq]
    decide
  · cases hi),Option.none_or]
 have e2:(postsV l[k]).find? (isPost id)=some p.can:=by
  rw [←hP,List.find?_map]
  have e3:(isPost id ∘ Xc.can)=isPost id:=rfl
  rw [e3]
  obtain ⟨hj,rfl⟩:=List.getElem?_eq_some_iff.1 hp
  have e4:P.find? (isPost id)=some P[j]:=by
   rw [List.find?_eq_some_iff_getElem]
   refine ⟨h3,j,hj,rfl,fun i hi=>?_⟩
   rw [h2 i P[i] hi (List.getElem?_eq_getElem aa)]
   decide
  rw [e4]
  rfl
 rw [e2]
 rfl
structure FinI (l:List Xd) (id:ByteArray) where
 k:Nat
 hk:k≤l.length
 no:∀ i x,i<k→l[i]?=some x→∀ q∈postsV x,isPost id q=false
structure FinJ (P:List Xc) (id:ByteArray) where
 j:Nat
 hj:j≤P.length
 no:∀ i q,i<j→P[i]?=some q→isPost id q=false
theorem wt (s r:Xj) (l m:List ByteArray):Pu Tryz.prog 37 #[s.v,r.v] (fun w=>Strs w s l∧Strs w r m) (.bool (eqL l m)):=by
 refine ar Tryz.func37 Tryz.ntmps37 fun av bor w0=>?_
 refine aH (p:=(s.n=l.length∧s.n≤maxLen∧(0<l.length→s.p.isSome=true))∧(r.n=m.length∧r.n≤maxLen∧(0<m.length→r.p.isSome=true))) (fun w h=>⟨⟨h.1.len_,Nat.le_trans (Xe.cap h.1) (Xe.max h.1),h.1.some_⟩,⟨h.2.len_,Nat.le_trans (Xe.cap h.2) (Xe.max h.2),h.2.some_⟩⟩) fun ⟨⟨hl,hm,hp⟩,⟨hl',hm',hp'⟩⟩=>?_
 simp only [maxLen] at hm hm'
 repeat' (first|refine gs ?_|(refine gp ?_ ?_<;>intro hx_ this)|fail)
 · apply ab;apply ai;rfl;rfl
   have:¬ l.length=m.length:=by
    have h1:¬ (s.n:Int)=(r.n:Int):=by simpa using hx_
    omega
   simp only [eqL,decide_eq_false this,Bool.false_and]
 have hlm:l.length=m.length:=by
  have h1:(s.n:Int)=(r.n:Int):=by simpa using hx_
  omega
 refine am (ι:=Ed l.length (eqBad l m)) (fun i=>⟨[(0,s.v),(1,r.v),(5,.int .i64 i.k)],[],fun w=>Strs w s l∧Strs w r m⟩) (fun i=>l.length-i.k) (Ed.zero _ _) (ae (by repeat (first|exact trivial|refine ⟨rfl,?_⟩)) (aj _) fun _ h=>h) fun i=>?_
 have hik:=i.hk
 repeat' (first|refine gs ?_|(refine gp ?_ ?_<;>intro hx_ this)|fail)
 · have hlt:i.k<l.length:=by omega
   have hlt':i.k<m.length:=by omega
   have hp1:=hp aa
   have hp2:=hp' aa
   (refine bE ⟨[0,1,2,3,4,5,6,7,8],[]⟩ (h:=?_))
   all_goals repeat' (first|refine gd ?_|refine ax (hy:=by first|(apply aG (q:=i.k);rfl;rfl;omega;omega;assumption;omega)|(apply de;rfl;exact fun w h=>Strs.get h.1 hlt)|(apply de;rfl;exact fun w h=>Strs.get h.2 hlt')) ?_|refine ay ?_ (h':=?_)|exact az|(refine gq ?_ ?_<;>intro hx_ this)|fail)
   repeat' (first|refine gs ?_|(refine gp ?_ ?_<;>intro hx_ this)|fail)
   · apply ab;apply ai;rfl;rfl
     rw [eqL,eS hlt (by assumption),Bool.and_false]
   · exact ⟨i.next hlt (by assumption),(by show l.length-(i.k+1)<l.length-i.k;omega),ae (by repeat (first|exact trivial|refine ⟨rfl,?_⟩)) (aj _) fun _ h=>h⟩
 · apply ab;apply ai;rfl;rfl
   rw [eqL,i.all aa,decide_eq_true hlm]
   rfl
theorem wu (s r:Xj) (l:List Int):Pu Tryz.prog 38 #[s.v,r.v] (fun w=>Ints w s l∧Ints w r l) (.bool true):=by
 refine ar Tryz.func38 Tryz.ntmps38 fun av bor w0=>?_
 refine aH (p:=(s.n=l.length∧s.n≤maxLen∧(0<l.length→s.p.isSome=true))∧(r.n=l.length∧r.n≤maxLen∧(0<l.length→r.p.isSome=true))) (fun w h=>⟨⟨h.1.len_,Nat.le_trans (Xe.cap h.1) (Xe.max h.1),h.1.some_⟩,⟨h.2.len_,Nat.le_trans (Xe.cap h.2) (Xe.max h.2),h.2.some_⟩⟩) fun ⟨⟨hl,hm,hp⟩,⟨hl',hm',hp'⟩⟩=>?_
 simp only [maxLen] at hm hm'
 repeat' (first|refine dP ?_|refine gs ?_|(refine gp ?_ ?_<;>intro hx_ this)|fail)
 refine am (ι:=Kth l.length) (fun i=>⟨[(0,s.v),(1,r.v),(5,.int .i64 i.k)],[],fun w=>Ints w s l∧Ints w r l⟩) (fun i=>l.length-i.k) ⟨0,Nat.zero_le _⟩ (ae (by repeat (first|exact trivial|refine ⟨rfl,?_⟩)) (aj _) fun _ h=>h) fun i=>?_
 have hik:=i.hk
 repeat' (first|refine gs ?_|(refine gp ?_ ?_<;>intro hx_ this)|fail)
 · have hlt:i.k<l.length:=by omega
   have hp1:=hp aa
   have hp2:=hp' aa
   (refine bE ⟨[0,1,2,3,4,5,6,7,8],[]⟩ (h:=?_))
   all_goals repeat' (first|refine gd ?_|refine ax (hy:=by first|(apply aG (q:=i.k);rfl;rfl;omega;omega;assumption;omega)|(apply de;rfl;exact fun w h=>Ints.get h.1 hlt)|(apply de;rfl;exact fun w h=>Ints.get h.2 hlt)) ?_|refine ay ?_ (h':=?_)|exact az|(refine gq ?_ ?_<;>intro hx_ this)|fail)
   repeat' (first|refine gs ?_|(refine gp ?_ ?_<;>intro hx_ this)|fail)
   all_goals first
    | (exfalso;simp at hx_;done)
    | exact ⟨(⟨i.k+1,hlt⟩:Kth l.length),(by show l.length-(i.k+1)<l.length-i.k;omega),ae (by repeat (first|exact trivial|refine ⟨rfl,?_⟩)) (aj _) fun _ h=>h⟩
 · exact ab (ai rfl rfl) rfl
theorem mr (p q:Xc) (h:p.can=q.can):Pu Tryz.prog 14 #[p.v,q.v] (fun w=>(Strs w p.to p.toL∧Ints w p.ed p.edL)∧(Strs w q.to q.toL∧Ints w q.ed q.edL)) (.bool true):=by
 refine ar Tryz.func14 Tryz.ntmps14 fun av bor w0=>?_
 simp only [Xc.can,Xc.mk.injEq,true_and] at h
 obtain ⟨e1,e2,e3,e4,e5,e6,e7,e8,e9,e10,e11⟩:=h
 have hq:q.v=.agg #[.string p.id,.string p.author,.int .i64 (p.pos:Nat),.int .i64 p.kind,.int .i64 p.scope,.string p.group,q.to.v,.string p.object,.int .i64 p.time,q.ed.v,.bool p.gone]:=by rw [Xc.v,Xc.cells,←e1,←e2,←e3,←e4,←e5,←e6,←e7,←e8,←e9]
 have hp:p.v=.agg #[.string p.id,.string p.author,.int .i64 (p.pos:Nat),.int .i64 p.kind,.int .i64 p.scope,.string p.group,p.to.v,.string p.object,.int .i64 p.time,p.ed.v,.bool p.gone]:=rfl
 rw [hq,hp]
 have h1:=wt p.to q.to p.toL q.toL
 rw [←e10,pX] at h1
 have h2:=wu p.ed q.ed p.edL
 rw [←e10,←e11]
 clear hq hp
 cases p.gone
 all_goals
  repeat' (first|refine bp (hab:=rfl) ?_|refine yF (r:=true) (hr:=rfl) ?_|refine aO ?_ (cw true rfl rfl (be _))|(refine ag (hc:=h1) (hX:=fun w h=>⟨h.1.1,h.2.1⟩) ?_)|(refine ag (hc:=h2) (hX:=fun w h=>⟨h.1.2,h.2.2⟩) ?_)|refine gs ?_|refine gs1 fun _=>?_|(refine gp ?_ ?_<;>intro hx_ this)|fail)
  all_goals exact ab (ai rfl rfl) rfl
def FoundAtS (l:List Xd) (id:ByteArray) (u:Value) (X:World→Prop):Prop:=∃ p:Xc,u=.tuple #[p.v,.bool (findPV l id).isSome]∧p.can=(findPV l id).getD Xc.zero∧∀ w,X w→Strs w p.to p.toL∧Ints w p.ed p.edL
theorem pV (s:Xj) (l:List Xd) (id:ByteArray) (hok:∀ c∈l,Xt c.actsL) (hlen:∀ c∈l,c.actsL.length≤1000000):Mk Tryz.prog 12 #[s.v,.string id] (fun w=>Chains w s l∧Xf w) (FoundAtS l id):=by
 refine cC Tryz.func12 Tryz.ntmps12 fun av bor w0=>?_
 refine aH (p:=s.n=l.length∧s.n≤maxLen∧(0<l.length→s.p.isSome=true)) (fun w h=>⟨h.1.len_,h.1.max_,h.1.some_⟩) fun ⟨hl,hm,hp⟩=>?_
 simp only [maxLen] at hm
 repeat' (first|refine gs ?_|refine gs1 fun _=>?_|fail)
 rename_i b
 refine am (ι:=FinI l id) (fun i=>⟨[(1,.string id),(4,.pointer (some ⟨b,0,none⟩)),(10,s.v),(11,.int .i64 (s.n:Nat)),(12,.int .i64 (i.k:Nat))],[cel b 54 Xc.zero.cells],fun w=>Chains w s l∧Xf w⟩) (fun i=>l.length-i.k) ⟨0,Nat.zero_le _,fun i x h=>absurd h (Nat.not_lt_zero _)⟩ (ae al (aj _) fun _ h=>h) fun i=>?_
 obtain ⟨k,hk,hno⟩:=i
 simp only
 repeat' (first|refine gs ?_|refine gs1 fun _=>?_|(refine gp ?_ ?_<;>intro hx_ this)|fail)
 · have hlt:k<l.length:=by omega
   have hp':=hp aa
   obtain ⟨c,hc⟩:∃ c,l[k]?=some c:=⟨_,List.getElem?_eq_getElem hlt⟩
   have hcm:=List.mem_of_getElem? hc
   have hof:=wY c (hok c hcm) (hlen c hcm)
   repeat' (first|(refine bm (hc:=hof) (hX:=fun w h=>⟨h.1.2 c hcm,h.2⟩) fun v1 X1 h1=>?_;obtain ⟨s1,P,rfl,hP,hPl,hw⟩:=h1)|refine gs ?_|refine gs1 fun _=>?_|(refine aE (q:=k*6) ?_)|(refine aS (cs:=c.cells) (hF:=fun w h=>Chains.get h.1 hc) ?_)|(refine gp ?_ ?_<;>intro hx_ this)|fail)
   refine aH (p:=s1.n=P.length∧s1.n≤maxLen∧(0<P.length→s1.p.isSome=true)) (fun w h=>⟨by simpa using Xe.len (hw w h.2).1,Nat.le_trans (Xe.cap (hw w h.2).1) (Xe.max (hw w h.2).1),fun h0=>(Xe.row (hw w h.2).1 0 P[0].cells (by simp [List.getElem?_eq_getElem h0])).2.1⟩) fun ⟨hl1,hm1,hp1⟩=>?_
   simp only [maxLen] at hm1
   refine am (ι:=FinJ P id) (fun i=>⟨[(1,.string id),(4,.pointer (some ⟨b,0,none⟩)),(10,s.v),(11,.int .i64 (s.n:Nat)),(12,.int .i64 (k:Nat)),(17,s1.v),(18,.int .i64 (s1.n:Nat)),(19,.int .i64 (i.j:Nat))],[cel b 54 Xc.zero.cells],fun w=>(Chains w s l∧Xf w)∧X1 w⟩) (fun i=>P.length-i.j) ⟨0,Nat.zero_le _,fun i x h=>absurd h (Nat.not_lt_zero _)⟩ (ae al (List.Sublist.cons _ (aj _)) fun _ h=>h) fun i=>?_
   obtain ⟨j,hj,hno2⟩:=i
   simp only
   repeat' (first|refine gs ?_|refine gs1 fun _=>?_|(refine gp ?_ ?_<;>intro hx_ this)|fail)
   · have hjl:j<P.length:=by omega
     have hp2:=hp1 aa
     obtain ⟨p,hpj⟩:∃ p,P[j]?=some p:=⟨_,List.getElem?_eq_getElem hjl⟩
     repeat' (first|refine gs ?_|refine gs1 fun _=>?_|(refine aE (q:=j*11) ?_)|(refine aS (cs:=p.cells) (hF:=fun w h=>Xe.row (hw w h.2).1 j p.cells (by simp [hpj])) ?_)|(refine gp ?_ ?_<;>intro hx_ this)|fail)
     · have hf:=uQ hc hP hpj hno hno2 (by assumption)
       apply ab;refine bC rfl rfl rfl aL ?_
       · rfl
       exact ⟨p,by rw [hf];rfl,by rw [hf];rfl,fun w h=>(hw w h.1.2).2 p (List.mem_of_getElem? hpj)⟩
     · exact ⟨(⟨j+1,hjl,fun i q hi hq=>by
        by_cases e:i=j
        · subst e
          obtain rfl:=Option.some.inj (hpj.symm.trans hq)
          assumption
        · exact hno2 i q aa hq⟩:FinJ P id),(by show P.length-(j+1)<P.length-j;omega),ae al (List.Sublist.cons _ (aj _)) fun _ h=>h⟩
   · exact ⟨(⟨k+1,hlt,fun i x hi hx q hq=>by
      by_cases e:i=k
      · subst e
        obtain rfl:=Option.some.inj (hc.symm.trans hx)
        rw [←hP] at hq
        obtain ⟨p,hpm,rfl⟩:=List.mem_map.1 hq
        obtain ⟨j2,hj2⟩:=List.mem_iff_getElem?.1 hpm
        exact hno2 j2 p (by have:=(List.getElem?_eq_some_iff.1 hj2).1;omega) hj2
      · exact hno i x aa hx q hq⟩:FinI l id),(by show l.length-(k+1)<l.length-k;omega),ae al (aj _) fun _ h=>h.1⟩
 · have hf:findPV l id=none:=jR fun c hc q hq=>by
    obtain ⟨i,hi⟩:=List.mem_iff_getElem?.1 hc
    exact hno i c (by have:=(List.getElem?_eq_some_iff.1 hi).1;omega) hi q hq
   repeat' (first|refine gs ?_|refine gs1 fun _=>?_|(refine aM ?_)|fail)
   apply ab;refine bC rfl rfl rfl aL ?_
   · rfl
   exact ⟨Xc.zero,by rw [hf];rfl,by rw [hf];rfl,fun w _=>⟨aJ w 1,aJ w 1⟩⟩
end Go.Proofs.YtggionfjlgfihaaGreatDoor
