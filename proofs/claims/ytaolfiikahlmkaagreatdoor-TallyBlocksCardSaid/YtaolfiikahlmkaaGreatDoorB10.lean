/- Joined. -/
import Derived.Test.YtaolfiikahlmkaaGreatDoorB9
set_option linter.unusedVariables false
set_option linter.unusedSimpArgs false
set_option maxHeartbeats 16000000
namespace Go.Proofs.YtaolfiikahlmkaaGreatDoor
open Go Go.Proofs Sy Tryz
section
variable {P:Program} {N:Nat} {av bor:List Nat} {w0:World} {E:Env} {loc:List Xl} {X:World→Prop} {K:Exit→St→Prop} {c:Code}
theorem yF {w:World}:∀ (P:List Xd),(∀ p∈P,p.ed=⟨none,0,0⟩∧p.edL=[])→Xq av bor w0 loc X w→Xq av bor w0 (P.map edR++loc) X w
 | [],_,G=>G
 | p::P,h,G=>by
  have h1:=h p ao
  have e:edR p=orow 3 1 (.slice none 0 0) 0 []:=by rw [edR,h1.1,h1.2];rfl
  rw [ZZ,e]
  exact (yF P (fun q hq=>h q (Zu _ hq)) G).nilRow _ _
theorem J5 (L:List Xd) (hz:∀ p∈L,p.ed=⟨none,0,0⟩∧p.edL=[]) (h:Cw P N av bor w0 c ⟨E,L.map edR++loc,X⟩ K):Cw P N av bor w0 c ⟨E,loc,X⟩ K:=Cw.mk fun a w ok=>h.run a w (ok.via fun M G=>by
 have:=yF L hz G
 rwa [←ZB] at this)
theorem Il {l:List Xl} (hs:loc.Perm l) (h:Cw P N av bor w0 c ⟨E,l,X⟩ K):Cw P N av bor w0 c ⟨E,loc,X⟩ K:=Cw.mk fun a w ok=>h.run a w (ok.via fun M G=>G.perm (hs.append_right M))
theorem lG {st:St} {ty:TypeId} {fn:Fn} {xs:List Operand} {vs:List Value} (hx:evs st.env xs=some vs):Sy.Yields P N av bor w0 st (.makeFunc fn xs.toArray #[]) ty (.func fn vs.toArray #[]):=Sy.Yields.mk fun A w ok d pos af g=>by
 have e:=gK (E:=st.env) (loc:=st.loc) (X:=st.ext) ok xs vs hx
 have e1:xs.toArray.map A.eval=vs.toArray:=by rw [List.map_toArray,e]
 simp [execOp,Instr.makeFunc,e1,e]
theorem wQ {p:Prop} (hp:∀ w,(∀ r∈loc,r.F w)→p) (h:p→Cw P N av bor w0 c ⟨E,loc,X⟩ K):Cw P N av bor w0 c ⟨E,loc,X⟩ K:=Cw.mk fun a w ok=>(h (hp w fun r hr=>(ok.gam.here r hr).now)).run a w ok
end
theorem Eh.len {P Q:List Xd} (h:Eh P Q):Q.length=P.length:=by have:=congrArg List.length h.to;simpa using this
theorem Eh.trans {P Q R:List Xd} (h:Eh P Q) (k:Eh Q R):Eh P R:=⟨k.to.trans h.to⟩
theorem Eh.pos {P Q:List Xd} (h:Eh P Q) (j:Nat):posP Q j=posP P j:=by
 have e:∀ L:List Xd,posP L j=(L.map fun p=>(p.to,p.toL,p.pos)).findIdx? fun t=>t.2.2==j:=fun L=>by rw [posP,List.findIdx?_map];rfl
 rw [e,e,h.to]
theorem Eh.mem {P Q:List Xd} (h:Eh P Q) {p:Xd} (hp:p∈Q):∃ q∈P,q.to=p.to∧q.toL=p.toL:=by
 have h1:(p.to,p.toL,p.pos)∈Q.map fun p=>(p.to,p.toL,p.pos):=List.mem_map_of_mem (f:=fun p:Xd=>(p.to,p.toL,p.pos)) hp
 rw [h.to] at h1
 obtain ⟨q,hq,e⟩:=QH.1 h1
 simp only [Prod.mk.injEq] at e
 exact ⟨q,hq,e.1,e.2.1⟩
theorem yt {P:List Xd} {o:Option Nat} {f:Xd→Xd} {m:Nat} (h:∀ p∈P,p.edL.length≤m) (hf:∀ p:Xd,(f p).edL.length≤p.edL.length+1):∀ p∈modP P o f,p.edL.length≤m+1:=fun p hp=>by
 cases o with
 | none=>exact Nat.le_succ_of_le (h p hp)
 | some n =>
  rcases List.mem_or_eq_of_mem_set hp with hp|rfl
  · exact Nat.le_succ_of_le (h p hp)
  · refine ZW (hf _) ?_
    by_cases hn:n<P.length
    · have:=h (P.getD n Xd.zero) (by rw [Zp,Zc hn];exact ZP hn)
      omega
    · rw [Zp,List.getElem?_eq_none (by omega)]
      exact Nat.succ_le_succ (Z2 m)
theorem up (c:Xb):∀ i,∀ p∈openF c i,p.edL=[]
 | 0,p,h=>(Qi h).elim
 | i+1,p,h=>by
  rw [openF] at h
  rcases Qw.1 h with h|h
  · exact up c i p h
  · revert h
    cases postK (c.actsL.getD i Xa.zero).kind with
    | true=>intro h;rw [Zg,Z3] at h;subst h;rfl
    | false=>intro h;exact (Qi h).elim
theorem Fk (a:Xa) (i:Nat) (p:Xd):(editP a i p).edL.length≤p.edL.length+1:=by
 rw [editP]
 cases editB a p with
 | true=>rw [Zg];show (p.edL++[(i:Int)]).length≤_;rw [Zz];exact ZV _
 | false=>exact Nat.le_succ _
theorem Ey (c:Xb):∀ i,∀ p∈ofP c i,p.edL.length≤i
 | 0,p,h=>by rw [up c _ p h];exact ZV 0
 | i+1,p,h=>by
  have ih:=Ey c i
  rw [ofP,stepP] at h
  revert h
  cases decide ((c.actsL.getD i Xa.zero).kind=13) with
  | true=>exact fun h=>yt (f:=goneP) ih (fun p=>Nat.le_succ _) p h
  | false =>
   cases decide ((c.actsL.getD i Xa.zero).kind=14) with
   | true=>exact fun h=>yt (f:=editP _ _) ih (Fk _ _) p h
   | false=>exact fun h=>Nat.le_succ_of_le (ih p h)
theorem Bv (a:Xa) (i:Nat) (p:Xd):(editP a i p).can=editP a i p.can:=by
 have h:editB a p.can=editB a p:=rfl
 rw [editP,editP,h]
 cases editB a p<;>rfl
theorem qP (a:Xa) (i:Nat) (p:Xd):(editP a i p).pos=p.pos:=by
 rw [editP]
 cases editB a p<;>rfl
theorem permD (c m2 m1 b1 po b0:Xl) (M:List Xl):(M++([c,m2,m1,b1,po]++[b0])).Perm ((c::m2::m1::po::M)++[b1,b0]):=by
 have h1:([c,m2,m1,b1,po]++[b0]).Perm ([c,m2,m1,po]++[b1,b0]):=(((List.Perm.swap po b1 [b0]).cons m1).cons m2).cons c
 have h2:=(QP (l₁:=M) (l₂:=[c,m2,m1,b1,po]++[b0])).trans (h1.append_right M)
 rw [ZB] at h2
 exact h2.trans ((QP (l₁:=[b1,b0]) (l₂:=M)).append_left [c,m2,m1,po])
def PostsAt (c:Xb) (u:Value) (X:World→Prop):Prop:=∃ (s:Xk) (P:List Xd),u=s.v∧P.map Xd.can=postsV c∧P.length≤c.actsL.length∧∀ w,X w→Xf w 11 s (P.map Xd.cells)
theorem yu {P:Program} {f:FuncId} {args:Array Value} {X:World→Prop} {Φ Ψ:Value→(World→Prop)→Prop} (h:Mk P f args X Φ) (hp:∀ u X',Φ u X'→Ψ u X'):Mk P f args X Ψ:=by
 unfold Mk at *
 exact Ct.mono h fun v R X' ⟨a,b⟩=>⟨hp _ _ a,b⟩
theorem EV {w:World} {p:Xd} (hl:p.edL.length=p.ed.n) (h:(edR p).F w):Ints w p.ed p.edL:=by
 have h':ORow w 3 1 (.slice p.ed.p p.ed.n p.ed.c) p.ed.n (p.edL.map fun n=>[(.int .i64 n:Value)]).flatten:=by
  have e:(p.edL.map fun n=>[(.int .i64 n:Value)]).flatten=p.edL.map fun n=>(.int .i64 n:Value):=by
   induction p.edL with
   | nil=>rfl
   | cons a l ih=>rw [ZZ,Z9,ih];rfl
  rw [e]
  exact h
 exact bu h' (by rw [ZE,hl]) fun r hr=>by
  obtain ⟨n,_,rfl⟩:=QH.1 hr
  rfl
def PostsAtS (c:Xb) (u:Value) (X:World→Prop):Prop:=∃ (s:Xk) (P:List Xd),u=s.v∧P.map Xd.can=postsV c∧P.length≤c.actsL.length∧∀ w,X w→Xf w 11 s (P.map Xd.cells)∧∀ p∈P,Strs w p.to p.toL∧Ints w p.ed p.edL
theorem PostsAtS.weak {c:Xb} {u:Value} {X:World→Prop} (h:PostsAtS c u X):PostsAt c u X:=by
 obtain ⟨s,P,h1,h2,h3,h4⟩:=h
 exact ⟨s,P,h1,h2,h3,fun w hw=>(h4 w hw).1⟩
structure OfI (c:Xb) (P:List Xd) where
 k:Nat
 hk:k≤c.actsL.length
 Q:List Xd
 hQ:Q.map Xd.can=ofP c k
 hT:Eh P Q
theorem Ev (c:Xb) (hc:Xw c.actsL) (hcl:c.actsL.length≤1000000):Mk prog 59 #[c.v] (fun w=>c.at_ w∧Xe w) (PostsAtS c):=by
 refine dm func59 ntmps59 fun av bor w0=>?_
 refine aQ (p:=c.acts.n=c.actsL.length∧c.acts.n≤maxLen∧(0<c.actsL.length→c.acts.p.isSome=true)) (fun w h=>⟨h.1.len_,h.1.max_,h.1.some_⟩) fun ⟨hl,hm,hp⟩=>?_
 simp only [maxLen] at hm
 repeat' (first|refine gs ?_|refine gs1 fun _=>?_|fail)
 refine rx (hc:=Hr c hc hcl) (hX:=fun w h=>h) ?_
 rintro _ _ X1 ⟨r,b,b1,q1,q2,hrk,rfl,rfl,hX1⟩
 repeat' (first|refine gs ?_|fail)
 have hrP:r.P.map Xd.can=openF c c.actsL.length:=by rw [←hrk];exact r.hP
 have hrl:r.P.length≤c.actsL.length:=by
  have h1:=lc c c.actsL.length
  rw [←hrP,ZE] at h1
  exact h1
 have hpl:∀ d,mget r.pl d=(idxV c.actsL d).map fun (j:Nat)=>Value.int .i64 (j:Int):=fun d=>by
  rw [r.hpl d,hrk,Qf]
 have hsn:r.s.n=r.P.length:=r.hn
 have hnum:=r.hnum
 have hz:=r.hz
 generalize hs:r.s=s at *
 generalize r.P=P at *
 generalize r.pl=pl at *
 generalize r.num=num at *
 rename_i b0
 refine J5 P hz ?_
 refine Il (permD _ _ _ _ _ _ _) ?_
 refine aq (ι:=OfI c P) (fun i=>⟨[(3,.pointer (some ⟨b,0,none⟩)),(9,c.acts.v),(10,.int .i64 (c.acts.n:Nat)),(11,.int .i64 (i.k:Nat))],cel b 178 (regC c s.v q1 q2)::mapr q2 pl::mapr q1 num::postR s i.Q::i.Q.map edR,fun w=>(c.at_ w∧Xe w)∧∀ p∈P,Strs w p.to p.toL⟩) (fun i=>c.actsL.length-i.k)
  ⟨0,Z2 _,P,hrP,⟨rfl⟩⟩ (ai am (QC _ _) fun w h=>⟨h.1,hX1 w h.2⟩) fun i=>?_
 obtain ⟨k,hk,Q,hQ,hT⟩:=i
 simp only
 have hQl:=hT.len
 have hsQ:s.n=Q.length:=by omega
 refine wQ (p:=∀ p∈Q,p.edL.length=p.ed.n) (fun w hr p hp=>by
  have h1:=(hr (edR p) (Zu _ (Zu _ (Zu _ (Zu _ (List.mem_map_of_mem hp)))))).1
  simpa using h1) fun hed=>?_
 have hsto:∀ w,(∀ p∈P,Strs w p.to p.toL)→∀ p∈Q,Strs w p.to p.toL:=fun w h p hp=>by
  obtain ⟨q,hq,e1,e2⟩:=hT.mem hp
  rw [←e1,←e2]
  exact h q hq
 have hnQ:∀ j:Nat,mget num (j:Int)=(posP Q j).map fun (n:Nat)=>Value.int .i64 (n:Int):=fun j=>by rw [hT.pos j];exact hnum j
 have hem:∀ p∈Q,p.ed.n≤1000000:=fun p hp=>by
  have h1:=Ey c k p.can (by rw [←hQ];exact List.mem_map_of_mem hp)
  have h2:p.edL.length≤k:=h1
  have h3:=hed p hp
  omega
 repeat' (first|refine gs ?_|(refine gp ?_ ?_<;>intro hx_ this)|fail)
 · have hlt:k<c.actsL.length:=by omega
   have hp':=hp aa
   obtain ⟨x,hx⟩:∃ x,c.actsL[k]?=some x:=⟨_,Zc hlt⟩
   have hxD:c.actsL.getD k Xa.zero=x:=by rw [Zp,hx];rfl
   by_cases h13:x.kind=13
   · repeat' (first|refine aF ?_|refine gs ?_|refine gs1 fun _=>?_|(refine aD (q:=k*20) ?_)|(refine aN (cs:=x.cells) (hF:=fun w h=>Acts.get h.1.1 hx) ?_)|(refine al (lG (xs:=[_]) (vs:=[_]) rfl) rfl rfl rfl ?_)|fail)
     rename_i b5
     refine cM (List.perm_append_singleton _ _).symm ?_
     refine bO (first:=#[]) (caps:=#[]) (pre:=[cel b 178 (regC c s.v q1 q2),mapr q2 pl,mapr q1 num,postR s Q]++Q.map edR) (fr:=[cel b5 46 x.cells]) (hc:=uc c s Q b q1 q2 k 105 ⟨aj⟩ pl num x (goneP) hsQ hx aa hpl hnQ hcl aa (fun p=>rfl) (fun p=>rfl) (fun n p hn=>ua _ s Q n p _ k hsQ hn)) (hX:=fun w h=>⟨h.1,hsto w h.2⟩) (h:=?_)
     rintro _ _ X' ⟨rfl,Q',ex,hcan,hto,rfl⟩
     have HQ:Q'.map Xd.can=ofP c (k+1):=by
      rw [hcan,ofP,stepP,hxD,Ze h13,Zg,←hQ,uf]
     repeat' (first|refine gs ?_|fail)
     exact ⟨(⟨k+1,hlt,Q',HQ,hT.trans hto⟩:OfI c P),(by show c.actsL.length-(k+1)<c.actsL.length-k;omega),ai am ((List.sublist_append_right ex _).trans (QC _ _)) fun w h=>h.1⟩
   by_cases h14:x.kind=14
   · repeat' (first|refine aF ?_|refine aI ?_|refine gs ?_|refine gs1 fun _=>?_|(refine aD (q:=k*20) ?_)|(refine aN (cs:=x.cells) (hF:=fun w h=>Acts.get h.1.1 hx) ?_)|(refine al (lG (xs:=[_]) (vs:=[_]) rfl) rfl rfl rfl ?_)|fail)
     rename_i b5
     refine cM (List.perm_append_singleton _ _).symm ?_
     refine bO (first:=#[]) (caps:=#[]) (pre:=[cel b 178 (regC c s.v q1 q2),mapr q2 pl,mapr q1 num,postR s Q]++Q.map edR) (fr:=[cel b5 46 x.cells]) (hc:=uc c s Q b q1 q2 k 106 ⟨aj⟩ pl num x (editP x k) hsQ hx aa hpl hnQ hcl aa (Bv x k) (qP x k) (fun n p hn=>Bu c s Q n p b q1 q2 k x hsQ hn hx aa (hed p (Z4 hn)).symm (hem p (Z4 hn)))) (hX:=fun w h=>⟨h.1,hsto w h.2⟩) (h:=?_)
     rintro _ _ X' ⟨rfl,Q',ex,hcan,hto,rfl⟩
     have HQ:Q'.map Xd.can=ofP c (k+1):=by
      rw [hcan,ofP,stepP,hxD,Zd h13,Zf,Ze h14,Zg,←hQ,uf]
     repeat' (first|refine gs ?_|fail)
     exact ⟨(⟨k+1,hlt,Q',HQ,hT.trans hto⟩:OfI c P),(by show c.actsL.length-(k+1)<c.actsL.length-k;omega),ai am ((List.sublist_append_right ex _).trans (QC _ _)) fun w h=>h.1⟩
   · have HQ:Q.map Xd.can=ofP c (k+1):=by
      rw [ofP,stepP,hxD,Zd h13,Zf,Zd h14,Zf]
      exact hQ
     repeat' (first|refine aI ?_|refine gs ?_|refine gs1 fun _=>?_|(refine aD (q:=k*20) ?_)|(refine aN (cs:=x.cells) (hF:=fun w h=>Acts.get h.1.1 hx) ?_)|fail)
     exact ⟨(⟨k+1,hlt,Q,HQ,hT⟩:OfI c P),(by show c.actsL.length-(k+1)<c.actsL.length-k;omega),ai am (Z0 _ (ak _)) fun w h=>h⟩
 · have hkE:k=c.actsL.length:=by omega
   exact ab (ag rfl rfl) ⟨s,Q,rfl,by rw [hQ,hkE];rfl,by omega,fun w h=>⟨bu (h.2 (postR s Q) (Zu _ (Zu _ (Zu _ ao)))) (by simp [hsQ]) (cells11 Q),fun p hp=>⟨hsto w h.1.2 p hp,EV (hed p hp) (h.2 (edR p) (Zu _ (Zu _ (Zu _ (Zu _ (List.mem_map_of_mem hp))))))⟩⟩⟩
theorem JF (c:Xb) (hc:Xw c.actsL) (hcl:c.actsL.length≤1000000):Mk prog 59 #[c.v] (fun w=>c.at_ w∧Xe w) (PostsAt c):=yu (Ev c hc hcl) fun u X h=>h.weak
end Go.Proofs.YtaolfiikahlmkaaGreatDoor
namespace Go.Proofs.YtaolfiikahlmkaaGreatDoor
open Go Go.Proofs Sy Tryz
theorem oO {l:List Xa} {a:Xa} {i:Nat} (h:i<l.length):(l++[a]).getD i Xa.zero=l.getD i Xa.zero:=by
 rw [Zp,Zp,ZF h]
theorem lq {l:List Xa} {a:Xa}:(l++[a]).getD l.length Xa.zero=a:=by
 rw [Zp,ZT (ZV _),Nat.sub_self];rfl
theorem qs {c d:Xb} {a:Xa} (hid:d.id=c.id) (hl:d.actsL=c.actsL++[a]):∀ i,i≤c.actsL.length→openF d i=openF c i
 | 0,_=>rfl
 | i+1,h=>by rw [openF,openF,qs hid hl i aa,hl,hid,oO (by omega)]
theorem yB (l:List Xa) (a:Xa) (o:ByteArray) {i:Nat} (hi:i≤l.length):(match idxV (l++[a]) o with
 | some j=>decide (j<i)|none=>false)=(match idxV l o with
 | some j=>decide (j<i)|none=>false):=by
 rw [idxV,idxV,List.findIdx?_append]
 cases h:l.findIdx? fun a=>seqB (digV a) o with
 | some j=>rfl
 | none =>
  rw [Option.none_or]
  simp only [List.findIdx?_cons,List.findIdx?_nil]
  cases seqB (digV a) o
  · rfl
  · show decide (0+l.length<i)=false
    exact Zd aa
def newT (c:Xb) (a:Xa):List Xd:=bif postK a.kind then [newP c.id c.actsL.length a] else []
theorem AQ {c d:Xb} {a:Xa} (hid:d.id=c.id) (hl:d.actsL=c.actsL++[a]):openF d d.actsL.length=openF c c.actsL.length++newT c a:=by
 have e:d.actsL.length=c.actsL.length+1:=by rw [hl,Zz];rfl
 rw [e,openF,qs hid hl _ (ZV _),hl,lq,hid]
 rfl
theorem EC {c:Xb} {a:Xa}:∀ p∈newT c a,p.pos=c.actsL.length:=fun p hp=>by
 rw [newT] at hp
 revert hp
 cases postK a.kind with
 | true=>intro h;rw [Zg,Z3] at h;subst h;rfl
 | false=>intro h;exact (Qi h).elim
theorem DN (P T:List Xd) {j:Nat} (h:∀ p∈T,p.pos≠j):posP (P++T) j=posP P j:=by
 rw [posP,posP,List.findIdx?_append]
 have e:T.findIdx? (fun p=>p.pos==j)=none:=List.findIdx?_eq_none_iff.2 fun p hp=>by
  rw [beq_eq_false_iff_ne]
  exact h p hp
 rw [e]
 cases P.findIdx? fun p=>p.pos==j<;>rfl
theorem Ho {P:List Xd} {j n:Nat} (h:posP P j=some n):n<P.length:=by
 rw [posP,QB] at h
 exact h.1
theorem EG (P T:List Xd) {o:Option Nat} (f:Xd→Xd) (h:∀ n,o=some n→n<P.length):modP (P++T) o f=modP P o f++T:=by
 cases o with
 | none=>rfl
 | some n =>
  have hn:=h n rfl
  rw [modP,modP,List.set_append_left _ _ hn,Zp,Zp,ZF hn]
theorem DF {l:List Xa} {a:Xa} (P T:List Xd) {i:Nat} (hi:i<l.length) (hT:∀ p∈T,p.pos=l.length):refV (l++[a]) (P++T) i=refV l P i:=by
 have h:=yB l a (l.getD i Xa.zero).object (Nat.le_of_lt hi)
 rw [refV,refV,oO hi]
 cases h1:idxV l (l.getD i Xa.zero).object with
 | some j =>
  have h2:idxV (l++[a]) (l.getD i Xa.zero).object=some j:=by
   rw [idxV,List.findIdx?_append]
   rw [idxV] at h1
   rw [h1]
   rfl
  rw [h2]
  simp only
  by_cases hj:j<i
  · rw [Ze hj,Zg,Zg]
    exact DN P T fun p hp=>by rw [hT p hp];omega
  · rw [Zd hj]
    rfl
 | none =>
  rw [h1] at h
  cases h2:idxV (l++[a]) (l.getD i Xa.zero).object with
  | none=>rfl
  | some j =>
   rw [h2] at h
   simp only at h ⊢
   rw [h]
   rfl
theorem Hk {l:List Xa} {P:List Xd} {i n:Nat} (h:refV l P i=some n):n<P.length:=by
 rw [refV] at h
 cases h1:idxV l (l.getD i Xa.zero).object with
 | none=>rw [h1] at h;cases h
 | some j =>
  rw [h1] at h
  simp only at h
  by_cases hj:j<i
  · rw [Ze hj] at h
    exact Ho h
  · rw [Zd hj] at h
    cases h
theorem yp {c d:Xb} {a:Xa} (hid:d.id=c.id) (hl:d.actsL=c.actsL++[a]):∀ i,i≤c.actsL.length→ofP d i=ofP c i++newT c a
 | 0,_=>AQ hid hl
 | i+1,h=>by
  have hr:=DF (l:=c.actsL) (a:=a) (ofP c i) (newT c a) (i:=i) aa EC
  rw [ofP,ofP,yp hid hl i aa,hl,stepP,stepP,oO aa,hr]
  have hm:=fun f=>EG (ofP c i) (newT c a) (o:=refV c.actsL (ofP c i) i) f fun n hn=>Hk hn
  rw [hm,hm]
  cases decide ((c.actsL.getD i Xa.zero).kind=13)<;>cases decide ((c.actsL.getD i Xa.zero).kind=14)<;>rfl
theorem wo {c d:Xb} {a:Xa} (hid:d.id=c.id) (hl:d.actsL=c.actsL++[a]):postsV d=stepP (c.actsL++[a]) c.actsL.length (postsV c++newT c a):=by
 have e:d.actsL.length=c.actsL.length+1:=by rw [hl,Zz];rfl
 rw [postsV,e,ofP,yp hid hl _ (ZV _),hl]
 rfl
def hitV (c:Xb) (a:Xa):Option Nat:=(idxV c.actsL a.object).bind (posP (postsV c))
theorem AE {c:Xb} {a:Xa} (P:List Xd):refV (c.actsL++[a]) P c.actsL.length=(idxV c.actsL a.object).bind (posP P):=by
 have h:=yB c.actsL a a.object (ZV _)
 rw [refV,lq]
 cases h1:idxV c.actsL a.object with
 | some j =>
  have hj:j<c.actsL.length:=by
   rw [idxV,QB] at h1
   exact h1.1
  have h2:idxV (c.actsL++[a]) a.object=some j:=by
   rw [idxV,List.findIdx?_append]
   rw [idxV] at h1
   rw [h1]
   rfl
  rw [h2]
  simp only
  rw [Ze hj]
  rfl
 | none =>
  rw [h1] at h
  cases h2:idxV (c.actsL++[a]) a.object with
  | none=>rfl
  | some j =>
   rw [h2] at h
   simp only at h ⊢
   rw [h]
   rfl
theorem growsV {c d:Xb} {a:Xa} (hid:d.id=c.id) (hl:d.actsL=c.actsL++[a]):postsV d=(bif decide (a.kind=13) then modP (postsV c) (hitV c a) goneP else bif decide (a.kind=14) then modP (postsV c) (hitV c a) (editP a c.actsL.length) else postsV c)++newT c a:=by
 rw [wo hid hl,stepP,lq,AE]
 by_cases h13:a.kind=13
 · have hn:newT c a=[]:=by rw [newT,h13];rfl
   rw [Ze h13,Zg,Zg,hn,ZI,ZI]
   rfl
 by_cases h14:a.kind=14
 · have hn:newT c a=[]:=by rw [newT,h14];rfl
   rw [Zd h13,Ze h14,Zf,Zf,Zg,Zg,hn,ZI,ZI]
   rfl
 rw [Zd h13,Zd h14]
 rfl
def posL (P:List Xd):List Nat:=P.map Xd.pos
theorem ou (c:Xb):∀ i,(posL (openF c i)).Pairwise (·<·)∧∀ x∈posL (openF c i),x<i
 | 0=>⟨List.Pairwise.nil,fun x h=>(Qi h).elim⟩
 | i+1=>by
  obtain ⟨h1,h2⟩:=ou c i
  rw [openF]
  cases postK (c.actsL.getD i Xa.zero).kind with
  | false =>
   rw [Zf,ZI]
   exact ⟨h1,fun x hx=>Nat.lt_succ_of_lt (h2 x hx)⟩
  | true =>
   rw [Zg,posL,ZU]
   refine ⟨List.pairwise_append.2 ⟨h1,List.pairwise_singleton _ _,fun x hx y hy=>?_⟩,fun x hx=>?_⟩
   · rw [ZZ,List.map_nil,Z3] at hy
     subst hy
     exact h2 x hx
   · rcases Qw.1 hx with hx|hx
     · exact Nat.lt_succ_of_lt (h2 x hx)
     · rw [ZZ,List.map_nil,Z3] at hx
       subst hx
       exact Nat.lt_succ_self _
theorem yl {P:List Xd} {n:Nat} {p:Xd} (h:P[n]?=some p):(posL P)[n]?=some p.pos:=by rw [posL,Z5,h];rfl
theorem Du {P:List Xd} {n:Nat} {p:Xd} (h:n<P.length→p.pos=(P.getD n Xd.zero).pos):posL (P.set n p)=posL P:=by
 rw [posL,posL,List.map_set]
 by_cases hn:n<P.length
 · rw [h hn]
   refine List.ext_getElem? fun i=>?_
   rw [List.getElem?_set]
   by_cases e:n=i
   · subst e
     rw [ZN rfl,ZE,ZN hn,Z5,Zp,Zc hn]
     rfl
   · rw [ZO e]
 · rw [List.set_eq_of_length_le (by rw [ZE];omega)]
theorem qw {P:List Xd} {o:Option Nat} {f:Xd→Xd} (hf:∀ p,(f p).pos=p.pos):posL (modP P o f)=posL P:=by
 cases o with
 | none=>rfl
 | some n=>exact Du fun _=>hf _
theorem j3 (c:Xb):∀ i,posL (ofP c i)=posL (openF c c.actsL.length)
 | 0=>rfl
 | i+1=>by
  rw [ofP,stepP]
  cases decide ((c.actsL.getD i Xa.zero).kind=13)
  · cases decide ((c.actsL.getD i Xa.zero).kind=14)
    · exact j3 c i
    · exact (qw fun p=>qP _ _ p).trans (j3 c i)
  · exact (qw (f:=goneP) fun p=>rfl).trans (j3 c i)
theorem wm (c:Xb):(posL (postsV c)).Pairwise (·<·)∧∀ x∈posL (postsV c),x<c.actsL.length:=by
 rw [postsV,j3]
 exact ou c _
theorem DL {P:List Xd} (h:(posL P).Pairwise (·<·)) {i j:Nat} {p q:Xd} (hi:P[i]?=some p) (hj:P[j]?=some q) (e:p.pos=q.pos):i=j:=by
 have hi':=(QI.1 (yl hi))
 have hj':=(QI.1 (yl hj))
 obtain ⟨a1,a2⟩:=hi'
 obtain ⟨b1,b2⟩:=hj'
 rw [List.pairwise_iff_getElem] at h
 rcases Nat.lt_trichotomy i j with hl|hl|hl
 · have:=h i j a1 b1 hl
   rw [a2,b2] at this
   omega
 · exact hl
 · have:=h j i b1 a1 hl
   rw [a2,b2] at this
   omega
instance:Xu prog 68 11:=⟨aj⟩
def isPost (id:ByteArray) (p:Xd):Bool:=seqB p.id id
def findPV (l:List Xb) (id:ByteArray):Option Xd:=(l.flatMap postsV).find? (isPost id)
theorem uY {l:List Xb} {id:ByteArray} (h:∀ c∈l,∀ p∈postsV c,isPost id p=false):findPV l id=none:=by
 rw [findPV,List.find?_eq_none]
 intro p hp
 obtain ⟨c,hc,h1⟩:=List.mem_flatMap.1 hp
 rw [h c hc p h1]
 decide
theorem Bl {l:List Xb} {id:ByteArray} {k j:Nat} {c:Xb} {P:List Xd} {p:Xd} (hc:l[k]?=some c) (hP:P.map Xd.can=postsV c) (hp:P[j]?=some p) (h1:∀ i x,i<k→l[i]?=some x→∀ q∈postsV x,isPost id q=false) (h2:∀ i q,i<j→P[i]?=some q→isPost id q=false) (h3:isPost id p=true) :
  findPV l id=some p.can:=by
 obtain ⟨hk,rfl⟩:=QI.1 hc
 have e:l=l.take k++l[k]::l.drop (k+1):=by rw [←List.drop_eq_getElem_cons hk,Qq]
 rw [findPV,e,QO,List.flatMap_cons,List.find?_append,List.find?_append,List.find?_eq_none.2 (fun q hq=>by
  obtain ⟨x,hx,hq⟩:=List.mem_flatMap.1 hq
  obtain ⟨i,hi⟩:=QN.1 hx
  rw [QF] at hi
  split at hi
  · rename_i hik
    rw [h1 i x hik hi q hq]
    decide
  · cases hi),Option.none_or]
 have e2:(postsV l[k]).find? (isPost id)=some p.can:=by
  rw [←hP,List.find?_map]
  have e3:(isPost id ∘ Xd.can)=isPost id:=rfl
  rw [e3]
  obtain ⟨hj,rfl⟩:=QI.1 hp
  have e4:P.find? (isPost id)=some P[j]:=by
   rw [List.find?_eq_some_iff_getElem]
   refine ⟨h3,j,hj,rfl,fun i hi=>?_⟩
   rw [h2 i P[i] hi (Zc aa)]
   decide
  rw [e4]
  rfl
 rw [e2]
 rfl
def FoundAt (l:List Xb) (id:ByteArray) (u:Value) (X:World→Prop):Prop:=∃ p:Xd,u=.tuple #[p.v,.bool (findPV l id).isSome]∧p.can=(findPV l id).getD Xd.zero
structure FinI (l:List Xb) (id:ByteArray) where
 k:Nat
 hk:k≤l.length
 no:∀ i x,i<k→l[i]?=some x→∀ q∈postsV x,isPost id q=false
structure FinJ (P:List Xd) (id:ByteArray) where
 j:Nat
 hj:j≤P.length
 no:∀ i q,i<j→P[i]?=some q→isPost id q=false
theorem oU (s:Xk) (l:List Xb) (id:ByteArray) (hok:∀ c∈l,Xw c.actsL) (hlen:∀ c∈l,c.actsL.length≤1000000):Mk prog 24 #[s.v,.string id] (fun w=>Chains w s l∧Xe w) (FoundAt l id):=by
 refine dm func24 ntmps24 fun av bor w0=>?_
 refine aQ (p:=s.n=l.length∧s.n≤maxLen∧(0<l.length→s.p.isSome=true)) (fun w h=>⟨h.1.len_,h.1.max_,h.1.some_⟩) fun ⟨hl,hm,hp⟩=>?_
 simp only [maxLen] at hm
 repeat' (first|refine gs ?_|refine gs1 fun _=>?_|fail)
 rename_i b
 refine aq (ι:=FinI l id) (fun i=>⟨[(1,.string id),(4,.pointer (some ⟨b,0,none⟩)),(10,s.v),(11,.int .i64 (s.n:Nat)),(12,.int .i64 (i.k:Nat))],[cel b 68 Xd.zero.cells],fun w=>Chains w s l∧Xe w⟩) (fun i=>l.length-i.k) ⟨0,Z2 _,fun i x h=>absurd h (Nat.not_lt_zero _)⟩ (ai am (ak _) fun _ h=>h) fun i=>?_
 obtain ⟨k,hk,hno⟩:=i
 simp only
 repeat' (first|refine gs ?_|(refine gp ?_ ?_<;>intro hx_ this)|fail)
 · have hlt:k<l.length:=by omega
   have hp':=hp aa
   obtain ⟨c,hc⟩:∃ c,l[k]?=some c:=⟨_,Zc hlt⟩
   have hcm:=Z4 hc
   have hof:=JF c (hok c hcm) (hlen c hcm)
   repeat' (first|(refine bF (hc:=hof) (hX:=fun w h=>⟨h.1.2 c hcm,h.2⟩) fun v1 X1 h1=>?_;obtain ⟨s1,P,rfl,hP,hPl,hw⟩:=h1)|refine gs ?_|refine gs1 fun _=>?_|(refine aD (q:=k*6) ?_)|(refine aN (cs:=c.cells) (hF:=fun w h=>Chains.get h.1 hc) ?_)|fail)
   refine aQ (p:=s1.n=P.length∧s1.n≤maxLen∧(0<P.length→s1.p.isSome=true)) (fun w h=>⟨by simpa using Xf.len (hw w h.2),ZW (Xf.cap (hw w h.2)) (Xf.max (hw w h.2)),fun h0=>(Xf.row (hw w h.2) 0 P[0].cells (by simp [Zc h0])).2.1⟩) fun ⟨hl1,hm1,hp1⟩=>?_
   simp only [maxLen] at hm1
   refine aq (ι:=FinJ P id) (fun i=>⟨[(1,.string id),(4,.pointer (some ⟨b,0,none⟩)),(10,s.v),(11,.int .i64 (s.n:Nat)),(12,.int .i64 (k:Nat)),(17,s1.v),(18,.int .i64 (s1.n:Nat)),(19,.int .i64 (i.j:Nat))],[cel b 68 Xd.zero.cells],fun w=>(Chains w s l∧Xe w)∧X1 w⟩) (fun i=>P.length-i.j) ⟨0,Z2 _,fun i x h=>absurd h (Nat.not_lt_zero _)⟩ (ai am (Z0 _ (ak _)) fun _ h=>h) fun i=>?_
   obtain ⟨j,hj,hno2⟩:=i
   simp only
   repeat' (first|refine gs ?_|(refine gp ?_ ?_<;>intro hx_ this)|fail)
   · have hjl:j<P.length:=by omega
     have hp2:=hp1 aa
     obtain ⟨p,hpj⟩:∃ p,P[j]?=some p:=⟨_,Zc hjl⟩
     repeat' (first|refine gs ?_|refine gs1 fun _=>?_|(refine aD (q:=j*11) ?_)|(refine aN (cs:=p.cells) (hF:=fun w h=>Xf.row (hw w h.2) j p.cells (by simp [hpj])) ?_)|(refine gp ?_ ?_<;>intro hx_ this)|fail)
     · have hf:=Bl hc hP hpj hno hno2 (by assumption)
       apply ab;refine dc rfl rfl rfl aM ?_
       · rfl
       exact ⟨p,by rw [hf];rfl,by rw [hf];rfl⟩
     · exact ⟨(⟨j+1,hjl,fun i q hi hq=>by
        by_cases e:i=j
        · subst e
          obtain rfl:=Option.some.inj (hpj.symm.trans hq)
          assumption
        · exact hno2 i q aa hq⟩:FinJ P id),(by show P.length-(j+1)<P.length-j;omega),ai am (Z0 _ (ak _)) fun _ h=>h⟩
   · exact ⟨(⟨k+1,hlt,fun i x hi hx q hq=>by
      by_cases e:i=k
      · subst e
        obtain rfl:=Option.some.inj (hc.symm.trans hx)
        rw [←hP] at hq
        obtain ⟨p,hpm,rfl⟩:=QH.1 hq
        obtain ⟨j2,hj2⟩:=QN.1 hpm
        exact hno2 j2 p (by have:=(QI.1 hj2).1;omega) hj2
      · exact hno i x aa hx q hq⟩:FinI l id),(by show l.length-(k+1)<l.length-k;omega),ai am (ak _) fun _ h=>h.1⟩
 · have hf:findPV l id=none:=uY fun c hc q hq=>by
    obtain ⟨i,hi⟩:=QN.1 hc
    exact hno i c (by have:=(QI.1 hi).1;omega) hi q hq
   repeat' (first|refine gs ?_|(refine aG ?_)|fail)
   apply ab;refine dc rfl rfl rfl aM ?_
   · rfl
   exact ⟨Xd.zero,by rw [hf];rfl,by rw [hf];rfl⟩
def gOk (a:Xa) (sc:Int) (g:ByteArray) (nx:Nat):Bool:=decide (a.kind=16)&&decide (a.scope=sc)&&seqB a.group g&&decide (a.epoch=(nx:Int))
def grantF (l:List Xa) (sc:Int) (g:ByteArray):Nat→Nat×Nat
 | 0=>(0,0)
 | i+1=>bif gOk (l.getD i Xa.zero) sc g (grantF l sc g i).2 then (i,(grantF l sc g i).2+1) else grantF l sc g i
def grantV (l:List Xa) (n sc:Int) (g:ByteArray):Nat×Nat:=grantF l sc g (limN n l.length)
def epochO (l:List Xa) (n sc:Int) (g:ByteArray):Option Xa:=bif decide ((0:Int)<((grantV l n sc g).2:Nat)) then l[(grantV l n sc g).1]? else none
theorem Ft {e n:Nat} {v:Value} {ss:List ByteArray}:Ct prog 49 #[v] [orow e 1 v n (ss.map encB)] (fun _=>True) fun u R _=>∃ A c,u=.slice A (compB ss).length c∧R=[orow e 1 u (compB ss).length ((compB ss).map encB)]:=by
 have h:=compS_c.ct (e:=e) (n:=n) (v:=v) (ss:=ss.map bl)
 rw [uH ss]
 refine h.mono fun u R X' ⟨A,c,h1,h2⟩=>⟨A,c,?_,?_⟩
 · rw [h1];simp [compB]
 · rw [h2,ju,compB];simp
def circF (l:List Xa) (g:ByteArray):Nat→Option Xa
 | 0=>none
 | i+1=>bif decide ((l.getD i Xa.zero).kind=15)&&seqB (l.getD i Xa.zero).group g then some (l.getD i Xa.zero) else circF l g i
def listOf (c:Xb) (n sc:Int) (g:ByteArray) (toL:List ByteArray):List ByteArray :=
 bif decide (sc=1) then sortB (tieV c.actsL n).a else bif decide (sc=2) then ((circF c.actsL g (limN n c.actsL.length)).map (·.toL)).getD [] else bif decide (sc=3) then toL else []
def keepM (c:Xb) (bs:List ByteArray) (x:ByteArray):Bool:=!seqB x c.id&&!hasS bs x
def membersV (c:Xb) (n sc:Int) (g:ByteArray) (toL:List ByteArray):List ByteArray:=compB (sortB ((listOf c n sc g toL).filter (keepM c (sortB (tieV c.actsL n).b))))
structure FilS (m:Nat) where
 k:Nat
 hk:k≤m
 A:Option Addr
 c:Nat
end Go.Proofs.YtaolfiikahlmkaaGreatDoor
namespace Go.Proofs.YtaolfiikahlmkaaGreatDoor
open Go Go.Proofs Sy Go.Shelf Go.Maps Go.Sort
end Go.Proofs.YtaolfiikahlmkaaGreatDoor
namespace Go.Proofs.YtaolfiikahlmkaaGreatDoor
open Go Go.Proofs Sy
def wellA (c:Xb) (i:Int) (a:Xa):Bool:=(postK a.kind||decide (a.kind=14))&&(decide (a.scope=1)||decide (a.scope=2)||decide (a.scope=3))&&(match epochO c.actsL i a.scope a.group with
 | some e=>decide (e.epoch=a.epoch)&&eqL e.toL (membersV c i a.scope a.group a.toL)
 | none=>false)
def wellV (c:Xb) (i:Int):Bool:=decide (0≤i)&&(match c.actsL[i.toNat]? with
 | some a=>wellA c i a
 | none=>false)
structure Agree (n:Nat) (l l':List Xa):Prop where
 at_:∀ k,k<n→l[k]?=l'[k]?
 left:n≤l.length
 right:n≤l'.length
theorem Agree.getD {n:Nat} {l l':List Xa} (h:Agree n l l') {k:Nat} (hk:k<n):l.getD k Xa.zero=l'.getD k Xa.zero:=by
 rw [Zp,Zp,h.at_ k hk]
theorem jy {n:Nat} {l l':List Xa} (h:Agree n l l') (d:ByteArray) {j:Nat} (hj:j<n) (e:idxV l d=some j):idxV l' d=some j:=by
 rw [idxV,QB] at e ⊢
 obtain ⟨h1,h2,h3⟩:=e
 have hl':j<l'.length:=by have:=h.right;omega
 have ev:∀ i (hi:i<n) (a:i<l.length) (b:i<l'.length),l[i]=l'[i]:=fun i hi a b=>by
  have:=h.at_ i hi
  rw [Zc a,Zc b] at this
  exact Option.some.inj this
 refine ⟨hl',by rw [←ev j hj h1 hl'];exact h2,fun i hi=>?_⟩
 rw [←ev i aa aa (by omega)]
 exact h3 i hi
theorem Agree.symm {n:Nat} {l l':List Xa} (h:Agree n l l'):Agree n l' l:=⟨fun k hk=>(h.at_ k hk).symm,h.right,h.left⟩
theorem tp {n:Nat} {l l':List Xa} (h:Agree n l l') {i:Nat} (hi:i<n) (t:En) (x:Xa):stepT l i t x=stepT l' i t x:=by
 have key:(match idxV l x.object with|some j=>bif decide ((j:Int)<(i:Int)) then undoT t (l.getD j Xa.zero) else t|none=>t)=(match idxV l' x.object with|some j=>bif decide ((j:Int)<(i:Int)) then undoT t (l'.getD j Xa.zero) else t|none=>t):=by
  cases e:idxV l x.object with
  | none =>
   cases e':idxV l' x.object with
   | none=>rfl
   | some j =>
    have:¬ j<n:=fun hj=>by have:=jy h.symm _ hj e';rw [e] at this;cases this
    have h1:¬ ((j:Int)<(i:Int)):=by omega
    simp only [Zd h1,Zf]
  | some j =>
   by_cases hj:j<n
   · rw [jy h _ hj e]
     simp only [h.getD hj]
   · have h1:¬ ((j:Int)<(i:Int)):=by omega
     cases e':idxV l' x.object with
     | none=>simp only [Zd h1,Zf]
     | some j' =>
      have:¬ j'<n:=fun hj'=>by have:=jy h.symm _ hj' e';rw [e] at this;exact hj (by cases this;exact hj')
      have h2:¬ ((j':Int)<(i:Int)):=by omega
      simp only [Zd h1,Zd h2,Zf]
 unfold stepT
 congr 6
theorem m6 {n:Nat} {l l':List Xa} (h:Agree n l l'):∀ k,k≤n→tieF l k=tieF l' k
 | 0,_=>rfl
 | k+1,hk=>by simp only [tieF,m6 h k aa,h.getD (show k<n by omega),tp h (show k<n by omega)]
theorem uI {n len:Nat} (h:n≤len):limN (n:Int) len=n:=by rw [yz];omega
def rtextV (c:Xb) (i:Int):Bool:=decide (0≤i)&&(match c.actsL[i.toNat]? with
 | some a=>postK a.kind||decide (a.kind=14)
 | none=>false)
def rmemV (c:Xb) (i:Int):List ByteArray:=bif wellV c i then (match c.actsL[i.toNat]? with
 | some a=>membersV c i a.scope a.group a.toL
 | none=>[]) else []
def pubV (c:Xb) (i:Int):Bool:=match c.actsL[i.toNat]? with
 | some a=>decide (a.scope=0)
 | none=>false
def mayV (c:Xb) (i:Int) (r:ByteArray):Bool:=rtextV c i&&(seqB r c.id||pubV c i||hasS (rmemV c i) r)
structure ReadF (c:Xb) (i:Int) (a:Xa) (l:List ByteArray):Prop where
 asc:Asc l
 own:c.id∈l
 mem:∀ x∈l,x≠c.id→x∈membersV c i a.scope a.group a.toL
 len:l.length=1+(bif wellV c i then (membersV c i a.scope a.group a.toL).length else 0)
structure ChOk (c:Xb):Prop where
 acts:Xw c.actsL
 len:c.actsL.length≤1000000
 to:∀ x∈c.actsL,x.to.n≤1000000
structure HisI (m:Nat) where
 k:Nat
 hk:k≤m
 A:Option Addr
 c:Nat
end Go.Proofs.YtaolfiikahlmkaaGreatDoor
namespace Go.Proofs.YtaolfiikahlmkaaGreatDoor
open Go Go.Proofs Sy
section
variable {P:Program} {N:Nat} {av bor:List Nat} {w0:World} {E:Env} {loc:List Xl} {X:World→Prop}
end
end Go.Proofs.YtaolfiikahlmkaaGreatDoor
namespace Go.Proofs.YtaolfiikahlmkaaGreatDoor
open Go Go.Proofs Sy Tryz
def accL (vs hs:List Nat):Nat→List Nat
 | 0=>vs
 | i+1=>(accL vs hs i).set i (((accL vs hs i).getD i 0+hs.getD i 0)%4294967296)
theorem vt (vs hs:List Nat):∀ i,(accL vs hs i).length=vs.length
 | 0=>rfl
 | i+1=>by rw [accL,Z7,vt vs hs i]
structure RowA (n:Nat) where
 k:Nat
 hk:k≤n
 A:Option Addr
 c:Nat
set_option maxRecDepth 20000 in
theorem v7 (sh sb:Xk) (h:S8) (hh:h.Lt) (l:List Nat) (hl:l.length=64) (hb:∀ x∈l,x<256):Mk prog 161 #[sh.v,sb.v] (fun w=>U32s w sh h.l∧U8s w sb l) (fun u X'=>∃ s':Xk,u=s'.v∧∀ w,X' w→U32s w s' (mixN h (winN (fW l) 0)).l):=by
 refine dm func161 ntmps161 fun av bor w0=>?_
 have hwo:=ud sb l hl hb
 refine aQ (p:=sh.n=8∧sh.p.isSome=true) (fun w h1=>⟨by rw [iT (f:=fun n=>.int .u32 (n:Int)) h1.1];rfl,gE (f:=fun n=>.int .u32 (n:Int)) h1.1 (by rw [show h.l.length=8 from rfl];omega)⟩) fun ⟨hsn,hsp⟩=>?_
 have hkl:kN.length=64:=by kernel_rfl
 have hwl:(row2 l 48).length=64:=jS l 48
 repeat' (first|refine ry fun _=>?_|(refine bF (hc:=hwo) fun v1 X1 h1=>?_;obtain ⟨sw,rfl,hW⟩:=h1)|(refine bF (hc:=wg) fun v2 X2 h2=>?_;obtain ⟨sk,rfl,hK⟩:=h2)|(refine aL (size:=1) (news:=u32n h.l) (q:=sh.n) rfl rfl rfl rfl (fun _=>At.here _) (fun w G=>F9 G.keep.now.1.1.1) aa (by simp only [maxLen];omega) rfl ?_ rfl ?_;(with_reducible rfl);intro A0 c0)|refine gs ?_|fail)
 rw [hsn]
 refine aQ (p:=(sw.n=64∧sw.p.isSome=true)∧(sk.n=64∧sk.p.isSome=true)) (fun w h1=>⟨⟨by rw [iT (f:=fun n=>.int .u32 (n:Int)) (hW w h1.1.2),hwl],gE (f:=fun n=>.int .u32 (n:Int)) (hW w h1.1.2) aa⟩,⟨by rw [iT (f:=fun n=>.int .u32 (n:Int)) (hK w h1.2),hkl],gE (f:=fun n=>.int .u32 (n:Int)) (hK w h1.2) aa⟩⟩) fun ⟨⟨hwn,hwp⟩,⟨hkn,hkp⟩⟩=>?_
 refine aq (ι:=RowA 64) (fun i=>⟨[(0,sh.v),(5,sw.v),(6,sk.v),(7,.slice i.A 8 i.c),(8,.int .i64 (i.k:Nat))],[orow 167 1 (.slice i.A 8 i.c) 8 (u32n (rndN (fW l) h i.k).l)],fun w=>(U32s w sh h.l∧U32s w sw (row2 l 48))∧U32s w sk kN⟩) (fun i=>64-i.k) ⟨0,by omega,A0,c0⟩ (ai am (ak _) fun w h1=>⟨⟨h1.1.1.1,hW w h1.1.2⟩,hK w h1.2⟩) fun i=>?_
 obtain ⟨k,hk,A,c⟩:=i
 simp only
 refine bY ao (fun w h=>bK h aa) fun hAs=>?_
 repeat' (first|refine gs ?_|(refine gp ?_ ?_<;>intro hx_ this)|fail)
 · have hlt:k<64:=by omega
   have hLt:=DD (fW l) hh k
   obtain ⟨kk,hkk⟩:∃ x,x=kN.getD k 0:=⟨_,rfl⟩
   obtain ⟨ww,hww⟩:∃ x,x=sN (fW l) 48 k:=⟨_,rfl⟩
   have hgk:∀ w,(U32s w sh h.l∧U32s w sw (row2 l 48))∧U32s w sk kN→CellAt w sk.p k (.int .u32 (kk:Int)):=fun w h1=>hkk▸jR (f:=fun n=>.int .u32 (n:Int)) h1.2 aa
   have hgw:∀ w,(U32s w sh h.l∧U32s w sw (row2 l 48))∧U32s w sk kN→CellAt w sw.p k (.int .u32 (ww:Int)):=fun w h1=>by
    have h2:=jR (f:=fun n=>.int .u32 (n:Int)) h1.1.2 (i:=k) aa
    rw [tE l aa,←hww] at h2
    exact h2
   have hnext:rndN (fW l) h (k+1)=roundN (rndN (fW l) h k) kk ww:=by rw [rndN,hkk,hww]
   rw [tF] at hnext
   generalize rndN (fW l) h k=S at *
   obtain ⟨a,b,d,e,f,g,p,q⟩:=S
   obtain ⟨ha,hbb,hd,he,hf,hg,hp,hq⟩:=hLt
   simp only at ha hbb hd he hf hg hp hq hnext
   simp only [S8.l]
   have hn:8=(u32n [a,b,d,e,f,g,p,q]).length:=rfl
   have hg0:(u32n [a,b,d,e,f,g,p,q])[0]?=some (.int .u32 (a:Int)):=rfl
   have hg1:(u32n [a,b,d,e,f,g,p,q])[1]?=some (.int .u32 (b:Int)):=rfl
   have hg2:(u32n [a,b,d,e,f,g,p,q])[2]?=some (.int .u32 (d:Int)):=rfl
   have hg3:(u32n [a,b,d,e,f,g,p,q])[3]?=some (.int .u32 (e:Int)):=rfl
   have hg4:(u32n [a,b,d,e,f,g,p,q])[4]?=some (.int .u32 (f:Int)):=rfl
   have hg5:(u32n [a,b,d,e,f,g,p,q])[5]?=some (.int .u32 (g:Int)):=rfl
   have hg6:(u32n [a,b,d,e,f,g,p,q])[6]?=some (.int .u32 (p:Int)):=rfl
   have hg7:(u32n [a,b,d,e,f,g,p,q])[7]?=some (.int .u32 (q:Int)):=rfl
   have t6:=di f 6 hf aa aa
   have t11:=di f 11 hf aa aa
   have t25:=di f 25 hf aa aa
   have t2:=di a 2 ha aa aa
   have t13:=di a 13 ha aa aa
   have t22:=di a 22 ha aa aa
   have l6:=gu (n:=6) hf aa aa
   have l11:=gu (n:=11) hf aa aa
   have l25:=gu (n:=25) hf aa aa
   have l2:=gu (n:=2) ha aa aa
   have l13:=gu (n:=13) ha aa aa
   have l22:=gu (n:=22) ha aa aa
   have e1:t1N q f g p kk ww=((((q+((rot (2 ^ (32-6)) (2 ^ 6) f ^^^ rot (2 ^ (32-11)) (2 ^ 11) f) ^^^ rot (2 ^ (32-25)) (2 ^ 25) f))%4294967296+((f &&& g) ^^^ ((4294967295 ^^^ f) &&& p)))%4294967296+kk)%4294967296+ww)%4294967296:=rfl
   have e2:t2N a b d=(((rot (2 ^ (32-2)) (2 ^ 2) a ^^^ rot (2 ^ (32-13)) (2 ^ 13) a) ^^^ rot (2 ^ (32-22)) (2 ^ 22) a)+(((a &&& b) ^^^ (a &&& d)) ^^^ (b &&& d)))%4294967296:=rfl
   rw [e1,e2] at hnext
   clear e1 e2
   generalize rot (2 ^ (32-6)) (2 ^ 6) f=r6 at *
   generalize rot (2 ^ (32-11)) (2 ^ 11) f=r11 at *
   generalize rot (2 ^ (32-25)) (2 ^ 25) f=r25 at *
   generalize rot (2 ^ (32-2)) (2 ^ 2) a=r2 at *
   generalize rot (2 ^ (32-13)) (2 ^ 13) a=r13 at *
   generalize rot (2 ^ (32-22)) (2 ^ 22) a=r22 at *
   have x1:=Nat.xor_lt_two_pow (n:=32) l6 l11
   have x3:=Nat.xor_lt_two_pow (n:=32) l2 l13
   have x5:f &&& g<4294967296:=Nat.lt_of_le_of_lt Nat.and_le_left hf
   have x6:4294967295 ^^^ f<4294967296:=Nat.xor_lt_two_pow (n:=32) (by decide) hf
   have x7:(4294967295 ^^^ f) &&& p<4294967296:=Nat.lt_of_le_of_lt Nat.and_le_left x6
   have x8:a &&& b<4294967296:=Nat.lt_of_le_of_lt Nat.and_le_left ha
   have x9:a &&& d<4294967296:=Nat.lt_of_le_of_lt Nat.and_le_left ha
   have x10:b &&& d<4294967296:=Nat.lt_of_le_of_lt Nat.and_le_left hbb
   have x11:(a &&& b) ^^^ (a &&& d)<4294967296:=Nat.xor_lt_two_pow (n:=32) x8 x9
   (refine ap ⟨[0,1,2,4,5,6,9,10,11],[(3,⟨[],[(7,⟨[8],[(12,⟨[13,14],[]⟩)]⟩)]⟩)]⟩ [orow 167 1 (.slice A 8 c) 8 (u32n [a,b,d,e,f,g,p,q])] (fun w=>(U32s w sh h.l∧U32s w sw (row2 l 48))∧U32s w sk kN) (h:=?_))
   all_goals repeat' (first|refine ay (hy:=by (apply mN;rfl;rfl;assumption;assumption)) ?_|(refine ae (hc:=t6) ?_)|(refine ae (hc:=t11) ?_)|(refine ae (hc:=t25) ?_)|refine gd ?_|refine ay (hy:=by first|(apply aB (q:=4);rfl;rfl;omega;omega;assumption;omega)|(apply ej;rfl;exact ao;exact hn;exact hg4)) ?_|refine az ?_ (h':=?_)|exact aA|fail)
   apply QQ
   (refine ap ⟨[0,1,2,3,4,5,6,7,8,9,10,11,12,13,14,15,16,17,18,19,20,21,22,23,24,25,26,27,28,29,30,31,32],[]⟩ [orow 167 1 (.slice A 8 c) 8 (u32n [a,b,d,e,f,g,p,q])] (fun w=>(U32s w sh h.l∧U32s w sw (row2 l 48))∧U32s w sk kN) (h:=?_))
   all_goals repeat' (first|refine ay (hy:=by first|(apply mU;rfl;rfl)|(apply mN;rfl;rfl;assumption;assumption)|(apply B3;rfl;rfl;assumption;assumption)|(apply IS;rfl;assumption)) ?_|refine gd ?_|refine ay (hy:=by first|(apply aB (q:=4);rfl;rfl;omega;omega;assumption;omega)|(apply aB (q:=5);rfl;rfl;omega;omega;assumption;omega)|(apply aB (q:=6);rfl;rfl;omega;omega;assumption;omega)|(apply aB (q:=7);rfl;rfl;omega;omega;assumption;omega)|(apply aB (q:=k);rfl;rfl;omega;omega;assumption;omega)|(apply ej;rfl;exact ao;exact hn;exact hg4)|(apply ej;rfl;exact ao;exact hn;exact hg5)|(apply ej;rfl;exact ao;exact hn;exact hg6)|(apply ej;rfl;exact ao;exact hn;exact hg7)|(apply dH (q:=k) (u:=.int .u32 (kk:Int));rfl;exact hgk)|(apply dH (q:=k) (u:=.int .u32 (ww:Int));rfl;exact hgw)) ?_|fail)
   apply QQ
   (refine ap ⟨[0,1,2,4,5,6,9,10,11],[(3,⟨[],[(7,⟨[8],[(12,⟨[13,14],[]⟩)]⟩)]⟩)]⟩ [orow 167 1 (.slice A 8 c) 8 (u32n [a,b,d,e,f,g,p,q])] (fun w=>(U32s w sh h.l∧U32s w sw (row2 l 48))∧U32s w sk kN) (h:=?_))
   all_goals repeat' (first|refine ay (hy:=by (apply mN;rfl;rfl;assumption;assumption)) ?_|(refine ae (hc:=t2) ?_)|(refine ae (hc:=t13) ?_)|(refine ae (hc:=t22) ?_)|refine gd ?_|refine ay (hy:=by first|(apply aB (q:=0);rfl;rfl;omega;omega;assumption;omega)|(apply ej;rfl;exact ao;exact hn;exact hg0)) ?_|refine az ?_ (h':=?_)|exact aA|fail)
   apply QQ
   (refine ap ⟨[0,1,2,3,4,5,6,7,8,9,10,11,12,13,14,15,16,17,18,19,20,21,22,23,24,25],[]⟩ [orow 167 1 (.slice A 8 c) 8 (u32n [a,b,d,e,f,g,p,q])] (fun w=>(U32s w sh h.l∧U32s w sw (row2 l 48))∧U32s w sk kN) (h:=?_))
   all_goals repeat' (first|refine ay (hy:=by first|(apply mU;rfl;rfl)|(apply mN;rfl;rfl;assumption;assumption)|(apply B3;rfl;rfl;assumption;assumption)) ?_|refine gd ?_|refine ay (hy:=by first|(apply aB (q:=0);rfl;rfl;omega;omega;assumption;omega)|(apply aB (q:=1);rfl;rfl;omega;omega;assumption;omega)|(apply aB (q:=2);rfl;rfl;omega;omega;assumption;omega)|(apply ej;rfl;exact ao;exact hn;exact hg0)|(apply ej;rfl;exact ao;exact hn;exact hg1)|(apply ej;rfl;exact ao;exact hn;exact hg2)) ?_|fail)
   obtain ⟨one,h1⟩:∃ x,x=((((q+((r6 ^^^ r11) ^^^ r25))%4294967296+((f &&& g) ^^^ ((4294967295 ^^^ f) &&& p)))%4294967296+kk)%4294967296+ww)%4294967296:=⟨_,rfl⟩
   obtain ⟨two,h2⟩:∃ x,x=(((r2 ^^^ r13) ^^^ r22)+(((a &&& b) ^^^ (a &&& d)) ^^^ (b &&& d)))%4294967296:=⟨_,rfl⟩
   rw [←h1,←h2] at hnext
   rw [←h1,←h2]
   (refine ap ⟨[0,1,2,3,4,5,6,7,8,9,10,11,12,13,14,15,16,17,18,19,20,21,22,23,24,25],[(26,⟨[27],[]⟩)]⟩ [orow 167 1 (.slice A 8 c) 8 (u32n [a,b,d,e,f,g,p,q])] (fun w=>(U32s w sh h.l∧U32s w sw (row2 l 48))∧U32s w sk kN) (h:=?_))
   all_goals repeat' (first|refine ay (hy:=by (apply mU;rfl;rfl)) ?_|refine gd ?_|refine ay (hy:=by first|(apply aB (q:=0);rfl;rfl;omega;omega;assumption;omega)|(apply aB (q:=1);rfl;rfl;omega;omega;assumption;omega)|(apply aB (q:=2);rfl;rfl;omega;omega;assumption;omega)|(apply aB (q:=3);rfl;rfl;omega;omega;assumption;omega)|(apply aB (q:=4);rfl;rfl;omega;omega;assumption;omega)|(apply aB (q:=5);rfl;rfl;omega;omega;assumption;omega)|(apply aB (q:=6);rfl;rfl;omega;omega;assumption;omega)|(apply ej;rfl;exact ao;exact hn;exact hg0)|(apply ej;rfl;exact ao;exact hn;exact hg1)|(apply ej;rfl;exact ao;exact hn;exact hg2)|(apply ej;rfl;exact ao;exact hn;exact hg3)|(apply ej;rfl;exact ao;exact hn;exact hg4)|(apply ej;rfl;exact ao;exact hn;exact hg5)|(apply ej;rfl;exact ao;exact hn;exact hg6)) ?_|refine az ?_ (h':=?_)|exact aA|((refine eC (vs:=u32n [(one+two)%4294967296,a,b,d,(e+one)%4294967296,f,g,p]) fun bb=>?_;refine ru 1 8 rfl (by decide) ?_))|fail)
   repeat' (first|refine gs ?_|fail)
   exact ⟨(⟨k+1,hlt,some ⟨bb,0,none⟩,8⟩:RowA 64),(by show 64-(k+1)<64-k;omega),ai am (by rw [hnext];exact .cons_cons _ (Zt _)) fun _ h=>h⟩
 · obtain rfl:k=64:=by omega
   have hmix:=Kn h (winN (fW l) 0)
   rw [vY] at hmix
   generalize rndN (fW l) h 64=S at *
   refine aq (ι:=RowA 8) (fun i=>⟨[(0,sh.v),(7,.slice A 8 c),(13,.int .i64 (i.k:Nat))],[orow 167 1 (.slice A 8 c) 8 (u32n (accL S.l h.l i.k))],fun w=>U32s w sh h.l⟩) (fun i=>8-i.k) ⟨0,by omega,A,c⟩ (ai am (ak _) fun _ h=>h.1.1) fun i=>?_
   obtain ⟨k,hk,_,_⟩:=i
   simp only
   have hlen:(accL S.l h.l k).length=8:=vt _ _ k
   repeat' (first|refine gs ?_|(refine gp ?_ ?_<;>intro hx_ this)|fail)
   · have hlt:k<8:=by omega
     have hn:8=(u32n (accL S.l h.l k)).length:=by rw [sW,hlen]
     obtain ⟨v,hv⟩:∃ v,v=(accL S.l h.l k).getD k 0:=⟨_,rfl⟩
     obtain ⟨u,hu⟩:∃ u,u=h.l.getD k 0:=⟨_,rfl⟩
     have hg:(u32n (accL S.l h.l k))[k]?=some (.int .u32 (v:Int)):=by rw [sX aa,hv]
     have hget:∀ w,U32s w sh h.l→CellAt w sh.p k (.int .u32 (u:Int)):=fun w h1=>hu▸jR (f:=fun n=>.int .u32 (n:Int)) h1 (by rw [show h.l.length=8 from rfl];exact hlt)
     have hacc:accL S.l h.l (k+1)=(accL S.l h.l k).set k ((v+u)%4294967296):=by rw [accL,hv,hu]
     have hset:=Cg (accL S.l h.l k) (i:=k) (v:=(v+u)%4294967296) aa
     rw [←hacc] at hset
     (refine ap ⟨[0,1,2,3,4,6,7,8,9],[(5,⟨[10,11],[(12,⟨[],[]⟩)]⟩)]⟩ [] (fun w=>U32s w sh h.l) (h:=?_))
     all_goals repeat' (first|refine ay (hy:=by (apply mU;rfl;rfl)) ?_|refine gd ?_|refine ay (hy:=by first|(apply aB (q:=k);rfl;rfl;omega;omega;assumption;omega)|(apply dH (q:=k) (u:=.int .u32 (u:Int));rfl;exact hget)) ?_|refine az ?_ (h':=?_)|exact aA|(refine aT ?_ (ej rfl ao hn hg))|((refine nR (A:=A) (m:=8) (c:=c) (e:=167) (size:=1) (i:=k) (xs:=u32n (accL S.l h.l k)) (xs':=u32n (accL S.l h.l (k+1))) (vs:=[.int .u32 (((v+u)%4294967296:Nat):Int)]) (v:=.int .u32 (((v+u)%4294967296:Nat):Int)) aj (by rw [Nat.mul_one];rfl) rfl rfl rfl rfl hlt hset (At.here _) rfl aw rfl ?_))|fail)
     repeat' (first|refine gs ?_|fail)
     exact ⟨(⟨k+1,hlt,A,c⟩:RowA 8),(by show 8-(k+1)<8-k;omega),ai am (ak _) fun _ h=>h⟩
   · obtain rfl:k=8:=by omega
     have he:accL S.l h.l 8=(mixN h (winN (fW l) 0)).l:=by
      rw [hmix]
      obtain ⟨a,b,d,e,f,g,p,q⟩:=S
      obtain ⟨a',b',d',e',f',g',p',q'⟩:=h
      simp only [accL,S8.l,List.set_cons_zero,List.set_cons_succ,List.getD_cons_zero,List.getD_cons_succ,List.cons.injEq,and_true,Nat.add_comm]
     rw [he]
     exact ab (ag rfl rfl) ⟨⟨A,8,c⟩,rfl,fun w h1=>U32s.of_row (h1.2 (orow 167 1 (.slice A 8 c) 8 (u32n (mixN h (winN (fW l) 0)).l)) ao) rfl⟩
theorem Jb (l:List Nat):u8s (l.map fun (n:Nat)=>(n:Int))=l.map fun (n:Nat)=>(.int .u8 (n:Int):Value):=by simp [u8s]
theorem U8s.of_row {w:World} {e n c:Nat} {A:Option Addr} {l:List Nat} (h:ORow w e 1 (.slice A n c) n (u8s (l.map fun (n:Nat)=>(n:Int)))) (hn:n=l.length):U8s w ⟨A,n,c⟩ l:=by
 have e1:(l.map fun (n:Nat)=>[(.int .u8 (n:Int):Value)]).flatten=u8s (l.map fun (n:Nat)=>(n:Int)):=by
  rw [Jb]
  clear h hn
  induction l with
  | nil=>rfl
  | cons a l ih=>rw [ZZ,Z9,ih];rfl
 rw [←e1] at h
 exact bu h (by rw [ZE,hn]) fun r hr=>by
  obtain ⟨n,_,rfl⟩:=QH.1 hr
  rfl
theorem U8s.part {w:World} {s:Xk} {l:List Nat} (h:U8s w s l) {i n:Nat} (hi:i+n≤l.length):U8s w ⟨(s.from 1 i).p,n,s.c-i⟩ ((l.drop i).take n):=by
 have h1:=Xf.drop h (n:=i) (by rw [ZE];omega)
 rw [←List.map_drop] at h1
 have h2:=Xf.take h1 (n:=n) (by rw [ZE,Qp];omega)
 rw [←List.map_take] at h2
 exact h2
def padI (s:ByteArray):List Int:=endL s++List.replicate (padN (s.size+1)) 0++sizeB s.size 8
theorem Hp (s:ByteArray) (hs:s.size<2305843009213693952):padI s=(padL (nl s)).map fun (n:Nat)=>(n:Int):=by
 rw [padI,endL,lD,padL,dj,tu s.size hs]
 simp
theorem JE (l:List Nat) (h:∀ x∈l,x<256):∀ x∈padL l,x<256:=fun x hx=>by
 rw [padL] at hx
 rcases Qw.1 hx with hx|hx
 · exact h x hx
 · rcases ZH.1 hx with rfl|hx
   · omega
   · rcases Qw.1 hx with hx|hx
     · rw [(List.mem_replicate.1 hx).2];omega
     · rw [sizeN] at hx
       simp only [ZH,Qi,or_false] at hx
       rcases hx with rfl|rfl|rfl|rfl|rfl|rfl|rfl|rfl<;>exact Qa _ aa
theorem ym (l:List Nat):(padL l).length=l.length+1+padN (l.length+1)+8:=by
 rw [padL]
 simp [sizeN]
 omega
theorem wq (l:List Nat):(padL l).length%64=0:=by
 rw [ym,padN]
 omega
section
variable {P:Program} {N:Nat} {av bor:List Nat} {w0:World} {st:St} {ty:TypeId} {x y z:Operand} {t t2:TypeId} {a b:Nat}
theorem B4 (hx:ev st.env x=some (.int .i64 (a:Int))) (hy:ev st.env y=some (.int .i64 (b:Int))) (hc:a+b<9223372036854775808):Sy.Yields P N av bor w0 st (.binOp .add t x y t2) ty (.int .i64 ((a+b:Nat):Int)) :=
 mV hx hy (by rw [←Int.natCast_add];exact IntWalk.i64_in _ aa)
theorem IQ {e size b':Nat} [hI:Ea P t e size b'] {s:Xk} {i n:Nat} (hx:ev st.env x=some s.v) (hy:ev st.env y=some (.int .i64 (i:Int))) (hz:ev st.env z=some (.int .i64 ((i+n:Nat):Int))) (h2:i+n≤s.c) :
  Sy.Yields P N av bor w0 st (.slice t x (some y) (some z) none) ty (⟨(s.from size i).p,n,s.c-i⟩:Xk).v:=by
 have h:=FT (P:=P) (N:=N) (av:=av) (bor:=bor) (w0:=w0) (st:=st) (ty:=ty) (t:=t) (size:=size) hx hy hz aa aa aa
 have e1:((i:Nat):Int).toNat=i:=rfl
 have e2:((i+n:Nat):Int).toNat-i=n:=by omega
 rw [e1,e2] at h
 exact h
end
def outB (S:S8) (i:Nat):Nat:=(S.l.getD (i/4) 0/2 ^ (24-8*(i%4)))%256
theorem Ig (S:S8):digN S=(List.range 32).map (outB S):=by
 obtain ⟨a,b,c,d,e,f,g,h⟩:=S
 simp [digN,d4N,outB,S8.l,List.range,List.range.loop]
structure ShaI (L:List Nat) (m:Nat) where
 k:Nat
 hk:k≤m
 s:Xk
 S:S8
 lt:S.Lt
 run:runN (m-k) S (L.drop (64*k))=runN m iniN L
set_option maxRecDepth 20000 in
theorem qp (s:ByteArray) (hs:s.size≤1099511627776):Pu prog 91 #[.string s] (fun _=>True) (.string (shaV s)):=by
 refine ax func91 ntmps91 fun av bor w0=>?_
 repeat' (first|refine gs ?_|refine gs1 fun _=>?_|(refine vM fun A c=>?_)|fail)
 refine aL (size:=1) (z:=.int .u8 0) (news:=u8s [128]) (q:=1) rfl rfl rfl rfl (fun _=>At.there _ (At.here _)) (fun w G=>bN G ao rfl rfl 1) ?_ ?_ rfl ?_ rfl ?_
 · omega
 · simp only [maxLen];omega
 · rfl
 intro A1 c1
 repeat' (first|refine gs ?_|fail)
 have hel:=o9 s
 refine aq (ι:=EndS (padN (s.size+1))) (fun i=>⟨[(0,.string s),(3,.slice i.A (s.size+1+i.k) i.c)],[orow 5 1 (.slice i.A (s.size+1+i.k) i.c) (s.size+1+i.k) (u8s (endL s++List.replicate i.k 0))],fun _=>True⟩) (fun i=>padN (s.size+1)-i.k) ⟨0,Z2 _,A1,c1⟩ (ai am ?_ fun _ h=>h) fun i=>?_
 · refine Z0 _ ?_
   rw [←cd]
   simp only [List.replicate_zero,ZI]
   exact ak _
 have hik:=i.hk
 have hp:padN (s.size+1)<64:=Qa _ aa
 have hp2:padN (s.size+1)=(120-(s.size+1)%64)%64:=rfl
 have htm:Int.tmod ((s.size+1+i.k:Nat):Int) 64=(((s.size+1+i.k)%64:Nat):Int):=Int.ofNat_tmod _ _
 repeat' (first|refine gs ?_|fail)
 refine fw (hc:=htm) ?_
 repeat' (first|refine gs ?_|refine gs1 fun _=>?_|(refine gp ?_ ?_<;>intro hx_ this)|fail)
 · have hlt:i.k<padN (s.size+1):=by
    have h1:¬ (((s.size+1+i.k)%64:Nat):Int)=56:=by simpa using hx_
    omega
   refine aL (size:=1) (z:=.int .u8 0) (news:=u8s [0]) (q:=1) rfl rfl rfl rfl (fun _=>At.there _ (At.here _)) (fun w G=>bN G ao rfl rfl 1) ?_ ?_ rfl ?_ rfl ?_
   · omega
   · simp only [maxLen];omega
   · rfl
   intro A2 c2
   repeat' (first|refine gs ?_|fail)
   refine ⟨(⟨i.k+1,hlt,A2,c2⟩:EndS (padN (s.size+1))),(by show padN (s.size+1)-(i.k+1)<padN (s.size+1)-i.k;omega),ai am ?_ fun _ h=>h⟩
   refine Z0 _ ?_
   rw [←cd]
   simp only [List.replicate_succ',ZB]
   exact ak _
 have hk:i.k=padN (s.size+1):=by
  have h1:(((s.size+1+i.k)%64:Nat):Int)=56:=by simpa using hx_
  omega
 have hl1:(endL s++List.replicate (padN (s.size+1)) 0:List Int).length=s.size+1+padN (s.size+1):=by simp [hel]
 rw [hk]
 have hpad:=Hp s aa
 have hplen:(padL (nl s)).length=s.size+1+padN (s.size+1)+8:=by rw [ym,dj]
 rw [padI] at hpad
 have h8:IntKind.u64.wrap (8*IntKind.u64.wrap (s.size:Int))=IntKind.u64.wrap (IntKind.u64.wrap (s.size:Int)*8):=by rw [Int.mul_comm]
 rw [h8]
 generalize hL:(endL s++List.replicate (padN (s.size+1)) 0:List Int)=L0 at *
 refine aq (ι:=EndS 8) (fun j=>⟨[(3,.slice j.A (s.size+1+padN (s.size+1)+j.k) j.c),(4,.int .u64 (IntKind.u64.wrap (IntKind.u64.wrap (s.size:Int)*8))),(5,.int .i64 (56-8*(j.k:Int)))],[orow 5 1 (.slice j.A (s.size+1+padN (s.size+1)+j.k) j.c) (s.size+1+padN (s.size+1)+j.k) (u8s (L0++sizeB s.size j.k))],fun _=>True⟩) (fun j=>8-j.k) ⟨0,Z2 _,i.A,i.c⟩ (ai am ?_ fun _ h=>h) fun j=>?_
 · have e:sizeB (s.size:Int) 0=[]:=rfl
   simp only [e,ZI]
   exact ak _
 have hjk:=j.hk
 repeat' (first|refine gs ?_|refine gs1 fun _=>?_|(refine gp ?_ ?_<;>intro hx_ this)|fail)
 · have hlt:j.k<8:=by omega
   refine aL (size:=1) (z:=.int .u8 0) (news:=u8s [IntKind.u8.wrap (shrV .u64 (IntKind.u64.wrap (IntKind.u64.wrap (s.size:Int)*8)) (56-8*(j.k:Int)))]) (q:=1) rfl rfl rfl rfl (fun _=>At.there _ (At.here _)) (fun w G=>bN G ao rfl rfl 1) ?_ ?_ rfl ?_ rfl ?_
   · omega
   · simp only [maxLen];omega
   · rfl
   intro A2 c2
   repeat' (first|refine gs ?_|fail)
   refine ⟨(⟨j.k+1,hlt,A2,c2⟩:EndS 8),(by show 8-(j.k+1)<8-j.k;omega),ai ⟨rfl,rfl,?_,trivial⟩ ?_ fun _ h=>h⟩
   · show some (Value.int .i64 (56-8*(j.k:Int)-8))=some (Value.int .i64 (56-8*((j.k+1:Nat):Int)))
     congr 2
     omega
   refine Z0 _ ?_
   rw [←cd]
   have e:sizeB (s.size:Int) (j.k+1)=sizeB s.size j.k++[IntKind.u8.wrap (shrV .u64 (IntKind.u64.wrap (IntKind.u64.wrap (s.size:Int)*8)) (56-8*(j.k:Int)))]:=by simp [sizeB,List.range_succ]
   simp only [e,ZB]
   exact ak _
 have hj8:j.k=8:=by omega
 rw [hj8,hpad]
 obtain ⟨sp,hsp⟩:∃ sp:Xk,sp=⟨j.A,s.size+1+padN (s.size+1)+8,j.c⟩:=⟨_,rfl⟩
 have hLt:=JE (nl s) (j5 s)
 have hLm:=wq (nl s)
 have hsha:=Jo s aa
 rw [shaL] at hsha
 obtain ⟨L,hLL⟩:∃ L,L=padL (nl s):=⟨_,rfl⟩
 rw [←hLL] at hplen hLt hLm hsha
 obtain ⟨m,hm⟩:∃ m,m=L.length/64:=⟨_,rfl⟩
 rw [←hm] at hsha
 have hL64:L.length=64*m:=by omega
 refine bJ ?_
 repeat' (first|(refine bF (hc:=rL) fun v1 X1 h1=>?_;obtain ⟨sh0,rfl,hw0⟩:=h1)|refine gs ?_|fail)
 have hspD:∀ w,(True∧(orow 5 1 (.slice j.A (s.size+1+padN (s.size+1)+8) j.c) (s.size+1+padN (s.size+1)+8) (u8s ((padL (nl s)).map fun (n:Nat)=>(n:Int)))).F w)→U8s w sp L:=fun w h=>by
  rw [hsp,hLL]
  exact U8s.of_row h.2 (by rw [←hLL];exact hplen.symm)
 have hp0:0<L.length:=by omega
 refine aQ (p:=sp.c≥L.length∧sp.p.isSome=true) (fun w h=>⟨by
  have h1:=Xf.cap (hspD w h.1)
  have h2:=iT (f:=fun n=>.int .u8 (n:Int)) (hspD w h.1)
  omega,gE (f:=fun n=>.int .u8 (n:Int)) (hspD w h.1) hp0⟩) fun ⟨hsc,hspp⟩=>?_
 have hspn:sp.n=L.length:=by rw [hsp,hplen]
 have hspv:sp.v=.slice j.A (s.size+1+padN (s.size+1)+8) j.c:=by rw [hsp];rfl
 refine aq (ι:=ShaI L m) (fun i=>⟨[(3,sp.v),(6,i.s.v),(7,.int .i64 ((64*i.k:Nat):Int))],[],fun w=>U8s w sp L∧U32s w i.s i.S.l⟩) (fun i=>m-i.k) ⟨0,Z2 _,sh0,iniN,JP,by rw [Nat.mul_zero,List.drop_zero,Nat.sub_zero]⟩ (ai ⟨by rw [hspv];rfl,rfl,rfl,trivial⟩ (ak _) fun w h=>⟨hspD w h.1,hw0 w h.2⟩) fun i=>?_
 obtain ⟨k,hk2,sh,S,hSl,hrun⟩:=i
 simp only
 repeat' (first|refine aT ?_ (B4 (b:=64) rfl rfl aa)|refine gs ?_|(refine gp ?_ ?_<;>intro hx_ this)|fail)
 · have hlt:k<m:=by omega
   have hdl:(L.drop (64*k)).length=64*(m-k):=by rw [Qp];omega
   have hpl:((L.drop (64*k)).take 64).length=64:=by rw [Qg];omega
   have hpb:∀ x∈(L.drop (64*k)).take 64,x<256:=fun x hx=>hLt x (List.mem_of_mem_drop (List.mem_of_mem_take hx))
   have hne:=v7 sh ⟨(sp.from 1 (64*k)).p,64,sp.c-64*k⟩ S hSl _ hpl hpb
   have hcg:winN (fW ((L.drop (64*k)).take 64)) 0=winN (fW (L.drop (64*k))) 0:=mY fun t ht=>yJ t ht
   rw [hcg] at hne
   have hrun2:runN (m-(k+1)) (mixN S (winN (fW (L.drop (64*k))) 0)) (L.drop (64*(k+1)))=runN m iniN L:=by
    have e1:m-k=(m-(k+1))+1:=by omega
    rw [e1,gD aa,List.drop_drop] at hrun
    rw [show 64*(k+1)=64*k+64 from by omega]
    exact hrun
   repeat' (first|refine aT ?_ (B4 (b:=64) rfl rfl aa)|(refine bF (hc:=hne) (hX:=fun w h=>⟨h.2,U8s.part h.1 aa⟩) fun v2 X2 h2=>?_;obtain ⟨s2,rfl,hw2⟩:=h2)|refine gs ?_|(refine aT ?_ (IQ (size:=1) rfl rfl rfl aa))|fail)
   exact ⟨(⟨k+1,hlt,s2,_,JI _ _,hrun2⟩:ShaI L m),(by show m-(k+1)<m-k;omega),ai am (ak _) fun w h=>⟨h.1.1,hw2 w h.2⟩⟩
 · obtain rfl:k=m:=by omega
   rw [Nat.sub_self] at hrun
   have hS:S=runN k iniN L:=hrun
   rw [←hS,Ig] at hsha
   refine aQ (p:=sh.n=8∧sh.p.isSome=true) (fun w h1=>⟨by rw [iT (f:=fun n=>.int .u32 (n:Int)) h1.2];rfl,gE (f:=fun n=>.int .u32 (n:Int)) h1.2 (by rw [show S.l.length=8 from rfl];omega)⟩) fun ⟨hsn,hshp⟩=>?_
   refine cL 5 1 ?_
   refine aq (ι:=RowA 32) (fun i=>⟨[(6,sh.v),(8,.slice i.A i.k i.c),(9,.int .i64 (i.k:Nat))],[orow 5 1 (.slice i.A i.k i.c) i.k (u8s (((List.range i.k).map (outB S)).map fun (n:Nat)=>(n:Int)))],fun w=>U32s w sh S.l⟩) (fun i=>32-i.k) ⟨0,by omega,none,0⟩ (ai am (.cons_cons _ (Zt _)) fun _ h=>h.2) fun i=>?_
   obtain ⟨k2,hk3,A3,c3⟩:=i
   simp only
   clear hspD hrun hLt hLm hplen
   repeat' (first|refine gs ?_|(refine gp ?_ ?_<;>intro hx_ this)|fail)
   · have hlt:k2<32:=by omega
     obtain ⟨q,hq⟩:∃ q,q=k2/4:=⟨_,rfl⟩
     obtain ⟨r,hr⟩:∃ r,r=k2%4:=⟨_,rfl⟩
     have h1:IntKind.i64.wrap ((k2:Int).tdiv 4)=(q:Int):=by
      rw [show (k2:Int).tdiv 4=((k2/4:Nat):Int) from Int.ofNat_tdiv _ _,←hq]
      exact IntWalk.i64_in _ aa
     have h2:(k2:Int).tmod 4=(r:Int):=by rw [show (k2:Int).tmod 4=((k2%4:Nat):Int) from Int.ofNat_tmod _ _,←hr]
     obtain ⟨u,hu⟩:∃ u,u=24-8*r:=⟨_,rfl⟩
     have h3:IntKind.i64.wrap (24-((8*r:Nat):Int))=(u:Int):=by
      rw [show 24-((8*r:Nat):Int)=(u:Int) from by omega]
      exact IntWalk.i64_in _ aa
     obtain ⟨x,hx⟩:∃ x,x=S.l.getD q 0:=⟨_,rfl⟩
     have hx2:x<4294967296:=by
      obtain ⟨a,b,c,d,e,f,g,h⟩:=S
      obtain ⟨ha,hb,hc,hd,he,hf,hg,hh⟩:=hSl
      simp only at ha hb hc hd he hf hg hh
      have:q<8:=by omega
      rw [hx]
      have hq8:q=0∨q=1∨q=2∨q=3∨q=4∨q=5∨q=6∨q=7:=by omega
      rcases hq8 with h|h|h|h|h|h|h|h<;>rw [h]<;>assumption
     have hg:∀ w,U32s w sh S.l→CellAt w sh.p q (.int .u32 (x:Int)):=fun w h=>hx▸jR (f:=fun n=>.int .u32 (n:Int)) h (by rw [show S.l.length=8 from rfl];omega)
     have hpw:(2:Int) ^ (min ((u:Int)).toNat 32)=((2 ^ u:Nat):Int):=by
      rw [ZX,Nat.min_eq_left (by omega)]
      simp
     have h8w:IntKind.u8.wrap ((x/2 ^ u:Nat):Int)=((outB S k2:Nat):Int):=by rw [wrap8,outB,←hq,←hr,←hu,←hx]
     have hrow:(List.range (k2+1)).map (outB S)=(List.range k2).map (outB S)++[outB S k2]:=by rw [List.range_succ,ZU];rfl
     have hou:outB S k2<256:=Qa _ aa
     generalize outB S k2=ob at *
     repeat' (first|refine aT ?_ (pQ (c:=(q:Int)) rfl rfl (by decide) h1)|refine aT ?_ (sM (c:=(r:Int)) rfl rfl (by decide) h2)|refine aT ?_ (BW (a:=8) (b:=r) rfl rfl aa)|refine aT ?_ (mO (c:=(u:Int)) rfl rfl h3)|refine aT ?_ (vw (p:=2 ^ u) rfl rfl aa hx2 hpw)|refine aT ?_ (pS rfl h8w)|(refine aL (size:=1) (z:=.int .u8 0) (news:=u8s [(ob:Int)]) (q:=1) rfl rfl rfl rfl (fun _=>At.there _ (At.here _)) (fun w G=>bN G ao rfl rfl 1) aa (by simp only [maxLen];omega) rfl ?_ rfl ?_;(with_reducible rfl);intro A4 c4)|refine gs ?_|refine gs1 fun _=>?_|(refine aD (q:=q) ?_)|(refine cB (q:=q) (u:=.int .u32 (x:Int)) (hF:=hg) ?_)|fail)
     exact ⟨(⟨k2+1,hlt,A4,c4⟩:RowA 32),(by show 32-(k2+1)<32-k2;omega),ai am (by rw [hrow,ZU,cd];exact .cons _ (ak _)) fun _ h=>h⟩
   · obtain rfl:k2=32:=by omega
     rw [←hsha]
     refine eS (hm:=ao) ?_
     repeat' (first|refine gs ?_|fail)
     refine ab (ag rfl rfl) ?_
     rw [←lD,cA]
theorem E5 (s:ByteArray) {i:Nat} (h:i<s.size):(((s.get! i).toNat:Nat):Int)=byteAt s i:=by
 have hs:i<s.data.size:=h
 rw [byteAt,Zp,Qm,Array.getElem?_eq_getElem hs]
 show (((s.data[i]!).toNat:Nat):Int)=_
 rw [getElem!_pos s.data i hs]
 rfl
theorem Ii {s:ByteArray} {i:Nat} (h:(s.get! i).toNat<128):Utf8.decode s i=((s.get! i).toNat,1):=by
 unfold Utf8.decode
 simp only [ZR,h,ZM]
theorem Fo {s:ByteArray} {i:Nat} (h:¬ (s.get! i).toNat<128):128≤(Utf8.decode s i).1:=by
 unfold Utf8.decode
 simp only [ZR,h,if_false]
 repeat' split
 all_goals first
  | (simp only [Utf8.runeError];omega)
  | (simp_all;done)
  | (simp only [ge_iff_le] at *;omega)
  | (simp only [ge_iff_le,Zq,Zv] at *;omega)
theorem lM {bad:Nat→Int→Bool} {s:ByteArray} (hb:∀ q c,128≤c→bad q c=true):∀ f q,s.size≤f+q→runes bad s f q=(List.range' q (s.size-q)).all fun k=>!bad k (byteAt s k)
 | 0,q,h=>by
  rw [runes,show s.size-q=0 from by omega]
  rfl
 | f+1,q,h=>by
  rw [runes]
  by_cases hq:q<s.size
  · rw [Ze hq,Zg]
    have e:s.size-q=(s.size-(q+1))+1:=by omega
    rw [e,List.range'_succ,List.all_cons]
    have hg:=E5 s hq
    by_cases hl:(s.get! q).toNat<128
    · rw [Ii hl]
      simp only
      rw [hg]
      cases hbq:bad q (byteAt s q) with
      | true=>rfl
      | false =>
       rw [Zf,lM hb f (q+1) (by omega)]
       rfl
    · have h1:=hb q _ (show (128:Int)≤((Utf8.decode s q).1:Int) by have:=Fo hl;omega)
      have h2:=hb q (byteAt s q) (by rw [←hg];omega)
      rw [h1,h2]
      rfl
  · rw [Zd hq,show s.size-q=0 from by omega]
    rfl
theorem qj {bad:Nat→Int→Bool} {s:ByteArray} (hb:∀ q c,128≤c→bad q c=true):runes bad s s.size 0=allB s.size fun k=>bad k (byteAt s k):=by
 rw [lM hb s.size 0 aa,allB,List.range_eq_range']
 rfl
def inChr (c l h:Int):Bool:=decide (l≤c)&&decide (c≤h)
theorem jV (c l h:Int):Pu prog 269 #[.int .u8 c,.int .u8 l,.int .u8 h] (fun _=>True) (.bool (inChr c l h)):=by
 refine ax func269 ntmps269 fun av bor w0=>?_
 repeat' (first|refine gs ?_|(refine gp ?_ ?_<;>intro hx_ this)|fail)
 (all_goals (apply ab;apply ag;rfl;rfl));all_goals (simp only [inChr, *,Za,Zg,Zf];done)
def badIdR (s:ByteArray) (k:Nat):Bool:=!inChr (byteAt s k) 48 57&&!inChr (byteAt s k) 97 102
theorem Fz (s:ByteArray) (k:Nat):badId k (byteAt s k)=badIdR s k:=by
 simp only [badId,badIdR,dig,inChr]
 congr 1
 rw [Bool.not_and,←decide_not,←decide_not]
 congr 1<;>exact decide_eq_decide.2 aa
theorem HM (s:ByteArray):isId s=(allB s.size (badIdR s)&&decide ((s.size:Int)=16)):=by
 rw [isId,qj (fun q c h=>by simp only [badId,dig];simp;omega),Bool.and_comm]
 congr 2
 exact funext fun k=>Fz s k
theorem gH (s:ByteArray) (hs:s.size≤maxLen):Pu prog 230 #[.string s] (fun _=>True) (.bool (isId s)):=by
 refine ax func230 ntmps230 fun av bor w0=>?_
 simp only [maxLen] at hs
 rw [HM]
 repeat' (first|refine gs ?_|fail)
 refine aq (ι:=X6 s.size (badIdR s)) (fun i=>⟨[(0,.string s),(3,.int .i64 (i.k:Nat))],[],fun w=>True⟩) (fun i=>s.size-i.k) (X6.zero _ _) (ai am (ak _) fun _ h=>h) fun i=>?_
 have hik:=i.hk
 have e1:((i.k:Nat):Int).toNat=i.k:=rfl
 have hc1:=jV (byteAt s i.k) 48 57
 have hc2:=jV (byteAt s i.k) 97 102
 repeat' (first|(refine ae (hc:=hc1) ?_)|(refine ae (hc:=hc2) ?_)|refine gs ?_|(refine gp ?_ ?_<;>intro hx_ this)|fail)
 all_goals first
  | (refine ab (ag rfl rfl) ?_;rw [cG (k:=i.k) aa (by simp only [badIdR, *,Za,Zg,Zf]),Zk])
  | exact ⟨i.next aa (by simp only [badIdR, *,Za,Zg,Zf]),(by show s.size-(i.k+1)<s.size-i.k;omega),ai am (ak _) fun _ h=>h⟩
  | (refine ab (ag rfl rfl) ?_;rw [i.all aa,Zh])
def badNameR (s:ByteArray) (k:Nat):Bool:=!inChr (byteAt s k) 97 122&&(decide ((k:Int)=0)||!inChr (byteAt s k) 48 57&&!decide (byteAt s k=95))
theorem A9 (s:ByteArray):isName s=(allB s.size (badNameR s)&&(decide (1≤(s.size:Int))&&decide ((s.size:Int)≤24))):=by
 rw [isName,qj (fun q c h=>by simp only [badName,dig];simp;omega),dv,Bool.and_comm]
 congr 1
 rw [←decide_not,←decide_not]
 congr 1<;>exact decide_eq_decide.2 aa
theorem jq (s:ByteArray) (hs:s.size≤maxLen):Pu prog 271 #[.string s] (fun _=>True) (.bool (isName s)):=by
 refine ax func271 ntmps271 fun av bor w0=>?_
 simp only [maxLen] at hs
 rw [A9]
 repeat' (first|refine gs ?_|fail)
 refine aq (ι:=X6 s.size (badNameR s)) (fun i=>⟨[(0,.string s),(3,.int .i64 (i.k:Nat))],[],fun w=>True⟩) (fun i=>s.size-i.k) (X6.zero _ _) (ai am (ak _) fun _ h=>h) fun i=>?_
 have hik:=i.hk
 have e1:((i.k:Nat):Int).toNat=i.k:=rfl
 have hc1:=jV (byteAt s i.k) 97 122
 have hc2:=jV (byteAt s i.k) 48 57
 by_cases hlt:i.k<s.size
 · repeat' (first|(refine ae (hc:=hc1) ?_)|(refine ae (hc:=hc2) ?_)|refine gs ?_|(refine gp ?_ ?_<;>intro hx_ this)|fail)
   all_goals simp only [ZX] at *
   all_goals first
    | (exfalso;omega)
    | (refine ab (ag rfl rfl) ?_;rw [cG (k:=i.k) aa (by simp only [badNameR, *,Za,Zg,Zf]),Zk])
    | exact ⟨i.next aa (by simp only [badNameR, *,Za,Zg,Zf]),(by show s.size-(i.k+1)<s.size-i.k;omega),ai am (ak _) fun _ h=>h⟩
    | skip
 · rw [i.all hlt,Zh]
   repeat' (first|refine gs ?_|(refine gp ?_ ?_<;>intro hx_ this)|fail)
   all_goals first
    | (exfalso;omega)
    | (refine ab (ag rfl rfl) ?_;simp only [*,Za,Zg,Zf];done)
structure Xa.Str (a:Xa):Prop where
 author:a.author.size≤maxLen
 target:a.target.size≤maxLen
 group:a.group.size≤maxLen
 text:a.text.size≤maxLen
 to:∀ x∈a.toL,x.size≤maxLen
def badIdsR (l:List ByteArray) (k:Nat):Bool:=!isId (l.getD k .empty)||decide (0<(k:Int))&&!Op.bytesLess (l.getD (k-1) .empty).toList (l.getD k .empty).toList
theorem GR (a b:ByteArray):(Op.bytesLess a.toList b.toList||seqB a b)=!Op.bytesLess b.toList a.toList:=by
 show (ltB a b||seqB a b)=!ltB b a
 cases h:ltB a b with
 | true=>rw [iU h];rfl
 | false =>
  cases k:ltB b a with
  | true =>
   have:a≠b:=fun e=>EI k e.symm
   rw [seqB_ne.2 this]
   rfl
  | false =>
   rw [ll h k,bP]
   rfl
theorem ER (l:List ByteArray):isIds l=(allB l.length (badIdsR l)&&decide ((l.length:Int)≤64)):=by
 rw [isIds,Bool.and_comm]
 congr 1
 · refine congrArg (allB l.length) (funext fun k=>?_)
   rw [badIds,badIdsR,GR]
 · rw [←decide_not]
   exact decide_eq_decide.2 aa
theorem k8 (s:Xk) (l:List ByteArray) (hz:∀ x∈l,x.size≤maxLen):Pu prog 234 #[s.v] (fun w=>Strs w s l) (.bool (isIds l)):=by
 refine ax func234 ntmps234 fun av bor w0=>?_
 refine aQ (p:=s.n=l.length∧s.n≤maxLen∧(0<l.length→s.p.isSome=true)) (fun w h=>⟨h.len_,ZW (Xf.cap h) (Xf.max h),h.some_⟩) fun ⟨hl,hm,hp⟩=>?_
 simp only [maxLen] at hm
 rw [ER]
 repeat' (first|refine gs ?_|fail)
 refine aq (ι:=X6 l.length (badIdsR l)) (fun i=>⟨[(0,s.v),(3,.int .i64 (i.k:Nat))],[],fun w=>Strs w s l⟩) (fun i=>l.length-i.k) (X6.zero _ _) (ai am (ak _) fun _ h=>h) fun i=>?_
 have hik:=i.hk
 by_cases hlt:i.k<l.length
 · have hp':=hp aa
   have hid:=gH (l.getD i.k .empty) (hz _ (by rw [Zp,Zc hlt];exact ZP hlt))
   repeat' (first|refine gs ?_|(refine gp ?_ ?_<;>intro hx_ this)|fail)
   · (refine bc ⟨[0,1,2,3],[(4,⟨[5,6,7,8,9,10,11,12,13,14,15,16,17,18,19,20,21],[]⟩)]⟩ (h:=?_))
     all_goals repeat' (first|(refine ae (hc:=hid) ?_)|refine gd ?_|refine ay (hy:=by first|(apply aB (q:=i.k);rfl;rfl;omega;omega;assumption;omega)|(apply aB (q:=i.k-1);rfl;rfl;omega;omega;assumption;omega)|(apply dH (q:=i.k);rfl;exact fun w h=>Strs.get h hlt)|(apply dH (q:=i.k-1);rfl;exact fun w h=>Strs.get h (by omega:i.k-1<l.length))|(apply vy;rfl;rfl)) ?_|refine az ?_ (h':=?_)|exact aA|(refine gq ?_ ?_<;>intro hx_ this)|fail)
     all_goals
      repeat' (first|refine gs ?_|(refine gp ?_ ?_<;>intro hx_ this)|fail)
      all_goals first
       | (refine ab (ag rfl rfl) ?_;rw [cG hlt (by simp only [badIdsR, *,Za,Zg,Zf]),Zk])
       | exact ⟨i.next hlt (by simp only [badIdsR, *,Za,Zg,Zf]),(by show l.length-(i.k+1)<l.length-i.k;omega),ai am (ak _) fun _ h=>h⟩
   · exfalso;omega
 · rw [i.all hlt,Zh]
   repeat' (first|refine gs ?_|(refine gp ?_ ?_<;>intro hx_ this)|fail)
   all_goals first
    | (exfalso;omega)
    | (refine ab (ag rfl rfl) ?_;rw [hl];done)
theorem fB (n:Int):Pu prog 270 #[.int .i64 n] (fun _=>True) (.bool (isPublicB n)):=by
 refine ax func270 ntmps270 fun av bor w0=>?_
 have e:isPublicB n=(decide (1≤n)&&decide (n<2305843009213693951)):=by
  rw [isPublicB,withinB]
  congr 1
  exact decide_eq_decide.2 aa
 rw [e]
 clear e
 repeat' (first|refine gs ?_|(refine gp ?_ ?_<;>intro hx_ this)|fail)
 (all_goals (apply ab;apply ag;rfl;rfl));all_goals (simp only [Ze, *,Za,Zg,Zf];done)
theorem lT (b:Xo):Pu prog 294 #[b.v] (fun _=>True) (.bool (isSealedB b)):=by
 refine ax func294 ntmps294 fun av bor w0=>?_
 repeat' (first|refine gs ?_|refine gs1 fun _=>?_|(refine gp ?_ ?_<;>intro hx_ this)|fail)
 (all_goals (apply ab;apply ag;rfl;rfl));all_goals (simp only [isSealedB,isShortB, *,Za,Zg,Zf];done)
theorem lS (b:Xo):Pu prog 293 #[b.v] (fun _=>True) (.bool (boxEq b Xo.zero)):=by
 refine ax func293 ntmps293 fun av bor w0=>?_
 repeat' (first|refine gs ?_|refine gs1 fun _=>?_|(refine gp ?_ ?_<;>intro hx_ this)|fail)
 (all_goals (apply ab;apply ag;rfl;rfl));all_goals (simp only [boxEq,Xo.zero, *,Za,Zg,Zf];done)
def groupR (a:Xa):Bool:=bif decide (a.scope=2) then isName a.group else seqB a.group ⟨#[]⟩
theorem lR (a:Xa) (hs:a.Str):Pu prog 274 #[a.v] (fun _=>True) (.bool (groupR a)):=by
 refine ax func274 ntmps274 fun av bor w0=>?_
 have hn:=jq a.group hs.group
 repeat' (first|(refine ae (hc:=hn) ?_)|refine gs ?_|refine gs1 fun _=>?_|(refine gp ?_ ?_<;>intro hx_ this)|fail)
 (all_goals (apply ab;apply ag;rfl;rfl));all_goals (simp only [groupR, *,Za,Zg,Zf];done)
def zeroR (a:Xa):Bool:=seqB a.object ⟨#[]⟩&&seqB a.target ⟨#[]⟩&&decide (a.scope=0)&&seqB a.group ⟨#[]⟩&&decide ((a.to.n:Int)=0)&&seqB a.text ⟨#[]⟩&&boxEq a.body Xo.zero&&decide (a.epoch=0)&&decide ((a.wraps.n:Int)=0)&&decide (a.n=0)&&decide (a.m=0)
theorem bw (a:Xa):Pu prog 276 #[a.v] (fun _=>True) (.bool (zeroR a)):=by
 refine ax func276 ntmps276 fun av bor w0=>?_
 have hn:=lS a.body
 repeat' (first|(refine ae (hc:=hn) ?_)|refine gs ?_|refine gs1 fun _=>?_|(refine aE ?_)|(refine gp ?_ ?_<;>intro hx_ this)|fail)
 (all_goals (apply ab;apply ag;rfl;rfl));all_goals (simp only [zeroR, *,Za,Zg,Zf];done)
theorem pH (a:Xa):Pu prog 275 #[a.v] (Xa.at_ · a) (.bool (wrappedB a)):=by
 refine ax func275 ntmps275 fun av bor w0=>?_
 refine aQ (p:=a.wraps.n=a.wrapsL.length∧a.wraps.n≤maxLen∧(0<a.wrapsL.length→a.wraps.p.isSome=true)) (fun w h=>⟨h.2.len_,ZW (Xf.cap h.2) (Xf.max h.2),h.2.some_⟩) fun ⟨hl,hm,hp⟩=>?_
 simp only [maxLen] at hm
 repeat' (first|refine gs ?_|refine gs1 fun _=>?_|fail)
 rename_i b
 refine aq (ι:=X6 a.wrapsL.length (badW a.wrapsL)) (fun i=>⟨[(1,.pointer (some ⟨b,0,none⟩)),(3,.int .i64 i.k)],[cel b 46 a.cells],(Xa.at_ · a)⟩) (fun i=>a.wrapsL.length-i.k) (X6.zero _ _) (ai am (ak _) fun _ h=>h) fun i=>?_
 have hik:=i.hk
 repeat' (first|refine gs ?_|(refine gp ?_ ?_<;>intro hx_ this)|fail)
 · have hlt:i.k<a.wrapsL.length:=by omega
   have hp':=hp aa
   obtain ⟨x,hx⟩:∃ x,a.wrapsL[i.k]?=some x:=⟨_,Zc hlt⟩
   have hc1:=fB x.to
   have hc2:=fB x.eph
   have hc3:=lT x.box
   repeat' (first|(refine ae (hc:=hc1) ?_)|(refine ae (hc:=hc2) ?_)|(refine ae (hc:=hc3) ?_)|refine gs ?_|refine gs1 fun _=>?_|(refine aD (q:=i.k*5) ?_)|(refine aN (cs:=x.cells) (hF:=fun w h=>Wraps.get h.2 hx) ?_)|(refine aE ?_)|(refine gp ?_ ?_<;>intro hx_ this)|fail)
   all_goals first
    | (refine ab (ag rfl rfl) ?_;rw [wrappedB,cG hlt (by simp only [kB hx, *,Za,Zg,Zf]),Zk])
    | exact ⟨i.next hlt (by simp only [kB hx, *,Za,Zg,Zf]),(by show a.wrapsL.length-(i.k+1)<a.wrapsL.length-i.k;omega),ai am (Z0 _ (ak _)) fun _ h=>h⟩
 · refine ab (ag rfl rfl) ?_
   rw [wrappedB,i.all aa,Zh]
def sealR (a:Xa):Bool:=decide (0≤a.epoch)&&decide (a.epoch≤1073741824)&&seqB a.text ⟨#[]⟩&&isSealedB a.body
def audR (a:Xa):Bool:=bif !isIds a.toL then false else bif !groupR a then false else bif decide (a.scope=0) then decide (a.epoch=0)&&decide ((a.text.size:Int)≤500)&&boxEq a.body Xo.zero
 else bif decide (a.scope=3) then sealR a else bif decide (a.scope=1)||decide (a.scope=2) then sealR a&&decide ((a.to.n:Int)=0) else false
theorem J8 (a:Xa):audR a=audienceB a:=by
 have hw:withinB a.epoch 0 1073741824=(decide (0≤a.epoch)&&decide (a.epoch≤1073741824)):=rfl
 have hz:decide (0<(a.to.n:Int))=!decide ((a.to.n:Int)=0):=by rw [←decide_not];exact decide_eq_decide.2 aa
 have hsh:isShortB a.text=decide ((a.text.size:Int)≤500):=rfl
 rw [audR,audienceB,groupR,sealedScopeB,hw,hz,hsh,sealR]
 cases isIds a.toL
 · rfl
 simp only [Zo,Zf]
 by_cases h0:a.scope=0
 · rw [h0]
   simp only [show decide ((0:Int)=2)=false from rfl,show decide ((0:Int)=0)=true from rfl,Zf,Zg]
   cases seqB a.group ⟨#[]⟩<;>simp [Bool.and_assoc]
 by_cases h3:a.scope=3
 · rw [h3]
   simp only [show decide ((3:Int)=2)=false from rfl,show decide ((3:Int)=0)=false from rfl,show decide ((3:Int)=3)=true from rfl,show decide ((3:Int)=1)=false from rfl,Zf,Zg,Zo,Zl]
   cases seqB a.group ⟨#[]⟩<;>simp [Bool.and_assoc]
 by_cases h1:a.scope=1
 · rw [h1]
   simp only [show decide ((1:Int)=2)=false from rfl,show decide ((1:Int)=0)=false from rfl,show decide ((1:Int)=3)=false from rfl,show decide ((1:Int)=1)=true from rfl,Zf,Zg,Zm,Zi,Zn]
   cases seqB a.group ⟨#[]⟩<;>cases decide ((a.to.n:Int)=0)<;>simp [Bool.and_assoc]
 by_cases h2:a.scope=2
 · rw [h2]
   simp only [show decide ((2:Int)=2)=true from rfl,show decide ((2:Int)=0)=false from rfl,show decide ((2:Int)=3)=false from rfl,show decide ((2:Int)=1)=false from rfl,Zf,Zg,Zm,Zi,Zj]
   cases isName a.group<;>cases decide ((a.to.n:Int)=0)<;>simp [Bool.and_assoc]
 rw [Zd h0,Zd h1,Zd h2,Zd h3]
 cases seqB a.group ⟨#[]⟩<;>cases decide ((a.to.n:Int)=0)<;>rfl
theorem oi (a:Xa) (hs:a.Str):Pu prog 272 #[a.v] (Xa.at_ · a) (.bool (audienceB a)):=by
 refine ax func272 ntmps272 fun av bor w0=>?_
 rw [←J8]
 have hi:=k8 a.to a.toL hs.to
 have hg:=lR a hs
 have hb:=lT a.body
 have he:=lS a.body
 repeat' (first|(refine ae (hc:=hi) ?_)|(refine ae (hc:=hg) ?_)|(refine ae (hc:=hb) ?_)|(refine ae (hc:=he) ?_)|refine gs ?_|refine gs1 fun _=>?_|(refine aE ?_)|(refine gp ?_ ?_<;>intro hx_ this)|fail)
 all_goals refine ab (ag rfl rfl) ?_
 all_goals first
  | rfl
  | (simp_all [audR,sealR];done)
  | (simp_all [audR,sealR];intros;omega)
def bareA (a:Xa):Xa:={ a with scope:=0,group:=⟨#[]⟩,to:=⟨none,0,0⟩,text:=⟨#[]⟩,body:=Xo.zero,epoch:=0,toL:=[] }
theorem we (a:Xa):Pu prog 273 #[a.v] (fun _=>True) (bareA a).v:=by
 refine ax func273 ntmps273 fun av bor w0=>?_
 repeat' (first|refine kR ?_|refine gs ?_|refine gs1 fun _=>?_|(refine dP ({ a with scope:=0,group:=⟨#[]⟩,to:=⟨none,0,0⟩,text:=⟨#[]⟩,body:=Xo.zero }:Xa).cells (h:=?_))|fail)
 exact ab (bV (cs:=(bareA a).cells) rfl rfl ao (by rfl)) rfl
end Go.Proofs.YtaolfiikahlmkaaGreatDoor
