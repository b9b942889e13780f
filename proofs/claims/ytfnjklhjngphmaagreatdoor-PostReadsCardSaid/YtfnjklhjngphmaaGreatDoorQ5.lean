/- Joined by program out of: Pg Ph Ut Uv Yv Vb Bc Ua Hn Hb Hc Ub Uc Ud Nq Nt Kc. -/
import Derived.Test.YtfnjklhjngphmaaGreatDoorQ4
import Derived.Shelf.Slices.CompactS
import Derived.Lib.RowBridge
set_option linter.unusedVariables false
set_option linter.unusedSimpArgs false
namespace Go.Proofs.YtfnjklhjngphmaaGreatDoor
open Go Go.Proofs Sy
section
variable {P:Program} {N:Nat} {av bor:List Nat} {w0:World} {E:Env} {loc:List Res} {X:World→Prop} {K:Exit→St→Prop} {c:Code}
theorem tc {w:World}:∀ (P:List PostD),(∀ p∈P,p.ed=⟨none,0,0⟩∧p.edL=[])→Gam av bor w0 loc X w→Gam av bor w0 (P.map edR++loc) X w
 | [],_,G=>G
 | p::P,h,G=>by
  have h1:=h p aU
  have e:edR p=orow 3 1 (.slice none 0 0) 0 []:=by rw [edR,h1.1,h1.2];rfl
  rw [List.map_cons,e]
  exact (tc P (fun q hq=>h q (List.mem_cons_of_mem _ hq)) G).nilRow _ _
theorem CQ (L:List PostD) (hz:∀ p∈L,p.ed=⟨none,0,0⟩∧p.edL=[]) (h:Cw P N av bor w0 c ⟨E,L.map edR++loc,X⟩ K):Cw P N av bor w0 c ⟨E,loc,X⟩ K:=Cw.mk fun a w ok=>h.run a w (ok.via fun M G=>by
 have:=tc L hz G
 rwa [←List.append_assoc] at this)
theorem Bu {l:List Res} (hs:loc.Perm l) (h:Cw P N av bor w0 c ⟨E,l,X⟩ K):Cw P N av bor w0 c ⟨E,loc,X⟩ K:=Cw.mk fun a w ok=>h.run a w (ok.via fun M G=>G.perm (hs.append_right M))
theorem jv {st:St} {ty:TypeId} {fn:Fn} {xs:List Operand} {vs:List Value} (hx:evs st.env xs=some vs):Sy.Yields P N av bor w0 st (.makeFunc fn xs.toArray #[]) ty (.func fn vs.toArray #[]):=Sy.Yields.mk fun A w ok d pos af g=>by
 have e:=gy (E:=st.env) (loc:=st.loc) (X:=st.ext) ok xs vs hx
 have e1:xs.toArray.map A.eval=vs.toArray:=by rw [List.map_toArray,e]
 simp [execOp,Instr.makeFunc,e1,e]
theorem rq {p:Prop} (hp:∀ w,(∀ r∈loc,r.F w)→p) (h:p→Cw P N av bor w0 c ⟨E,loc,X⟩ K):Cw P N av bor w0 c ⟨E,loc,X⟩ K:=Cw.mk fun a w ok=>(h (hp w fun r hr=>(ok.gam.here r hr).now)).run a w ok
end
theorem PostTo.len {P Q:List PostD} (h:PostTo P Q):Q.length=P.length:=by have:=congrArg List.length h.to;simpa using this
theorem PostTo.trans {P Q R:List PostD} (h:PostTo P Q) (k:PostTo Q R):PostTo P R:=⟨k.to.trans h.to⟩
theorem PostTo.pos {P Q:List PostD} (h:PostTo P Q) (j:Nat):posP Q j=posP P j:=by
 have e:∀ L:List PostD,posP L j=(L.map fun p=>(p.to,p.toL,p.pos)).findIdx? fun t=>t.2.2==j:=fun L=>by rw [posP,List.findIdx?_map];rfl
 rw [e,e,h.to]
theorem PostTo.mem {P Q:List PostD} (h:PostTo P Q) {p:PostD} (hp:p∈Q):∃ q∈P,q.to=p.to∧q.toL=p.toL:=by
 have h1:(p.to,p.toL,p.pos)∈Q.map fun p=>(p.to,p.toL,p.pos):=List.mem_map_of_mem (f:=fun p:PostD=>(p.to,p.toL,p.pos)) hp
 rw [h.to] at h1
 obtain ⟨q,hq,e⟩:=List.mem_map.1 h1
 simp only [Prod.mk.injEq] at e
 exact ⟨q,hq,e.1,e.2.1⟩
theorem sV {P:List PostD} {o:Option Nat} {f:PostD→PostD} {m:Nat} (h:∀ p∈P,p.edL.length≤m) (hf:∀ p:PostD,(f p).edL.length≤p.edL.length+1):∀ p∈modP P o f,p.edL.length≤m+1:=fun p hp=>by
 cases o with
 | none=>exact Nat.le_succ_of_le (h p hp)
 | some n =>
  rcases List.mem_or_eq_of_mem_set hp with hp|rfl
  · exact Nat.le_succ_of_le (h p hp)
  · refine Nat.le_trans (hf _) ?_
    by_cases hn:n<P.length
    · have:=h (P.getD n PostD.zero) (by rw [List.getD_eq_getElem?_getD,List.getElem?_eq_getElem hn];exact List.getElem_mem hn)
      omega
    · rw [List.getD_eq_getElem?_getD,List.getElem?_eq_none (by omega)]
      exact Nat.succ_le_succ (Nat.zero_le m)
theorem px (c:ChainD):∀ i,∀ p∈openF c i,p.edL=[]
 | 0,p,h=>(List.not_mem_nil h).elim
 | i+1,p,h=>by
  rw [openF] at h
  rcases List.mem_append.1 h with h|h
  · exact px c i p h
  · revert h
    cases postK (c.actsL.getD i ActD.zero).kind with
    | true=>intro h;rw [cond_true,List.mem_singleton] at h;subst h;rfl
    | false=>intro h;exact (List.not_mem_nil h).elim
theorem yM (a:ActD) (i:Nat) (p:PostD):(editP a i p).edL.length≤p.edL.length+1:=by
 rw [editP]
 cases editB a p with
 | true=>rw [cond_true];show (p.edL++[(i:Int)]).length≤_;rw [List.length_append];exact Nat.le_refl _
 | false=>exact Nat.le_succ _
theorem x4 (c:ChainD):∀ i,∀ p∈ofP c i,p.edL.length≤i
 | 0,p,h=>by rw [px c _ p h];exact Nat.le_refl 0
 | i+1,p,h=>by
  have ih:=x4 c i
  rw [ofP,stepP] at h
  revert h
  cases decide ((c.actsL.getD i ActD.zero).kind=13) with
  | true=>exact fun h=>sV (f:=goneP) ih (fun p=>Nat.le_succ _) p h
  | false =>
   cases decide ((c.actsL.getD i ActD.zero).kind=14) with
   | true=>exact fun h=>sV (f:=editP _ _) ih (yM _ _) p h
   | false=>exact fun h=>Nat.le_succ_of_le (ih p h)
theorem vp (a:ActD) (i:Nat) (p:PostD):(editP a i p).can=editP a i p.can:=by
 have h:editB a p.can=editB a p:=rfl
 rw [editP,editP,h]
 cases editB a p<;>rfl
theorem vo (a:ActD) (i:Nat) (p:PostD):(editP a i p).pos=p.pos:=by
 rw [editP]
 cases editB a p<;>rfl
theorem permD (c m2 m1 b1 po b0:Res) (M:List Res):(M++([c,m2,m1,b1,po]++[b0])).Perm ((c::m2::m1::po::M)++[b1,b0]):=by
 have h1:([c,m2,m1,b1,po]++[b0]).Perm ([c,m2,m1,po]++[b1,b0]):=(((List.Perm.swap po b1 [b0]).cons m1).cons m2).cons c
 have h2:=(List.perm_append_comm (l₁:=M) (l₂:=[c,m2,m1,b1,po]++[b0])).trans (h1.append_right M)
 rw [List.append_assoc] at h2
 exact h2.trans ((List.perm_append_comm (l₁:=[b1,b0]) (l₂:=M)).append_left [c,m2,m1,po])
def PostsAt (c:ChainD) (u:Value) (X:World→Prop):Prop:=∃ (s:SlV) (P:List PostD),u=s.v∧P.map PostD.can=postsV c∧P.length≤c.actsL.length∧∀ w,X w→RowsD w 11 s (P.map PostD.cells)
theorem AT {P:Program} {f:FuncId} {args:Array Value} {X:World→Prop} {Φ Ψ:Value→(World→Prop)→Prop} (h:Mk P f args X Φ) (hp:∀ u X',Φ u X'→Ψ u X'):Mk P f args X Ψ:=by
 unfold Mk at *
 exact Ct.mono h fun v R X' ⟨a,b⟩=>⟨hp _ _ a,b⟩
theorem yw {w:World} {p:PostD} (hl:p.edL.length=p.ed.n) (h:(edR p).F w):Ints w p.ed p.edL:=by
 have h':ORow w 3 1 (.slice p.ed.p p.ed.n p.ed.c) p.ed.n (p.edL.map fun n=>[(.int .i64 n:Value)]).flatten:=by
  have e:(p.edL.map fun n=>[(.int .i64 n:Value)]).flatten=p.edL.map fun n=>(.int .i64 n:Value):=by
   induction p.edL with
   | nil=>rfl
   | cons a l ih=>rw [List.map_cons,List.flatten_cons,ih];rfl
  rw [e]
  exact h
 exact bJ h' (by rw [List.length_map,hl]) fun r hr=>by
  obtain ⟨n,_,rfl⟩:=List.mem_map.1 hr
  rfl
def PostsAtS (c:ChainD) (u:Value) (X:World→Prop):Prop:=∃ (s:SlV) (P:List PostD),u=s.v∧P.map PostD.can=postsV c∧P.length≤c.actsL.length∧∀ w,X w→RowsD w 11 s (P.map PostD.cells)∧∀ p∈P,Strs w p.to p.toL∧Ints w p.ed p.edL
theorem PostsAtS.weak {c:ChainD} {u:Value} {X:World→Prop} (h:PostsAtS c u X):PostsAt c u X:=by
 obtain ⟨s,P,h1,h2,h3,h4⟩:=h
 exact ⟨s,P,h1,h2,h3,fun w hw=>(h4 w hw).1⟩
structure OfI (c:ChainD) (P:List PostD) where
 k:Nat
 hk:k≤c.actsL.length
 Q:List PostD
 hQ:Q.map PostD.can=ofP c k
 hT:PostTo P Q
set_option maxHeartbeats 8000000 in
theorem xZ (c:ChainD) (hc:ActsOk c.actsL) (hcl:c.actsL.length≤1000000):Mk Tryz.prog 128 #[c.v] (fun w=>c.at_ w∧Glob w) (PostsAtS c):=by
 refine bL (args:=[_]) _ Tryz.func128 rfl Tryz.ntmps128 rfl fun av bor w0=>?_
 refine bt (p:=c.acts.n=c.actsL.length∧c.acts.n≤maxLen∧(0<c.actsL.length→c.acts.p.isSome=true)) (fun w h=>⟨h.1.len_,h.1.max_,h.1.some_⟩) fun ⟨hl,hm,hp⟩=>?_
 simp only [maxLen] at hm
 repeat' (first|apply ab|apply aj|apply ai|refine ac ?_|refine aG ?_|refine aT fun _=>?_|fail)
 refine nM (hc:=AD c hc hcl) (hX:=fun w h=>h) ?_
 rintro _ _ X1 ⟨r,b,b1,q1,q2,hrk,rfl,rfl,hX1⟩
 repeat' (first|apply ab|apply aj|apply ai|refine ae ?_|refine ac ?_|refine aM ?_|refine aL ?_|refine bg ?_|apply aw|fail)
 have hrP:r.P.map PostD.can=openF c c.actsL.length:=by rw [←hrk];exact r.hP
 have hrl:r.P.length≤c.actsL.length:=by
  have h1:=jf c c.actsL.length
  rw [←hrP,List.length_map] at h1
  exact h1
 have hpl:∀ d,mget r.pl d=(idxV c.actsL d).map fun (j:Nat)=>Value.int .i64 (j:Int):=fun d=>by
  rw [r.hpl d,hrk,List.take_length]
 have hsn:r.s.n=r.P.length:=r.hn
 have hnum:=r.hnum
 have hz:=r.hz
 generalize hs:r.s=s at *
 generalize r.P=P at *
 generalize r.pl=pl at *
 generalize r.num=num at *
 rename_i b0
 refine CQ P hz ?_
 refine Bu (permD _ _ _ _ _ _ _) ?_
 refine be (ι:=OfI c P) (fun i=>⟨[(3,.pointer (some ⟨b,0,none⟩)),(9,c.acts.v),(10,.int .i64 (c.acts.n:Nat)),(11,.int .i64 (i.k:Nat))],cel b 241 (regC c s.v q1 q2)::mapr q2 pl::mapr q1 num::postR s i.Q::i.Q.map edR,fun w=>(c.at_ w∧Glob w)∧∀ p∈P,Strs w p.to p.toL⟩) (fun i=>c.actsL.length-i.k)
  ⟨0,Nat.zero_le _,P,hrP,⟨rfl⟩⟩ (aF ⟨rfl,rfl,rfl,rfl,trivial⟩ (List.sublist_append_left _ _) fun w h=>⟨h.1,hX1 w h.2⟩) fun i=>?_
 obtain ⟨k,hk,Q,hQ,hT⟩:=i
 simp only
 have hQl:=hT.len
 have hsQ:s.n=Q.length:=by omega
 refine rq (p:=∀ p∈Q,p.edL.length=p.ed.n) (fun w hr p hp=>by
  have h1:=(hr (edR p) (List.mem_cons_of_mem _ (List.mem_cons_of_mem _ (List.mem_cons_of_mem _ (List.mem_cons_of_mem _ (List.mem_map_of_mem hp)))))).1
  simpa using h1) fun hed=>?_
 have hsto:∀ w,(∀ p∈P,Strs w p.to p.toL)→∀ p∈Q,Strs w p.to p.toL:=fun w h p hp=>by
  obtain ⟨q,hq,e1,e2⟩:=hT.mem hp
  rw [←e1,←e2]
  exact h q hq
 have hnQ:∀ j:Nat,mget num (j:Int)=(posP Q j).map fun (n:Nat)=>Value.int .i64 (n:Int):=fun j=>by rw [hT.pos j];exact hnum j
 have hem:∀ p∈Q,p.ed.n≤1000000:=fun p hp=>by
  have h1:=x4 c k p.can (by rw [←hQ];exact List.mem_map_of_mem hp)
  have h2:p.edL.length≤k:=h1
  have h3:=hed p hp
  omega
 repeat' (first|apply ab|apply aj|apply ai|refine ae ?_|refine ac ?_|refine bX ?_|refine aM ?_|refine aL ?_|refine bu ?_|apply ay|apply aw|apply aA|apply aV|(refine aO (ht:=?_) (hf:=?_);all_goals (intro hx_;first|have:=aY hx_|have:=aZ hx_)))
 · have hlt:k<c.actsL.length:=by omega
   have hp':=hp ag
   obtain ⟨x,hx⟩:∃ x,c.actsL[k]?=some x:=⟨_,List.getElem?_eq_getElem hlt⟩
   have hxD:c.actsL.getD k ActD.zero=x:=by rw [List.getD_eq_getElem?_getD,hx];rfl
   by_cases h13:x.kind=13
   · repeat' (first|refine bM (hab:=by omega) ?_|apply ab|apply aj|apply ai|refine ae ?_|refine ac ?_|refine aM ?_|refine aL ?_|refine aP fun _=>?_|refine aK ?_|refine aE ?_|apply aw|(refine bf (q:=k*20) ?_)|(refine bD (cs:=x.cells) (hF:=fun w h=>Acts.get h.1.1 hx) ?_)|(refine ax (jv (xs:=[_]) (vs:=[_]) rfl) rfl rfl rfl ?_)|fail)
     rename_i b5
     refine eu (List.perm_append_singleton _ _).symm ?_
     refine dj (first:=#[]) (caps:=#[]) (pre:=[cel b 241 (regC c s.v q1 q2),mapr q2 pl,mapr q1 num,postR s Q]++Q.map edR) (fr:=[cel b5 46 x.cells]) (hc:=pm c s Q b q1 q2 k 211 inferInstance pl num x (goneP) hsQ hx ag hpl hnQ hcl ag (fun p=>rfl) (fun p=>rfl) (fun n p hn=>pg _ s Q n p _ k hsQ hn)) (hX:=fun w h=>⟨h.1,hsto w h.2⟩) (h:=?_)
     rintro _ _ X' ⟨rfl,Q',ex,hcan,hto,rfl⟩
     have HQ:Q'.map PostD.can=ofP c (k+1):=by
      rw [hcan,ofP,stepP,hxD,decide_eq_true h13,cond_true,←hQ,pq]
     repeat' (first|apply ab|apply ai|refine ae ?_|refine bm (h:=?_)|fail)
     exact ⟨(⟨k+1,hlt,Q',HQ,hT.trans hto⟩:OfI c P),(by show c.actsL.length-(k+1)<c.actsL.length-k;omega),aF ⟨rfl,rfl,rfl,rfl,trivial⟩ ((List.sublist_append_right ex _).trans (List.sublist_append_left _ _)) fun w h=>h.1⟩
   by_cases h14:x.kind=14
   · repeat' (first|refine bM (hab:=by omega) ?_|refine bQ (hab:=by omega) ?_|apply ab|apply aj|apply ai|refine ae ?_|refine ac ?_|refine aM ?_|refine aL ?_|refine aP fun _=>?_|refine aK ?_|refine aE ?_|refine aD ?_|apply aw|(refine bf (q:=k*20) ?_)|(refine bD (cs:=x.cells) (hF:=fun w h=>Acts.get h.1.1 hx) ?_)|(refine ax (jv (xs:=[_]) (vs:=[_]) rfl) rfl rfl rfl ?_)|fail)
     rename_i b5
     refine eu (List.perm_append_singleton _ _).symm ?_
     refine dj (first:=#[]) (caps:=#[]) (pre:=[cel b 241 (regC c s.v q1 q2),mapr q2 pl,mapr q1 num,postR s Q]++Q.map edR) (fr:=[cel b5 46 x.cells]) (hc:=pm c s Q b q1 q2 k 212 inferInstance pl num x (editP x k) hsQ hx ag hpl hnQ hcl ag (vp x k) (vo x k) (fun n p hn=>vn c s Q n p b q1 q2 k x hsQ hn hx ag (hed p (List.mem_of_getElem? hn)).symm (hem p (List.mem_of_getElem? hn)))) (hX:=fun w h=>⟨h.1,hsto w h.2⟩) (h:=?_)
     rintro _ _ X' ⟨rfl,Q',ex,hcan,hto,rfl⟩
     have HQ:Q'.map PostD.can=ofP c (k+1):=by
      rw [hcan,ofP,stepP,hxD,decide_eq_false h13,cond_false,decide_eq_true h14,cond_true,←hQ,pq]
     repeat' (first|apply ab|apply ai|refine ae ?_|refine bm (h:=?_)|fail)
     exact ⟨(⟨k+1,hlt,Q',HQ,hT.trans hto⟩:OfI c P),(by show c.actsL.length-(k+1)<c.actsL.length-k;omega),aF ⟨rfl,rfl,rfl,rfl,trivial⟩ ((List.sublist_append_right ex _).trans (List.sublist_append_left _ _)) fun w h=>h.1⟩
   · have HQ:Q.map PostD.can=ofP c (k+1):=by
      rw [ofP,stepP,hxD,decide_eq_false h13,cond_false,decide_eq_false h14,cond_false]
      exact hQ
     repeat' (first|refine bQ (hab:=by omega) ?_|apply ab|apply aj|apply ai|refine ae ?_|refine ac ?_|refine aM ?_|refine aL ?_|refine bm (h:=?_)|refine aP fun _=>?_|refine aK ?_|refine aD ?_|apply ay|apply aw|(refine bf (q:=k*20) ?_)|(refine bD (cs:=x.cells) (hF:=fun w h=>Acts.get h.1.1 hx) ?_)|fail)
     exact ⟨(⟨k+1,hlt,Q,HQ,hT⟩:OfI c P),(by show c.actsL.length-(k+1)<c.actsL.length-k;omega),aF ⟨rfl,rfl,rfl,rfl,trivial⟩ (List.Sublist.cons _ (aQ _)) fun w h=>h⟩
 · have hkE:k=c.actsL.length:=by omega
   exact aq (aB rfl rfl) ⟨s,Q,rfl,by rw [hQ,hkE];rfl,by omega,fun w h=>⟨bJ (h.2 (postR s Q) (List.mem_cons_of_mem _ (List.mem_cons_of_mem _ (List.mem_cons_of_mem _ aU)))) (by simp [hsQ]) (cells11 Q),fun p hp=>⟨hsto w h.1.2 p hp,yw (hed p hp) (h.2 (edR p) (List.mem_cons_of_mem _ (List.mem_cons_of_mem _ (List.mem_cons_of_mem _ (List.mem_cons_of_mem _ (List.mem_map_of_mem hp))))))⟩⟩⟩
theorem C4 (c:ChainD) (hc:ActsOk c.actsL) (hcl:c.actsL.length≤1000000):Mk Tryz.prog 128 #[c.v] (fun w=>c.at_ w∧Glob w) (PostsAt c):=AT (xZ c hc hcl) fun u X h=>h.weak
end Go.Proofs.YtfnjklhjngphmaaGreatDoor
namespace Go.Proofs.YtfnjklhjngphmaaGreatDoor
open Go Go.Proofs Sy
instance:TyAgg Tryz.prog 84 11:=⟨ar⟩
def isPost (id:ByteArray) (p:PostD):Bool:=seqB p.id id
def findPV (l:List ChainD) (id:ByteArray):Option PostD:=(l.flatMap postsV).find? (isPost id)
theorem jS {l:List ChainD} {id:ByteArray} (h:∀ c∈l,∀ p∈postsV c,isPost id p=false):findPV l id=none:=by
 rw [findPV,List.find?_eq_none]
 intro p hp
 obtain ⟨c,hc,h1⟩:=List.mem_flatMap.1 hp
 rw [h c hc p h1]
 decide
theorem vj {l:List ChainD} {id:ByteArray} {k j:Nat} {c:ChainD} {P:List PostD} {p:PostD} (hc:l[k]?=some c) (hP:P.map PostD.can=postsV c) (hp:P[j]?=some p) (h1:∀ i x,i<k→l[i]?=some x→∀ q∈postsV x,isPost id q=false) (h2:∀ i q,i<j→P[i]?=some q→isPost id q=false) (h3:isPost id p=true) :
  findPV l id=some p.can:=by
 obtain ⟨hk,rfl⟩:=List.getElem?_eq_some_iff.1 hc
 have e:l=l.take k++l[k]::l.drop (k+1):=by rw [←List.drop_eq_getElem_cons hk,List.take_append_drop]
 rw [findPV,e,List.flatMap_append,List.flatMap_cons,List.find?_append,List.find?_append,List.find?_eq_none.2 (fun q hq=>by
  obtain ⟨x,hx,hq⟩:=List.mem_flatMap.1 hq
  obtain ⟨i,hi⟩:=List.mem_iff_getElem?.1 hx
  rw [List.getElem?_take] at hi
  split at hi
  · rename_i hik
    rw [h1 i x hik hi q hq]
    decide
  · cases hi),Option.none_or]
 have e2:(postsV l[k]).find? (isPost id)=some p.can:=by
  rw [←hP,List.find?_map]
  have e3:(isPost id ∘ PostD.can)=isPost id:=rfl
  rw [e3]
  obtain ⟨hj,rfl⟩:=List.getElem?_eq_some_iff.1 hp
  have e4:P.find? (isPost id)=some P[j]:=by
   rw [List.find?_eq_some_iff_getElem]
   refine ⟨h3,j,hj,rfl,fun i hi=>?_⟩
   rw [h2 i P[i] hi (List.getElem?_eq_getElem ag)]
   decide
  rw [e4]
  rfl
 rw [e2]
 rfl
def FoundAt (l:List ChainD) (id:ByteArray) (u:Value) (X:World→Prop):Prop:=∃ p:PostD,u=.tuple #[p.v,.bool (findPV l id).isSome]∧p.can=(findPV l id).getD PostD.zero
structure FinI (l:List ChainD) (id:ByteArray) where
 k:Nat
 hk:k≤l.length
 no:∀ i x,i<k→l[i]?=some x→∀ q∈postsV x,isPost id q=false
structure FinJ (P:List PostD) (id:ByteArray) where
 j:Nat
 hj:j≤P.length
 no:∀ i q,i<j→P[i]?=some q→isPost id q=false
set_option maxHeartbeats 4000000 in
theorem yH (s:SlV) (l:List ChainD) (id:ByteArray) (hok:∀ c∈l,ActsOk c.actsL) (hlen:∀ c∈l,c.actsL.length≤1000000):Mk Tryz.prog 78 #[s.v,.string id] (fun w=>Chains w s l∧Glob w) (FoundAt l id):=by
 refine bL (args:=[_,_]) _ Tryz.func78 rfl Tryz.ntmps78 rfl fun av bor w0=>?_
 refine bt (p:=s.n=l.length∧s.n≤maxLen∧(0<l.length→s.p.isSome=true)) (fun w h=>⟨h.1.len_,h.1.max_,h.1.some_⟩) fun ⟨hl,hm,hp⟩=>?_
 simp only [maxLen] at hm
 repeat' (first|apply ab|apply aj|apply ai|refine ae ?_|refine ac ?_|refine bg ?_|refine aP fun _=>?_|apply aw|fail)
 rename_i b
 refine be (ι:=FinI l id) (fun i=>⟨[(1,.string id),(4,.pointer (some ⟨b,0,none⟩)),(10,s.v),(11,.int .i64 (s.n:Nat)),(12,.int .i64 (i.k:Nat))],[cel b 84 PostD.zero.cells],fun w=>Chains w s l∧Glob w⟩) (fun i=>l.length-i.k) ⟨0,Nat.zero_le _,fun i x h=>absurd h (Nat.not_lt_zero _)⟩ (aF ⟨rfl,rfl,rfl,rfl,rfl,trivial⟩ (aQ _) fun _ h=>h) fun i=>?_
 obtain ⟨k,hk,hno⟩:=i
 simp only
 repeat' (first|apply ab|apply aj|apply ai|refine bu ?_|apply ay|apply aw|apply aV|(refine aO (ht:=?_) (hf:=?_);all_goals (intro hx_;first|have:=aY hx_|have:=aZ hx_)))
 · have hlt:k<l.length:=by omega
   have hp':=hp ag
   obtain ⟨c,hc⟩:∃ c,l[k]?=some c:=⟨_,List.getElem?_eq_getElem hlt⟩
   have hcm:=List.mem_of_getElem? hc
   have hof:=C4 c (hok c hcm) (hlen c hcm)
   repeat' (first|apply ab|apply aj|apply ai|refine ae ?_|refine aG ?_|refine bg ?_|refine aP fun _=>?_|refine aK ?_|apply aw|(refine bf (q:=k*6) ?_)|(refine bD (cs:=c.cells) (hF:=fun w h=>Chains.get h.1 hc) ?_)|(refine bN (hc:=hof) (hX:=fun w h=>⟨h.1.2 c hcm,h.2⟩) fun v1 X1 h1=>?_;obtain ⟨s1,P,rfl,hP,hPl,hw⟩:=h1)|fail)
   refine bt (p:=s1.n=P.length∧s1.n≤maxLen∧(0<P.length→s1.p.isSome=true)) (fun w h=>⟨by simpa using RowsD.len (hw w h.2),Nat.le_trans (RowsD.cap (hw w h.2)) (RowsD.max (hw w h.2)),fun h0=>(RowsD.row (hw w h.2) 0 P[0].cells (by simp [List.getElem?_eq_getElem h0])).2.1⟩) fun ⟨hl1,hm1,hp1⟩=>?_
   simp only [maxLen] at hm1
   refine be (ι:=FinJ P id) (fun i=>⟨[(1,.string id),(4,.pointer (some ⟨b,0,none⟩)),(10,s.v),(11,.int .i64 (s.n:Nat)),(12,.int .i64 (k:Nat)),(17,s1.v),(18,.int .i64 (s1.n:Nat)),(19,.int .i64 (i.j:Nat))],[cel b 84 PostD.zero.cells],fun w=>(Chains w s l∧Glob w)∧X1 w⟩) (fun i=>P.length-i.j) ⟨0,Nat.zero_le _,fun i x h=>absurd h (Nat.not_lt_zero _)⟩ (aF ⟨rfl,rfl,rfl,rfl,rfl,rfl,rfl,rfl,trivial⟩ (List.Sublist.cons _ (aQ _)) fun _ h=>h) fun i=>?_
   obtain ⟨j,hj,hno2⟩:=i
   simp only
   repeat' (first|apply ab|apply aj|apply ai|refine ae ?_|refine bu ?_|refine bm (h:=?_)|apply ay|apply aw|apply aV|(refine aO (ht:=?_) (hf:=?_);all_goals (intro hx_;first|have:=aY hx_|have:=aZ hx_)))
   · have hjl:j<P.length:=by omega
     have hp2:=hp1 ag
     obtain ⟨p,hpj⟩:∃ p,P[j]?=some p:=⟨_,List.getElem?_eq_getElem hjl⟩
     repeat' (first|apply ab|apply aj|apply ai|refine ae ?_|refine ac ?_|refine aM ?_|refine aL ?_|refine aG ?_|refine co ?_|refine bm (h:=?_)|refine aP fun _=>?_|refine aK ?_|apply ay|apply aA|(refine bf (q:=j*11) ?_)|(refine bD (cs:=p.cells) (hF:=fun w h=>RowsD.row (hw w h.2) j p.cells (by simp [hpj])) ?_)|(refine aO (ht:=?_) (hf:=?_);all_goals (intro hx_;skip)))
     · have hf:=vj hc hP hpj hno hno2 (by assumption)
       apply aq;refine cN rfl rfl rfl bF ?_
       · rfl
       exact ⟨p,by rw [hf];rfl,by rw [hf];rfl⟩
     · exact ⟨(⟨j+1,hjl,fun i q hi hq=>by
        by_cases e:i=j
        · subst e
          obtain rfl:=Option.some.inj (hpj.symm.trans hq)
          assumption
        · exact hno2 i q ag hq⟩:FinJ P id),(by show P.length-(j+1)<P.length-j;omega),aF ⟨rfl,rfl,rfl,rfl,rfl,rfl,rfl,rfl,trivial⟩ (List.Sublist.cons _ (aQ _)) fun _ h=>h⟩
   · exact ⟨(⟨k+1,hlt,fun i x hi hx q hq=>by
      by_cases e:i=k
      · subst e
        obtain rfl:=Option.some.inj (hc.symm.trans hx)
        rw [←hP] at hq
        obtain ⟨p,hpm,rfl⟩:=List.mem_map.1 hq
        obtain ⟨j2,hj2⟩:=List.mem_iff_getElem?.1 hpm
        exact hno2 j2 p (by have:=(List.getElem?_eq_some_iff.1 hj2).1;omega) hj2
      · exact hno i x ag hx q hq⟩:FinI l id),(by show l.length-(k+1)<l.length-k;omega),aF ⟨rfl,rfl,rfl,rfl,rfl,trivial⟩ (aQ _) fun _ h=>h.1⟩
 · have hf:findPV l id=none:=jS fun c hc q hq=>by
    obtain ⟨i,hi⟩:=List.mem_iff_getElem?.1 hc
    exact hno i c (by have:=(List.getElem?_eq_some_iff.1 hi).1;omega) hi q hq
   repeat' (first|apply ab|refine ac ?_|refine aK ?_|apply aA|(refine bV ?_))
   apply aq;refine cN rfl rfl rfl bF ?_
   · rfl
   exact ⟨PostD.zero,by rw [hf];rfl,by rw [hf];rfl⟩
def woL (l:List ByteArray) (x:ByteArray):List ByteArray:=l.filter fun y=>!seqB y x
structure WoI (l:List ByteArray) (x:ByteArray) where
 k:Nat
 hk:k≤l.length
 n:Nat
 hn:n=(woL (l.take k) x).length
 xs:List Value
 hxs:xs=(strs (woL (l.take k) x)).flatten
 A:Option Addr
 c:Nat
theorem B2 (l:List ByteArray) (x:ByteArray):(woL l x).length≤l.length:=List.length_filter_le _ _
theorem C0 {m:List ByteArray} {x y:ByteArray} (h:(!seqB y x)=true):woL (m++[y]) x=woL m x++[y]:=by simp only [woL,List.filter_append,List.filter_cons,h,if_true,List.filter_nil]
theorem C1 {m:List ByteArray} {x y:ByteArray} (h:(!seqB y x)=false):woL (m++[y]) x=woL m x:=by simp [woL,List.filter_append,List.filter_cons,h]
set_option maxHeartbeats 4000000 in
theorem ny (s:SlV) (l:List ByteArray) (x:ByteArray) (hll:l.length≤1000000):Mk Tryz.prog 313 #[s.v,.string x] (fun w=>Strs w s l) (StrsAt (woL l x)):=by
 refine bL (args:=[_,_]) _ Tryz.func313 rfl Tryz.ntmps313 rfl fun av bor w0=>?_
 refine bt (p:=s.n=l.length∧s.n≤maxLen∧(0<l.length→s.p.isSome=true)) (fun w h=>⟨h.len_,Nat.le_trans (RowsD.cap h) (RowsD.max h),h.some_⟩) fun ⟨hl,hm,hp⟩=>?_
 simp only [maxLen] at hm
 refine cf 9 1 ?_
 repeat' (first|apply ab|apply aj|apply ai|refine ac ?_|apply aw|fail)
 refine be (ι:=WoI l x) (fun i=>⟨[(0,s.v),(1,.string x),(5,.slice i.A i.n i.c),(6,.int .i64 (i.k:Nat))],[orow 9 1 (.slice i.A i.n i.c) i.n i.xs],fun w=>Strs w s l⟩) (fun i=>l.length-i.k) ⟨0,Nat.zero_le _,0,rfl,[],rfl,none,0⟩ (aF ⟨rfl,rfl,rfl,rfl,trivial⟩ (aQ _) fun _ h=>h) fun i=>?_
 obtain ⟨k,hk,n,hn,xs,hxs,A,cp⟩:=i
 have hnk:n≤l.length:=by
  have:=B2 (l.take k) x
  rw [List.length_take] at this
  omega
 simp only
 repeat' (first|apply ab|apply aj|apply ai|refine ae ?_|refine ac ?_|refine bu ?_|refine bg ?_|apply ay|apply aw|apply aA|apply aV|(refine aO (ht:=?_) (hf:=?_);all_goals (intro hx_;first|have:=aY hx_|have:=aZ hx_)))
 · have hlt:k<l.length:=by omega
   have hp':=hp ag
   obtain ⟨y,hy⟩:∃ y,l[k]?=some y:=⟨_,List.getElem?_eq_getElem hlt⟩
   have ht:l.take (k+1)=l.take k++[y]:=by rw [List.take_add_one,hy,Option.toList_some]
   repeat' (first|apply ab|apply ai|refine ae ?_|refine ac ?_|refine dp ?_|refine bm (h:=?_)|refine ca fun _=>?_|apply ay|(refine bf (q:=k) ?_)|(refine bU (u:=.string y) (hF:=fun w h=>h.at_ hy) ?_)|(refine aS (size:=1) (z:=.string ⟨#[]⟩) (news:=[encB y]) (q:=1) rfl rfl rfl rfl (fun _=>At.there _ (At.here _)) (fun w G=>bq G aU rfl rfl 1) ag (by simp only [maxLen];omega) rfl ?_ rfl ?_;(with_reducible rfl);intro A2 c2)|(refine aO (ht:=?_) (hf:=?_);all_goals (intro hx_;skip)))
   · have e:=C0 (m:=l.take k) (show (!seqB y x)=true by assumption)
     rw [←ht] at e
     exact ⟨(⟨k+1,hlt,n+1,by rw [e,List.length_append,hn];rfl,xs++[encB y],by rw [e,hxs,strs,strs,List.map_append,List.flatten_append];rfl,A2,c2⟩:WoI l x),(by show l.length-(k+1)<l.length-k;omega),aF ⟨rfl,rfl,rfl,rfl,trivial⟩ (List.Sublist.cons _ (aQ _)) fun _ h=>h⟩
   · have e:=C1 (m:=l.take k) (show (!seqB y x)=false by assumption)
     rw [←ht] at e
     exact ⟨(⟨k+1,hlt,n,by rw [e,hn],xs,by rw [e,hxs],A,cp⟩:WoI l x),(by show l.length-(k+1)<l.length-k;omega),aF ⟨rfl,rfl,rfl,rfl,trivial⟩ (aQ _) fun _ h=>h⟩
 · have hkE:k=l.length:=by omega
   subst hkE
   rw [List.take_length] at hn hxs
   subst hn hxs
   exact aq (aB rfl rfl) ⟨⟨A,(woL l x).length,cp⟩,rfl,fun w h=>bJ (h.2 _ aU) (by simp [strs]) (by intro r hr;simp only [strs,List.mem_map] at hr;obtain ⟨z,_,rfl⟩:=hr;rfl)⟩
theorem sdelR_sub {k:ByteArray}:∀ {ks:List ByteArray},(sdel ks k).Sublist ks
 | []=>aQ _
 | a::ks=>by
  rw [sdel]
  cases KeyT.eqb k a with
  | true=>exact List.sublist_cons_self _ _
  | false=>exact sdelR_sub.cons_cons a
theorem du {k:ByteArray} {ks:List ByteArray} (h:ks.Nodup):(sdel ks k).Nodup:=h.sublist sdelR_sub
theorem mY {k x:ByteArray}:∀ {ks:List ByteArray},ks.Nodup→(x∈sdel ks k↔x≠k∧x∈ks)
 | [],_=>by simp [sdel]
 | a::ks,h=>by
  rw [List.nodup_cons] at h
  have ih:=mY (k:=k) (x:=x) h.2
  rw [sdel,eqbB]
  cases hk:seqB k a with
  | true =>
   obtain rfl:=seqB_iff.1 hk
   simp only [cond_true,List.mem_cons]
   constructor
   · intro hx
     exact ⟨fun e=>h.1 (e▸hx),.inr hx⟩
   · rintro ⟨h1,h2|h2⟩
     · exact absurd h2 h1
     · exact h2
  | false =>
   have hne:=seqB_ne.1 hk
   simp only [cond_false,List.mem_cons,ih]
   constructor
   · rintro (h1|⟨h1,h2⟩)
     · exact ⟨fun e=>hne (e▸h1),.inl h1⟩
     · exact ⟨h1,.inr h2⟩
   · rintro ⟨h1,h2|h2⟩
     · exact .inl h2
     · exact .inr ⟨h1,h2⟩
structure TNdR (t:TieS):Prop where
 f:t.f.Nodup
 a:t.a.Nodup
 b:t.b.Nodup
 m:t.m.Nodup
theorem vU {t:TieS} (h:TNdR t) (x:ActD):TNdR (undoT t x):=by
 unfold undoT
 cases decide (x.kind=7) with
 | true=>exact ⟨du h.f,h.a,h.b,h.m⟩
 | false =>
  cases decide (x.kind=8) with
  | true=>exact ⟨h.f,du h.a,h.b,h.m⟩
  | false =>
   cases decide (x.kind=10) with
   | true=>exact ⟨h.f,h.a,du h.b,h.m⟩
   | false =>
    cases decide (x.kind=11) with
    | true=>exact ⟨h.f,h.a,h.b,du h.m⟩
    | false=>exact h
theorem xi {l:List ActD} {i:Nat} {t:TieS} (h:TNdR t) (x:ActD):TNdR (stepT l i t x):=by
 unfold stepT
 cases decide (x.kind=7) with
 | true=>exact ⟨ej h.f,h.a,h.b,h.m⟩
 | false =>
  cases decide (x.kind=8) with
  | true=>exact ⟨h.f,ej h.a,h.b,h.m⟩
  | false =>
   cases decide (x.kind=9) with
   | true=>exact ⟨h.f,du h.a,h.b,h.m⟩
   | false =>
    cases decide (x.kind=10) with
    | true=>exact ⟨du h.f,du h.a,ej h.b,h.m⟩
    | false =>
     cases decide (x.kind=11) with
     | true=>exact ⟨h.f,h.a,h.b,ej h.m⟩
     | false =>
      cases decide (x.kind=6) with
      | false=>exact h
      | true =>
       simp only [cond_true,cond_false]
       split
       · rename_i j _
         cases decide ((j:Int)<(i:Int)) with
         | true=>exact vU h _
         | false=>exact h
       · exact h
theorem rP (l:List ActD):∀ n,TNdR (tieF l n)
 | 0=>⟨List.nodup_nil,List.nodup_nil,List.nodup_nil,List.nodup_nil⟩
 | n+1=>xi (rP l n) _
def posA (l:List ByteArray) (x:ByteArray):Nat:=(l.takeWhile fun y=>ltB y x).length
def withL (l:List ByteArray) (x:ByteArray):List ByteArray:=bif hasS l x then l else l.take (posA l x)++x::l.drop (posA l x)
theorem j9 {x:ByteArray}:∀ {l:List ByteArray} {k:Nat},k≤l.length→(∀ j,j<k→ltB (l.getD j .empty) x=true)→(k<l.length→ltB (l.getD k .empty) x=false)→posA l x=k
 | [],k,hk,_,_=>by
  have:k=0:=by simpa using hk
  subst this
  rfl
 | a::l,0,_,_,h=>by
  have:=h (Nat.succ_pos _)
  rw [posA,List.takeWhile_cons]
  simp only [List.getD_cons_zero] at this
  simp [this]
 | a::l,k+1,hk,h1,h2=>by
  have h0:=h1 0 (Nat.succ_pos _)
  simp only [List.getD_cons_zero] at h0
  have ih:=j9 (x:=x) (l:=l) (k:=k) (by simpa using hk) (fun j hj=>by simpa using h1 (j+1) ag) (fun h=>by simpa using h2 (by simpa using h))
  rw [posA,List.takeWhile_cons,h0,if_pos rfl,List.length_cons]
  rw [posA] at ih
  rw [ih]
theorem sG {x:ByteArray}:∀ {l:List ByteArray} {j:Nat},j<posA l x→ltB (l.getD j .empty) x=true
 | [],j,h=>by simp [posA] at h
 | a::l,j,h=>by
  rw [posA,List.takeWhile_cons] at h
  cases ha:ltB a x with
  | false=>rw [ha] at h;simp at h
  | true =>
   rw [ha,if_pos rfl,List.length_cons] at h
   cases j with
   | zero=>simpa using ha
   | succ j=>simpa using sG (l:=l) (j:=j) (by rw [posA];omega)
theorem sH {x:ByteArray}:∀ {l:List ByteArray},posA l x<l.length→ltB (l.getD (posA l x) .empty) x=false
 | [],h=>by simp [posA] at h
 | a::l,h=>by
  cases ha:ltB a x with
  | false =>
   have e:posA (a::l) x=0:=by rw [posA,List.takeWhile_cons,ha];rfl
   rw [e];simpa using ha
  | true =>
   have e:posA (a::l) x=posA l x+1:=by rw [posA,List.takeWhile_cons,ha];rfl
   rw [e] at h ⊢
   simpa using sH (l:=l) (by simpa using h)
theorem AA (l:List ByteArray) (x:ByteArray):posA l x≤l.length:=by
 rw [posA];exact (List.takeWhile_sublist _).length_le
theorem mr {l:List ByteArray} {x y:ByteArray}:y∈withL l x↔y=x∨y∈l:=by
 rw [withL]
 cases h:hasS l x with
 | true =>
  rw [cond_true]
  exact ⟨.inr,fun h1=>h1.elim (fun e=>e▸hasS_iff.1 h) id⟩
 | false =>
  rw [cond_false,List.mem_append,List.mem_cons]
  have e:y∈l↔y∈l.take (posA l x)∨y∈l.drop (posA l x):=by rw [←List.mem_append,List.take_append_drop]
  rw [e]
  constructor
  · rintro (h|h|h)
    · exact .inr (.inl h)
    · exact .inl h
    · exact .inr (.inr h)
  · rintro (h|h|h)
    · exact .inr (.inl h)
    · exact .inl h
    · exact .inr (.inr h)
theorem ms {l:List ByteArray} (hl:Asc l) (x:ByteArray):Asc (withL l x):=by
 rw [withL]
 cases h:hasS l x with
 | true=>exact hl
 | false =>
  have hx:=hasS_false.1 h
  have hp:=AA l x
  have h2:∀ y∈l.drop (posA l x),ltB x y=true:=fun y hy=>by
   obtain ⟨j,hj,rfl⟩:=List.getElem_of_mem hy
   rw [List.length_drop] at hj
   rw [List.getElem_drop]
   have hne:l[posA l x+j]≠x:=fun e=>hx (e▸List.getElem_mem _)
   have hg:=sH (l:=l) (x:=x) ag
   rw [List.getD_eq_getElem?_getD,List.getElem?_eq_getElem ag,Option.getD_some] at hg
   have h0:ltB x l[posA l x]=true:=by
    cases hh:ltB x l[posA l x] with
    | true=>rfl
    | false=>exact absurd (mZ hg hh) fun e=>hx (e▸List.getElem_mem _)
   rcases Nat.eq_zero_or_pos j with rfl|hj0
   · simpa using h0
   · exact ji h0 (List.pairwise_iff_getElem.1 hl _ _ _ _ ag)
  have h1:∀ y∈l.take (posA l x),ltB y x=true:=fun y hy=>by
   obtain ⟨j,hj,rfl⟩:=List.getElem_of_mem hy
   rw [List.length_take] at hj
   have:=sG (l:=l) (x:=x) (j:=j) ag
   rw [List.getD_eq_getElem?_getD,List.getElem?_eq_getElem ag,Option.getD_some] at this
   rw [List.getElem_take]
   exact this
  show List.Pairwise _ (l.take (posA l x)++x::l.drop (posA l x))
  rw [List.pairwise_append]
  refine ⟨List.Pairwise.sublist (List.take_sublist _ _) hl,List.pairwise_cons.2 ⟨h2,List.Pairwise.sublist (List.drop_sublist _ _) hl⟩,fun a ha b hb=>?_⟩
  rcases List.mem_cons.1 hb with rfl|hb
  · exact h1 a ha
  · exact ji (h1 a ha) (h2 b hb)
theorem tw {ks:List ByteArray} (h:ks.Nodup) (x:ByteArray):withL (sortB ks) x=sortB (sput ks x) :=
 (ms (gJ h) x).ext (gJ (ej h)) fun y=>by rw [mr,fC,fC,mem_sput]
theorem zj {l:List ByteArray} {x y:ByteArray}:y∈woL l x↔y≠x∧y∈l:=by
 rw [woL,List.mem_filter,Bool.not_eq_true',seqB_ne]
 exact And.comm
theorem zk {ks:List ByteArray} (h:ks.Nodup) (x:ByteArray):woL (sortB ks) x=sortB (sdel ks x):=by
 have h1:Asc (woL (sortB ks) x):=List.Pairwise.sublist List.filter_sublist (gJ h)
 exact h1.ext (gJ (du h)) fun y=>by rw [zj,fC,fC,mY h]
theorem rc (l:List ActD) (d:ByteArray):idx21 (l.map digV) d=match idxV l d with
 | some k=>(k:Int)
 | none=>-1:=by
 rw [idx21,idxV,List.findIdx?_map]
 rfl
end Go.Proofs.YtfnjklhjngphmaaGreatDoor
namespace Go.Proofs.YtfnjklhjngphmaaGreatDoor
open Go Go.Proofs Sy
section
variable {P:Program} {N:Nat} {av bor:List Nat} {w0:World} {x y:Operand} {t t2:TypeId} {ty:TypeId} {st:St} {k:IntKind} {a b:Int}
theorem bK [hI:TyInt P t k] (v:Bool) (hx:ev st.env x=some (.int k a)) (hy:ev st.env y=some (.int k b)) (hv:decide (a<b)=v):Sy.Yields P N av bor w0 st (.binOp .lss t x y t2) ty (.bool v):=hv▸rL hx hy
theorem dl [hI:TyInt P t k] (v:Bool) (hx:ev st.env x=some (.int k a)) (hy:ev st.env y=some (.int k b)) (hv:decide (b≤a)=v):Sy.Yields P N av bor w0 st (.binOp .geq t x y t2) ty (.bool v):=hv▸rN hx hy
theorem dS [hI:TyInt P t k] (v:Bool) (hx:ev st.env x=some (.int k a)) (hy:ev st.env y=some (.int k b)) (hv:decide (a=b)=v):Sy.Yields P N av bor w0 st (.binOp .eql t x y t2) ty (.bool v):=hv▸kp hx hy
theorem kn [hI:TyInt P t k] (v:Bool) (hx:ev st.env x=some (.int k a)) (hy:ev st.env y=some (.int k b)) (hv:(!decide (a=b))=v):Sy.Yields P N av bor w0 st (.binOp .neq t x y t2) ty (.bool v):=hv▸rK hx hy
theorem dv [hI:TyStr P t] {a b:ByteArray} (v:Bool) (hx:ev st.env x=some (.string a)) (hy:ev st.env y=some (.string b)) (hv:seqB a b=v):Sy.Yields P N av bor w0 st (.binOp .eql t x y t2) ty (.bool v):=hv▸kg hx hy
theorem fK {a b:ByteArray} (v:Bool) (hx:ev st.env x=some (.string a)) (hy:ev st.env y=some (.string b)) (hv:(!seqB a b)=v):Sy.Yields P N av bor w0 st (.binOp .neq t x y t2) ty (.bool v):=hv▸nq hx hy
end
end Go.Proofs.YtfnjklhjngphmaaGreatDoor
namespace Go.Proofs.YtfnjklhjngphmaaGreatDoor
open Go Go.Proofs Sy
section
variable {P:Program} {N:Nat} {av bor:List Nat} {w0:World} {x y:Operand} {t t2:TypeId} {ty:TypeId} {st:St}
theorem ia {a b:ByteArray} (v:Bool) (hx:ev st.env x=some (.string a)) (hy:ev st.env y=some (.string b)) (hv:Op.bytesLess a.toList b.toList=v):Sy.Yields P N av bor w0 st (.binOp .lss t x y t2) ty (.bool v):=hv▸vB hx hy
end
structure WithI (l:List ByteArray) (x:ByteArray) where
 k:Nat
 hk:k≤l.length
 ok:∀ j,j<k→ltB (l.getD j .empty) x=true
 A:Option Addr
 c:Nat
 xs:List Value
 hxs:xs=(strs (l.take k)).flatten
theorem gE {w:World} {s:SlV} {l:List ByteArray} {k:Nat} (h:Strs w s l) (hk:k≤l.length):Src Tryz.prog w 1 (s.from 1 k).v (s.from 1 k).n (strs (l.drop k)).flatten:=by
 have h1:=RowsD.drop (n:=k) h (by simpa [strs] using hk)
 have e:(strs l).drop k=strs (l.drop k):=by rw [strs,strs,List.map_drop]
 rw [e] at h1
 exact dJ h1 fun cs hcs=>by
  simp only [strs,List.mem_map] at hcs
  obtain ⟨z,_,rfl⟩:=hcs
  rfl
set_option maxHeartbeats 4000000 in
theorem tz (s:SlV) (l:List ByteArray) (x:ByteArray) (hll:l.length≤1000000):Mk Tryz.prog 312 #[s.v,.string x] (fun w=>Strs w s l) (StrsAt (withL l x)):=by
 refine bL (args:=[_,_]) _ Tryz.func312 rfl Tryz.ntmps312 rfl fun av bor w0=>?_
 refine bt (p:=s.n=l.length∧s.n≤maxLen∧(0<l.length→s.p.isSome=true)) (fun w h=>⟨h.len_,Nat.le_trans (RowsD.cap h) (RowsD.max h),h.some_⟩) fun ⟨hl,hm,hp⟩=>?_
 simp only [maxLen] at hm
 have hh:=lQ s l x
 rw [jl] at hh
 rw [withL]
 cases hb:hasS l x with
 | true =>
  rw [hb] at hh
  repeat' (first|apply ab|apply aj|apply ai|refine ae ?_|refine ac ?_|refine aE ?_|apply aA|(refine aC (hc:=hh) (hX:=fun w h=>h) ?_)|fail)
  exact aq (aB rfl rfl) ⟨s,rfl,fun w h=>h.1⟩
 | false =>
  rw [hb] at hh
  rw [cond_false]
  refine cf 9 1 ?_
  repeat' (first|apply ab|apply aj|apply ai|refine ae ?_|refine ac ?_|refine aD ?_|apply ay|apply aw|(refine aC (hc:=hh) (hX:=fun w h=>h) ?_)|fail)
  refine be (ι:=WithI l x) (fun i=>⟨[(0,s.v),(1,.string x),(5,.slice i.A i.k i.c),(6,.int .i64 (i.k:Nat))],[orow 9 1 (.slice i.A i.k i.c) i.k i.xs],fun w=>Strs w s l⟩) (fun i=>l.length-i.k) ⟨0,Nat.zero_le _,fun j h=>absurd h (Nat.not_lt_zero _),none,0,[],rfl⟩ (aF ⟨rfl,rfl,rfl,rfl,trivial⟩ (aQ _) fun _ h=>h) fun i=>?_
  obtain ⟨k,hk,ok,A,cp,xs,hxs⟩:=i
  simp only
  have fin:(k<l.length→ltB (l.getD k .empty) x=false)→posA l x=k:=fun h=>j9 hk ok h
  by_cases hlt:k<l.length
  · have hp':=hp ag
    obtain ⟨y,hy⟩:∃ y,l[k]?=some y:=⟨_,List.getElem?_eq_getElem hlt⟩
    have hyD:l.getD k .empty=y:=by rw [List.getD_eq_getElem?_getD,hy];rfl
    have ht:l.take (k+1)=l.take k++[y]:=by rw [List.take_add_one,hy,Option.toList_some]
    cases hc:ltB y x with
    | true =>
     have hc':Op.bytesLess y.toList x.toList=true:=hc
     repeat' (first|refine ax (bK true rfl rfl (decide_eq_true ag)) rfl aR rfl ?_|refine ax (ia true rfl rfl hc') rfl aR rfl ?_|apply ab|apply aj|apply ai|refine ae ?_|refine ac ?_|refine aJ ?_|refine bg ?_|refine bm (h:=?_)|refine ca fun _=>?_|refine aE ?_|apply ay|apply aw|(refine bf (q:=k) ?_)|(refine bU (u:=.string y) (hF:=fun w h=>h.at_ hy) ?_)|(refine aS (size:=1) (z:=.string ⟨#[]⟩) (news:=[encB y]) (q:=1) rfl rfl rfl rfl (fun _=>At.there _ (At.here _)) (fun w G=>bq G aU rfl rfl 1) ag (by simp only [maxLen];omega) rfl ?_ rfl ?_;(with_reducible rfl);intro A2 c2)|fail)
     exact ⟨(⟨k+1,hlt,fun j hj=>by
       rcases Nat.lt_succ_iff_lt_or_eq.1 hj with h|h
       · exact ok j h
       · rw [h,hyD];exact hc,A2,c2,xs++[encB y],by rw [ht,hxs,strs,strs,List.map_append,List.flatten_append];rfl⟩:WithI l x),(by show l.length-(k+1)<l.length-k;omega),aF ⟨rfl,rfl,rfl,rfl,trivial⟩ (List.Sublist.cons _ (aQ _)) fun _ h=>h⟩
    | false =>
     have hc':Op.bytesLess y.toList x.toList=false:=hc
     rw [fin fun _=>by rw [hyD];exact hc]
     repeat' (first|refine ax (bK true rfl rfl (decide_eq_true ag)) rfl aR rfl ?_|refine ax (ia false rfl rfl hc') rfl aR rfl ?_|apply ab|apply aj|apply ai|refine ae ?_|refine ac ?_|refine aJ ?_|refine bg ?_|refine ca fun _=>?_|refine aD ?_|apply aV|(refine bf (q:=k) ?_)|(refine bU (u:=.string y) (hF:=fun w h=>h.at_ hy) ?_)|(refine aS (size:=1) (z:=.string ⟨#[]⟩) (news:=[encB x]) (q:=1) rfl rfl rfl rfl (fun _=>At.there _ (At.here _)) (fun w G=>bq G aU rfl rfl 1) ag (by simp only [maxLen];omega) rfl ?_ rfl ?_;(with_reducible rfl);intro A2 c2)|fail)
     repeat' (first|(refine ax (gP (s:=s) rfl rfl ag ag) rfl rfl rfl ?_)|fail)
     refine aS (size:=1) (z:=.string ⟨#[]⟩) (news:=(strs (l.drop k)).flatten) (q:=s.n-k) rfl rfl rfl rfl (fun _=>At.there _ (At.here _)) (fun w G=>gE G.keep.now hk) ag (by simp only [maxLen];omega) rfl ?_ rfl ?_
     · (with_reducible rfl)
     intro A3 c3
     repeat' (first|apply ab|refine ac ?_|apply aA|fail)
     subst hxs
     exact aq (aB rfl rfl) ⟨⟨A3,k+1+(s.n-k),c3⟩,rfl,fun w h=>bJ (e:=9) (xs:=strs (l.take k++x::l.drop k)) (by
      have e:(strs (l.take k++x::l.drop k)).flatten=(strs (l.take k)).flatten++[encB x]++(strs (l.drop k)).flatten:=by simp [strs,encB]
      rw [e]
      exact h.2 _ (.tail _ (.head _))) (by simp [strs];omega) (eW _)⟩
  · have hkE:k=l.length:=by omega
    rw [fin fun h=>absurd h hlt]
    repeat' (first|refine ax (bK false rfl rfl (decide_eq_false ag)) rfl aR rfl ?_|apply ab|apply aj|apply ai|refine ae ?_|refine ac ?_|refine aH ?_|refine bg ?_|refine aW ?_|refine ca fun _=>?_|refine aD ?_|apply aV|(refine aS (size:=1) (z:=.string ⟨#[]⟩) (news:=[encB x]) (q:=1) rfl rfl rfl rfl (fun _=>At.there _ (At.here _)) (fun w G=>bq G aU rfl rfl 1) ag (by simp only [maxLen];omega) rfl ?_ rfl ?_;(with_reducible rfl);intro A2 c2)|fail)
    repeat' (first|(refine ax (gP (s:=s) rfl rfl ag ag) rfl rfl rfl ?_)|fail)
    refine aS (size:=1) (z:=.string ⟨#[]⟩) (news:=(strs (l.drop k)).flatten) (q:=s.n-k) rfl rfl rfl rfl (fun _=>At.there _ (At.here _)) (fun w G=>gE G.keep.now hk) ag (by simp only [maxLen];omega) rfl ?_ rfl ?_
    · (with_reducible rfl)
    intro A3 c3
    repeat' (first|apply ab|refine ac ?_|apply aA|fail)
    subst hxs
    exact aq (aB rfl rfl) ⟨⟨A3,k+1+(s.n-k),c3⟩,rfl,fun w h=>bJ (e:=9) (xs:=strs (l.take k++x::l.drop k)) (by
     have e:(strs (l.take k++x::l.drop k)).flatten=(strs (l.take k)).flatten++[encB x]++(strs (l.drop k)).flatten:=by simp [strs,encB]
     rw [e]
     exact h.2 _ (.tail _ (.head _))) (by simp [strs];omega) (eW _)⟩
end Go.Proofs.YtfnjklhjngphmaaGreatDoor
namespace Go.Proofs.YtfnjklhjngphmaaGreatDoor
open Go Go.Proofs Sy
section
variable {P:Program} {N:Nat} {av bor:List Nat} {w0:World} {ty:TypeId}
theorem nv {st:St} {x:Operand} {t t2 e b':TypeId} [hs:TySl P t e 1 b'] [he:TyInt P e .u8] [h2:TyStr P t2] {b n:Nat} {ns:List Int} (hx:ev st.env x=some (.slice (some ⟨b,0,none⟩) n n)) (hm:cel b e (u8s ns)∈st.loc) (hn:ns.length=n) (hn2:n≤maxLen) :
  Sy.Yields P N av bor w0 st (.convert t t2 x) ty (.string (ofInts ns)):=Sy.Yields.mk fun A w ok d pos af g=>by
 have hh:w.heap[b]?=some (.cells (u8s ns).toArray e (0,0)):=(ok.gam.here _ hm).now
 have ho:ORow w e 1 (.slice (some ⟨b,0,none⟩) n n) n (u8s ns):=jJ hh (by simp [u8s,hn]) hn2
 have hl:(u8s ns).length=n:=by have:=ho.1;omega
 rcases ho.2 with ⟨h,_⟩|⟨g,cap,cur,fz,hv,hg,hnc,hcm,hcs,htake,hfz⟩
 · cases h
 · cases hv
   have hlc:=run_loadCells_list (P:=P) w ⟨b,0,none⟩ (u8s ns) (fun j u hj=>by
    have hadd:(⟨b,0,none⟩:Addr).add j=⟨b,j,none⟩:=by unfold Addr.add;split<;>simp_all
    rw [hadd,cell_of_row w b j cur e fz hg]
    rw [←htake,List.getElem?_take] at hj
    split at hj
    · simpa using hj
    · cases hj)
   rw [hl] at hlc
   have h3:=run_bytesToString (P:=P) w ⟨b,0,none⟩ n n ns hlc
   have h4:=run_convert_bytes_string (P:=P) w t t2 e (some ⟨b,0,none⟩) n n (cM hs.out).1 he.out h2.out
   rw [h3] at h4
   simp [execOp,ok.eval hx,h4,ofInts]
end
section
variable {P:Program} {N:Nat} {av bor:List Nat} {w0:World} {st:St} {ty:TypeId} {x y z:Operand} {t t2:TypeId}
theorem zd {e size b':Nat} [hI:TySl P t e size b'] {s:SlV} {kk kk':IntKind} {i j:Int} (hx:ev st.env x=some s.v) (hy:ev st.env y=some (.int kk i)) (hz:ev st.env z=some (.int kk' j)) (h0:0≤i) (h1:i≤j) (h2:j≤(s.c:Int)) :
  Sy.Yields P N av bor w0 st (.slice t x (some y) (some z) none) ty (.slice (s.from size i.toNat).p (j.toNat-i.toNat) (s.c-i.toNat)):=Sy.Yields.mk fun A w ok d pos af g=>by
 obtain ⟨p,m,c⟩:=s
 obtain ⟨hu,inf,hi,hs,hb⟩:=cM hI.out
 have hsz:=Sy.run_sizeOf (P:=P) (w:=w) (t:=e) (n:=size) (by simp [hi,hs])
 have hx':ev st.env x=some (.slice p m c):=hx
 have h2':j≤(c:Int):=h2
 have hj:0≤j:=by omega
 obtain ⟨j,rfl⟩:=Int.eq_ofNat_of_zero_le hj
 have h2'':j≤c:=by omega
 simp [execOp,ok.eval hx',ok.eval hy,ok.eval hz,Instr.sliceAt,run_underlying hu,Instr.slice,Instr.sliceBounds,run_sliceBound,h0,h1,h2',h2'',hsz,SlV.from]
end
section
variable {P:Program} {N:Nat} {av bor:List Nat} {w0:World} {st:St} {ty:TypeId} {x:Operand} {t:TypeId}
theorem cY {e m i c:Nat} [h:TyOne P t] {A:Option Addr} {vs:List Value} {u:Value} (hx:ev st.env x=some (elP A i)) (hm:orow e 1 (.slice A m c) m vs∈st.loc) (hn:m=vs.length) (hi:vs[i]?=some u) :
  Sy.Yields P N av bor w0 st (.load t x) ty u:=Sy.Yields.mk fun B w ok d pos af g=>by
 have e1:(vs.map fun v=>[v]).flatten=vs:=by
  clear hm hn hi
  induction vs with
  | nil=>rfl
  | cons v vs ih=>rw [List.map_cons,List.flatten_cons,ih];rfl
 have ho:=(ok.gam.here _ hm).now
 have hr:RowsD w 1 ⟨A,m,c⟩ (vs.map fun v=>[v]):=bJ (e:=e) (by rw [e1];exact ho) (by rw [List.length_map];exact hn) fun r hr=>by
  obtain ⟨v,_,rfl⟩:=List.mem_map.1 hr
  rfl
 obtain ⟨h1,hp,hc⟩:=RowsD.row hr i [u] (by rw [List.getElem?_map,hi];rfl)
 have hc0:=hc 0 u rfl
 rw [Nat.mul_one,Nat.add_zero] at hc0
 obtain ⟨a,rfl⟩:=Option.isSome_iff_exists.1 hp
 simp [execOp,ok.eval hx,elP,Instr.loadAt,Instr.sureAddr,loadVar,(cE h.out w).1,hc0.2 a rfl]
end
section
variable {P:Program} {N:Nat} {av bor:List Nat} {w0:World} {ops:Array Oper} {rest:List Oper} {kk:St→Prop} {E:Env} {loc:List Res} {X:World→Prop} {x y:Operand} {t t2:TypeId}
variable {n:Nat} {ty:TypeId} {pos:String} {af:Array Edge} {g:Option (Nat×Bool)} {bb want:Bool}
theorem xc {k:IntKind} {a b:Int} [hI:TyInt P t k] (h:Sw P N av bor w0 ops rest ⟨(n,.bool false)::E,loc,X⟩ kk) (hx:ev E x=some (.int k a):=by rfl) (hy:ev E y=some (.int k b):=by rfl) (hab:¬ a<b) (hg:gdB ops E g=some (bb,want):=by rfl) (hbb:bb=want:=by exact aR) (hd:Nat.blt n N=true:=by rfl) :
  Sw P N av bor w0 ops (⟨some n,.binOp .lss t x y t2,ty,pos,af,g⟩::rest) ⟨E,loc,X⟩ kk:=bu (hx:=hx) (hy:=hy) (hg:=hg) (hbb:=hbb) (hd:=hd) (h:=by
   have e:∀ u,u=Value.bool false→Sw P N av bor w0 ops rest ⟨(n,u)::E,loc,X⟩ kk:=fun u hu=>hu▸h
   exact e _ (by simp [hab]))
theorem xb {k:IntKind} {a b:Int} [hI:TyInt P t k] (h:Sw P N av bor w0 ops rest ⟨(n,.bool true)::E,loc,X⟩ kk) (hx:ev E x=some (.int k a):=by rfl) (hy:ev E y=some (.int k b):=by rfl) (hab:a<b:=by (first|decide|omega)) (hg:gdB ops E g=some (bb,want):=by rfl) (hbb:bb=want:=by exact aR) (hd:Nat.blt n N=true:=by rfl) :
  Sw P N av bor w0 ops (⟨some n,.binOp .lss t x y t2,ty,pos,af,g⟩::rest) ⟨E,loc,X⟩ kk:=bu (hx:=hx) (hy:=hy) (hg:=hg) (hbb:=hbb) (hd:=hd) (h:=by
   have e:∀ u,u=Value.bool true→Sw P N av bor w0 ops rest ⟨(n,u)::E,loc,X⟩ kk:=fun u hu=>hu▸h
   exact e _ (by simp [hab]))
end
theorem gq:∀ (l:List Int) (r:ByteArray),(l.foldl (fun r n=>r.push (UInt8.ofNat n.toNat)) r)=r++ofInts l
 | [],r=>by simp [ofInts]
 | b::l,r=>by
  have e:ofInts (b::l)=ofInts [b]++ofInts l:=by
   conv=>lhs;rw [ofInts,List.foldl_cons,gq l]
   rfl
  rw [List.foldl_cons,gq l,e,←ByteArray.append_assoc]
  congr 1
  simp [ofInts,ByteArray.ext_iff]
theorem pz (a:Int) (l:List Int):ofInts [a]++ofInts l=ofInts (a::l):=by
 conv=>rhs;rw [ofInts,List.foldl_cons,gq]
 rfl
set_option maxRecDepth 4000 in
theorem refNumD:∀ (f:Nat) (n:Int),0≤n→n<128 ^ f→f≤9→Pu Tryz.prog 237 #[.int .i64 n] (fun _=>True) (.string (ofInts (numD (f+1) n)))
 | f,n,h0,h1,hf=>by
  have hb:(128:Int) ^ f≤9223372036854775808:=by
   have h4:(128:Nat) ^ f≤128 ^ 9:=Nat.pow_le_pow_right ag hf
   have h5:((128 ^ f:Nat):Int)≤((128 ^ 9:Nat):Int):=by exact_mod_cast h4
   have h6:((128 ^ 9:Nat):Int)=9223372036854775808:=by decide
   have h7:((128 ^ f:Nat):Int)=(128:Int) ^ f:=by simp
   omega
  refine aN (args:=[_]) _ Tryz.func237 rfl Tryz.ntmps237 rfl fun av bor w0=>?_
  by_cases hs:128≤n
  · have hf0:f≠0:=fun e=>by rw [e] at h1;simp at h1;omega
    obtain ⟨g,rfl⟩:∃ g,f=g+1:=⟨f-1,by omega⟩
    have ih:=refNumD g (n.tdiv 128) (by rw [Int.tdiv_eq_ediv_of_nonneg h0];omega) (by
     rw [Int.tdiv_eq_ediv_of_nonneg h0]
     rw [Int.pow_succ] at h1
     omega) ag
    rw [pA hs,←pz]
    have hlw:IntKind.u8.wrap (128+n.tmod 128)=lowD n:=rfl
    have ht1:=Int.tmod_lt_of_pos n (b:=128) ag
    have ht2:=Int.tmod_nonneg 128 h0
    have hq:IntKind.i64.wrap (n.tdiv 128)=n.tdiv 128:=IntWalk.i64_in _ (by rw [Int.tdiv_eq_ediv_of_nonneg h0];omega)
    have hsz:=eC [lowD n]
    have hsz2:=lG (g+1) (n.tdiv 128)
    have hsz3:=eC (numD (g+1) (n.tdiv 128))
    simp only [List.length_cons,List.length_nil,Nat.zero_add] at hsz
    repeat' (first|refine xc (hab:=by omega) ?_|apply ab|apply aj|apply ai|refine ae ?_|refine ac ?_|refine aD ?_|apply ay|fail)
    (apply ci;kernel_rfl)
    all_goals refine aa 0 ?_
    all_goals (refine aa 1 (hy:=by (apply oA;rfl;rfl;decide;rfl)) ?_)
    all_goals refine aa 2 ?_
    all_goals refine aa 3 ?_
    all_goals refine aa 6 ?_
    all_goals (refine aa 7 (hy:=by (apply oB;rfl;rfl;decide;exact hq)) ?_)
    all_goals (refine bS 4 8 (h:=?_) (h':=?_);(focus (((refine ca (vs:=[.int .u8 (lowD n)]) fun _=>?_);apply ab;refine ak ?_);all_goals ((refine bS 5 8 (h:=?_) (h':=?_);(focus (((refine ax (nv (ns:=[lowD n]) rfl aU rfl (by decide)) rfl aR rfl ?_);apply ab;refine ak ?_);all_goals ((refine ao 8 ?_;(refine aC (hc:=ih) (hX:=fun _ _=>trivial) ?_);apply ab;refine ak ?_);all_goals (refine aa 9 (hy:=by (apply cA;rfl;rfl;omega)) ?_);all_goals (refine aa 10 ?_);all_goals (refine aI ?_))));rotate_right;(focus (((refine aC (hc:=ih) (hX:=fun _ _=>trivial) ?_);apply ab;refine ak ?_);all_goals ((refine ao 5 ?_;(refine ax (nv (ns:=[lowD n]) rfl aU rfl (by decide)) rfl aR rfl ?_);apply ab;refine ak ?_);all_goals (refine aa 9 (hy:=by (apply cA;rfl;rfl;omega)) ?_);all_goals (refine aa 10 ?_);all_goals (refine aI ?_))))))));rotate_right;(focus (((refine aC (hc:=ih) (hX:=fun _ _=>trivial) ?_);apply ab;refine ak ?_);all_goals ((refine ao 4 ?_;(refine ca (vs:=[.int .u8 (lowD n)]) fun _=>?_);apply ab;refine ak ?_);all_goals (refine ao 5 ?_;(refine ax (nv (ns:=[lowD n]) rfl aU rfl (by decide)) rfl aR rfl ?_);apply ab;refine ak ?_);all_goals (refine aa 9 (hy:=by (apply cA;rfl;rfl;omega)) ?_);all_goals (refine aa 10 ?_);all_goals (refine aI ?_)))))
    all_goals
     apply aA
     exact aq (aB rfl rfl) rfl
  · rw [lF hs]
    repeat' (first|refine xc (hab:=by omega) ?_|refine xb (hab:=by omega) ?_|apply ab|apply aj|apply ai|refine ae ?_|refine ac ?_|refine ca fun _=>?_|refine aE ?_|refine aD ?_|apply ay|apply aA|refine dH (h:=?_)|(refine ax (nv (ns:=[IntKind.u8.wrap n]) rfl aU rfl (by decide)) rfl aR rfl ?_)|fail)
    exact aq (aB rfl rfl) rfl
theorem cQ (n:Int) (hn:n<9223372036854775808):Pu Tryz.prog 237 #[.int .i64 n] (fun _=>True) (.string (numV n)):=by
 by_cases h0:0≤n
 · have h:=refNumD 9 n h0 (by rw [show (128:Int) ^ 9=9223372036854775808 from by decide];exact hn) (Nat.le_refl _)
   rw [numV,decide_eq_false (by omega)]
   exact h
 · rw [numV,decide_eq_true (by omega)]
   refine aN (args:=[_]) _ Tryz.func237 rfl Tryz.ntmps237 rfl fun av bor w0=>?_
   repeat' (first|refine xb (hab:=by omega) ?_|apply ab|apply aj|apply ai|refine ae ?_|refine ac ?_|refine aE ?_|apply aA|fail)
   exact aq (aB rfl rfl) rfl
theorem dc (s:ByteArray) (hs:s.size≤1099511627776):Pu Tryz.prog 234 #[.string s] (fun _=>True) (.string (textV s)):=by
 refine aN (args:=[_]) _ Tryz.func234 rfl Tryz.ntmps234 rfl fun av bor w0=>?_
 have:=bw s.size
 repeat' (first|apply ab|apply aj|apply ai|refine ae ?_|refine ac ?_|refine cr ?_|apply aA|refine aC (hc:=cQ _ ag) ?_|(refine nJ ?_)|fail)
 exact aq (aB rfl rfl) rfl
theorem qH (s:SlV) (l:List ByteArray) (hs:(listV l).size≤1099511627776):Pu Tryz.prog 286 #[s.v] (fun w=>Strs w s l) (.string (listV l)):=by
 refine aN (args:=[_]) _ Tryz.func286 rfl Tryz.ntmps286 rfl fun av bor w0=>?_
 refine bt (p:=s.n=l.length∧s.n≤maxLen∧(0<l.length→s.p.isSome=true)) (fun w h=>⟨h.len_,Nat.le_trans (RowsD.cap h) (RowsD.max h),h.some_⟩) fun ⟨hl,hm,hp⟩=>?_
 simp only [maxLen] at hm
 have hn10:=bw s.n
 have hsz:(numV l.length).size+(cats (l.map textV)).size≤1099511627776:=by rw [←ByteArray.size_append];exact hs
 have h0:numV l.length++cats ((l.map textV).take 0)=numV s.n:=by simp [cats,hl]
 repeat' (first|apply ab|apply aj|apply ai|refine ae ?_|refine ac ?_|refine bg ?_|apply aw|refine aC (hc:=cQ _ ag) ?_|fail)
 refine be (ι:=Kth l.length) (fun i=>⟨[(0,s.v),(3,.string (numV l.length++cats ((l.map textV).take i.k))),(4,.int .i64 (i.k:Nat))],[],fun w=>Strs w s l⟩) (fun i=>l.length-i.k) ⟨0,Nat.zero_le _⟩ (aF ⟨rfl,by rw [h0];rfl,rfl,trivial⟩ (aQ _) fun _ h=>h) fun i=>?_
 obtain ⟨k,hk⟩:=i
 simp only
 repeat' (first|apply ab|apply aj|apply ai|refine ae ?_|refine ac ?_|refine bu ?_|refine bg ?_|apply ay|apply aw|apply aA|apply aV|(refine aO (ht:=?_) (hf:=?_);all_goals (intro hx_;first|have:=aY hx_|have:=aZ hx_)))
 · have hlt:k<l.length:=by omega
   have hp':=hp ag
   have hsucc:=fG (l.map textV) (k:=k) (by rw [List.length_map];exact hlt)
   have hg:(l.map textV).getD k .empty=textV (l.getD k .empty):=by
    rw [List.getD_eq_getElem?_getD,List.getElem?_map,List.getD_eq_getElem?_getD,List.getElem?_eq_getElem hlt];rfl
   have hle:=eS (l.map textV) (k+1)
   rw [hsucc,ByteArray.size_append,hg] at hle
   have hte:(textV (l.getD k .empty)).size=(numV (l.getD k .empty).size).size+(l.getD k .empty).size:=by rw [textV,ByteArray.size_append]
   have hca:(numV l.length++cats ((l.map textV).take k)).size=(numV l.length).size+(cats ((l.map textV).take k)).size:=ByteArray.size_append
   repeat' (first|apply ab|apply ai|refine ae ?_|refine ac ?_|refine bm (h:=?_)|(refine bf (q:=k) ?_)|(refine bU (hF:=fun w h=>Strs.get h hlt) ?_)|refine aC (hc:=dc _ ag) ?_|(refine nJ ?_)|fail)
   exact ⟨(⟨k+1,hlt⟩:Kth l.length),(by show l.length-(k+1)<l.length-k;omega),aF ⟨rfl,by rw [hsucc,hg,←ByteArray.append_assoc];rfl,rfl,trivial⟩ (aQ _) fun _ h=>h⟩
 · have hkE:k=l.length:=by omega
   subst hkE
   exact aq (aB rfl rfl) (by rw [listV,List.take_of_length_le (by rw [List.length_map];exact Nat.le_refl _)])
def IsN (x:Int) (n:Nat):Prop:=x=(n:Int)∧n<4294967296
theorem wrap32 (n:Nat):IntKind.u32.wrap (n:Int)=((n%4294967296:Nat):Int):=by
 simp [IntKind.wrap,IntKind.signed,IntKind.bits]
theorem IsN.xor {x y:Int} {m n:Nat} (h:IsN x m) (k:IsN y n):IsN (bitsV .xor .u32 x y) (m ^^^ n):=by
 obtain ⟨rfl,hm⟩:=h
 obtain ⟨rfl,hn⟩:=k
 have hx:m ^^^ n<2 ^ 32:=Nat.xor_lt_two_pow hm hn
 refine ⟨?_,hx⟩
 show IntKind.u32.wrap ((((BitVec.ofInt 32 (m:Int)) ^^^ (BitVec.ofInt 32 (n:Int))).toNat:Nat):Int)=_
 rw [BitVec.ofInt_natCast,BitVec.ofInt_natCast,BitVec.toNat_xor,BitVec.toNat_ofNat,BitVec.toNat_ofNat,Nat.mod_eq_of_lt (show m<2 ^ 32 from hm),Nat.mod_eq_of_lt (show n<2 ^ 32 from hn),wrap32,Nat.mod_eq_of_lt hx]
theorem IsN.and {x y:Int} {m n:Nat} (h:IsN x m) (k:IsN y n):IsN (bitsV .and .u32 x y) (m &&& n):=by
 obtain ⟨rfl,hm⟩:=h
 obtain ⟨rfl,hn⟩:=k
 have hx:m &&& n<2 ^ 32:=Nat.and_lt_two_pow m hn
 refine ⟨?_,hx⟩
 show IntKind.u32.wrap ((((BitVec.ofInt 32 (m:Int)) &&& (BitVec.ofInt 32 (n:Int))).toNat:Nat):Int)=_
 rw [BitVec.ofInt_natCast,BitVec.ofInt_natCast,BitVec.toNat_and,BitVec.toNat_ofNat,BitVec.toNat_ofNat,Nat.mod_eq_of_lt (show m<2 ^ 32 from hm),Nat.mod_eq_of_lt (show n<2 ^ 32 from hn),wrap32,Nat.mod_eq_of_lt hx]
theorem IsN.or {x y:Int} {m n:Nat} (h:IsN x m) (k:IsN y n):IsN (bitsV .or .u32 x y) (m ||| n):=by
 obtain ⟨rfl,hm⟩:=h
 obtain ⟨rfl,hn⟩:=k
 have hx:m ||| n<2 ^ 32:=Nat.or_lt_two_pow hm hn
 refine ⟨?_,hx⟩
 show IntKind.u32.wrap ((((BitVec.ofInt 32 (m:Int)) ||| (BitVec.ofInt 32 (n:Int))).toNat:Nat):Int)=_
 rw [BitVec.ofInt_natCast,BitVec.ofInt_natCast,BitVec.toNat_or,BitVec.toNat_ofNat,BitVec.toNat_ofNat,Nat.mod_eq_of_lt (show m<2 ^ 32 from hm),Nat.mod_eq_of_lt (show n<2 ^ 32 from hn),wrap32,Nat.mod_eq_of_lt hx]
theorem IsN.add {x y:Int} {m n:Nat} (h:IsN x m) (k:IsN y n):IsN (a32 x y) ((m+n)%4294967296):=by
 obtain ⟨rfl,hm⟩:=h
 obtain ⟨rfl,hn⟩:=k
 refine ⟨?_,Nat.mod_lt _ (by decide)⟩
 show IntKind.u32.wrap ((m:Int)+(n:Int))=_
 rw [←Int.natCast_add,wrap32]
theorem IsN.shl {x:Int} {m:Nat} (h:IsN x m) {c:Int} (p:Nat) (hp:(2:Int) ^ (min c.toNat 32)=(p:Int)):IsN (shlV .u32 x c) (m*p%4294967296):=by
 obtain ⟨rfl,hm⟩:=h
 refine ⟨?_,Nat.mod_lt _ (by decide)⟩
 show IntKind.u32.wrap ((m:Int)*2 ^ (min c.toNat 32))=_
 rw [hp,←Int.natCast_mul,wrap32]
theorem IsN.shr {x:Int} {m:Nat} (h:IsN x m) {c:Int} (p:Nat) (hp:(2:Int) ^ (min c.toNat 32)=(p:Int)):IsN (shrV .u32 x c) (m/p):=by
 obtain ⟨rfl,hm⟩:=h
 refine ⟨?_,Nat.lt_of_le_of_lt (Nat.div_le_self _ _) hm⟩
 show (m:Int).fdiv (2 ^ (min c.toNat 32))=_
 rw [hp,←Int.ofNat_fdiv]
def rot (p q m:Nat):Nat:=(m*p%4294967296) ||| (m/q)
theorem IsN.turn {x:Int} {m:Nat} (h:IsN x m) {r c:Int} (p q:Nat) (hc:bitsV .and .u64 (IntKind.u64.wrap (IntKind.i64.wrap (0-r))) 31=c) (hd:IntKind.u64.wrap (32-c)=r) (hp:(2:Int) ^ (min c.toNat 32)=(p:Int)) (hq:(2:Int) ^ (min r.toNat 32)=(q:Int)) :
  IsN (turnV x r) (rot p q m):=by
 unfold turnV rotlV
 rw [hc,hd]
 exact (h.shl p hp).or (h.shr q hq)
def s0N (m:Nat):Nat:=rot 33554432 128 m ^^^ rot 16384 262144 m ^^^ (m/8)
def s1N (m:Nat):Nat:=rot 32768 131072 m ^^^ rot 8192 524288 m ^^^ (m/1024)
def b1N (m:Nat):Nat:=rot 67108864 64 m ^^^ rot 2097152 2048 m ^^^ rot 128 33554432 m
def b0N (m:Nat):Nat:=rot 1073741824 4 m ^^^ rot 524288 8192 m ^^^ rot 1024 4194304 m
theorem IsN.s0 {x:Int} {m:Nat} (h:IsN x m):IsN (bitsV .xor .u32 (bitsV .xor .u32 (turnV x 7) (turnV x 18)) (shrV .u32 x 3)) (s0N m) :=
 ((h.turn (c:=25) _ _ ar ar ar ar).xor (h.turn (c:=14) _ _ ar ar ar ar)).xor (h.shr 8 ar)
theorem IsN.s1 {x:Int} {m:Nat} (h:IsN x m):IsN (bitsV .xor .u32 (bitsV .xor .u32 (turnV x 17) (turnV x 19)) (shrV .u32 x 10)) (s1N m) :=
 ((h.turn (c:=15) _ _ ar ar ar ar).xor (h.turn (c:=13) _ _ ar ar ar ar)).xor (h.shr 1024 ar)
theorem IsN.b1 {x:Int} {m:Nat} (h:IsN x m):IsN (x32 (x32 (turnV x 6) (turnV x 11)) (turnV x 25)) (b1N m) :=
 ((h.turn (c:=26) _ _ ar ar ar ar).xor (h.turn (c:=21) _ _ ar ar ar ar)).xor (h.turn (c:=7) _ _ ar ar ar ar)
theorem IsN.b0 {x:Int} {m:Nat} (h:IsN x m):IsN (x32 (x32 (turnV x 2) (turnV x 13)) (turnV x 22)) (b0N m) :=
 ((h.turn (c:=30) _ _ ar ar ar ar).xor (h.turn (c:=19) _ _ ar ar ar ar)).xor (h.turn (c:=10) _ _ ar ar ar ar)
def fc {α:Type} (n:Nat) (k:Nat→α):α:=match n with
 | 0=>k 0
 | m+1=>k (Nat.succ m)
theorem gN {α:Type} (n:Nat) (k:Nat→α):fc n k=k n:=by cases n<;>rfl
structure S8 where
 a:Nat
 b:Nat
 c:Nat
 d:Nat
 e:Nat
 f:Nat
 g:Nat
 h:Nat
structure RS (x:St8) (n:S8):Prop where
 a:IsN x.a n.a
 b:IsN x.b n.b
 c:IsN x.c n.c
 d:IsN x.d n.d
 e:IsN x.e n.e
 f:IsN x.f n.f
 g:IsN x.g n.g
 h:IsN x.h n.h
def t1N (h e f g k w:Nat):Nat:=((((h+b1N e)%4294967296+((e &&& f) ^^^ ((4294967295 ^^^ e) &&& g)))%4294967296+k)%4294967296+w)%4294967296
def t2N (a b c:Nat):Nat:=(b0N a+(((a &&& b) ^^^ (a &&& c)) ^^^ (b &&& c)))%4294967296
def roundN (s:S8) (k w:Nat):S8:=match s with
 | ⟨a,b,c,d,e,f,g,h⟩=>fc (t1N h e f g k w) fun t1=>fc ((t1+t2N a b c)%4294967296) fun x=>fc ((d+t1)%4294967296) fun y=>⟨x,a,b,c,y,e,f,g⟩
theorem RS.round {x:St8} {n:S8} (h:RS x n) {k w:Int} {k' w':Nat} (hk:IsN k k') (hw:IsN w w'):RS (roundV x k w) (roundN n k' w'):=by
 obtain ⟨a,b,c,d,e,f,g,hh⟩:=n
 obtain ⟨ha,hb,hc,hd,he,hf,hg,hh⟩:=h
 simp only [roundN,gN]
 have hm:IsN (if IntKind.u32.signed then -1 else IntKind.u32.max) 4294967295:=⟨by kernel_rfl,by decide⟩
 have h1:IsN (t1V x k w) (t1N _ e f g k' w'):=(((hh.add he.b1).add ((he.and hf).xor ((hm.xor he).and hg))).add hk).add hw
 have h2:IsN (t2V x) (t2N a b c):=ha.b0.add (((ha.and hb).xor (ha.and hc)).xor (hb.and hc))
 exact ⟨h1.add h2,ha,hb,hc,hd.add h1,he,hf,hg⟩
structure W16 where
 w0:Nat
 w1:Nat
 w2:Nat
 w3:Nat
 w4:Nat
 w5:Nat
 w6:Nat
 w7:Nat
 w8:Nat
 w9:Nat
 w10:Nat
 w11:Nat
 w12:Nat
 w13:Nat
 w14:Nat
 w15:Nat
def nextW (a b c d:Nat):Nat:=(((a+s0N b)%4294967296+c)%4294967296+s1N d)%4294967296
def W16.next (w:W16):W16:=match w with
 | ⟨a0,a1,a2,a3,a4,a5,a6,a7,a8,a9,a10,a11,a12,a13,a14,a15⟩=>fc (nextW a0 a1 a9 a14) fun x=>⟨a1,a2,a3,a4,a5,a6,a7,a8,a9,a10,a11,a12,a13,a14,a15,x⟩
def sN (f:Nat→Nat):Nat→Nat→Nat
 | 0,t=>f t
 | k+1,t=>if t=16+k then nextW (sN f k k) (sN f k (k+1)) (sN f k (k+9)) (sN f k (k+14)) else sN f k t
def winN (f:Nat→Nat) (t:Nat):W16:=⟨sN f t t,sN f t (t+1),sN f t (t+2),sN f t (t+3),sN f t (t+4),sN f t (t+5),sN f t (t+6),sN f t (t+7),sN f t (t+8),sN f t (t+9),sN f t (t+10),sN f t (t+11),sN f t (t+12),sN f t (t+13),sN f t (t+14),sN f t (t+15)⟩
theorem nP (f:Nat→Nat) {k t:Nat} (h:t≠16+k):sN f (k+1) t=sN f k t:=by rw [sN,if_neg h]
theorem qA (f:Nat→Nat) (k:Nat):sN f (k+1) (16+k)=nextW (sN f k k) (sN f k (k+1)) (sN f k (k+9)) (sN f k (k+14)):=by rw [sN,if_pos rfl]
theorem io (f:Nat→Nat) {k t:Nat}:∀ j,t<16+k→sN f (k+j) t=sN f k t
 | 0,_=>rfl
 | j+1,h=>by
  rw [show k+(j+1)=(k+j)+1 from rfl,nP f (by omega)]
  exact io f j h
theorem W16.next_eq (a0 a1 a2 a3 a4 a5 a6 a7 a8 a9 a10 a11 a12 a13 a14 a15:Nat):W16.next ⟨a0,a1,a2,a3,a4,a5,a6,a7,a8,a9,a10,a11,a12,a13,a14,a15⟩=⟨a1,a2,a3,a4,a5,a6,a7,a8,a9,a10,a11,a12,a13,a14,a15,nextW a0 a1 a9 a14⟩:=by rw [W16.next,gN]
theorem mt (f:Nat→Nat) (t:Nat):(winN f t).next=winN f (t+1):=by
 rw [winN,W16.next_eq,←qA,winN]
 have e:∀ j,j<15→sN f t (t+(j+1))=sN f (t+1) (t+1+j):=fun j hj=>by
  rw [nP f (by omega)];congr 1;omega
 have e15:sN f (t+1) (16+t)=sN f (t+1) (t+1+15):=by congr 1;omega
 rw [W16.mk.injEq]
 exact ⟨e 0 ag,e 1 ag,e 2 ag,e 3 ag,e 4 ag,e 5 ag,e 6 ag,e 7 ag,e 8 ag,e 9 ag,e 10 ag,e 11 ag,e 12 ag,e 13 ag,e 14 ag,e15⟩
theorem mD {s:ByteArray} {f:Nat→Nat} (h:∀ t,t<16→IsN (wordV s t) (f t)):∀ k,k≤48→∀ t,t<16+k→IsN ((w2 s k).getD t 0) (sN f k t)
 | 0,_,t,ht=>by
  have key:∀ i,i≤16→∀ t,t<i→(w1 s i).getD t 0=wordV s t:=fun i=>by
   induction i with
   | zero=>intro _ t ht;omega
   | succ i ih =>
    intro hi t ht
    rw [w1,List.getD_eq_getElem?_getD,List.getElem?_set]
    by_cases e:i=t
    · subst e
      rw [if_pos rfl,if_pos (by rw [nA];omega)];rfl
    · rw [if_neg e,←List.getD_eq_getElem?_getD]
      exact ih ag t ag
  rw [w2,key 16 ag t (by omega)]
  exact h t ag
 | k+1,hk,t,ht=>by
  have ih:=mD h k ag
  rw [w2,List.getD_eq_getElem?_getD,List.getElem?_set]
  by_cases e:16+k=t
  · subst e
    rw [if_pos rfl,if_pos (by rw [nz];omega),qA]
    have h0:=ih k ag
    have h1:=ih (16+k-15) ag
    have h9:=ih (16+k-7) ag
    have h14:=ih (16+k-2) ag
    rw [show 16+k-15=k+1 by omega] at h1
    rw [show 16+k-7=k+9 by omega] at h9
    rw [show 16+k-2=k+14 by omega] at h14
    have he:early (w2 s k) (16+k)=_:=rfl
    unfold early late
    rw [show 16+k-15=k+1 by omega,show 16+k-7=k+9 by omega,show 16+k-2=k+14 by omega]
    exact ((h0.add h1.s0).add h9).add h14.s1
  · rw [if_neg e,←List.getD_eq_getElem?_getD,nP f (by omega)]
    exact ih t ag
def kN:List Nat:=kC.map Int.toNat
def stepN (p:S8×W16) (k:Nat):S8×W16:=match p with
 | (s,w)=>(roundN s k w.w0,w.next)
theorem oN (s:S8) (w:W16) (k:Nat):stepN (s,w) k=(roundN s k w.w0,w.next):=by unfold stepN;rfl
def roundsN (ks:List Nat) (s:S8) (w:W16):S8:=(ks.foldl stepN (s,w)).1
theorem uR {x:St8} {ws:List Int} {f:Nat→Nat} (hw:∀ t,t<64→IsN (ws.getD t 0) (sN f t t)):∀ (n t:Nat) (s:S8),t+n=64→RS (roundsV x ws t) s→RS (roundsV x ws 64) ((kN.drop t).foldl stepN (s,winN f t)).1:=by
 intro n
 have hl:kN.length=64:=by kernel_rfl
 have hk:∀ t,t<64→kC.getD t 0=((kN.getD t 0:Nat):Int)∧kN.getD t 0<4294967296:=by decide +kernel
 induction n with
 | zero =>
  intro t s ht h
  have e:t=64:=by omega
  subst e
  rw [List.drop_of_length_le ag,List.foldl_nil]
  exact h
 | succ n ih =>
  intro t s ht h
  have hd:kN.drop t=kN[t]'(by omega)::kN.drop (t+1):=List.drop_eq_getElem_cons ag
  have e2:kN.getD t 0=kN[t]'(by omega):=by rw [List.getD_eq_getElem?_getD,List.getElem?_eq_getElem (by omega)];rfl
  have h1:=hk t ag
  rw [e2] at h1
  have hw0:(winN f t).w0=sN f t t:=by unfold winN;rfl
  have hr:roundsV x ws (t+1)=roundV (roundsV x ws t) (kC.getD t 0) (ws.getD t 0):=by rw [roundsV]
  rw [hd,List.foldl_cons,oN,mt,hw0]
  refine ih (t+1) _ ag ?_
  rw [hr]
  exact h.round h1 (hw t ag)
theorem qD {x:St8} {ws:List Int} {f:Nat→Nat} (hw:∀ t,t<64→IsN (ws.getD t 0) (sN f t t)) {s:S8} (h:RS x s):RS (roundsV x ws 64) (roundsN kN s (winN f 0)):=by
 have h1:=uR (x:=x) hw 64 0 s (Nat.zero_add _) (by rw [roundsV];exact h)
 rw [List.drop_zero] at h1
 unfold roundsN
 exact h1
def addN (x y:S8):S8:=match x,y with
 | ⟨a,b,c,d,e,f,g,h⟩,⟨a',b',c',d',e',f',g',h'⟩=>fc ((a+a')%4294967296) fun a=>fc ((b+b')%4294967296) fun b=>fc ((c+c')%4294967296) fun c=>fc ((d+d')%4294967296) fun d=>fc ((e+e')%4294967296) fun e=>fc ((f+f')%4294967296) fun f=>fc ((g+g')%4294967296) fun g=>fc ((h+h')%4294967296) fun h=>⟨a,b,c,d,e,f,g,h⟩
def mixN (s:S8) (w:W16):S8:=addN s (roundsN kN s w)
theorem RS.add {x y:St8} {m n:S8} (h:RS x m) (h1:RS y n):RS ⟨a32 x.a y.a,a32 x.b y.b,a32 x.c y.c,a32 x.d y.d,a32 x.e y.e,a32 x.f y.f,a32 x.g y.g,a32 x.h y.h⟩ (addN m n):=by
 obtain ⟨a,b,c,d,e,f,g,hh⟩:=m
 obtain ⟨a',b',c',d',e',f',g',h'⟩:=n
 simp only [addN,gN]
 exact ⟨h.a.add h1.a,h.b.add h1.b,h.c.add h1.c,h.d.add h1.d,h.e.add h1.e,h.f.add h1.f,h.g.add h1.g,h.h.add h1.h⟩
theorem RS.mix {x:St8} {n:S8} (h:RS x n) {s:ByteArray} {f:Nat→Nat} (hs:∀ t,t<16→IsN (wordV s t) (f t)):RS (mixV x s) (mixN n (winN f 0)):=by
 have h1:=qD (x:=x) (ws:=schedV s) (f:=f) (fun t ht=>by
  have h2:=mD hs 48 ag t ag
  by_cases e:t≤48
  · have h3:=io f (k:=t) (t:=t) (48-t) ag
    rw [show t+(48-t)=48 by omega] at h3
    rw [schedV]
    rwa [h3] at h2
  · have h3:=io f (k:=48) (t:=t) (t-48) ag
    rw [show 48+(t-48)=t by omega] at h3
    rw [schedV,h3]
    exact h2) h
 unfold mixV mixN
 generalize roundsV x (schedV s) 64=y at h1 ⊢
 generalize roundsN kN n (winN f 0)=y' at h1 ⊢
 exact h.add h1
def nl (s:ByteArray):List Nat:=s.data.toList.map UInt8.toNat
theorem cU (s:ByteArray):(nl s).length=s.size:=by simp [nl]
theorem ek (a b:ByteArray):nl (a++b)=nl a++nl b:=by simp [nl,ByteArray.data_append]
theorem jL (s:ByteArray):∀ x∈nl s,x<256:=fun x hx=>by
 obtain ⟨b,_,rfl⟩:=List.mem_map.1 hx
 exact b.toNat_lt
theorem f0 (s:ByteArray) (a b:Nat):nl (s.extract a b)=((nl s).drop a).take (b-a):=by
 simp [nl,ByteArray.data_extract,Array.toList_extract,List.map_take,List.map_drop]
theorem qX {a b:ByteArray} (h:nl a=nl b):a=b:=by
 apply ByteArray.ext
 apply Array.ext'
 have key:∀ l m:List UInt8,l.map UInt8.toNat=m.map UInt8.toNat→l=m:=fun l=>by
  induction l with
  | nil=>intro m h;cases m with|nil=>rfl|cons _ _=>cases h
  | cons a l ih =>
   intro m h
   cases m with
   | nil=>cases h
   | cons b m =>
    simp only [List.map_cons,List.cons.injEq] at h
    rw [UInt8.toNat_inj.1 h.1,ih m h.2]
 exact key _ _ h
theorem ju (s:ByteArray):bytesI s=(nl s).map fun (n:Nat)=>(n:Int):=by simp [bytesI,nl,Function.comp_def]
def wdN (a b c d:Nat):Nat:=((a*16777216%4294967296 ||| (b*65536%4294967296)) ||| (c*256%4294967296)) ||| d
def fW (l:List Nat) (t:Nat):Nat:=wdN (l.getD (4*t) 0) (l.getD (4*t+1) 0) (l.getD (4*t+2) 0) (l.getD (4*t+3) 0)
theorem vv (s:ByteArray) (i j:Nat) (hj:j<4):byteAt (s.extract (4*(i:Int)).toNat (4*(i:Int)+4).toNat) j=(((nl s).getD (4*i+j) 0:Nat):Int):=by
 have h1:(4*(i:Int)).toNat=4*i:=by omega
 have h2:(4*(i:Int)+4).toNat=4*i+4:=by omega
 have h0:∀ (e:ByteArray) (k:Nat),byteAt e k=(((nl e).getD k 0:Nat):Int):=fun e k=>by
  simp only [byteAt,nl,List.getD_eq_getElem?_getD,List.getElem?_map]
  cases e.data.toList[k]?<;>rfl
 rw [h1,h2,h0,f0,show 4*i+4-4*i=4 by omega,List.getD_eq_getElem?_getD,List.getD_eq_getElem?_getD,List.getElem?_take,if_pos hj,List.getElem?_drop]
theorem gI {l:List Nat} (h:∀ x∈l,x<256) (i:Nat):l.getD i 0<256:=by
 rw [List.getD_eq_getElem?_getD]
 cases hx:l[i]? with
 | none=>decide
 | some x=>exact h x (List.mem_of_getElem? hx)
theorem zi (s:ByteArray) (i:Nat):IsN (wordV s i) (fW (nl s) i):=by
 have hb:∀ j,j<4→IsN (IntKind.u32.wrap (byteAt (s.extract (4*(i:Int)).toNat (4*(i:Int)+4).toNat) j)) ((nl s).getD (4*i+j) 0):=fun j hj=>by
  have h:=gI (jL s) (4*i+j)
  rw [vv s i j hj,wrap32,Nat.mod_eq_of_lt (by omega)]
  exact ⟨rfl,by omega⟩
 unfold wordV fW wdN
 exact ((((hb 0 ag).shl 16777216 ar).or ((hb 1 ag).shl 65536 ar)).or ((hb 2 ag).shl 256 ar)).or (hb 3 ag)
def rd1 {α:Type} (z:α) (l:List Nat) (k:Nat→List Nat→α):α:=match l with
 | a::b::c::d::r=>fc (wdN a b c d) fun w=>k w r
 | _=>z
theorem Cl {α:Type} {z:α} {l:List Nat} {k:Nat→List Nat→α} (h:4≤l.length):rd1 z l k=k (fW l 0) (l.drop 4):=by
 match l,h with
 | a::b::c::d::r,_=>rw [rd1,gN];rfl
def blkN {α:Type} (z:α) (l:List Nat) (k:W16→List Nat→α):α :=
 rd1 z l fun w0 l=>rd1 z l fun w1 l=>rd1 z l fun w2 l=>rd1 z l fun w3 l=>rd1 z l fun w4 l=>rd1 z l fun w5 l=>rd1 z l fun w6 l=>rd1 z l fun w7 l =>
 rd1 z l fun w8 l=>rd1 z l fun w9 l=>rd1 z l fun w10 l=>rd1 z l fun w11 l=>rd1 z l fun w12 l=>rd1 z l fun w13 l=>rd1 z l fun w14 l=>rd1 z l fun w15 l =>
 k ⟨w0,w1,w2,w3,w4,w5,w6,w7,w8,w9,w10,w11,w12,w13,w14,w15⟩ l
theorem Bq (l:List Nat) (m t:Nat):fW (l.drop (4*m)) t=fW l (m+t):=by
 have e:∀ j,(l.drop (4*m)).getD (4*t+j) 0=l.getD (4*(m+t)+j) 0:=fun j=>by
  rw [List.getD_eq_getElem?_getD,List.getD_eq_getElem?_getD,List.getElem?_drop,show 4*m+(4*t+j)=4*(m+t)+j by omega]
 have e0:=e 0
 simp only [Nat.add_zero] at e0
 rw [fW,fW,e0,e 1,e 2,e 3]
theorem Bw {α:Type} {z:α} {l:List Nat} {k:W16→List Nat→α} (h:64≤l.length):blkN z l k=k (winN (fW l) 0) (l.drop 64):=by
 have st:∀ (m:Nat) (k':Nat→List Nat→α),m<16→rd1 z (l.drop (4*m)) k'=k' (fW l m) (l.drop (4*(m+1))):=fun m k' hm=>by
  rw [Cl (by rw [List.length_drop];omega),Bq,List.drop_drop]
  rfl
 have h0:l=l.drop (4*0):=rfl
 unfold blkN
 rw [h0,st 0 _ ag,st 1 _ ag,st 2 _ ag,st 3 _ ag,st 4 _ ag,st 5 _ ag,st 6 _ ag,st 7 _ ag,st 8 _ ag,st 9 _ ag,st 10 _ ag,st 11 _ ag,st 12 _ ag,st 13 _ ag,st 14 _ ag,st 15 _ (by omega)]
 rfl
def runN:Nat→S8→List Nat→S8
 | 0,x,_=>x
 | f+1,x,l=>blkN x l fun w r=>runN f (mixN x w) r
theorem fx {f:Nat} {x:S8} {l:List Nat} (h:64≤l.length):runN (f+1) x l=runN f (mixN x (winN (fW l) 0)) (l.drop 64):=Bw h
theorem ti {l:List Nat} (t:Nat) (h:t<16):fW (l.take 64) t=fW l t:=by
 have e:∀ j,j<64→(l.take 64).getD j 0=l.getD j 0:=fun j hj=>by
  rw [List.getD_eq_getElem?_getD,List.getD_eq_getElem?_getD,List.getElem?_take,if_pos hj]
 rw [fW,fW,e _ ag,e _ ag,e _ ag,e _ (by omega)]
theorem RS.blk {x:St8} {n:S8} (h:RS x n) (r:ByteArray) (hr:64≤r.size):RS (mixV x (r.extract 0 64)) (mixN n (winN (fW (nl r)) 0)) :=
 h.mix fun t ht=>by
  have h1:=zi (r.extract 0 64) t
  rw [f0,List.drop_zero] at h1
  rwa [ti t ht] at h1
theorem nZ (r:ByteArray):nl (r.extract 64 r.size)=(nl r).drop 64:=by
 rw [f0,List.take_of_length_le (by rw [List.length_drop,cU];omega)]
theorem my (r:ByteArray) (h:64≤r.size):(r.extract 64 r.size).size=r.size-64:=by
 rw [←cU,nZ,List.length_drop,cU]
theorem m4:∀ (f:Nat) (x:St8) (n:S8) (r:ByteArray),RS x n→r.size/64≤f→RS (loopV f x r).1 (runN (r.size/64) n (nl r))∧nl (loopV f x r).2=(nl r).drop (64*(r.size/64))
 | 0,x,n,r,h,hf=>by
  have e:r.size/64=0:=by omega
  rw [e]
  exact ⟨h,rfl⟩
 | f+1,x,n,r,h,hf=>by
  by_cases hr:64≤r.size
  · have e:r.size/64=(r.size-64)/64+1:=by omega
    have hs:=my r hr
    have ih:=m4 f (mixV x (r.extract 0 64)) _ (r.extract 64 r.size) (h.blk r hr) (by rw [hs];omega)
    rw [hs,nZ] at ih
    have e2:loopV (f+1) x r=loopV f (mixV x (r.extract 0 64)) (r.extract 64 r.size):=by rw [loopV,decide_eq_true ag,cond_true]
    rw [e2,e,fx (by rw [cU];omega)]
    refine ⟨ih.1,?_⟩
    rw [ih.2,List.drop_drop]
    congr 1
    omega
  · have e:r.size/64=0:=by omega
    have e2:loopV (f+1) x r=(x,r):=by rw [loopV,decide_eq_false ag,cond_false]
    rw [e,e2]
    exact ⟨h,rfl⟩
theorem m5:∀ (f:Nat) (x:St8) (n:S8) (r:ByteArray),RS x n→r.size%64=0→r.size/64≤f→RS (loopE f x r) (runN (r.size/64) n (nl r))
 | 0,x,n,r,h,_,hf=>by
  have e:r.size/64=0:=by omega
  rw [e]
  exact h
 | f+1,x,n,r,h,hm,hf=>by
  by_cases hr:r.size=0
  · have e:r.size/64=0:=by omega
    have e2:loopE (f+1) x r=x:=by rw [loopE,da,decide_eq_true hr,cond_true]
    rw [e,e2]
    exact h
  · have hs:=my r ag
    have e:r.size/64=(r.size-64)/64+1:=by omega
    have ih:=m5 f (mixV x (r.extract 0 64)) _ (r.extract 64 r.size) (h.blk r ag) (by rw [hs];omega) (by rw [hs];omega)
    rw [hs,nZ] at ih
    have e2:loopE (f+1) x r=loopE f (mixV x (r.extract 0 64)) (r.extract 64 r.size):=by rw [loopE,da,decide_eq_false hr,cond_false]
    rw [e2,e,fx (by rw [cU];omega)]
    exact ih
theorem kw {f g:Nat→Nat} (h:∀ t,t<16→f t=g t):winN f 0=winN g 0:=by
 have e:∀ t,t<16→sN f 0 t=sN g 0 t:=fun t ht=>by rw [sN,sN];exact h t ht
 rw [winN,winN,W16.mk.injEq]
 exact ⟨e 0 ag,e 1 ag,e 2 ag,e 3 ag,e 4 ag,e 5 ag,e 6 ag,e 7 ag,e 8 ag,e 9 ag,e 10 ag,e 11 ag,e 12 ag,e 13 ag,e 14 ag,e 15 ag⟩
theorem vk {l e:List Nat} (h:64≤l.length) (t:Nat) (ht:t<16):fW (l++e) t=fW l t:=by
 have k:∀ j,j<64→(l++e).getD j 0=l.getD j 0:=fun j hj=>by
  rw [List.getD_eq_getElem?_getD,List.getD_eq_getElem?_getD,List.getElem?_append_left (by omega)]
 rw [fW,fW,k _ ag,k _ ag,k _ ag,k _ (by omega)]
theorem jA (h:Nat) (e:List Nat):∀ (g:Nat) (x:S8) (l:List Nat),64*g≤l.length→runN (g+h) x (l++e)=runN h (runN g x l) (l.drop (64*g)++e)
 | 0,x,l,_=>by
  rw [Nat.zero_add,Nat.mul_zero,List.drop_zero,runN]
 | g+1,x,l,hl=>by
  have ih:=jA h e g (mixN x (winN (fW l) 0)) (l.drop 64) (by rw [List.length_drop];omega)
  rw [show g+1+h=(g+h)+1 by omega,fx (by rw [List.length_append];omega),kw (fun t ht=>vk ag t ht),List.drop_append_of_le_length ag,ih,fx ag,List.drop_drop]
  congr 3
  omega
def sizeN (n:Nat):List Nat:=[n*8/72057594037927936%256,n*8/281474976710656%256,n*8/1099511627776%256,n*8/4294967296%256,n*8/16777216%256,n*8/65536%256,n*8/256%256,n*8%256]
def padL (l:List Nat):List Nat:=l++(128::(List.replicate (padN (l.length+1)) 0++sizeN l.length))
def iniN:S8:=⟨1779033703,3144134277,1013904242,2773480762,1359893119,2600822924,528734635,1541459225⟩
def d4N (w:Nat):List Nat:=[w/16777216%256,w/65536%256,w/256%256,w%256]
def digN (s:S8):List Nat:=match s with
 | ⟨a,b,c,d,e,f,g,h⟩=>d4N a++(d4N b++(d4N c++(d4N d++(d4N e++(d4N f++(d4N g++d4N h))))))
def shaL (l:List Nat):List Nat:=digN (runN ((padL l).length/64) iniN (padL l))
theorem wrap8 (n:Nat):IntKind.u8.wrap (n:Int)=((n%256:Nat):Int):=by
 simp [IntKind.wrap,IntKind.signed,IntKind.bits]
theorem fB (ns:List Nat) (h:∀ x∈ns,x<256):nl (ofInts (ns.map fun (n:Nat)=>(n:Int)))=ns:=by
 have key:∀ (ns:List Nat) (r:ByteArray),(∀ x∈ns,x<256)→nl ((ns.map fun (n:Nat)=>(n:Int)).foldl (fun r n=>r.push (UInt8.ofNat n.toNat)) r)=nl r++ns:=fun ns=>by
  induction ns with
  | nil=>intro r _;simp
  | cons a ns ih =>
   intro r h
   rw [List.map_cons,List.foldl_cons,ih _ fun x hx=>h x (List.mem_cons_of_mem _ hx)]
   have ha:=h a aU
   have:nl (r.push (UInt8.ofNat ((a:Int)).toNat))=nl r++[a]:=by
    simp [nl,ByteArray.data_push,Nat.mod_eq_of_lt ha]
   rw [this,List.append_assoc]
   rfl
 have:=key ns ByteArray.empty h
 simpa [ofInts,nl] using this
theorem fg {x:Int} {n:Nat} (h:IsN x n):digB x=(d4N n).map fun (n:Nat)=>(n:Int):=by
 have h24:=(h.shr (c:=24) 16777216 ar).1
 have h16:=(h.shr (c:=16) 65536 ar).1
 have h8:=(h.shr (c:=8) 256 ar).1
 unfold digB d4N
 rw [h24,h16,h8,h.1,wrap8,wrap8,wrap8,wrap8]
 rfl
theorem Dk (n:Nat):∀ x∈d4N n,x<256:=fun x hx=>by
 simp only [d4N,List.mem_cons,List.not_mem_nil,or_false] at hx
 rcases hx with rfl|rfl|rfl|rfl<;>exact Nat.mod_lt _ (by decide)
theorem CN {x:St8} {n:S8} (h:RS x n):nl (ofInts (x.l.flatMap digB))=digN n:=by
 obtain ⟨a,b,c,d,e,f,g,hh⟩:=n
 have e1:x.l.flatMap digB=(digN ⟨a,b,c,d,e,f,g,hh⟩).map fun (n:Nat)=>(n:Int):=by
  simp only [St8.l,digN,List.flatMap_cons,List.flatMap_nil,List.append_nil,List.map_append,fg h.a,fg h.b,fg h.c,fg h.d,fg h.e,fg h.f,fg h.g,fg h.h]
 rw [e1]
 refine fB _ fun x hx=>?_
 simp only [digN,List.mem_append] at hx
 rcases hx with h|h|h|h|h|h|h|h<;>exact Dk _ _ h
theorem oP (n:Nat) (hn:n<2305843009213693952):sizeB (n:Int) 8=(sizeN n).map fun (n:Nat)=>(n:Int):=by
 have hw:∀ m:Nat,m<18446744073709551616→IntKind.u64.wrap (m:Int)=(m:Int):=fun m hm=>by
  simp [IntKind.wrap,IntKind.signed,IntKind.bits]
  omega
 have h1:IntKind.u64.wrap (IntKind.u64.wrap (n:Int)*8)=((n*8:Nat):Int):=by
  rw [hw n ag,show (n:Int)*8=((n*8:Nat):Int) by omega,hw _ (by omega)]
 have hs:∀ (c:Int) (p:Nat),(2:Int) ^ (min c.toNat 64)=(p:Int)→shrV .u64 ((n*8:Nat):Int) c=((n*8/p:Nat):Int):=fun c p hp=>by
  show ((n*8:Nat):Int).fdiv (2 ^ (min c.toNat 64))=_
  rw [hp,←Int.ofNat_fdiv]
 unfold sizeB sizeN
 rw [h1,show List.range 8=[0,1,2,3,4,5,6,7] by rfl]
 simp only [List.map_cons,List.map_nil]
 rw [hs _ 72057594037927936 ar,hs _ 281474976710656 ar,hs _ 1099511627776 ar,hs _ 4294967296 ar,hs _ 16777216 ar,hs _ 65536 ar,hs _ 256 ar,hs _ 1 ar,Nat.div_one]
 simp only [wrap8]
theorem CM (s:ByteArray) (n:Nat) (hn:n<2305843009213693952):nl (endV s (n:Int))=nl s++(128::(List.replicate (padN (s.size+1)) 0++sizeN n)):=by
 have e:endL s++List.replicate (padN (s.size+1)) 0++sizeB (n:Int) 8=(nl s++(128::(List.replicate (padN (s.size+1)) 0++sizeN n))).map fun (n:Nat)=>(n:Int):=by
  rw [endL,ju,oP n hn]
  simp
 rw [endV,e]
 refine fB _ fun x hx=>?_
 simp only [List.mem_append,List.mem_cons,List.mem_replicate] at hx
 rcases hx with h|h|h|h
 · exact jL s x h
 · omega
 · omega
 · simp only [sizeN,List.mem_cons,List.not_mem_nil,or_false] at h
   rcases h with rfl|rfl|rfl|rfl|rfl|rfl|rfl|rfl<;>exact Nat.mod_lt _ (by decide)
theorem nN (s:ByteArray) (hs:s.size<2305843009213693952):nl (shaV s)=shaL (nl s):=by
 have hi:RS iniS iniN:=⟨⟨rfl,by decide⟩,⟨rfl,by decide⟩,⟨rfl,by decide⟩,⟨rfl,by decide⟩,⟨rfl,by decide⟩,⟨rfl,by decide⟩,⟨rfl,by decide⟩,⟨rfl,by decide⟩⟩
 obtain ⟨h1,h2⟩:=m4 s.size iniS iniN s hi (Nat.div_le_self _ _)
 have h3:shaV s=ofInts ((loopE (endV (loopV s.size iniS s).2 s.size).size (loopV s.size iniS s).1 (endV (loopV s.size iniS s).2 s.size)).l.flatMap digB):=rfl
 rw [h3]
 generalize loopV s.size iniS s=p at h1 h2
 have he:=CM p.2 s.size hs
 have hps:p.2.size=s.size%64:=by
  rw [←cU,h2,List.length_drop,cU]
  omega
 have hlen:(endV p.2 s.size).size%64=0:=ng _ _
 have h4:=m5 (endV p.2 s.size).size p.1 _ (endV p.2 s.size) h1 hlen (Nat.div_le_self _ _)
 rw [CN h4,shaL]
 congr 1
 have hpad:padN (p.2.size+1)=padN ((nl s).length+1):=by
  rw [hps,cU,padN,padN]
  omega
 have hpl:padL (nl s)=nl s++(128::(List.replicate (padN ((nl s).length+1)) 0++sizeN s.size)):=by rw [padL,cU]
 have hll:(padL (nl s)).length/64=s.size/64+(endV p.2 s.size).size/64:=by
  have e1:(endV p.2 s.size).size=(s.size%64)+1+padN ((nl s).length+1)+8:=by
   rw [←cU,he,h2,hpad]
   simp only [List.length_append,List.length_cons,List.length_replicate,List.length_drop,cU,sizeN,List.length_nil]
   omega
  have e2:(padL (nl s)).length=s.size+1+padN ((nl s).length+1)+8:=by
   rw [hpl]
   simp only [List.length_append,List.length_cons,List.length_replicate,cU,sizeN,List.length_nil]
   omega
  rw [e1,e2]
  rw [e1] at hlen
  omega
 rw [hll,hpl,jA _ _ _ _ _ (by rw [cU];omega),he,h2,hpad]
def u32n (l:List Nat):List Value:=l.map fun (n:Nat)=>.int .u32 (n:Int)
def U32s (w:World) (s:SlV) (l:List Nat):Prop:=RowsD w 1 s (l.map fun (n:Nat)=>[.int .u32 (n:Int)])
def U8s (w:World) (s:SlV) (l:List Nat):Prop:=RowsD w 1 s (l.map fun (n:Nat)=>[.int .u8 (n:Int)])
theorem oF (l:List Nat):(u32n l).length=l.length:=by simp [u32n]
theorem oG {l:List Nat} {i:Nat} (h:i<l.length):(u32n l)[i]?=some (.int .u32 ((l.getD i 0:Nat):Int)):=by simp [u32n,h]
theorem ir {w:World} {s:SlV} {l:List Nat} {f:Nat→Value} (h:RowsD w 1 s (l.map fun n=>[f n])) {i:Nat} (hi:i<l.length):CellAt w s.p i (f (l.getD i 0)):=by
 obtain ⟨_,_,hc⟩:=RowsD.row h i [f (l.getD i 0)] (by rw [List.getElem?_map,List.getElem?_eq_getElem hi,List.getD_eq_getElem?_getD,List.getElem?_eq_getElem hi];rfl)
 have:=hc 0 _ rfl
 rwa [Nat.mul_one,Nat.add_zero] at this
theorem gG {w:World} {s:SlV} {l:List Nat} {f:Nat→Value} (h:RowsD w 1 s (l.map fun n=>[f n])):s.n=l.length:=by have:=RowsD.len h;simpa using this
theorem fy {w:World} {s:SlV} {l:List Nat} {f:Nat→Value} (h:RowsD w 1 s (l.map fun n=>[f n])) (h0:0<l.length):s.p.isSome=true:=(RowsD.row h 0 [f l[0]] (by rw [List.getElem?_map,List.getElem?_eq_getElem h0];rfl)).2.1
theorem U32s.of_row {w:World} {e n c:Nat} {A:Option Addr} {l:List Nat} (h:ORow w e 1 (.slice A n c) n (u32n l)) (hn:n=l.length):U32s w ⟨A,n,c⟩ l:=by
 have e1:(l.map fun (n:Nat)=>[(.int .u32 (n:Int):Value)]).flatten=u32n l:=by
  clear h hn
  induction l with
  | nil=>rfl
  | cons a l ih=>rw [List.map_cons,List.flatten_cons,ih];rfl
 rw [←e1] at h
 exact bJ h (by rw [List.length_map,hn]) fun r hr=>by
  obtain ⟨n,_,rfl⟩:=List.mem_map.1 hr
  rfl
theorem iY {n:Nat} (h:n<4294967296):IntKind.u32.wrap (n:Int)=(n:Int):=by rw [wrap32,Nat.mod_eq_of_lt h]
section
variable {P:Program} {N:Nat} {av bor:List Nat} {w0:World} {st:St} {ty:TypeId} {x y:Operand} {t t2:TypeId} {a b:Nat}
theorem qg (hx:ev st.env x=some (.int .u32 (a:Int))) (hy:ev st.env y=some (.int .u32 (b:Int))) (hc:a*b<4294967296):Sy.Yields P N av bor w0 st (.binOp .mul t x y t2) ty (.int .u32 ((a*b:Nat):Int)) :=
 vF hx hy (by rw [←Int.natCast_mul];exact iY hc)
theorem ko (hx:ev st.env x=some (.int .i64 (a:Int))) (hy:ev st.env y=some (.int .i64 (b:Int))) (hc:a*b<9223372036854775808):Sy.Yields P N av bor w0 st (.binOp .mul t x y t2) ty (.int .i64 ((a*b:Nat):Int)) :=
 vF hx hy (by rw [←Int.natCast_mul];exact IntWalk.i64_in _ ag)
theorem qm (hx:ev st.env x=some (.int .u32 (a:Int))) (hy:ev st.env y=some (.int .u32 (b:Int))) (hc:a+b<4294967296):Sy.Yields P N av bor w0 st (.binOp .add t x y t2) ty (.int .u32 ((a+b:Nat):Int)) :=
 mq hx hy (by rw [←Int.natCast_add];exact iY hc)
theorem d8 (hx:ev st.env x=some (.int .u32 (a:Int))) (hy:ev st.env y=some (.int .u32 (b:Int))):Sy.Yields P N av bor w0 st (.binOp .add t x y t2) ty (.int .u32 (((a+b)%4294967296:Nat):Int)) :=
 mq hx hy (by rw [←Int.natCast_add,wrap32])
theorem gg (hx:ev st.env x=some (.int .u32 (a:Int))) (hy:ev st.env y=some (.int .u32 (b:Int))) (ha:a<4294967296) (hb:b<4294967296):Sy.Yields P N av bor w0 st (.binOp .xor t x y t2) ty (.int .u32 ((a ^^^ b:Nat):Int)) :=
 (IsN.xor (x:=(a:Int)) (y:=(b:Int)) ⟨rfl,ha⟩ ⟨rfl,hb⟩).1▸rG hx hy
theorem kr (hx:ev st.env x=some (.int .u32 (a:Int))) (hy:ev st.env y=some (.int .u32 (b:Int))) (ha:a<4294967296) (hb:b<4294967296):Sy.Yields P N av bor w0 st (.binOp .and t x y t2) ty (.int .u32 ((a &&& b:Nat):Int)) :=
 (IsN.and (x:=(a:Int)) (y:=(b:Int)) ⟨rfl,ha⟩ ⟨rfl,hb⟩).1▸rO hx hy
theorem qf {k':IntKind} {c:Int} {p:Nat} (hx:ev st.env x=some (.int .u32 (a:Int))) (hy:ev st.env y=some (.int k' c)) (hc:0≤c) (ha:a<4294967296) (hp:(2:Int) ^ (min c.toNat 32)=(p:Int)):Sy.Yields P N av bor w0 st (.binOp .shr t x y t2) ty (.int .u32 ((a/p:Nat):Int)) :=
 (IsN.shr (x:=(a:Int)) ⟨rfl,ha⟩ p hp).1▸rH hx hy hc
theorem BV (hx:ev st.env x=some (.int .u32 (a:Int))) (ha:a<4294967296):Sy.Yields P N av bor w0 st (.unOp .xor t x) ty (.int .u32 ((4294967295 ^^^ a:Nat):Int)):=by
 have hm:IsN (if IntKind.u32.signed then -1 else IntKind.u32.max) 4294967295:=⟨by kernel_rfl,by decide⟩
 exact (hm.xor (y:=(a:Int)) ⟨rfl,ha⟩).1▸qc hx
end
theorem zq {w:World} {s:SlV} {l:List Nat} (h:U32s w s l):Src Tryz.prog w 1 s.v s.n (u32n l):=by
 have e1:(l.map fun (n:Nat)=>[(.int .u32 (n:Int):Value)]).flatten=u32n l:=by
  clear h
  induction l with
  | nil=>rfl
  | cons a l ih=>rw [List.map_cons,List.flatten_cons,ih];rfl
 have h1:=dJ (P:=Tryz.prog) (s:=s) h fun cs hcs=>by
  obtain ⟨n,_,rfl⟩:=List.mem_map.1 hcs
  rfl
 rwa [e1] at h1
theorem vW (l:List Nat) {i v:Nat} (h:i<l.length):(u32n l).take (i*1)++[.int .u32 (v:Int)]++(u32n l).drop (i*1+1)=u32n (l.set i v):=by
 rw [Nat.mul_one,u32n,u32n,List.map_set,List.set_eq_take_append_cons_drop,if_pos (by rw [List.length_map];exact h)]
 simp
theorem B5 {m n:Nat} (hm:m<4294967296) (h0:0<n) (hn:n<32):bitsV .or .u32 (shrV .u32 (m:Int) (n:Int)) (shlV .u32 (m:Int) (32-(n:Int)))=((rot (2 ^ (32-n)) (2 ^ n) m:Nat):Int):=by
 have hw:32-(n:Int)=((32-n:Nat):Int):=by omega
 rw [hw]
 have h1:IsN (m:Int) m:=⟨rfl,hm⟩
 have h2:=(h1.shr (c:=(n:Int)) (2 ^ n) (by rw [Int.toNat_natCast,Nat.min_eq_left (by omega)];simp)).or (h1.shl (c:=((32-n:Nat):Int)) (2 ^ (32-n)) (by rw [Int.toNat_natCast,Nat.min_eq_left (by omega)];simp))
 rw [h2.1,rot,Nat.or_comm]
theorem fj {m n:Nat} (hm:m<4294967296) (h0:0<n) (hn:n<32):rot (2 ^ (32-n)) (2 ^ n) m<4294967296:=by
 have h1:IsN (m:Int) m:=⟨rfl,hm⟩
 have h2:=(h1.shl (c:=((32-n:Nat):Int)) (2 ^ (32-n)) (by rw [Int.toNat_natCast,Nat.min_eq_left (by omega)];simp)).or (h1.shr (c:=(n:Int)) (2 ^ n) (by rw [Int.toNat_natCast,Nat.min_eq_left (by omega)];simp))
 exact h2.2
theorem dm (m n:Nat) (hm:m<4294967296) (h0:0<n) (hn:n<32):Pu Tryz.prog 290 #[.int .u32 (m:Int),.int .i64 (n:Int)] (fun _=>True) (.int .u32 ((rot (2 ^ (32-n)) (2 ^ n) m:Nat):Int)):=by
 refine aN (args:=[_,_]) _ Tryz.func290 rfl Tryz.ntmps290 rfl fun av bor w0=>?_
 rw [←B5 hm h0 hn]
 repeat' (first|apply ab|apply aj|apply ai|refine ac ?_|fail)
 (apply ci;kernel_rfl)
 all_goals refine aa 0 ?_
 all_goals refine aa 1 ?_
 all_goals refine aa 2 ?_
 all_goals refine aa 3 ?_
 all_goals refine aa 4 ?_
 all_goals refine aa 5 ?_
 all_goals refine aa 6 ?_
 all_goals refine aa 7 ?_
 all_goals refine aa 8 ?_
 all_goals (refine aI ?_)
 repeat' (first|apply aA|fail)
 all_goals exact aq (aB rfl rfl) rfl
theorem vO {a b c d:Nat} (ha:a<256) (hb:b<256) (hc:c<256) (hd:d<256):wdN a b c d=a*16777216+b*65536+c*256+d:=by
 rw [wdN,Nat.mod_eq_of_lt (show a*16777216<4294967296 by omega),Nat.mod_eq_of_lt (show b*65536<4294967296 by omega),Nat.mod_eq_of_lt (show c*256<4294967296 by omega)]
 have h1:a*16777216 ||| b*65536=a*16777216+b*65536:=by
  have:=Nat.two_pow_add_eq_or_of_lt (i:=24) (b:=b*65536) ag a
  rw [show a*16777216=2 ^ 24*a from by omega]
  exact this.symm
 have h2:(a*16777216+b*65536) ||| c*256=a*16777216+b*65536+c*256:=by
  have:=Nat.two_pow_add_eq_or_of_lt (i:=16) (b:=c*256) ag (a*256+b)
  rw [show a*16777216+b*65536=2 ^ 16*(a*256+b) from by omega]
  exact this.symm
 have h3:(a*16777216+b*65536+c*256) ||| d=a*16777216+b*65536+c*256+d:=by
  have:=Nat.two_pow_add_eq_or_of_lt (i:=8) (b:=d) ag (a*65536+b*256+c)
  rw [show a*16777216+b*65536+c*256=2 ^ 8*(a*65536+b*256+c) from by omega]
  exact this.symm
 rw [h1,h2,h3]
def row1 (l:List Nat) (k:Nat):List Nat:=(List.range k).map (fW l)
def row2 (l:List Nat) (k:Nat):List Nat:=(List.range (16+k)).map (sN (fW l) k)
theorem uQ (l:List Nat) (k:Nat):row1 l (k+1)=row1 l k++[fW l k]:=by rw [row1,row1,List.range_succ,List.map_append];rfl
theorem uO (l:List Nat):row2 l 0=row1 l 16:=rfl
theorem oV (l:List Nat) {k t:Nat} (h:t<16+k):(row2 l k).getD t 0=sN (fW l) k t:=by
 rw [row2,List.getD_eq_getElem?_getD,List.getElem?_map,List.getElem?_range h]
 rfl
theorem uP (l:List Nat) (k:Nat):row2 l (k+1)=row2 l k++[nextW (sN (fW l) k k) (sN (fW l) k (k+1)) (sN (fW l) k (k+9)) (sN (fW l) k (k+14))]:=by
 rw [row2,row2,show 16+(k+1)=(16+k)+1 from by omega,List.range_succ,List.map_append,List.map_cons,List.map_nil,qA]
 congr 1
 refine List.map_congr_left fun t ht=>?_
 exact nP _ (by rw [List.mem_range] at ht;omega)
theorem iu (l:List Nat) (k:Nat):(row2 l k).length=16+k:=by simp [row2]
theorem Dj {l:List Nat} (h:∀ x∈l,x<256) (t:Nat):fW l t<4294967296:=by
 have g:=fun i=>gI h i
 rw [fW,vO (g _) (g _) (g _) (g _)]
 have g0:=g (4*t)
 have g1:=g (4*t+1)
 have g2:=g (4*t+2)
 have g3:=g (4*t+3)
 omega
theorem BC (f:Nat→Nat) (h:∀ t,f t<4294967296):∀ k t,sN f k t<4294967296
 | 0,t=>h t
 | k+1,t=>by
  rw [sN]
  split
  · exact Nat.mod_lt _ ag
  · exact BC f h k t
structure RowU (n:Nat) where
 k:Nat
 hk:k≤n
 A:Option Addr
 c:Nat
set_option maxRecDepth 20000 in
set_option maxHeartbeats 4000000 in
theorem pp (s:SlV) (l:List Nat) (hl:l.length=64) (hb:∀ x∈l,x<256):Mk Tryz.prog 288 #[s.v] (fun w=>U8s w s l) (fun u X'=>∃ s':SlV,u=s'.v∧∀ w,X' w→U32s w s' (row2 l 48)):=by
 refine bL (args:=[_]) _ Tryz.func288 rfl Tryz.ntmps288 rfl fun av bor w0=>?_
 refine bt (p:=s.n=64∧s.p.isSome=true) (fun w h=>⟨by rw [gG (f:=fun n=>.int .u8 (n:Int)) h,hl],fy (f:=fun n=>.int .u8 (n:Int)) h ag⟩) fun ⟨hsn,hsp⟩=>?_
 have hg:∀ i,l.getD i 0<256:=fun i=>gI hb i
 repeat' (first|apply ab|apply aj|apply ai|refine ac ?_|apply aw|fail)
 refine cf 148 1 ?_
 refine be (ι:=RowU 16) (fun i=>⟨[(0,s.v),(3,.slice i.A i.k i.c),(4,.int .i64 (i.k:Nat))],[orow 148 1 (.slice i.A i.k i.c) i.k (u32n (row1 l i.k))],fun w=>U8s w s l⟩) (fun i=>16-i.k) ⟨0,by omega,none,0⟩ (aF ⟨rfl,rfl,rfl,trivial⟩ (.cons_cons _ (List.nil_sublist _)) fun _ h=>h) fun i=>?_
 obtain ⟨k,hk,A,c⟩:=i
 simp only
 repeat' (first|apply ab|apply aj|apply ai|refine ae ?_|refine ac ?_|refine bu ?_|apply ay|apply aw|apply aV|(refine aO (ht:=?_) (hf:=?_);all_goals (intro hx_;first|have:=aY hx_|have:=aZ hx_)))
 · have hlt:k<16:=by omega
   have g0:=hg (4*k)
   have g1:=hg (4*k+1)
   have g2:=hg (4*k+2)
   have g3:=hg (4*k+3)
   have hfw:fW l k=l.getD (4*k) 0*16777216+l.getD (4*k+1) 0*65536+l.getD (4*k+2) 0*256+l.getD (4*k+3) 0:=vO g0 g1 g2 g3
   obtain ⟨b0,e0⟩:∃ b,b=l.getD (4*k) 0:=⟨_,rfl⟩
   obtain ⟨b1,e1⟩:∃ b,b=l.getD (4*k+1) 0:=⟨_,rfl⟩
   obtain ⟨b2,e2⟩:∃ b,b=l.getD (4*k+2) 0:=⟨_,rfl⟩
   obtain ⟨b3,e3⟩:∃ b,b=l.getD (4*k+3) 0:=⟨_,rfl⟩
   rw [←e0] at g0 hfw
   rw [←e1] at g1 hfw
   rw [←e2] at g2 hfw
   rw [←e3] at g3 hfw
   have hget:∀ w,U8s w s l→∀ i,i<64→CellAt w s.p i (.int .u8 ((l.getD i 0:Nat):Int)):=fun w h i hi=>ir (f:=fun n=>.int .u8 (n:Int)) h ag
   (refine bo [] (fun w=>U8s w s l) ar ?_)
   all_goals refine aa 0 ?_
   all_goals refine aa 1 ?_
   all_goals refine aa 2 ?_
   all_goals (refine aa 3 (hy:=by (apply ko (a:=4) (b:=k);rfl;rfl;omega)) ?_)
   all_goals (refine aa 4 (hy:=by (apply bp (q:=4*k);rfl;rfl;omega;omega;assumption;omega)) ?_)
   all_goals (refine aa 5 (hy:=by (apply cC (q:=4*k) (u:=.int .u8 (b0:Int));rfl;exact fun w h=>e0▸hget w h (4*k) ag)) ?_)
   all_goals (refine aa 6 (hy:=by (apply jw;rfl;exact iY ag)) ?_)
   all_goals (refine aa 7 (hy:=by (apply qg (b:=16777216);rfl;rfl;omega)) ?_)
   all_goals refine aa 8 ?_
   all_goals refine aa 9 ?_
   all_goals (refine aa 10 (hy:=by (apply ko (a:=4) (b:=k);rfl;rfl;omega)) ?_)
   all_goals refine aa 11 ?_
   all_goals (refine aa 12 (hy:=by (apply bp (q:=4*k+1);rfl;rfl;omega;omega;assumption;omega)) ?_)
   all_goals (refine aa 13 (hy:=by (apply cC (q:=4*k+1) (u:=.int .u8 (b1:Int));rfl;exact fun w h=>e1▸hget w h (4*k+1) ag)) ?_)
   all_goals (refine aa 14 (hy:=by (apply jw;rfl;exact iY ag)) ?_)
   all_goals (refine aa 15 (hy:=by (apply qg (b:=65536);rfl;rfl;omega)) ?_)
   all_goals (refine aa 16 (hy:=by (apply qm;rfl;rfl;omega)) ?_)
   all_goals refine aa 17 ?_
   all_goals refine aa 18 ?_
   all_goals (refine aa 19 (hy:=by (apply ko (a:=4) (b:=k);rfl;rfl;omega)) ?_)
   all_goals refine aa 20 ?_
   all_goals (refine aa 21 (hy:=by (apply bp (q:=4*k+2);rfl;rfl;omega;omega;assumption;omega)) ?_)
   all_goals (refine aa 22 (hy:=by (apply cC (q:=4*k+2) (u:=.int .u8 (b2:Int));rfl;exact fun w h=>e2▸hget w h (4*k+2) ag)) ?_)
   all_goals (refine aa 23 (hy:=by (apply jw;rfl;exact iY ag)) ?_)
   all_goals (refine aa 24 (hy:=by (apply qg (b:=256);rfl;rfl;omega)) ?_)
   all_goals (refine aa 25 (hy:=by (apply qm;rfl;rfl;omega)) ?_)
   all_goals refine aa 26 ?_
   all_goals refine aa 27 ?_
   all_goals (refine aa 28 (hy:=by (apply ko (a:=4) (b:=k);rfl;rfl;omega)) ?_)
   all_goals refine aa 29 ?_
   all_goals (refine aa 30 (hy:=by (apply bp (q:=4*k+3);rfl;rfl;omega;omega;assumption;omega)) ?_)
   all_goals (refine aa 31 (hy:=by (apply cC (q:=4*k+3) (u:=.int .u8 (b3:Int));rfl;exact fun w h=>e3▸hget w h (4*k+3) ag)) ?_)
   all_goals (refine aa 32 (hy:=by (apply jw;rfl;exact iY ag)) ?_)
   all_goals (refine aa 33 (hy:=by (apply qm;rfl;rfl;omega)) ?_)
   all_goals (refine ao 34 ?_;(refine ca (vs:=[.int .u32 ((b0*16777216+b1*65536+b2*256+b3:Nat):Int)]) fun _=>?_);apply ab;refine ak ?_)
   all_goals (refine ao 35 ?_;(refine aS (size:=1) (news:=u32n [b0*16777216+b1*65536+b2*256+b3]) (q:=1) rfl rfl rfl rfl (fun _=>At.there _ (At.here _)) (fun w G=>bq G aU rfl rfl 1) ag (by simp only [maxLen];omega) rfl ?_ rfl ?_;(with_reducible rfl);intro A2 c2);apply ab;refine ak ?_)
   all_goals refine aa 36 ?_
   all_goals (refine aI ?_)
   have hrow:=uQ l k
   rw [hfw] at hrow
   repeat' (first|apply ab|apply ai|refine ae ?_|refine ac ?_|refine bm (h:=?_)|fail)
   exact ⟨(⟨k+1,hlt,A2,c2⟩:RowU 16),(by show 16-(k+1)<16-k;omega),aF ⟨rfl,rfl,rfl,trivial⟩ (by rw [hrow,u32n,List.map_append];exact .cons _ (aQ _)) fun _ h=>h⟩
 · obtain rfl:k=16:=by omega
   rw [←uO]
   refine be (ι:=RowU 48) (fun i=>⟨[(3,.slice i.A (16+i.k) i.c),(5,.int .i64 ((16+i.k:Nat):Int))],[orow 148 1 (.slice i.A (16+i.k) i.c) (16+i.k) (u32n (row2 l i.k))],fun w=>True⟩) (fun i=>48-i.k) ⟨0,by omega,A,c⟩ (aF ⟨rfl,rfl,trivial⟩ (aQ _) fun _ h=>trivial) fun i=>?_
   obtain ⟨k,hk,A,c⟩:=i
   simp only
   refine de aU (fun w h=>cR h ag) fun hAs=>?_
   repeat' (first|apply ab|apply aj|apply ai|refine ae ?_|refine ac ?_|refine bu ?_|refine cJ (h:=?_)|apply ay|apply aw|apply aA|apply aV|(refine aO (ht:=?_) (hf:=?_);all_goals (intro hx_;first|have:=aY hx_|have:=aZ hx_)))
   · have hlt:k<48:=by omega
     have hm:∀ t,sN (fW l) k t<4294967296:=BC _ (Dj hb) k
     have hA:∀ t,t<16+k→(u32n (row2 l k))[t]?=some (.int .u32 ((sN (fW l) k t:Nat):Int)):=fun t h=>by rw [oG (by rw [iu];exact h),oV l h]
     have hn:16+k=(u32n (row2 l k)).length:=by rw [oF,iu]
     have hg0:=hA k ag
     have hg1:=hA (k+1) ag
     have hg9:=hA (k+9) ag
     have hg14:=hA (k+14) ag
     have hnx:nextW (sN (fW l) k k) (sN (fW l) k (k+1)) (sN (fW l) k (k+9)) (sN (fW l) k (k+14))=(((sN (fW l) k k+s0N (sN (fW l) k (k+1)))%4294967296+sN (fW l) k (k+9))%4294967296+s1N (sN (fW l) k (k+14)))%4294967296:=rfl
     have hrow:=uP l k
     rw [hnx] at hrow
     have m1:=hm (k+1)
     have m14:=hm (k+14)
     obtain ⟨x0,e0⟩:∃ x,x=sN (fW l) k k:=⟨_,rfl⟩
     obtain ⟨x1,e1⟩:∃ x,x=sN (fW l) k (k+1):=⟨_,rfl⟩
     obtain ⟨x9,e9⟩:∃ x,x=sN (fW l) k (k+9):=⟨_,rfl⟩
     obtain ⟨x14,e14⟩:∃ x,x=sN (fW l) k (k+14):=⟨_,rfl⟩
     rw [←e0] at hg0 hrow
     rw [←e1] at hg1 m1 hrow
     rw [←e9] at hg9 hrow
     rw [←e14] at hg14 m14 hrow
     clear hA hm hnx
     have t7:=dm x1 7 m1 ag ag
     have t18:=dm x1 18 m1 ag ag
     have t17:=dm x14 17 m14 ag ag
     have t19:=dm x14 19 m14 ag ag
     have l7:=fj (n:=7) m1 ag ag
     have l18:=fj (n:=18) m1 ag ag
     have l17:=fj (n:=17) m14 ag ag
     have l19:=fj (n:=19) m14 ag ag
     have hs0:s0N x1=(rot (2 ^ (32-7)) (2 ^ 7) x1 ^^^ rot (2 ^ (32-18)) (2 ^ 18) x1) ^^^ (x1/8):=rfl
     have hs1:s1N x14=(rot (2 ^ (32-17)) (2 ^ 17) x14 ^^^ rot (2 ^ (32-19)) (2 ^ 19) x14) ^^^ (x14/1024):=rfl
     rw [hs0,hs1] at hrow
     clear hs0 hs1
     generalize rot (2 ^ (32-7)) (2 ^ 7) x1=r7 at *
     generalize rot (2 ^ (32-18)) (2 ^ 18) x1=r18 at *
     generalize rot (2 ^ (32-17)) (2 ^ 17) x14=r17 at *
     generalize rot (2 ^ (32-19)) (2 ^ 19) x14=r19 at *
     have lx:=Nat.xor_lt_two_pow (n:=32) l7 l18
     have ly:=Nat.xor_lt_two_pow (n:=32) l17 l19
     have d3:x1/8<4294967296:=by omega
     have d10:x14/1024<4294967296:=by omega
     repeat' (first|refine ax (gg rfl rfl (by assumption) (by assumption)) rfl aR rfl ?_|refine ax (qf (p:=8) rfl rfl (by decide) (by assumption) (by decide)) rfl aR rfl ?_|refine ax (qf (p:=1024) rfl rfl (by decide) (by assumption) (by decide)) rfl aR rfl ?_|apply ab|apply aj|apply ai|refine ae ?_|refine ac ?_|refine cJ (h:=?_)|(refine bf (q:=k+1) ?_)|(refine bf (q:=k+14) ?_)|(refine ax (cY rfl aU hn hg1) rfl aR rfl ?_)|(refine ax (cY rfl aU hn hg14) rfl aR rfl ?_)|(refine aC (hc:=t7) (hX:=fun _ _=>trivial) ?_)|(refine aC (hc:=t18) (hX:=fun _ _=>trivial) ?_)|(refine aC (hc:=t17) (hX:=fun _ _=>trivial) ?_)|(refine aC (hc:=t19) (hX:=fun _ _=>trivial) ?_)|fail)
     obtain ⟨v,hv⟩:∃ v,v=((((x0+(r7 ^^^ r18 ^^^ x1/8))%4294967296+x9)%4294967296+(r17 ^^^ r19 ^^^ x14/1024))%4294967296):=⟨_,rfl⟩
     rw [←hv] at hrow
     (refine bo [] (fun w=>True) ar ?_)
     all_goals refine aa 0 ?_
     all_goals refine aa 1 ?_
     all_goals refine aa 2 ?_
     all_goals refine aa 3 ?_
     all_goals (refine aa 4 (hy:=by (apply bp (q:=k);rfl;rfl;omega;omega;assumption;omega)) ?_)
     all_goals refine aa 6 ?_
     all_goals refine aa 8 ?_
     all_goals refine aa 9 ?_
     all_goals refine aa 10 ?_
     all_goals (refine aa 11 (hy:=by (apply bp (q:=k+9);rfl;rfl;omega;omega;assumption;omega)) ?_)
     all_goals refine aa 14 ?_
     all_goals (refine bS 5 12 (h:=?_) (h':=?_);(focus (((refine ax (cY rfl aU hn hg0) rfl aR rfl ?_);apply ab;refine ak ?_);all_goals ((refine aa 7 (hy:=by (apply d8;rfl;rfl)) ?_);all_goals (refine ao 12 ?_;(refine ax (cY rfl aU hn hg9) rfl aR rfl ?_);apply ab;refine ak ?_);all_goals (refine aa 13 (hy:=by (apply d8;rfl;rfl)) ?_);all_goals (refine aa 15 (hy:=by (apply d8;rfl;rfl)) ?_);all_goals (refine ao 16 ?_;(rw [←hv];refine ca (vs:=[.int .u32 (v:Int)]) fun _=>?_);apply ab;refine ak ?_);all_goals (refine ao 17 ?_;(refine aS (size:=1) (news:=u32n [v]) (q:=1) rfl rfl rfl rfl (fun _=>At.there _ (At.here _)) (fun w G=>bq G aU rfl rfl 1) ag (by simp only [maxLen];omega) rfl ?_ rfl ?_;(with_reducible rfl);intro A2 c2);apply ab;refine ak ?_);all_goals (refine aa 18 ?_);all_goals (refine aI ?_))));rotate_right;(focus (((refine ax (cY rfl aU hn hg9) rfl aR rfl ?_);apply ab;refine ak ?_);all_goals ((refine ao 5 ?_;(refine ax (cY rfl aU hn hg0) rfl aR rfl ?_);apply ab;refine ak ?_);all_goals (refine aa 7 (hy:=by (apply d8;rfl;rfl)) ?_);all_goals (refine aa 13 (hy:=by (apply d8;rfl;rfl)) ?_);all_goals (refine aa 15 (hy:=by (apply d8;rfl;rfl)) ?_);all_goals (refine ao 16 ?_;(rw [←hv];refine ca (vs:=[.int .u32 (v:Int)]) fun _=>?_);apply ab;refine ak ?_);all_goals (refine ao 17 ?_;(refine aS (size:=1) (news:=u32n [v]) (q:=1) rfl rfl rfl rfl (fun _=>At.there _ (At.here _)) (fun w G=>bq G aU rfl rfl 1) ag (by simp only [maxLen];omega) rfl ?_ rfl ?_;(with_reducible rfl);intro A2 c2);apply ab;refine ak ?_);all_goals (refine aa 18 ?_);all_goals (refine aI ?_)))))
     all_goals
      repeat' (first|apply ab|apply ai|refine ae ?_|refine ac ?_|refine bm (h:=?_)|fail)
      exact ⟨(⟨k+1,hlt,A2,c2⟩:RowU 48),(by show 48-(k+1)<48-k;omega),aF ⟨rfl,rfl,trivial⟩ (by rw [hrow,u32n,List.map_append];exact .cons _ (aQ _)) fun _ h=>h⟩
   · obtain rfl:k=48:=by omega
     exact aq (aB rfl rfl) ⟨⟨A,64,c⟩,rfl,fun w h=>U32s.of_row (h.2 (orow 148 1 (.slice A (16+48) c) (16+48) (u32n (row2 l 48))) aU) (by rw [iu])⟩
def S8.l (s:S8):List Nat:=[s.a,s.b,s.c,s.d,s.e,s.f,s.g,s.h]
structure S8.Lt (s:S8):Prop where
 a:s.a<4294967296
 b:s.b<4294967296
 c:s.c<4294967296
 d:s.d<4294967296
 e:s.e<4294967296
 f:s.f<4294967296
 g:s.g<4294967296
 h:s.h<4294967296
theorem oW (s:S8) (k w:Nat):roundN s k w=⟨(t1N s.h s.e s.f s.g k w+t2N s.a s.b s.c)%4294967296,s.a,s.b,s.c,(s.d+t1N s.h s.e s.f s.g k w)%4294967296,s.e,s.f,s.g⟩:=by
 obtain ⟨a,b,c,d,e,f,g,h⟩:=s
 simp only [roundN,gN]
theorem S8.Lt.round {s:S8} (h:s.Lt) (k w:Nat):(roundN s k w).Lt:=by
 rw [oW]
 exact ⟨Nat.mod_lt _ ag,h.a,h.b,h.c,Nat.mod_lt _ ag,h.e,h.f,h.g⟩
def rndN (f:Nat→Nat) (s:S8):Nat→S8
 | 0=>s
 | i+1=>roundN (rndN f s i) (kN.getD i 0) (sN f 48 i)
theorem xv (f:Nat→Nat) {s:S8} (h:s.Lt):∀ i,(rndN f s i).Lt
 | 0=>h
 | i+1=>(xv f h i).round _ _
theorem Ae (f:Nat→Nat) {i:Nat} (h:i<64):sN f 48 i=sN f i i:=by
 by_cases hi:i≤48
 · have:=io f (k:=i) (t:=i) (48-i) ag
   rw [show i+(48-i)=48 from by omega] at this
   exact this
 · have:=io f (k:=48) (t:=i) (i-48) ag
   rw [show 48+(i-48)=i from by omega] at this
   exact this.symm
theorem oX (f:Nat→Nat) (s:S8):∀ i,i≤64→(kN.take i).foldl stepN (s,winN f 0)=(rndN f s i,winN f i)
 | 0,_=>rfl
 | i+1,h=>by
  have hl:kN.length=64:=by kernel_rfl
  have e:kN.take (i+1)=kN.take i++[kN.getD i 0]:=by
   rw [List.take_add_one,List.getD_eq_getElem?_getD,List.getElem?_eq_getElem (by omega)]
   rfl
  rw [e,List.foldl_append,oX f s i ag,List.foldl_cons,List.foldl_nil,oN,mt,rndN,Ae f (by omega)]
  have hw:(winN f i).w0=sN f i i:=by unfold winN;rfl
  rw [hw]
theorem qC (f:Nat→Nat) (s:S8):roundsN kN s (winN f 0)=rndN f s 64:=by
 have hl:kN.length=64:=by kernel_rfl
 have h:=oX f s 64 (Nat.le_refl _)
 rw [List.take_of_length_le (by omega)] at h
 rw [roundsN,h]
theorem Di (s:S8) (w:W16):(mixN s w).l=[(s.a+(roundsN kN s w).a)%4294967296,(s.b+(roundsN kN s w).b)%4294967296,(s.c+(roundsN kN s w).c)%4294967296,(s.d+(roundsN kN s w).d)%4294967296,(s.e+(roundsN kN s w).e)%4294967296,(s.f+(roundsN kN s w).f)%4294967296,(s.g+(roundsN kN s w).g)%4294967296,(s.h+(roundsN kN s w).h)%4294967296]:=by
 rw [mixN]
 generalize roundsN kN s w=t
 obtain ⟨a,b,c,d,e,f,g,h⟩:=s
 obtain ⟨a',b',c',d',e',f',g',h'⟩:=t
 simp only [addN,gN,S8.l]
theorem Cx (s:S8) (w:W16):(mixN s w).Lt:=by
 rw [mixN]
 generalize roundsN kN s w=t
 obtain ⟨a,b,c,d,e,f,g,h⟩:=s
 obtain ⟨a',b',c',d',e',f',g',h'⟩:=t
 simp only [addN,gN]
 exact ⟨Nat.mod_lt _ ag,Nat.mod_lt _ ag,Nat.mod_lt _ ag,Nat.mod_lt _ ag,Nat.mod_lt _ ag,Nat.mod_lt _ ag,Nat.mod_lt _ ag,Nat.mod_lt _ ag⟩
theorem Cz:iniN.Lt:=⟨by decide,by decide,by decide,by decide,by decide,by decide,by decide,by decide⟩
set_option maxRecDepth 8000 in
theorem nR:Mk Tryz.prog 241 #[] (fun _=>True) (fun u X'=>∃ s':SlV,u=s'.v∧∀ w,X' w→U32s w s' iniN.l):=by
 refine bL (args:=[]) _ Tryz.func241 rfl Tryz.ntmps241 rfl fun av bor w0=>?_
 repeat' (first|(refine ca (vs:=u32n iniN.l) fun b=>?_;refine nK 1 8 rfl (by decide) ?_)|apply ab|apply aj|apply ai|refine ac ?_|apply aA|fail)
 exact aq (aB rfl rfl) ⟨⟨some ⟨b,0,none⟩,8,8⟩,rfl,fun w h=>U32s.of_row (h.2 _ aU) rfl⟩
set_option maxRecDepth 20000 in
theorem qO:Mk Tryz.prog 289 #[] (fun _=>True) (fun u X'=>∃ s':SlV,u=s'.v∧∀ w,X' w→U32s w s' kN):=by
 refine bL (args:=[]) _ Tryz.func289 rfl Tryz.ntmps289 rfl fun av bor w0=>?_
 repeat' (first|(refine ca (vs:=u32n kN) fun b=>?_;refine nK 1 64 rfl (by decide) ?_)|apply ab|apply aj|apply ai|refine ac ?_|apply aA|fail)
 exact aq (aB rfl rfl) ⟨⟨some ⟨b,0,none⟩,64,64⟩,rfl,fun w h=>U32s.of_row (h.2 _ aU) ar⟩
end Go.Proofs.YtfnjklhjngphmaaGreatDoor
namespace Go.Proofs.YtfnjklhjngphmaaGreatDoor
open Go Go.Proofs Sy Go.Shelf Go.Maps Go.Sort
theorem compS_c:CompC Tryz.prog 56 encStr [] Lib.compact where
 some_:=fun blk off cap ss w h1 h2 h3=>Any.slices_Compact_string Tryz.compS blk off cap ss w h1 h2 h3
 none_:=fun p cap w=>Any.slices_Compact_string_empty Tryz.compS p cap w
 len:=fun ss=>Lib.compact_length_le ss
end Go.Proofs.YtfnjklhjngphmaaGreatDoor
