/- Joined. -/
import Derived.Test.YtgffbiobmamobaaGreatDoorI0
import Derived.Test.YtgffbiobmamobaaGreatDoorI1
import Derived.Test.YtgffbiobmamobaaGreatDoorI9
import Derived.Test.YtgffbiobmamobaaGreatDoorI8
import Derived.Test.YtgffbiobmamobaaGreatDoorI2
import Derived.Deep.Slices
import Derived.Deep.Fields
import Derived.ChangeSame
import Derived.ChangeArms
import Derived.Carry
import Derived.OpenShut
import Derived.Test.YtgffbiobmamobaaGreatDoorCards
import Derived.Test.YtgffbiobmamobaaGreatDoorTie
import Derived.WalkKit
import Derived.ProofKit
import Derived.Deep.DeepHandedRow
import Derived.Lib.LaidTab
set_option linter.unusedVariables false
set_option linter.unusedSimpArgs false
set_option maxHeartbeats 16000000
namespace Go.Proofs.YtgffbiobmamobaaGreatDoor
open Go Go.Proofs Sy
section
variable {P:Program} {N:Nat} {av bor:List Nat} {w0:World} {st:St} {ty:TypeId} {x y:Operand} {t t2:TypeId} {k:IntKind}
theorem mA {a b:Int} (v:Bool) (hx:ev st.env x=some (.int k a)) (hy:ev st.env y=some (.int k b)) (hv:decide (a=b)=v):Sy.Yields P N av bor w0 st (.binOp .eql t x y t2) ty (.bool v):=hv▸j6 hx hy
theorem my {a b:ByteArray} (v:Bool) (hx:ev st.env x=some (.string a)) (hy:ev st.env y=some (.string b)) (hv:seqB a b=v):Sy.Yields P N av bor w0 st (.binOp .eql t x y t2) ty (.bool v):=hv▸j0 hx hy
end
def NoteAt (r:Xl) (s:Xi) (P:List Xd) (i:Nat) (p p1:Xd) (u:Value) (R:List Xl) (X:World→Prop):Prop:=u=.tuple #[]∧∃ (p':Xd) (ex:List Xl),p'.can=p1.can∧p'.to=p.to∧p'.toL=p.toL∧R=ex++[r,postR s (P.set i p'),edR p']
theorem er {P:List Xd} {i:Nat} {p:Xd} (h:P[i]?=some p):P.set i p=P:=by
 obtain ⟨h1,rfl⟩:=List.getElem?_eq_some_iff.1 h
 exact List.set_getElem_self h1
theorem oi {X:World→Prop} (r:Xl) (s:Xi) (P:List Xd) (i:Nat) (p:Xd) (u:Value) (k:Nat) (hs:s.n=P.length) (hi:P[i]?=some p):Ct Tryz.prog 83 #[u,elP s.p (i*11),.int .i64 (k:Nat)] [r,postR s P,edR p] X (NoteAt r s P i p (goneP p)):=by
 refine dZ Tryz.func83 Tryz.ntmps83 fun av bor w0=>?_
 have hil:=(List.getElem?_eq_some_iff.1 hi).1
 refine cY (r:=postR s P) (List.mem_cons_of_mem _ ay) (p:=0<s.n→s.p.isSome=true) (fun w h hn=>cG h hn) fun hp=>?_
 have hp':=hp ac
 obtain ⟨ad,had⟩:=Option.isSome_iff_exists.1 hp'
 repeat' (first|refine gs ?_|(refine mH (ad:=ad) (hp:=had) ?_)|(refine dQ ?_)|(refine rs (goneP p) (i:=i) (j:=10) (hi:=hi) (hj:=by decide) (hc:=rfl) (hn:=hs) (hsz:=by kernel_rfl) (hv:=rfl) (h1:=rfl) (hA:=At.there _ (At.here _)) (h:=?_))|(refine gp ?_ ?_<;>intro hx_ this)|fail)
 exact br (aS rfl) ⟨rfl,goneP p,[],rfl,rfl,rfl,rfl⟩
theorem ud (c:Xa) (s:Xi) (P:List Xd) (i:Nat) (p:Xd) (b q1 q2 k:Nat) (x:Xc) (hs:s.n=P.length) (hi:P[i]?=some p) (hx:c.actsL[k]?=some x) (hk:k≤1000000) (hel:p.ed.n=p.edL.length) (hem:p.ed.n≤1000000) :
  Ct Tryz.prog 84 #[.pointer (some ⟨b,0,none⟩),elP s.p (i*11),.int .i64 (k:Nat)] [cel b 161 (regC c s.v q1 q2),postR s P,edR p] (fun w=>(c.at_ w∧Xg w)∧Strs w p.to p.toL) (NoteAt (cel b 161 (regC c s.v q1 q2)) s P i p (editP x k p)):=by
 refine dZ Tryz.func84 Tryz.ntmps84 fun av bor w0=>?_
 have hil:=(List.getElem?_eq_some_iff.1 hi).1
 have hkl:=(List.getElem?_eq_some_iff.1 hx).1
 refine cY (r:=postR s P) (List.mem_cons_of_mem _ ay) (p:=0<s.n→s.p.isSome=true) (fun w h hn=>cG h hn) fun hp=>?_
 have hp':=hp ac
 obtain ⟨ad,had⟩:=Option.isSome_iff_exists.1 hp'
 refine aD (p:=c.acts.n=c.actsL.length∧(0<c.actsL.length→c.acts.p.isSome=true)) (fun w h=>⟨h.1.1.len_,h.1.1.some_⟩) fun ⟨hl,hpa⟩=>?_
 have hpa':=hpa ac
 have heq:=tY x.to p.to x.toL p.toL
 repeat' (first|refine gs ?_|refine gs1 fun _=>?_|(refine aA (q:=k*20) ?_)|(refine aY (cs:=x.cells) (hF:=fun w h=>Acts.get h.1.1 hx) ?_)|(refine gp ?_ ?_<;>intro hx_ this)|fail)
 rename_i b6
 cases hg:p.gone with
 | true =>
  have h10:p.cells[10]?=some (.bool true):=by rw [←hg];rfl
  have hE:editB x p=false:=by rw [editB,hg];rfl
  (refine ao ⟨[0,1,2,3,4,5,6,7,8,9,10,11,12,13,14,15,16,17,18,19,20,21,22,23,24,25,26,27,28,29],[(30,⟨[31],[]⟩)]⟩ [cel b6 72 x.cells,cel b 161 (regC c s.v q1 q2),postR s P,edR p] (fun w=>(c.at_ w∧Xg w)∧Strs w p.to p.toL) (h:=?_))
  all_goals repeat' (first|refine gd ?_|refine aJ (hy:=by first|(apply iN (ad:=ad);rfl;exact had)|(apply eR;rfl;exact hp';rfl)|(apply dH (i:=i) (j:=10) (P:=P) (p:=p) (u:=.bool true);rfl;exact List.mem_cons_of_mem _ (List.mem_cons_of_mem _ ay);exact hs;exact hi;exact h10)) ?_|refine aF ?_ (h':=?_)|exact aG|refine gs1 fun _=>?_|(refine gq ?_ ?_<;>intro hx_ this)|fail)
  all_goals
   repeat' (first|refine gs ?_|refine gs1 fun _=>?_|(refine gp ?_ ?_<;>intro hx_ this)|fail)
   first
    | exact br (aS rfl) ⟨rfl,p,[cel b6 72 x.cells],by rw [editP,hE];rfl,rfl,rfl,by rw [er hi];rfl⟩
    | exact ae (aS rfl) ⟨rfl,p,[cel b6 72 x.cells],by rw [editP,hE];rfl,rfl,rfl,by rw [er hi];rfl⟩
 | false =>
  have h10:p.cells[10]?=some (.bool false):=by rw [←hg];rfl
  by_cases hsc:x.scope=p.scope
  · cases hgr:seqB x.group p.group with
    | false =>
     have hE:editB x p=false:=by rw [editB,hgr,Bool.and_false];rfl
     (refine ao ⟨[0,1,2,3,4,5,6,7,8,9,10,11,12,13,14,15,16,17,18,19,20,21,22,23,24,25,26,27,28,29],[(30,⟨[31],[]⟩)]⟩ [cel b6 72 x.cells,cel b 161 (regC c s.v q1 q2),postR s P,edR p] (fun w=>(c.at_ w∧Xg w)∧Strs w p.to p.toL) (h:=?_))
     all_goals repeat' (first|refine aJ (hy:=by first|(apply mA true;rfl;rfl;exact decide_eq_true hsc)|(apply my false;rfl;rfl;exact hgr)) ?_|refine gd ?_|refine aJ (hy:=by first|(apply iN (ad:=ad);rfl;exact had)|(apply eR;rfl;exact hp';rfl)|(apply dH (i:=i) (j:=10) (P:=P) (p:=p) (u:=.bool false);rfl;exact List.mem_cons_of_mem _ (List.mem_cons_of_mem _ ay);exact hs;exact hi;exact h10)|(apply dH (i:=i) (j:=4) (P:=P) (p:=p) (u:=.int .i64 p.scope);rfl;exact List.mem_cons_of_mem _ (List.mem_cons_of_mem _ ay);exact hs;exact hi;exact rfl)|(apply dH (i:=i) (j:=5) (P:=P) (p:=p) (u:=.string p.group);rfl;exact List.mem_cons_of_mem _ (List.mem_cons_of_mem _ ay);exact hs;exact hi;exact rfl)) ?_|refine aF ?_ (h':=?_)|exact aG|refine gs1 fun _=>?_|(refine gq ?_ ?_<;>intro hx_ this)|fail)
     all_goals
      repeat' (first|refine gs ?_|refine gs1 fun _=>?_|(refine gp ?_ ?_<;>intro hx_ this)|fail)
      first
       | exact br (aS rfl) ⟨rfl,p,[cel b6 72 x.cells],by rw [editP,hE];rfl,rfl,rfl,by rw [er hi];rfl⟩
       | exact ae (aS rfl) ⟨rfl,p,[cel b6 72 x.cells],by rw [editP,hE];rfl,rfl,rfl,by rw [er hi];rfl⟩
    | true =>
     have hEq:editB x p=eqL x.toL p.toL:=by rw [editB,hg,hgr,decide_eq_true hsc];rfl
     cases hE:eqL x.toL p.toL with
     | false =>
      rw [hE] at heq hEq
      have hE:=hEq
      (refine ao ⟨[0,1,2,3,4,5,6,7,8,9,10,11,12,13,14,15,16,17,18,19,20,21,22,23,24,25,26,27,28,29],[(30,⟨[31],[]⟩)]⟩ [cel b6 72 x.cells,cel b 161 (regC c s.v q1 q2),postR s P,edR p] (fun w=>(c.at_ w∧Xg w)∧Strs w p.to p.toL) (h:=?_))
      all_goals repeat' (first|refine aJ (hy:=by first|(apply mA true;rfl;rfl;exact decide_eq_true hsc)|(apply my true;rfl;rfl;exact hgr)) ?_|(refine ag (hc:=heq) (hX:=fun w h=>⟨(h.1.1.2 x (List.mem_of_getElem? hx)).1,h.2⟩) ?_)|refine gd ?_|refine aJ (hy:=by first|(apply iN (ad:=ad);rfl;exact had)|(apply eR;rfl;exact hp';rfl)|(apply dH (i:=i) (j:=10) (P:=P) (p:=p) (u:=.bool false);rfl;exact List.mem_cons_of_mem _ (List.mem_cons_of_mem _ ay);exact hs;exact hi;exact h10)|(apply dH (i:=i) (j:=4) (P:=P) (p:=p) (u:=.int .i64 p.scope);rfl;exact List.mem_cons_of_mem _ (List.mem_cons_of_mem _ ay);exact hs;exact hi;exact rfl)|(apply dH (i:=i) (j:=5) (P:=P) (p:=p) (u:=.string p.group);rfl;exact List.mem_cons_of_mem _ (List.mem_cons_of_mem _ ay);exact hs;exact hi;exact rfl)|(apply dH (i:=i) (j:=6) (P:=P) (p:=p) (u:=p.to.v);rfl;exact List.mem_cons_of_mem _ (List.mem_cons_of_mem _ ay);exact hs;exact hi;exact rfl)) ?_|refine aF ?_ (h':=?_)|exact aG|refine gs1 fun _=>?_|(refine gq ?_ ?_<;>intro hx_ this)|fail)
      all_goals
       repeat' (first|refine gs ?_|refine gs1 fun _=>?_|(refine gp ?_ ?_<;>intro hx_ this)|fail)
       first
        | exact br (aS rfl) ⟨rfl,p,[cel b6 72 x.cells],by rw [editP,hE];rfl,rfl,rfl,by rw [er hi];rfl⟩
        | exact ae (aS rfl) ⟨rfl,p,[cel b6 72 x.cells],by rw [editP,hE];rfl,rfl,rfl,by rw [er hi];rfl⟩
     | true =>
      rw [hE] at heq hEq
      have hE:=hEq
      (refine ao ⟨[0,1,2,3,4,5,6,7,8,9,10,11,12,13,14,15,16,17,18,19,20,21,22,23,24,25,26,27,28,29],[(30,⟨[31],[]⟩)]⟩ [cel b6 72 x.cells,cel b 161 (regC c s.v q1 q2),postR s P,edR p] (fun w=>(c.at_ w∧Xg w)∧Strs w p.to p.toL) (h:=?_))
      all_goals repeat' (first|refine aJ (hy:=by first|(apply mA true;rfl;rfl;exact decide_eq_true hsc)|(apply my true;rfl;rfl;exact hgr)) ?_|(refine ag (hc:=heq) (hX:=fun w h=>⟨(h.1.1.2 x (List.mem_of_getElem? hx)).1,h.2⟩) ?_)|refine gd ?_|refine aJ (hy:=by first|(apply iN (ad:=ad);rfl;exact had)|(apply eR;rfl;exact hp';rfl)|(apply dH (i:=i) (j:=10) (P:=P) (p:=p) (u:=.bool false);rfl;exact List.mem_cons_of_mem _ (List.mem_cons_of_mem _ ay);exact hs;exact hi;exact h10)|(apply dH (i:=i) (j:=4) (P:=P) (p:=p) (u:=.int .i64 p.scope);rfl;exact List.mem_cons_of_mem _ (List.mem_cons_of_mem _ ay);exact hs;exact hi;exact rfl)|(apply dH (i:=i) (j:=5) (P:=P) (p:=p) (u:=.string p.group);rfl;exact List.mem_cons_of_mem _ (List.mem_cons_of_mem _ ay);exact hs;exact hi;exact rfl)|(apply dH (i:=i) (j:=6) (P:=P) (p:=p) (u:=p.to.v);rfl;exact List.mem_cons_of_mem _ (List.mem_cons_of_mem _ ay);exact hs;exact hi;exact rfl)) ?_|refine aF ?_ (h':=?_)|exact aG|refine gs1 fun _=>?_|(refine gq ?_ ?_<;>intro hx_ this)|fail)
      all_goals
       repeat' (first|refine gs ?_|refine gs1 fun _=>?_|(refine mH (ad:=ad) (hp:=had) ?_)|(refine dQ ?_)|(refine am (dH (i:=i) (j:=9) (P:=P) (p:=p) (u:=p.ed.v) rfl (List.mem_cons_of_mem _ (List.mem_cons_of_mem _ ay)) hs hi rfl) rfl rfl rfl ?_)|(refine bG (len:=1) (vs:=[.int .i64 (k:Nat)]) fun _=>?_)|(refine gp ?_ ?_<;>intro hx_ this)|fail)
       rename_i bn
       refine aH (size:=1) (news:=[.int .i64 (k:Nat)]) (q:=1) rfl rfl rfl rfl (fun _=>At.there _ (At.there _ (At.there _ (At.there _ (At.here _))))) (fun w G=>bu G ay rfl rfl 1) ac (by simp only [maxLen];omega) rfl ?_ rfl ?_
       · (first|with_reducible rfl|with_reducible assumption|with_reducible exact Bool.not_false|with_reducible exact Bool.not_true)
       intro A2 c2
       repeat' (first|refine gs ?_|refine gs1 fun _=>?_|(refine mH (ad:=ad) (hp:=had) ?_)|(refine dQ ?_)|(refine rs { p with ed:=⟨A2,p.ed.n+1,c2⟩,edL:=p.edL++[(k:Int)] } (i:=i) (j:=9) (hi:=hi) (hj:=by decide) (hc:=rfl) (hn:=hs) (hsz:=by kernel_rfl) (hv:=rfl) (h1:=rfl) (hA:=At.there _ (At.there _ (At.there _ (At.here _)))) (h:=?_))|(refine gp ?_ ?_<;>intro hx_ this)|fail)
       refine br (aS rfl) ⟨rfl,{ p with ed:=⟨A2,p.ed.n+1,c2⟩,edL:=p.edL++[(k:Int)] },[cel bn 3 [.int .i64 (k:Nat)],cel b6 72 x.cells],by rw [editP,hE];rfl,rfl,rfl,?_⟩
       simp only [edR,List.map_append,List.map_cons,List.map_nil]
       rfl
  · have hE:editB x p=false:=by rw [editB,decide_eq_false hsc,Bool.and_false];rfl
    (refine ao ⟨[0,1,2,3,4,5,6,7,8,9,10,11,12,13,14,15,16,17,18,19,20,21,22,23,24,25,26,27,28,29],[(30,⟨[31],[]⟩)]⟩ [cel b6 72 x.cells,cel b 161 (regC c s.v q1 q2),postR s P,edR p] (fun w=>(c.at_ w∧Xg w)∧Strs w p.to p.toL) (h:=?_))
    all_goals repeat' (first|refine aJ (hy:=by first|(apply mA false;rfl;rfl;exact decide_eq_false hsc)) ?_|refine gd ?_|refine aJ (hy:=by first|(apply iN (ad:=ad);rfl;exact had)|(apply eR;rfl;exact hp';rfl)|(apply dH (i:=i) (j:=10) (P:=P) (p:=p) (u:=.bool false);rfl;exact List.mem_cons_of_mem _ (List.mem_cons_of_mem _ ay);exact hs;exact hi;exact h10)|(apply dH (i:=i) (j:=4) (P:=P) (p:=p) (u:=.int .i64 p.scope);rfl;exact List.mem_cons_of_mem _ (List.mem_cons_of_mem _ ay);exact hs;exact hi;exact rfl)) ?_|refine aF ?_ (h':=?_)|exact aG|refine gs1 fun _=>?_|(refine gq ?_ ?_<;>intro hx_ this)|fail)
    all_goals
     repeat' (first|refine gs ?_|refine gs1 fun _=>?_|(refine gp ?_ ?_<;>intro hx_ this)|fail)
     first
      | exact br (aS rfl) ⟨rfl,p,[cel b6 72 x.cells],by rw [editP,hE];rfl,rfl,rfl,by rw [er hi];rfl⟩
      | exact ae (aS rfl) ⟨rfl,p,[cel b6 72 x.cells],by rw [editP,hE];rfl,rfl,rfl,by rw [er hi];rfl⟩
end Go.Proofs.YtgffbiobmamobaaGreatDoor
namespace Go.Proofs.YtgffbiobmamobaaGreatDoor
open Go Go.Proofs Sy
theorem xr {P:List Xd} {n:Nat} {p:Xd} (h:P[n]?=some p):(P.map edR).Perm (edR p::(P.eraseIdx n).map edR):=by
 obtain ⟨h1,rfl⟩:=List.getElem?_eq_some_iff.1 h
 have e:P=P.take n++P[n]::P.drop (n+1):=by rw [←List.drop_eq_getElem_cons h1,List.take_append_drop]
 rw [List.eraseIdx_eq_take_drop_succ]
 conv=>lhs;rw [e]
 rw [List.map_append,List.map_cons,List.map_append]
 exact List.perm_middle
theorem permA (c m2 m1 po e:Xl) (E:List Xl):([c,m2,m1,po]++(e::E)).Perm ([c,po,e]++([m2,m1]++E)):=by
 have h:=(List.perm_append_comm (l₁:=[m2,m1]) (l₂:=[po,e])).append_right E
 simpa using h.cons c
theorem permB (c m2 m1 po:Xl) {P:List Xd} {n:Nat} {p:Xd} (h:P[n]?=some p):([c,m2,m1,po]++P.map edR).Perm ([c,po,edR p]++([m2,m1]++(P.eraseIdx n).map edR)) :=
 ((xr h).append_left _).trans (permA c m2 m1 po (edR p) _)
theorem iC {P:List Xd} {n:Nat} {p:Xd}:(P.set n p).eraseIdx n=P.eraseIdx n:=by
 rw [List.eraseIdx_set_eq]
theorem permC (ex:List Xl) (c m2 m1 po:Xl) {P:List Xd} {n:Nat} {p':Xd} (h:n<P.length):((ex++[c,po,edR p'])++([m2,m1]++(P.eraseIdx n).map edR)).Perm (ex++([c,m2,m1,po]++(P.set n p').map edR)):=by
 have h1:=permB c m2 m1 po (P:=P.set n p') (n:=n) (p:=p') (by simp [h])
 rw [iC] at h1
 rw [List.append_assoc]
 exact (h1.symm).append_left ex
section
variable {P:Program} {N:Nat} {av bor:List Nat} {w0:World} {ops:Array Oper} {rest:List Oper} {kk:St→Prop} {E:Env} {loc:List Xl} {X:World→Prop} {x y:Operand} {t t2:TypeId}
variable {n:Nat} {ty:TypeId} {pos:String} {af:Array Edge} {g:Option (Nat×Bool)} {bb want:Bool}
theorem yg {k:IntKind} {a b:Int} [hI:Xu P t k] (h:Sw P N av bor w0 ops rest ⟨(n,.bool true)::E,loc,X⟩ kk) (hx:ev E x=some (.int k a):=by rfl) (hy:ev E y=some (.int k b):=by rfl) (hab:b≤a:=by first|omega|decide) (hg:gdB ops E g=some (bb,want):=by rfl) (hbb:bb=want:=by exact ax) (hd:Nat.blt n N=true:=by rfl) :
  Sw P N av bor w0 ops (⟨some n,.binOp .geq t x y t2,ty,pos,af,g⟩::rest) ⟨E,loc,X⟩ kk:=pO (hx:=hx) (hy:=hy) (hg:=hg) (hbb:=hbb) (hd:=hd) (h:=by
   have e:∀ u,u=Value.bool true→Sw P N av bor w0 ops rest ⟨(n,u)::E,loc,X⟩ kk:=fun u hu=>hu▸h
   exact e _ (by simp [hab]))
end
structure Ee (P Q:List Xd):Prop where
 to:Q.map (fun p=>(p.to,p.toL,p.pos))=P.map fun p=>(p.to,p.toL,p.pos)
theorem sY {α:Type} {P:List α} {i:Nat} {p:α} (h:P[i]?=some p):P.set i p=P:=by
 obtain ⟨h1,rfl⟩:=List.getElem?_eq_some_iff.1 h
 exact List.set_getElem_self h1
def ReferAt (c:Xa) (r m2 m1:Xl) (s:Xi) (P:List Xd) (k:Nat) (g:Xd→Xd) (u:Value) (R:List Xl) (X:World→Prop):Prop:=u=.tuple #[]∧∃ (Q:List Xd) (ex:List Xl),Q.map Xd.can=modP (P.map Xd.can) (refV c.actsL P k) g∧Ee P Q∧R=ex++([r,m2,m1,postR s Q]++Q.map edR)
theorem oj (c:Xa) (s:Xi) (P:List Xd) (b q1 q2 k nf:Nat) (hnf:Eb Tryz.prog nf) (pl:List (ByteArray×Value)) (num:List (Int×Value)) (x:Xc) (g:Xd→Xd) (hs:s.n=P.length) (hx:c.actsL[k]?=some x) (hkm:k≤1000000)
  (hpl:∀ d,mget pl d=(idxV c.actsL d).map fun (j:Nat)=>Value.int .i64 (j:Int)) (hnum:∀ j:Nat,mget num (j:Int)=(posP P j).map fun (n:Nat)=>Value.int .i64 (n:Int)) (hcl:c.actsL.length≤1000000) (hPm:P.length≤1000000)
  (hg:∀ p,(g p).can=g p.can) (hgp:∀ p,(g p).pos=p.pos)
  (hnote:∀ n p,P[n]?=some p→Ct Tryz.prog nf #[.pointer (some ⟨b,0,none⟩),elP s.p (n*11),.int .i64 (k:Nat)] [cel b 161 (regC c s.v q1 q2),postR s P,edR p] (fun w=>(c.at_ w∧Xg w)∧Strs w p.to p.toL) (NoteAt (cel b 161 (regC c s.v q1 q2)) s P n p (g p))) :
  Ct Tryz.prog 82 #[.pointer (some ⟨b,0,none⟩),.int .i64 (k:Nat),.func (.func nf) #[.pointer (some ⟨b,0,none⟩)] #[]] ([cel b 161 (regC c s.v q1 q2),mapr q2 pl,mapr q1 num,postR s P]++P.map edR) (fun w=>(c.at_ w∧Xg w)∧∀ p∈P,Strs w p.to p.toL)
   (ReferAt c (cel b 161 (regC c s.v q1 q2)) (mapr q2 pl) (mapr q1 num) s P k g):=by
 refine dZ Tryz.func82 Tryz.ntmps82 fun av bor w0=>?_
 have hkl:=(List.getElem?_eq_some_iff.1 hx).1
 refine cY (r:=postR s P) (by simp) (p:=0<s.n→s.p.isSome=true) (fun w h hn=>cG h hn) fun hp=>?_
 refine aD (p:=c.acts.n=c.actsL.length∧(0<c.actsL.length→c.acts.p.isSome=true)) (fun w h=>⟨h.1.1.len_,h.1.1.some_⟩) fun ⟨hl,hpa⟩=>?_
 have hpa':=hpa ac
 have hxD:c.actsL.getD k Xc.zero=x:=by rw [List.getD_eq_getElem?_getD,hx];rfl
 have hlk:=hpl x.object
 have hM0:∀ {o},refV c.actsL P k=o→o=none→P.map Xd.can=modP (P.map Xd.can) (refV c.actsL P k) g:=fun {o} h1 h2=>by rw [h1,h2];rfl
 simp only [List.cons_append,List.nil_append]
 cases hj:idxV c.actsL x.object with
 | none =>
  rw [hj] at hlk
  have hR:refV c.actsL P k=none:=by rw [refV,hxD,hj]
  repeat apply cw_seq
  (refine ao ⟨[0,1,2,3,4,5,6,7,8,9,10,11,12],[(13,⟨[14,15,16,17,18],[]⟩)]⟩ [cel b 161 (regC c s.v q1 q2)] (fun w=>(c.at_ w∧Xg w)∧∀ p∈P,Strs w p.to p.toL) (h:=?_))
  all_goals repeat' (first|refine gd ?_|refine aJ (hy:=by first|(apply bk (q:=k*20);rfl;rfl;omega;omega;assumption;(first|rfl|omega))|(apply eR;rfl;exact hpa';rfl)|(apply ez (q:=k*20+5) (u:=.string x.object);rfl;exact (fun w h=>(Acts.get h.1.1 hx).2.2 5 _ rfl))) ?_|refine aF ?_ (h':=?_)|exact aG|(refine cr (κ:=ByteArray) (kk:=x.object) (b:=false) (v:=.int .i64 0) (hl:=dz (List.mem_cons_of_mem _ ay)) (ho:=hlk) ?_)|(refine gq ?_ ?_<;>intro hx_ this)|fail)
  all_goals
   repeat' (first|refine gs ?_|(refine gp ?_ ?_<;>intro hx_ this)|fail)
   first
    | exact ae (aS rfl) ⟨rfl,P,[],hM0 hR rfl,⟨rfl⟩,rfl⟩
    | exact br (aS rfl) ⟨rfl,P,[],hM0 hR rfl,⟨rfl⟩,rfl⟩
 | some j =>
  rw [hj] at hlk
  have hjl:=rV hj
  by_cases hjk:j<k
  · have hlk2:=hnum j
    cases hn:posP P j with
    | none =>
     rw [hn] at hlk2
     have hR:refV c.actsL P k=none:=by
      rw [refV,hxD,hj]
      simp only [decide_eq_true hjk,cond_true,hn]
     repeat apply cw_seq
     (refine ao ⟨[0,1,2,3,4,5,6,7,8,9,10,11,12],[(13,⟨[14,15,16,17,18],[]⟩)]⟩ [cel b 161 (regC c s.v q1 q2)] (fun w=>(c.at_ w∧Xg w)∧∀ p∈P,Strs w p.to p.toL) (h:=?_))
     all_goals repeat' (first|refine gd ?_|refine aJ (hy:=by first|(apply bk (q:=k*20);rfl;rfl;omega;omega;assumption;(first|rfl|omega))|(apply eR;rfl;exact hpa';rfl)|(apply ez (q:=k*20+5) (u:=.string x.object);rfl;exact (fun w h=>(Acts.get h.1.1 hx).2.2 5 _ rfl))) ?_|refine aF ?_ (h':=?_)|exact aG|(refine cr (κ:=ByteArray) (kk:=x.object) (b:=true) (v:=.int .i64 (j:Nat)) (hl:=dz (List.mem_cons_of_mem _ ay)) (ho:=hlk) ?_)|(refine gq ?_ ?_<;>intro hx_ this)|fail)
     all_goals
      repeat' (first|refine rp ?_|refine gs ?_|(refine cr (κ:=Int) (kk:=(j:Int)) (b:=false) (v:=.int .i64 0) (hl:=dz (List.mem_cons_of_mem _ (List.mem_cons_of_mem _ ay))) (ho:=hlk2) ?_)|(refine gp ?_ ?_<;>intro hx_ this)|fail)
      first
       | exact ae (aS rfl) ⟨rfl,P,[],hM0 hR rfl,⟨rfl⟩,rfl⟩
       | exact br (aS rfl) ⟨rfl,P,[],hM0 hR rfl,⟨rfl⟩,rfl⟩
    | some n =>
     rw [hn] at hlk2
     have hnl:=yH hn
     obtain ⟨p,hpn⟩:∃ p,P[n]?=some p:=⟨_,List.getElem?_eq_getElem hnl⟩
     have hp':=hp ac
     have hR:refV c.actsL P k=some n:=by
      rw [refV,hxD,hj]
      simp only [decide_eq_true hjk,cond_true,hn]
     have hpm:=List.mem_of_getElem? hpn
     have hno:=hnote n p hpn
     repeat apply cw_seq
     (refine ao ⟨[0,1,2,3,4,5,6,7,8,9,10,11,12],[(13,⟨[14,15,16,17,18],[]⟩)]⟩ [cel b 161 (regC c s.v q1 q2)] (fun w=>(c.at_ w∧Xg w)∧∀ p∈P,Strs w p.to p.toL) (h:=?_))
     all_goals repeat' (first|refine gd ?_|refine aJ (hy:=by first|(apply bk (q:=k*20);rfl;rfl;omega;omega;assumption;(first|rfl|omega))|(apply eR;rfl;exact hpa';rfl)|(apply ez (q:=k*20+5) (u:=.string x.object);rfl;exact (fun w h=>(Acts.get h.1.1 hx).2.2 5 _ rfl))) ?_|refine aF ?_ (h':=?_)|exact aG|(refine cr (κ:=ByteArray) (kk:=x.object) (b:=true) (v:=.int .i64 (j:Nat)) (hl:=dz (List.mem_cons_of_mem _ ay)) (ho:=hlk) ?_)|(refine gq ?_ ?_<;>intro hx_ this)|fail)
     all_goals
      repeat' (first|refine rp ?_|refine gs ?_|(refine cr (κ:=Int) (kk:=(j:Int)) (b:=true) (v:=.int .i64 (n:Nat)) (hl:=dz (List.mem_cons_of_mem _ (List.mem_cons_of_mem _ ay))) (ho:=hlk2) ?_)|(refine aA (q:=n*11) ?_)|(refine gp ?_ ?_<;>intro hx_ this)|fail)
      refine cI (permB _ _ _ _ hpn) ?_
      refine ci (first:=#[.pointer (some ⟨b,0,none⟩)]) (caps:=#[]) (pre:=[cel b 161 (regC c s.v q1 q2),postR s P,edR p]) (fr:=[mapr q2 pl,mapr q1 num]++(P.eraseIdx n).map edR) (hc:=hno) (hX:=fun w h=>⟨h.1,h.2 p hpm⟩) (h:=?_)
      rintro _ _ X' ⟨rfl,p',ex,hcan,hto,htl,rfl⟩
      refine cI (permC ex _ _ _ _ hnl) ?_
      repeat' (first|refine gs ?_|(refine gp ?_ ?_<;>intro hx_ this)|fail)
      have hpos:p'.pos=p.pos:=(congrArg Xd.pos hcan).trans (hgp p)
      refine br (aS rfl) ⟨rfl,P.set n p',ex,?_,⟨?_⟩,rfl⟩
      · rw [hR]
        show (P.set n p').map Xd.can=(P.map Xd.can).set n (g ((P.map Xd.can).getD n Xd.zero))
        rw [List.map_set,tP,List.getD_eq_getElem?_getD,hpn,Option.getD_some,←hg p,hcan]
      · rw [List.map_set,hto,htl,hpos]
        exact sY (by simp [hpn])
  · have hR:refV c.actsL P k=none:=by
     rw [refV,hxD,hj]
     simp only [decide_eq_false hjk,cond_false]
    repeat apply cw_seq
    (refine ao ⟨[0,1,2,3,4,5,6,7,8,9,10,11,12],[(13,⟨[14,15,16,17,18],[]⟩)]⟩ [cel b 161 (regC c s.v q1 q2)] (fun w=>(c.at_ w∧Xg w)∧∀ p∈P,Strs w p.to p.toL) (h:=?_))
    all_goals repeat' (first|refine gd ?_|refine aJ (hy:=by first|(apply bk (q:=k*20);rfl;rfl;omega;omega;assumption;(first|rfl|omega))|(apply eR;rfl;exact hpa';rfl)|(apply ez (q:=k*20+5) (u:=.string x.object);rfl;exact (fun w h=>(Acts.get h.1.1 hx).2.2 5 _ rfl))) ?_|refine aF ?_ (h':=?_)|exact aG|(refine cr (κ:=ByteArray) (kk:=x.object) (b:=true) (v:=.int .i64 (j:Nat)) (hl:=dz (List.mem_cons_of_mem _ ay)) (ho:=hlk) ?_)|(refine gq ?_ ?_<;>intro hx_ this)|fail)
    all_goals
     repeat' (first|refine yg ?_|refine gs ?_|(refine gp ?_ ?_<;>intro hx_ this)|fail)
     first
      | exact ae (aS rfl) ⟨rfl,P,[],hM0 hR rfl,⟨rfl⟩,rfl⟩
      | exact br (aS rfl) ⟨rfl,P,[],hM0 hR rfl,⟨rfl⟩,rfl⟩
end Go.Proofs.YtgffbiobmamobaaGreatDoor



namespace Go.Proofs.YtgffbiobmamobaaGreatDoor
open Go Go.Proofs Sy
def wellA (c:Xa) (i:Int) (a:Xc):Bool:=(postK a.kind||decide (a.kind=14))&&(decide (a.scope=1)||decide (a.scope=2)||decide (a.scope=3))&&(match epochO c.actsL i a.scope a.group with
 | some e=>decide (e.epoch=a.epoch)&&eqL e.toL (membersV c i a.scope a.group a.toL)
 | none=>false)
def wellV (c:Xa) (i:Int):Bool:=decide (0≤i)&&(match c.actsL[i.toNat]? with
 | some a=>wellA c i a
 | none=>false)
structure Agree (n:Nat) (l l':List Xc):Prop where
 at_:∀ k,k<n→l[k]?=l'[k]?
 left:n≤l.length
 right:n≤l'.length
theorem Agree.getD {n:Nat} {l l':List Xc} (h:Agree n l l') {k:Nat} (hk:k<n):l.getD k Xc.zero=l'.getD k Xc.zero:=by
 rw [List.getD_eq_getElem?_getD,List.getD_eq_getElem?_getD,h.at_ k hk]
theorem Agree.symm {n:Nat} {l l':List Xc} (h:Agree n l l'):Agree n l' l:=⟨fun k hk=>(h.at_ k hk).symm,h.right,h.left⟩
structure ReadF (c:Xa) (i:Int) (a:Xc) (l:List ByteArray):Prop where
 asc:Asc l
 own:c.id∈l
 mem:∀ x∈l,x≠c.id→x∈membersV c i a.scope a.group a.toL
 len:l.length=1+(bif wellV c i then (membersV c i a.scope a.group a.toL).length else 0)
end Go.Proofs.YtgffbiobmamobaaGreatDoor
namespace Go.Proofs.YtgffbiobmamobaaGreatDoor
open Go Go.Proofs Sy Go.RowKit Go.Deep Go.ChangeShapes
section
variable {H:Type} {enc:TypeId×Value→H} {P:Program} {w:World} {base:Nat} {spare:Nat→Bool} {held:Bool}
theorem cM {t:TypeId} {fs:Array Field} {fuel:Nat} {cs:List Value} {x:DataW H×List MemPlace} (ht:P.underlying t=some (.struct fs)) (h:DataW.trod enc P w base spare held fuel t cs=some x) {i:Nat} {f:Field} (hf:fs[i]?=some f) {off k:Nat} {t':TypeId} (ho:f.offset=off) (htt:f.type=t') (hk:P.cellsOf t'=k) :
  ∃ n y,DataW.trod enc P w base spare held n t' ((cs.drop off).take k)=some y:=by
 obtain ⟨xs,n,_,_,_,hlen,hg⟩:=DataW.trod_struct ht h
 have h1:=hg i f hf
 have hi:i<fs.size:=(Array.getElem?_eq_some_iff.1 hf).1
 subst ho;subst htt;subst hk
 rw [List.getElem?_eq_getElem (by omega)] at h1
 exact ⟨n,_,h1⟩
theorem iX {α:Type} [Inhabited α] {t e:TypeId} {size fuel:Nat} {cs:List Value} {x:DataW H×List MemPlace} (ht:P.underlying t=some (.slice e)) (hc:P.cellsOf e=size) (cells:α→List Value) (Q:α→Prop)
  (each:∀ n cs y,DataW.trod enc P w base spare held n e cs=some y→∃ a,cs=cells a∧Q a) (h:DataW.trod enc P w base spare held fuel t cs=some x) :
  ∃ (s:Xi) (l:List α),cs=[s.v]∧Xe w size s (l.map cells)∧∀ a∈l,Q a:=by
 rcases open_slice ht h with ⟨rfl,_⟩|⟨a,len,cap,m,n,D,Pl,rfl,hb,hl,hm,hmm,hx,hi⟩
 · exact ⟨⟨none,0,0⟩,[],rfl,aN w size,by simp⟩
 · have hlm:len≤m:=by rw [hmm];split<;>omega
   have h1:∀ i,i<len→∃ z:α,w.cells? base (a.add (i*size)) size=some (cells z)∧Q z:=fun i hil=>by
    obtain ⟨cs',h2,h3⟩:=hi i ac
    obtain ⟨z,rfl,hz⟩:=each _ _ _ h3
    rw [hc] at h2
    exact ⟨z,h2,hz⟩
   obtain ⟨F,hF⟩:=choose_lt h1
   refine ⟨⟨some a,len,cap⟩,(List.range len).map F,rfl,⟨by simp,hl,hm,fun i cs' hcs=>?_⟩,fun z hz=>?_⟩
   · simp only [List.map_map,List.getElem?_map] at hcs
     have hil:i<len:=by
      cases hr:(List.range len)[i]? with
      | none=>rw [hr] at hcs;cases hcs
      | some k=>have:=(List.getElem?_eq_some_iff.1 hr).1;simpa using this
     rw [List.getElem?_range hil] at hcs
     simp only [Option.map_some,Function.comp_apply,Option.some.injEq] at hcs
     subst hcs
     obtain ⟨_,hlen,hat⟩:=World.cells?_some (hF i hil).1
     refine ⟨hlen,rfl,fun j u hj=>⟨rfl,fun a' ha'=>?_⟩⟩
     obtain rfl:a=a':=Option.some.inj ha'
     rw [←Go.Deep.add_add,hat j (by rw [←hlen];exact (List.getElem?_eq_some_iff.1 hj).1),hj]
   · simp only [List.mem_map,List.mem_range] at hz
     obtain ⟨i,hil,rfl⟩:=hz
     exact (hF i hil).2
theorem CellAt.keep {w':World} {p:Option Addr} {q:Nat} {u:Value} (h:CellAt w p q u) (hs:∀ k,k<w.heap.size→w'.heap[k]?=w.heap[k]?):CellAt w' p q u:=⟨h.1,fun a ha=>by
 have h1:=h.2 a ha
 have h2:(a.add q).block<w.heap.size:=by
  cases hh:w.heap[(a.add q).block]? with
  | none=>simp [World.cell?,hh] at h1
  | some o=>exact (Array.getElem?_eq_some_iff.1 hh).1
 rw [World.cell?_of_block (w:=w) (hs _ h2),h1]⟩
theorem Xe.keep {w':World} {size:Nat} {s:Xi} {xs:List (List Value)} (h:Xe w size s xs) (hs:∀ k,k<w.heap.size→w'.heap[k]?=w.heap[k]?):Xe w' size s xs :=
 ⟨h.len,h.cap,h.max,fun i cs hi=>⟨(h.row i cs hi).1,(h.row i cs hi).2.1,fun j u hj=>CellAt.keep ((h.row i cs hi).2.2 j u hj) hs⟩⟩
theorem CellsAt.keep {w':World} {g:Nat} {l:List Value} (h:CellsAt g l w) (hs:∀ k,k<w.heap.size→w'.heap[k]?=w.heap[k]?):CellsAt g l w':=fun j v hj=>by
 have h1:=h j v hj
 have h2:g<w.heap.size:=by
  cases hh:w.heap[g]? with
  | none=>simp [World.cell?,hh] at h1
  | some o=>exact (Array.getElem?_eq_some_iff.1 hh).1
 rw [World.cell?_of_block (w:=w) (a:=⟨g,j,none⟩) (hs _ h2),h1]
theorem XC.keep {w':World} {c:Xa} (h:XC c w) (hs:∀ k,k<w.heap.size→w'.heap[k]?=w.heap[k]?):XC c w' :=
 ⟨⟨Xe.keep h.1.1 hs,fun a ha=>⟨Xe.keep (h.1.2 a ha).1 hs,Xe.keep (h.1.2 a ha).2 hs⟩⟩,⟨h.2.ini.keep hs,h.2.k.keep hs⟩⟩
theorem zB {n:Int} (h:(Lit.int .i64 n).wf=true):n<9223372036854775808:=by have:=(Go.bounds_i64 h).2;omega
theorem bP {fuel:Nat} {cs:List Value} {x:DataW H×List MemPlace} (h:DataW.trod enc Tryz.prog w base spare held fuel 3 cs=some x):∃ n:Int,cs=[.int .i64 n]∧n<9223372036854775808:=by
 obtain ⟨n,h1,_,h3⟩:=DataW.trod_int Tryz.underlying3 h
 exact ⟨n,h1,zB h3⟩
theorem tz {fuel:Nat} {cs:List Value} {x:DataW H×List MemPlace} (h:DataW.trod enc Tryz.prog w base spare held fuel 9 cs=some x):∃ s:ByteArray,cs=[.string s]∧s.size≤maxLen:=by
 obtain ⟨s,h1,_,h3⟩:=DataW.trod_string Tryz.underlying9 h
 exact ⟨s,h1,h3⟩
theorem qk {fuel:Nat} {cs:List Value} {x:DataW H×List MemPlace} (h:DataW.trod enc Tryz.prog w base spare held fuel 4 cs=some x):∃ b:Bool,cs=[.bool b]:=by
 obtain ⟨b,h1,_⟩:=DataW.trod_bool Tryz.underlying4 h
 exact ⟨b,h1⟩
theorem m8 {t:TypeId} {fs:Array Field} {P:Program} {fuel k:Nat} {cs:List Value} {x:DataW H×List MemPlace} (ht:P.underlying t=some (.struct fs)) (hk:P.cellsOf t=k) (h:DataW.trod enc P w base spare held fuel t cs=some x):cs.length=k:=by
 obtain ⟨xs,n,_,_,h1,_,_⟩:=DataW.trod_struct ht h
 rw [h1,hk]
end
end Go.Proofs.YtgffbiobmamobaaGreatDoor
namespace Go.Proofs.YtgffbiobmamobaaGreatDoor
open Go Go.Proofs Sy Go.RowKit Go.Deep Go.ChangeShapes
section
variable {H:Type} {enc:TypeId×Value→H} {P:Program} {w:World} {base:Nat} {spare:Nat→Bool} {held:Bool}
end
end Go.Proofs.YtgffbiobmamobaaGreatDoor
namespace Go.Proofs.YtgffbiobmamobaaGreatDoor
open Go Go.Proofs Sy
namespace SrG
section
variable {P:Program} {N:Nat} {av bor:List Nat} {w0:World} {st:St} {ty:TypeId} {x y:Operand} {t t2:TypeId} {k:IntKind}
theorem u7 {a b:Int} [hI:Xu P t k] (hx:ev st.env x=some (.int k a)) (hy:ev st.env y=some (.int k b)) (hab:b<a):Sy.Yields P N av bor w0 st (.binOp .gtr t x y t2) ty (.bool true):=by
 have h:=jn (P:=P) (N:=N) (av:=av) (bor:=bor) (w0:=w0) (st:=st) (ty:=ty) (t:=t) (t2:=t2) hx hy
 rwa [decide_eq_true hab] at h
theorem u9 {a b:Int} [hI:Xu P t k] (hx:ev st.env x=some (.int k a)) (hy:ev st.env y=some (.int k b)) (hab:¬ b<a):Sy.Yields P N av bor w0 st (.binOp .gtr t x y t2) ty (.bool false):=by
 have h:=jn (P:=P) (N:=N) (av:=av) (bor:=bor) (w0:=w0) (st:=st) (ty:=ty) (t:=t) (t2:=t2) hx hy
 rwa [decide_eq_false hab] at h
end
section
variable {N:Nat} {av bor:List Nat} {w0:World} {st:St} {ty:TypeId} {x y:Operand} {E:Env} {loc:List Xl} {X:World→Prop} {ops:Array Oper} {kk k:St→Prop} {pos:String} {af:Array Edge} {g:Option (Nat×Bool)} {rest:List Oper} {bb want:Bool} {n:Nat} {t t2:TypeId} {d:Option Tmp}
theorem iR [hI:Xu Tryz.prog t .i64] {p q:Nat} (h:Sw Tryz.prog N av bor w0 ops rest ⟨(n,.int .i64 ((p+q:Nat):Int))::E,loc,X⟩ kk) (hx:ev E x=some (.int .i64 (p:Nat)):=by rfl) (hy:ev E y=some (.int .i64 (q:Nat)):=by rfl) (hq:p+q<9223372036854775808) (hg:gdB ops E g=some (bb,want):=by rfl) (hbb:bb=want:=by exact ax) (hd:Nat.blt n N=true:=by rfl) :
  Sw Tryz.prog N av bor w0 ops (⟨some n,.binOp .add t x y t2,ty,pos,af,g⟩::rest) ⟨E,loc,X⟩ kk:=bN (c:=((p+q:Nat):Int)) hx hy (by rw [←Int.natCast_add];exact IntWalk.i64_in _ ac) hg hbb hd h
theorem sy_subN_g [hI:Xu Tryz.prog t .i64] {p q:Nat} (h:Sw Tryz.prog N av bor w0 ops rest ⟨(n,.int .i64 ((p-q:Nat):Int))::E,loc,X⟩ kk) (hx:ev E x=some (.int .i64 (p:Nat)):=by rfl) (hy:ev E y=some (.int .i64 (q:Nat)):=by rfl) (hq:q≤p∧p<9223372036854775808) (hg:gdB ops E g=some (bb,want):=by rfl) (hbb:bb=want:=by exact ax) (hd:Nat.blt n N=true:=by rfl) :
  Sw Tryz.prog N av bor w0 ops (⟨some n,.binOp .sub t x y t2,ty,pos,af,g⟩::rest) ⟨E,loc,X⟩ kk:=fw (c:=((p-q:Nat):Int)) hx hy (by rw [show (p:Int)-(q:Int)=((p-q:Nat):Int) by omega];exact IntWalk.i64_in _ ac) hg hbb hd h
end
structure BinI_g (lo hi:Nat) where
 i:Nat
 j:Nat
 h1:lo≤i
 h2:i≤j
 h3:j≤hi
structure MerI_g (a m b mid:Nat) where
 i:Nat
 j:Nat
 h1:i≤j
 h2:mid<m→mid+m≤i+b∧j≤mid
 h3:m≤mid→a≤i∧j≤m
def cmpB_g (x y:ByteArray):Int:=bif Op.bytesLess x.toList y.toList then -1 else bif !(Op.bytesLess x.toList y.toList||seqB x y) then 1 else 0
theorem qq (x:ByteArray):Pu Tryz.prog 86 #[.string x] (fun _=>True) (.bool false):=by
 refine aq Tryz.func86 Tryz.ntmps86 fun av bor w0=>?_
 have h:=c8 x
 repeat' (first|refine gs ?_|(refine gp ?_ ?_<;>intro hx_ this)|fail)
 apply ae;apply aj;rfl;rfl
 rw [h]
 rfl
theorem nC (x y:ByteArray):Pu Tryz.prog 48 #[.string x,.string y] (fun _=>True) (.int .i64 (cmpB_g x y)):=by
 refine aq Tryz.func48 Tryz.ntmps48 fun av bor w0=>?_
 repeat' (first|refine ag (hc:=qq _) ?_|refine gs ?_|(refine rl ?_)|(refine rm ?_)|(refine gp ?_ ?_<;>intro hx_ this)|fail)
 (all_goals (apply ae;apply aj;rfl;rfl));all_goals first|rfl|(simp only [cmpB_g, *,decide_true,decide_false,cond_true,cond_false,Bool.and_true,Bool.true_and,Bool.and_false,Bool.false_and,Bool.not_true,Bool.not_false,Bool.or_true,Bool.true_or,Bool.or_false,Bool.false_or];done)|(simp_all [cmpB_g];done)
def cmpI (a b:Int):Int:=bif decide (a<b) then -1 else bif decide (b<a) then 1 else 0
def cmp2 (a b:Int) (x y:ByteArray):Int:=bif decide (cmpI a b=0) then cmpB_g x y else cmpI a b
theorem tK (x:Int):Pu Tryz.prog 194 #[.int .i64 x] (fun _=>True) (.bool false):=by
 refine aq Tryz.func194 Tryz.ntmps194 fun av bor w0=>?_
 repeat' (first|refine aw ?_ (cw false rfl rfl (by simp))|refine gs ?_|(refine gp ?_ ?_<;>intro hx_ this)|fail)
 exact ae (aj rfl rfl) rfl
theorem pu (x y:Int):Pu Tryz.prog 182 #[.int .i64 x,.int .i64 y] (fun _=>True) (.int .i64 (cmpI x y)):=by
 refine aq Tryz.func182 Tryz.ntmps182 fun av bor w0=>?_
 repeat' (first|refine ag (hc:=tK _) ?_|refine gs ?_|(refine gp ?_ ?_<;>intro hx_ this)|fail)
 (all_goals (apply ae;apply aj;rfl;rfl));all_goals first|rfl|(simp only [cmpI, *,decide_true,decide_false,cond_true,cond_false,Bool.and_true,Bool.true_and,Bool.and_false,Bool.false_and,Bool.not_true,Bool.not_false,Bool.or_true,Bool.true_or,Bool.or_false,Bool.false_or];done)|(simp_all [cmpI];done)
structure OrI (a b:Int) where
 k:Nat
 hk:k≤2
 ha:0<k→a=0
 hb:1<k→b=0
theorem AH (s:Xi) (a b:Int):Pu Tryz.prog 181 #[s.v] (fun w=>Ints w s [a,b]) (.int .i64 (bif decide (a=0) then b else a)):=by
 refine aq Tryz.func181 Tryz.ntmps181 fun av bor w0=>?_
 refine aD (p:=s.n=2∧s.p.isSome=true) (fun w h=>⟨h.len_,h.some_ (by simp)⟩) fun ⟨hsn,hsp⟩=>?_
 repeat' (first|refine gs ?_|fail)
 refine az (ι:=OrI a b) (fun i=>⟨[(3,.int .i64 0),(6,s.v),(7,.int .i64 (s.n:Nat)),(8,.int .i64 (i.k:Nat))],[],fun w=>Ints w s [a,b]⟩) (fun i=>2-i.k) ⟨0,Nat.zero_le _,fun h=>absurd h (by decide),fun h=>absurd h (by decide)⟩ (ak an (al _) fun _ h=>h) fun i=>?_
 obtain ⟨k,hk,ha,hb⟩:=i
 simp only
 by_cases hlt:k<2
 · have hget:∀ w,Ints w s [a,b]→CellAt w s.p k (.int .i64 ([a,b].getD k 0)):=fun w h=>Ints.get h hlt
   have hx:[a,b].getD k 0=a∧k=0∨[a,b].getD k 0=b∧k=1:=by
    rcases k with _|_|k
    · exact .inl ⟨rfl,rfl⟩
    · exact .inr ⟨rfl,rfl⟩
    · omega
   generalize [a,b].getD k 0=x at *
   by_cases h0:x=0
   · repeat' (first|refine aw ?_ (be true rfl rfl (decide_eq_true ac))|refine aw ?_ (cw false rfl rfl (by simp [h0]))|refine gs ?_|(refine aA (q:=k) ?_)|(refine bE (u:=.int .i64 x) (hF:=hget) ?_)|(refine gp ?_ ?_<;>intro hx_ this)|fail)
     exact ⟨(⟨k+1,hlt,fun _=>by rcases hx with h|h<;>first|omega|exact ha ac,fun _=>by rcases hx with h|h<;>omega⟩:OrI a b),(by show 2-(k+1)<2-k;omega),ak an (al _) fun _ h=>h⟩
   · repeat' (first|refine aw ?_ (be true rfl rfl (decide_eq_true ac))|refine aw ?_ (cw true rfl rfl (by simp [h0]))|refine gs ?_|(refine aA (q:=k) ?_)|(refine bE (u:=.int .i64 x) (hF:=hget) ?_)|(refine gp ?_ ?_<;>intro hx_ this)|fail)
     refine ae (aj rfl rfl) ?_
     rcases hx with ⟨h1,h2⟩|⟨h1,h2⟩
     · rw [←h1,decide_eq_false h0];rfl
     · rw [ha ac,←h1];rfl
 · repeat' (first|refine aw ?_ (be false rfl rfl (decide_eq_false ac))|refine gs ?_|(refine gp ?_ ?_<;>intro hx_ this)|fail)
   refine ae (aj rfl rfl) ?_
   rw [ha ac,hb (by omega)]
   rfl
end SrG
end Go.Proofs.YtgffbiobmamobaaGreatDoor
namespace Go.Proofs.YtgffbiobmamobaaGreatDoor
open Go Go.Proofs Sy SrG
structure Xt where
 rank:Int
 dg:ByteArray
 a:Xf
def Xt.cells (f:Xt):List Value:=.int .i64 f.rank::.string f.dg::f.a.cells
def Xt.zero:Xt:=⟨0,⟨#[]⟩,Xf.zero⟩
namespace SrD
theorem cellsF (P:List Xt):∀ r∈P.map Xt.cells,r.length=14:=fun r hr=>by
 obtain ⟨c,_,rfl⟩:=List.mem_map.1 hr
 rfl
abbrev postR (s:Xi) (P:List Xt):Xl:=orow 239 14 (.slice s.p s.n s.c) s.n (P.map Xt.cells).flatten
theorem dV:∀ (L:List Xt) (p:Nat) (x:Xt),p<L.length→(L.map Xt.cells).flatten.take (p*14)++x.cells++(L.map Xt.cells).flatten.drop (p*14+14)=((L.set p x).map Xt.cells).flatten
 | [],p,x,h=>absurd h (by simp)
 | c::L,0,x,h=>by
  have h6:c.cells.length=14:=rfl
  rw [List.set_cons_zero,List.map_cons,List.map_cons,List.flatten_cons,List.flatten_cons,Nat.zero_mul,Nat.zero_add,List.take_zero,List.nil_append,List.drop_append,h6,List.drop_of_length_le (by omega)]
  rfl
 | c::L,p+1,x,h=>by
  have h6:c.cells.length=14:=rfl
  have ih:=dV L p x (by simpa using h)
  rw [List.set_cons_succ,List.map_cons,List.map_cons,List.flatten_cons,List.flatten_cons,←ih,List.take_append,List.drop_append,h6,List.take_of_length_le ac,List.drop_of_length_le ac,
   show (p+1)*14-14=p*14 from by omega,show (p+1)*14+14-14=p*14+14 from by omega,List.nil_append,List.append_assoc,List.append_assoc,List.append_assoc]
theorem eM {P:List Xt} {i j:Nat} {x y:Xt} (hi:P[i]?=some x) (hj:P[j]?=some y):((P.set i y).set j x).Perm P:=by
 obtain ⟨h1,rfl⟩:=List.getElem?_eq_some_iff.1 hi
 obtain ⟨h2,rfl⟩:=List.getElem?_eq_some_iff.1 hj
 exact List.set_set_perm h1 h2
section
variable {N:Nat} {av bor:List Nat} {w0:World} {st:St} {ty:TypeId} {x y:Operand} {E:Env} {loc:List Xl} {X:World→Prop} {ops:Array Oper} {kk:St→Prop} {pos:String} {af:Array Edge} {g:Option (Nat×Bool)} {rest:List Oper} {bb want:Bool}
theorem dB {A:Option Addr} {m c i:Nat} {P:List Xt} {p:Xt} (hx:ev st.env x=some (elP A (i*14))) (hm:orow 239 14 (.slice A m c) m (P.map Xt.cells).flatten∈st.loc) (hn:m=P.length) (hi:P[i]?=some p) :
  Sy.Yields Tryz.prog N av bor w0 st (.load 239 x) ty (.agg p.cells.toArray):=eP (xs:=P.map Xt.cells) (cs:=p.cells) hx hm (by simp [hn]) (cellsF P) (by simp [hi])
theorem eT {d:Option Tmp} {loc':List Xl} {A:Option Addr} {m c i:Nat} {P:List Xt} {p:Xt} (hx:ev E x=some (elP A (i*14)):=by rfl) (hy:ev E y=some (.agg p.cells.toArray):=by rfl) (hi:i<m:=by omega) (hn:m=P.length)
  (hA:At (orow 239 14 (.slice A m c) m (P.map Xt.cells).flatten) (orow 239 14 (.slice A m c) m ((P.set i p).map Xt.cells).flatten) loc loc':=by (repeat (first|exact At.here _|apply At.there))) (hg:gdB ops E g=some (bb,want):=by rfl) (hb:bb=want:=by exact ax) (hd:inB N d=true:=by rfl)
  (h:Sw Tryz.prog N av bor w0 ops rest ⟨putE E d undef,loc',X⟩ kk):Sw Tryz.prog N av bor w0 ops (⟨d,.store 239 x y,ty,pos,af,g⟩::rest) ⟨E,loc,X⟩ kk :=
 mL (i:=i) (size:=14) (vs:=p.cells) ai hx hy rfl rfl rfl hi (dV P i p ac) hA hg hb hd h
end
def cmpX (x y:Xt):Int:=cmp2 x.rank y.rank x.dg y.dg
theorem jg (x y:Xt):Pu Tryz.prog 180 #[.agg x.cells.toArray,.agg y.cells.toArray] (fun _=>True) (.int .i64 (cmpX x y)):=by
 refine aq Tryz.func180 Tryz.ntmps180 fun av bor w0=>?_
 have h1:=pu x.rank y.rank
 have h2:=nC x.dg y.dg
 rw [cmpX,cmp2]
 generalize cmpI x.rank y.rank=k at *
 generalize SrG.cmpB_g x.dg y.dg=l at *
 have h3:=fun s=>AH s k l
 repeat' (first|refine gs ?_|refine gs1 fun _=>?_|(refine gp ?_ ?_<;>intro hx_ this)|fail)
 rename_i b2 b3
 (refine ao ⟨[0,1,2,3,5,6,7,8],[(4,⟨[],[(9,⟨[],[(10,⟨[],[(11,⟨[12],[]⟩)]⟩)]⟩)]⟩)]⟩ [cel b3 239 y.cells,cel b2 239 x.cells] (fun _=>True) (h:=?_))
 all_goals repeat' (first|(refine ag (hc:=h1) ?_)|(refine ag (hc:=h2) ?_)|(refine ag (hc:=h3 ⟨some ⟨bs,0,none⟩,2,2⟩) (hX:=fun w h=>aU (xs:=[[.int .i64 k],[.int .i64 l]]) h.2 rfl (by decide) (by simp)) ?_)|refine gdz ?_|refine aF ?_ (h':=?_)|exact aG|((refine bG (len:=2) (vs:=[.int .i64 k,.int .i64 l]) fun bs=>?_;refine bO ?_))|refine gs1 fun _=>?_|(refine gq ?_ ?_<;>intro hx_ this)|fail)
 all_goals
  repeat' (first|refine gs ?_|refine gs1 fun _=>?_|(refine gp ?_ ?_<;>intro hx_ this)|fail)
  exact ae (aj rfl rfl) rfl
def cmpF:Value:=.func (.func 180) #[] #[]
def rk (P:List Xt) (i:Nat):Int:=(P.getD i Xt.zero).rank
theorem rk_get {P:List Xt} {i:Nat} {x:Xt} (h:P[i]?=some x):rk P i=x.rank:=by rw [rk,List.getD_eq_getElem?_getD,h];rfl
def Ord (P:List Xt) (k:Nat):Prop:=∀ i l,i<l→l<k→rk P i≤rk P l
def Ord1 (P:List Xt) (k j:Nat):Prop:=(∀ i l,i<l→l≤k→i≠j→l≠j→rk P i≤rk P l)∧∀ l,j<l→l≤k→rk P j≤rk P l
theorem yI {P:List Xt} {k:Nat} (h:Ord P k):Ord1 P k k:=⟨fun i l h1 h2 _ h4=>h i l h1 ac,fun l h1 h2=>by omega⟩
theorem wc {P:List Xt} {k:Nat} (h:Ord1 P k 0):Ord P (k+1):=fun i l h1 h2=>by
 by_cases hi:i=0
 · subst hi
   exact h.2 l h1 ac
 · exact h.1 i l h1 ac hi ac
theorem wd {P:List Xt} {k j:Nat} (h:Ord1 P k j) (hj:j≤k) (h0:0<j) (hle:rk P (j-1)≤rk P j):Ord P (k+1):=fun i l h1 h2=>by
 by_cases hi:i=j
 · subst hi
   exact h.2 l h1 ac
 · by_cases hl:l=j
   · subst hl
     by_cases hi2:i=l-1
     · subst hi2
       exact hle
     · exact Int.le_trans (h.1 i (l-1) ac ac hi ac) hle
   · exact h.1 i l h1 ac hi hl
theorem yF {P:List Xt} {j:Nat} {x y:Xt} (h0:0<j) (hx:P[j]?=some x) (hy:P[j-1]?=some y) (i:Nat):rk ((P.set j y).set (j-1) x) i=if i=j-1 then x.rank else if i=j then y.rank else rk P i:=by
 obtain ⟨h1,_⟩:=List.getElem?_eq_some_iff.1 hx
 simp only [rk,List.getD_eq_getElem?_getD,List.getElem?_set,List.length_set]
 by_cases h2:i=j-1
 · rw [if_pos h2,if_pos h2.symm,if_pos (by omega)]
   rfl
 · rw [if_neg h2,if_neg (fun h=>h2 h.symm)]
   by_cases h3:i=j
   · rw [if_pos h3,if_pos h3.symm,if_pos h1]
     rfl
   · rw [if_neg h3,if_neg (fun h=>h3 h.symm)]
theorem tv {P:List Xt} {k j:Nat} {x y:Xt} (h:Ord1 P k j) (h0:0<j) (hj:j≤k) (hx:P[j]?=some x) (hy:P[j-1]?=some y) (hle:x.rank≤y.rank):Ord1 ((P.set j y).set (j-1) x) k (j-1):=by
 have hr:=yF h0 hx hy
 have ex:=rk_get hx
 have ey:=rk_get hy
 refine ⟨fun i l h1 h2 h3 h4=>?_,fun l h1 h2=>?_⟩
 · rw [hr i,hr l,if_neg h3,if_neg h4]
   by_cases hi:i=j
   · subst hi
     rw [if_pos rfl,if_neg ac,←ey]
     exact h.1 (i-1) l ac h2 ac ac
   · rw [if_neg hi]
     by_cases hl:l=j
     · subst hl
       rw [if_pos rfl,←ey]
       exact h.1 i (l-1) ac ac hi ac
     · rw [if_neg hl]
       exact h.1 i l h1 h2 hi hl
 · rw [hr (j-1),hr l,if_pos rfl,if_neg (by omega)]
   by_cases hl:l=j
   · rw [if_pos hl]
     exact hle
   · rw [if_neg hl,←ex]
     exact h.2 l ac h2
theorem By {x y:Xt} (h:cmpX x y<0):x.rank≤y.rank:=by
 rw [cmpX,cmp2,cmpI] at h
 by_cases h1:x.rank<y.rank
 · omega
 · by_cases h2:y.rank<x.rank
   · rw [decide_eq_false h1,decide_eq_true h2] at h
     exact absurd (show (1:Int)<0 from h) (by decide)
   · omega
theorem Bz {x y:Xt} (h:¬ cmpX x y<0):y.rank≤x.rank:=by
 rw [cmpX,cmp2,cmpI] at h
 by_cases h1:x.rank<y.rank
 · rw [decide_eq_true h1] at h
   exact absurd (show (-1:Int)<0 by decide) h
 · omega
def SortAt (s:Xi) (P:List Xt) (u:Value) (R:List Xl) (X:World→Prop):Prop:=u=.tuple #[]∧∃ Q:List Xt,(Q.Perm P∧Ord Q Q.length)∧R=[postR s Q]
structure InsI (P:List Xt) where
 k:Nat
 h1:1≤k
 h2:k≤P.length∨k=1
 Q:List Xt
 hQ:Q.Perm P
 ho:Ord Q k
structure InsJ (P:List Xt) (k:Nat) where
 j:Nat
 h2:j≤k
 Q:List Xt
 hQ:Q.Perm P
 ho:Ord1 Q k j
theorem eH (s:Xi) (P:List Xt) (hs:s.n=P.length) (hm:s.n≤1000000) :
  Ct Tryz.prog 199 #[s.v,.int .i64 ((0:Nat):Int),.int .i64 (s.n:Nat),cmpF] [postR s P] (fun _=>True) (SortAt s P):=by
 refine dZ Tryz.func199 Tryz.ntmps199 fun av bor w0=>?_
 refine cY (r:=postR s P) ay (p:=0<s.n→s.p.isSome=true) (fun w h hn=>cG h hn) fun hp=>?_
 repeat' (first|refine iR (q:=1) (hq:=by omega) ?_|refine gs ?_|(refine gp ?_ ?_<;>intro hx_ this)|fail)
 refine az (ι:=InsI P) (fun i=>⟨[(0,s.v),(1,.int .i64 ((0:Nat):Int)),(2,.int .i64 (s.n:Nat)),(3,cmpF),(8,.int .i64 (i.k:Nat))],[postR s i.Q],fun _=>True⟩) (fun i=>s.n-i.k) ⟨1,Nat.le_refl _,.inr rfl,P,List.Perm.refl _,fun i l h1 h2=>by omega⟩ (ak an (al _) fun _ h=>h) fun i=>?_
 obtain ⟨k,h1,h2,Q,hQ,ho⟩:=i
 simp only
 have hl:=hQ.length_eq
 repeat' (first|refine gs ?_|(refine gp ?_ ?_<;>intro hx_ this)|fail)
 · have hkb:k<s.n:=by omega
   refine az (ι:=InsJ P k) (fun i=>⟨[(0,s.v),(1,.int .i64 ((0:Nat):Int)),(2,.int .i64 (s.n:Nat)),(3,cmpF),(8,.int .i64 (k:Nat)),(9,.int .i64 (i.j:Nat))],[postR s i.Q],fun _=>True⟩) (fun i=>i.j) ⟨k,Nat.le_refl _,Q,hQ,yI ho⟩ (ak an (al _) fun _ h=>h) fun i=>?_
   obtain ⟨j,h4,Q2,hQ2,ho2⟩:=i
   simp only
   have hl2:=hQ2.length_eq
   have hp':=hp ac
   by_cases hja:0<j
   · obtain ⟨x,hx⟩:∃ x,Q2[j]?=some x:=⟨_,List.getElem?_eq_getElem ac⟩
     obtain ⟨y,hy⟩:∃ y,Q2[j-1]?=some y:=⟨_,List.getElem?_eq_getElem ac⟩
     have hcm:=jg x y
     have hlt:cmpX x y<0→x.rank≤y.rank:=By
     have hge:¬ cmpX x y<0→y.rank≤x.rank:=Bz
     generalize cmpX x y=z at *
     apply cw_seq
     apply cw_seq
     unfold cmpF
     (refine ao ⟨[0,1,2,3,4,5,6,7,9,10,11,12],[(8,⟨[],[(13,⟨[],[(14,⟨[15,16],[]⟩)]⟩)]⟩),(13,⟨[],[(8,⟨[],[(14,⟨[15,16],[]⟩)]⟩)]⟩)]⟩ [] (fun _=>True) (h:=?_))
     all_goals repeat' (first|refine aJ (hy:=by first|(apply u7;rfl;rfl;omega)) ?_|(refine ag (hc:=hcm) ?_)|refine gd ?_|refine aJ (hy:=by first|(apply bk (q:=j*14);rfl;rfl;omega;omega;assumption;(first|rfl|omega))|(apply bk (q:=(j-1)*14);rfl;rfl;omega;omega;assumption;(first|rfl|omega))) ?_|refine aF ?_ (h':=?_)|exact aG|(refine am (dB (i:=j) (P:=Q2) rfl ay ac hx) rfl rfl rfl ?_)|(refine am (dB (i:=j-1) (P:=Q2) rfl ay ac hy) rfl rfl rfl ?_)|(refine gq ?_ ?_<;>intro hx_ this)|fail)
     all_goals
      repeat' (first|refine gs ?_|(refine gp ?_ ?_<;>intro hx_ this)|fail)
      · (refine ao ⟨[0,1,2,3,4,5,6,7,8,10,11,12],[(9,⟨[],[(13,⟨[14],[(15,⟨[16],[(17,⟨[],[]⟩)]⟩)]⟩)]⟩),(13,⟨[],[(9,⟨[14],[(15,⟨[16],[(17,⟨[],[]⟩)]⟩)]⟩)]⟩)]⟩ [] (fun _=>True) (h:=?_))
        all_goals repeat' (first|refine gd ?_|refine aJ (hy:=by first|(apply bk (q:=j*14);rfl;rfl;omega;omega;assumption;(first|rfl|omega))|(apply bk (q:=(j-1)*14);rfl;rfl;omega;omega;assumption;(first|rfl|omega))) ?_|refine aF ?_ (h':=?_)|exact aG|(refine am (dB (i:=j) (P:=Q2) rfl ay ac hx) rfl rfl rfl ?_)|(refine am (dB (i:=j-1) (P:=Q2) rfl ay ac hy) rfl rfl rfl ?_)|((refine eT (i:=j) (p:=y) rfl rfl ac (by first|omega|(simp only [List.length_set];omega)) (At.here _) rfl ax rfl ?_))|((refine eT (i:=j-1) (p:=x) rfl rfl ac (by first|omega|(simp only [List.length_set];omega)) (At.here _) rfl ax rfl ?_))|(refine gq ?_ ?_<;>intro hx_ this)|fail)
        all_goals
         repeat' (first|refine sy_subN_g (q:=1) (hq:=by omega) ?_|refine gs ?_|(refine gp ?_ ?_<;>intro hx_ this)|fail)
         exact ⟨(⟨j-1,by omega,(Q2.set j y).set (j-1) x,(eM hx hy).trans hQ2,tv ho2 hja h4 hx hy (hlt (by first|assumption|omega))⟩:InsJ P k),(by show j-1<j;omega),ak an (al _) fun _ h=>h⟩
      · repeat' (first|refine iR (q:=1) (hq:=by omega) ?_|refine gs ?_|(refine gp ?_ ?_<;>intro hx_ this)|fail)
        exact ⟨(⟨k+1,by omega,by omega,Q2,hQ2,wd ho2 h4 hja (by rw [rk_get hx,rk_get hy];exact hge (by first|assumption|omega))⟩:InsI P),(by show s.n-(k+1)<s.n-k;omega),ak an (al _) fun _ h=>h⟩
   · apply cw_seq
     apply cw_seq
     unfold cmpF
     (refine ao ⟨[0,1,2,3,4,5,6,7,9,10,11,12],[(8,⟨[],[(13,⟨[],[(14,⟨[15,16],[]⟩)]⟩)]⟩),(13,⟨[],[(8,⟨[],[(14,⟨[15,16],[]⟩)]⟩)]⟩)]⟩ [] (fun _=>True) (h:=?_))
     all_goals repeat' (first|refine aJ (hy:=by first|(apply u9;rfl;rfl;omega)) ?_|refine gd ?_|refine aF ?_ (h':=?_)|exact aG|(refine gq ?_ ?_<;>intro hx_ this)|fail)
     all_goals
      repeat' (first|refine iR (q:=1) (hq:=by omega) ?_|refine gs ?_|(refine gp ?_ ?_<;>intro hx_ this)|fail)
      exact ⟨(⟨k+1,by omega,by omega,Q2,hQ2,by have e:j=0:=ac;subst e;exact wc ho2⟩:InsI P),(by show s.n-(k+1)<s.n-k;omega),ak an (al _) fun _ h=>h⟩
 · exact br (aS rfl) ⟨rfl,Q,⟨hQ,fun i l h5 h6=>ho i l h5 ac⟩,rfl⟩
theorem iT (s:Xi) (P:List Xt) (hs:s.n=P.length) (h1:s.n≤19):Ct Tryz.prog 193 #[s.v,.int .i64 (s.n:Nat),cmpF] [postR s P] (fun _=>True) (SortAt s P):=by
 refine dZ Tryz.func193 Tryz.ntmps193 fun av bor w0=>?_
 repeat' (first|refine gs ?_|fail)
 refine az (ι:=Unit) (fun _=>⟨[(0,s.v),(1,.int .i64 (s.n:Nat)),(2,cmpF),(6,.int .i64 20),(7,.int .i64 0),(8,.int .i64 20)],[postR s P],fun _=>True⟩) (fun _=>0) () (ak an (al _) fun _ h=>h) fun _=>?_
 repeat' (first|refine gs ?_|(refine gp ?_ ?_<;>intro hx_ this)|fail)
 · exfalso;omega
 refine ci (pre:=[postR s P]) (fr:=[]) (first:=#[]) (caps:=#[]) (hc:=eH s P hs ac) (hX:=fun _ _=>trivial) (h:=?_)
 rintro v R X' ⟨rfl,Q,hQ,rfl⟩
 repeat' (first|refine gs ?_|fail)
 refine az (ι:=Unit) (fun _=>⟨[(1,.int .i64 (s.n:Nat)),(6,.int .i64 20)],[postR s Q],fun _=>True⟩) (fun _=>0) () (ak an (al _) fun _ h=>trivial) fun _=>?_
 repeat' (first|refine gs ?_|(refine gp ?_ ?_<;>intro hx_ this)|fail)
 · exfalso;omega
 exact br (aS rfl) ⟨rfl,Q,hQ,rfl⟩
theorem sortStable_ct (s:Xi) (P:List Xt) (hs:s.n=P.length) (h1:s.n≤19):Ct Tryz.prog 179 #[s.v,cmpF] [postR s P] (fun _=>True) (SortAt s P):=by
 refine dZ Tryz.func179 Tryz.ntmps179 fun av bor w0=>?_
 repeat' (first|refine gs ?_|fail)
 refine ci (pre:=[postR s P]) (fr:=[]) (first:=#[]) (caps:=#[]) (hc:=iT s P hs h1) (hX:=fun _ _=>trivial) (h:=?_)
 rintro v R X' ⟨rfl,Q,hQ,rfl⟩
 repeat' (first|refine gs ?_|fail)
 exact br (aS rfl) ⟨rfl,Q,hQ,rfl⟩
end SrD
end Go.Proofs.YtgffbiobmamobaaGreatDoor
namespace Go.Proofs.YtgffbiobmamobaaGreatDoor
open Go Go.Proofs Sy
theorem l4:∀ (ks:List ByteArray) (k:ByteArray),mget (setM ks) k=bif hasS ks k then some (.bool true) else none
 | [],_=>rfl
 | a::ks,k=>by
  have ih:=l4 ks k
  have e:Xq.eqb k a=seqB k a:=Bool.eq_iff_iff.2 ((Xq.eqb_iff k a).trans seqB_iff.symm)
  simp only [setM,List.map_cons,mget,hasS,List.any_cons,e] at ih ⊢
  cases seqB k a with
  | true=>rfl
  | false=>simpa using ih
section
variable {N:Nat} {av bor:List Nat} {w0:World} {ops:Array Oper} {rest:List Oper} {k:St→Prop} {E:Env} {loc:List Xl} {X:World→Prop} {x:Operand} {st:St}
variable {n:Nat} {ty:TypeId} {pos:String} {af:Array Edge} {g:Option (Nat×Bool)} {bb want:Bool}
end
def chainC (l:List Xa) (id:ByteArray):Xa:=(findC l id).getD Xa.zero
def tieC (l:List Xa) (id:ByteArray):TieS:=tieV (chainC l id).actsL ((chainC l id).acts.n:Int)
def blockedV (l:List Xa) (a b:ByteArray):Bool:=hasS (tieC l a).b b||hasS (tieC l b).b a
section
variable {P:Program} {N:Nat} {av bor:List Nat} {w0:World} {ty:TypeId}
end
section
variable {N:Nat} {av bor:List Nat} {w0:World} {st:St} {ty:TypeId} {x:Operand}
theorem j5 {p s:Int} (hx:ev st.env x=some (.agg #[.int .i64 s,.int .i64 p])):Sy.Yields Tryz.prog N av bor w0 st (.field 59 x 1) ty (.int .i64 p):=Sy.Yields.mk fun A w ok d pos af g=>by
 simp [execOp,ok.eval hx,Instr.field,run_underlying Tryz.underlying59,asAgg,part,isAgg,run_underlying Tryz.underlying3]
end
def pickV (n by_:Int):Int:=bif decide (n.tmod by_<0) then n.tmod by_+by_ else n.tmod by_
theorem aV (n:Int) (m:Nat) (hm:1≤m) (hm2:m≤9223372036854775807):Pu Tryz.prog 36 #[.int .i64 n,.int .i64 m] (fun _=>True) (.int .i64 (pickV n m)):=by
 refine aq Tryz.func36 Tryz.ntmps36 fun av bor w0=>?_
 have h1:n.tmod (m:Int)<m:=Int.tmod_lt_of_pos _ ac
 have h2:-(m:Int)<n.tmod m:=Int.lt_tmod_of_pos _ ac
 have hv:pickV n m=bif decide (n.tmod (m:Int)<0) then n.tmod (m:Int)+m else n.tmod (m:Int):=rfl
 generalize hr:n.tmod (m:Int)=r at *
 repeat' (first|refine gi (c:=r) (hc:=hr) (hb:=by omega) ?_|refine gs ?_|(refine gp ?_ ?_<;>intro hx_ this)|fail)
 all_goals
  apply ae;apply aj;rfl;rfl
  rw [hv,‹decide (r<0)=_›]
  rfl
def seedB (i:Nat):ByteArray:=⟨#[97,99,116,111,114,32]⟩++ofInts [(i:Int)]
def keyA (i:Nat):Eg:=keyOf (seedB i)
theorem nd (i:Nat) (hi:i<256):Pu Tryz.prog 38 #[.int .i64 (i:Int)] Xg (keyA i).v:=by
 refine aq Tryz.func38 Tryz.ntmps38 fun av bor w0=>?_
 have hw:IntKind.u8.wrap (i:Int)=(i:Int):=by rw [wrap8,Nat.mod_eq_of_lt hi]
 have hsz:(seedB i).size≤1000000000000:=by
  have:(seedB i).size=7:=rfl
  omega
 repeat' (first|refine iQ (c:=(i:Int)) (hc:=hw) (h:=?_)|(refine ag (hc:=kp (seedB i) hsz) ?_)|refine gs ?_|refine gs1 fun _=>?_|(refine bG (len:=1) (vs:=[.int .u8 (i:Int)]) fun _=>?_)|(refine am (vd (ns:=[(i:Int)]) rfl aC rfl (by decide)) rfl rfl rfl ?_)|(refine mK (hb:=by exact (show 6+1≤9223372036854775807 by decide)) ?_)|(refine gp ?_ ?_<;>intro hx_ this)|fail)
 exact ae (aI rfl rfl aC (by rfl)) rfl
def idA21 (i:Nat):ByteArray:=idV (keyA i).p
theorem wz (i:Nat):(keyA i).p<9223372036854775808∧0≤(keyA i).p:=by
 have:=nw 37 (keyN (seedB i))
 exact ⟨by show ((expV 37 (keyN (seedB i)):Nat):Int)<_;omega,by show 0≤((expV 37 (keyN (seedB i)):Nat):Int);omega⟩
theorem rW (i:Nat) (hi:i<256):Pu Tryz.prog 50 #[.int .i64 (i:Int)] Xg (.string (idA21 i)):=by
 refine aq Tryz.func50 Tryz.ntmps50 fun av bor w0=>?_
 have hk:=nd i hi
 have hp:=(wz i).1
 have hid:=qt (keyA i).p hp
 have hv:(keyA i).v=.agg #[.int .i64 (keyA i).s,.int .i64 (keyA i).p]:=rfl
 rw [hv] at hk
 unfold idA21
 generalize (keyA i).p=p at *
 generalize (keyA i).s=s at *
 repeat' (first|(refine ag (hc:=hk) ?_)|(refine ag (hc:=hid) ?_)|refine gs ?_|(refine am (j5 rfl) rfl rfl rfl ?_)|(refine gp ?_ ?_<;>intro hx_ this)|fail)
 exact ae (aj rfl rfl) rfl
set_option maxRecDepth 20000 in
theorem fq (a:Xc) (hr:a.Rng) (hs:a.Sm):Pu Tryz.prog 42 #[a.v] (fun w=>a.at_ w∧Xg w) (.string (digV a)):=by
 refine aq Tryz.func42 Tryz.ntmps42 fun av bor w0=>?_
 repeat' (first|refine gs ?_|refine gs1 fun _=>?_|(refine gp ?_ ?_<;>intro hx_ this)|fail)
 refine aT (hc:=ir a hr hs) fun v1 X1 h1=>?_
 obtain ⟨a',rfl,hd,hr',ha'⟩:=h1
 rw [←hd]
 have hdi:=gO a' hr'
 generalize digV a'=D at *
 repeat' (first|(refine ag (hc:=hdi) (hX:=fun w h=>⟨ha' w h.2,h.1.2⟩) ?_)|refine gs ?_|refine gs1 fun _=>?_|(refine gp ?_ ?_<;>intro hx_ this)|fail)
 exact ae (aj rfl rfl) rfl
def Xa.more (c:Xa) (s:Xi) (a:Xc):Xa:={ c with acts:=s,actsL:=c.actsL++[a],prev:=digV a }
def LongAt (c:Xa) (a:Xc) (u:Value) (X:World→Prop):Prop:=∃ s:Xi,u=(c.more s a).v∧s.n=c.acts.n+1∧∀ w,X w→(c.more s a).at_ w
set_option maxRecDepth 20000 in
theorem l8 (c:Xa) (a:Xc) (hr:a.Rng) (hs:a.Sm) (hcl:c.actsL.length≤1000000):Mk Tryz.prog 41 #[c.v,a.v] (fun w=>(c.at_ w∧a.at_ w)∧Xg w) (LongAt c a):=by
 refine bS Tryz.func41 Tryz.ntmps41 fun av bor w0=>?_
 refine aD (p:=c.acts.n=c.actsL.length) (fun w h=>Acts.len_ h.1.1) fun hl=>?_
 have hdi:=fq a hr hs
 unfold LongAt Xa.more
 generalize digV a=D at *
 repeat' (first|refine gs ?_|refine gs1 fun _=>?_|fail)
 rename_i b2 b3 b4
 refine ej (ι:=Option Addr×Nat) (fun i=>⟨[(2,.pointer (some ⟨b2,0,none⟩)),(3,.pointer (some ⟨b3,0,none⟩)),(4,.pointer (some ⟨b4,0,none⟩))],
  [orow 72 20 (.slice i.1 (0+c.acts.n+1) i.2) (0+c.acts.n+1) ([]++(c.actsL.map Xc.cells).flatten++a.cells),cel b4 65 Xa.zero.cells,cel b3 72 a.cells,cel b2 65 (c.cells.set 1 (.slice i.1 (0+c.acts.n+1) i.2))],fun w=>(c.at_ w∧a.at_ w)∧Xg w⟩) ?_ fun i=>?_
 · (refine ao ⟨[1],[(0,⟨[],[(2,⟨[],[(3,⟨[],[(4,⟨[],[(5,⟨[],[(6,⟨[7],[(8,⟨[],[]⟩)]⟩)]⟩)]⟩)]⟩),(4,⟨[],[(3,⟨[],[(5,⟨[],[(6,⟨[7],[(8,⟨[],[]⟩)]⟩)]⟩)]⟩),(5,⟨[],[(3,⟨[],[(6,⟨[7],[(8,⟨[],[]⟩)]⟩)]⟩)]⟩)]⟩)]⟩),(4,⟨[],[(2,⟨[],[(3,⟨[],[(5,⟨[],[(6,⟨[7],[(8,⟨[],[]⟩)]⟩)]⟩)]⟩),(5,⟨[],[(3,⟨[],[(6,⟨[7],[(8,⟨[],[]⟩)]⟩)]⟩)]⟩)]⟩),(5,⟨[],[(2,⟨[],[(3,⟨[],[(6,⟨[7],[(8,⟨[],[]⟩)]⟩)]⟩)]⟩)]⟩)]⟩)]⟩),(2,⟨[],[(0,⟨[],[(3,⟨[],[(4,⟨[],[(5,⟨[],[(6,⟨[7],[(8,⟨[],[]⟩)]⟩)]⟩)]⟩)]⟩),(4,⟨[],[(3,⟨[],[(5,⟨[],[(6,⟨[7],[(8,⟨[],[]⟩)]⟩)]⟩)]⟩),(5,⟨[],[(3,⟨[],[(6,⟨[7],[(8,⟨[],[]⟩)]⟩)]⟩)]⟩)]⟩)]⟩),(4,⟨[],[(0,⟨[],[(3,⟨[],[(5,⟨[],[(6,⟨[7],[(8,⟨[],[]⟩)]⟩)]⟩)]⟩),(5,⟨[],[(3,⟨[],[(6,⟨[7],[(8,⟨[],[]⟩)]⟩)]⟩)]⟩)]⟩),(5,⟨[],[(0,⟨[],[(3,⟨[],[(6,⟨[7],[(8,⟨[],[]⟩)]⟩)]⟩)]⟩)]⟩)]⟩)]⟩),(4,⟨[],[(0,⟨[],[(2,⟨[],[(3,⟨[],[(5,⟨[],[(6,⟨[7],[(8,⟨[],[]⟩)]⟩)]⟩)]⟩),(5,⟨[],[(3,⟨[],[(6,⟨[7],[(8,⟨[],[]⟩)]⟩)]⟩)]⟩)]⟩),(5,⟨[],[(2,⟨[],[(3,⟨[],[(6,⟨[7],[(8,⟨[],[]⟩)]⟩)]⟩)]⟩)]⟩)]⟩),(2,⟨[],[(0,⟨[],[(3,⟨[],[(5,⟨[],[(6,⟨[7],[(8,⟨[],[]⟩)]⟩)]⟩)]⟩),(5,⟨[],[(3,⟨[],[(6,⟨[7],[(8,⟨[],[]⟩)]⟩)]⟩)]⟩)]⟩),(5,⟨[],[(0,⟨[],[(3,⟨[],[(6,⟨[7],[(8,⟨[],[]⟩)]⟩)]⟩)]⟩)]⟩)]⟩),(5,⟨[],[(0,⟨[],[(2,⟨[],[(3,⟨[],[(6,⟨[7],[(8,⟨[],[]⟩)]⟩)]⟩)]⟩)]⟩),(2,⟨[],[(0,⟨[],[(3,⟨[],[(6,⟨[7],[(8,⟨[],[]⟩)]⟩)]⟩)]⟩)]⟩)]⟩)]⟩)]⟩ [] (fun _=>True) (h:=?_))
   all_goals repeat' (first|refine gd ?_|refine aF ?_ (h':=?_)|exact aG|refine fk fun _=>?_|refine bH (vs:=[.agg a.cells.toArray]) (css:=a.cells) (hsz:=by rfl) (hcs:=by rfl) fun _=>?_|(refine fI ?_;refine aH (size:=20) (news:=(c.actsL.map Xc.cells).flatten) (q:=c.acts.n) rfl rfl rfl rfl (fun _=>by (repeat (first|exact At.here _|apply At.there))) (fun w G=>cO G.keep.now.1.1.1 (qV _)) ac (by simp only [maxLen];omega) rfl ?_ rfl ?_;(first|with_reducible rfl|with_reducible assumption|with_reducible exact Bool.not_false|with_reducible exact Bool.not_true);intro A2 c2)|(refine fI ?_;refine aH (size:=20) (news:=a.cells) (q:=1) rfl rfl rfl rfl (fun _=>by (repeat (first|exact At.here _|apply At.there))) (fun w G=>bu G aC rfl rfl 1) ac (by simp only [maxLen];omega) rfl ?_ rfl ?_;(first|with_reducible rfl|with_reducible assumption|with_reducible exact Bool.not_false|with_reducible exact Bool.not_true);intro A2 c2)|refine gs1 fun _=>?_|(refine gq ?_ ?_<;>intro hx_ this)|fail)
   all_goals first
    | exact ⟨(_,_),ak an (List.Sublist.cons_cons _ (List.Sublist.cons _ (al _))) fun _ h=>h⟩
    | exact ⟨(_,_),ak an (List.Sublist.cons _ (al _)) fun _ h=>h⟩
 · obtain ⟨A,cc⟩:=i
   have hfl:([]++(c.actsL.map Xc.cells).flatten++a.cells)=((c.actsL++[a]).map Xc.cells).flatten:=by simp
   rw [hfl,Nat.zero_add]
   repeat' (first|(refine ag (hc:=hdi) (hX:=fun w h=>⟨h.1.2,h.2⟩) ?_)|refine gs ?_|refine gs1 fun _=>?_|(refine gp ?_ ?_<;>intro hx_ this)|fail)
   refine ae (aI rfl rfl aC (by rfl)) ⟨⟨A,c.acts.n+1,cc⟩,rfl,rfl,fun w h=>?_⟩
   have h1:=h.2 (orow 72 20 (.slice A (c.acts.n+1) cc) (c.acts.n+1) ((c.actsL++[a]).map Xc.cells).flatten) aC
   exact nN h1 (by simp [hl]) fun x hx=>by
    rcases List.mem_append.1 hx with hx|hx
    · exact h.1.1.1.2 x hx
    · rw [List.mem_singleton] at hx
      subst hx
      exact h.1.1.2
end Go.Proofs.YtgffbiobmamobaaGreatDoor

namespace Go.Proofs.YtgffbiobmamobaaGreatDoor
open Go Go.Proofs Sy
end Go.Proofs.YtgffbiobmamobaaGreatDoor
namespace Go.Proofs.YtgffbiobmamobaaGreatDoor
open Go Go.Proofs Sy Go.RowKit Go.Deep Go.ChangeShapes
section
variable {H:Type} {enc:TypeId×Value→H} {P:Program} {w:World} {base:Nat} {spare:Nat→Bool} {held:Bool}
end
end Go.Proofs.YtgffbiobmamobaaGreatDoor
namespace Go.Proofs.YtgffbiobmamobaaGreatDoor
open Go Go.Proofs Sy
def ItemTo (b:Xc) (u:Value) (X:World→Prop):Prop:=∃ s1 s2:Xi,u=(ofActI (b.re s1 s2)).v∧s1.n=b.to.n∧s2.n=b.wraps.n∧∀ w,X w→(b.re s1 s2).at_ w
set_option maxRecDepth 20000 in
theorem l3 (a:Xc) (hr:a.Rng) (hs:a.Sm):Mk Tryz.prog 18 #[a.v] (Xc.at_ · a) (ItemTo a):=by
 refine bS Tryz.func18 Tryz.ntmps18 fun av bor w0=>?_
 repeat' (first|refine gs ?_|refine gs1 fun _=>?_|fail)
 refine aT (hc:=eO a.to (strs a.toL) hs.to (fun cs hcs=>by simp only [strs,List.mem_map] at hcs;obtain ⟨x,_,rfl⟩:=hcs;rfl)) fun v1 X1 h1=>?_
 obtain ⟨s1,rfl,hn1,hw1⟩:=h1
 repeat' (first|refine gs ?_|refine gs1 fun _=>?_|fail)
 refine aT (hc:=ji a.wraps (a.wrapsL.map X6.cells) hs.wraps (fun cs hcs=>by simp only [List.mem_map] at hcs;obtain ⟨x,_,rfl⟩:=hcs;rfl)) (hX:=fun w h=>h.1.2) fun v2 X2 h2=>?_
 obtain ⟨s2,rfl,hn2,hw2⟩:=h2
 repeat' (first|refine gs ?_|refine gs1 fun _=>?_|(refine aL ?_)|fail)
 have e1:s1.n=a.to.n:=by rw [hn1,hr.to_len];simp [strs]
 have e2:s2.n=a.wraps.n:=by rw [hn2,hr.wraps_len];simp
 apply ae;refine aI rfl rfl aC ?_
 · rfl
 refine ⟨s1,s2,rfl,e1,e2,fun w h=>⟨?_,?_⟩⟩
 · exact hw1 w h.1.1.2
 · exact hw2 w h.1.2
theorem jS {a:Xc} (h:a.Rng) {s1 s2:Xi} (h1:s1.n=a.to.n) (h2:s2.n=a.wraps.n):(a.re s1 s2).Rng:=⟨h.ints,h.wints,h1.trans h.to_len,h2.trans h.wraps_len⟩
theorem vC {a:Xc} (h:a.Sm) {s1 s2:Xi} (h1:s1.n=a.to.n) (h2:s2.n=a.wraps.n):(a.re s1 s2).Sm:=⟨by show s1.n*16≤_;rw [h1];exact h.to,by show s2.n*64≤_;rw [h2];exact h.wraps,h.target⟩
end Go.Proofs.YtgffbiobmamobaaGreatDoor
namespace Go.Proofs.YtgffbiobmamobaaGreatDoor
open Go Go.Proofs Sy
section
variable {P:Program} {N:Nat} {av bor:List Nat} {w0:World} {st:St} {ty:TypeId} {x y:Operand} {t t2:TypeId} {k:IntKind}
theorem zZ {a b:Int} [hI:Xu P t k] (hx:ev st.env x=some (.int k a)) (hy:ev st.env y=some (.int k b)) (hab:b<a):Sy.Yields P N av bor w0 st (.binOp .gtr t x y t2) ty (.bool true):=by
 have h:=jn (P:=P) (N:=N) (av:=av) (bor:=bor) (w0:=w0) (st:=st) (ty:=ty) (t:=t) (t2:=t2) hx hy
 rwa [decide_eq_true hab] at h
theorem Aa {a b:Int} [hI:Xu P t k] (hx:ev st.env x=some (.int k a)) (hy:ev st.env y=some (.int k b)) (hab:¬ b<a):Sy.Yields P N av bor w0 st (.binOp .gtr t x y t2) ty (.bool false):=by
 have h:=jn (P:=P) (N:=N) (av:=av) (bor:=bor) (w0:=w0) (st:=st) (ty:=ty) (t:=t) (t2:=t2) hx hy
 rwa [decide_eq_false hab] at h
end
structure InsI (P:List Xd) (a b:Nat) where
 k:Nat
 h1:a+1≤k
 h2:k≤b∨k=a+1
 Q:List Xd
 hQ:Q.Perm P
structure InsJ (P:List Xd) (a k:Nat) where
 j:Nat
 h1:a≤j
 h2:j≤k
 Q:List Xd
 hQ:Q.Perm P
theorem eH (s:Xi) (P:List Xd) (a b:Nat) (hs:s.n=P.length) (hm:s.n≤1000000) (ha:a≤s.n) (hb:b≤s.n) :
  Ct Tryz.prog 123 #[s.v,.int .i64 (a:Nat),.int .i64 (b:Nat),cmpF] [postR s P] (fun _=>True) (PermAt s P):=by
 refine dZ Tryz.func123 Tryz.ntmps123 fun av bor w0=>?_
 refine cY (r:=postR s P) ay (p:=0<s.n→s.p.isSome=true) (fun w h hn=>cG h hn) fun hp=>?_
 repeat' (first|refine db (q:=1) (hq:=by omega) ?_|refine gs ?_|(refine gp ?_ ?_<;>intro hx_ this)|fail)
 refine az (ι:=InsI P a b) (fun i=>⟨[(0,s.v),(1,.int .i64 (a:Nat)),(2,.int .i64 (b:Nat)),(3,cmpF),(8,.int .i64 (i.k:Nat))],[postR s i.Q],fun _=>True⟩) (fun i=>b-i.k) ⟨a+1,Nat.le_refl _,.inr rfl,P,List.Perm.refl _⟩ (ak an (al _) fun _ h=>h) fun i=>?_
 obtain ⟨k,h1,h2,Q,hQ⟩:=i
 simp only
 have hl:=hQ.length_eq
 repeat' (first|refine gs ?_|(refine gp ?_ ?_<;>intro hx_ this)|fail)
 · have hkb:k<b:=by omega
   refine az (ι:=InsJ P a k) (fun i=>⟨[(0,s.v),(1,.int .i64 (a:Nat)),(2,.int .i64 (b:Nat)),(3,cmpF),(8,.int .i64 (k:Nat)),(9,.int .i64 (i.j:Nat))],[postR s i.Q],fun _=>True⟩) (fun i=>i.j) ⟨k,by omega,Nat.le_refl _,Q,hQ⟩ (ak an (al _) fun _ h=>h) fun i=>?_
   obtain ⟨j,h3,h4,Q2,hQ2⟩:=i
   simp only
   have hl2:=hQ2.length_eq
   have hp':=hp ac
   by_cases hja:a<j
   · obtain ⟨x,hx⟩:∃ x,Q2[j]?=some x:=⟨_,List.getElem?_eq_getElem ac⟩
     obtain ⟨y,hy⟩:∃ y,Q2[j-1]?=some y:=⟨_,List.getElem?_eq_getElem ac⟩
     have hcm:=jg x y
     generalize cmpB x.id y.id=z at *
     apply cw_seq
     apply cw_seq
     unfold cmpF
     (refine ao ⟨[0,1,2,3,4,5,6,7,9,10,11,12],[(8,⟨[],[(13,⟨[],[(14,⟨[15,16],[]⟩)]⟩)]⟩),(13,⟨[],[(8,⟨[],[(14,⟨[15,16],[]⟩)]⟩)]⟩)]⟩ [] (fun _=>True) (h:=?_))
     all_goals repeat' (first|refine aJ (hy:=by first|(apply zZ;rfl;rfl;omega)) ?_|(refine ag (hc:=hcm) ?_)|refine gd ?_|refine aJ (hy:=by first|(apply bk (q:=j*11);rfl;rfl;omega;omega;assumption;(first|rfl|omega))|(apply bk (q:=(j-1)*11);rfl;rfl;omega;omega;assumption;(first|rfl|omega))) ?_|refine aF ?_ (h':=?_)|exact aG|(refine am (dB (i:=j) (P:=Q2) rfl ay ac hx) rfl rfl rfl ?_)|(refine am (dB (i:=j-1) (P:=Q2) rfl ay ac hy) rfl rfl rfl ?_)|(refine gq ?_ ?_<;>intro hx_ this)|fail)
     all_goals
      repeat' (first|refine gs ?_|(refine gp ?_ ?_<;>intro hx_ this)|fail)
      · (refine ao ⟨[0,1,2,3,4,5,6,7,8,10,11,12],[(9,⟨[],[(13,⟨[14],[(15,⟨[16],[(17,⟨[],[]⟩)]⟩)]⟩)]⟩),(13,⟨[],[(9,⟨[14],[(15,⟨[16],[(17,⟨[],[]⟩)]⟩)]⟩)]⟩)]⟩ [] (fun _=>True) (h:=?_))
        all_goals repeat' (first|refine gd ?_|refine aJ (hy:=by first|(apply bk (q:=j*11);rfl;rfl;omega;omega;assumption;(first|rfl|omega))|(apply bk (q:=(j-1)*11);rfl;rfl;omega;omega;assumption;(first|rfl|omega))) ?_|refine aF ?_ (h':=?_)|exact aG|(refine am (dB (i:=j) (P:=Q2) rfl ay ac hx) rfl rfl rfl ?_)|(refine am (dB (i:=j-1) (P:=Q2) rfl ay ac hy) rfl rfl rfl ?_)|((refine eT (i:=j) (p:=y) rfl rfl ac (by first|omega|(simp only [List.length_set];omega)) (At.here _) rfl ax rfl ?_))|((refine eT (i:=j-1) (p:=x) rfl rfl ac (by first|omega|(simp only [List.length_set];omega)) (At.here _) rfl ax rfl ?_))|(refine gq ?_ ?_<;>intro hx_ this)|fail)
        all_goals
         repeat' (first|refine dP (q:=1) (hq:=by omega) ?_|refine gs ?_|(refine gp ?_ ?_<;>intro hx_ this)|fail)
         exact ⟨(⟨j-1,by omega,by omega,(Q2.set j y).set (j-1) x,(eM hx hy).trans hQ2⟩:InsJ P a k),(by show j-1<j;omega),ak an (al _) fun _ h=>h⟩
      · repeat' (first|refine db (q:=1) (hq:=by omega) ?_|refine gs ?_|(refine gp ?_ ?_<;>intro hx_ this)|fail)
        exact ⟨(⟨k+1,by omega,by omega,Q2,hQ2⟩:InsI P a b),(by show b-(k+1)<b-k;omega),ak an (al _) fun _ h=>h⟩
   · apply cw_seq
     apply cw_seq
     unfold cmpF
     (refine ao ⟨[0,1,2,3,4,5,6,7,9,10,11,12],[(8,⟨[],[(13,⟨[],[(14,⟨[15,16],[]⟩)]⟩)]⟩),(13,⟨[],[(8,⟨[],[(14,⟨[15,16],[]⟩)]⟩)]⟩)]⟩ [] (fun _=>True) (h:=?_))
     all_goals repeat' (first|refine aJ (hy:=by first|(apply Aa;rfl;rfl;omega)) ?_|refine gd ?_|refine aF ?_ (h':=?_)|exact aG|(refine gq ?_ ?_<;>intro hx_ this)|fail)
     all_goals
      repeat' (first|refine db (q:=1) (hq:=by omega) ?_|refine gs ?_|(refine gp ?_ ?_<;>intro hx_ this)|fail)
      exact ⟨(⟨k+1,by omega,by omega,Q2,hQ2⟩:InsI P a b),(by show b-(k+1)<b-k;omega),ak an (al _) fun _ h=>h⟩
 · exact br (aS rfl) ⟨rfl,Q,hQ,rfl⟩
end Go.Proofs.YtgffbiobmamobaaGreatDoor
namespace Go.Proofs.YtgffbiobmamobaaGreatDoor
open Go Go.Proofs Sy
def intD (n:Int):Value:=.int .i64 n
theorem uD (s:Xi) (L:List Int) (hb:L.length≤1000000):Mk Tryz.prog 33 #[s.v] (fun w=>Ints w s L) (fun u X'=>∃ t:Xi,u=t.v∧∀ w,X' w→Ints w t L):=by
 refine bS Tryz.func33 Tryz.ntmps33 fun av bor w0=>?_
 refine aD (p:=s.n=L.length∧(s.p.isNone=true→L=[])) (fun w h=>⟨h.len_,fun hn=>by have:=h.none_nil hn;simpa using this⟩) fun ⟨hl,hnil⟩=>?_
 have h1:∀ cs∈L.map (fun n=>[intD n]),cs.all (·.oneCell')=true:=fun cs hcs=>by
  obtain ⟨x,_,rfl⟩:=List.mem_map.1 hcs
  rfl
 repeat' (first|refine kf ?_|refine fk fun _=>?_|refine gs ?_|refine gs1 fun _=>?_|(refine gp ?_ ?_<;>intro hx_ this)|fail)
 · refine ae (aj rfl rfl) ⟨⟨none,0,0⟩,rfl,fun w _=>?_⟩
   rw [hnil hx_]
   exact aN w 1
 refine aH (size:=1) (z:=.int .i64 0) (news:=(L.map (fun n=>[intD n])).flatten) (q:=s.n) rfl rfl rfl rfl (fun _=>At.here _) (fun w G=>cO G.keep.now h1) ?_ ?_ rfl ?_ rfl ?_
 · omega
 · simp only [maxLen];omega
 · rfl
 intro A c
 repeat' (first|refine gs ?_|refine gs1 fun _=>?_|fail)
 refine ae (aj rfl rfl) ⟨⟨A,0+s.n,c⟩,rfl,fun w h=>?_⟩
 exact aM (h.2 _ ay) (by rw [List.length_map];omega) fun r hr=>by
  obtain ⟨x,_,rfl⟩:=List.mem_map.1 hr
  rfl
theorem yO (s:Xi) (L:List Int) (hb:L.length≤1000000):Mk Tryz.prog 14 #[s.v] (fun w=>Ints w s L) (fun u X'=>∃ t:Xi,u=.agg #[t.v,.slice none 0 0]∧∀ w,X' w→Ints w t L):=by
 refine bS Tryz.func14 Tryz.ntmps14 fun av bor w0=>?_
 repeat' (first|refine gs ?_|refine gs1 fun _=>?_|fail)
 refine aT (hc:=uD s L hb) fun v X1 h1=>?_
 obtain ⟨t,rfl,hw⟩:=h1
 repeat' (first|refine gs ?_|refine gs1 fun _=>?_|(refine aL (cs:=[t.v,.slice none 0 0]) (hf:=by rfl) ?_)|(refine gp ?_ ?_<;>intro hx_ this)|fail)
 exact ae (aI rfl rfl aC (by rfl)) ⟨t,rfl,fun w h=>hw w h.1.2⟩
end Go.Proofs.YtgffbiobmamobaaGreatDoor
namespace Go.Proofs.YtgffbiobmamobaaGreatDoor
open Go Go.Proofs Sy Go.Shelf
namespace Rf4
section
variable {N:Nat} {av bor:List Nat} {w0:World} {st:St} {ty:TypeId} {x y:Operand} {E:Env} {loc:List Xl} {X:World→Prop} {ops:Array Oper} {kk k:St→Prop} {pos:String} {af:Array Edge} {g:Option (Nat×Bool)} {rest:List Oper} {bb want:Bool} {n:Nat} {t t2:TypeId} {d:Option Tmp}
end
end Rf4
namespace Rf4
structure ExS (a e:Nat) where
 x:Nat
 b:Nat
 f:Nat
 hx:x<2305843009213693951
 hf:f≤e
 inv:x*b ^ f%2305843009213693951=a ^ e%2305843009213693951
end Rf4
end Go.Proofs.YtgffbiobmamobaaGreatDoor
namespace Go.Proofs.YtgffbiobmamobaaGreatDoor
open Go Go.Proofs Sy
end Go.Proofs.YtgffbiobmamobaaGreatDoor

namespace Go.Proofs.YtgffbiobmamobaaGreatDoor
open Go Go.Proofs Sy
section
open Go Go.Proofs Sy
variable {P:Program} {N:Nat} {av bor:List Nat} {w0:World} {st:St} {t t2 ty:TypeId} {x y:Operand}
theorem xY {a b:ByteArray} (hx:ev st.env x=some (.string a)) (hy:ev st.env y=some (.string b)) (hab:ltB b a=true):Sy.Yields P N av bor w0 st (.binOp .leq t x y t2) ty (.bool false):=by
 have h:=uQ (P:=P) (N:=N) (av:=av) (bor:=bor) (w0:=w0) (t:=t) (t2:=t2) (ty:=ty) hx hy
 have e:(Op.bytesLess a.toList b.toList||seqB a b)=false:=by
  rw [show Op.bytesLess a.toList b.toList=false from tG hab,seqB_ne.2 (fun e=>AI hab e.symm)]
  rfl
 rwa [e] at h
end
structure From1 (n:Nat) where
 k:Nat
 h1:1≤k
 hk:k≤n∨k=1
end Go.Proofs.YtgffbiobmamobaaGreatDoor
namespace Go.Proofs.YtgffbiobmamobaaGreatDoor
open Go Go.Proofs Sy
def numL:Nat→Nat→List Nat
 | 0,_=>[]
 | f+1,n=>bif decide (128≤n) then (128+n%128)::numL f (n/128) else [n]
theorem rK:∀ (f n:Nat),numD f (n:Int)=(numL f n).map fun (n:Nat)=>(n:Int)
 | 0,n=>rfl
 | f+1,n=>by
  rw [numD,numL]
  by_cases h:128≤n
  · have e1:lowD (n:Int)=((128+n%128:Nat):Int):=by
     rw [lowD,show (n:Int).tmod 128=((n%128:Nat):Int) from rfl,show (128:Int)+((n%128:Nat):Int)=((128+n%128:Nat):Int) from by omega,wrap8,Nat.mod_eq_of_lt (by omega)]
    rw [decide_eq_true (show (128:Int)≤(n:Int) by omega),decide_eq_true h,cond_true,cond_true,List.map_cons,e1,show (n:Int).tdiv 128=((n/128:Nat):Int) from rfl,rK f]
  · rw [decide_eq_false (show ¬ (128:Int)≤(n:Int) by omega),decide_eq_false h,cond_false,cond_false,wrap8,Nat.mod_eq_of_lt (by omega)]
    rfl
theorem rJ:∀ (f n:Nat),∀ x∈numL f n,x<256
 | 0,n,x,h=>(List.not_mem_nil h).elim
 | f+1,n,x,h=>by
  rw [numL] at h
  by_cases h1:128≤n
  · rw [decide_eq_true h1,cond_true] at h
    rcases List.mem_cons.1 h with rfl|h
    · omega
    · exact rJ f _ x h
  · rw [decide_eq_false h1,cond_false,List.mem_singleton] at h
    omega
theorem fy (n:Nat):nl (numV (n:Int))=numL 10 n:=by
 rw [numV,decide_eq_false ac,cond_false,rK,fH _ (rJ 10 n)]
theorem dy {n:Int} (h:0≤n):nl (numV n)=numL 10 n.toNat:=by rw [←fy,Int.toNat_of_nonneg h]
def textL (l:List Nat):List Nat:=numL 10 l.length++l
theorem eB (s:ByteArray):nl (textV s)=textL (nl s):=by
 rw [textV,cH,fy,textL,cu]
def boxL (b:Xw):List Nat:=textL (nl b.nonce)++textL (nl b.data)++textL (nl b.tag)
def coreL (a:Xc):List Nat :=
 textL [97,99,116]++(textL (nl a.author)++(numL 10 a.seq.toNat++(textL (nl a.prev)++(numL 10 a.kind.toNat++(numL 10 a.time.toNat++(textL (nl a.object)++(textL (nl a.target)++(numL 10 a.scope.toNat++(textL (nl a.group)++(numL 10 0++(textL (nl a.text)++(boxL a.body++(numL 10 a.epoch.toNat++(numL 10 0++(numL 10 a.n.toNat++numL 10 a.m.toNat)))))))))))))))
structure Xc.Pos (a:Xc):Prop where
 seq:0≤a.seq
 kind:0≤a.kind
 time:0≤a.time
 scope:0≤a.scope
 epoch:0≤a.epoch
 n:0≤a.n
 m:0≤a.m
 toL:a.toL=[]
 wrapsL:a.wrapsL=[]
theorem eK (a:Xc) (h:a.Pos):nl (coreV a)=coreL a:=by
 have e1:nl (⟨#[97,99,116]⟩:ByteArray)=[97,99,116]:=rfl
 have e2:nl ByteArray.empty=[]:=rfl
 simp only [coreV,core5,core4,core3,core2,core1,boxV,listV,h.toL,h.wrapsL,List.map_nil,List.take_nil,cats,List.length_nil,cH,eB,e1,e2,fy,dy h.seq,dy h.kind,dy h.time,dy h.scope,dy h.epoch,dy h.n,dy h.m,List.append_assoc,List.append_nil,coreL,boxL]
def hashL (m:List Nat):Nat:=numN (shaL m)
theorem jW (xs:List ByteArray) (hs:(catB xs).size<2305843009213693952):hashN xs=hashL (xs.flatMap nl):=by
 rw [hashN,mT _ hs,qp,hashL]
def powF:Nat→Nat→Nat→Nat→Nat
 | 0,_,x,_=>x
 | f+1,e,x,s=>fc (bif decide (e%2=1) then x*s%2305843009213693951 else x) fun x'=>fc (s*s%2305843009213693951) fun s'=>fc (e/2) fun e'=>powF f e' x' s'
theorem rD (a e:Nat):∀ (f i:Nat),powF f (e/2 ^ i) (expF a e i).1 (expF a e i).2=(expF a e (i+f)).1
 | 0,i=>rfl
 | f+1,i=>by
  have ih:=rD a e f (i+1)
  rw [powF,k8,k8,k8,Nat.div_div_eq_div_mul,←Nat.pow_succ,show i+(f+1)=i+1+f by omega,←ih]
  rfl
def powL (a e:Nat):Nat:=powF (Lib.bitLen e) e 1 (a%2305843009213693951)
theorem nv (a e:Nat):expV a e=powL a e:=by
 have h:=rD a e (Lib.bitLen e) 0
 rw [Nat.pow_zero,Nat.div_one,Nat.zero_add] at h
 exact h.symm
theorem gZ {n:Nat} (h:n≤1000000):n<2305843009213693952:=by omega
def nonceL (S:Nat) (m:List Nat):Nat:=reduceN (hashL (textL [110,111,110,99,101]++(numL 10 S++textL m)))
theorem iv (S:Nat) (msg:ByteArray) (hl:(nl msg).length≤100000):nonceN (S:Int) msg=nonceL S (nl msg):=by
 have h1:=aB ⟨#[110,111,110,99,101]⟩
 have h2:=ar (S:Int)
 have h3:=aB msg
 have h5:(⟨#[110,111,110,99,101]⟩:ByteArray).size=5:=rfl
 rw [cu] at hl
 rw [nonceN,nonceL,nonceP,jW _ (gZ (by
  rw [ef]
  simp only [List.map_cons,List.map_nil,List.sum_cons,List.sum_nil]
  omega))]
 have e:nl (⟨#[110,111,110,99,101]⟩:ByteArray)=[110,111,110,99,101]:=rfl
 simp only [List.flatMap_cons,List.flatMap_nil,eB,fy,List.append_nil,e]
def chalL (r p:Nat) (m:List Nat):Nat:=hashL (textL [115,105,103,110]++(numL 10 r++(numL 10 p++textL m)))%2305843009213693950
theorem sz (r p:Nat) (msg:ByteArray) (hl:(nl msg).length≤100000):chalN r p msg=chalL r p (nl msg):=by
 have h1:=aB ⟨#[115,105,103,110]⟩
 have h2:=ar (r:Int)
 have h4:=ar (p:Int)
 have h3:=aB msg
 have h5:(⟨#[115,105,103,110]⟩:ByteArray).size=4:=rfl
 rw [cu] at hl
 rw [chalN,chalL,chalP,jW _ (gZ (by
  rw [ef]
  simp only [List.map_cons,List.map_nil,List.sum_cons,List.sum_nil]
  omega))]
 have e:nl (⟨#[115,105,103,110]⟩:ByteArray)=[115,105,103,110]:=rfl
 simp only [List.flatMap_cons,List.flatMap_nil,eB,fy,List.append_nil,e]
theorem dX (a:Xc) (g g':Ef):coreV (a.sig g)=coreV (a.sig g'):=rfl
theorem eI {a:Xc} (hr:rightB a=true) {m:List Nat} (hm:nl (coreV a)=m) (hm0:m.length≠0) (hl:m.length≤100000) {E G:Nat} (he:a.e=(E:Nat)) (hs:a.s=(G:Nat)) {D:ByteArray} (h:shaL (0::(m++(numL 10 E++numL 10 G)))=nl D):digV a=D:=by
 subst hm
 have hsz:(coreV a).size=(nl (coreV a)).length:=(cu _).symm
 have e1:actCore a=coreV a:=by rw [actCore,hr,cond_true]
 have e2:actBytes a=coreV a++numV a.e++numV a.s:=by rw [actBytes,e1,cE,decide_eq_false ac,cond_false]
 have e3:bytesV a=numV 0++(coreV a++numV a.e++numV a.s):=by rw [bytesV,hr,cond_true,e2]
 have e4:nl (bytesV a)=0::(nl (coreV a)++(numL 10 E++numL 10 G)):=by
  rw [e3,cH,cH,cH,he,hs,fy,fy,List.append_assoc]
  rfl
 have e5:(bytesV a).size=(nl (coreV a)).length+(numL 10 E++numL 10 G).length+1:=by rw [←cu,e4,List.length_cons,List.length_append]
 have e6:∀ f n,(numL f n).length≤f:=fun f=>by
  induction f with
  | zero=>intro n;exact Nat.le_refl 0
  | succ f ih =>
   intro n
   rw [numL]
   cases decide (128≤n) with
   | true=>have:=ih (n/128);rw [cond_true,List.length_cons];omega
   | false=>rw [cond_false,List.length_singleton];omega
 have e7:(bytesV a).size≤1000000:=by
  have h1:=e6 10 E
  have h2:=e6 10 G
  rw [e5,List.length_append]
  omega
 rw [digV,cE,decide_eq_false ac,cond_false]
 apply m6
 rw [mT _ (gZ e7),e4,h]
theorem wy {seed:ByteArray} {S P:Nat} (hsz:seed.size≤1000) (h1:reduceN (hashL (textL [107,101,121]++textL (nl seed)))=S) (h2:powL 37 S=P):keyOf seed=⟨(S:Nat),(P:Nat)⟩:=by
 have h3:=aB ⟨#[107,101,121]⟩
 have h4:=aB seed
 have h5:(⟨#[107,101,121]⟩:ByteArray).size=3:=rfl
 have e:nl (⟨#[107,101,121]⟩:ByteArray)=[107,101,121]:=rfl
 have hk:keyN seed=S:=by
  rw [←h1,keyN,keyP,jW _ (gZ (by
   rw [ef]
   simp only [List.map_cons,List.map_nil,List.sum_cons,List.sum_nil]
   omega))]
  simp only [List.flatMap_cons,List.flatMap_nil,eB,List.append_nil,e]
 rw [keyOf,hk,nv,h2]
end Go.Proofs.YtgffbiobmamobaaGreatDoor
namespace Go.Proofs.YtgffbiobmamobaaGreatDoor
open Go Go.Proofs Sy Go.RowKit Go.Deep Go.ChangeShapes Go.WideShapes
theorem laidOut:laidOutB Tryz.prog=true:=by kernel_rfl
theorem gR {H:Type} {enc:TypeId×Value→H} {P:Program} (hl:laidOutB P=true) {W W':World} {sp:Nat→Bool}:∀ (ts:List TypeId) (vs:List Value) (ds:List (DataW H)) (ps:List MemPlace),(∀ t∈ts,P.readableRec t=true∧t<P.types.size) →
  DataW.TrodAll enc P W 0 (fun _=>true) true ts vs ds ps→(∀ p∈ps,W.sameAt W' p)→(∀ p∈ps,sp p.block=true)→DataW.TrodAll enc P W' 0 sp true ts vs ds ps
 | [],vs,ds,ps,_,h,_,_=>by
  obtain ⟨rfl,rfl,rfl⟩:=trodAll_nil h
  exact trodAll_mk0
 | t::ts,vs,ds,ps,ht,h,hs,hp=>by
  obtain ⟨v,vs',d,ds',p,q,rfl,rfl,rfl,h1,h2⟩:=trodAll_cons h
  exact trodAll_cons_mk (WideElems.Trod_stays hl (ht t ay).1 (ht t ay).2 h1 (fun x hx=>hs x (List.mem_append_left _ hx)) (fun x hx=>hp x (List.mem_append_left _ hx)))
   (gR hl ts vs' ds' q (fun u hu=>ht u (List.mem_cons_of_mem _ hu)) h2 (fun x hx=>hs x (List.mem_append_right _ hx)) (fun x hx=>hp x (List.mem_append_right _ hx)))
theorem tQ {X:World→Prop} {w:World} (hX:X w) (hk:∀ w':World,(∀ k,k<w.heap.size→w'.heap[k]?=w.heap[k]?)→X w'):Xr [] (fps []) w [] X w :=
 ⟨Fr.refl _ _,fun k hk=>by simp at hk,by simp [fps],fun k hk=>by simp [fps] at hk,fun r hr=>by simp at hr,⟨fun k=>k<w.heap.size,fun k hk=>⟨hk,by simp [fps]⟩,hk⟩⟩
theorem px {P:Program} {f:FuncId} {args:Array Value} {X:World→Prop} {v:Value} {w:World} (h:Pu P f args X v) (hX:X w) (hk:∀ w':World,(∀ k,k<w.heap.size→w'.heap[k]?=w.heap[k]?)→X w') :
  Calls P f args w fun e w'=>e=.returned v∧Below w.heap.size w w':=by
 unfold Pu at h
 exact (Ct.run h w [] (tQ hX hk)).mono fun e w' ⟨u,R,X',he,⟨hu,hR⟩,G⟩=>⟨by rw [he,hu],G.fr.below⟩
theorem laidK:Rows.laid_agora_sum_constants (H:=Unit)=Lib.tabData .u32 kC:=by kernel_rfl
theorem laidI:Rows.laid_agora_sum_initial (H:=Unit)=Lib.tabData .u32 iniC:=by kernel_rfl
theorem ln {W:World} {name:String} {zs:List Int} {g:Nat} (h:Lib.TabIs Tryz.prog W name .u32 zs) (hg:Tryz.prog.globalNamed name=some g):CellsAt g (u32s zs) W:=fun j v hj=>by
 have hj':j<zs.length:=by have:=(List.getElem?_eq_some_iff.1 hj).1;simpa [u32s] using this
 rw [h.cell hg j hj']
 simp only [u32s,List.getElem?_map,List.getElem?_eq_getElem hj',Option.map_some,Option.some.injEq] at hj
 rw [List.getD_eq_getElem?_getD,List.getElem?_eq_getElem hj',←hj]
 rfl
theorem yZ {W:World} (h:laidMet Tryz.prog [("agora/sum.constants",Rows.laid_agora_sum_constants),("agora/sum.initial",Rows.laid_agora_sum_initial)] W):Xg W:=by
 rw [laidK,laidI] at h
 have h1:=Lib.tabIs_of_head (g:=1) (t:=204) (e:=172) (n:=64) ai ai Tryz.underlying204 Tryz.underlying172 ai ai h
 obtain ⟨ps,⟨g',t',cs,fuel,p,q,hg',ht',hvar,hd,hrest,hpq⟩,_⟩:=h
 obtain ⟨g2,t2,cs2,fuel2,p2,q2,hg2,ht2,hvar2,hd2,_,_⟩:=hrest
 have h2:Lib.TabIs Tryz.prog W "agora/sum.initial" .u32 iniC:=by
  have e1:Tryz.prog.globalNamed "agora/sum.initial"=some 0:=by kernel_rfl
  have e2:(Tryz.prog.globals[0]?).map (·.type)=some 173:=by kernel_rfl
  obtain rfl:=Option.some.inj (e1.symm.trans hg2)
  obtain rfl:=Option.some.inj (e2.symm.trans ht2)
  unfold Lib.TabIs
  rw [hvar2,←Lib.cells_of_tab Tryz.underlying173 Tryz.underlying172 ai ai hd2]
 exact ⟨ln h2 ai,ln h1 ai⟩
def layRow (l:List Value):Obj→Obj
 | .cells _ t frozen=>.cells l.toArray t frozen
 | o=>o
noncomputable def laidWorld (os:Os):World :=
 { World.holding Tryz.prog os ⟨#[],#[],[]⟩ with heap:=((World.holding Tryz.prog os ⟨#[],#[],[]⟩).heap.modify 0 (layRow (u32s iniC))).modify 1 (layRow (u32s kC)) }
end Go.Proofs.YtgffbiobmamobaaGreatDoor
