/- Joined. -/
import Derived.Test.YtgffbiobmamobaaGreatDoorI0
import Derived.Test.YtgffbiobmamobaaGreatDoorI9
import Derived.Test.YtgffbiobmamobaaGreatDoorI8
import Derived.Test.YtgffbiobmamobaaGreatDoorI2
import Derived.Test.YtgffbiobmamobaaGreatDoorI14
set_option linter.unusedVariables false
set_option linter.unusedSimpArgs false
set_option maxHeartbeats 16000000
namespace Go.Proofs.YtgffbiobmamobaaGreatDoor
open Go Go.Proofs Sy
def draftV (c:Xa) (k t:Int):Xc:={ Xc.zero with author:=c.id,seq:=(c.acts.n:Int),prev:=c.prev,kind:=k,time:=t }
theorem bF (c:Xa) (k t:Int):Pu Tryz.prog 54 #[c.v,.int .i64 k,.int .i64 t] (fun _=>True) (draftV c k t).v:=by
 refine aq Tryz.func54 Tryz.ntmps54 fun av bor w0=>?_
 repeat' (first|refine gs ?_|refine gs1 fun _=>?_|(refine aL (cs:=(draftV c k t).cells) (hf:=by rfl) ?_)|(refine gp ?_ ?_<;>intro hx_ this)|fail)
 exact ae (aI rfl rfl aC (by rfl)) rfl
def undoK (k:Int):Bool:=decide (k=4)||decide (k=5)||decide (k=7)||decide (k=8)||decide (k=10)||decide (k=11)||decide (k=17)||decide (k=23)
theorem nQ (k:Int):Pu Tryz.prog 122 #[.int .i64 k] (fun _=>True) (.bool (undoK k)):=by
 refine aq Tryz.func122 Tryz.ntmps122 fun av bor w0=>?_
 repeat' (first|refine gs ?_|(refine gp ?_ ?_<;>intro hx_ this)|fail)
 (all_goals (apply ae;apply aj;rfl;rfl));all_goals first|rfl|(simp only [undoK, *,decide_true,decide_false,cond_true,cond_false,Bool.and_true,Bool.true_and,Bool.and_false,Bool.false_and,Bool.not_true,Bool.not_false,Bool.or_true,Bool.true_or,Bool.or_false,Bool.false_or];done)|(simp_all [undoK];done)
def atK (c:Xa) (o:Option Nat) (p:Int→Bool):Bool:=match o with
 | some j=>p (c.actsL.getD j Xc.zero).kind
 | none=>false
def fitsV (c:Xa) (a:Xc) (pl:Option Nat):Bool :=
 bif !rightB a||!seqB a.author c.id||!decide (a.seq=(c.acts.n:Int))||!seqB a.prev c.prev then false
 else bif decide (a.kind=0) != decide ((c.acts.n:Int)=0) then false
 else bif decide (a.kind=6) then atK c pl undoK
 else bif decide (a.kind=13)||decide (a.kind=14) then atK c pl postK else true
set_option maxRecDepth 20000 in
theorem y8 (c:Xa) (a:Xc) (gf:Nat) [Eb Tryz.prog gf] (lb:List Value) (pl:Option Nat) (Y:World→Prop) (hpl:Pu Tryz.prog gf (.string a.object::lb).toArray Y (idxP pl)) (hlt:∀ j,pl=some j→j<c.actsL.length) :
  Pu Tryz.prog 78 #[c.v,a.v,.func (.func gf) #[] lb.toArray] (fun w=>c.at_ w∧a.at_ w∧Y w) (.bool (fitsV c a pl)):=by
 refine aq Tryz.func78 Tryz.ntmps78 fun av bor w0=>?_
 refine aD (p:=c.acts.n=c.actsL.length∧c.acts.n≤maxLen∧(0<c.actsL.length→c.acts.p.isSome=true)) (fun w h=>⟨h.1.len_,h.1.max_,h.1.some_⟩) fun ⟨hl,hm,hp⟩=>?_
 simp only [maxLen] at hm
 have hri:=dN a
 cases hB:(!rightB a||!seqB a.author c.id||!decide (a.seq=(c.acts.n:Int))||!seqB a.prev c.prev) with
 | true =>
  rw [show fitsV c a pl=false from by rw [fitsV,hB];rfl]
  repeat' (first|(refine ag (hc:=hri) (hX:=fun _ h=>h.2.1) ?_)|refine gs ?_|refine gs1 fun _=>?_|(refine gp ?_ ?_<;>intro hx_ this)|fail)
  all_goals first
   | (apply ae;apply aj;rfl;rfl;rfl)
   | (exfalso;simp_all;done)
 | false =>
  have hB':=hB
  simp only [Bool.or_eq_false_iff,Bool.not_eq_false',decide_eq_true_eq] at hB'
  obtain ⟨⟨⟨e1,e2⟩,e3⟩,e4⟩:=hB'
  rw [e1] at hri
  cases hK:(decide (a.kind=0) != decide ((c.acts.n:Int)=0)) with
  | true =>
   rw [show fitsV c a pl=false from by rw [fitsV,hB,hK];rfl]
   repeat' (first|refine il (hab:=e3) ?_|(refine ag (hc:=hri) (hX:=fun _ h=>h.2.1) ?_)|refine gs ?_|refine gs1 fun _=>?_|(refine gp ?_ ?_<;>intro hx_ this)|fail)
   all_goals first
    | (apply ae;apply aj;rfl;rfl;rfl)
    | (exfalso;simp_all;done)
  | false =>
   have hF:fitsV c a pl=(bif decide (a.kind=6) then atK c pl undoK else bif decide (a.kind=13)||decide (a.kind=14) then atK c pl postK else true):=by rw [fitsV,hB,hK];rfl
   rw [hF]
   cases pl with
   | none =>
    have hpl':Pu Tryz.prog gf (.string a.object::lb).toArray Y (.tuple #[.int .i64 0,.bool false]):=hpl
    repeat' (first|refine il (hab:=e3) ?_|(refine ag (hc:=hri) (hX:=fun _ h=>h.2.1) ?_)|(refine iS (hc:=hpl') (hX:=fun _ h=>h.2.2) (h:=?_))|refine gs ?_|refine gs1 fun _=>?_|(refine gp ?_ ?_<;>intro hx_ this)|fail)
    all_goals first
     | (exfalso;simp_all;done)
     | (apply ae;apply aj;rfl;rfl;simp_all [atK];done)
   | some j =>
    have hjl:=hlt j rfl
    have hp':=hp ac
    obtain ⟨x,hx⟩:∃ x,c.actsL[j]?=some x:=⟨_,List.getElem?_eq_getElem hjl⟩
    have hA:∀ p,atK c (some j) p=p x.kind:=fun p=>by simp only [atK,List.getD_eq_getElem?_getD,hx,Option.getD_some]
    rw [hA,hA] at hF ⊢
    have hpl':Pu Tryz.prog gf (.string a.object::lb).toArray Y (.tuple #[.int .i64 (j:Nat),.bool true]):=hpl
    clear hpl
    repeat' (first|refine il (hab:=e3) ?_|(refine ag (hc:=hri) (hX:=fun _ h=>h.2.1) ?_)|(refine iS (hc:=hpl') (hX:=fun _ h=>h.2.2) (h:=?_))|refine ag (hc:=nQ x.kind) ?_|refine ag (hc:=bj x.kind) ?_|refine gs ?_|refine gs1 fun _=>?_|(refine aA (q:=j*20) ?_)|(refine dQ ?_)|(refine bE (q:=j*20+3) (u:=.int .i64 x.kind) (hF:=fun w h=>(Acts.get h.1 hx).2.2 3 _ rfl) ?_)|(refine gp ?_ ?_<;>intro hx_ this)|fail)
    all_goals first
     | (exfalso;simp_all;done)
     | (apply ae;apply aj;rfl;rfl;simp_all;done)
theorem wM (c:Xa) (hc:Xx c.actsL) (b:Nat) (d:ByteArray):Pu Tryz.prog 79 #[.string d,.pointer (some ⟨b,0,none⟩)] (fun w=>(c.at_ w∧Xg w)∧ChBox c b w) (idxP (idxV c.actsL d)):=by
 refine aq Tryz.func79 Tryz.ntmps79 fun av bor w0=>?_
 repeat' (first|(refine ag (hc:=wD c hc d) ?_)|refine gs ?_|(refine ro (cs:=c.cells) (hF:=fun w h=>h.2.cell) (hl:=rfl) ?_)|(refine gp ?_ ?_<;>intro hx_ this)|fail)
 exact ae (cP rfl rfl rfl) rfl
theorem mu (c:Xa) (hc:Xx c.actsL) (a:Xc):Pu Tryz.prog 40 #[c.v,a.v] (fun w=>(c.at_ w∧Xg w)∧a.at_ w) (.bool (fitsV c a (idxV c.actsL a.object))):=by
 refine aq Tryz.func40 Tryz.ntmps40 fun av bor w0=>?_
 have hf:=fun b=>y8 c a 79 [.pointer (some ⟨b,0,none⟩)] (idxV c.actsL a.object) _ (wM c hc b a.object) (fun j h=>rV h)
 repeat' (first|(refine kn (hc:=hf _) (hX:=fun w h hr=>⟨h.1.1,h.2,h.1,hr _ (List.mem_cons_of_mem _ ay)⟩) ?_)|refine gs ?_|refine gs1 fun _=>?_|(refine fj ?_)|(refine gp ?_ ?_<;>intro hx_ this)|fail)
 exact ae (aj rfl rfl) rfl
end Go.Proofs.YtgffbiobmamobaaGreatDoor
