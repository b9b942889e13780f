/- Joined. -/
import Derived.Test.YtggionfjlgfihaaGreatDoorI0
import Derived.Test.YtggionfjlgfihaaGreatDoorI9
import Derived.Test.YtggionfjlgfihaaGreatDoorI7
import Derived.Test.YtggionfjlgfihaaGreatDoorI8
set_option linter.unusedVariables false
set_option linter.unusedSimpArgs false
set_option maxHeartbeats 16000000
namespace Go.Proofs.YtggionfjlgfihaaGreatDoor
open Go Go.Proofs Sy
def draftV (c:Xd) (k t:Int):Xa:={ Xa.zero with author:=c.id,seq:=(c.acts.n:Int),prev:=c.prev,kind:=k,time:=t }
theorem xU (c:Xd) (k t:Int):Pu Tryz.prog 47 #[c.v,.int .i64 k,.int .i64 t] (fun _=>True) (draftV c k t).v:=by
 refine ar Tryz.func47 Tryz.ntmps47 fun av bor w0=>?_
 repeat' (first|refine gs ?_|refine gs1 fun _=>?_|(refine aM (cs:=(draftV c k t).cells) (hf:=by rfl) ?_)|(refine gp ?_ ?_<;>intro hx_ this)|fail)
 exact ab (bx rfl rfl aL (by rfl)) rfl
def undoK (k:Int):Bool:=decide (k=4)||decide (k=5)||decide (k=7)||decide (k=8)||decide (k=10)||decide (k=11)||decide (k=17)||decide (k=23)
theorem oC (k:Int):Pu Tryz.prog 171 #[.int .i64 k] (fun _=>True) (.bool (undoK k)):=by
 refine ar Tryz.func171 Tryz.ntmps171 fun av bor w0=>?_
 repeat' (first|refine gs ?_|(refine gp ?_ ?_<;>intro hx_ this)|fail)
 (all_goals (apply ab;apply ai;rfl;rfl));all_goals first|rfl|(simp only [undoK, *,decide_true,decide_false,cond_true,cond_false,Bool.and_true,Bool.true_and,Bool.and_false,Bool.false_and,Bool.not_true,Bool.not_false,Bool.or_true,Bool.true_or,Bool.or_false,Bool.false_or];done)|(simp_all [undoK];done)
def atK (c:Xd) (o:Option Nat) (p:Int→Bool):Bool:=match o with
 | some j=>p (c.actsL.getD j Xa.zero).kind
 | none=>false
def fitsV (c:Xd) (a:Xa) (pl:Option Nat):Bool :=
 bif !rightB a||!seqB a.author c.id||!decide (a.seq=(c.acts.n:Int))||!seqB a.prev c.prev then false
 else bif decide (a.kind=0) != decide ((c.acts.n:Int)=0) then false
 else bif decide (a.kind=6) then atK c pl undoK
 else bif decide (a.kind=13)||decide (a.kind=14) then atK c pl postK else true
set_option maxRecDepth 20000 in
theorem sM (c:Xd) (a:Xa) (gf:Nat) [Xv Tryz.prog gf] (lb:List Value) (pl:Option Nat) (Y:World→Prop) (hpl:Pu Tryz.prog gf (.string a.object::lb).toArray Y (idxP pl)) (hlt:∀ j,pl=some j→j<c.actsL.length) :
  Pu Tryz.prog 102 #[c.v,a.v,.func (.func gf) #[] lb.toArray] (fun w=>c.at_ w∧a.at_ w∧Y w) (.bool (fitsV c a pl)):=by
 refine ar Tryz.func102 Tryz.ntmps102 fun av bor w0=>?_
 refine aH (p:=c.acts.n=c.actsL.length∧c.acts.n≤maxLen∧(0<c.actsL.length→c.acts.p.isSome=true)) (fun w h=>⟨h.1.len_,h.1.max_,h.1.some_⟩) fun ⟨hl,hm,hp⟩=>?_
 simp only [maxLen] at hm
 have hri:=cM a
 cases hB:(!rightB a||!seqB a.author c.id||!decide (a.seq=(c.acts.n:Int))||!seqB a.prev c.prev) with
 | true =>
  rw [show fitsV c a pl=false from by rw [fitsV,hB];rfl]
  repeat' (first|(refine ag (hc:=hri) (hX:=fun _ h=>h.2.1) ?_)|refine gs ?_|refine gs1 fun _=>?_|(refine gp ?_ ?_<;>intro hx_ this)|fail)
  all_goals first
   | (apply ab;apply ai;rfl;rfl;rfl)
   | (exfalso;simp_all;done)
 | false =>
  have hB':=hB
  simp only [Bool.or_eq_false_iff,Bool.not_eq_false',decide_eq_true_eq] at hB'
  obtain ⟨⟨⟨e1,e2⟩,e3⟩,e4⟩:=hB'
  rw [e1] at hri
  cases hK:(decide (a.kind=0) != decide ((c.acts.n:Int)=0)) with
  | true =>
   rw [show fitsV c a pl=false from by rw [fitsV,hB,hK];rfl]
   repeat' (first|refine dP (hab:=e3) ?_|(refine ag (hc:=hri) (hX:=fun _ h=>h.2.1) ?_)|refine gs ?_|refine gs1 fun _=>?_|(refine gp ?_ ?_<;>intro hx_ this)|fail)
   all_goals first
    | (apply ab;apply ai;rfl;rfl;rfl)
    | (exfalso;simp_all;done)
  | false =>
   have hF:fitsV c a pl=(bif decide (a.kind=6) then atK c pl undoK else bif decide (a.kind=13)||decide (a.kind=14) then atK c pl postK else true):=by rw [fitsV,hB,hK];rfl
   rw [hF]
   cases pl with
   | none =>
    have hpl':Pu Tryz.prog gf (.string a.object::lb).toArray Y (.tuple #[.int .i64 0,.bool false]):=hpl
    repeat' (first|refine dP (hab:=e3) ?_|(refine ag (hc:=hri) (hX:=fun _ h=>h.2.1) ?_)|(refine dH (hc:=hpl') (hX:=fun _ h=>h.2.2) (h:=?_))|refine gs ?_|refine gs1 fun _=>?_|(refine gp ?_ ?_<;>intro hx_ this)|fail)
    all_goals first
     | (exfalso;simp_all;done)
     | (apply ab;apply ai;rfl;rfl;simp_all [atK];done)
   | some j =>
    have hjl:=hlt j rfl
    have hp':=hp aa
    obtain ⟨x,hx⟩:∃ x,c.actsL[j]?=some x:=⟨_,List.getElem?_eq_getElem hjl⟩
    have hA:∀ p,atK c (some j) p=p x.kind:=fun p=>by simp only [atK,List.getD_eq_getElem?_getD,hx,Option.getD_some]
    rw [hA,hA] at hF ⊢
    have hpl':Pu Tryz.prog gf (.string a.object::lb).toArray Y (.tuple #[.int .i64 (j:Nat),.bool true]):=hpl
    clear hpl
    repeat' (first|refine dP (hab:=e3) ?_|(refine ag (hc:=hri) (hX:=fun _ h=>h.2.1) ?_)|(refine dH (hc:=hpl') (hX:=fun _ h=>h.2.2) (h:=?_))|refine ag (hc:=oC x.kind) ?_|refine ag (hc:=eO x.kind) ?_|refine gs ?_|refine gs1 fun _=>?_|(refine aE (q:=j*20) ?_)|(refine dA ?_)|(refine cg (q:=j*20+3) (u:=.int .i64 x.kind) (hF:=fun w h=>(Acts.get h.1 hx).2.2 3 _ rfl) ?_)|(refine gp ?_ ?_<;>intro hx_ this)|fail)
    all_goals first
     | (exfalso;simp_all;done)
     | (apply ab;apply ai;rfl;rfl;simp_all;done)
theorem xK (c:Xd) (hc:Xt c.actsL) (b:Nat) (d:ByteArray):Pu Tryz.prog 103 #[.string d,.pointer (some ⟨b,0,none⟩)] (fun w=>(c.at_ w∧Xf w)∧ChBox c b w) (idxP (idxV c.actsL d)):=by
 refine ar Tryz.func103 Tryz.ntmps103 fun av bor w0=>?_
 repeat' (first|(refine ag (hc:=lp c hc d) ?_)|refine gs ?_|(refine nu (cs:=c.cells) (hF:=fun w h=>h.2.cell) (hl:=rfl) ?_)|(refine gp ?_ ?_<;>intro hx_ this)|fail)
 exact ab (dy rfl rfl rfl) rfl
theorem vb (c:Xd) (hc:Xt c.actsL) (a:Xa):Pu Tryz.prog 54 #[c.v,a.v] (fun w=>(c.at_ w∧Xf w)∧a.at_ w) (.bool (fitsV c a (idxV c.actsL a.object))):=by
 refine ar Tryz.func54 Tryz.ntmps54 fun av bor w0=>?_
 have hf:=fun b=>sM c a 103 [.pointer (some ⟨b,0,none⟩)] (idxV c.actsL a.object) _ (xK c hc b a.object) (fun j h=>kg h)
 repeat' (first|(refine g9 (hc:=hf _) (hX:=fun w h hr=>⟨h.1.1,h.2,h.1,hr _ (List.mem_cons_of_mem _ ap)⟩) ?_)|refine gs ?_|refine gs1 fun _=>?_|(refine cL ?_)|(refine gp ?_ ?_<;>intro hx_ this)|fail)
 exact ab (ai rfl rfl) rfl
end Go.Proofs.YtggionfjlgfihaaGreatDoor
