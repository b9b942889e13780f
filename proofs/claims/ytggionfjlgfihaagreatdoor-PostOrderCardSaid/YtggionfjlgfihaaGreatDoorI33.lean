/- Joined. -/
import Derived.Test.YtggionfjlgfihaaGreatDoorI0
import Derived.Test.YtggionfjlgfihaaGreatDoorI13
import Derived.Test.YtggionfjlgfihaaGreatDoorI20
import Derived.Test.YtggionfjlgfihaaGreatDoorI7
set_option linter.unusedVariables false
set_option linter.unusedSimpArgs false
set_option maxHeartbeats 16000000
namespace Go.Proofs.YtggionfjlgfihaaGreatDoor
open Go Go.Proofs Sy
structure Grp where
 s:Xj
 l:List Xa
def grpR (g:PosK×Grp):Xk:=actR g.2.s g.2.l
theorem p6 {κ β γ:Type} [DecidableEq κ] (f:β→γ):∀ (l:List (κ×β)) (k:κ) (v:β),(dput l k v).map (fun p=>(p.1,f p.2))=dput (l.map fun p=>(p.1,f p.2)) k (f v)
 | [],_,_=>rfl
 | (k',v')::r,k,v=>by
  simp only [dput,List.map_cons,←p6 f r k v]
  cases decide (k=k')<;>rfl
theorem pP {κ β:Type} [DecidableEq κ] (R:κ×β→Xk):∀ (G:List (κ×β)) (k:κ),∃ rest:List Xk,(∀ g',((dput G k g').map R).Perm (R (k,g')::rest))∧(∀ g,dget G k=some g→(G.map R).Perm (R (k,g)::rest))∧(dget G k=none→rest=G.map R)
 | [],k=>⟨[],fun g'=>List.Perm.refl _,fun g h=>(by cases h),fun _=>rfl⟩
 | (k',v')::r,k=>by
  by_cases e:k=k'
  · subst e
    refine ⟨r.map R,fun g'=>?_,fun g h=>?_,fun h=>?_⟩
    · simp [dput]
    · simp only [dget,decide_true,cond_true,Option.some.injEq] at h
      subst h
      exact List.Perm.refl _
    · simp [dget] at h
  · obtain ⟨rest,h1,h2,h3⟩:=pP R r k
    refine ⟨R (k',v')::rest,fun g'=>?_,fun g h=>?_,fun h=>?_⟩
    · have:=(h1 g').cons (R (k',v'))
      simp only [dput,e,decide_false,cond_false,List.map_cons]
      exact this.trans (List.Perm.swap _ _ _)
    · simp only [dget,e,decide_false,cond_false] at h
      exact ((h2 g h).cons (R (k',v'))).trans (List.Perm.swap _ _ _)
    · simp only [dget,e,decide_false,cond_false] at h
      rw [h3 h]
      rfl
theorem permG {x O:Xk} {C rest R:List Xk} (h:R.Perm (O::rest)):(x::O::(C++rest)).Perm (x::(C++R)):=((List.perm_middle.symm).trans (h.symm.append_left C)).cons x
theorem permH {c m sm c4:Xk} {R:List Xk}:([c,m,sm,c4]++R).Perm ((sm::R)++[c,m,c4]):=(List.perm_middle (l₁:=[c,m])).trans (List.Perm.cons sm (List.perm_append_comm (l₁:=[c,m,c4])))
theorem permK {an kb o c m c4:Xk}:[an,kb,o,c,m,c4].Perm [c,an,kb,m,o,c4]:=(List.perm_middle (l₁:=[an,kb,o])).trans (.cons _ (.cons _ (.cons _ (.swap _ _ _))))
def grpL (o:Option Grp):List Xa:=(o.map Grp.l).getD []
def grpS (o:Option Grp):Xj:=(o.map Grp.s).getD ⟨none,0,0⟩
structure GrpOk (G:List (PosK×Grp)) (L:List Xa):Prop where
 all:∀ k,grpL (dget G k)=actsFor L k
 len:∀ k g,dget G k=some g→g.s.n=g.l.length
theorem oy (L:List Xa) (a:Xa) (k:PosK):actsFor (L++[a]) k=actsFor L k++(bif decide (k=((a.seq,a.prev):PosK)) then [a] else []):=by
 rw [actsFor,actsFor,List.filter_append]
 congr 1
 obtain ⟨n,p⟩:=k
 by_cases h1:a.seq=n
 · by_cases h2:a.prev=p
   · subst h1;subst h2;simp [List.filter,be]
   · have hb:seqB a.prev p=false:=by
      cases h:seqB a.prev p with
      | false=>rfl
      | true=>exact absurd (seqB_iff.1 h) h2
     have hne:¬ ((n,p):PosK)=(a.seq,a.prev):=fun e=>h2 (congrArg Prod.snd e).symm
     simp [List.filter,hb,hne]
 · have hne:¬ ((n,p):PosK)=(a.seq,a.prev):=fun e=>h1 (congrArg Prod.fst e).symm
   simp [List.filter,h1,hne]
theorem GrpOk.step {G:List (PosK×Grp)} {L:List Xa} (h:GrpOk G L) (a:Xa) (s':Xj) (hs:s'.n=(grpL (dget G ((a.seq,a.prev):PosK))).length+1) :
  GrpOk (dput G ((a.seq,a.prev):PosK) ⟨s',grpL (dget G ((a.seq,a.prev):PosK))++[a]⟩) (L++[a]):=by
 refine ⟨fun k=>?_,fun k g hg=>?_⟩
 · rw [oy,js]
   by_cases e:k=((a.seq,a.prev):PosK)
   · subst e
     simp only [decide_true,cond_true]
     rw [←h.all]
     rfl
   · rw [decide_eq_false e,cond_false,cond_false,List.append_nil]
     exact h.all k
 · rw [js] at hg
   by_cases e:k=((a.seq,a.prev):PosK)
   · subst e
     simp only [decide_true,cond_true,Option.some.injEq] at hg
     subst hg
     rw [List.length_append]
     exact hs
   · rw [decide_eq_false e,cond_false] at hg
     exact h.len k g hg
namespace Sy
section
variable {P:Program} {N:Nat} {av bor:List Nat} {w0:World} {E:Env} {loc:List Xk} {X:World→Prop} {K:Exit→St→Prop} {c:Code}
theorem Xq.giveL {w:World}:∀ (L:List Xk) {X:World→Prop},Xq av bor w0 (L++loc) X w→Xq av bor w0 loc (fun w=>X w∧∀ r∈L,r.F w) w
  | [],X,G=>G.imp fun _ h=>⟨h,by simp⟩
  | r :: L,X,G=>(Xq.giveL L (Xq.give (r:=r) (loc:=L++loc) G)).imp fun w h=>⟨h.1.1,fun q hq=>by
      rcases List.mem_cons.1 hq with rfl|hq
      · exact h.1.2
      · exact h.2 q hq⟩
theorem vY {ops:Array Oper} {rest:List Oper} {k:St→Prop} (L:List Xk) (h:Sw P N av bor w0 ops rest ⟨E,loc,fun w=>X w∧∀ r∈L,r.F w⟩ k):Sw P N av bor w0 ops rest ⟨E,L++loc,X⟩ k:=Sw.mk fun a w ok=>h.run a w (ok.via fun M G=>by
 rw [List.append_assoc] at G
 exact G.giveL L)
theorem xW {b e:Nat} {cs:List Value} (size m:Nat) (hl:cs.length=m*size:=by rfl) (hm:m≤maxLen) (h:Cw P N av bor w0 c ⟨E,orow e size (.slice (some ⟨b,0,none⟩) m m) m cs::loc,X⟩ K):Cw P N av bor w0 c ⟨E,cel b e cs::loc,X⟩ K:=Cw.mk fun a w ok=>h.run a w (ok.via fun M G=>G.orow hl hm)
theorem lE {l:List Xk} (hs:loc.Perm l) (h:Cw P N av bor w0 c ⟨E,l,X⟩ K):Cw P N av bor w0 c ⟨E,loc,X⟩ K:=Cw.mk fun a w ok=>h.run a w (ok.via fun M G=>G.perm (hs.append_right M))
end
end Sy
section
variable {N:Nat} {av bor:List Nat} {w0:World} {E:Env} {X:World→Prop} {K:Exit→St→Prop} {c:Code}
theorem AZ {G:List (PosK×Grp)} {k:PosK} {rest:List Xk} (C:List Xk) (h2:∀ g,dget G k=some g→(G.map grpR).Perm (grpR (k,g)::rest)) (h3:dget G k=none→rest=G.map grpR)
  (h:Cw Tryz.prog N av bor w0 c ⟨E,actR (grpS (dget G k)) (grpL (dget G k))::(C++rest),X⟩ K):Cw Tryz.prog N av bor w0 c ⟨E,C++G.map grpR,X⟩ K:=by
 cases hd:dget G k with
 | none =>
  rw [hd,h3 hd] at h
  exact bA 37 20 h
 | some g =>
  rw [hd] at h
  exact lE (((h2 g hd).append_left C).trans List.perm_middle) h
end
theorem ze {q:Nat} {G:List (PosK×Grp)} {L:List Xa} (h:GrpOk G L) {w:World} (hm:SMapAt Tryz.prog 134 w q (G.map fun g=>(g.1,g.2.s.v))) (hr:∀ r∈G.map grpR,r.F w) (ha:∀ a∈L,a.at_ w) :
  Ef q (G.map fun g=>(g.1,g.2.s)) L w:=by
 refine ⟨by rw [List.map_map];exact hm,fun k=>?_⟩
 rw [gC,←h.all k]
 have hsub:∀ a∈grpL (dget G k),a.at_ w:=fun a h1=>by
  rw [h.all k] at h1
  exact ha a (List.mem_filter.1 h1).1
 cases hd:dget G k with
 | none=>exact ⟨aJ w 20,fun a h=>by cases h⟩
 | some g =>
  rw [hd] at hsub
  have hg:=hr (grpR (k,g)) (List.mem_map_of_mem (p8 hd))
  exact dZ hg (h.len k g hd) hsub
end Go.Proofs.YtggionfjlgfihaaGreatDoor
