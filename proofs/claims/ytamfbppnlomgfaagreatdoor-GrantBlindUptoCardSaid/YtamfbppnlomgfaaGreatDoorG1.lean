/- Joined. -/
import Derived.Test.YtamfbppnlomgfaaGreatDoorG0
import Derived.MapKept
import Derived.Sort.OwnSorted
import Derived.Lib.SlKeysI
import Derived.Lib.SlicesCompact
import Derived.Shelf.SlIter.Nil
import Derived.Shelf.SlIterI.Nil
import Derived.Shelf.SortM.Plain
import Derived.Shelf.SortM.SortNone
import Derived.Shelf.Slices.CompactS
import Derived.Test.YtamfbppnlomgfaaGreatDoorProg
import Derived.Test.YtamfbppnlomgfaaGreatDoorChecked
set_option linter.unusedVariables false
set_option linter.unusedSimpArgs false
set_option maxHeartbeats 16000000
namespace Go.Proofs.YtamfbppnlomgfaaGreatDoor.Sy
open Go Go.RowKit
inductive Pn where
 | mk (ts:List Nat) (bs:List (Nat×Pn))
def lstd (n:Nat):List Nat→Array Bool
 | []=>Array.replicate n false
 | i::r=>(lstd n r).setIfInBounds i true
theorem gq {p q r s s':Prop} {b:Bool} (a_:b=true→s→q) (b_:b=false→s'→r) (h:(b=true→q)→(b=false→r)→p:=by intro a_ b_;first|((fail_if_success (refine tK ?_));exact tI (ht:=a_) (hf:=b_))|((fail_if_success (refine d8 ?_));exact cI (ht:=a_) (hf:=b_))|fail) (hs:b=true→s:=by first|exact bC|exact fun _=>trivial|fail) (hs':b=false→s':=by first|exact cq|exact fun _=>trivial|fail):p:=h (fun e=>a_ e (hs e)) (fun e=>b_ e (hs' e))
section
variable {P:Program} {N:Nat} {av bor:List Nat} {w0:World}
variable {loc0:List Xi} {X0:World→Prop} {l:List Oper} {fuel:Nat} {dn ts:List Nat} {bs:List (Nat×Pn)} {E:Env} {loc:List Xi} {X:World→Prop} {k:St→Prop} {K:Exit→St→Prop}
variable {n i:Nat} {o:Op} {ty:TypeId} {pos:String} {af:Array Edge} {g:Option (Nat×Bool)} {v:Value} {bb want:Bool}
theorem rl {loc loc0:List Xi} {X X0:World→Prop} (h:∀ w,Xn av bor w0 loc X w→Xn av bor w0 loc0 X0 w:=by first|(first|exact fun _ h=>h|exact fun _ h=>(h.drop (Zq _)).imp (fun _ _=>trivial)|exact fun _ h=>h.drop (by (first|exact aj _|exact ZS _ (aj _)|exact ZS _ (ZS _ (aj _))|exact ZS _ (ZS _ (ZS _ (aj _)))))|exact fun _ h=>h.imp (fun _ h=>h.1)|exact fun _ h=>(h.drop (by (first|exact aj _|exact ZS _ (aj _)|exact ZS _ (ZS _ (aj _))|exact ZS _ (ZS _ (ZS _ (aj _)))))).imp (fun _ h=>h.1)|exact fun _ h=>(h.drop (by (first|exact aj _|exact ZS _ (aj _)|exact ZS _ (ZS _ (aj _))|exact ZS _ (ZS _ (ZS _ (aj _)))))).imp (fun _ h=>h.1.1))|(first|exact fun _ h=>h|exact fun _ h=>h.drop (by ((repeat (first|exact aj _|exact ZT _ (Zq _)|apply ZS));first|done|fail))|exact fun _ h=>(h.drop (by ((repeat (first|exact aj _|exact ZT _ (Zq _)|apply ZS));first|done|fail))).imp (fun _ h=>h.1)|exact fun _ h=>(h.drop (by ((repeat (first|exact aj _|exact ZT _ (Zq _)|apply ZS));first|done|fail))).imp (fun _ h=>h.1.1)|exact fun _ h=>(h.drop (by ((repeat (first|exact aj _|exact ZT _ (Zq _)|apply ZS));first|done|fail))).imp (fun _ h=>h.1.1.1)|exact fun _ h=>(h.drop (by ((repeat (first|exact aj _|exact ZT _ (Zq _)|apply ZS));first|done|fail))).imp (fun _ h=>h.1.1.1.1))|(exact fun _ h=>(h.drop (by ((repeat (first|exact aj _|exact ZT _ (Zq _)|apply ZS));first|done|fail))).imp (fun _ _=>trivial))|(first|exact fun _ h=>h.drop (by ((repeat (first|exact aj _|exact Zq _|apply ZT|apply ZS));first|done|fail))|exact fun _ h=>(h.drop (by ((repeat (first|exact aj _|exact Zq _|apply ZT|apply ZS));first|done|fail))).imp (fun _ h=>h.1)|exact fun _ h=>(h.drop (by ((repeat (first|exact aj _|exact Zq _|apply ZT|apply ZS));first|done|fail))).imp (fun _ h=>h.1.1))|(first|exact fun _ h=>h.drop (by ((repeat (first|exact aj _|exact Zq _|with_reducible apply ZT|apply ZS));first|done|fail))|exact fun _ h=>(h.drop (by ((repeat (first|exact aj _|exact Zq _|with_reducible apply ZT|apply ZS));first|done|fail))).imp (fun _ h=>h.1)|exact fun _ h=>(h.drop (by ((repeat (first|exact aj _|exact Zq _|with_reducible apply ZT|apply ZS));first|done|fail))).imp (fun _ h=>h.1.1))|fail):∀ w,Xn av bor w0 loc X w→Xn av bor w0 loc0 X0 w:=h
structure Dw (P:Program) (N:Nat) (av bor:List Nat) (w0:World) (loc0:List Xi) (X0:World→Prop) (l:List Oper) (fuel:Nat) (dn:List Nat) (pl:Pn) (st:St) (k:St→Prop):Prop where
 run:Aw P N av bor w0 loc0 X0 l.toArray fuel (lstd l.length dn) st k
structure Df (A B:Prop):Prop where
 a:A
 b:B
theorem qs {ops:Array Oper} {todo:List Oper} {st:St} {k k':St→Prop} (hk:∀ s,k s→k' s) (h:Sw P N av bor w0 ops todo st k):Sw P N av bor w0 ops todo st k':=Sw.mk fun a w ok=>by
 have mono:∀ (todo:List Oper) a w,wpList P ops (post N av bor w0 (only k)) todo a w→wpList P ops (post N av bor w0 (only k')) todo a w:=by
  intro todo
  induction todo with
  | nil =>
   rintro a w ⟨s,h1,h2⟩
   exact ⟨s,hk s h1,h2⟩
  | cons o rest ih =>
   intro a w h
   simp only [wpList] at h ⊢
   split
   · rename_i hw
     simp only [hw,ZF] at h
     rcases h with h|⟨_,_,_,h⟩
     · exact .inl (fV ih h)
     · exact h.elim
   · rename_i hw
     simp only [hw] at h
     exact ih _ _ h
 exact mono _ _ _ (h.run a w ok)
structure Ds (P:Program) (N:Nat) (av bor:List Nat) (w0:World) (loc0:List Xi) (X0:World→Prop) (l:List Oper) (fuel:Nat) (dn:List Nat) (bs:List (Nat×Pn)) (st:St) (k:St→Prop):Prop where
 run:∀ i∈bs.map Prod.fst,∀ a w,Ok N av bor w0 st a w→wpOp P l.toArray (post N av bor w0 (only k)) i (fun a' w'=>Xn av bor w0 loc0 X0 w'∧wpAnyH P .any l.toArray (post N av bor w0 (only k)) (Xn av bor w0 loc0 X0) fuel ((lstd l.length dn).setIfInBounds i true) a' w') a w
theorem uK {pl:Pn} {st:St} (h:Dw P N av bor w0 loc0 X0 l fuel dn pl st k):Dw P N av bor w0 loc0 X0 l fuel dn pl st k:=h
theorem aw_draw {id:Nat} (pl:Pn) (loc0:List Xi) (X0:World→Prop) (hm:P.follows .mixedOrders=true:=by kernel_rfl) (h:Dw P N av bor w0 loc0 X0 l l.length [] pl ⟨E,loc,X⟩ (K .normal)) :
  Cw P N av bor w0 (.region id l.toArray true) ⟨E,loc,X⟩ K:=iv loc0 X0 hm h.run
theorem aJ {id:Nat} (pl:Pn) (hm:P.follows .mixedOrders=true:=by kernel_rfl) (h:Dw P N av bor w0 loc X l l.length [] pl ⟨E,loc,X⟩ (K .normal)) :
  Cw P N av bor w0 (.region id l.toArray true) ⟨E,loc,X⟩ K:=iv loc X hm h.run
theorem aH (h:Dw P N av bor w0 loc0 X0 l fuel (i::dn) ⟨ts,bs⟩ ⟨(n,v)::E,loc,X⟩ k) (hi:l.toArray[i]?=some ⟨some n,o,ty,pos,af,g⟩:=by rfl) (hg:gdB l.toArray E g=some (bb,want):=by rfl) (hb:bb=want:=by exact ay) (hd:Nat.blt n N=true:=by rfl) (hy:Sy.Yields P N av bor w0 ⟨E,loc0,X0⟩ o ty v:=by (first|(apply mu;rfl)|(apply iA;rfl)|(apply fx;rfl)|(apply p9;rfl;(first|exact ZL _|(simp only [Nat.reduceAdd];rfl)))|(apply kf;rfl;(repeat (first|exact aC|apply Zr));rfl)|(apply ke;rfl;(repeat (first|exact aC|apply Zr));rfl)|(apply ix;rfl;(first|with_reducible rfl|with_reducible assumption|with_reducible exact Zj|with_reducible exact Zk);rfl)|(apply iy;rfl;(first|with_reducible rfl|with_reducible assumption|with_reducible exact Zj|with_reducible exact Zk);rfl)|(apply pY;rfl)|(apply jw;rfl;rfl)|(apply nm;rfl;rfl)|(apply np;rfl;rfl)|(apply p6;rfl;rfl)|(apply nr;rfl;rfl)|(apply nt;rfl;rfl)|(apply ka;rfl;rfl)|(apply j8;rfl;rfl)|(apply ms;rfl)|(apply p7;rfl)|(apply gw;rfl;rfl)|(apply qe;rfl;rfl;(first|exact IntWalk.i64_in _ (by omega)|rfl))|(apply nk;rfl;rfl;(first|exact IntWalk.i64_in _ (by omega)|rfl))|(apply qd;rfl;rfl)|(apply tP;rfl;rfl)|(apply pU;rfl;rfl)|(apply fM;rfl;rfl)|(apply pT;rfl)|(apply pX;rfl;rfl;(first|decide|exact bE _ _ rfl _ _|exact cK _ rfl _|omega))|(apply pW;rfl;rfl;(first|decide|exact bE _ _ rfl _ _|exact cK _ rfl _|omega))|(apply p8;rfl;rfl)|(apply dH;rfl;rfl;decide;decide;rfl))) (hs:Region.noSelect l.toArray=true:=by kernel_rfl) (hf:Region.free .any l.toArray (lstd l.length dn) i=true:=by kernel_rfl) (hr:(Region.ready .any l.toArray (lstd l.length dn)).contains i=true:=by kernel_rfl) (hsub:∀ w,Xn av bor w0 loc X w→Xn av bor w0 loc0 X0 w:=by exact fw):Dw P N av bor w0 loc0 X0 l (fuel+1) dn ⟨i::ts,bs⟩ ⟨E,loc,X⟩ k:=⟨tq i h.run hi hs hf hr hsub hy hg hb hd⟩
theorem rP (h:Dw P N av bor w0 loc0 X0 l fuel (i::dn) ⟨ts,bs⟩ ⟨(n,undef)::E,loc,X⟩ k) (hi:l.toArray[i]?=some ⟨some n,o,ty,pos,af,g⟩:=by rfl) (hg:gdB l.toArray E g=some (bb,true):=by rfl) (hb:bb=false:=by exact ay) (hd:Nat.blt n N=true:=by rfl) (hs:Region.noSelect l.toArray=true:=by kernel_rfl) (hf:Region.free .any l.toArray (lstd l.length dn) i=true:=by kernel_rfl) (hr:(Region.ready .any l.toArray (lstd l.length dn)).contains i=true:=by kernel_rfl) (hsub:∀ w,Xn av bor w0 loc X w→Xn av bor w0 loc0 X0 w:=by exact fw):Dw P N av bor w0 loc0 X0 l (fuel+1) dn ⟨i::ts,bs⟩ ⟨E,loc,X⟩ k:=⟨rR i h.run hi hs hf hr hsub hg hb hd⟩
theorem rQ (h:Dw P N av bor w0 loc0 X0 l fuel (i::dn) ⟨ts,bs⟩ ⟨(n,undef)::E,loc,X⟩ k) (hi:l.toArray[i]?=some ⟨some n,o,ty,pos,af,g⟩:=by rfl) (hg:gdB l.toArray E g=some (bb,false):=by rfl) (hb:bb=true:=by exact ay) (hd:Nat.blt n N=true:=by rfl) (hs:Region.noSelect l.toArray=true:=by kernel_rfl) (hf:Region.free .any l.toArray (lstd l.length dn) i=true:=by kernel_rfl) (hr:(Region.ready .any l.toArray (lstd l.length dn)).contains i=true:=by kernel_rfl) (hsub:∀ w,Xn av bor w0 loc X w→Xn av bor w0 loc0 X0 w:=by exact fw):Dw P N av bor w0 loc0 X0 l (fuel+1) dn ⟨i::ts,bs⟩ ⟨E,loc,X⟩ k:=⟨rS i h.run hi hs hf hr hsub hg hb hd⟩
theorem tK {jb:Nat×Bool} (h:Dw P N av bor w0 loc0 X0 l fuel dn ⟨i::ts,bs⟩ ⟨E,loc,X⟩ k) (hi:l.toArray[i]?=some ⟨some n,o,ty,pos,af,some jb⟩:=by rfl) (hg:gdB l.toArray E (some jb)=some (bb,want):=by rfl) (hb:bb=true∨bb=false:=by (first|with_reducible exact Or.inl rfl|with_reducible exact Or.inr rfl|with_reducible exact Or.inl Zj|with_reducible exact Or.inr Zk|(apply Or.inl;with_reducible assumption)|(apply Or.inr;with_reducible assumption))):Dw P N av bor w0 loc0 X0 l fuel dn ⟨i::ts,bs⟩ ⟨E,loc,X⟩ k:=h
theorem tI {jb:Nat×Bool} (hi:l.toArray[i]?=some ⟨some n,o,ty,pos,af,some jb⟩:=by rfl) (hg:gdB l.toArray E (some jb)=some (bb,want):=by rfl) (ht:bb=true→Dw P N av bor w0 loc0 X0 l fuel dn ⟨i::ts,bs⟩ ⟨E,loc,X⟩ k) (hf:bb=false→Dw P N av bor w0 loc0 X0 l fuel dn ⟨i::ts,bs⟩ ⟨E,loc,X⟩ k) :
  Dw P N av bor w0 loc0 X0 l fuel dn ⟨i::ts,bs⟩ ⟨E,loc,X⟩ k:=by
 cases bb
 · exact hf rfl
 · exact ht rfl
theorem rT {q:Nat×Pn} (h:Ds P N av bor w0 loc0 X0 l fuel dn (q::bs) ⟨E,loc,X⟩ k) (hr:Region.ready .any l.toArray (lstd l.length dn)=(q::bs).map Prod.fst:=by kernel_rfl):Dw P N av bor w0 loc0 X0 l (fuel+1) dn ⟨[],q::bs⟩ ⟨E,loc,X⟩ k :=
 ⟨Aw.mk fun a w ok=>wpAnyH_all hr (by rw [ZR];exact List.cons_ne_nil _ _) fun j hj=>h.run j hj a w ok⟩
theorem aE {pl:Pn} {o:Oper} (h:Sw P N av bor w0 l.toArray [o] ⟨E,loc,X⟩ (fun s=>Df (∀ w,Xn av bor w0 s.loc s.ext w→Xn av bor w0 loc0 X0 w) (Dw P N av bor w0 loc0 X0 l fuel (i::dn) pl s k))) (hi:l.toArray[i]?=some o:=by rfl) (h':Ds P N av bor w0 loc0 X0 l fuel dn bs ⟨E,loc,X⟩ k):Ds P N av bor w0 loc0 X0 l fuel dn ((i,pl)::bs) ⟨E,loc,X⟩ k:=⟨fun j hj a w ok=>by
 rw [ZR] at hj
 rcases ZC.1 hj with rfl|hj
 · exact vd (listed:=lstd l.length dn) hi (qs (fun s q=>⟨q.a,q.b.run⟩) h) a w ok
 · exact h'.run j hj a w ok⟩
theorem aF:Ds P N av bor w0 loc0 X0 l fuel dn [] ⟨E,loc,X⟩ k:=⟨fun j hj=>by cases hj⟩
theorem tJ (h:k ⟨E,loc,X⟩) (hr:Region.ready .any l.toArray (lstd l.length dn)=[]:=by kernel_rfl):Dw P N av bor w0 loc0 X0 l fuel dn ⟨[],[]⟩ ⟨E,loc,X⟩ k:=⟨tr hr h⟩
end
theorem aN {av bor:List Nat} {w0:World} {loc loc0:List Xi} {X X0:World→Prop} (h:∀ w,Xn av bor w0 loc X w→Xn av bor w0 loc0 X0 w:=by first|exact fun _ h=>h|(first|exact fun _ h=>h.drop (by ((repeat (first|exact aj _|exact Zq _|apply ZT|apply ZS));done))|exact fun _ h=>(h.drop (by ((repeat (first|exact aj _|exact Zq _|apply ZT|apply ZS));done))).imp (fun _ h=>h.1)|exact fun _ h=>(h.drop (by ((repeat (first|exact aj _|exact Zq _|apply ZT|apply ZS));done))).imp (fun _ h=>h.1.1))|(first|exact fun _ h=>h.drop (by ((repeat (first|exact aj _|exact Zq _|with_reducible apply ZT|apply ZS));done))|exact fun _ h=>(h.drop (by ((repeat (first|exact aj _|exact Zq _|with_reducible apply ZT|apply ZS));done))).imp (fun _ h=>h.1)|exact fun _ h=>(h.drop (by ((repeat (first|exact aj _|exact Zq _|with_reducible apply ZT|apply ZS));done))).imp (fun _ h=>h.1.1))|(first|exact fun _ h=>h|exact fun _ h=>h.drop (by ((repeat (first|exact aj _|exact ZT _ (Zq _)|apply ZS));done))|exact fun _ h=>(h.drop (by ((repeat (first|exact aj _|exact ZT _ (Zq _)|apply ZS));done))).imp (fun _ h=>h.1)|exact fun _ h=>(h.drop (by ((repeat (first|exact aj _|exact ZT _ (Zq _)|apply ZS));done))).imp (fun _ h=>h.1.1)|exact fun _ h=>(h.drop (by ((repeat (first|exact aj _|exact ZT _ (Zq _)|apply ZS));done))).imp (fun _ h=>h.1.1.1)|exact fun _ h=>(h.drop (by ((repeat (first|exact aj _|exact ZT _ (Zq _)|apply ZS));done))).imp (fun _ h=>h.1.1.1.1))|(first|exact fun _ h=>h|exact fun _ h=>(h.drop (Zq _)).imp (fun _ _=>trivial)|exact fun _ h=>h.drop (by (first|exact aj _|exact ZS _ (aj _)|exact ZS _ (ZS _ (aj _))|exact ZS _ (ZS _ (ZS _ (aj _)))))|exact fun _ h=>h.imp (fun _ h=>h.1)|exact fun _ h=>(h.drop (by (first|exact aj _|exact ZS _ (aj _)|exact ZS _ (ZS _ (aj _))|exact ZS _ (ZS _ (ZS _ (aj _)))))).imp (fun _ h=>h.1)|exact fun _ h=>(h.drop (by (first|exact aj _|exact ZS _ (aj _)|exact ZS _ (ZS _ (aj _))|exact ZS _ (ZS _ (ZS _ (aj _)))))).imp (fun _ h=>h.1.1))|(exact fun _ h=>(h.drop (by ((repeat (first|exact aj _|exact ZT _ (Zq _)|apply ZS));done))).imp (fun _ _=>trivial))|fail):∀ w,Xn av bor w0 loc X w→Xn av bor w0 loc0 X0 w:=h
theorem gdz {p q:Prop} (k_:q) (h:q→p:=by intro q_;first|(refine uK ?_;first|exact tJ (h:=q_)|exact rT (h:=q_)|exact aH (h:=q_) (hsub:=by exact aN)|exact rP (h:=q_) (hsub:=by exact aN)|exact rQ (h:=q_) (hsub:=by exact aN)|fail)|(refine Df.mk ?_ q_;exact aN)|exact cD q_|(refine ug ?_;first|exact dv (h:=q_)|exact be (h:=q_)|fail)|(refine uf ?_;first|exact bX (h:=q_)|exact bf (h:=q_)|fail)|(refine ui ?_;first|exact bZ (h:=q_)|exact ca (h:=q_)|exact bY (h:=q_)|fail)|fail):p:=h k_
def ORow (w:World) (e size:Nat) (v:Value) (n:Nat) (xs:List Value):Prop :=
 xs.length=n*size∧((v=.slice none 0 0∧n=0) ∨
  ∃ g cap cur fz,v=.slice (some ⟨g,0,none⟩) n cap∧w.heap[g]?=some (.cells cur e fz)∧n≤cap∧cap≤maxLen∧cur.size=cap*size∧cur.toList.take (n*size)=xs∧(fz.1=fz.2∨cur.size≤fz.1))
def orow (e size:Nat) (v:Value) (n:Nat) (xs:List Value):Xi:=⟨v.ownBlock.toList,fun w=>ORow w e size v n xs⟩
theorem cP {e size n:Nat} {v:Value} {xs:List Value} {w:World} (h:ORow w e size v n xs):Holds (orow e size v n xs) w:=by
 intro w2 h2
 refine ⟨h.1,?_⟩
 rcases h.2 with h0|⟨g,cap,cur,fz,hv,hg,hr⟩
 · exact .inl h0
 · exact .inr ⟨g,cap,cur,fz,hv,(h2 g (by rw [hv];simp [orow,Value.ownBlock])).trans hg,hr⟩
section
variable {P:Program} {N:Nat} {av bor:List Nat} {w0:World} {ops:Array Oper} {rest:List Oper} {k:St→Prop} {E:Env} {loc loc':List Xi} {X:World→Prop}
variable {d:Option Tmp} {ty:TypeId} {pos:String} {af:Array Edge} {g:Option (Nat×Bool)} {bb want:Bool} {K:Exit→St→Prop}
theorem Xn.swap {w w':World} {r r':Xi} (G:Xn av bor w0 loc X w) (hA:At r r' loc loc') (ho:w'.os=w.os) (ht:w'.tape=w.tape) (hp:w'.output=w.output) (hz:w.heap.size≤w'.heap.size)
  (hb:∀ i,i<w.heap.size→i∉r.fp→w'.heap[i]?=w.heap[i]?) (hn:r'.fp.Nodup) (hf:∀ i∈r'.fp,i<w'.heap.size∧(i∈r.fp∨w.heap.size≤i)) (hr:Holds r' w'):Xn av bor w0 loc' X w':=by
 obtain ⟨f,h1,h2⟩:=hA.perm
 have G1:Xn av bor w0 ([r]++f) X w:=G.perm h1
 have G2:Xn (av++fps f) (fps [r]) w [r'] (fun _=>True) w':=by
  have hs:=G1.start
  have e1:fps [r]=r.fp:=by simp [fps]
  have e2:fps [r']=r'.fp:=by simp [fps]
  refine ⟨⟨ho,ht,hp,hz,fun i hi hne=>hb i hi (by rwa [e1] at hne)⟩,hs.avb,by rw [e2];exact hn,?_,?_,Keeps.all fun _=>trivial⟩
  · intro i hi
    rw [e2] at hi
    have:=hf i hi
    rw [e1]
    exact ⟨this.1,this.2.symm⟩
  · intro x hx
    rw [ZV] at hx
    subst hx
    exact hr
 exact (((G1.frame G2).imp fun _ h=>h.1:Xn av bor w0 ([r']++f) X w')).perm h2.symm
theorem dT (P:Program) (g o:Nat) (t:TypeId) (fz:Nat×Nat):∀ (vs:List Value) (i:Nat) (cur:Array Value) (w:World),w.heap[g]?=some (.cells cur t fz)→(fz.1=fz.2∨cur.size≤fz.1)→o+i+vs.length≤cur.size→(∀ v∈vs,v.oneCell'=true) →
  (storeCells ⟨g,o,none⟩ vs i).run P w=.ok () (w.setRow g (cur.toList.take (o+i)++vs++cur.toList.drop (o+i+vs.length)).toArray)
 | [],i,cur,w,hg,_,_,_=>by
  simp only [storeCells,ZD,ZJ,ZK,List.take_append_drop,Array.toArray_toList]
  rw [setRow_self w g cur t fz hg]
  rfl
 | v::rest,i,cur,w,hg,hz,hl,h1=>by
  have hi:o+i<cur.size:=by simp at hl;omega
  have hadd:(⟨g,o,none⟩:Addr).add i=⟨g,o+i,none⟩:=by unfold Addr.add;split<;>simp_all
  have hcell:w.cell? ⟨g,o+i,none⟩=some cur[o+i]:=by simp [World.cell?,hg,hi]
  have hfro:w.frozen? ⟨g,o+i,none⟩=false:=by
   obtain ⟨lo,hi'⟩:=fz
   simp only [World.frozen?,hg]
   simp only at hz
   have:¬ (lo≤o+i∧o+i<hi'):=by omega
   simpa using this
  have hst:(store ((⟨g,o,none⟩:Addr).add i) v).run P w=.ok () (w.setRow g (cur.setIfInBounds (o+i) v)):=by
   rw [hadd,run_store P w _ v _ (h1 v (by simp)),hcell]
   simp [hfro,setCell_eq_setRow w g (o+i) cur t fz v hg]
  have ih:=dT P g o t fz rest (i+1) (cur.setIfInBounds (o+i) v) (w.setRow g (cur.setIfInBounds (o+i) v)) (Go.setRow_heap w g cur _ t _ hg) (by simpa using hz) (by simp at hl ⊢;omega) (fun x hx=>h1 x (by simp [hx]))
  simp only [storeCells,Sem.run_bind,hst,Result.andThen_ok,ih,setRow_setRow]
  congr 3
  have e:=list_seg_step cur.toList (o+i) v rest (by simp at hl ⊢;omega)
  simpa [Array.toList_setIfInBounds,ZB] using e
def strOrSl (P:Program) (u:TypeId):Bool :=
 match P.underlying u with
 | some .string|some (.slice _)=>true
 | _=>false
class TySrc (P:Program) (u:TypeId):Prop where out:strOrSl P u=true
instance {u:TypeId} [h:Xv P u]:TySrc P u:=⟨by simp [strOrSl,h.out]⟩
instance {u e n b:TypeId} [h:Xu P u e n b]:TySrc P u:=⟨by simp [strOrSl,(aY h.out).1]⟩
theorem eb {u:TypeId} (h:strOrSl P u=true):P.underlying u=some .string∨∃ e,P.underlying u=some (.slice e):=by
 unfold strOrSl at h
 split at h
 · exact .inl (by assumption)
 · exact .inr ⟨_,by assumption⟩
 · cases h
structure Src (P:Program) (w:World) (size:Nat) (x:Value) (m:Nat) (news:List Value):Prop where
 len:∀ w',(Builtin.lenOf x).run P w'=.ok m w'
 cells:∀ w':World,w'.heap=w.heap→(Builtin.firstCells size m x).run P w'=.ok news.toArray w'
 size:news.length=m*size
 one:∀ u∈news,u.oneCell'=true
theorem cG (e:TypeId) (cs:Array Value) (w:World):(newRow e cs).run P w=.ok ⟨w.heap.size,0,none⟩ (w.alloc (.cells cs e)):=rfl
theorem kx {w:World} {t u ty e size bytes:Nat} {z:Value} (hs:slOf P t=some (e,size,bytes)) (hz:zeroOf P e=some z) (hzs:z.cells.size=size) (hsz:0<size) (hu:strOrSl P u=true)
  {v x:Value} {n m:Nat} {xs news:List Value} (ho:ORow w e size v n xs) (hx:Src P w size x m news) (h63:n+m≤maxLen) (hby:(n+m)*bytes≤140737488355328) :
  ∃ v' w',(Builtin.append_ #[t,u] ty #[v,x]).run P w=.ok v' w'∧ORow w' e size v' (n+m) (xs++news)∧w'.os=w.os∧w'.tape=w.tape∧w'.output=w.output∧w.heap.size≤w'.heap.size ∧
   (∀ i,i<w.heap.size→i∉v.ownBlock.toList→w'.heap[i]?=w.heap[i]?)∧(∀ i∈v'.ownBlock.toList,i<w'.heap.size∧(i∈v.ownBlock.toList∨w.heap.size≤i)):=by
 obtain ⟨ht,inf,hi,hi1,hi2⟩:=aY hs
 have hzr:(zeroValue e).run P w.drew=.ok z w.drew:=cb hz _
 have hsm:n+m≤9223372036854775807:=by simp only [maxLen] at h63;omega
 have hlen:(xs++news).length=(n+m)*size:=by rw [Zw,ho.1,hx.size,Qp]
 have h63':¬ (9223372036854775807<(n:Int)+(m:Int)):=by omega
 have grow:∀ (A:Option Addr) (cap:Nat),v=.slice A n cap→cap<n+m→(∀ w':World,w'.heap=w.heap→(Builtin.firstCells size n v).run P w'=.ok xs.toArray w') →
   (Builtin.append_ #[t,u] ty #[v,x]).run P w=.ok (.slice (some ⟨w.heap.size,0,none⟩) (n+m) (grownCap w (n+m) cap e))
    (w.drew.alloc (.cells (xs.toArray++news.toArray++Builtin.zeroCells z.cells (grownCap w (n+m) cap e-(n+m))) e)):=by
  intro A cap hv hlt hf
  subst hv
  have h1:=hf w.drew rfl
  have h2:=hx.cells w.drew rfl
  have hnc:¬ (n+m≤cap):=by omega
  have hfit:¬ (281474976710656<Builtin.nextslicecap (n+m) cap*bytes):=by have:=growslice_fits hlt hby;omega
  have hsw:(sizeOf e).run P w=.ok size w:=by simp [sizeOf,typeInfo,hi,hi1]
  rcases eb hu with hD|⟨e',hD⟩<;>simp [Builtin.append_,run_underlying ht,run_underlying hD,hsw,typeInfo,hi,hi1,hi2,hx.len,hnc,hfit,h1,h2,hzr,grownCap,Question.forced,h63',cG]<;>(rw [←Array.append_assoc];simp)
 have fin:∀ (A:Option Addr) (cap:Nat),v=.slice A n cap→cap<n+m→(∀ w':World,w'.heap=w.heap→(Builtin.firstCells size n v).run P w'=.ok xs.toArray w')→_ :=
  fun A cap hv hlt hf=>by
   have hge:=grownCap_ge w (n+m) cap e
   have hcm:grownCap w (n+m) cap e≤maxLen:=grownCap_le_maxLen w (n+m) cap e h63
   exact (⟨_,_,grow A cap hv hlt hf,⟨hlen,.inr ⟨w.heap.size,_,_,(0,0),rfl,heap_alloc_new w.drew _,hge,hcm,by
     simp only [Array.size_append,List.size_toArray,size_zeroCells,hzs,ho.1,hx.size,←Qp]
     congr 1
     omega,by
     simp only [Array.toList_append,Zy]
     rw [←Zy,←hlen]
     exact List.take_left,.inl rfl⟩⟩,rfl,rfl,rfl,by simp,fun i hi _=>Below.heap_alloc w.drew _ i hi,fun i hi=>by
     simp only [Value.ownBlock,Qh,ZV] at hi
     subst hi
     exact ⟨by simp,.inr (ZN _)⟩⟩ :
    ∃ v' w',(Builtin.append_ #[t,u] ty #[v,x]).run P w=.ok v' w'∧ORow w' e size v' (n+m) (xs++news)∧w'.os=w.os∧w'.tape=w.tape∧w'.output=w.output∧w.heap.size≤w'.heap.size ∧
     (∀ i,i<w.heap.size→i∉v.ownBlock.toList→w'.heap[i]?=w.heap[i]?)∧(∀ i∈v'.ownBlock.toList,i<w'.heap.size∧(i∈v.ownBlock.toList∨w.heap.size≤i)))
 have hsw:(sizeOf e).run P w=.ok size w:=by simp [sizeOf,typeInfo,hi,hi1]
 rcases ho.2 with ⟨rfl,rfl⟩|⟨g,cap,cur,fz,rfl,hg,hnc,hcm,hcs,htake,hfz⟩
 · have hxs:xs=[]:=ZY (by simpa using ho.1)
   subst hxs
   by_cases hm:m=0
   · subst hm
     have hn:news=[]:=ZY (by simpa using hx.size)
     subst hn
     refine ⟨.slice none 0 0,w,?_,⟨by simp,.inl ⟨rfl,rfl⟩⟩,rfl,rfl,rfl,ZN _,fun _ _ _=>rfl,fun i hi=>by simp [Value.ownBlock] at hi⟩
     have h2:=hx.cells w rfl
     rcases eb hu with hD|⟨e',hD⟩<;>simp [Builtin.append_,run_underlying ht,run_underlying hD,hsw,hx.len,h2]
   · refine fin none 0 rfl ab fun w' _=>?_
     simp [Builtin.firstCells]
 · have hglt:g<w.heap.size:=(Qv.1 hg).1
   by_cases hroom:n+m≤cap
   · have h2:=hx.cells w rfl
     have hfit:n*size+news.length≤cur.size:=by
      rw [hcs,hx.size,←Qp]
      exact Nat.mul_le_mul_right _ hroom
     have hst:=dT P g (n*size) e fz news 0 cur w hg hfz (by simpa using hfit) hx.one
     simp only [ZK] at hst
     have hadd:(⟨g,0,none⟩:Addr).add (n*size)=⟨g,n*size,none⟩:=by unfold Addr.add;split<;>simp_all
     refine ⟨.slice (some ⟨g,0,none⟩) (n+m) cap,w.setRow g (cur.toList.take (n*size)++news++cur.toList.drop (n*size+news.length)).toArray,?_,⟨hlen,.inr ⟨g,cap,_,fz,rfl,Go.setRow_heap w g cur _ e fz hg,hroom,hcm,?_,?_,?_⟩⟩,rfl,rfl,rfl,by rw [cU];exact ZN _,?_,?_⟩
     · rcases eb hu with hD|⟨e',hD⟩<;>simp [Builtin.append_,run_underlying ht,run_underlying hD,hsw,hx.len,h2,hroom,hadd,hst]
     · simp only [List.size_toArray,Zw,Z7,Qf,Array.length_toList]
       omega
     · rw [htake,←hlen]
       exact List.take_left
     · simp only [List.size_toArray,Zw,Z7,Qf,Array.length_toList]
       omega
     · intro i _ hi
       exact setRow_heap _ _ _ _ (fun e=>hi (by simp [Value.ownBlock,e]))
     · intro i hi
       simp only [Value.ownBlock,Qh,ZV] at hi
       subst hi
       exact ⟨by rw [cU];exact hglt,.inl (by simp [Value.ownBlock])⟩
   · refine fin (some ⟨g,0,none⟩) cap rfl ab fun w' hw'=>?_
     have hl:=run_loadCells_list (P:=P) w' ⟨g,0,none⟩ xs (fun j u hj=>by
      have hadd:(⟨g,0,none⟩:Addr).add j=⟨g,j,none⟩:=by unfold Addr.add;split<;>simp_all
      rw [hadd,cell_of_row w' g j cur e fz (by rw [hw'];exact hg)]
      rw [←htake,Qr] at hj
      split at hj
      · simpa using hj
      · cases hj)
     rw [ho.1] at hl
     simp [Builtin.firstCells,hl]
theorem aD {n:Nat} {s x:Operand} {t u e size bytes:Nat} [hs:Xu P t e size bytes] {z:Value} [hz:Xl P e z] {v vx:Value} {m q:Nat} {xs news:List Value} {L:Value→List Xi}
  [hu:TySrc P u] (hzs:z.cells.size=size:=by rfl) (hsz:Nat.blt 0 size=true:=by rfl)
  (hv:ev E s=some v:=by rfl) (hx:ev E x=some vx:=by rfl) (hA:∀ v',At (orow e size v m xs) (orow e size v' (m+q) (xs++news)) loc (L v')) (hsrc:∀ w,Xn av bor w0 loc X w→Src P w size vx q news)
  (h63:(m+q)*bytes≤140737488355328) (h1:m+q≤maxLen) (hg:gdB ops E g=some (bb,want):=by rfl) (hb:bb=want:=by exact ay) (hd:Nat.blt n N=true:=by rfl)
  (h:∀ A c,Sw P N av bor w0 ops rest ⟨(n,.slice A (m+q) c)::E,L (.slice A (m+q) c),X⟩ k):Sw P N av bor w0 ops (⟨some n,.call ⟨.builtin .append,#[s,x],#[t,u]⟩,ty,pos,af,g⟩::rest) ⟨E,loc,X⟩ k:=Sw.mk fun a w ok=>by
 have hd':inB N (some n)=true:=by have h1:n<N:=Zt hd;simpa [inB] using h1
 have ho:ORow w e size v m xs:=(ok.gam.here _ (hA v).mem).now
 obtain ⟨v',w',hr,ho',k1,k2,k3,k4,k5,k6⟩:=kx (P:=P) (ty:=ty) hs.out hz.out hzs (Zt hsz) hu.out ho (hsrc w ok.gam) h1 h63
 have hv':∃ A c,v'=.slice A (m+q) c:=by
  rcases ho'.2 with ⟨rfl,h0⟩|⟨g',cap,_,_,rfl,_⟩
  · exact ⟨none,0,by rw [h0]⟩
  · exact ⟨_,_,rfl⟩
 obtain ⟨A,c,rfl⟩:=hv'
 simp only [wpList]
 rw [aM ok (o:=⟨some n,.call ⟨.builtin .append,#[s,x],#[t,u]⟩,ty,pos,af,g⟩) hg]
 subst hb
 simp only [Zv,ZF]
 left
 unfold Oper.wp
 have hr':(execOp a.eval ⟨some n,.call ⟨.builtin .append,#[s,x],#[t,u]⟩,ty,pos,af,g⟩).run P w=.ok (.value (.slice A (m+q) c)) w':=by
  simp only [execOp,resolve,invoke,builtin,Sem.run_bind,Sem.run_pure,Result.andThen_ok,List.map_toArray,ZR,List.map_nil,ok.eval (st:=⟨E,loc,X⟩) hv,ok.eval (st:=⟨E,loc,X⟩) hx,hr]
 rw [hr']
 have hn:(orow e size (.slice A (m+q) c) (m+q) (xs++news)).fp.Nodup:=by cases A<;>simp [orow,Value.ownBlock]
 have ok':Ok N av bor w0 ⟨E,L (.slice A (m+q) c),X⟩ a w':=(ok.via fun M G=>G.swap ((hA _).app M) k1 k2 k3 k4 k5 hn k6 (cP ho'))
 exact (h A c).run _ _ (bw (some n) _▸ok'.put hd' _)
theorem Xn.nilRow {w:World} (G:Xn av bor w0 loc X w) (e size:Nat):Xn av bor w0 (orow e size (.slice none 0 0) 0 []::loc) X w:=by
 have e1:fps (orow e size (.slice none 0 0) 0 []::loc)=fps loc:=by simp [fps,orow,Value.ownBlock]
 refine ⟨G.fr,G.avb,by rw [e1];exact G.nodup,by rw [e1];exact G.own,fun r hr=>?_,by rw [e1];exact G.keep⟩
 rcases ZC.1 hr with rfl|hr
 · exact cP ⟨by simp,.inl ⟨rfl,rfl⟩⟩
 · exact G.here r hr
theorem oK (e size:Nat) (h:Sw P N av bor w0 ops rest ⟨E,orow e size (.slice none 0 0) 0 []::loc,X⟩ k):Sw P N av bor w0 ops rest ⟨E,loc,X⟩ k:=Sw.mk fun a w ok=>h.run a w (ok.via fun M G=>G.nilRow e size)
theorem bA {c:Code} (e size:Nat) (h:Cw P N av bor w0 c ⟨E,orow e size (.slice none 0 0) 0 []::loc,X⟩ K):Cw P N av bor w0 c ⟨E,loc,X⟩ K:=Cw.mk fun a w ok=>h.run a w (ok.via fun M G=>G.nilRow e size)
theorem mG {w:World} {s:ByteArray} (hs:s.size≤9223372036854775807):Src P w 1 (.string s) s.size (s.data.toList.map fun b=>.int .u8 b.toNat):=by
 refine ⟨fun w'=>by simp [Builtin.lenOf],fun w' _=>?_,by simp,fun u hu=>?_⟩
 · have e:s.extract 0 s.size=s:=by simp
   simp only [Builtin.firstCells,e,Sem.run_pure]
   congr 1
   apply Array.ext'
   simp
 · simp only [Qt] at hu
   obtain ⟨b,_,rfl⟩:=hu
   rfl
theorem aR {w:World} {b T n size:Nat} {cs:List Value} (G:Xn av bor w0 loc X w) (hm:cel b T cs∈loc) (hl:cs.length=n*size) (h1:cs.all (·.oneCell')=true) (c:Nat):Src P w size (.slice (some ⟨b,0,none⟩) n c) n cs:=by
 have hw:w.heap[b]?=some (.cells cs.toArray T (0,0)):=(G.here _ hm).now
 refine ⟨fun w'=>by simp [Builtin.lenOf],fun w' e=>?_,hl,by simpa using h1⟩
 have:=run_loadCells_list (P:=P) w' ⟨b,0,none⟩ cs (fun j v hv=>by
  have hadd:(⟨b,0,none⟩:Addr).add j=⟨b,j,none⟩:=by unfold Addr.add;split<;>simp_all
  rw [hadd,cell_of_row w' b j _ _ _ (by rw [e];exact hw)]
  simpa using hv)
 rw [hl] at this
 simp [Builtin.firstCells,this]
theorem eK {w:World} {size:Nat} {s:Xh} {xs:List (List Value)} (h:Xd w size s xs) (h1:∀ cs∈xs,cs.all (·.oneCell')=true):Src P w size s.v s.n xs.flatten:=by
 have hlen:xs.flatten.length=s.n*size:=by
  rw [List.length_flatten,h.len]
  have:∀ x∈xs.map List.length,x=size:=by
   intro x hx
   obtain ⟨cs,hcs,rfl⟩:=Qt.1 hx
   obtain ⟨i,hi⟩:=List.mem_iff_getElem?.1 hcs
   exact (h.row i cs hi).1
  rw [List.eq_replicate_of_mem this]
  simp
 refine ⟨fun w'=>by simp [Builtin.lenOf,Xh.v],fun w' e=>?_,hlen,fun u hu=>?_⟩
 · obtain ⟨p,n,c⟩:=s
   cases p with
   | none =>
    have:xs=[]:=by
     cases xs with
     | nil=>rfl
     | cons cs r=>have:=(h.row 0 cs rfl).2.1;simp at this
    subst this
    simp [Builtin.firstCells,Xh.v]
   | some a =>
    have:=run_loadCells_list (P:=P) w' a xs.flatten (fun j v hv=>by
     have key:∀ (l:List (List Value)) (i0:Nat),(∀ i cs,l[i]?=some cs→cs.length=size∧∀ j u,cs[j]?=some u→CellAt w (some a) ((i0+i)*size+j) u)→∀ j v,l.flatten[j]?=some v→w.cell? (a.add (i0*size+j))=some v:=by
      intro l
      induction l with
      | nil=>intro _ _ j v hv;simp at hv
      | cons cs r ih =>
       intro i0 hl j v hv
       have h0:=hl 0 cs rfl
       rw [Z0] at hv
       rcases Nat.lt_or_ge j cs.length with hj|hj
       · rw [List.getElem?_append_left hj] at hv
         have:=(h0.2 j v hv).2 a rfl
         simpa using this
       · rw [List.getElem?_append_right hj] at hv
         have:=ih (i0+1) (fun i cs' hi=>by
          have:=hl (i+1) cs' (by simpa using hi)
          rw [show i0+1+i=i0+(i+1) from by omega]
          exact this) (j-cs.length) v hv
         rw [h0.1] at this hj
         rw [show i0*size+j=(i0+1)*size+(j-size) from by rw [Qp];omega]
         exact this
     have:=key xs 0 (fun i cs hi=>⟨(h.row i cs hi).1,fun j u hj=>by simpa using (h.row i cs hi).2.2 j u hj⟩) j v hv
     have hc:w'.cell? (a.add j)=w.cell? (a.add j):=by simp [World.cell?,e]
     rw [hc]
     simpa using this)
    rw [hlen] at this
    simp [Builtin.firstCells,Xh.v,this]
 · simp only [List.mem_flatten] at hu
   obtain ⟨cs,hcs,hu⟩:=hu
   have:=h1 cs hcs
   simp only [List.all_eq_true] at this
   exact this u hu
def ofInts (ns:List Int):ByteArray:=ns.foldl (fun r n=>r.push (UInt8.ofNat n.toNat)) ByteArray.empty
def u8s (ns:List Int):List Value:=ns.map (Value.int .u8)
def bytesI (s:ByteArray):List Int:=s.data.toList.map fun b=>(b.toNat:Int)
theorem bp (a b:List Int):u8s (a++b)=u8s a++u8s b:=by simp [u8s]
theorem kv {w:World} {s:ByteArray} (hs:s.size≤9223372036854775807):Src P w 1 (.string s) s.size (u8s (bytesI s)):=by
 have:=mG (P:=P) (w:=w) hs
 simpa [u8s,bytesI,ZQ,Function.comp_def] using this
theorem uE {st:St} {x:Operand} {t t2 e b':TypeId} [hs:Xu P t e 1 b'] [he:Xx P e .u8] [h2:Xv P t2] {v:Value} {n:Nat} {ns:List Int} (hx:ev st.env x=some v) (hm:orow e 1 v n (u8s ns)∈st.loc) :
  Sy.Yields P N av bor w0 st (.convert t t2 x) ty (.string (ofInts ns)):=Sy.Yields.mk fun A w ok d pos af g=>by
 have ho:ORow w e 1 v n (u8s ns):=(ok.gam.here _ hm).now
 have hl:(u8s ns).length=n:=by have:=ho.1;omega
 rcases ho.2 with ⟨rfl,rfl⟩|⟨g,cap,cur,fz,rfl,hg,hnc,hcm,hcs,htake,hfz⟩
 · have:ns=[]:=by simpa [u8s] using hl
   subst this
   have:=run_convert_bytes_string (P:=P) w t t2 e none 0 0 (aY hs.out).1 he.out h2.out
   simp [execOp,ok.eval hx,this,Conv.bytesToString,ofInts]
 · have hlc:=run_loadCells_list (P:=P) w ⟨g,0,none⟩ (u8s ns) (fun j u hj=>by
    have hadd:(⟨g,0,none⟩:Addr).add j=⟨g,j,none⟩:=by unfold Addr.add;split<;>simp_all
    rw [hadd,cell_of_row w g j cur e fz hg]
    rw [←htake,Qr] at hj
    split at hj
    · simpa using hj
    · cases hj)
   rw [hl] at hlc
   have h3:=run_bytesToString (P:=P) w ⟨g,0,none⟩ n cap ns hlc
   have h4:=run_convert_bytes_string (P:=P) w t t2 e (some ⟨g,0,none⟩) n cap (aY hs.out).1 he.out h2.out
   rw [h3] at h4
   simp [execOp,ok.eval hx,h4,ofInts]
theorem fE {nn:Nat} {x:Operand} {t t2 e b':TypeId} [hs:Xu P t e 1 b'] [he:Xx P e .u8] [h2:Xv P t2] {v:Value} {n:Nat} {ns:List Int} (h:Sw P N av bor w0 ops rest ⟨(nn,.string (ofInts ns))::E,loc,X⟩ k) (hx:ev E x=some v:=by rfl) (hm:orow e 1 v n (u8s ns)∈loc:=by exact aB) (hg:gdB ops E g=some (bb,want):=by rfl) (hb:bb=want:=by exact ay) (hd:Nat.blt nn N=true:=by rfl):Sw P N av bor w0 ops (⟨some nn,.convert t t2 x,ty,pos,af,g⟩::rest) ⟨E,loc,X⟩ k :=
 ao (uE hx hm) hg hb hd h
theorem m7 (w:World) (C:Array Value) (e:TypeId):(w.alloc (.cells C e)).freeze ⟨w.heap.size,C.size,none⟩ 1=w.alloc (.cells C e (C.size,C.size+1)):=by
 simp only [World.freeze,World.alloc]
 rw [ZH (by omega)]
 congr 1
 apply Array.ext_getElem?
 intro i
 rw [Qs]
 by_cases h:w.heap.size=i
 · subst h
   simp
 · have h':¬ i=w.heap.size:=fun e=>h e.symm
   simp [h,h',Array.getElem?_push]
theorem su {w:World} {e:TypeId} {s:ByteArray}:(Conv.stringToBytes e s).run P w=.ok (.slice (some ⟨w.heap.size,0,none⟩) s.size (grownCap w s.size 0 e))
  (w.drew.alloc (.cells ((s.data.map fun b=>Value.int .u8 b.toNat)++Array.replicate (grownCap w s.size 0 e-s.size) (.int .u8 0)) e
   ((((s.data.map fun b=>Value.int .u8 b.toNat)++Array.replicate (grownCap w s.size 0 e-s.size) (.int .u8 0)):Array Value).size,(((s.data.map fun b=>Value.int .u8 b.toNat)++Array.replicate (grownCap w s.size 0 e-s.size) (.int .u8 0)):Array Value).size+1))):=by
 have h1:(choose (.appendCap s.size 0 e)).run P w=.ok (grownCap w s.size 0 e) w.drew:=rfl
 unfold Conv.stringToBytes
 simp only [Sem.run_bind,h1,Result.andThen_ok,cG]
 generalize ((s.data.map fun b=>Value.int .u8 b.toNat)++Array.replicate (grownCap w s.size 0 e-s.size) (.int .u8 0):Array Value)=C
 have h2:(markStringish ⟨w.drew.heap.size,0,none⟩).run P (w.drew.alloc (.cells C e))=.ok () (w.drew.alloc (.cells C e (C.size,C.size+1))):=by
  have hs:(w.drew.alloc (.cells C e)).shape? w.heap.size=some (e,C.size):=by
   have:=heap_alloc_new w.drew (.cells C e)
   unfold World.shape?
   rw [show w.heap.size=w.drew.heap.size from rfl,this]
  have:=m7 w.drew C e
  simp [markStringish,hs]
  exact this
 rw [h2]
 simp
theorem qq {n:Nat} {x:Operand} {t t2 e b':TypeId} [hs:Xu P t2 e 1 b'] [he:Xx P e .u8] [h2:Xv P t] {s:ByteArray} (h:∀ A c,Sw P N av bor w0 ops rest ⟨(n,.slice A s.size c)::E,orow e 1 (.slice A s.size c) s.size (u8s (bytesI s))::loc,X⟩ k) (hx:ev E x=some (.string s):=by rfl) (hsz:s.size≤4611686018427387904:=by omega) (hg:gdB ops E g=some (bb,want):=by rfl) (hb:bb=want:=by exact ay) (hd:Nat.blt n N=true:=by rfl):Sw P N av bor w0 ops (⟨some n,.convert t t2 x,ty,pos,af,g⟩::rest) ⟨E,loc,X⟩ k:=Sw.mk fun a w ok=>by
 have hd':inB N (some n)=true:=by have h1:n<N:=Zt hd;simpa [inB] using h1
 have hge:s.size≤grownCap w s.size 0 e:=grownCap_ge w s.size 0 e
 have hcm:grownCap w s.size 0 e≤maxLen:=grownCap_le_maxLen w s.size 0 e (by simp only [maxLen];omega)
 have hr0:=su (P:=P) (w:=w) (e:=e) (s:=s)
 generalize grownCap w s.size 0 e=c at hge hcm hr0
 generalize hC:((s.data.map fun b=>Value.int .u8 b.toNat)++Array.replicate (c-s.size) (.int .u8 0):Array Value)=C at hr0
 have hCs:C.size=c:=by rw [←hC];simp;omega
 have hCt:C.toList.take s.size=u8s (bytesI s):=by
  rw [←hC]
  simp only [Array.toList_append,Array.toList_map]
  rw [List.take_append_of_le_length (by simp)]
  rw [Z4 (by simp)]
  simp [u8s,bytesI]
 simp only [wpList]
 rw [aM ok (o:=⟨some n,.convert t t2 x,ty,pos,af,g⟩) hg]
 subst hb
 simp only [Zv,ZF]
 left
 unfold Oper.wp
 have hr:(execOp a.eval ⟨some n,.convert t t2 x,ty,pos,af,g⟩).run P w=.ok (.value (.slice (some ⟨w.heap.size,0,none⟩) s.size c)) (w.drew.alloc (.cells C e (C.size,C.size+1))):=by
  simp [execOp,ok.eval (st:=⟨E,loc,X⟩) hx,convert,run_underlying h2.out,run_underlying (aY hs.out).1,run_underlying he.out,hr0]
 rw [hr]
 have ok':Ok N av bor w0 ⟨E,orow e 1 (.slice (some ⟨w.heap.size,0,none⟩) s.size c) s.size (u8s (bytesI s))::loc,X⟩ a (w.drew.alloc (.cells C e (C.size,C.size+1))):=(ok.via fun M G=>(G.drew).new (.cells C e (C.size,C.size+1)) (fun w2=>ORow w2 e 1 (.slice (some ⟨w.heap.size,0,none⟩) s.size c) s.size (u8s (bytesI s))) (fun w2 h=>⟨by simp [u8s,bytesI],.inr ⟨w.heap.size,c,C,_,rfl,h,hge,hcm,by omega,by simpa using hCt,.inr (ZN _)⟩⟩))
 exact (h _ _).run _ _ (bw (some n) _▸ok'.put hd' _)
end
theorem ga {P:Program} {N:Nat} {av bor:List Nat} {w0:World} {ops:Array Oper} {rest:List Oper} {st:St} {k:St→Prop} {d:Option Tmp} {ty:TypeId} {pos:String} {af:Array Edge} {g:Option (Nat×Bool)} {xs:Array Operand} {ts:Array TypeId}
  (h:Sw P N av bor w0 ops (⟨d,.call ⟨.builtin .append,xs,ts⟩,ty,pos,af,g⟩::rest) st k):Sw P N av bor w0 ops (⟨d,.call ⟨.builtin .append,xs,ts⟩,ty,pos,af,g⟩::rest) st k:=h
end Go.Proofs.YtamfbppnlomgfaaGreatDoor.Sy
namespace Go.Proofs.YtamfbppnlomgfaaGreatDoor.Sy
open Go Go.RowKit Go.MapKept
class Xj (κ:Type) where
 d:TypeDesc
 enc:κ→Value
 eqb:κ→κ→Bool
 ok:∀ a,IsKey d (enc a)
 same:∀ a b,Instr.sameNow d (enc a) (enc b)=some (eqb a b)
 eqb_iff:∀ a b,eqb a b=true↔a=b
instance:Xj Int:=⟨.int .i64,.int .i64,fun a b=>decide (a=b),fun a=>rfl,fun a b=>by simp [Instr.sameNow];rfl,fun a b=>by simp⟩
instance:Xj ByteArray:=⟨.string,.string,fun a b=>a==b,fun a=>trivial,fun a b=>rfl,bytes_beq⟩
def keyD (κ:Type) [Xj κ]:TypeDesc:=Xj.d κ
section
variable {κ:Type} [Xj κ] {β:Type}
def mget:List (κ×β)→κ→Option β
 | [],_=>none
 | (k',v')::r,k=>bif Xj.eqb k k' then some v' else mget r k
def mput:List (κ×β)→κ→β→List (κ×β)
 | [],k,v=>[(k,v)]
 | (k',v')::r,k,v=>bif Xj.eqb k k' then (k,v)::r else (k',v')::mput r k v
def MapAt (w:World) (g:Nat) (l:List (κ×Value)):Prop :=
 ∃ es clock,w.heap[g]?=some (.map es clock)∧Stamped es clock∧es.toList.map (fun e=>(e.key,e.val))=l.map fun p=>(Xj.enc p.1,p.2)
def mapr (g:Nat) (l:List (κ×Value)):Xi:=⟨[g],fun w=>MapAt w g l⟩
theorem gc (k:κ):∀ (es:List MapEntry) (l:List (κ×Value)) (i:Nat),es.map (fun e=>(e.key,e.val))=l.map (fun p=>(Xj.enc p.1,p.2)) →
  (Instr.findNow (keyD κ) (Xj.enc k) es i=some none∧mget l k=none∧(∀ v,mput l k v=l++[(k,v)])∧∀ x∈es,x.key≠Xj.enc k) ∨
  ∃ j e v0,Instr.findNow (keyD κ) (Xj.enc k) es i=some (some (i+j,v0))∧es[j]?=some e∧e.key=Xj.enc k∧mget l k=some v0∧∀ v,mput l k v=l.set j (k,v)
 | [],l,i,h=>by
  have:l=[]:=by cases l<;>simp_all
  subst this
  exact .inl ⟨rfl,rfl,fun _=>rfl,by simp⟩
 | e::es,[],i,h=>by simp at h
 | e::es,(k',v')::l,i,h=>by
  simp only [ZR,List.cons.injEq,Prod.mk.injEq] at h
  obtain ⟨⟨h1,h2⟩,h3⟩:=h
  have hs:Instr.sameNow (keyD κ) (Xj.enc k) e.key=some (Xj.eqb k k'):=by rw [h1];exact Xj.same k k'
  cases hb:Xj.eqb k k' with
  | true =>
   have hk:=(Xj.eqb_iff k k').1 hb
   exact .inr ⟨0,e,v',by simp [Instr.findNow,hs,hb,h2],rfl,by rw [h1,hk],by simp [mget,hb],fun v=>by simp [mput,hb]⟩
  | false =>
   have hne:e.key≠Xj.enc k:=fun q=>by
    have h5:=Xj.same k k
    have h6:Xj.eqb k k=true:=(Xj.eqb_iff k k).2 rfl
    have h7:Instr.sameNow (keyD κ) (Xj.enc k) (Xj.enc k)=some true:=by rw [←h6];exact h5
    rw [q,h7,hb] at hs
    simp at hs
   rcases gc k es l (i+1) h3 with ⟨g1,g2,g3,g4⟩|⟨j,e',v0,g1,g2,g3,g4,g5⟩
   · exact .inl ⟨by simp [Instr.findNow,hs,hb,g1],by simp [mget,hb,g2],fun v=>by simp [mput,hb,g3],fun x hx=>by
      cases hx with
      | head=>exact hne
      | tail _ hx=>exact g4 x hx⟩
   · exact .inr ⟨j+1,e',v0,by simp [Instr.findNow,hs,hb,g1];omega,by simpa using g2,g3,by simp [mget,hb,g4],fun v=>by simp [mput,hb,g5]⟩
def mapOf (P:Program) (t:TypeId):Option (TypeId×TypeDesc) :=
 match P.underlying t with
 | some (.map kt et)=>(P.underlying kt).map fun d=>(et,d)
 | _=>none
class TyMap (P:Program) (t:TypeId) (et:outParam Nat) (d:outParam TypeDesc):Prop where out:mapOf P t=some (et,d)
theorem fI {P:Program} {t et:TypeId} {d:TypeDesc} (h:mapOf P t=some (et,d)):∃ kt,P.underlying t=some (.map kt et)∧P.underlying kt=some d:=by
 unfold mapOf at h
 split at h
 · rename_i kt et' he
   cases hk:P.underlying kt with
   | none=>simp [hk] at h
   | some d' =>
    simp [hk] at h
    obtain ⟨rfl,rfl⟩:=h
    exact ⟨kt,he,hk⟩
 · cases h
theorem gD {P:Program} {w:World} {t et:TypeId} (ht:mapOf P t=some (et,keyD κ)) {g:Nat} {l:List (κ×Value)} (h:MapAt w g l) (k:κ) (v:Value) :
  ∃ o,(Instr.mapUpdate t (.map (some g)) (Xj.enc k) v).run P w=.ok () { w with heap:=w.heap.setIfInBounds g o }∧∀ w':World,w'.heap[g]?=some o→MapAt w' g (mput l k v):=by
 obtain ⟨kt,h1,h2⟩:=fI ht
 obtain ⟨es,clock,hb,hs,hl⟩:=h
 have hk:=Xj.ok k
 rcases gc k es.toList l 0 hl with ⟨g1,g2,g3,g4⟩|⟨j,e,v0,g1,g2,g3,g4,g5⟩
 · refine ⟨.map (es.push { key:=Xj.enc k,val:=v,born:=clock }) (clock+1),?_,fun w' hw=>⟨_,_,hw,stamped_push hs g4,?_⟩⟩
   · simp [Instr.mapUpdate,run_underlying h1,MapKept.run_getObj_map hb,MapKept.run_checkKey h2 hk,MapKept.run_findKey h2 g1,MapKept.run_setObj_map _ hb,Result.andThen]
   · rw [g3]
     simp [hl]
 · have hj:es[j]?=some e:=by simpa using g2
   refine ⟨.map (es.modify j fun e=>{ e with key:=Xj.enc k,val:=v }) clock,?_,fun w' hw=>⟨_,_,hw,stamped_modify hs _ _ (fun _ _=>rfl) (fun e' _ he'=>by rw [hj] at he';cases he';exact g3.symm),?_⟩⟩
   · simp [Instr.mapUpdate,run_underlying h1,MapKept.run_getObj_map hb,MapKept.run_checkKey h2 hk,MapKept.run_findKey h2 g1,hj,g3,MapKept.run_keyThatStays hk,MapKept.run_setObj_map _ hb,Result.andThen]
   · rw [g5]
     apply List.ext_getElem?
     intro q
     have hq:=congrArg (fun l=>l[q]?) hl
     simp only [ZX,Qc] at hq
     simp only [ZX,Qc,Qs,List.getElem?_set]
     by_cases e1:j=q
     · subst e1
       have hlt:j<l.length:=by
        rcases Nat.lt_or_ge j l.length with h|h
        · exact h
        · rw [hj,List.getElem?_eq_none h] at hq;simp at hq
       simp [hj,hlt]
     · simp [e1,hq]
theorem jq {P:Program} {w:World} {t et:TypeId} {z:Value} (ht:mapOf P t=some (et,keyD κ)) (hz:zeroOf P et=some z) {g:Nat} {l:List (κ×Value)} (h:MapAt w g l) (k:κ) (c:Bool) :
  (Instr.lookup t (.map (some g)) (Xj.enc k) c).run P w=.ok (if c then .tuple #[(mget l k).getD z,.bool (mget l k).isSome] else (mget l k).getD z) w:=by
 obtain ⟨kt,h1,h2⟩:=fI ht
 obtain ⟨es,clock,hb,hs,hl⟩:=h
 have hk:=Xj.ok k
 have hzr:(zeroValue et).run P w=.ok z w:=cb hz w
 rcases gc k es.toList l 0 hl with ⟨g1,g2,g3,g4⟩|⟨j,e,v0,g1,g2,g3,g4,g5⟩
 · cases c<;>simp [Instr.lookup,run_underlying h1,MapKept.run_getObj_map hb,MapKept.run_checkKey h2 hk,MapKept.run_findKey h2 g1,hzr,g2,Result.andThen]
 · cases c<;>simp [Instr.lookup,run_underlying h1,MapKept.run_getObj_map hb,MapKept.run_checkKey h2 hk,MapKept.run_findKey h2 g1,g4,Result.andThen]
end
theorem Xn.give {av bor:List Nat} {w0 w:World} {r:Xi} {loc:List Xi} {X:World→Prop} (G:Xn av bor w0 (r::loc) X w):Xn av bor w0 loc (fun w=>X w∧r.F w) w:=by
 have hn:=G.nodup
 rw [bI] at hn
 have hn2:=List.nodup_append.1 hn
 refine ⟨G.fr,G.avb,hn2.2.1,fun k hk=>G.own k (by rw [bI];exact Qk.2 (.inr hk)),fun q hq=>G.here q (Zr _ hq),?_⟩
 refine Keeps.and (G.keep.anti fun k hk=>?_) ⟨fun k=>k∈r.fp,fun k hk=>?_,fun w' e=>G.here r aC w' e⟩
 · rw [bI]
   rcases Qk.1 hk with h|h
   · exact Qk.2 (.inl h)
   · exact Qk.2 (.inr (Qk.2 (.inr h)))
 · have h1:=G.own k (by rw [bI];exact Qk.2 (.inl hk))
   refine ⟨h1.1,fun h=>?_⟩
   rcases Qk.1 h with h|h
   · have h2:=G.avb k h
     rcases h1.2 with h3|h3
     · omega
     · exact h2.2 h3
   · exact hn2.2.2 k hk k h rfl
section
variable {P:Program} {N:Nat} {av bor:List Nat} {w0:World} {ops:Array Oper} {rest:List Oper} {k:St→Prop} {E:Env} {loc loc':List Xi} {X:World→Prop}
variable {d:Option Tmp} {ty:TypeId} {pos:String} {af:Array Edge} {g:Option (Nat×Bool)} {bb want:Bool} {K:Exit→St→Prop}
theorem cJ {r:Xi} (h:Sw P N av bor w0 ops rest ⟨E,loc,fun w=>X w∧r.F w⟩ k):Sw P N av bor w0 ops rest ⟨E,r::loc,X⟩ k:=Sw.mk fun a w ok=>h.run a w (ok.via fun M G=>G.give)
theorem tf {c:Code} {r:Xi} (h:Cw P N av bor w0 c ⟨E,loc,fun w=>X w∧r.F w⟩ K):Cw P N av bor w0 c ⟨E,r::loc,X⟩ K:=Cw.mk fun a w ok=>h.run a w (ok.via fun M G=>G.give)
theorem fF (κ:Type) [Xj κ] {n:Nat} {t:TypeId} (hg:gdB ops E g=some (bb,want):=by rfl) (hb:bb=want:=by exact ay) (hd:Nat.blt n N=true:=by rfl)
  (h:∀ q,Sw P N av bor w0 ops rest ⟨(n,.map (some q))::E,mapr q ([]:List (κ×Value))::loc,X⟩ k):Sw P N av bor w0 ops (⟨some n,.makeMap t none,ty,pos,af,g⟩::rest) ⟨E,loc,X⟩ k:=Sw.mk fun a w ok=>by
 have hd':inB N (some n)=true:=by have h1:n<N:=Zt hd;simpa [inB] using h1
 simp only [wpList]
 rw [aM ok (o:=⟨some n,.makeMap t none,ty,pos,af,g⟩) hg]
 subst hb
 simp only [Zv,ZF]
 left
 unfold Oper.wp
 have hr:(execOp a.eval ⟨some n,.makeMap t none,ty,pos,af,g⟩).run P w=.ok (.value (.map (some w.heap.size))) (w.alloc (.map #[] 0)):=by
  have:(newObj (.map #[] 0)).run P w=.ok w.heap.size (w.alloc (.map #[] 0)):=rfl
  simp [execOp,Instr.makeMap,this]
 rw [hr]
 have ok':Ok N av bor w0 ⟨E,mapr w.heap.size ([]:List (κ×Value))::loc,X⟩ a (w.alloc (.map #[] 0)):=(ok.via fun M G=>G.new (.map #[] 0) (fun w2=>MapAt w2 w.heap.size ([]:List (κ×Value))) fun w2 h=>⟨#[],0,h,stamped_empty 0,rfl⟩)
 exact (h _).run _ _ (bw (some n) _▸ok'.put hd' _)
theorem MapAt.same {κ:Type} [Xj κ] {w w':World} {q:Nat} {l:List (κ×Value)} (h:MapAt w q l) (e:w'.heap[q]?=w.heap[q]?):MapAt w' q l:=by
 obtain ⟨es,c,h1,h2⟩:=h
 exact ⟨es,c,e.trans h1,h2⟩
theorem jN {κ:Type} [Xj κ] {a:Act} {w:World} (ok:Ok N av bor w0 ⟨E,loc,X⟩ a w) {t et:TypeId} (ht:mapOf P t=some (et,keyD κ)) {q:Nat} {l:List (κ×Value)} {kk:κ} {v:Value} (hA:At (mapr q l) (mapr q (mput l kk v)) loc loc') :
  ∃ w',(Instr.mapUpdate t (.map (some q)) (Xj.enc kk) v).run P w=.ok () w'∧Ok N av bor w0 ⟨E,loc',X⟩ a w':=by
 have hm:MapAt w q l:=(ok.gam.here _ hA.mem).now
 obtain ⟨o,hr,ho⟩:=gD ht hm kk v
 obtain ⟨es,c,hb,_⟩:=hm
 have hs:=heap_set (o':=o) hb
 refine ⟨_,hr,ok.via fun M G=>G.turn (hA.app M) rfl rfl rfl (by simp) (fun i hi=>hs.2 i hi) fun w2 h2=>ho w2 (h2.trans hs.1)⟩
theorem oL {κ:Type} [Xj κ] {t et:Nat} [ht:TyMap P t et (keyD κ)] {m x y:Operand} {q:Nat} {l:List (κ×Value)} {kk:κ} {v:Value} (h:Sw P N av bor w0 ops rest ⟨putE E d undef,loc',X⟩ k) (hm:ev E m=some (.map (some q)):=by rfl) (hx:ev E x=some (Xj.enc kk):=by rfl) (hy:ev E y=some v:=by rfl) (hA:At (mapr q l) (mapr q (mput l kk v)) loc loc':=by (repeat (first|exact At.here _|apply At.there))) (hg:gdB ops E g=some (bb,want):=by rfl) (hb:bb=want:=by exact ay) (hd:inB N d=true:=by rfl):Sw P N av bor w0 ops (⟨d,.insert t m x y,ty,pos,af,g⟩::rest) ⟨E,loc,X⟩ k:=Sw.mk fun a w ok=>by
 simp only [wpList]
 rw [aM ok (o:=⟨d,.insert t m x y,ty,pos,af,g⟩) hg]
 subst hb
 simp only [Zv,ZF]
 left
 unfold Oper.wp
 obtain ⟨w',hr,ok'⟩:=jN (P:=P) ok ht.out hA
 have hr':(execOp a.eval ⟨d,.insert t m x y,ty,pos,af,g⟩).run P w=.ok .skip w':=by
  simp [execOp,ok.eval (st:=⟨E,loc,X⟩) hm,ok.eval (st:=⟨E,loc,X⟩) hx,ok.eval (st:=⟨E,loc,X⟩) hy,hr]
 rw [hr']
 exact h.run _ _ (bw d _▸ok'.put hd _)
theorem jA {κ:Type} [Xj κ] {t et:Nat} [ht:TyMap P t et (keyD κ)] {m x y:Operand} {q:Nat} {l:List (κ×Value)} {kk:κ} {v:Value} (h:Sw P N av bor w0 ops rest ⟨putE E d undef,loc',X⟩ k) (hm:ev E m=some (.map (some q)):=by rfl) (hx:ev E x=some (Xj.enc kk):=by rfl) (hy:ev E y=some v:=by rfl) (hA:At (mapr q l) (mapr q (mput l kk v)) loc loc':=by (repeat (first|exact At.here _|apply At.there))) (hg:gdB ops E g=some (bb,want):=by rfl) (hb:bb=want:=by exact ay) (hd:inB N d=true:=by rfl):Sw P N av bor w0 ops (⟨d,.mapUpdate t m x y,ty,pos,af,g⟩::rest) ⟨E,loc,X⟩ k:=Sw.mk fun a w ok=>by
 simp only [wpList]
 rw [aM ok (o:=⟨d,.mapUpdate t m x y,ty,pos,af,g⟩) hg]
 subst hb
 simp only [Zv,ZF]
 left
 unfold Oper.wp
 obtain ⟨w',hr,ok'⟩:=jN (P:=P) ok ht.out hA
 have hr':(execOp a.eval ⟨d,.mapUpdate t m x y,ty,pos,af,g⟩).run P w=.ok .skip w':=by
  simp [execOp,ok.eval (st:=⟨E,loc,X⟩) hm,ok.eval (st:=⟨E,loc,X⟩) hx,ok.eval (st:=⟨E,loc,X⟩) hy,hr]
 rw [hr']
 exact h.run _ _ (bw d _▸ok'.put hd _)
theorem pZ {κ:Type} [Xj κ] {st:St} {t et:Nat} [ht:TyMap P t et (keyD κ)] {z:Value} [hz:Xl P et z] {m x:Operand} {c:Bool} {q:Nat} {l:List (κ×Value)} {kk:κ} (hm:ev st.env m=some (.map (some q))) (hx:ev st.env x=some (Xj.enc kk))
  (hl:∀ w,Xn av bor w0 st.loc st.ext w→MapAt w q l):Sy.Yields P N av bor w0 st (.lookup t m x c) ty (if c then .tuple #[(mget l kk).getD z,.bool (mget l kk).isSome] else (mget l kk).getD z):=Sy.Yields.mk fun A w ok d pos af g=>by
 have:=jq (P:=P) (t:=t) ht.out hz.out (hl w ok.gam) kk c
 simp [execOp,ok.eval hm,ok.eval hx,this]
theorem nO {κ:Type} [Xj κ] {q:Nat} {l:List (κ×Value)} (hm:mapr q l∈loc):∀ w,Xn av bor w0 loc X w→MapAt w q l:=fun w G=>(G.here _ hm).now
theorem iq {κ:Type} [Xj κ] {q:Nat} {l:List (κ×Value)} (hm:∀ w,X w→MapAt w q l):∀ w,Xn av bor w0 loc X w→MapAt w q l:=fun w G=>hm w G.keep.now
theorem oH {κ:Type} [Xj κ] {n:Nat} {t et:Nat} [ht:TyMap P t et (keyD κ)] {z:Value} [hz:Xl P et z] {m x:Operand} {c:Bool} {q:Nat} {l:List (κ×Value)} {kk:κ} (hm:ev E m=some (.map (some q)):=by rfl) (hx:ev E x=some (Xj.enc kk):=by rfl)
  (hl:∀ w,Xn av bor w0 loc X w→MapAt w q l) (hg:gdB ops E g=some (bb,want):=by rfl) (hb:bb=want:=by exact ay) (hd:Nat.blt n N=true:=by rfl)
  (h:Sw P N av bor w0 ops rest ⟨(n,if c then .tuple #[(mget l kk).getD z,.bool (mget l kk).isSome] else (mget l kk).getD z)::E,loc,X⟩ k):Sw P N av bor w0 ops (⟨some n,.lookup t m x c,ty,pos,af,g⟩::rest) ⟨E,loc,X⟩ k:=ao (pZ hm hx hl) hg hb hd h
theorem cN {κ:Type} [Xj κ] {n:Nat} {t et:Nat} [ht:TyMap P t et (keyD κ)] {z:Value} [hz:Xl P et z] {m x:Operand} {q:Nat} {l:List (κ×Value)} {kk:κ} {o:Option Value} {v:Value} {b:Bool} (h:Sw P N av bor w0 ops rest ⟨(n,.tuple #[v,.bool b])::E,loc,X⟩ k) (hm:ev E m=some (.map (some q)):=by rfl) (hx:ev E x=some (Xj.enc kk):=by rfl) (hl:∀ w,Xn av bor w0 loc X w→MapAt w q l) (ho:mget l kk=o) (hv:o.getD z=v:=by rfl) (hbo:o.isSome=b:=by rfl) (hg:gdB ops E g=some (bb,want):=by rfl) (hb:bb=want:=by exact ay) (hd:Nat.blt n N=true:=by rfl):Sw P N av bor w0 ops (⟨some n,.lookup t m x true,ty,pos,af,g⟩::rest) ⟨E,loc,X⟩ k:=by
 subst ho;subst hv;subst hbo
 exact oH hm hx hl hg hb hd h
end
theorem Xn.giveAll {av bor:List Nat} {w0 w:World}:∀ {loc:List Xi} {X:World→Prop},Xn av bor w0 loc X w→Xn av bor w0 [] (fun w=>X w∧∀ r∈loc,r.F w) w
  | [],X,G=>G.imp fun _ h=>⟨h,by simp⟩
  | r :: loc,X,G=>(Xn.giveAll G.give).imp fun w h=>⟨h.1.1,fun q hq=>by
      rcases ZC.1 hq with rfl|hq
      · exact h.1.2
      · exact h.2 q hq⟩
theorem pc {P:Program} {f:FuncId} {fn:Func} {c:Code} {args:List Value} {X:World→Prop} {Φ:Value→(World→Prop)→Prop} (N:Nat)
  (hf:P.funcs[f]?=some fn) (hb:fn.body=some c) (hN:fn.ntmps=N) (hn:Nat.ble args.length N=true)
  (h:∀ av bor w0,Cw P N av bor w0 c ⟨params 0 args,[],X⟩ (ends P fn N fun u R X'=>Φ u fun w=>X' w∧∀ r∈R,r.F w)):Mk P f args.toArray X Φ:=by
 unfold Mk
 exact Ct.mk fun w av G=>by
  have h1:=(eW (P:=P) (Post:=fun u R X'=>Φ u fun w=>X' w∧∀ r∈R,r.F w) N hf hb hN hn h).run w av G
  refine h1.mono fun e w' ⟨u,R,X',he,hu,G'⟩=>⟨u,[],_,he,⟨hu,rfl⟩,G'.giveAll⟩
theorem cF {P:Program} {f:FuncId} {fn:Func} {c:Code} {args:List Value} {X:World→Prop} {Φ:Value→(World→Prop)→Prop} {N:Nat} (hf:P.funcs[f]?=some fn) (hN:fn.ntmps=N) (h:∀ av bor w0,Cw P N av bor w0 c ⟨params 0 args,[],X⟩ (ends P fn N fun u R X'=>Φ u fun w=>X' w∧∀ r∈R,r.F w)) (hb:fn.body=some c:=by rfl) (hn:Nat.ble args.length N=true:=by rfl):Mk P f args.toArray X Φ:=pc N hf hb hN hn h
end Go.Proofs.YtamfbppnlomgfaaGreatDoor.Sy
namespace Go.Proofs.YtamfbppnlomgfaaGreatDoor.Sy
open Go Go.RowKit Go.Sort Go.Proofs
def bl (s:ByteArray):List UInt8:=s.data.toList
def lb (l:List UInt8):ByteArray:=⟨l.toArray⟩
theorem nV (s:ByteArray):lb (bl s)=s:=by simp [lb,bl]
theorem vc (l:List UInt8):bl (lb l)=l:=by simp [lb,bl]
def encB (s:ByteArray):Value:=.string s
theorem j2 (s:ByteArray):encStr (bl s)=encB s:=by simp [encStr,bl,encB]
theorem fH (l:List (List UInt8)):l.map encStr=(l.map lb).map encB:=by
 rw [ZQ]
 apply Ql
 intro a _
 show encStr a=encB (lb a)
 rw [←j2,vc]
theorem lK (l:List ByteArray):l.map encB=(l.map bl).map encStr:=by
 rw [ZQ]
 apply Ql
 intro a _
 exact (j2 a).symm
def sortB (l:List ByteArray):List ByteArray:=((l.map bl).mergeSort leB).map lb
def compB (l:List ByteArray):List ByteArray:=(Lib.compact (l.map bl)).map lb
theorem jD (l:List ByteArray):(sortB l).length=l.length:=by simp [sortB]
theorem je {α:Type} [Inhabited α] {enc:α→Value} {w:World} {e g n:Nat} {cur:Array Value} {fz:Nat×Nat} {ss:List α} (hb:w.heap[g]?=some (.cells cur e fz)) (hl:ss.length=n) (ht:cur.toList.take (n*1)=ss.map enc)
  (hz:fz.1=fz.2∨cur.size≤fz.1):Go.Sort.Holds enc w g 0 ss.toArray:=by
 intro j hj
 have hj':j<ss.length:=by simpa using hj
 have h1:(cur.toList.take (n*1))[j]?=(ss.map enc)[j]?:=by rw [ht]
 rw [List.getElem?_take_of_lt (by omega)] at h1
 have hjc:j<cur.size:=by
  rcases Nat.lt_or_ge j cur.size with h|h
  · exact h
  · rw [List.getElem?_eq_none (by simpa using h),ZX,Zc hj'] at h1
    simp at h1
 refine ⟨?_,?_⟩
 · simp only [World.cell?,hb,ZL]
   simp only [Option.isSome_none,Bool.false_eq_true,if_false]
   rw [←Qc,h1]
   simp [hj']
 · obtain ⟨lo,hi⟩:=fz
   simp only [World.frozen?,hb]
   simp only at hz
   have:¬ (lo≤0+j∧0+j<hi):=by omega
   simpa using this
theorem rj {α:Type} [Inhabited α] {enc:α→Value} {w:World} {g n:Nat} {os:Array Obj} {cur:Array Value} {e:Nat} {fr:Nat×Nat} (d:Array α) (hb:w.heap[g]?=some (.cells cur e fr)) :
  (grow (putRow enc (Sort.ahead w n) g 0 d) os).heap[g]?=some (.cells (putCells enc 0 d cur) e fr):=by
 have hg:g<w.heap.size:=(Qv.1 hb).1
 rw [heap_grow_old _ _ (by simpa using hg)]
 simp [putRow,mapBlock,Sort.ahead,Qs,hb,onCells]
theorem m0 {α:Type} [Inhabited α] {enc:α→Value} {w:World} {g n:Nat} {os:Array Obj} (d:Array α) (k:Nat) (hk:k<w.heap.size) (hne:k≠g) :
  (grow (putRow enc (Sort.ahead w n) g 0 d) os).heap[k]?=w.heap[k]?:=by
 rw [heap_grow_old _ _ (by simpa using hk)]
 have:g≠k:=fun e=>hne e.symm
 simp [putRow,mapBlock,Sort.ahead,Qs,this]
theorem qm {α:Type} [Inhabited α] {enc:α→Value} (cur:Array Value) (ts us:List α) (h:(ts++us).length≤cur.size):(putCells enc 0 (ts++us).toArray cur).toList.take ts.length=ts.map enc:=by
 apply List.ext_getElem?
 intro j
 by_cases hj:j<ts.length
 · rw [List.getElem?_take_of_lt hj,Qc]
   have h2:ts.length+us.length≤cur.size:=by simpa using h
   simp [putCells,hj,show j<cur.size by omega,show j<ts.length+us.length by omega]
 · rw [List.getElem?_take_eq_none ab,List.getElem?_eq_none (by simp;omega)]
theorem Xn.putRow {α:Type} [Inhabited α] {enc:α→Value} {av bor:List Nat} {w0 w:World} {loc loc':List Xi} {X:World→Prop} {e g cap n n' q:Nat} {xs:List Value} {cur:Array Value} {fz:Nat×Nat} {os:Array Obj} {ts us:List α}
  (G:Xn av bor w0 loc X w) (hb:w.heap[g]?=some (.cells cur e fz)) (hcm:cap≤maxLen) (hcs:cur.size=cap) (hz:fz.1=fz.2∨cur.size≤fz.1) (hle:n'≤cap) (htl:ts.length=n') (hus:(ts++us).length≤cap)
  (hA:At (orow e 1 (.slice (some ⟨g,0,none⟩) n cap) n xs) (orow e 1 (.slice (some ⟨g,0,none⟩) n' cap) n' (ts.map enc)) loc loc') :
  Xn av bor w0 loc' X (grow (Go.Sort.putRow enc (Sort.ahead w q) g 0 (ts++us).toArray) os):=by
 have hg:g<w.heap.size:=(Qv.1 hb).1
 refine G.swap hA rfl rfl rfl (by simp) (fun i hi hne=>m0 _ i hi ?_) (by simp [orow,Value.ownBlock]) (fun i hi=>?_) (cP ?_)
 · simpa [orow,Value.ownBlock] using hne
 · simp only [orow,Value.ownBlock,Qh,ZV] at hi ⊢
   subst hi
   exact ⟨by simp;omega,.inl rfl⟩
 · refine ⟨by simp [htl],.inr ⟨g,cap,_,fz,rfl,rj _ hb,hle,hcm,by simp [putCells,hcs],?_,by simpa [putCells] using hz⟩⟩
   rw [Nat.mul_one,←htl]
   exact qm cur ts us ab
section
variable {P:Program} {f:FuncId}
structure SortC {α:Type} [Inhabited α] (P:Program) (f:FuncId) (enc:α→Value) (srt:List α→List α):Prop where
 some_:∀ (blk off cap:Nat) (ss:List α) (w:World),Go.Sort.Holds enc w blk off ss.toArray→blk<w.heap.size→ss.length<4611686018427387904 →
  Calls P f #[.slice (some ⟨blk,off,none⟩) ss.length cap] w fun e w'=>e=.returned (.tuple #[])∧∃ n os,w'=grow (Go.Sort.putRow enc (Sort.ahead w n) blk off (srt ss).toArray) os
 none_:∀ (p:Option Addr) (cap:Nat) (w:World),Calls P f #[.slice p 0 cap] w fun e w'=>e=.returned (.tuple #[])∧w'=w
 len:∀ ss,(srt ss).length=ss.length
theorem SortC.ct {α:Type} [Inhabited α] {enc:α→Value} {srt:List α→List α} (h:SortC P f enc srt) {e n:Nat} {v:Value} {ss:List α} (hn:n≤1000000000) :
  Ct P f #[v] [orow e 1 v n (ss.map enc)] (fun _=>True) fun u R _=>u=.tuple #[]∧R=[orow e 1 v n ((srt ss).map enc)]:=Ct.mk fun w av G=>by
 have ho:ORow w e 1 v n (ss.map enc):=(G.here _ aC).now
 have hl:ss.length=n:=by simpa using ho.1
 rcases ho.2 with ⟨rfl,rfl⟩|⟨g,cap,cur,fz,rfl,hg,hnc,hcm,hcs,htake,hfz⟩
 · have hss:ss=[]:=ZY hl
   have hss':srt ss=[]:=ZY (by rw [h.len,hl])
   refine (h.none_ none 0 w).mono fun e w' ⟨h1,h2⟩=>⟨_,_,fun _=>True,h1,⟨rfl,rfl⟩,?_⟩
   subst h2
   rw [hss']
   rw [hss] at G
   exact G
 · have hgl:g<w.heap.size:=(Qv.1 hg).1
   subst hl
   have h62:ss.length<4611686018427387904:=by omega
   refine (h.some_ g 0 cap ss w (je hg rfl htake hfz) hgl h62).mono fun e w' ⟨h1,n,os,h2⟩=>⟨_,_,fun _=>True,h1,⟨rfl,rfl⟩,?_⟩
   subst h2
   have:=G.putRow (us:=[]) (ts:=srt ss) (q:=n) (os:=os) (enc:=enc) hg hcm ab hfz hnc (h.len ss) (by simp [h.len];omega) (At.here [])
   rw [ZD] at this
   exact this
structure CompC {α:Type} [Inhabited α] (P:Program) (f:FuncId) (enc:α→Value) (z:α) (cmp:List α→List α):Prop where
 some_:∀ (blk off cap:Nat) (ss:List α) (w:World),Go.Sort.Holds enc w blk off ss.toArray→ss.length≤9223372036854775807→ss.length≤cap →
  Calls P f #[.slice (some ⟨blk,off,none⟩) ss.length cap] w fun e w'=>e=.returned (.slice (some ⟨blk,off,none⟩) (cmp ss).length cap)∧∃ q,w'=Go.Sort.putRow enc (Sort.ahead w q) blk off (cmp ss++List.replicate (ss.length-(cmp ss).length) z).toArray
 none_:∀ (a:Option Addr) (cap:Nat) (w:World),Calls P f #[.slice a 0 cap] w fun e w'=>e=.returned (.slice a 0 cap)∧w'=w
 len:∀ ss,(cmp ss).length≤ss.length
theorem CompC.ct {α:Type} [Inhabited α] {enc:α→Value} {z:α} {cmp:List α→List α} (h:CompC P f enc z cmp) {e n:Nat} {v:Value} {ss:List α} :
  Ct P f #[v] [orow e 1 v n (ss.map enc)] (fun _=>True) fun u R _=>∃ A c,u=.slice A (cmp ss).length c∧R=[orow e 1 u (cmp ss).length ((cmp ss).map enc)]:=Ct.mk fun w av G=>by
 have ho:ORow w e 1 v n (ss.map enc):=(G.here _ aC).now
 have hl:ss.length=n:=by simpa using ho.1
 rcases ho.2 with ⟨rfl,rfl⟩|⟨g,cap,cur,fz,rfl,hg,hnc,hcm,hcs,htake,hfz⟩
 · have hss:ss=[]:=ZY hl
   have hss':cmp ss=[]:=ZY (by have:=h.len ss;omega)
   refine (h.none_ none 0 w).mono fun e w' ⟨h1,h2⟩=>⟨_,_,fun _=>True,h1,⟨none,0,by rw [hss'];rfl,rfl⟩,?_⟩
   subst h2
   rw [hss']
   rw [hss] at G
   exact G
 · subst hl
   have h62:ss.length≤9223372036854775807:=by simp only [maxLen] at hcm;omega
   have hlen:=h.len ss
   refine (h.some_ g 0 cap ss w (je hg rfl htake hfz) h62 hnc).mono fun e w' ⟨h1,q,h2⟩=>⟨_,_,fun _=>True,h1,⟨_,_,rfl,rfl⟩,?_⟩
   subst h2
   have:=G.putRow (us:=List.replicate (ss.length-(cmp ss).length) z) (ts:=cmp ss) (n':=(cmp ss).length) (q:=q) (os:=#[]) (enc:=enc) hg hcm ab hfz ab rfl (by simp;omega) (At.here [])
   rw [grow_empty] at this
   exact this
end
end Go.Proofs.YtamfbppnlomgfaaGreatDoor.Sy
namespace Go.Proofs.YtamfbppnlomgfaaGreatDoor.Sy
open Go Go.RowKit Go.Sort Go.Proofs Go.MapKept Go.Maps Go.Shelf
theorem Xn.more {av bor:List Nat} {w0 w w':World} {loc:List Xi} {X:World→Prop} {r:Xi} (G:Xn av bor w0 loc X w) (hB:Below w.heap.size w w') (hr:Holds r w') (hn:r.fp.Nodup) (hf:∀ i∈r.fp,w.heap.size≤i∧i<w'.heap.size) :
  Xn av bor w0 (r::loc) X w':=by
 have G0:Xn av bor w0 (⟨[],fun _=>True⟩::loc) X w:=by
  have e1:fps ((⟨[],fun _=>True⟩:Xi)::loc)=fps loc:=by simp [fps]
  refine ⟨G.fr,G.avb,by rw [e1];exact G.nodup,by rw [e1];exact G.own,fun x hx=>?_,by rw [e1];exact G.keep⟩
  rcases ZC.1 hx with rfl|hx
  · exact fun _ _=>trivial
  · exact G.here x hx
 refine G0.swap (At.here loc) hB.os hB.tape hB.output hB.size (fun i hi _=>hB.block i hi) hn (fun i hi=>⟨(hf i hi).2,.inr (hf i hi).1⟩) hr
theorem fU {w:World} {base e size n:Nat} {v:Value} {xs:List Value} (h:w.ownsRow base e size v n xs):ORow w e size v n xs:=by
 refine ⟨h.1,?_⟩
 rcases h.2 with h0|⟨g,cap,cur,hv,_,hg,h1,h2,h3,h4⟩
 · exact .inl h0
 · exact .inr ⟨g,cap,cur,(0,0),hv,hg,h1,h2,h3,h4,.inl rfl⟩
theorem nH {w:World} {base e size n:Nat} {v:Value} {xs:List Value} (h:w.ownsRow base e size v n xs):(orow e size v n xs).fp.Nodup∧(∀ i∈(orow e size v n xs).fp,base≤i∧i<w.heap.size)∧∃ A c,v=.slice A n c:=by
 rcases h.2 with ⟨rfl,rfl⟩|⟨g,cap,cur,rfl,hb,hg,h1,h2,h3,h4⟩
 · exact ⟨by simp [orow,Value.ownBlock],fun i hi=>by simp [orow,Value.ownBlock] at hi,none,0,rfl⟩
 · refine ⟨by simp [orow,Value.ownBlock],fun i hi=>?_,_,_,rfl⟩
   simp only [orow,Value.ownBlock,Qh,ZV] at hi
   subst hi
   exact ⟨hb,(Qv.1 hg).1⟩
def rTriv:Value→Option (DataW Unit×List MemPlace):=fun _=>some (.nil,[])
theorem nP {κ:Type} [Xj κ] {w:World} {q:Nat} {l:List (κ×Value)} {es:Array MapEntry} (hl:es.toList.map (fun e=>(e.key,e.val))=l.map fun p=>(Xj.enc p.1,p.2)):es.size=l.length:=by
 have:=congrArg List.length hl
 simpa using this
theorem kz {P:Program} {K:Nat} (hk:P.underlying K=some .string) {w:World} {q:Nat} {l:List (ByteArray×Value)} (h:MapAt w q l) (hs:∀ p∈l,p.1.size≤maxLen) (hlen:l.length≤maxLen) :
  ∃ D0:DataW Unit,w.ownsMap P K rTriv q l.length D0∧(strKeys D0).Perm (l.map fun p=>bl p.1)∧Maps.size D0=l.length:=by
 obtain ⟨es,clock,hb,hst,hl⟩:=h
 have hz:=nP (w:=w) (q:=q) hl
 have hkey:∀ x∈es.toList,∃ s:ByteArray,x.key=.string s∧s.size≤maxLen:=by
  intro x hx
  have h1:(x.key,x.val)∈l.map fun p=>(Xj.enc p.1,p.2):=by rw [←hl];exact Qt.2 ⟨x,hx,rfl⟩
  obtain ⟨p,hp,he⟩:=Qt.1 h1
  refine ⟨p.1,?_,hs p hp⟩
  have:=congrArg Prod.fst he
  exact this.symm
 have hrd:∀ x∈es.toList,∃ s:ByteArray,x.key=.string s∧WideElems.rd P K rTriv x=some (.string (bl s),.nil):=by
  intro x hx
  obtain ⟨s,h1,h2⟩:=hkey x hx
  refine ⟨s,h1,?_⟩
  have h3:Go.keyOf P K x.key=some (.string (bl s)):=by rw [h1];simp [Go.keyOf,hk,mapKey,h2,bl]
  simp [WideElems.rd,h3,rTriv]
 refine ⟨_,⟨es,clock,hb,⟨by omega,hst,fun x hx=>?_⟩,by omega,rfl⟩,?_,?_⟩
 · obtain ⟨s,_,h2⟩:=hrd x hx
   exact ⟨_,h2⟩
 · have h1:=(WideShapes.sorted_perm (es.toList.map (WideElems.rg P K rTriv))).map fun p=>strOf p.1
   refine h1.trans ?_
   have h2:(es.toList.map (WideElems.rg P K rTriv)).map (fun p=>strOf p.1)=es.toList.map fun x=>match x.key with|.string s=>bl s|_=>[]:=by
    rw [ZQ]
    refine Ql fun x hx=>?_
    obtain ⟨s,h3,h4⟩:=hrd x hx
    simp [WideElems.rg,h4,h3,strOf]
   have h5:(es.toList.map fun x=>match x.key with|.string s=>bl s|_=>[])=l.map fun p=>bl p.1:=by
    have h6:=congrArg (List.map fun (p:Value×Value)=>match p.1 with|.string s=>bl s|_=>[]) hl
    rw [ZQ,ZQ] at h6
    exact h6
   rw [h2,h5]
 · show ((es.toList.map (WideElems.rg P K rTriv)).foldr DataW.insert []).length=l.length
   rw [length_sorted]
   simp [hz]
theorem kA {P:Program} {K:Nat} (hk:P.underlying K=some (.int .i64)) {w:World} {q:Nat} {l:List (Int×Value)} (h:MapAt w q l) (hs:∀ p∈l,(Lit.int .i64 p.1).wf=true) (hlen:l.length≤maxLen) :
  ∃ D0:DataW Unit,w.ownsMap P K rTriv q l.length D0∧(intKeys D0).Perm (l.map fun p=>p.1)∧Maps.size D0=l.length:=by
 obtain ⟨es,clock,hb,hst,hl⟩:=h
 have hz:=nP (w:=w) (q:=q) hl
 have hkey:∀ x∈es.toList,∃ s:Int,x.key=.int .i64 s∧(Lit.int .i64 s).wf=true:=by
  intro x hx
  have h1:(x.key,x.val)∈l.map fun p=>(Xj.enc p.1,p.2):=by rw [←hl];exact Qt.2 ⟨x,hx,rfl⟩
  obtain ⟨p,hp,he⟩:=Qt.1 h1
  refine ⟨p.1,?_,hs p hp⟩
  have:=congrArg Prod.fst he
  exact this.symm
 have hrd:∀ x∈es.toList,∃ s:Int,x.key=.int .i64 s∧WideElems.rd P K rTriv x=some (.int .i64 s,.nil):=by
  intro x hx
  obtain ⟨s,h1,h2⟩:=hkey x hx
  refine ⟨s,h1,?_⟩
  have h3:Go.keyOf P K x.key=some (.int .i64 s):=by rw [h1];simp [Go.keyOf,hk,mapKey,h2]
  simp [WideElems.rd,h3,rTriv]
 refine ⟨_,⟨es,clock,hb,⟨by omega,hst,fun x hx=>?_⟩,by omega,rfl⟩,?_,?_⟩
 · obtain ⟨s,_,h2⟩:=hrd x hx
   exact ⟨_,h2⟩
 · have h1:=(WideShapes.sorted_perm (es.toList.map (WideElems.rg P K rTriv))).map fun p=>Go.intOf p.1
   refine h1.trans ?_
   have h2:(es.toList.map (WideElems.rg P K rTriv)).map (fun p=>Go.intOf p.1)=es.toList.map fun x=>match x.key with|.int _ s=>s|_=>0:=by
    rw [ZQ]
    refine Ql fun x hx=>?_
    obtain ⟨s,h3,h4⟩:=hrd x hx
    simp [WideElems.rg,h4,h3,Go.intOf]
   have h5:(es.toList.map fun x=>match x.key with|.int _ s=>s|_=>0)=l.map fun p=>p.1:=by
    have h6:=congrArg (List.map fun (p:Value×Value)=>match p.1 with|.int _ s=>s|_=>0) hl
    rw [ZQ,ZQ] at h6
    exact h6
   rw [h2,h5]
 · show ((es.toList.map (WideElems.rg P K rTriv)).foldr DataW.insert []).length=l.length
   rw [length_sorted]
   simp [hz]
section
variable {P:Program}
structure KeysC (P:Program) (fk g M:Nat):Prop where
 keys:∀ (mb:Option Nat) (W:World),Calls P fk #[.map mb] W fun e w'=>e=.returned (.func (.func g) #[] #[.pointer (some ⟨W.heap.size,0,none⟩)])∧w'=W.alloc (.cells #[.map mb] M)
structure SortedSC (P:Program) (fs g K:Nat):Prop where
 key:P.underlying K=some .string
 sorted:∀ (w:World) (Bm q nn:Nat) (D0:DataW Unit),Bm<w.heap.size→w.cell? ⟨Bm,0,none⟩=some (.map (some q))→w.ownsMap P K rTriv q nn D0→Maps.size D0≤maxLen→Maps.size D0*16≤140737488355328 →
  Calls P fs #[.func (.func g) #[] #[.pointer (some ⟨Bm,0,none⟩)]] w fun e w'=>∃ (v:Value) (ss:List (List UInt8)),e=.returned v∧ss.Perm (strKeys D0) ∧
   w'.ownsRow w.heap.size K 1 v ss.length ((ss.mergeSort (fun x y=>decide (x≤y))).map encStr)∧(v=.slice none 0 0↔ss=[])∧Below w.heap.size w w'
structure SortedIC (P:Program) (fs g K:Nat):Prop where
 key:P.underlying K=some (.int .i64)
 sorted:∀ (w:World) (Bm q nn:Nat) (D0:DataW Unit),Bm<w.heap.size→w.cell? ⟨Bm,0,none⟩=some (.map (some q))→w.ownsMap P K rTriv q nn D0→Maps.size D0≤maxLen→Maps.size D0*8≤140737488355328 →
  Calls P fs #[.func (.func g) #[] #[.pointer (some ⟨Bm,0,none⟩)]] w fun e w'=>∃ (v:Value) (ss:List Int),e=.returned v∧ss.Perm (intKeys D0) ∧
   w'.ownsRow w.heap.size K 1 v ss.length ((ss.mergeSort (fun x y=>decide (x≤y))).map encZ)∧(v=.slice none 0 0↔ss=[])∧Below w.heap.size w w'
theorem KeysC.ct {fk g M:Nat} (h:KeysC P fk g M) (mb:Option Nat):Ct P fk #[.map mb] [] (fun _=>True) fun u R _=>∃ b,u=.func (.func g) #[] #[.pointer (some ⟨b,0,none⟩)]∧R=[cel b M [.map mb]]:=Ct.mk fun w av G=>by
 refine (h.keys mb w).mono fun e w' ⟨h1,h2⟩=>⟨_,_,fun _=>True,h1,⟨_,rfl,rfl⟩,?_⟩
 subst h2
 exact G.new _ _ fun _ h=>h
def sortI (l:List Int):List Int:=l.mergeSort leI
theorem SortedSC.ct {fs g M K:Nat} (h:SortedSC P fs g K) (b q:Nat) (l:List (ByteArray×Value)) (hs:∀ p∈l,p.1.size≤maxLen) (hl:l.length≤1000000) :
  Ct P fs #[.func (.func g) #[] #[.pointer (some ⟨b,0,none⟩)]] [cel b M [.map (some q)],mapr q l] (fun _=>True)
   fun u R _=>∃ A c,u=.slice A l.length c∧R=[orow K 1 u l.length ((sortB (l.map (·.1))).map encB),cel b M [.map (some q)],mapr q l]:=Ct.mk fun w av G=>by
 have hb:w.heap[b]?=some (.cells #[.map (some q)] M (0,0)):=(G.here (cel b M [.map (some q)]) aC).now
 have hm:MapAt w q l:=(G.here (mapr q l) (Zr _ aC)).now
 obtain ⟨D0,hown,hperm,hsz⟩:=kz h.key hm hs (by simp only [maxLen];omega)
 have hbl:b<w.heap.size:=(Qv.1 hb).1
 have hc:w.cell? ⟨b,0,none⟩=some (.map (some q)):=by simp [World.cell?,hb]
 refine (h.sorted w b q l.length D0 hbl hc hown (by rw [hsz];simp only [maxLen];omega) (by rw [hsz];omega)).mono fun e w' ⟨v,ss,he,hS,hrow,hnil,hB⟩=>?_
 have hlen:ss.length=l.length:=by rw [(hS.trans hperm).length_eq];simp
 have hsort:(ss.mergeSort fun x y=>decide (x≤y)).map encStr=(sortB (l.map (·.1))).map encB:=by
  have:=mergeSort_of_perm (hS.trans hperm)
  rw [show (ss.mergeSort fun x y=>decide (x≤y))=ss.mergeSort leB from rfl,this,fH,sortB]
  simp only [ZQ]
  rfl
 rw [hsort,hlen] at hrow
 obtain ⟨f1,f2,A,c,rfl⟩:=nH hrow
 exact ⟨_,_,fun _=>True,he,⟨A,c,rfl,rfl⟩,(G.more hB (cP (fU hrow)) f1 f2).imp fun _ _=>trivial⟩
theorem SortedIC.ct {fs g M K:Nat} (h:SortedIC P fs g K) (b q:Nat) (l:List (Int×Value)) (hs:∀ p∈l,(Lit.int .i64 p.1).wf=true) (hl:l.length≤1000000) :
  Ct P fs #[.func (.func g) #[] #[.pointer (some ⟨b,0,none⟩)]] [cel b M [.map (some q)],mapr q l] (fun _=>True)
   fun u R _=>∃ A c,u=.slice A l.length c∧R=[orow K 1 u l.length ((sortI (l.map (·.1))).map encZ),cel b M [.map (some q)],mapr q l]:=Ct.mk fun w av G=>by
 have hb:w.heap[b]?=some (.cells #[.map (some q)] M (0,0)):=(G.here (cel b M [.map (some q)]) aC).now
 have hm:MapAt w q l:=(G.here (mapr q l) (Zr _ aC)).now
 obtain ⟨D0,hown,hperm,hsz⟩:=kA h.key hm hs (by simp only [maxLen];omega)
 have hbl:b<w.heap.size:=(Qv.1 hb).1
 have hc:w.cell? ⟨b,0,none⟩=some (.map (some q)):=by simp [World.cell?,hb]
 refine (h.sorted w b q l.length D0 hbl hc hown (by rw [hsz];simp only [maxLen];omega) (by rw [hsz];omega)).mono fun e w' ⟨v,ss,he,hS,hrow,hnil,hB⟩=>?_
 have hlen:ss.length=l.length:=by rw [(hS.trans hperm).length_eq];simp
 have hsort:(ss.mergeSort fun x y=>decide (x≤y)).map encZ=(sortI (l.map (·.1))).map encZ:=by
  have:=mergeSort_of_perm_i (hS.trans hperm)
  rw [show (ss.mergeSort fun x y=>decide (x≤y))=ss.mergeSort leI from rfl,this,sortI]
 rw [hsort,hlen] at hrow
 obtain ⟨f1,f2,A,c,rfl⟩:=nH hrow
 exact ⟨_,_,fun _=>True,he,⟨A,c,rfl,rfl⟩,(G.more hB (cP (fU hrow)) f1 f2).imp fun _ _=>trivial⟩
end
end Go.Proofs.YtamfbppnlomgfaaGreatDoor.Sy
namespace Go.Proofs
open Go.Shelf
def Tryz.keys_agora_relation_set_string_bool_ren:Go.Shelf.Ren:=⟨fun|7=>177|10=>202|n=>n,fun|23=>194|26=>9|3=>4|28=>63|0=>0|27=>62|33=>104|4=>4|n=>n,fun|n=>n⟩
theorem Tryz.keys_agora_relation_set_string_bool:Go.Proofs.SlLaysZ.n7 Tryz.prog Tryz.keys_agora_relation_set_string_bool_ren:={
 mixed:=by kernel_rfl
 f7:=⟨Tryz.f177.name,by decide,Tryz.func177.trans (congrArg some (by kernel_rfl))⟩
 f10:=⟨Tryz.f202.name,by decide,Tryz.func202.trans (congrArg some (by kernel_rfl))⟩
 t0:=Tryz.underlying0
 a0:=Tryz.isAgg0
 z0:=Tryz.sizeOf0
 v0:=Tryz.zeroValue0
 t4:=Tryz.underlying4
 a4:=Tryz.isAgg4
 z4:=Tryz.sizeOf4
 v4:=Tryz.zeroValue4
 t23:=Tryz.underlying194
 a23:=Tryz.isAgg194
 z23:=Tryz.sizeOf194
 v23:=Tryz.zeroValue194
 t26:=Tryz.underlying9
 a26:=Tryz.isAgg9
 z26:=Tryz.sizeOf9
 v26:=Tryz.zeroValue9
 t27:=Tryz.underlying62
 a27:=Tryz.isAgg62
 z27:=Tryz.sizeOf62
 v27:=Tryz.zeroValue62
 t28:=Tryz.underlying63
 a28:=Tryz.isAgg63
 z28:=Tryz.sizeOf63
 v28:=Tryz.zeroValue63
 t33:=Tryz.underlying104
 a33:=Tryz.isAgg104
 z33:=Tryz.sizeOf104
 v33:=Tryz.zeroValue104 }
def Tryz.sortedS_ren:Go.Shelf.Ren:=⟨fun|6=>176|8=>201|9=>86|11=>216|13=>141|12=>140|23=>187|24=>54|14=>178|15=>179|16=>180|17=>181|18=>182|19=>183|20=>184|21=>185|22=>186|25=>203|26=>204|27=>205|28=>206|29=>207|30=>195|31=>217|n=>n,fun|26=>9|28=>63|24=>29|0=>0|3=>3|37=>125|48=>126|50=>108|4=>4|40=>229|39=>228|45=>60|5=>5|9=>9|51=>249|55=>253|57=>267|58=>268|33=>104|n=>n,fun|n=>n⟩
theorem Tryz.sortedS:Go.Proofs.SlLaysZ.n6 Tryz.prog Tryz.sortedS_ren:={
 mixed:=by kernel_rfl
 f6:=⟨Tryz.f176.name,by decide,Tryz.func176.trans (congrArg some (by kernel_rfl))⟩
 f8:=⟨Tryz.f201.name,by decide,Tryz.func201.trans (congrArg some (by kernel_rfl))⟩
 f11:=⟨Tryz.f216.name,by decide,Tryz.func216.trans (congrArg some (by kernel_rfl))⟩
 t0:=Tryz.underlying0
 a0:=Tryz.isAgg0
 z0:=Tryz.sizeOf0
 v0:=Tryz.zeroValue0
 t24:=Tryz.underlying29
 a24:=Tryz.isAgg29
 z24:=Tryz.sizeOf29
 v24:=Tryz.zeroValue29
 t26:=Tryz.underlying9
 a26:=Tryz.isAgg9
 z26:=Tryz.sizeOf9
 v26:=Tryz.zeroValue9
 t28:=Tryz.underlying63
 a28:=Tryz.isAgg63
 z28:=Tryz.sizeOf63
 v28:=Tryz.zeroValue63
 i26:=by kernel_rfl }
def Tryz.sortS_ren:Go.Shelf.Ren:=⟨fun|6=>86|8=>141|9=>140|19=>187|20=>54|21=>178|22=>179|23=>180|24=>181|25=>182|26=>183|27=>184|28=>185|29=>186|36=>203|31=>204|32=>205|37=>206|38=>207|39=>195|41=>217|n=>n,fun|27=>29|29=>9|3=>3|32=>125|26=>29|0=>0|44=>126|46=>108|4=>4|36=>229|35=>228|41=>60|5=>5|9=>9|53=>249|57=>253|63=>267|64=>268|n=>n,fun|n=>n⟩
theorem Tryz.sortS:Go.Proofs.SlLaysM.n6 Tryz.prog Tryz.sortS_ren:={
 mixed:=by kernel_rfl
 f6:=⟨Tryz.f86.name,by decide,Tryz.func86.trans (congrArg some (by kernel_rfl))⟩
 f8:=Tryz.func141.trans (congrArg some (by kernel_rfl))
 f9:=⟨Tryz.f140.name,by decide,Tryz.func140.trans (congrArg some (by kernel_rfl))⟩
 f19:=Tryz.func187.trans (congrArg some (by kernel_rfl))
 f20:=Tryz.func54.trans (congrArg some (by kernel_rfl))
 f21:=⟨Tryz.f178.name,by decide,Tryz.func178.trans (congrArg some (by kernel_rfl))⟩
 f22:=⟨Tryz.f179.name,by decide,Tryz.func179.trans (congrArg some (by kernel_rfl))⟩
 f23:=⟨Tryz.f180.name,by decide,Tryz.func180.trans (congrArg some (by kernel_rfl))⟩
 f24:=⟨Tryz.f181.name,by decide,Tryz.func181.trans (congrArg some (by kernel_rfl))⟩
 f25:=⟨Tryz.f182.name,by decide,Tryz.func182.trans (congrArg some (by kernel_rfl))⟩
 f26:=⟨Tryz.f183.name,by decide,Tryz.func183.trans (congrArg some (by kernel_rfl))⟩
 f27:=⟨Tryz.f184.name,by decide,Tryz.func184.trans (congrArg some (by kernel_rfl))⟩
 f28:=⟨Tryz.f185.name,by decide,Tryz.func185.trans (congrArg some (by kernel_rfl))⟩
 f29:=⟨Tryz.f186.name,by decide,Tryz.func186.trans (congrArg some (by kernel_rfl))⟩
 f31:=Tryz.func204.trans (congrArg some (by kernel_rfl))
 f32:=Tryz.func205.trans (congrArg some (by kernel_rfl))
 f36:=⟨Tryz.f203.name,by decide,Tryz.func203.trans (congrArg some (by kernel_rfl))⟩
 f37:=⟨Tryz.f206.name,by decide,Tryz.func206.trans (congrArg some (by kernel_rfl))⟩
 f38:=⟨Tryz.f207.name,by decide,Tryz.func207.trans (congrArg some (by kernel_rfl))⟩
 f39:=⟨Tryz.f195.name,by decide,Tryz.func195.trans (congrArg some (by kernel_rfl))⟩
 f41:=⟨Tryz.f217.name,by decide,Tryz.func217.trans (congrArg some (by kernel_rfl))⟩
 t0:=Tryz.underlying0
 a0:=Tryz.isAgg0
 z0:=Tryz.sizeOf0
 v0:=Tryz.zeroValue0
 t3:=Tryz.underlying3
 a3:=Tryz.isAgg3
 z3:=Tryz.sizeOf3
 v3:=Tryz.zeroValue3
 t4:=Tryz.underlying4
 a4:=Tryz.isAgg4
 z4:=Tryz.sizeOf4
 v4:=Tryz.zeroValue4
 t5:=Tryz.underlying5
 a5:=Tryz.isAgg5
 z5:=Tryz.sizeOf5
 v5:=Tryz.zeroValue5
 t9:=Tryz.underlying9
 a9:=Tryz.isAgg9
 z9:=Tryz.sizeOf9
 v9:=Tryz.zeroValue9
 t26:=Tryz.underlying29
 a26:=Tryz.isAgg29
 z26:=Tryz.sizeOf29
 v26:=Tryz.zeroValue29
 t27:=Tryz.underlying29
 a27:=Tryz.isAgg29
 z27:=Tryz.sizeOf29
 v27:=Tryz.zeroValue29
 t29:=Tryz.underlying9
 a29:=Tryz.isAgg9
 z29:=Tryz.sizeOf9
 v29:=Tryz.zeroValue9
 t32:=Tryz.underlying125
 a32:=Tryz.isAgg125
 z32:=Tryz.sizeOf125
 v32:=Tryz.zeroValue125
 t35:=Tryz.underlying228
 a35:=Tryz.isAgg228
 z35:=Tryz.sizeOf228
 v35:=Tryz.zeroValue228
 t36:=Tryz.underlying229
 a36:=Tryz.isAgg229
 z36:=Tryz.sizeOf229
 v36:=Tryz.zeroValue229
 t41:=Tryz.underlying60
 a41:=Tryz.isAgg60
 z41:=Tryz.sizeOf60
 v41:=Tryz.zeroValue60
 t44:=Tryz.underlying126
 a44:=Tryz.isAgg126
 z44:=Tryz.sizeOf126
 v44:=Tryz.zeroValue126
 t46:=Tryz.underlying108
 a46:=Tryz.isAgg108
 z46:=Tryz.sizeOf108
 v46:=Tryz.zeroValue108
 t53:=Tryz.underlying249
 a53:=Tryz.isAgg249
 z53:=Tryz.sizeOf249
 v53:=Tryz.zeroValue249
 t57:=Tryz.underlying253
 a57:=Tryz.isAgg253
 z57:=Tryz.sizeOf253
 v57:=Tryz.zeroValue253
 t63:=Tryz.underlying267
 a63:=Tryz.isAgg267
 z63:=Tryz.sizeOf267
 v63:=Tryz.zeroValue267
 t64:=Tryz.underlying268
 a64:=Tryz.isAgg268
 z64:=Tryz.sizeOf268
 v64:=Tryz.zeroValue268 }
def Tryz.compS_ren:Go.Shelf.Ren:=⟨fun|194=>87|n=>n,fun|31=>29|9=>9|3=>3|4=>4|0=>0|n=>n,fun|n=>n⟩
theorem Tryz.compS:Go.Proofs.Lays.n194 Tryz.prog Tryz.compS_ren:={
 mixed:=by kernel_rfl
 f194:=Tryz.func87.trans (congrArg some (by kernel_rfl))
 t0:=Tryz.underlying0
 a0:=Tryz.isAgg0
 z0:=Tryz.sizeOf0
 v0:=Tryz.zeroValue0
 t3:=Tryz.underlying3
 a3:=Tryz.isAgg3
 z3:=Tryz.sizeOf3
 v3:=Tryz.zeroValue3
 t4:=Tryz.underlying4
 a4:=Tryz.isAgg4
 z4:=Tryz.sizeOf4
 v4:=Tryz.zeroValue4
 t9:=Tryz.underlying9
 a9:=Tryz.isAgg9
 z9:=Tryz.sizeOf9
 v9:=Tryz.zeroValue9
 t31:=Tryz.underlying29
 a31:=Tryz.isAgg29
 z31:=Tryz.sizeOf29
 v31:=Tryz.zeroValue29 }
end Go.Proofs
namespace Go.Proofs.YtamfbppnlomgfaaGreatDoor.Sy
open Go Go.Proofs Tryz
instance:Xs prog 3:=⟨ac⟩
instance:Xx prog 3 .i64:=⟨ac⟩
instance:Xl prog 3 (.int .i64 0):=⟨ac⟩
instance:Xs prog 4:=⟨ac⟩
instance:Xl prog 4 (.bool false):=⟨ac⟩
instance:Xx prog 5 .u8:=⟨ac⟩
instance:Xl prog 5 (.int .u8 0):=⟨ac⟩
instance:Xs prog 9:=⟨ac⟩
instance:Xv prog 9:=⟨ac⟩
instance:Xl prog 9 (.string ⟨#[]⟩):=⟨ac⟩
instance:Xs prog 22:=⟨ac⟩
instance:Xu prog 22 3 1 8:=⟨ac⟩
instance:Xs prog 23:=⟨ac⟩
instance:Xu prog 23 36 20 264:=⟨ac⟩
instance:Xl prog 23 (.slice none 0 0):=⟨ac⟩
instance:Xs prog 24:=⟨ac⟩
instance:Xu prog 24 40 3 24:=⟨ac⟩
instance:Xq prog 26 6:=⟨ac⟩
instance:Xf prog 26 0 0:=⟨ac⟩
instance:Xf prog 26 1 1:=⟨ac⟩
instance:Xf prog 26 2 2:=⟨ac⟩
instance:Xf prog 26 3 3:=⟨ac⟩
instance:Xf prog 26 4 4:=⟨ac⟩
instance:Xf prog 26 5 5:=⟨ac⟩
instance:Ef prog 26 [(0,1),(1,1),(2,1),(3,1),(4,1),(5,1)]:=⟨ac⟩
instance:Xl prog 26 (.agg #[.string ⟨#[]⟩,.slice none 0 0,.slice none 0 0,.string ⟨#[]⟩,.int .i64 0,.bool false]):=⟨ac⟩
instance:Xs prog 29:=⟨ac⟩
instance:Xu prog 29 9 1 16:=⟨ac⟩
instance:Xq prog 31 3:=⟨ac⟩
instance:Xf prog 31 0 0:=⟨ac⟩
instance:Xf prog 31 1 1:=⟨ac⟩
instance:Xf prog 31 2 2:=⟨ac⟩
instance:Ef prog 31 [(0,1),(1,1),(2,1)]:=⟨ac⟩
instance:Xl prog 31 (.agg #[.string ⟨#[]⟩,.string ⟨#[]⟩,.string ⟨#[]⟩]):=⟨ac⟩
instance:Xs prog 32:=⟨ac⟩
instance:Xu prog 32 47 5 64:=⟨ac⟩
instance:Xq prog 34 2:=⟨ac⟩
instance:Xf prog 34 0 0:=⟨ac⟩
instance:Xf prog 34 1 1:=⟨ac⟩
instance:Ef prog 34 [(0,1),(1,1)]:=⟨ac⟩
instance:Xl prog 34 (.agg #[.int .i64 0,.int .i64 0]):=⟨ac⟩
instance:Xq prog 36 20:=⟨ac⟩
instance:Xf prog 36 0 0:=⟨ac⟩
instance:Xf prog 36 1 1:=⟨ac⟩
instance:Xf prog 36 2 2:=⟨ac⟩
instance:Xf prog 36 3 3:=⟨ac⟩
instance:Xf prog 36 4 4:=⟨ac⟩
instance:Xf prog 36 5 5:=⟨ac⟩
instance:Xf prog 36 6 6:=⟨ac⟩
instance:Xf prog 36 7 7:=⟨ac⟩
instance:Xf prog 36 8 8:=⟨ac⟩
instance:Xf prog 36 9 9:=⟨ac⟩
instance:Xf prog 36 10 10:=⟨ac⟩
instance:Xf prog 36 11 11:=⟨ac⟩
instance:Xf prog 36 12 14:=⟨ac⟩
instance:Xf prog 36 13 15:=⟨ac⟩
instance:Xf prog 36 14 16:=⟨ac⟩
instance:Xf prog 36 15 17:=⟨ac⟩
instance:Xf prog 36 16 18:=⟨ac⟩
instance:Ef prog 36 [(0,1),(1,1),(2,1),(3,1),(4,1),(5,1),(6,1),(7,1),(8,1),(9,1),(10,1),(11,3),(14,1),(15,1),(16,1),(17,1),(18,2)]:=⟨ac⟩
instance:Xl prog 36 (.agg #[.string ⟨#[]⟩,.int .i64 0,.string ⟨#[]⟩,.int .i64 0,.int .i64 0,.string ⟨#[]⟩,.string ⟨#[]⟩,.int .i64 0,.string ⟨#[]⟩,.slice none 0 0,.string ⟨#[]⟩,.string ⟨#[]⟩,.string ⟨#[]⟩,.string ⟨#[]⟩,.int .i64 0,.slice none 0 0,.int .i64 0,.int .i64 0,.int .i64 0,.int .i64 0]):=⟨ac⟩
instance:Xq prog 40 3:=⟨ac⟩
instance:Xf prog 40 0 0:=⟨ac⟩
instance:Xf prog 40 1 1:=⟨ac⟩
instance:Ef prog 40 [(0,1),(1,1),(2,1)]:=⟨ac⟩
instance:Xl prog 40 (.agg #[.int .i64 0,.int .i64 0,.int .i64 0]):=⟨ac⟩
instance:Xq prog 44 2:=⟨ac⟩
instance:Xf prog 44 0 0:=⟨ac⟩
instance:Xf prog 44 1 1:=⟨ac⟩
instance:Ef prog 44 [(0,1),(1,1)]:=⟨ac⟩
instance:Xl prog 44 (.agg #[.int .i64 0,.int .i64 0]):=⟨ac⟩
instance:Xq prog 47 5:=⟨ac⟩
instance:Xf prog 47 0 0:=⟨ac⟩
instance:Xf prog 47 1 1:=⟨ac⟩
instance:Xf prog 47 2 2:=⟨ac⟩
instance:Ef prog 47 [(0,1),(1,1),(2,3)]:=⟨ac⟩
instance:Xl prog 47 (.agg #[.int .i64 0,.int .i64 0,.string ⟨#[]⟩,.string ⟨#[]⟩,.string ⟨#[]⟩]):=⟨ac⟩
instance:Xs prog 70:=⟨ac⟩
instance:Xu prog 70 83 49 568:=⟨ac⟩
instance:Xq prog 72 2:=⟨ac⟩
instance:Xf prog 72 0 0:=⟨ac⟩
instance:Xf prog 72 1 1:=⟨ac⟩
instance:Ef prog 72 [(0,1),(1,1)]:=⟨ac⟩
instance:Xl prog 72 (.agg #[.slice none 0 0,.slice none 0 0]):=⟨ac⟩
instance:Xq prog 77 9:=⟨ac⟩
instance:Xf prog 77 0 0:=⟨ac⟩
instance:Xf prog 77 1 1:=⟨ac⟩
instance:Xf prog 77 2 2:=⟨ac⟩
instance:Xf prog 77 4 4:=⟨ac⟩
instance:Xf prog 77 5 5:=⟨ac⟩
instance:Ef prog 77 [(0,1),(1,1),(2,1),(3,1),(4,1),(5,1),(6,1),(7,2)]:=⟨ac⟩
instance:Xl prog 77 (.agg #[.string ⟨#[]⟩,.int .i64 0,.string ⟨#[]⟩,.int .i64 0,.int .i64 0,.int .i64 0,.int .i64 0,.int .i64 0,.int .i64 0]):=⟨ac⟩
instance:Xq prog 79 7:=⟨ac⟩
instance:Xf prog 79 0 0:=⟨ac⟩
instance:Xq prog 81 12:=⟨ac⟩
instance:Xf prog 81 0 0:=⟨ac⟩
instance:Xf prog 81 1 1:=⟨ac⟩
instance:Xf prog 81 2 2:=⟨ac⟩
instance:Xf prog 81 3 3:=⟨ac⟩
instance:Xf prog 81 4 4:=⟨ac⟩
instance:Xf prog 81 5 5:=⟨ac⟩
instance:Xf prog 81 6 6:=⟨ac⟩
instance:Xf prog 81 7 7:=⟨ac⟩
instance:Xf prog 81 8 8:=⟨ac⟩
instance:Xf prog 81 9 9:=⟨ac⟩
instance:Xf prog 81 10 10:=⟨ac⟩
instance:Xq prog 83 49:=⟨ac⟩
instance:Xf prog 83 0 0:=⟨ac⟩
instance:Xf prog 83 1 1:=⟨ac⟩
instance:Xf prog 83 2 21:=⟨ac⟩
instance:Xf prog 83 3 30:=⟨ac⟩
instance:Xf prog 83 4 37:=⟨ac⟩
instance:Ef prog 83 [(0,1),(1,20),(21,9),(30,7),(37,12)]:=⟨ac⟩
instance:Xl prog 83 (.agg #[.int .i64 0,.string ⟨#[]⟩,.int .i64 0,.string ⟨#[]⟩,.int .i64 0,.int .i64 0,.string ⟨#[]⟩,.string ⟨#[]⟩,.int .i64 0,.string ⟨#[]⟩,.slice none 0 0,.string ⟨#[]⟩,.string ⟨#[]⟩,.string ⟨#[]⟩,.string ⟨#[]⟩,.int .i64 0,.slice none 0 0,.int .i64 0,.int .i64 0,.int .i64 0,.int .i64 0,.string ⟨#[]⟩,.int .i64 0,.string ⟨#[]⟩,.int .i64 0,.int .i64 0,.int .i64 0,.int .i64 0,.int .i64 0,.int .i64 0,.int .i64 0,.string ⟨#[]⟩,.int .i64 0,.string ⟨#[]⟩,.int .i64 0,.int .i64 0,.int .i64 0,.int .i64 0,.int .i64 0,.int .i64 0,.string ⟨#[]⟩,.string ⟨#[]⟩,.string ⟨#[]⟩,.slice none 0 0,.int .i64 0,.int .i64 0,.int .i64 0,.int .i64 0,.int .i64 0]):=⟨ac⟩
instance:Xs prog 88:=⟨ac⟩
instance:Xx prog 108 .u64:=⟨ac⟩
instance:Xs prog 114:=⟨ac⟩
instance:Xs prog 115:=⟨ac⟩
instance:Xs prog 116:=⟨ac⟩
instance:Xf prog 118 0 0:=⟨ac⟩
instance:Xf prog 118 1 2:=⟨ac⟩
instance:Xf prog 118 2 8:=⟨ac⟩
instance:Xf prog 118 3 9:=⟨ac⟩
instance:Xf prog 118 4 10:=⟨ac⟩
instance:Xf prog 118 5 19:=⟨ac⟩
instance:Ef prog 118 [(0,2),(2,6),(8,1),(9,1),(10,9),(19,1)]:=⟨ac⟩
instance:Xl prog 118 (.agg #[.slice none 0 0,.slice none 0 0,.string ⟨#[]⟩,.slice none 0 0,.slice none 0 0,.string ⟨#[]⟩,.int .i64 0,.bool false,.map none,.map none,.string ⟨#[]⟩,.int .i64 0,.string ⟨#[]⟩,.int .i64 0,.int .i64 0,.int .i64 0,.int .i64 0,.int .i64 0,.int .i64 0,.bool false]):=⟨ac⟩
instance:Xq prog 121 2:=⟨ac⟩
instance:Ef prog 121 [(0,1),(1,1)]:=⟨ac⟩
instance:Xl prog 121 (.agg #[.int .i64 0,.string ⟨#[]⟩]):=⟨ac⟩
instance:Xs prog 124:=⟨ac⟩
instance:Xu prog 124 5 1 1:=⟨ac⟩
instance:Xl prog 124 (.slice none 0 0):=⟨ac⟩
instance:Xx prog 125 .u64:=⟨ac⟩
instance:Xs prog 126:=⟨ac⟩
instance:Xx prog 126 .u32:=⟨ac⟩
instance:Xq prog 127 8:=⟨ac⟩
instance:Xl prog 127 (.agg #[.int .u32 0,.int .u32 0,.int .u32 0,.int .u32 0,.int .u32 0,.int .u32 0,.int .u32 0,.int .u32 0]):=⟨ac⟩
instance:Xq prog 135 2:=⟨ac⟩
instance:Xf prog 135 0 0:=⟨ac⟩
instance:Xf prog 135 1 1:=⟨ac⟩
instance:Ef prog 135 [(0,1),(1,1)]:=⟨ac⟩
instance:Xl prog 135 (.agg #[.int .i64 0,.nilFunc]):=⟨ac⟩
instance:Xq prog 145 4:=⟨ac⟩
instance:Xf prog 145 1 1:=⟨ac⟩
instance:Xf prog 145 2 2:=⟨ac⟩
instance:Ef prog 145 [(0,1),(1,1),(2,1),(3,1)]:=⟨ac⟩
instance:Xl prog 145 (.agg #[.slice none 0 0,.slice none 0 0,.slice none 0 0,.slice none 0 0]):=⟨ac⟩
instance:Xq prog 177 64:=⟨ac⟩
instance:Xl prog 177 (.agg #[.int .u32 0,.int .u32 0,.int .u32 0,.int .u32 0,.int .u32 0,.int .u32 0,.int .u32 0,.int .u32 0,.int .u32 0,.int .u32 0,.int .u32 0,.int .u32 0,.int .u32 0,.int .u32 0,.int .u32 0,.int .u32 0,.int .u32 0,.int .u32 0,.int .u32 0,.int .u32 0,.int .u32 0,.int .u32 0,.int .u32 0,.int .u32 0,.int .u32 0,.int .u32 0,.int .u32 0,.int .u32 0,.int .u32 0,.int .u32 0,.int .u32 0,.int .u32 0,.int .u32 0,.int .u32 0,.int .u32 0,.int .u32 0,.int .u32 0,.int .u32 0,.int .u32 0,.int .u32 0,.int .u32 0,.int .u32 0,.int .u32 0,.int .u32 0,.int .u32 0,.int .u32 0,.int .u32 0,.int .u32 0,.int .u32 0,.int .u32 0,.int .u32 0,.int .u32 0,.int .u32 0,.int .u32 0,.int .u32 0,.int .u32 0,.int .u32 0,.int .u32 0,.int .u32 0,.int .u32 0,.int .u32 0,.int .u32 0,.int .u32 0,.int .u32 0]):=⟨ac⟩
instance:Xf prog 181 0 0:=⟨ac⟩
instance:Xl prog 181 (.agg #[.slice none 0 0]):=⟨ac⟩
instance:Xs prog 194:=⟨ac⟩
instance:Xq prog 196 4:=⟨ac⟩
instance:Xf prog 196 0 0:=⟨ac⟩
instance:Xf prog 196 1 1:=⟨ac⟩
instance:Xf prog 196 2 2:=⟨ac⟩
instance:Xf prog 196 3 3:=⟨ac⟩
instance:Ef prog 196 [(0,1),(1,1),(2,1),(3,1)]:=⟨ac⟩
instance:Xl prog 196 (.agg #[.map none,.map none,.map none,.map none]):=⟨ac⟩
instance:Xu prog 210 213 22 288:=⟨ac⟩
instance:Xq prog 213 22:=⟨ac⟩
instance:Xf prog 213 2 2:=⟨ac⟩
instance:Ef prog 213 [(0,1),(1,1),(2,20)]:=⟨ac⟩
instance:Xl prog 213 (.agg #[.int .i64 0,.string ⟨#[]⟩,.string ⟨#[]⟩,.int .i64 0,.string ⟨#[]⟩,.int .i64 0,.int .i64 0,.string ⟨#[]⟩,.string ⟨#[]⟩,.int .i64 0,.string ⟨#[]⟩,.slice none 0 0,.string ⟨#[]⟩,.string ⟨#[]⟩,.string ⟨#[]⟩,.string ⟨#[]⟩,.int .i64 0,.slice none 0 0,.int .i64 0,.int .i64 0,.int .i64 0,.int .i64 0]):=⟨ac⟩
instance:Xu prog 218 77 9 88:=⟨ac⟩
instance:Xu prog 257 260 11 112:=⟨ac⟩
instance:Xq prog 260 11:=⟨ac⟩
instance:Xf prog 260 2 2:=⟨ac⟩
instance:Ef prog 260 [(0,1),(1,1),(2,9)]:=⟨ac⟩
instance:Xl prog 260 (.agg #[.int .i64 0,.string ⟨#[]⟩,.string ⟨#[]⟩,.int .i64 0,.string ⟨#[]⟩,.int .i64 0,.int .i64 0,.int .i64 0,.int .i64 0,.int .i64 0,.int .i64 0]):=⟨ac⟩
instance:Xz prog 108:=⟨ac⟩
end Go.Proofs.YtamfbppnlomgfaaGreatDoor.Sy
namespace Go.Proofs.YtamfbppnlomgfaaGreatDoor
open Go Go.Proofs Sy Tryz
def strs (l:List ByteArray):List (List Value):=l.map fun s=>[.string s]
def Strs (w:World) (s:Xh) (l:List ByteArray):Prop:=Xd w 1 s (strs l)
theorem Strs.at_ {w:World} {s:Xh} {l:List ByteArray} (h:Strs w s l) {i:Nat} {x:ByteArray} (hx:l[i]?=some x):CellAt w s.p i (.string x):=by
 have:=(Xd.row h i [.string x] (by simp [strs,hx])).2.2 0 (.string x) rfl
 simpa using this
theorem Strs.len_ {w:World} {s:Xh} {l:List ByteArray} (h:Strs w s l):s.n=l.length:=by have:=Xd.len h;simpa [strs] using this
theorem Strs.some_ {w:World} {s:Xh} {l:List ByteArray} (h:Strs w s l) (hl:0<l.length):s.p.isSome=true:=by
 have hx:l[0]?=some l[0]:=Zc hl
 exact (Xd.row h 0 [.string l[0]] (by simp [strs,hx])).2.1
theorem Strs.get {w:World} {s:Xh} {l:List ByteArray} (h:Strs w s l) {i:Nat} (hi:i<l.length):CellAt w s.p i (.string (l.getD i .empty)):=h.at_ (by simp [hi])
structure Xo where
 nonce:ByteArray
 data:ByteArray
 tag:ByteArray
structure Xk where
 to:Int
 eph:Int
 box:Xo
structure Xa where
 author:ByteArray
 seq:Int
 prev:ByteArray
 kind:Int
 time:Int
 object:ByteArray
 target:ByteArray
 scope:Int
 group:ByteArray
 to:Xh
 text:ByteArray
 body:Xo
 epoch:Int
 wraps:Xh
 n:Int
 m:Int
 e:Int
 s:Int
 toL:List ByteArray
 wrapsL:List Xk
def Xo.cells (b:Xo):List Value:=[.string b.nonce,.string b.data,.string b.tag]
def Xo.v (b:Xo):Value:=.agg b.cells.toArray
theorem Xo.v_cells (b:Xo):b.v.cells.toList=b.cells:=rfl
def Xo.zero:Xo:=⟨⟨#[]⟩,⟨#[]⟩,⟨#[]⟩⟩
def Xk.cells (w:Xk):List Value:=[.int .i64 w.to,.int .i64 w.eph,.string w.box.nonce,.string w.box.data,.string w.box.tag]
theorem Xk.cells_box (w:Xk):(w.cells.drop 2).take 3=w.box.cells:=rfl
def Xa.cells (a:Xa):List Value:=[.string a.author,.int .i64 a.seq,.string a.prev,.int .i64 a.kind,.int .i64 a.time,.string a.object,.string a.target,.int .i64 a.scope,.string a.group,a.to.v,
 .string a.text,.string a.body.nonce,.string a.body.data,.string a.body.tag,.int .i64 a.epoch,a.wraps.v,.int .i64 a.n,.int .i64 a.m,.int .i64 a.e,.int .i64 a.s]
def Xa.v (a:Xa):Value:=.agg a.cells.toArray
theorem Xa.v_cells (a:Xa):a.v.cells.toList=a.cells:=rfl
theorem Xa.cells_body (a:Xa):(a.cells.drop 11).take 3=a.body.cells:=rfl
def Wraps (w:World) (s:Xh) (l:List Xk):Prop:=Xd w 5 s (l.map Xk.cells)
theorem Wraps.len_ {w:World} {s:Xh} {l:List Xk} (h:Wraps w s l):s.n=l.length:=by have:=Xd.len h;simpa using this
theorem Wraps.some_ {w:World} {s:Xh} {l:List Xk} (h:Wraps w s l) (hl:0<l.length):s.p.isSome=true:=by
 have hx:l[0]?=some l[0]:=Zc hl
 exact (Xd.row h 0 l[0].cells (by simp [hx])).2.1
theorem Wraps.get {w:World} {s:Xh} {l:List Xk} (h:Wraps w s l) {i:Nat} {x:Xk} (hx:l[i]?=some x):x.cells.length=5∧s.p.isSome=true∧∀ j u,x.cells[j]?=some u→CellAt w s.p (i*5+j) u :=
 Xd.row h i x.cells (by simp [hx])
def Xa.at_ (w:World) (a:Xa):Prop:=Strs w a.to a.toL∧Wraps w a.wraps a.wrapsL
def dig (c:Int):Bool:=decide (48≤c)&&decide (c≤57)
theorem ja (c:Int):Pu prog 115 #[.int .i32 c] (fun _=>True) (.bool (dig c)):=by
 refine ax func115 ntmps115 fun av bor w0=>?_
 repeat' (first|refine gs ?_|(refine gp ?_ ?_<;>intro hx_ this)|fail)
 (all_goals (apply aa;apply ai;rfl;rfl));all_goals first|rfl|(simp only [dig, *,Za,Zg,Zf];done)|(simp_all [dig];done)
theorem oC (s:ByteArray) (q:Nat):1≤(Utf8.decode s q).2:=by
 unfold Utf8.decode
 simp only
 repeat' split
 all_goals simp
def runes (bad:Nat→Int→Bool) (s:ByteArray):Nat→Nat→Bool
 | 0,_=>true
 | f+1,q=>bif decide (q<s.size) then (bif bad q (Utf8.decode s q).1 then false else runes bad s f (q+(Utf8.decode s q).2)) else true
structure At0 (bad:Nat→Int→Bool) (s:ByteArray) where
 f:Nat
 q:Nat
 h:s.size≤f+q
 e:runes bad s f q=runes bad s s.size 0
theorem jH {bad:Nat→Int→Bool} {s:ByteArray} (i:At0 bad s) (h:s.size≤i.q):runes bad s s.size 0=true:=by
 rw [←i.e]
 cases hf:i.f with
 | zero=>rfl
 | succ f =>
  have:decide (i.q<s.size)=false:=by simp;omega
  simp only [runes,this,Zf]
theorem jI {bad:Nat→Int→Bool} {s:ByteArray} (i:At0 bad s) (h:i.q<s.size) (hb:bad i.q (Utf8.decode s i.q).1=true):runes bad s s.size 0=false:=by
 rw [←i.e]
 cases hf:i.f with
 | zero=>have:=i.h;omega
 | succ f=>simp only [runes,Ze h,hb,Zg]
def iK {bad:Nat→Int→Bool} {s:ByteArray} (i:At0 bad s) (h:i.q<s.size) (hb:bad i.q (Utf8.decode s i.q).1=false):At0 bad s :=
 ⟨i.f-1,i.q+(Utf8.decode s i.q).2,by have:=oC s i.q;have:=i.h;omega,by
  rw [←i.e]
  cases hf:i.f with
  | zero=>have:=i.h;omega
  | succ f=>simp only [runes,Ze h,hb,Zg,Zf,Nat.add_sub_cancel]⟩
def badId (_:Nat) (c:Int):Bool:=!dig c&&(decide (c<97)||decide (102<c))
def isId (s:ByteArray):Bool:=decide ((s.size:Int)=16)&&runes badId s s.size 0
theorem fT (s:ByteArray):Pu prog 73 #[.string s] (fun _=>True) (.bool (isId s)):=by
 refine ax func73 ntmps73 fun av bor w0=>?_
 repeat' (first|refine gs ?_|refine gs1 fun _=>?_|refine fN (h1:=fun _=>?_) (h2:=fun _=>?_)|(refine gp ?_ ?_<;>intro hx_ this)|fail)
 · (all_goals (apply aa;apply ai;rfl;rfl));all_goals first|rfl|(simp only [isId, *,Za,Zg,Zf];done)|(simp_all [isId];done)
 rename_i b
 refine az (ι:=At0 badId s) (fun i=>⟨[(0,.string s),(9,.pointer (some ⟨b,0,none⟩))],[sit b s i.q],fun _=>True⟩) (fun i=>i.f) ⟨s.size,0,by omega,rfl⟩ (ak aw (aj _) fun _ h=>h) fun i=>?_
 repeat' (first|refine ae (hc:=ja _) ?_|refine gs ?_|refine gs1 fun _=>?_|refine fN (h1:=fun _=>?_) (h2:=fun _=>?_)|(refine gp ?_ ?_<;>intro hx_ this)|fail)
 all_goals first
  | (apply aa;apply ai;rfl;rfl;rw [isId,jI i (by assumption) (by simp only [badId, *,Za,Zg,Zf]),Zi])
  | (apply aa;apply ai;rfl;rfl;rw [isId,jH i (by assumption)];simp_all;done)
  | exact ⟨iK i (by assumption) (by simp only [badId, *,Za,Zg,Zf]),(by show i.f-1<i.f;have:=i.h;omega),ak aw (aj _) fun _ h=>h⟩
def badName (q:Nat) (c:Int):Bool:=!(decide (97≤c)&&decide (c≤122))&&(decide ((q:Int)=0)||!dig c&&!decide (c=95))
def isName (s:ByteArray):Bool:=!(seqB s ⟨#[]⟩)&&!decide (24<(s.size:Int))&&runes badName s s.size 0
theorem io (s:ByteArray):Pu prog 124 #[.string s] (fun _=>True) (.bool (isName s)):=by
 refine ax func124 ntmps124 fun av bor w0=>?_
 repeat' (first|refine gs ?_|refine gs1 fun _=>?_|refine fN (h1:=fun _=>?_) (h2:=fun _=>?_)|(refine gp ?_ ?_<;>intro hx_ this)|fail)
 all_goals try ((all_goals (apply aa;apply ai;rfl;rfl));all_goals first|rfl|(simp only [isName, *,Za,Zg,Zf];done)|(simp_all [isName];done))
 rename_i b
 refine az (ι:=At0 badName s) (fun i=>⟨[(0,.string s),(14,.pointer (some ⟨b,0,none⟩))],[sit b s i.q],fun _=>True⟩) (fun i=>i.f) ⟨s.size,0,by omega,rfl⟩ (ak aw (aj _) fun _ h=>h) fun i=>?_
 repeat' (first|refine ae (hc:=ja _) ?_|refine gs ?_|refine gs1 fun _=>?_|refine fN (h1:=fun _=>?_) (h2:=fun _=>?_)|(refine gp ?_ ?_<;>intro hx_ this)|fail)
 all_goals first
  | (apply aa;apply ai;rfl;rfl;rw [isName,jI i (by assumption) (by simp only [badName, *,Za,Zg,Zf]),Zi])
  | (apply aa;apply ai;rfl;rfl;rw [isName,jH i (by assumption)];simp only [*,Za,Zg,Zf];done)
  | exact ⟨iK i (by assumption) (by simp only [badName, *,Za,Zg,Zf]),(by show i.f-1<i.f;have:=i.h;omega),ak aw (aj _) fun _ h=>h⟩
def allB (n:Nat) (bad:Nat→Bool):Bool:=(List.range n).all fun k=>!bad k
theorem j6 {n:Nat} {bad:Nat→Bool} (h:∀ j,j<n→bad j=false):allB n bad=true:=by
 simp only [allB,List.all_eq_true,List.mem_range]
 intro j hj
 rw [h j hj]
 rfl
theorem fL {n k:Nat} {bad:Nat→Bool} (hk:k<n) (h:bad k=true):allB n bad=false:=by
 simp only [allB,List.all_eq_false,List.mem_range]
 exact ⟨k,hk,by simp [h]⟩
structure Ec (n:Nat) (bad:Nat→Bool) where
 k:Nat
 hk:k≤n
 ok:∀ j,j<k→bad j=false
def Ec.zero (n:Nat) (bad:Nat→Bool):Ec n bad:=⟨0,ZU _,fun j h=>absurd h (Nat.not_lt_zero _)⟩
def Ec.next {n:Nat} {bad:Nat→Bool} (i:Ec n bad) (h:i.k<n) (hb:bad i.k=false):Ec n bad:=⟨i.k+1,h,fun j hj=>by
 by_cases e:j=i.k
 · rw [e];exact hb
 · exact i.ok j ab⟩
theorem Ec.all {n:Nat} {bad:Nat→Bool} (i:Ec n bad) (h:¬ i.k<n):allB n bad=true:=j6 fun j hj=>i.ok j (by have:=i.hk;omega)
def badIds (l:List ByteArray) (k:Nat):Bool:=!isId (l.getD k .empty)||decide (0<(k:Int))&&(Op.bytesLess (l.getD k .empty).toList (l.getD (k-1) .empty).toList||seqB (l.getD k .empty) (l.getD (k-1) .empty))
def isIds (l:List ByteArray):Bool:=!decide (64<(l.length:Int))&&allB l.length (badIds l)
theorem kK (s:Xh) (l:List ByteArray):Pu prog 127 #[s.v] (fun w=>Strs w s l) (.bool (isIds l)):=by
 refine ax func127 ntmps127 fun av bor w0=>?_
 refine aK (p:=s.n=l.length∧s.n≤maxLen∧(0<l.length→s.p.isSome=true)) (fun w h=>⟨h.len_,ZO (Xd.cap h) (Xd.max h),h.some_⟩) fun ⟨hl,hm,hp⟩=>?_
 simp only [maxLen] at hm
 repeat' (first|refine gs ?_|(refine gp ?_ ?_<;>intro hx_ this)|fail)
 · simp only [*] at *
   (all_goals (apply aa;apply ai;rfl;rfl));all_goals first|rfl|(simp only [isIds, *,Za,Zg,Zf];done)|(simp_all [isIds];done)
 refine az (ι:=Ec l.length (badIds l)) (fun i=>⟨[(0,s.v),(8,s.v),(9,.int .i64 s.n),(10,.int .i64 i.k)],[],fun w=>Strs w s l⟩) (fun i=>l.length-i.k) (Ec.zero _ _) (ak aw (aj _) fun _ h=>h) fun i=>?_
 have hik:=i.hk
 repeat' (first|refine ae (hc:=fT _) ?_|refine gs ?_|(refine gp ?_ ?_<;>intro hx_ this)|fail)
 · have hlt:i.k<l.length:=by omega
   have hp':=hp ab
   repeat' (first|refine ae (hc:=fT _) ?_|refine gs ?_|(refine aA (q:=i.k) ?_)|(refine aA (q:=i.k-1) ?_)|(refine bm (hF:=fun w h=>Strs.get h hlt) ?_)|(refine bm (hF:=fun w h=>Strs.get h (by omega:i.k-1<l.length)) ?_)|(refine r8 ?_)|(refine gp ?_ ?_<;>intro hx_ this)|fail)
   all_goals first
    | (apply aa;apply ai;rfl;rfl;rw [isIds,fL hlt (by simp only [badIds, *,Za,Zg,Zf]),Zi])
    | exact ⟨i.next hlt (by simp only [badIds, *,Za,Zg,Zf]),(by show l.length-(i.k+1)<l.length-i.k;omega),ak aw (aj _) fun _ h=>h⟩
    | skip
 · apply aa;apply ai;rfl;rfl
   rw [isIds,i.all (by omega)]
   simp only [←hl,‹decide (64<(s.n:Int))=false›,Za,Zg,Zf]
end Go.Proofs.YtamfbppnlomgfaaGreatDoor
