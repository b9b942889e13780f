/- Joined by program out of: Dw Du Ap Dv Mp So Ke Sf Ty. -/
import Derived.Test.YtoefdofbekihdaaGreatDoorW0
import Derived.MapKept
import Derived.Sort.OwnSorted
import Derived.Lib.SlKeysI
import Derived.Lib.SlicesCompact
import Derived.Shelf.SlIter.Nil
import Derived.Shelf.SlIterI.Nil
import Derived.Shelf.SortM.Plain
import Derived.Shelf.SortM.SortNone
import Derived.Shelf.Slices.CompactS
import Derived.Test.YtoefdofbekihdaaGreatDoorProg
import Derived.Test.YtoefdofbekihdaaGreatDoorChecked
set_option linter.unusedVariables false
set_option linter.unusedSimpArgs false
set_option maxHeartbeats 16000000
namespace Go.Proofs.YtoefdofbekihdaaGreatDoor.Sy
open Go Go.RowKit
inductive Pn where
 | mk (ts:List Nat) (bs:List (Nat×Pn))
def lstd (n:Nat):List Nat→Array Bool
 | []=>Array.replicate n false
 | i::r=>(lstd n r).setIfInBounds i true
theorem gq {p q r s s':Prop} {b:Bool} (a_:b=true→s→q) (b_:b=false→s'→r) (h:(b=true→q)→(b=false→r)→p:=by intro a_ b_;first|((fail_if_success (refine D8 ?_));exact D6 (ht:=a_) (hf:=b_))|((fail_if_success (refine cA ?_));exact bq (ht:=a_) (hf:=b_))|fail) (hs:b=true→s:=by first|exact aP|exact fun _=>trivial|fail) (hs':b=false→s':=by first|exact aZ|exact fun _=>trivial|fail):p:=h (fun e=>a_ e (hs e)) (fun e=>b_ e (hs' e))
section
variable {P:Program} {N:Nat} {av bor:List Nat} {w0:World}
variable {loc0:List Res} {X0:World→Prop} {l:List Oper} {fuel:Nat} {dn ts:List Nat} {bs:List (Nat×Pn)} {E:Env} {loc:List Res} {X:World→Prop} {k:St→Prop} {K:Exit→St→Prop}
variable {n i:Nat} {o:Op} {ty:TypeId} {pos:String} {af:Array Edge} {g:Option (Nat×Bool)} {v:Value} {bb want:Bool}
theorem AP {loc loc0:List Res} {X X0:World→Prop} (h:∀ w,Gam av bor w0 loc X w→Gam av bor w0 loc0 X0 w:=by first|(first|exact fun _ h=>h|exact fun _ h=>(h.drop (ZR _)).imp (fun _ _=>trivial)|exact fun _ h=>h.drop (by (first|exact al _|exact List.Sublist.cons _ (al _)|exact List.Sublist.cons _ (List.Sublist.cons _ (al _))|exact List.Sublist.cons _ (List.Sublist.cons _ (List.Sublist.cons _ (al _)))))|exact fun _ h=>h.imp (fun _ h=>h.1)|exact fun _ h=>(h.drop (by (first|exact al _|exact List.Sublist.cons _ (al _)|exact List.Sublist.cons _ (List.Sublist.cons _ (al _))|exact List.Sublist.cons _ (List.Sublist.cons _ (List.Sublist.cons _ (al _)))))).imp (fun _ h=>h.1)|exact fun _ h=>(h.drop (by (first|exact al _|exact List.Sublist.cons _ (al _)|exact List.Sublist.cons _ (List.Sublist.cons _ (al _))|exact List.Sublist.cons _ (List.Sublist.cons _ (List.Sublist.cons _ (al _)))))).imp (fun _ h=>h.1.1))|(first|exact fun _ h=>h|exact fun _ h=>h.drop (by ((repeat (first|exact al _|exact List.Sublist.cons_cons _ (ZR _)|apply List.Sublist.cons));done))|exact fun _ h=>(h.drop (by ((repeat (first|exact al _|exact List.Sublist.cons_cons _ (ZR _)|apply List.Sublist.cons));done))).imp (fun _ h=>h.1)|exact fun _ h=>(h.drop (by ((repeat (first|exact al _|exact List.Sublist.cons_cons _ (ZR _)|apply List.Sublist.cons));done))).imp (fun _ h=>h.1.1)|exact fun _ h=>(h.drop (by ((repeat (first|exact al _|exact List.Sublist.cons_cons _ (ZR _)|apply List.Sublist.cons));done))).imp (fun _ h=>h.1.1.1)|exact fun _ h=>(h.drop (by ((repeat (first|exact al _|exact List.Sublist.cons_cons _ (ZR _)|apply List.Sublist.cons));done))).imp (fun _ h=>h.1.1.1.1))|(exact fun _ h=>(h.drop (by repeat (first|exact al _|exact List.Sublist.cons_cons _ (ZR _)|apply List.Sublist.cons))).imp (fun _ _=>trivial))|(first|exact fun _ h=>h.drop (by ((repeat (first|exact al _|exact ZR _|apply List.Sublist.cons_cons|apply List.Sublist.cons));done))|exact fun _ h=>(h.drop (by ((repeat (first|exact al _|exact ZR _|apply List.Sublist.cons_cons|apply List.Sublist.cons));done))).imp (fun _ h=>h.1)|exact fun _ h=>(h.drop (by ((repeat (first|exact al _|exact ZR _|apply List.Sublist.cons_cons|apply List.Sublist.cons));done))).imp (fun _ h=>h.1.1))|(first|exact fun _ h=>h.drop (by ((repeat (first|exact al _|exact ZR _|with_reducible apply List.Sublist.cons_cons|apply List.Sublist.cons));done))|exact fun _ h=>(h.drop (by ((repeat (first|exact al _|exact ZR _|with_reducible apply List.Sublist.cons_cons|apply List.Sublist.cons));done))).imp (fun _ h=>h.1)|exact fun _ h=>(h.drop (by ((repeat (first|exact al _|exact ZR _|with_reducible apply List.Sublist.cons_cons|apply List.Sublist.cons));done))).imp (fun _ h=>h.1.1))|fail):∀ w,Gam av bor w0 loc X w→Gam av bor w0 loc0 X0 w:=h
structure Dw (P:Program) (N:Nat) (av bor:List Nat) (w0:World) (loc0:List Res) (X0:World→Prop) (l:List Oper) (fuel:Nat) (dn:List Nat) (pl:Pn) (st:St) (k:St→Prop):Prop where
 run:Aw P N av bor w0 loc0 X0 l.toArray fuel (lstd l.length dn) st k
structure Df (A B:Prop):Prop where
 a:A
 b:B
theorem zp {ops:Array Oper} {todo:List Oper} {st:St} {k k':St→Prop} (hk:∀ s,k s→k' s) (h:Sw P N av bor w0 ops todo st k):Sw P N av bor w0 ops todo st k':=Sw.mk fun a w ok=>by
 have mono:∀ (todo:List Oper) a w,wpList P ops (post N av bor w0 (only k)) todo a w→wpList P ops (post N av bor w0 (only k')) todo a w:=by
  intro todo
  induction todo with
  | nil =>
   rintro a w ⟨s,h1,h2⟩
   exact ⟨s,hk s h1,h2⟩
  | cons o rest ih =>
   intro a w h
   simp only [wpList] at h ⊢
   split
   · rename_i hw
     simp only [hw,Qd] at h
     rcases h with h|⟨_,_,_,h⟩
     · exact .inl (jc ih h)
     · exact h.elim
   · rename_i hw
     simp only [hw] at h
     exact ih _ _ h
 exact mono _ _ _ (h.run a w ok)
structure Ds (P:Program) (N:Nat) (av bor:List Nat) (w0:World) (loc0:List Res) (X0:World→Prop) (l:List Oper) (fuel:Nat) (dn:List Nat) (bs:List (Nat×Pn)) (st:St) (k:St→Prop):Prop where
 run:∀ i∈bs.map Prod.fst,∀ a w,Ok N av bor w0 st a w→wpOp P l.toArray (post N av bor w0 (only k)) i (fun a' w'=>Gam av bor w0 loc0 X0 w'∧wpAnyH P .any l.toArray (post N av bor w0 (only k)) (Gam av bor w0 loc0 X0) fuel ((lstd l.length dn).setIfInBounds i true) a' w') a w
theorem Fx {pl:Pn} {st:St} (h:Dw P N av bor w0 loc0 X0 l fuel dn pl st k):Dw P N av bor w0 loc0 X0 l fuel dn pl st k:=h
theorem aq {id:Nat} (pl:Pn) (loc0:List Res) (X0:World→Prop) (hm:P.follows .mixedOrders=true:=by kernel_rfl) (h:Dw P N av bor w0 loc0 X0 l l.length [] pl ⟨E,loc,X⟩ (K .normal)) :
  Cw P N av bor w0 (.region id l.toArray true) ⟨E,loc,X⟩ K:=vf loc0 X0 hm h.run
theorem aR {id:Nat} (pl:Pn) (hm:P.follows .mixedOrders=true:=by kernel_rfl) (h:Dw P N av bor w0 loc X l l.length [] pl ⟨E,loc,X⟩ (K .normal)) :
  Cw P N av bor w0 (.region id l.toArray true) ⟨E,loc,X⟩ K:=vf loc X hm h.run
theorem ay (h:Dw P N av bor w0 loc0 X0 l fuel (i::dn) ⟨ts,bs⟩ ⟨(n,v)::E,loc,X⟩ k) (hi:l.toArray[i]?=some ⟨some n,o,ty,pos,af,g⟩:=by rfl) (hg:gdB l.toArray E g=some (bb,want):=by rfl) (hb:bb=want:=by exact am) (hd:Nat.blt n N=true:=by rfl) (hy:Sy.Yields P N av bor w0 ⟨E,loc0,X0⟩ o ty v:=by (first|(apply so;rfl)|(apply lc;rfl)|(apply iq;rfl)|(apply xU;rfl;(first|exact Ql _|(simp only [Nat.reduceAdd];rfl)))|(apply oD;rfl;(repeat (first|exact ar|apply ZS));rfl)|(apply oC;rfl;(repeat (first|exact ar|apply ZS));rfl)|(apply k8;rfl;(first|with_reducible rfl|with_reducible assumption|with_reducible exact ZI|with_reducible exact ZK);rfl)|(apply k9;rfl;(first|with_reducible rfl|with_reducible assumption|with_reducible exact ZI|with_reducible exact ZK);rfl)|(apply xO;rfl)|(apply nw;rfl;rfl)|(apply ud;rfl;rfl)|(apply ue;rfl;rfl)|(apply xR;rfl;rfl)|(apply pX;rfl;rfl)|(apply uf;rfl;rfl)|(apply oB;rfl;rfl)|(apply oA;rfl;rfl)|(apply se;rfl)|(apply xT;rfl)|(apply jB;rfl;rfl)|(apply ny;rfl;rfl;(first|exact IntWalk.i64_in _ (by omega)|rfl))|(apply nr;rfl;rfl;(first|exact IntWalk.i64_in _ (by omega)|rfl))|(apply pY;rfl;rfl)|(apply Ef;rfl;rfl)|(apply ua;rfl;rfl)|(apply iE;rfl;rfl)|(apply r5;rfl)|(apply uc;rfl;rfl;(first|decide|exact dl _ _ rfl _ _|exact eF _ rfl _|omega))|(apply pV;rfl;rfl;(first|decide|exact dl _ _ rfl _ _|exact eF _ rfl _|omega))|(apply nv;rfl;rfl)|(apply fH;rfl;rfl;decide;decide;rfl))) (hs:Region.noSelect l.toArray=true:=by kernel_rfl) (hf:Region.free .any l.toArray (lstd l.length dn) i=true:=by kernel_rfl) (hr:(Region.ready .any l.toArray (lstd l.length dn)).contains i=true:=by kernel_rfl) (hsub:∀ w,Gam av bor w0 loc X w→Gam av bor w0 loc0 X0 w:=by exact fX):Dw P N av bor w0 loc0 X0 l (fuel+1) dn ⟨i::ts,bs⟩ ⟨E,loc,X⟩ k:=⟨DK i h.run hi hs hf hr hsub hy hg hb hd⟩
theorem Bp (h:Dw P N av bor w0 loc0 X0 l fuel (i::dn) ⟨ts,bs⟩ ⟨(n,undef)::E,loc,X⟩ k) (hi:l.toArray[i]?=some ⟨some n,o,ty,pos,af,g⟩:=by rfl) (hg:gdB l.toArray E g=some (bb,true):=by rfl) (hb:bb=false:=by exact am) (hd:Nat.blt n N=true:=by rfl) (hs:Region.noSelect l.toArray=true:=by kernel_rfl) (hf:Region.free .any l.toArray (lstd l.length dn) i=true:=by kernel_rfl) (hr:(Region.ready .any l.toArray (lstd l.length dn)).contains i=true:=by kernel_rfl) (hsub:∀ w,Gam av bor w0 loc X w→Gam av bor w0 loc0 X0 w:=by exact fX):Dw P N av bor w0 loc0 X0 l (fuel+1) dn ⟨i::ts,bs⟩ ⟨E,loc,X⟩ k:=⟨Bs i h.run hi hs hf hr hsub hg hb hd⟩
theorem Bq (h:Dw P N av bor w0 loc0 X0 l fuel (i::dn) ⟨ts,bs⟩ ⟨(n,undef)::E,loc,X⟩ k) (hi:l.toArray[i]?=some ⟨some n,o,ty,pos,af,g⟩:=by rfl) (hg:gdB l.toArray E g=some (bb,false):=by rfl) (hb:bb=true:=by exact am) (hd:Nat.blt n N=true:=by rfl) (hs:Region.noSelect l.toArray=true:=by kernel_rfl) (hf:Region.free .any l.toArray (lstd l.length dn) i=true:=by kernel_rfl) (hr:(Region.ready .any l.toArray (lstd l.length dn)).contains i=true:=by kernel_rfl) (hsub:∀ w,Gam av bor w0 loc X w→Gam av bor w0 loc0 X0 w:=by exact fX):Dw P N av bor w0 loc0 X0 l (fuel+1) dn ⟨i::ts,bs⟩ ⟨E,loc,X⟩ k:=⟨Bt i h.run hi hs hf hr hsub hg hb hd⟩
theorem Bo (h:Dw P N av bor w0 loc0 X0 l fuel (i::dn) ⟨ts,bs⟩ ⟨(n,undef)::E,loc,X⟩ k) (hi:l.toArray[i]?=some ⟨some n,o,ty,pos,af,g⟩:=by rfl) (hg:gdU l.toArray E g=true:=by rfl) (hd:Nat.blt n N=true:=by rfl) (hs:Region.noSelect l.toArray=true:=by kernel_rfl) (hf:Region.free .any l.toArray (lstd l.length dn) i=true:=by kernel_rfl) (hr:(Region.ready .any l.toArray (lstd l.length dn)).contains i=true:=by kernel_rfl) (hsub:∀ w,Gam av bor w0 loc X w→Gam av bor w0 loc0 X0 w:=by exact fX):Dw P N av bor w0 loc0 X0 l (fuel+1) dn ⟨i::ts,bs⟩ ⟨E,loc,X⟩ k:=⟨Br i h.run hi hs hf hr hsub hg hd⟩
theorem D8 {jb:Nat×Bool} (h:Dw P N av bor w0 loc0 X0 l fuel dn ⟨i::ts,bs⟩ ⟨E,loc,X⟩ k) (hi:l.toArray[i]?=some ⟨some n,o,ty,pos,af,some jb⟩:=by rfl) (hg:gdB l.toArray E (some jb)=some (bb,want):=by rfl) (hb:bb=true∨bb=false:=by (first|with_reducible exact Or.inl rfl|with_reducible exact Or.inr rfl|with_reducible exact Or.inl ZI|with_reducible exact Or.inr ZK|(apply Or.inl;with_reducible assumption)|(apply Or.inr;with_reducible assumption))):Dw P N av bor w0 loc0 X0 l fuel dn ⟨i::ts,bs⟩ ⟨E,loc,X⟩ k:=h
theorem D6 {jb:Nat×Bool} (hi:l.toArray[i]?=some ⟨some n,o,ty,pos,af,some jb⟩:=by rfl) (hg:gdB l.toArray E (some jb)=some (bb,want):=by rfl) (ht:bb=true→Dw P N av bor w0 loc0 X0 l fuel dn ⟨i::ts,bs⟩ ⟨E,loc,X⟩ k) (hf:bb=false→Dw P N av bor w0 loc0 X0 l fuel dn ⟨i::ts,bs⟩ ⟨E,loc,X⟩ k) :
  Dw P N av bor w0 loc0 X0 l fuel dn ⟨i::ts,bs⟩ ⟨E,loc,X⟩ k:=by
 cases bb
 · exact hf rfl
 · exact ht rfl
theorem Bu {q:Nat×Pn} (h:Ds P N av bor w0 loc0 X0 l fuel dn (q::bs) ⟨E,loc,X⟩ k) (hr:Region.ready .any l.toArray (lstd l.length dn)=(q::bs).map Prod.fst:=by kernel_rfl):Dw P N av bor w0 loc0 X0 l (fuel+1) dn ⟨[],q::bs⟩ ⟨E,loc,X⟩ k :=
 ⟨Aw.mk fun a w ok=>wpAnyH_all hr (by rw [Qu];exact List.cons_ne_nil _ _) fun j hj=>h.run j hj a w ok⟩
theorem az {pl:Pn} {o:Oper} (h:Sw P N av bor w0 l.toArray [o] ⟨E,loc,X⟩ (fun s=>Df (∀ w,Gam av bor w0 s.loc s.ext w→Gam av bor w0 loc0 X0 w) (Dw P N av bor w0 loc0 X0 l fuel (i::dn) pl s k))) (hi:l.toArray[i]?=some o:=by rfl) (h':Ds P N av bor w0 loc0 X0 l fuel dn bs ⟨E,loc,X⟩ k):Ds P N av bor w0 loc0 X0 l fuel dn ((i,pl)::bs) ⟨E,loc,X⟩ k:=⟨fun j hj a w ok=>by
 rw [Qu] at hj
 rcases List.mem_cons.1 hj with rfl|hj
 · exact FA (listed:=lstd l.length dn) hi (zp (fun s q=>⟨q.a,q.b.run⟩) h) a w ok
 · exact h'.run j hj a w ok⟩
theorem aA:Ds P N av bor w0 loc0 X0 l fuel dn [] ⟨E,loc,X⟩ k:=⟨fun j hj=>by cases hj⟩
theorem D7 (h:k ⟨E,loc,X⟩) (hr:Region.ready .any l.toArray (lstd l.length dn)=[]:=by kernel_rfl):Dw P N av bor w0 loc0 X0 l fuel dn ⟨[],[]⟩ ⟨E,loc,X⟩ k:=⟨DL hr h⟩
end
theorem aF {av bor:List Nat} {w0:World} {loc loc0:List Res} {X X0:World→Prop} (h:∀ w,Gam av bor w0 loc X w→Gam av bor w0 loc0 X0 w:=by first|exact fun _ h=>h|(first|exact fun _ h=>h.drop (by ((repeat (first|exact al _|exact ZR _|apply List.Sublist.cons_cons|apply List.Sublist.cons));done))|exact fun _ h=>(h.drop (by ((repeat (first|exact al _|exact ZR _|apply List.Sublist.cons_cons|apply List.Sublist.cons));done))).imp (fun _ h=>h.1)|exact fun _ h=>(h.drop (by ((repeat (first|exact al _|exact ZR _|apply List.Sublist.cons_cons|apply List.Sublist.cons));done))).imp (fun _ h=>h.1.1))|(first|exact fun _ h=>h.drop (by ((repeat (first|exact al _|exact ZR _|with_reducible apply List.Sublist.cons_cons|apply List.Sublist.cons));done))|exact fun _ h=>(h.drop (by ((repeat (first|exact al _|exact ZR _|with_reducible apply List.Sublist.cons_cons|apply List.Sublist.cons));done))).imp (fun _ h=>h.1)|exact fun _ h=>(h.drop (by ((repeat (first|exact al _|exact ZR _|with_reducible apply List.Sublist.cons_cons|apply List.Sublist.cons));done))).imp (fun _ h=>h.1.1))|(first|exact fun _ h=>h|exact fun _ h=>h.drop (by ((repeat (first|exact al _|exact List.Sublist.cons_cons _ (ZR _)|apply List.Sublist.cons));done))|exact fun _ h=>(h.drop (by ((repeat (first|exact al _|exact List.Sublist.cons_cons _ (ZR _)|apply List.Sublist.cons));done))).imp (fun _ h=>h.1)|exact fun _ h=>(h.drop (by ((repeat (first|exact al _|exact List.Sublist.cons_cons _ (ZR _)|apply List.Sublist.cons));done))).imp (fun _ h=>h.1.1)|exact fun _ h=>(h.drop (by ((repeat (first|exact al _|exact List.Sublist.cons_cons _ (ZR _)|apply List.Sublist.cons));done))).imp (fun _ h=>h.1.1.1)|exact fun _ h=>(h.drop (by ((repeat (first|exact al _|exact List.Sublist.cons_cons _ (ZR _)|apply List.Sublist.cons));done))).imp (fun _ h=>h.1.1.1.1))|(first|exact fun _ h=>h|exact fun _ h=>(h.drop (ZR _)).imp (fun _ _=>trivial)|exact fun _ h=>h.drop (by (first|exact al _|exact List.Sublist.cons _ (al _)|exact List.Sublist.cons _ (List.Sublist.cons _ (al _))|exact List.Sublist.cons _ (List.Sublist.cons _ (List.Sublist.cons _ (al _)))))|exact fun _ h=>h.imp (fun _ h=>h.1)|exact fun _ h=>(h.drop (by (first|exact al _|exact List.Sublist.cons _ (al _)|exact List.Sublist.cons _ (List.Sublist.cons _ (al _))|exact List.Sublist.cons _ (List.Sublist.cons _ (List.Sublist.cons _ (al _)))))).imp (fun _ h=>h.1)|exact fun _ h=>(h.drop (by (first|exact al _|exact List.Sublist.cons _ (al _)|exact List.Sublist.cons _ (List.Sublist.cons _ (al _))|exact List.Sublist.cons _ (List.Sublist.cons _ (List.Sublist.cons _ (al _)))))).imp (fun _ h=>h.1.1))|(exact fun _ h=>(h.drop (by ((repeat (first|exact al _|exact List.Sublist.cons_cons _ (ZR _)|apply List.Sublist.cons));done))).imp (fun _ _=>trivial))|fail):∀ w,Gam av bor w0 loc X w→Gam av bor w0 loc0 X0 w:=h
theorem gdz {p q:Prop} (k_:q) (h:q→p:=by intro q_;first|(refine Fx ?_;first|exact D7 (h:=q_)|exact Bu (h:=q_)|exact ay (h:=q_) (hsub:=by exact aF)|exact Bp (h:=q_) (hsub:=by exact aF)|exact Bq (h:=q_) (hsub:=by exact aF)|exact Bo (h:=q_) (hsub:=by exact aF)|fail)|(refine Df.mk ?_ q_;exact aF)|exact bO q_|(refine EW ?_;first|exact cJ (h:=q_)|exact aL (h:=q_)|fail)|(refine EV ?_;first|exact bU (h:=q_)|exact aT (h:=q_)|fail)|(refine EX ?_;first|exact bm (h:=q_)|exact bn (h:=q_)|exact bj (h:=q_)|fail)|fail):p:=h k_
def ORow (w:World) (e size:Nat) (v:Value) (n:Nat) (xs:List Value):Prop :=
 xs.length=n*size∧((v=.slice none 0 0∧n=0) ∨
  ∃ g cap cur fz,v=.slice (some ⟨g,0,none⟩) n cap∧w.heap[g]?=some (.cells cur e fz)∧n≤cap∧cap≤maxLen∧cur.size=cap*size∧cur.toList.take (n*size)=xs∧(fz.1=fz.2∨cur.size≤fz.1))
def orow (e size:Nat) (v:Value) (n:Nat) (xs:List Value):Res:=⟨v.ownBlock.toList,fun w=>ORow w e size v n xs⟩
theorem dU {e size n:Nat} {v:Value} {xs:List Value} {w:World} (h:ORow w e size v n xs):Holds (orow e size v n xs) w:=by
 intro w2 h2
 refine ⟨h.1,?_⟩
 rcases h.2 with h0|⟨g,cap,cur,fz,hv,hg,hr⟩
 · exact .inl h0
 · exact .inr ⟨g,cap,cur,fz,hv,(h2 g (by rw [hv];simp [orow,Value.ownBlock])).trans hg,hr⟩
section
variable {P:Program} {N:Nat} {av bor:List Nat} {w0:World} {ops:Array Oper} {rest:List Oper} {k:St→Prop} {E:Env} {loc loc':List Res} {X:World→Prop}
variable {d:Option Tmp} {ty:TypeId} {pos:String} {af:Array Edge} {g:Option (Nat×Bool)} {bb want:Bool} {K:Exit→St→Prop}
theorem Gam.swap {w w':World} {r r':Res} (G:Gam av bor w0 loc X w) (hA:At r r' loc loc') (ho:w'.os=w.os) (ht:w'.tape=w.tape) (hp:w'.output=w.output) (hz:w.heap.size≤w'.heap.size)
  (hb:∀ i,i<w.heap.size→i∉r.fp→w'.heap[i]?=w.heap[i]?) (hn:r'.fp.Nodup) (hf:∀ i∈r'.fp,i<w'.heap.size∧(i∈r.fp∨w.heap.size≤i)) (hr:Holds r' w'):Gam av bor w0 loc' X w':=by
 obtain ⟨f,h1,h2⟩:=hA.perm
 have G1:Gam av bor w0 ([r]++f) X w:=G.perm h1
 have G2:Gam (av++fps f) (fps [r]) w [r'] (fun _=>True) w':=by
  have hs:=G1.start
  have e1:fps [r]=r.fp:=by simp [fps]
  have e2:fps [r']=r'.fp:=by simp [fps]
  refine ⟨⟨ho,ht,hp,hz,fun i hi hne=>hb i hi (by rwa [e1] at hne)⟩,hs.avb,by rw [e2];exact hn,?_,?_,Keeps.all fun _=>trivial⟩
  · intro i hi
    rw [e2] at hi
    have:=hf i hi
    rw [e1]
    exact ⟨this.1,this.2.symm⟩
  · intro x hx
    rw [List.mem_singleton] at hx
    subst hx
    exact hr
 exact (((G1.frame G2).imp fun _ h=>h.1:Gam av bor w0 ([r']++f) X w')).perm h2.symm
theorem eN (P:Program) (g o:Nat) (t:TypeId) (fz:Nat×Nat):∀ (vs:List Value) (i:Nat) (cur:Array Value) (w:World),w.heap[g]?=some (.cells cur t fz)→(fz.1=fz.2∨cur.size≤fz.1)→o+i+vs.length≤cur.size→(∀ v∈vs,v.oneCell'=true) →
  (storeCells ⟨g,o,none⟩ vs i).run P w=.ok () (w.setRow g (cur.toList.take (o+i)++vs++cur.toList.drop (o+i+vs.length)).toArray)
 | [],i,cur,w,hg,_,_,_=>by
  simp only [storeCells,Z9,Qi,Qk,List.take_append_drop,Array.toArray_toList]
  rw [setRow_self w g cur t fz hg]
  rfl
 | v::rest,i,cur,w,hg,hz,hl,h1=>by
  have hi:o+i<cur.size:=by simp at hl;omega
  have hadd:(⟨g,o,none⟩:Addr).add i=⟨g,o+i,none⟩:=by unfold Addr.add;split<;>simp_all
  have hcell:w.cell? ⟨g,o+i,none⟩=some cur[o+i]:=by simp [World.cell?,hg,hi]
  have hfro:w.frozen? ⟨g,o+i,none⟩=false:=by
   obtain ⟨lo,hi'⟩:=fz
   simp only [World.frozen?,hg]
   simp only at hz
   have:¬ (lo≤o+i∧o+i<hi'):=by omega
   simpa using this
  have hst:(store ((⟨g,o,none⟩:Addr).add i) v).run P w=.ok () (w.setRow g (cur.setIfInBounds (o+i) v)):=by
   rw [hadd,run_store P w _ v _ (h1 v (by simp)),hcell]
   simp [hfro,setCell_eq_setRow w g (o+i) cur t fz v hg]
  have ih:=eN P g o t fz rest (i+1) (cur.setIfInBounds (o+i) v) (w.setRow g (cur.setIfInBounds (o+i) v)) (Go.setRow_heap w g cur _ t _ hg) (by simpa using hz) (by simp at hl ⊢;omega) (fun x hx=>h1 x (by simp [hx]))
  simp only [storeCells,Sem.run_bind,hst,Result.andThen_ok,ih,setRow_setRow]
  congr 3
  have e:=list_seg_step cur.toList (o+i) v rest (by simp at hl ⊢;omega)
  simpa [Array.toList_setIfInBounds,Z7] using e
def strOrSl (P:Program) (u:TypeId):Bool :=
 match P.underlying u with
 | some .string|some (.slice _)=>true
 | _=>false
class TySrc (P:Program) (u:TypeId):Prop where out:strOrSl P u=true
instance {u:TypeId} [h:TyStr P u]:TySrc P u:=⟨by simp [strOrSl,h.out]⟩
instance {u e n b:TypeId} [h:TySl P u e n b]:TySrc P u:=⟨by simp [strOrSl,(cI h.out).1]⟩
theorem gb {u:TypeId} (h:strOrSl P u=true):P.underlying u=some .string∨∃ e,P.underlying u=some (.slice e):=by
 unfold strOrSl at h
 split at h
 · exact .inl (by assumption)
 · exact .inr ⟨_,by assumption⟩
 · cases h
structure Src (P:Program) (w:World) (size:Nat) (x:Value) (m:Nat) (news:List Value):Prop where
 len:∀ w',(Builtin.lenOf x).run P w'=.ok m w'
 cells:∀ w':World,w'.heap=w.heap→(Builtin.firstCells size m x).run P w'=.ok news.toArray w'
 size:news.length=m*size
 one:∀ u∈news,u.oneCell'=true
theorem er (e:TypeId) (cs:Array Value) (w:World):(newRow e cs).run P w=.ok ⟨w.heap.size,0,none⟩ (w.alloc (.cells cs e)):=rfl
theorem o0 {w:World} {t u ty e size bytes:Nat} {z:Value} (hs:slOf P t=some (e,size,bytes)) (hz:zeroOf P e=some z) (hzs:z.cells.size=size) (hsz:0<size) (hu:strOrSl P u=true)
  {v x:Value} {n m:Nat} {xs news:List Value} (ho:ORow w e size v n xs) (hx:Src P w size x m news) (h63:n+m≤maxLen) (hby:(n+m)*bytes≤140737488355328) :
  ∃ v' w',(Builtin.append_ #[t,u] ty #[v,x]).run P w=.ok v' w'∧ORow w' e size v' (n+m) (xs++news)∧w'.os=w.os∧w'.tape=w.tape∧w'.output=w.output∧w.heap.size≤w'.heap.size ∧
   (∀ i,i<w.heap.size→i∉v.ownBlock.toList→w'.heap[i]?=w.heap[i]?)∧(∀ i∈v'.ownBlock.toList,i<w'.heap.size∧(i∈v.ownBlock.toList∨w.heap.size≤i)):=by
 obtain ⟨ht,inf,hi,hi1,hi2⟩:=cI hs
 have hzr:(zeroValue e).run P w.drew=.ok z w.drew:=dP hz _
 have hsm:n+m≤9223372036854775807:=by simp only [maxLen] at h63;omega
 have hlen:(xs++news).length=(n+m)*size:=by rw [ZX,ho.1,hx.size,Nat.add_mul]
 have h63':¬ (9223372036854775807<(n:Int)+(m:Int)):=by omega
 have grow:∀ (A:Option Addr) (cap:Nat),v=.slice A n cap→cap<n+m→(∀ w':World,w'.heap=w.heap→(Builtin.firstCells size n v).run P w'=.ok xs.toArray w') →
   (Builtin.append_ #[t,u] ty #[v,x]).run P w=.ok (.slice (some ⟨w.heap.size,0,none⟩) (n+m) (grownCap w (n+m) cap e))
    (w.drew.alloc (.cells (xs.toArray++news.toArray++Builtin.zeroCells z.cells (grownCap w (n+m) cap e-(n+m))) e)):=by
  intro A cap hv hlt hf
  subst hv
  have h1:=hf w.drew rfl
  have h2:=hx.cells w.drew rfl
  have hnc:¬ (n+m≤cap):=by omega
  have hfit:¬ (281474976710656<Builtin.nextslicecap (n+m) cap*bytes):=by have:=growslice_fits hlt hby;omega
  have hsw:(sizeOf e).run P w=.ok size w:=by simp [sizeOf,typeInfo,hi,hi1]
  rcases gb hu with hD|⟨e',hD⟩<;>simp [Builtin.append_,run_underlying ht,run_underlying hD,hsw,typeInfo,hi,hi1,hi2,hx.len,hnc,hfit,h1,h2,hzr,grownCap,Question.forced,h63',er]<;>(rw [←Array.append_assoc];simp)
 have fin:∀ (A:Option Addr) (cap:Nat),v=.slice A n cap→cap<n+m→(∀ w':World,w'.heap=w.heap→(Builtin.firstCells size n v).run P w'=.ok xs.toArray w')→_ :=
  fun A cap hv hlt hf=>by
   have hge:=grownCap_ge w (n+m) cap e
   have hcm:grownCap w (n+m) cap e≤maxLen:=grownCap_le_maxLen w (n+m) cap e h63
   exact (⟨_,_,grow A cap hv hlt hf,⟨hlen,.inr ⟨w.heap.size,_,_,(0,0),rfl,heap_alloc_new w.drew _,hge,hcm,by
     simp only [Array.size_append,List.size_toArray,size_zeroCells,hzs,ho.1,hx.size,←Nat.add_mul]
     congr 1
     omega,by
     simp only [Array.toList_append,ZZ]
     rw [←ZZ,←hlen]
     exact List.take_left,.inl rfl⟩⟩,rfl,rfl,rfl,by simp,fun i hi _=>Below.heap_alloc w.drew _ i hi,fun i hi=>by
     simp only [Value.ownBlock,Option.toList_some,List.mem_singleton] at hi
     subst hi
     exact ⟨by simp,.inr (Qq _)⟩⟩ :
    ∃ v' w',(Builtin.append_ #[t,u] ty #[v,x]).run P w=.ok v' w'∧ORow w' e size v' (n+m) (xs++news)∧w'.os=w.os∧w'.tape=w.tape∧w'.output=w.output∧w.heap.size≤w'.heap.size ∧
     (∀ i,i<w.heap.size→i∉v.ownBlock.toList→w'.heap[i]?=w.heap[i]?)∧(∀ i∈v'.ownBlock.toList,i<w'.heap.size∧(i∈v.ownBlock.toList∨w.heap.size≤i)))
 have hsw:(sizeOf e).run P w=.ok size w:=by simp [sizeOf,typeInfo,hi,hi1]
 rcases ho.2 with ⟨rfl,rfl⟩|⟨g,cap,cur,fz,rfl,hg,hnc,hcm,hcs,htake,hfz⟩
 · have hxs:xs=[]:=List.eq_nil_of_length_eq_zero (by simpa using ho.1)
   subst hxs
   by_cases hm:m=0
   · subst hm
     have hn:news=[]:=List.eq_nil_of_length_eq_zero (by simpa using hx.size)
     subst hn
     refine ⟨.slice none 0 0,w,?_,⟨by simp,.inl ⟨rfl,rfl⟩⟩,rfl,rfl,rfl,Qq _,fun _ _ _=>rfl,fun i hi=>by simp [Value.ownBlock] at hi⟩
     have h2:=hx.cells w rfl
     rcases gb hu with hD|⟨e',hD⟩<;>simp [Builtin.append_,run_underlying ht,run_underlying hD,hsw,hx.len,h2]
   · refine fin none 0 rfl aa fun w' _=>?_
     simp [Builtin.firstCells]
 · have hglt:g<w.heap.size:=(Array.getElem?_eq_some_iff.1 hg).1
   by_cases hroom:n+m≤cap
   · have h2:=hx.cells w rfl
     have hfit:n*size+news.length≤cur.size:=by
      rw [hcs,hx.size,←Nat.add_mul]
      exact Nat.mul_le_mul_right _ hroom
     have hst:=eN P g (n*size) e fz news 0 cur w hg hfz (by simpa using hfit) hx.one
     simp only [Qk] at hst
     have hadd:(⟨g,0,none⟩:Addr).add (n*size)=⟨g,n*size,none⟩:=by unfold Addr.add;split<;>simp_all
     refine ⟨.slice (some ⟨g,0,none⟩) (n+m) cap,w.setRow g (cur.toList.take (n*size)++news++cur.toList.drop (n*size+news.length)).toArray,?_,⟨hlen,.inr ⟨g,cap,_,fz,rfl,Go.setRow_heap w g cur _ e fz hg,hroom,hcm,?_,?_,?_⟩⟩,rfl,rfl,rfl,by rw [setRow_size];exact Qq _,?_,?_⟩
     · rcases gb hu with hD|⟨e',hD⟩<;>simp [Builtin.append_,run_underlying ht,run_underlying hD,hsw,hx.len,h2,hroom,hadd,hst]
     · simp only [List.size_toArray,ZX,List.length_take,List.length_drop,Array.length_toList]
       omega
     · rw [htake,←hlen]
       exact List.take_left
     · simp only [List.size_toArray,ZX,List.length_take,List.length_drop,Array.length_toList]
       omega
     · intro i _ hi
       exact setRow_heap _ _ _ _ (fun e=>hi (by simp [Value.ownBlock,e]))
     · intro i hi
       simp only [Value.ownBlock,Option.toList_some,List.mem_singleton] at hi
       subst hi
       exact ⟨by rw [setRow_size];exact hglt,.inl (by simp [Value.ownBlock])⟩
   · refine fin (some ⟨g,0,none⟩) cap rfl aa fun w' hw'=>?_
     have hl:=run_loadCells_list (P:=P) w' ⟨g,0,none⟩ xs (fun j u hj=>by
      have hadd:(⟨g,0,none⟩:Addr).add j=⟨g,j,none⟩:=by unfold Addr.add;split<;>simp_all
      rw [hadd,cell_of_row w' g j cur e fz (by rw [hw'];exact hg)]
      rw [←htake,List.getElem?_take] at hj
      split at hj
      · simpa using hj
      · cases hj)
     rw [ho.1] at hl
     simp [Builtin.firstCells,hl]
theorem aH {n:Nat} {s x:Operand} {t u e size bytes:Nat} [hs:TySl P t e size bytes] {z:Value} [hz:TyZero P e z] {v vx:Value} {m q:Nat} {xs news:List Value} {L:Value→List Res}
  [hu:TySrc P u] (hzs:z.cells.size=size:=by rfl) (hsz:Nat.blt 0 size=true:=by rfl)
  (hv:ev E s=some v:=by rfl) (hx:ev E x=some vx:=by rfl) (hA:∀ v',At (orow e size v m xs) (orow e size v' (m+q) (xs++news)) loc (L v')) (hsrc:∀ w,Gam av bor w0 loc X w→Src P w size vx q news)
  (h63:(m+q)*bytes≤140737488355328) (h1:m+q≤maxLen) (hg:gdB ops E g=some (bb,want):=by rfl) (hb:bb=want:=by exact am) (hd:Nat.blt n N=true:=by rfl)
  (h:∀ A c,Sw P N av bor w0 ops rest ⟨(n,.slice A (m+q) c)::E,L (.slice A (m+q) c),X⟩ k):Sw P N av bor w0 ops (⟨some n,.call ⟨.builtin .append,#[s,x],#[t,u]⟩,ty,pos,af,g⟩::rest) ⟨E,loc,X⟩ k:=Sw.mk fun a w ok=>by
 have hd':inB N (some n)=true:=by have h1:n<N:=ZU hd;simpa [inB] using h1
 have ho:ORow w e size v m xs:=(ok.gam.here _ (hA v).mem).now
 obtain ⟨v',w',hr,ho',k1,k2,k3,k4,k5,k6⟩:=o0 (P:=P) (ty:=ty) hs.out hz.out hzs (ZU hsz) hu.out ho (hsrc w ok.gam) h1 h63
 have hv':∃ A c,v'=.slice A (m+q) c:=by
  rcases ho'.2 with ⟨rfl,h0⟩|⟨g',cap,_,_,rfl,_⟩
  · exact ⟨none,0,by rw [h0]⟩
  · exact ⟨_,_,rfl⟩
 obtain ⟨A,c,rfl⟩:=hv'
 simp only [wpList]
 rw [br ok (o:=⟨some n,.call ⟨.builtin .append,#[s,x],#[t,u]⟩,ty,pos,af,g⟩) hg]
 subst hb
 simp only [ZW,Qd]
 left
 unfold Oper.wp
 have hr':(execOp a.eval ⟨some n,.call ⟨.builtin .append,#[s,x],#[t,u]⟩,ty,pos,af,g⟩).run P w=.ok (.value (.slice A (m+q) c)) w':=by
  simp only [execOp,resolve,invoke,builtin,Sem.run_bind,Sem.run_pure,Result.andThen_ok,List.map_toArray,Qu,List.map_nil,ok.eval (st:=⟨E,loc,X⟩) hv,ok.eval (st:=⟨E,loc,X⟩) hx,hr]
 rw [hr']
 have hn:(orow e size (.slice A (m+q) c) (m+q) (xs++news)).fp.Nodup:=by cases A<;>simp [orow,Value.ownBlock]
 have ok':Ok N av bor w0 ⟨E,L (.slice A (m+q) c),X⟩ a w':=(ok.via fun M G=>G.swap ((hA _).app M) k1 k2 k3 k4 k5 hn k6 (dU ho'))
 exact (h A c).run _ _ (db (some n) _▸ok'.put hd' _)
theorem Gam.nilRow {w:World} (G:Gam av bor w0 loc X w) (e size:Nat):Gam av bor w0 (orow e size (.slice none 0 0) 0 []::loc) X w:=by
 have e1:fps (orow e size (.slice none 0 0) 0 []::loc)=fps loc:=by simp [fps,orow,Value.ownBlock]
 refine ⟨G.fr,G.avb,by rw [e1];exact G.nodup,by rw [e1];exact G.own,fun r hr=>?_,by rw [e1];exact G.keep⟩
 rcases List.mem_cons.1 hr with rfl|hr
 · exact dU ⟨by simp,.inl ⟨rfl,rfl⟩⟩
 · exact G.here r hr
theorem fo (e size:Nat) (h:Sw P N av bor w0 ops rest ⟨E,orow e size (.slice none 0 0) 0 []::loc,X⟩ k):Sw P N av bor w0 ops rest ⟨E,loc,X⟩ k:=Sw.mk fun a w ok=>h.run a w (ok.via fun M G=>G.nilRow e size)
theorem cO {c:Code} (e size:Nat) (h:Cw P N av bor w0 c ⟨E,orow e size (.slice none 0 0) 0 []::loc,X⟩ K):Cw P N av bor w0 c ⟨E,loc,X⟩ K:=Cw.mk fun a w ok=>h.run a w (ok.via fun M G=>G.nilRow e size)
theorem sL {w:World} {s:ByteArray} (hs:s.size≤9223372036854775807):Src P w 1 (.string s) s.size (s.data.toList.map fun b=>.int .u8 b.toNat):=by
 refine ⟨fun w'=>by simp [Builtin.lenOf],fun w' _=>?_,by simp,fun u hu=>?_⟩
 · have e:s.extract 0 s.size=s:=by simp
   simp only [Builtin.firstCells,e,Sem.run_pure]
   congr 1
   apply Array.ext'
   simp
 · simp only [List.mem_map] at hu
   obtain ⟨b,_,rfl⟩:=hu
   rfl
theorem bP {w:World} {b T n size:Nat} {cs:List Value} (G:Gam av bor w0 loc X w) (hm:cel b T cs∈loc) (hl:cs.length=n*size) (h1:cs.all (·.oneCell')=true) (c:Nat):Src P w size (.slice (some ⟨b,0,none⟩) n c) n cs:=by
 have hw:w.heap[b]?=some (.cells cs.toArray T (0,0)):=(G.here _ hm).now
 refine ⟨fun w'=>by simp [Builtin.lenOf],fun w' e=>?_,hl,by simpa using h1⟩
 have:=run_loadCells_list (P:=P) w' ⟨b,0,none⟩ cs (fun j v hv=>by
  have hadd:(⟨b,0,none⟩:Addr).add j=⟨b,j,none⟩:=by unfold Addr.add;split<;>simp_all
  rw [hadd,cell_of_row w' b j _ _ _ (by rw [e];exact hw)]
  simpa using hv)
 rw [hl] at this
 simp [Builtin.firstCells,this]
theorem gG {w:World} {size:Nat} {s:SlV} {xs:List (List Value)} (h:RowsD w size s xs) (h1:∀ cs∈xs,cs.all (·.oneCell')=true):Src P w size s.v s.n xs.flatten:=by
 have hlen:xs.flatten.length=s.n*size:=by
  rw [List.length_flatten,h.len]
  have:∀ x∈xs.map List.length,x=size:=by
   intro x hx
   obtain ⟨cs,hcs,rfl⟩:=List.mem_map.1 hx
   obtain ⟨i,hi⟩:=List.mem_iff_getElem?.1 hcs
   exact (h.row i cs hi).1
  rw [List.eq_replicate_of_mem this]
  simp
 refine ⟨fun w'=>by simp [Builtin.lenOf,SlV.v],fun w' e=>?_,hlen,fun u hu=>?_⟩
 · obtain ⟨p,n,c⟩:=s
   cases p with
   | none =>
    have:xs=[]:=by
     cases xs with
     | nil=>rfl
     | cons cs r=>have:=(h.row 0 cs rfl).2.1;simp at this
    subst this
    simp [Builtin.firstCells,SlV.v]
   | some a =>
    have:=run_loadCells_list (P:=P) w' a xs.flatten (fun j v hv=>by
     have key:∀ (l:List (List Value)) (i0:Nat),(∀ i cs,l[i]?=some cs→cs.length=size∧∀ j u,cs[j]?=some u→CellAt w (some a) ((i0+i)*size+j) u)→∀ j v,l.flatten[j]?=some v→w.cell? (a.add (i0*size+j))=some v:=by
      intro l
      induction l with
      | nil=>intro _ _ j v hv;simp at hv
      | cons cs r ih =>
       intro i0 hl j v hv
       have h0:=hl 0 cs rfl
       rw [List.flatten_cons] at hv
       rcases Nat.lt_or_ge j cs.length with hj|hj
       · rw [Z4 hj] at hv
         have:=(h0.2 j v hv).2 a rfl
         simpa using this
       · rw [Qm hj] at hv
         have:=ih (i0+1) (fun i cs' hi=>by
          have:=hl (i+1) cs' (by simpa using hi)
          rw [show i0+1+i=i0+(i+1) from by omega]
          exact this) (j-cs.length) v hv
         rw [h0.1] at this hj
         rw [show i0*size+j=(i0+1)*size+(j-size) from by rw [Nat.add_mul];omega]
         exact this
     have:=key xs 0 (fun i cs hi=>⟨(h.row i cs hi).1,fun j u hj=>by simpa using (h.row i cs hi).2.2 j u hj⟩) j v hv
     have hc:w'.cell? (a.add j)=w.cell? (a.add j):=by simp [World.cell?,e]
     rw [hc]
     simpa using this)
    rw [hlen] at this
    simp [Builtin.firstCells,SlV.v,this]
 · simp only [List.mem_flatten] at hu
   obtain ⟨cs,hcs,hu⟩:=hu
   have:=h1 cs hcs
   simp only [List.all_eq_true] at this
   exact this u hu
def ofInts (ns:List Int):ByteArray:=ns.foldl (fun r n=>r.push (UInt8.ofNat n.toNat)) ByteArray.empty
def u8s (ns:List Int):List Value:=ns.map (Value.int .u8)
def bytesI (s:ByteArray):List Int:=s.data.toList.map fun b=>(b.toNat:Int)
theorem ca (a b:List Int):u8s (a++b)=u8s a++u8s b:=by simp [u8s]
theorem ic {w:World} {s:ByteArray} (hs:s.size≤9223372036854775807):Src P w 1 (.string s) s.size (u8s (bytesI s)):=by
 have:=sL (P:=P) (w:=w) hs
 simpa [u8s,bytesI,Qt,Function.comp_def] using this
theorem Fm {st:St} {x:Operand} {t t2 e b':TypeId} [hs:TySl P t e 1 b'] [he:TyInt P e .u8] [h2:TyStr P t2] {v:Value} {n:Nat} {ns:List Int} (hx:ev st.env x=some v) (hm:orow e 1 v n (u8s ns)∈st.loc) :
  Sy.Yields P N av bor w0 st (.convert t t2 x) ty (.string (ofInts ns)):=Sy.Yields.mk fun A w ok d pos af g=>by
 have ho:ORow w e 1 v n (u8s ns):=(ok.gam.here _ hm).now
 have hl:(u8s ns).length=n:=by have:=ho.1;omega
 rcases ho.2 with ⟨rfl,rfl⟩|⟨g,cap,cur,fz,rfl,hg,hnc,hcm,hcs,htake,hfz⟩
 · have:ns=[]:=by simpa [u8s] using hl
   subst this
   have:=run_convert_bytes_string (P:=P) w t t2 e none 0 0 (cI hs.out).1 he.out h2.out
   simp [execOp,ok.eval hx,this,Conv.bytesToString,ofInts]
 · have hlc:=run_loadCells_list (P:=P) w ⟨g,0,none⟩ (u8s ns) (fun j u hj=>by
    have hadd:(⟨g,0,none⟩:Addr).add j=⟨g,j,none⟩:=by unfold Addr.add;split<;>simp_all
    rw [hadd,cell_of_row w g j cur e fz hg]
    rw [←htake,List.getElem?_take] at hj
    split at hj
    · simpa using hj
    · cases hj)
   rw [hl] at hlc
   have h3:=run_bytesToString (P:=P) w ⟨g,0,none⟩ n cap ns hlc
   have h4:=run_convert_bytes_string (P:=P) w t t2 e (some ⟨g,0,none⟩) n cap (cI hs.out).1 he.out h2.out
   rw [h3] at h4
   simp [execOp,ok.eval hx,h4,ofInts]
theorem eD {nn:Nat} {x:Operand} {t t2 e b':TypeId} [hs:TySl P t e 1 b'] [he:TyInt P e .u8] [h2:TyStr P t2] {v:Value} {n:Nat} {ns:List Int} (h:Sw P N av bor w0 ops rest ⟨(nn,.string (ofInts ns))::E,loc,X⟩ k) (hx:ev E x=some v:=by rfl) (hm:orow e 1 v n (u8s ns)∈loc:=by exact aS) (hg:gdB ops E g=some (bb,want):=by rfl) (hb:bb=want:=by exact am) (hd:Nat.blt nn N=true:=by rfl):Sw P N av bor w0 ops (⟨some nn,.convert t t2 x,ty,pos,af,g⟩::rest) ⟨E,loc,X⟩ k :=
 ai (Fm hx hm) hg hb hd h
theorem tF (w:World) (C:Array Value) (e:TypeId):(w.alloc (.cells C e)).freeze ⟨w.heap.size,C.size,none⟩ 1=w.alloc (.cells C e (C.size,C.size+1)):=by
 simp only [World.freeze,World.alloc]
 rw [Qg (by omega)]
 congr 1
 apply Array.ext_getElem?
 intro i
 rw [Array.getElem?_modify]
 by_cases h:w.heap.size=i
 · subst h
   simp
 · have h':¬ i=w.heap.size:=fun e=>h e.symm
   simp [h,h',Array.getElem?_push]
theorem Cp {w:World} {e:TypeId} {s:ByteArray}:(Conv.stringToBytes e s).run P w=.ok (.slice (some ⟨w.heap.size,0,none⟩) s.size (grownCap w s.size 0 e))
  (w.drew.alloc (.cells ((s.data.map fun b=>Value.int .u8 b.toNat)++Array.replicate (grownCap w s.size 0 e-s.size) (.int .u8 0)) e
   ((((s.data.map fun b=>Value.int .u8 b.toNat)++Array.replicate (grownCap w s.size 0 e-s.size) (.int .u8 0)):Array Value).size,(((s.data.map fun b=>Value.int .u8 b.toNat)++Array.replicate (grownCap w s.size 0 e-s.size) (.int .u8 0)):Array Value).size+1))):=by
 have h1:(choose (.appendCap s.size 0 e)).run P w=.ok (grownCap w s.size 0 e) w.drew:=rfl
 unfold Conv.stringToBytes
 simp only [Sem.run_bind,h1,Result.andThen_ok,er]
 generalize ((s.data.map fun b=>Value.int .u8 b.toNat)++Array.replicate (grownCap w s.size 0 e-s.size) (.int .u8 0):Array Value)=C
 have h2:(markStringish ⟨w.drew.heap.size,0,none⟩).run P (w.drew.alloc (.cells C e))=.ok () (w.drew.alloc (.cells C e (C.size,C.size+1))):=by
  have hs:(w.drew.alloc (.cells C e)).shape? w.heap.size=some (e,C.size):=by
   have:=heap_alloc_new w.drew (.cells C e)
   unfold World.shape?
   rw [show w.heap.size=w.drew.heap.size from rfl,this]
  have:=tF w.drew C e
  simp [markStringish,hs]
  exact this
 rw [h2]
 simp
theorem sI {n:Nat} {x:Operand} {t t2 e b':TypeId} [hs:TySl P t2 e 1 b'] [he:TyInt P e .u8] [h2:TyStr P t] {s:ByteArray} (h:∀ A c,Sw P N av bor w0 ops rest ⟨(n,.slice A s.size c)::E,orow e 1 (.slice A s.size c) s.size (u8s (bytesI s))::loc,X⟩ k) (hx:ev E x=some (.string s):=by rfl) (hsz:s.size≤4611686018427387904:=by omega) (hg:gdB ops E g=some (bb,want):=by rfl) (hb:bb=want:=by exact am) (hd:Nat.blt n N=true:=by rfl):Sw P N av bor w0 ops (⟨some n,.convert t t2 x,ty,pos,af,g⟩::rest) ⟨E,loc,X⟩ k:=Sw.mk fun a w ok=>by
 have hd':inB N (some n)=true:=by have h1:n<N:=ZU hd;simpa [inB] using h1
 have hge:s.size≤grownCap w s.size 0 e:=grownCap_ge w s.size 0 e
 have hcm:grownCap w s.size 0 e≤maxLen:=grownCap_le_maxLen w s.size 0 e (by simp only [maxLen];omega)
 have hr0:=Cp (P:=P) (w:=w) (e:=e) (s:=s)
 generalize grownCap w s.size 0 e=c at hge hcm hr0
 generalize hC:((s.data.map fun b=>Value.int .u8 b.toNat)++Array.replicate (c-s.size) (.int .u8 0):Array Value)=C at hr0
 have hCs:C.size=c:=by rw [←hC];simp;omega
 have hCt:C.toList.take s.size=u8s (bytesI s):=by
  rw [←hC]
  simp only [Array.toList_append,Array.toList_map]
  rw [List.take_append_of_le_length (by simp)]
  rw [List.take_of_length_le (by simp)]
  simp [u8s,bytesI]
 simp only [wpList]
 rw [br ok (o:=⟨some n,.convert t t2 x,ty,pos,af,g⟩) hg]
 subst hb
 simp only [ZW,Qd]
 left
 unfold Oper.wp
 have hr:(execOp a.eval ⟨some n,.convert t t2 x,ty,pos,af,g⟩).run P w=.ok (.value (.slice (some ⟨w.heap.size,0,none⟩) s.size c)) (w.drew.alloc (.cells C e (C.size,C.size+1))):=by
  simp [execOp,ok.eval (st:=⟨E,loc,X⟩) hx,convert,run_underlying h2.out,run_underlying (cI hs.out).1,run_underlying he.out,hr0]
 rw [hr]
 have ok':Ok N av bor w0 ⟨E,orow e 1 (.slice (some ⟨w.heap.size,0,none⟩) s.size c) s.size (u8s (bytesI s))::loc,X⟩ a (w.drew.alloc (.cells C e (C.size,C.size+1))):=(ok.via fun M G=>(G.drew).new (.cells C e (C.size,C.size+1)) (fun w2=>ORow w2 e 1 (.slice (some ⟨w.heap.size,0,none⟩) s.size c) s.size (u8s (bytesI s))) (fun w2 h=>⟨by simp [u8s,bytesI],.inr ⟨w.heap.size,c,C,_,rfl,h,hge,hcm,by omega,by simpa using hCt,.inr (Qq _)⟩⟩))
 exact (h _ _).run _ _ (db (some n) _▸ok'.put hd' _)
end
theorem iz {P:Program} {N:Nat} {av bor:List Nat} {w0:World} {ops:Array Oper} {rest:List Oper} {st:St} {k:St→Prop} {d:Option Tmp} {ty:TypeId} {pos:String} {af:Array Edge} {g:Option (Nat×Bool)} {xs:Array Operand} {ts:Array TypeId}
  (h:Sw P N av bor w0 ops (⟨d,.call ⟨.builtin .append,xs,ts⟩,ty,pos,af,g⟩::rest) st k):Sw P N av bor w0 ops (⟨d,.call ⟨.builtin .append,xs,ts⟩,ty,pos,af,g⟩::rest) st k:=h
end Go.Proofs.YtoefdofbekihdaaGreatDoor.Sy
set_option maxHeartbeats 16000000
namespace Go.Proofs.YtoefdofbekihdaaGreatDoor.Sy
open Go Go.RowKit Go.MapKept
class KeyT (κ:Type) where
 d:TypeDesc
 enc:κ→Value
 eqb:κ→κ→Bool
 ok:∀ a,IsKey d (enc a)
 same:∀ a b,Instr.sameNow d (enc a) (enc b)=some (eqb a b)
 eqb_iff:∀ a b,eqb a b=true↔a=b
instance:KeyT Int:=⟨.int .i64,.int .i64,fun a b=>decide (a=b),fun a=>rfl,fun a b=>by simp [Instr.sameNow];rfl,fun a b=>by simp⟩
instance:KeyT ByteArray:=⟨.string,.string,fun a b=>a==b,fun a=>trivial,fun a b=>rfl,bytes_beq⟩
def keyD (κ:Type) [KeyT κ]:TypeDesc:=KeyT.d κ
section
variable {κ:Type} [KeyT κ] {β:Type}
def mget:List (κ×β)→κ→Option β
 | [],_=>none
 | (k',v')::r,k=>bif KeyT.eqb k k' then some v' else mget r k
def mput:List (κ×β)→κ→β→List (κ×β)
 | [],k,v=>[(k,v)]
 | (k',v')::r,k,v=>bif KeyT.eqb k k' then (k,v)::r else (k',v')::mput r k v
theorem rn {γ:Type} (f:β→γ):∀ (l:List (κ×β)) (k:κ),mget (l.map fun p=>(p.1,f p.2)) k=(mget l k).map f
 | [],_=>rfl
 | (k',v')::r,k=>by
  simp only [Qu,mget,rn f r k]
  cases KeyT.eqb k k'<;>rfl
theorem ri {γ:Type} (f:β→γ):∀ (l:List (κ×β)) (k:κ) (v:β),mput (l.map fun p=>(p.1,f p.2)) k (f v)=(mput l k v).map fun p=>(p.1,f p.2)
 | [],_,_=>rfl
 | (k',v')::r,k,v=>by
  simp only [Qu,mput,ri f r k v]
  cases KeyT.eqb k k'<;>rfl
def MapAt (w:World) (g:Nat) (l:List (κ×Value)):Prop :=
 ∃ es clock,w.heap[g]?=some (.map es clock)∧Stamped es clock∧es.toList.map (fun e=>(e.key,e.val))=l.map fun p=>(KeyT.enc p.1,p.2)
def mapr (g:Nat) (l:List (κ×Value)):Res:=⟨[g],fun w=>MapAt w g l⟩
theorem jn (k:κ):∀ (es:List MapEntry) (l:List (κ×Value)) (i:Nat),es.map (fun e=>(e.key,e.val))=l.map (fun p=>(KeyT.enc p.1,p.2)) →
  (Instr.findNow (keyD κ) (KeyT.enc k) es i=some none∧mget l k=none∧(∀ v,mput l k v=l++[(k,v)])∧∀ x∈es,x.key≠KeyT.enc k) ∨
  ∃ j e v0,Instr.findNow (keyD κ) (KeyT.enc k) es i=some (some (i+j,v0))∧es[j]?=some e∧e.key=KeyT.enc k∧mget l k=some v0∧∀ v,mput l k v=l.set j (k,v)
 | [],l,i,h=>by
  have:l=[]:=by cases l<;>simp_all
  subst this
  exact .inl ⟨rfl,rfl,fun _=>rfl,by simp⟩
 | e::es,[],i,h=>by simp at h
 | e::es,(k',v')::l,i,h=>by
  simp only [Qu,List.cons.injEq,Prod.mk.injEq] at h
  obtain ⟨⟨h1,h2⟩,h3⟩:=h
  have hs:Instr.sameNow (keyD κ) (KeyT.enc k) e.key=some (KeyT.eqb k k'):=by rw [h1];exact KeyT.same k k'
  cases hb:KeyT.eqb k k' with
  | true =>
   have hk:=(KeyT.eqb_iff k k').1 hb
   exact .inr ⟨0,e,v',by simp [Instr.findNow,hs,hb,h2],rfl,by rw [h1,hk],by simp [mget,hb],fun v=>by simp [mput,hb]⟩
  | false =>
   have hne:e.key≠KeyT.enc k:=fun q=>by
    have h5:=KeyT.same k k
    have h6:KeyT.eqb k k=true:=(KeyT.eqb_iff k k).2 rfl
    have h7:Instr.sameNow (keyD κ) (KeyT.enc k) (KeyT.enc k)=some true:=by rw [←h6];exact h5
    rw [q,h7,hb] at hs
    simp at hs
   rcases jn k es l (i+1) h3 with ⟨g1,g2,g3,g4⟩|⟨j,e',v0,g1,g2,g3,g4,g5⟩
   · exact .inl ⟨by simp [Instr.findNow,hs,hb,g1],by simp [mget,hb,g2],fun v=>by simp [mput,hb,g3],fun x hx=>by
      cases hx with
      | head=>exact hne
      | tail _ hx=>exact g4 x hx⟩
   · exact .inr ⟨j+1,e',v0,by simp [Instr.findNow,hs,hb,g1];omega,by simpa using g2,g3,by simp [mget,hb,g4],fun v=>by simp [mput,hb,g5]⟩
def mapOf (P:Program) (t:TypeId):Option (TypeId×TypeDesc) :=
 match P.underlying t with
 | some (.map kt et)=>(P.underlying kt).map fun d=>(et,d)
 | _=>none
class TyMap (P:Program) (t:TypeId) (et:outParam Nat) (d:outParam TypeDesc):Prop where out:mapOf P t=some (et,d)
theorem gm {P:Program} {t et:TypeId} {d:TypeDesc} (h:mapOf P t=some (et,d)):∃ kt,P.underlying t=some (.map kt et)∧P.underlying kt=some d:=by
 unfold mapOf at h
 split at h
 · rename_i kt et' he
   cases hk:P.underlying kt with
   | none=>simp [hk] at h
   | some d' =>
    simp [hk] at h
    obtain ⟨rfl,rfl⟩:=h
    exact ⟨kt,he,hk⟩
 · cases h
theorem jH {P:Program} {w:World} {t et:TypeId} (ht:mapOf P t=some (et,keyD κ)) {g:Nat} {l:List (κ×Value)} (h:MapAt w g l) (k:κ) (v:Value) :
  ∃ o,(Instr.mapUpdate t (.map (some g)) (KeyT.enc k) v).run P w=.ok () { w with heap:=w.heap.setIfInBounds g o }∧∀ w':World,w'.heap[g]?=some o→MapAt w' g (mput l k v):=by
 obtain ⟨kt,h1,h2⟩:=gm ht
 obtain ⟨es,clock,hb,hs,hl⟩:=h
 have hk:=KeyT.ok k
 rcases jn k es.toList l 0 hl with ⟨g1,g2,g3,g4⟩|⟨j,e,v0,g1,g2,g3,g4,g5⟩
 · refine ⟨.map (es.push { key:=KeyT.enc k,val:=v,born:=clock }) (clock+1),?_,fun w' hw=>⟨_,_,hw,stamped_push hs g4,?_⟩⟩
   · simp [Instr.mapUpdate,run_underlying h1,MapKept.run_getObj_map hb,MapKept.run_checkKey h2 hk,MapKept.run_findKey h2 g1,MapKept.run_setObj_map _ hb,Result.andThen]
   · rw [g3]
     simp [hl]
 · have hj:es[j]?=some e:=by simpa using g2
   refine ⟨.map (es.modify j fun e=>{ e with key:=KeyT.enc k,val:=v }) clock,?_,fun w' hw=>⟨_,_,hw,stamped_modify hs _ _ (fun _ _=>rfl) (fun e' _ he'=>by rw [hj] at he';cases he';exact g3.symm),?_⟩⟩
   · simp [Instr.mapUpdate,run_underlying h1,MapKept.run_getObj_map hb,MapKept.run_checkKey h2 hk,MapKept.run_findKey h2 g1,hj,g3,MapKept.run_keyThatStays hk,MapKept.run_setObj_map _ hb,Result.andThen]
   · rw [g5]
     apply List.ext_getElem?
     intro q
     have hq:=congrArg (fun l=>l[q]?) hl
     simp only [List.getElem?_map,Array.getElem?_toList] at hq
     simp only [List.getElem?_map,Array.getElem?_toList,Array.getElem?_modify,List.getElem?_set]
     by_cases e1:j=q
     · subst e1
       have hlt:j<l.length:=by
        rcases Nat.lt_or_ge j l.length with h|h
        · exact h
        · rw [hj,List.getElem?_eq_none h] at hq;simp at hq
       simp [hj,hlt]
     · simp [e1,hq]
theorem m6 {P:Program} {w:World} {t et:TypeId} {z:Value} (ht:mapOf P t=some (et,keyD κ)) (hz:zeroOf P et=some z) {g:Nat} {l:List (κ×Value)} (h:MapAt w g l) (k:κ) (c:Bool) :
  (Instr.lookup t (.map (some g)) (KeyT.enc k) c).run P w=.ok (if c then .tuple #[(mget l k).getD z,.bool (mget l k).isSome] else (mget l k).getD z) w:=by
 obtain ⟨kt,h1,h2⟩:=gm ht
 obtain ⟨es,clock,hb,hs,hl⟩:=h
 have hk:=KeyT.ok k
 have hzr:(zeroValue et).run P w=.ok z w:=dP hz w
 rcases jn k es.toList l 0 hl with ⟨g1,g2,g3,g4⟩|⟨j,e,v0,g1,g2,g3,g4,g5⟩
 · cases c<;>simp [Instr.lookup,run_underlying h1,MapKept.run_getObj_map hb,MapKept.run_checkKey h2 hk,MapKept.run_findKey h2 g1,hzr,g2,Result.andThen]
 · cases c<;>simp [Instr.lookup,run_underlying h1,MapKept.run_getObj_map hb,MapKept.run_checkKey h2 hk,MapKept.run_findKey h2 g1,g4,Result.andThen]
end
theorem Gam.give {av bor:List Nat} {w0 w:World} {r:Res} {loc:List Res} {X:World→Prop} (G:Gam av bor w0 (r::loc) X w):Gam av bor w0 loc (fun w=>X w∧r.F w) w:=by
 have hn:=G.nodup
 rw [dv] at hn
 have hn2:=List.nodup_append.1 hn
 refine ⟨G.fr,G.avb,hn2.2.1,fun k hk=>G.own k (by rw [dv];exact List.mem_append.2 (.inr hk)),fun q hq=>G.here q (ZS _ hq),?_⟩
 refine Keeps.and (G.keep.anti fun k hk=>?_) ⟨fun k=>k∈r.fp,fun k hk=>?_,fun w' e=>G.here r ar w' e⟩
 · rw [dv]
   rcases List.mem_append.1 hk with h|h
   · exact List.mem_append.2 (.inl h)
   · exact List.mem_append.2 (.inr (List.mem_append.2 (.inr h)))
 · have h1:=G.own k (by rw [dv];exact List.mem_append.2 (.inl hk))
   refine ⟨h1.1,fun h=>?_⟩
   rcases List.mem_append.1 h with h|h
   · have h2:=G.avb k h
     rcases h1.2 with h3|h3
     · omega
     · exact h2.2 h3
   · exact hn2.2.2 k hk k h rfl
section
variable {P:Program} {N:Nat} {av bor:List Nat} {w0:World} {ops:Array Oper} {rest:List Oper} {k:St→Prop} {E:Env} {loc loc':List Res} {X:World→Prop}
variable {d:Option Tmp} {ty:TypeId} {pos:String} {af:Array Edge} {g:Option (Nat×Bool)} {bb want:Bool} {K:Exit→St→Prop}
theorem aX {r:Res} (h:Sw P N av bor w0 ops rest ⟨E,loc,fun w=>X w∧r.F w⟩ k):Sw P N av bor w0 ops rest ⟨E,r::loc,X⟩ k:=Sw.mk fun a w ok=>h.run a w (ok.via fun M G=>G.give)
theorem fx (κ:Type) [KeyT κ] {n:Nat} {t:TypeId} (hg:gdB ops E g=some (bb,want):=by rfl) (hb:bb=want:=by exact am) (hd:Nat.blt n N=true:=by rfl)
  (h:∀ q,Sw P N av bor w0 ops rest ⟨(n,.map (some q))::E,mapr q ([]:List (κ×Value))::loc,X⟩ k):Sw P N av bor w0 ops (⟨some n,.makeMap t none,ty,pos,af,g⟩::rest) ⟨E,loc,X⟩ k:=Sw.mk fun a w ok=>by
 have hd':inB N (some n)=true:=by have h1:n<N:=ZU hd;simpa [inB] using h1
 simp only [wpList]
 rw [br ok (o:=⟨some n,.makeMap t none,ty,pos,af,g⟩) hg]
 subst hb
 simp only [ZW,Qd]
 left
 unfold Oper.wp
 have hr:(execOp a.eval ⟨some n,.makeMap t none,ty,pos,af,g⟩).run P w=.ok (.value (.map (some w.heap.size))) (w.alloc (.map #[] 0)):=by
  have:(newObj (.map #[] 0)).run P w=.ok w.heap.size (w.alloc (.map #[] 0)):=rfl
  simp [execOp,Instr.makeMap,this]
 rw [hr]
 have ok':Ok N av bor w0 ⟨E,mapr w.heap.size ([]:List (κ×Value))::loc,X⟩ a (w.alloc (.map #[] 0)):=(ok.via fun M G=>G.new (.map #[] 0) (fun w2=>MapAt w2 w.heap.size ([]:List (κ×Value))) fun w2 h=>⟨#[],0,h,stamped_empty 0,rfl⟩)
 exact (h _).run _ _ (db (some n) _▸ok'.put hd' _)
theorem MapAt.same {κ:Type} [KeyT κ] {w w':World} {q:Nat} {l:List (κ×Value)} (h:MapAt w q l) (e:w'.heap[q]?=w.heap[q]?):MapAt w' q l:=by
 obtain ⟨es,c,h1,h2⟩:=h
 exact ⟨es,c,e.trans h1,h2⟩
theorem nY {κ:Type} [KeyT κ] {a:Act} {w:World} (ok:Ok N av bor w0 ⟨E,loc,X⟩ a w) {t et:TypeId} (ht:mapOf P t=some (et,keyD κ)) {q:Nat} {l:List (κ×Value)} {kk:κ} {v:Value} (hA:At (mapr q l) (mapr q (mput l kk v)) loc loc') :
  ∃ w',(Instr.mapUpdate t (.map (some q)) (KeyT.enc kk) v).run P w=.ok () w'∧Ok N av bor w0 ⟨E,loc',X⟩ a w':=by
 have hm:MapAt w q l:=(ok.gam.here _ hA.mem).now
 obtain ⟨o,hr,ho⟩:=jH ht hm kk v
 obtain ⟨es,c,hb,_⟩:=hm
 have hs:=heap_set (o':=o) hb
 refine ⟨_,hr,ok.via fun M G=>G.turn (hA.app M) rfl rfl rfl (by simp) (fun i hi=>hs.2 i hi) fun w2 h2=>ho w2 (h2.trans hs.1)⟩
theorem wd {κ:Type} [KeyT κ] {t et:Nat} [ht:TyMap P t et (keyD κ)] {m x y:Operand} {q:Nat} {l:List (κ×Value)} {kk:κ} {v:Value} (h:Sw P N av bor w0 ops rest ⟨putE E d undef,loc',X⟩ k) (hm:ev E m=some (.map (some q)):=by rfl) (hx:ev E x=some (KeyT.enc kk):=by rfl) (hy:ev E y=some v:=by rfl) (hA:At (mapr q l) (mapr q (mput l kk v)) loc loc':=by (repeat (first|exact At.here _|apply At.there))) (hg:gdB ops E g=some (bb,want):=by rfl) (hb:bb=want:=by exact am) (hd:inB N d=true:=by rfl):Sw P N av bor w0 ops (⟨d,.insert t m x y,ty,pos,af,g⟩::rest) ⟨E,loc,X⟩ k:=Sw.mk fun a w ok=>by
 simp only [wpList]
 rw [br ok (o:=⟨d,.insert t m x y,ty,pos,af,g⟩) hg]
 subst hb
 simp only [ZW,Qd]
 left
 unfold Oper.wp
 obtain ⟨w',hr,ok'⟩:=nY (P:=P) ok ht.out hA
 have hr':(execOp a.eval ⟨d,.insert t m x y,ty,pos,af,g⟩).run P w=.ok .skip w':=by
  simp [execOp,ok.eval (st:=⟨E,loc,X⟩) hm,ok.eval (st:=⟨E,loc,X⟩) hx,ok.eval (st:=⟨E,loc,X⟩) hy,hr]
 rw [hr']
 exact h.run _ _ (db d _▸ok'.put hd _)
theorem eM {κ:Type} [KeyT κ] {t et:Nat} [ht:TyMap P t et (keyD κ)] {m x y:Operand} {q:Nat} {l:List (κ×Value)} {kk:κ} {v:Value} (h:Sw P N av bor w0 ops rest ⟨putE E d undef,loc',X⟩ k) (hm:ev E m=some (.map (some q)):=by rfl) (hx:ev E x=some (KeyT.enc kk):=by rfl) (hy:ev E y=some v:=by rfl) (hA:At (mapr q l) (mapr q (mput l kk v)) loc loc':=by (repeat (first|exact At.here _|apply At.there))) (hg:gdB ops E g=some (bb,want):=by rfl) (hb:bb=want:=by exact am) (hd:inB N d=true:=by rfl):Sw P N av bor w0 ops (⟨d,.mapUpdate t m x y,ty,pos,af,g⟩::rest) ⟨E,loc,X⟩ k:=Sw.mk fun a w ok=>by
 simp only [wpList]
 rw [br ok (o:=⟨d,.mapUpdate t m x y,ty,pos,af,g⟩) hg]
 subst hb
 simp only [ZW,Qd]
 left
 unfold Oper.wp
 obtain ⟨w',hr,ok'⟩:=nY (P:=P) ok ht.out hA
 have hr':(execOp a.eval ⟨d,.mapUpdate t m x y,ty,pos,af,g⟩).run P w=.ok .skip w':=by
  simp [execOp,ok.eval (st:=⟨E,loc,X⟩) hm,ok.eval (st:=⟨E,loc,X⟩) hx,ok.eval (st:=⟨E,loc,X⟩) hy,hr]
 rw [hr']
 exact h.run _ _ (db d _▸ok'.put hd _)
theorem xQ {κ:Type} [KeyT κ] {st:St} {t et:Nat} [ht:TyMap P t et (keyD κ)] {z:Value} [hz:TyZero P et z] {m x:Operand} {c:Bool} {q:Nat} {l:List (κ×Value)} {kk:κ} (hm:ev st.env m=some (.map (some q))) (hx:ev st.env x=some (KeyT.enc kk))
  (hl:∀ w,Gam av bor w0 st.loc st.ext w→MapAt w q l):Sy.Yields P N av bor w0 st (.lookup t m x c) ty (if c then .tuple #[(mget l kk).getD z,.bool (mget l kk).isSome] else (mget l kk).getD z):=Sy.Yields.mk fun A w ok d pos af g=>by
 have:=m6 (P:=P) (t:=t) ht.out hz.out (hl w ok.gam) kk c
 simp [execOp,ok.eval hm,ok.eval hx,this]
theorem gk {κ:Type} [KeyT κ] {q:Nat} {l:List (κ×Value)} (hm:mapr q l∈loc):∀ w,Gam av bor w0 loc X w→MapAt w q l:=fun w G=>(G.here _ hm).now
theorem kS {κ:Type} [KeyT κ] {q:Nat} {l:List (κ×Value)} (hm:∀ w,X w→MapAt w q l):∀ w,Gam av bor w0 loc X w→MapAt w q l:=fun w G=>hm w G.keep.now
theorem nE {κ:Type} [KeyT κ] {n:Nat} {t et:Nat} [ht:TyMap P t et (keyD κ)] {z:Value} [hz:TyZero P et z] {m x:Operand} {c:Bool} {q:Nat} {l:List (κ×Value)} {kk:κ} (hm:ev E m=some (.map (some q)):=by rfl) (hx:ev E x=some (KeyT.enc kk):=by rfl)
  (hl:∀ w,Gam av bor w0 loc X w→MapAt w q l) (hg:gdB ops E g=some (bb,want):=by rfl) (hb:bb=want:=by exact am) (hd:Nat.blt n N=true:=by rfl)
  (h:Sw P N av bor w0 ops rest ⟨(n,if c then .tuple #[(mget l kk).getD z,.bool (mget l kk).isSome] else (mget l kk).getD z)::E,loc,X⟩ k):Sw P N av bor w0 ops (⟨some n,.lookup t m x c,ty,pos,af,g⟩::rest) ⟨E,loc,X⟩ k:=ai (xQ hm hx hl) hg hb hd h
theorem eK {κ:Type} [KeyT κ] {n:Nat} {t et:Nat} [ht:TyMap P t et (keyD κ)] {z:Value} [hz:TyZero P et z] {m x:Operand} {q:Nat} {l:List (κ×Value)} {kk:κ} {o:Option Value} {v:Value} {b:Bool} (h:Sw P N av bor w0 ops rest ⟨(n,.tuple #[v,.bool b])::E,loc,X⟩ k) (hm:ev E m=some (.map (some q)):=by rfl) (hx:ev E x=some (KeyT.enc kk):=by rfl) (hl:∀ w,Gam av bor w0 loc X w→MapAt w q l) (ho:mget l kk=o) (hv:o.getD z=v:=by rfl) (hbo:o.isSome=b:=by rfl) (hg:gdB ops E g=some (bb,want):=by rfl) (hb:bb=want:=by exact am) (hd:Nat.blt n N=true:=by rfl):Sw P N av bor w0 ops (⟨some n,.lookup t m x true,ty,pos,af,g⟩::rest) ⟨E,loc,X⟩ k:=by
 subst ho;subst hv;subst hbo
 exact nE hm hx hl hg hb hd h
theorem fw {κ:Type} [KeyT κ] {n:Nat} {t et:Nat} [ht:TyMap P t et (keyD κ)] {z:Value} [hz:TyZero P et z] {m x:Operand} {q:Nat} {l:List (κ×Value)} {kk:κ} {o:Option Value} (h:Sw P N av bor w0 ops rest ⟨(n,o.getD z)::E,loc,X⟩ k) (hm:ev E m=some (.map (some q)):=by rfl) (hx:ev E x=some (KeyT.enc kk):=by rfl) (hl:∀ w,Gam av bor w0 loc X w→MapAt w q l) (ho:mget l kk=o) (hg:gdB ops E g=some (bb,want):=by rfl) (hb:bb=want:=by exact am) (hd:Nat.blt n N=true:=by rfl):Sw P N av bor w0 ops (⟨some n,.lookup t m x false,ty,pos,af,g⟩::rest) ⟨E,loc,X⟩ k:=by
 subst ho
 exact nE hm hx hl hg hb hd h
end
theorem Gam.giveAll {av bor:List Nat} {w0 w:World}:∀ {loc:List Res} {X:World→Prop},Gam av bor w0 loc X w→Gam av bor w0 [] (fun w=>X w∧∀ r∈loc,r.F w) w
  | [],X,G=>G.imp fun _ h=>⟨h,by simp⟩
  | r :: loc,X,G=>(Gam.giveAll G.give).imp fun w h=>⟨h.1.1,fun q hq=>by
      rcases List.mem_cons.1 hq with rfl|hq
      · exact h.1.2
      · exact h.2 q hq⟩
theorem bF {P:Program} {f:FuncId} {fn:Func} {c:Code} {args:List Value} {X:World→Prop} {Φ:Value→(World→Prop)→Prop} (N:Nat)
  (hf:P.funcs[f]?=some fn) (hb:fn.body=some c) (hN:fn.ntmps=N) (hn:Nat.ble args.length N=true)
  (h:∀ av bor w0,Cw P N av bor w0 c ⟨params 0 args,[],X⟩ (ends P fn N fun u R X'=>Φ u fun w=>X' w∧∀ r∈R,r.F w)):Mk P f args.toArray X Φ:=by
 unfold Mk
 exact Ct.mk fun w av G=>by
  have h1:=(bJ (P:=P) (Post:=fun u R X'=>Φ u fun w=>X' w∧∀ r∈R,r.F w) N hf hb hN hn h).run w av G
  refine h1.mono fun e w' ⟨u,R,X',he,hu,G'⟩=>⟨u,[],_,he,⟨hu,rfl⟩,G'.giveAll⟩
end Go.Proofs.YtoefdofbekihdaaGreatDoor.Sy
set_option maxHeartbeats 16000000
namespace Go.Proofs.YtoefdofbekihdaaGreatDoor.Sy
open Go Go.RowKit Go.Sort Go.Proofs
def bl (s:ByteArray):List UInt8:=s.data.toList
def lb (l:List UInt8):ByteArray:=⟨l.toArray⟩
theorem od (s:ByteArray):lb (bl s)=s:=by simp [lb,bl]
theorem oz (l:List UInt8):bl (lb l)=l:=by simp [lb,bl]
def encB (s:ByteArray):Value:=.string s
theorem ot (s:ByteArray):encStr (bl s)=encB s:=by simp [encStr,bl,encB]
theorem gl (l:List (List UInt8)):l.map encStr=(l.map lb).map encB:=by
 rw [Qt]
 apply List.map_congr_left
 intro a _
 show encStr a=encB (lb a)
 rw [←ot,oz]
theorem rt (l:List ByteArray):l.map encB=(l.map bl).map encStr:=by
 rw [Qt]
 apply List.map_congr_left
 intro a _
 exact (ot a).symm
def sortB (l:List ByteArray):List ByteArray:=((l.map bl).mergeSort leB).map lb
def compB (l:List ByteArray):List ByteArray:=(Lib.compact (l.map bl)).map lb
theorem jG (l:List ByteArray):(sortB l).length=l.length:=by simp [sortB]
theorem mD {α:Type} [Inhabited α] {enc:α→Value} {w:World} {e g n:Nat} {cur:Array Value} {fz:Nat×Nat} {ss:List α} (hb:w.heap[g]?=some (.cells cur e fz)) (hl:ss.length=n) (ht:cur.toList.take (n*1)=ss.map enc)
  (hz:fz.1=fz.2∨cur.size≤fz.1):Go.Sort.Holds enc w g 0 ss.toArray:=by
 intro j hj
 have hj':j<ss.length:=by simpa using hj
 have h1:(cur.toList.take (n*1))[j]?=(ss.map enc)[j]?:=by rw [ht]
 rw [List.getElem?_take_of_lt (by omega)] at h1
 have hjc:j<cur.size:=by
  rcases Nat.lt_or_ge j cur.size with h|h
  · exact h
  · rw [List.getElem?_eq_none (by simpa using h),List.getElem?_map,Zm hj'] at h1
    simp at h1
 refine ⟨?_,?_⟩
 · simp only [World.cell?,hb,Ql]
   simp only [Option.isSome_none,Bool.false_eq_true,Qe]
   rw [←Array.getElem?_toList,h1]
   simp [hj']
 · obtain ⟨lo,hi⟩:=fz
   simp only [World.frozen?,hb]
   simp only at hz
   have:¬ (lo≤0+j∧0+j<hi):=by omega
   simpa using this
theorem AL {α:Type} [Inhabited α] {enc:α→Value} {w:World} {g n:Nat} {os:Array Obj} {cur:Array Value} {e:Nat} {fr:Nat×Nat} (d:Array α) (hb:w.heap[g]?=some (.cells cur e fr)) :
  (grow (putRow enc (Sort.ahead w n) g 0 d) os).heap[g]?=some (.cells (putCells enc 0 d cur) e fr):=by
 have hg:g<w.heap.size:=(Array.getElem?_eq_some_iff.1 hb).1
 rw [heap_grow_old _ _ (by simpa using hg)]
 simp [putRow,mapBlock,Sort.ahead,Array.getElem?_modify,hb,onCells]
theorem tD {α:Type} [Inhabited α] {enc:α→Value} {w:World} {g n:Nat} {os:Array Obj} (d:Array α) (k:Nat) (hk:k<w.heap.size) (hne:k≠g) :
  (grow (putRow enc (Sort.ahead w n) g 0 d) os).heap[k]?=w.heap[k]?:=by
 rw [heap_grow_old _ _ (by simpa using hk)]
 have:g≠k:=fun e=>hne e.symm
 simp [putRow,mapBlock,Sort.ahead,Array.getElem?_modify,this]
theorem zi {α:Type} [Inhabited α] {enc:α→Value} (cur:Array Value) (ts us:List α) (h:(ts++us).length≤cur.size):(putCells enc 0 (ts++us).toArray cur).toList.take ts.length=ts.map enc:=by
 apply List.ext_getElem?
 intro j
 by_cases hj:j<ts.length
 · rw [List.getElem?_take_of_lt hj,Array.getElem?_toList]
   have h2:ts.length+us.length≤cur.size:=by simpa using h
   simp [putCells,hj,show j<cur.size by omega,show j<ts.length+us.length by omega]
 · rw [List.getElem?_take_eq_none aa,List.getElem?_eq_none (by simp;omega)]
theorem Gam.putRow {α:Type} [Inhabited α] {enc:α→Value} {av bor:List Nat} {w0 w:World} {loc loc':List Res} {X:World→Prop} {e g cap n n' q:Nat} {xs:List Value} {cur:Array Value} {fz:Nat×Nat} {os:Array Obj} {ts us:List α}
  (G:Gam av bor w0 loc X w) (hb:w.heap[g]?=some (.cells cur e fz)) (hcm:cap≤maxLen) (hcs:cur.size=cap) (hz:fz.1=fz.2∨cur.size≤fz.1) (hle:n'≤cap) (htl:ts.length=n') (hus:(ts++us).length≤cap)
  (hA:At (orow e 1 (.slice (some ⟨g,0,none⟩) n cap) n xs) (orow e 1 (.slice (some ⟨g,0,none⟩) n' cap) n' (ts.map enc)) loc loc') :
  Gam av bor w0 loc' X (grow (Go.Sort.putRow enc (Sort.ahead w q) g 0 (ts++us).toArray) os):=by
 have hg:g<w.heap.size:=(Array.getElem?_eq_some_iff.1 hb).1
 refine G.swap hA rfl rfl rfl (by simp) (fun i hi hne=>tD _ i hi ?_) (by simp [orow,Value.ownBlock]) (fun i hi=>?_) (dU ?_)
 · simpa [orow,Value.ownBlock] using hne
 · simp only [orow,Value.ownBlock,Option.toList_some,List.mem_singleton] at hi ⊢
   subst hi
   exact ⟨by simp;omega,.inl rfl⟩
 · refine ⟨by simp [htl],.inr ⟨g,cap,_,fz,rfl,AL _ hb,hle,hcm,by simp [putCells,hcs],?_,by simpa [putCells] using hz⟩⟩
   rw [Nat.mul_one,←htl]
   exact zi cur ts us aa
section
variable {P:Program} {f:FuncId}
structure SortC {α:Type} [Inhabited α] (P:Program) (f:FuncId) (enc:α→Value) (srt:List α→List α):Prop where
 some_:∀ (blk off cap:Nat) (ss:List α) (w:World),Go.Sort.Holds enc w blk off ss.toArray→blk<w.heap.size→ss.length<4611686018427387904 →
  Calls P f #[.slice (some ⟨blk,off,none⟩) ss.length cap] w fun e w'=>e=.returned (.tuple #[])∧∃ n os,w'=grow (Go.Sort.putRow enc (Sort.ahead w n) blk off (srt ss).toArray) os
 none_:∀ (p:Option Addr) (cap:Nat) (w:World),Calls P f #[.slice p 0 cap] w fun e w'=>e=.returned (.tuple #[])∧w'=w
 len:∀ ss,(srt ss).length=ss.length
theorem SortC.ct {α:Type} [Inhabited α] {enc:α→Value} {srt:List α→List α} (h:SortC P f enc srt) {e n:Nat} {v:Value} {ss:List α} (hn:n≤1000000000) :
  Ct P f #[v] [orow e 1 v n (ss.map enc)] (fun _=>True) fun u R _=>u=.tuple #[]∧R=[orow e 1 v n ((srt ss).map enc)]:=Ct.mk fun w av G=>by
 have ho:ORow w e 1 v n (ss.map enc):=(G.here _ ar).now
 have hl:ss.length=n:=by simpa using ho.1
 rcases ho.2 with ⟨rfl,rfl⟩|⟨g,cap,cur,fz,rfl,hg,hnc,hcm,hcs,htake,hfz⟩
 · have hss:ss=[]:=List.eq_nil_of_length_eq_zero hl
   have hss':srt ss=[]:=List.eq_nil_of_length_eq_zero (by rw [h.len,hl])
   refine (h.none_ none 0 w).mono fun e w' ⟨h1,h2⟩=>⟨_,_,fun _=>True,h1,⟨rfl,rfl⟩,?_⟩
   subst h2
   rw [hss']
   rw [hss] at G
   exact G
 · have hgl:g<w.heap.size:=(Array.getElem?_eq_some_iff.1 hg).1
   subst hl
   have h62:ss.length<4611686018427387904:=by omega
   refine (h.some_ g 0 cap ss w (mD hg rfl htake hfz) hgl h62).mono fun e w' ⟨h1,n,os,h2⟩=>⟨_,_,fun _=>True,h1,⟨rfl,rfl⟩,?_⟩
   subst h2
   have:=G.putRow (us:=[]) (ts:=srt ss) (q:=n) (os:=os) (enc:=enc) hg hcm aa hfz hnc (h.len ss) (by simp [h.len];omega) (At.here [])
   rw [Z9] at this
   exact this
structure CompC {α:Type} [Inhabited α] (P:Program) (f:FuncId) (enc:α→Value) (z:α) (cmp:List α→List α):Prop where
 some_:∀ (blk off cap:Nat) (ss:List α) (w:World),Go.Sort.Holds enc w blk off ss.toArray→ss.length≤9223372036854775807→ss.length≤cap →
  Calls P f #[.slice (some ⟨blk,off,none⟩) ss.length cap] w fun e w'=>e=.returned (.slice (some ⟨blk,off,none⟩) (cmp ss).length cap)∧∃ q,w'=Go.Sort.putRow enc (Sort.ahead w q) blk off (cmp ss++List.replicate (ss.length-(cmp ss).length) z).toArray
 none_:∀ (a:Option Addr) (cap:Nat) (w:World),Calls P f #[.slice a 0 cap] w fun e w'=>e=.returned (.slice a 0 cap)∧w'=w
 len:∀ ss,(cmp ss).length≤ss.length
theorem CompC.ct {α:Type} [Inhabited α] {enc:α→Value} {z:α} {cmp:List α→List α} (h:CompC P f enc z cmp) {e n:Nat} {v:Value} {ss:List α} :
  Ct P f #[v] [orow e 1 v n (ss.map enc)] (fun _=>True) fun u R _=>∃ A c,u=.slice A (cmp ss).length c∧R=[orow e 1 u (cmp ss).length ((cmp ss).map enc)]:=Ct.mk fun w av G=>by
 have ho:ORow w e 1 v n (ss.map enc):=(G.here _ ar).now
 have hl:ss.length=n:=by simpa using ho.1
 rcases ho.2 with ⟨rfl,rfl⟩|⟨g,cap,cur,fz,rfl,hg,hnc,hcm,hcs,htake,hfz⟩
 · have hss:ss=[]:=List.eq_nil_of_length_eq_zero hl
   have hss':cmp ss=[]:=List.eq_nil_of_length_eq_zero (by have:=h.len ss;omega)
   refine (h.none_ none 0 w).mono fun e w' ⟨h1,h2⟩=>⟨_,_,fun _=>True,h1,⟨none,0,by rw [hss'];rfl,rfl⟩,?_⟩
   subst h2
   rw [hss']
   rw [hss] at G
   exact G
 · subst hl
   have h62:ss.length≤9223372036854775807:=by simp only [maxLen] at hcm;omega
   have hlen:=h.len ss
   refine (h.some_ g 0 cap ss w (mD hg rfl htake hfz) h62 hnc).mono fun e w' ⟨h1,q,h2⟩=>⟨_,_,fun _=>True,h1,⟨_,_,rfl,rfl⟩,?_⟩
   subst h2
   have:=G.putRow (us:=List.replicate (ss.length-(cmp ss).length) z) (ts:=cmp ss) (n':=(cmp ss).length) (q:=q) (os:=#[]) (enc:=enc) hg hcm aa hfz aa rfl (by simp;omega) (At.here [])
   rw [grow_empty] at this
   exact this
end
end Go.Proofs.YtoefdofbekihdaaGreatDoor.Sy
set_option maxHeartbeats 16000000
namespace Go.Proofs.YtoefdofbekihdaaGreatDoor.Sy
open Go Go.RowKit Go.Sort Go.Proofs Go.MapKept Go.Maps Go.Shelf
theorem Gam.more {av bor:List Nat} {w0 w w':World} {loc:List Res} {X:World→Prop} {r:Res} (G:Gam av bor w0 loc X w) (hB:Below w.heap.size w w') (hr:Holds r w') (hn:r.fp.Nodup) (hf:∀ i∈r.fp,w.heap.size≤i∧i<w'.heap.size) :
  Gam av bor w0 (r::loc) X w':=by
 have G0:Gam av bor w0 (⟨[],fun _=>True⟩::loc) X w:=by
  have e1:fps ((⟨[],fun _=>True⟩:Res)::loc)=fps loc:=by simp [fps]
  refine ⟨G.fr,G.avb,by rw [e1];exact G.nodup,by rw [e1];exact G.own,fun x hx=>?_,by rw [e1];exact G.keep⟩
  rcases List.mem_cons.1 hx with rfl|hx
  · exact fun _ _=>trivial
  · exact G.here x hx
 refine G0.swap (At.here loc) hB.os hB.tape hB.output hB.size (fun i hi _=>hB.block i hi) hn (fun i hi=>⟨(hf i hi).2,.inr (hf i hi).1⟩) hr
theorem gi {w:World} {base e size n:Nat} {v:Value} {xs:List Value} (h:w.ownsRow base e size v n xs):ORow w e size v n xs:=by
 refine ⟨h.1,?_⟩
 rcases h.2 with h0|⟨g,cap,cur,hv,_,hg,h1,h2,h3,h4⟩
 · exact .inl h0
 · exact .inr ⟨g,cap,cur,(0,0),hv,hg,h1,h2,h3,h4,.inl rfl⟩
theorem pp {w:World} {base e size n:Nat} {v:Value} {xs:List Value} (h:w.ownsRow base e size v n xs):(orow e size v n xs).fp.Nodup∧(∀ i∈(orow e size v n xs).fp,base≤i∧i<w.heap.size)∧∃ A c,v=.slice A n c:=by
 rcases h.2 with ⟨rfl,rfl⟩|⟨g,cap,cur,rfl,hb,hg,h1,h2,h3,h4⟩
 · exact ⟨by simp [orow,Value.ownBlock],fun i hi=>by simp [orow,Value.ownBlock] at hi,none,0,rfl⟩
 · refine ⟨by simp [orow,Value.ownBlock],fun i hi=>?_,_,_,rfl⟩
   simp only [orow,Value.ownBlock,Option.toList_some,List.mem_singleton] at hi
   subst hi
   exact ⟨hb,(Array.getElem?_eq_some_iff.1 hg).1⟩
def rTriv:Value→Option (DataW Unit×List MemPlace):=fun _=>some (.nil,[])
theorem px {κ:Type} [KeyT κ] {w:World} {q:Nat} {l:List (κ×Value)} {es:Array MapEntry} (hl:es.toList.map (fun e=>(e.key,e.val))=l.map fun p=>(KeyT.enc p.1,p.2)):es.size=l.length:=by
 have:=congrArg List.length hl
 simpa using this
theorem pm {P:Program} {K:Nat} (hk:P.underlying K=some .string) {w:World} {q:Nat} {l:List (ByteArray×Value)} (h:MapAt w q l) (hs:∀ p∈l,p.1.size≤maxLen) (hlen:l.length≤maxLen) :
  ∃ D0:DataW Unit,w.ownsMap P K rTriv q l.length D0∧(strKeys D0).Perm (l.map fun p=>bl p.1)∧Maps.size D0=l.length:=by
 obtain ⟨es,clock,hb,hst,hl⟩:=h
 have hz:=px (w:=w) (q:=q) hl
 have hkey:∀ x∈es.toList,∃ s:ByteArray,x.key=.string s∧s.size≤maxLen:=by
  intro x hx
  have h1:(x.key,x.val)∈l.map fun p=>(KeyT.enc p.1,p.2):=by rw [←hl];exact List.mem_map.2 ⟨x,hx,rfl⟩
  obtain ⟨p,hp,he⟩:=List.mem_map.1 h1
  refine ⟨p.1,?_,hs p hp⟩
  have:=congrArg Prod.fst he
  exact this.symm
 have hrd:∀ x∈es.toList,∃ s:ByteArray,x.key=.string s∧WideElems.rd P K rTriv x=some (.string (bl s),.nil):=by
  intro x hx
  obtain ⟨s,h1,h2⟩:=hkey x hx
  refine ⟨s,h1,?_⟩
  have h3:keyOf P K x.key=some (.string (bl s)):=by rw [h1];simp [keyOf,hk,mapKey,h2,bl]
  simp [WideElems.rd,h3,rTriv]
 refine ⟨_,⟨es,clock,hb,⟨by omega,hst,fun x hx=>?_⟩,by omega,rfl⟩,?_,?_⟩
 · obtain ⟨s,_,h2⟩:=hrd x hx
   exact ⟨_,h2⟩
 · have h1:=(WideShapes.sorted_perm (es.toList.map (WideElems.rg P K rTriv))).map fun p=>strOf p.1
   refine h1.trans ?_
   have h2:(es.toList.map (WideElems.rg P K rTriv)).map (fun p=>strOf p.1)=es.toList.map fun x=>match x.key with|.string s=>bl s|_=>[]:=by
    rw [Qt]
    refine List.map_congr_left fun x hx=>?_
    obtain ⟨s,h3,h4⟩:=hrd x hx
    simp [WideElems.rg,h4,h3,strOf]
   have h5:(es.toList.map fun x=>match x.key with|.string s=>bl s|_=>[])=l.map fun p=>bl p.1:=by
    have h6:=congrArg (List.map fun (p:Value×Value)=>match p.1 with|.string s=>bl s|_=>[]) hl
    rw [Qt,Qt] at h6
    exact h6
   rw [h2,h5]
 · show ((es.toList.map (WideElems.rg P K rTriv)).foldr DataW.insert []).length=l.length
   rw [length_sorted]
   simp [hz]
theorem po {P:Program} {K:Nat} (hk:P.underlying K=some (.int .i64)) {w:World} {q:Nat} {l:List (Int×Value)} (h:MapAt w q l) (hs:∀ p∈l,(Lit.int .i64 p.1).wf=true) (hlen:l.length≤maxLen) :
  ∃ D0:DataW Unit,w.ownsMap P K rTriv q l.length D0∧(intKeys D0).Perm (l.map fun p=>p.1)∧Maps.size D0=l.length:=by
 obtain ⟨es,clock,hb,hst,hl⟩:=h
 have hz:=px (w:=w) (q:=q) hl
 have hkey:∀ x∈es.toList,∃ s:Int,x.key=.int .i64 s∧(Lit.int .i64 s).wf=true:=by
  intro x hx
  have h1:(x.key,x.val)∈l.map fun p=>(KeyT.enc p.1,p.2):=by rw [←hl];exact List.mem_map.2 ⟨x,hx,rfl⟩
  obtain ⟨p,hp,he⟩:=List.mem_map.1 h1
  refine ⟨p.1,?_,hs p hp⟩
  have:=congrArg Prod.fst he
  exact this.symm
 have hrd:∀ x∈es.toList,∃ s:Int,x.key=.int .i64 s∧WideElems.rd P K rTriv x=some (.int .i64 s,.nil):=by
  intro x hx
  obtain ⟨s,h1,h2⟩:=hkey x hx
  refine ⟨s,h1,?_⟩
  have h3:keyOf P K x.key=some (.int .i64 s):=by rw [h1];simp [keyOf,hk,mapKey,h2]
  simp [WideElems.rd,h3,rTriv]
 refine ⟨_,⟨es,clock,hb,⟨by omega,hst,fun x hx=>?_⟩,by omega,rfl⟩,?_,?_⟩
 · obtain ⟨s,_,h2⟩:=hrd x hx
   exact ⟨_,h2⟩
 · have h1:=(WideShapes.sorted_perm (es.toList.map (WideElems.rg P K rTriv))).map fun p=>Go.intOf p.1
   refine h1.trans ?_
   have h2:(es.toList.map (WideElems.rg P K rTriv)).map (fun p=>Go.intOf p.1)=es.toList.map fun x=>match x.key with|.int _ s=>s|_=>0:=by
    rw [Qt]
    refine List.map_congr_left fun x hx=>?_
    obtain ⟨s,h3,h4⟩:=hrd x hx
    simp [WideElems.rg,h4,h3,Go.intOf]
   have h5:(es.toList.map fun x=>match x.key with|.int _ s=>s|_=>0)=l.map fun p=>p.1:=by
    have h6:=congrArg (List.map fun (p:Value×Value)=>match p.1 with|.int _ s=>s|_=>0) hl
    rw [Qt,Qt] at h6
    exact h6
   rw [h2,h5]
 · show ((es.toList.map (WideElems.rg P K rTriv)).foldr DataW.insert []).length=l.length
   rw [length_sorted]
   simp [hz]
section
variable {P:Program}
structure KeysC (P:Program) (fk g M:Nat):Prop where
 keys:∀ (mb:Option Nat) (W:World),Calls P fk #[.map mb] W fun e w'=>e=.returned (.func (.func g) #[] #[.pointer (some ⟨W.heap.size,0,none⟩)])∧w'=W.alloc (.cells #[.map mb] M)
structure SortedSC (P:Program) (fs g K:Nat):Prop where
 key:P.underlying K=some .string
 sorted:∀ (w:World) (Bm q nn:Nat) (D0:DataW Unit),Bm<w.heap.size→w.cell? ⟨Bm,0,none⟩=some (.map (some q))→w.ownsMap P K rTriv q nn D0→Maps.size D0≤maxLen→Maps.size D0*16≤140737488355328 →
  Calls P fs #[.func (.func g) #[] #[.pointer (some ⟨Bm,0,none⟩)]] w fun e w'=>∃ (v:Value) (ss:List (List UInt8)),e=.returned v∧ss.Perm (strKeys D0) ∧
   w'.ownsRow w.heap.size K 1 v ss.length ((ss.mergeSort (fun x y=>decide (x≤y))).map encStr)∧(v=.slice none 0 0↔ss=[])∧Below w.heap.size w w'
structure SortedIC (P:Program) (fs g K:Nat):Prop where
 key:P.underlying K=some (.int .i64)
 sorted:∀ (w:World) (Bm q nn:Nat) (D0:DataW Unit),Bm<w.heap.size→w.cell? ⟨Bm,0,none⟩=some (.map (some q))→w.ownsMap P K rTriv q nn D0→Maps.size D0≤maxLen→Maps.size D0*8≤140737488355328 →
  Calls P fs #[.func (.func g) #[] #[.pointer (some ⟨Bm,0,none⟩)]] w fun e w'=>∃ (v:Value) (ss:List Int),e=.returned v∧ss.Perm (intKeys D0) ∧
   w'.ownsRow w.heap.size K 1 v ss.length ((ss.mergeSort (fun x y=>decide (x≤y))).map encZ)∧(v=.slice none 0 0↔ss=[])∧Below w.heap.size w w'
theorem KeysC.ct {fk g M:Nat} (h:KeysC P fk g M) (mb:Option Nat):Ct P fk #[.map mb] [] (fun _=>True) fun u R _=>∃ b,u=.func (.func g) #[] #[.pointer (some ⟨b,0,none⟩)]∧R=[cel b M [.map mb]]:=Ct.mk fun w av G=>by
 refine (h.keys mb w).mono fun e w' ⟨h1,h2⟩=>⟨_,_,fun _=>True,h1,⟨_,rfl,rfl⟩,?_⟩
 subst h2
 exact G.new _ _ fun _ h=>h
def sortI (l:List Int):List Int:=l.mergeSort leI
theorem SortedSC.ct {fs g M K:Nat} (h:SortedSC P fs g K) (b q:Nat) (l:List (ByteArray×Value)) (hs:∀ p∈l,p.1.size≤maxLen) (hl:l.length≤1000000) :
  Ct P fs #[.func (.func g) #[] #[.pointer (some ⟨b,0,none⟩)]] [cel b M [.map (some q)],mapr q l] (fun _=>True)
   fun u R _=>∃ A c,u=.slice A l.length c∧R=[orow K 1 u l.length ((sortB (l.map (·.1))).map encB),cel b M [.map (some q)],mapr q l]:=Ct.mk fun w av G=>by
 have hb:w.heap[b]?=some (.cells #[.map (some q)] M (0,0)):=(G.here (cel b M [.map (some q)]) ar).now
 have hm:MapAt w q l:=(G.here (mapr q l) (ZS _ ar)).now
 obtain ⟨D0,hown,hperm,hsz⟩:=pm h.key hm hs (by simp only [maxLen];omega)
 have hbl:b<w.heap.size:=(Array.getElem?_eq_some_iff.1 hb).1
 have hc:w.cell? ⟨b,0,none⟩=some (.map (some q)):=by simp [World.cell?,hb]
 refine (h.sorted w b q l.length D0 hbl hc hown (by rw [hsz];simp only [maxLen];omega) (by rw [hsz];omega)).mono fun e w' ⟨v,ss,he,hS,hrow,hnil,hB⟩=>?_
 have hlen:ss.length=l.length:=by rw [(hS.trans hperm).length_eq];simp
 have hsort:(ss.mergeSort fun x y=>decide (x≤y)).map encStr=(sortB (l.map (·.1))).map encB:=by
  have:=mergeSort_of_perm (hS.trans hperm)
  rw [show (ss.mergeSort fun x y=>decide (x≤y))=ss.mergeSort leB from rfl,this,gl,sortB]
  simp only [Qt]
  rfl
 rw [hsort,hlen] at hrow
 obtain ⟨f1,f2,A,c,rfl⟩:=pp hrow
 exact ⟨_,_,fun _=>True,he,⟨A,c,rfl,rfl⟩,(G.more hB (dU (gi hrow)) f1 f2).imp fun _ _=>trivial⟩
theorem SortedIC.ct {fs g M K:Nat} (h:SortedIC P fs g K) (b q:Nat) (l:List (Int×Value)) (hs:∀ p∈l,(Lit.int .i64 p.1).wf=true) (hl:l.length≤1000000) :
  Ct P fs #[.func (.func g) #[] #[.pointer (some ⟨b,0,none⟩)]] [cel b M [.map (some q)],mapr q l] (fun _=>True)
   fun u R _=>∃ A c,u=.slice A l.length c∧R=[orow K 1 u l.length ((sortI (l.map (·.1))).map encZ),cel b M [.map (some q)],mapr q l]:=Ct.mk fun w av G=>by
 have hb:w.heap[b]?=some (.cells #[.map (some q)] M (0,0)):=(G.here (cel b M [.map (some q)]) ar).now
 have hm:MapAt w q l:=(G.here (mapr q l) (ZS _ ar)).now
 obtain ⟨D0,hown,hperm,hsz⟩:=po h.key hm hs (by simp only [maxLen];omega)
 have hbl:b<w.heap.size:=(Array.getElem?_eq_some_iff.1 hb).1
 have hc:w.cell? ⟨b,0,none⟩=some (.map (some q)):=by simp [World.cell?,hb]
 refine (h.sorted w b q l.length D0 hbl hc hown (by rw [hsz];simp only [maxLen];omega) (by rw [hsz];omega)).mono fun e w' ⟨v,ss,he,hS,hrow,hnil,hB⟩=>?_
 have hlen:ss.length=l.length:=by rw [(hS.trans hperm).length_eq];simp
 have hsort:(ss.mergeSort fun x y=>decide (x≤y)).map encZ=(sortI (l.map (·.1))).map encZ:=by
  have:=mergeSort_of_perm_i (hS.trans hperm)
  rw [show (ss.mergeSort fun x y=>decide (x≤y))=ss.mergeSort leI from rfl,this,sortI]
 rw [hsort,hlen] at hrow
 obtain ⟨f1,f2,A,c,rfl⟩:=pp hrow
 exact ⟨_,_,fun _=>True,he,⟨A,c,rfl,rfl⟩,(G.more hB (dU (gi hrow)) f1 f2).imp fun _ _=>trivial⟩
end
end Go.Proofs.YtoefdofbekihdaaGreatDoor.Sy
namespace Go.Proofs
open Go.Shelf
def Tryz.keys_map_string_int_string_int_ren:Go.Shelf.Ren:=⟨fun|7=>74|10=>144|n=>n,fun|23=>115|26=>9|3=>3|28=>87|0=>0|27=>86|33=>131|4=>4|n=>n,fun|n=>n⟩
theorem Tryz.keys_map_string_int_string_int:Go.Proofs.SlLaysZ.n7 Tryz.prog Tryz.keys_map_string_int_string_int_ren:={
 mixed:=by kernel_rfl
 f7:=⟨Tryz.f74.name,by decide,Tryz.func74.trans (congrArg some (by kernel_rfl))⟩
 f10:=⟨Tryz.f144.name,by decide,Tryz.func144.trans (congrArg some (by kernel_rfl))⟩
 t0:=Tryz.underlying0
 a0:=Tryz.isAgg0
 z0:=Tryz.sizeOf0
 v0:=Tryz.zeroValue0
 t4:=Tryz.underlying4
 a4:=Tryz.isAgg4
 z4:=Tryz.sizeOf4
 v4:=Tryz.zeroValue4
 t23:=Tryz.underlying115
 a23:=Tryz.isAgg115
 z23:=Tryz.sizeOf115
 v23:=Tryz.zeroValue115
 t26:=Tryz.underlying9
 a26:=Tryz.isAgg9
 z26:=Tryz.sizeOf9
 v26:=Tryz.zeroValue9
 t27:=Tryz.underlying86
 a27:=Tryz.isAgg86
 z27:=Tryz.sizeOf86
 v27:=Tryz.zeroValue86
 t28:=Tryz.underlying87
 a28:=Tryz.isAgg87
 z28:=Tryz.sizeOf87
 v28:=Tryz.zeroValue87
 t33:=Tryz.underlying131
 a33:=Tryz.isAgg131
 z33:=Tryz.sizeOf131
 v33:=Tryz.zeroValue131 }
def Tryz.sortedS_ren:Go.Shelf.Ren:=⟨fun|6=>31|8=>61|9=>26|11=>119|13=>51|12=>50|23=>103|24=>104|14=>94|15=>95|16=>96|17=>97|18=>98|19=>99|20=>100|21=>101|22=>102|25=>158|26=>159|27=>160|28=>161|29=>162|30=>163|31=>226|n=>n,fun|26=>9|28=>87|24=>28|0=>0|3=>3|37=>112|48=>145|50=>160|4=>4|40=>166|39=>165|45=>103|5=>5|9=>9|51=>209|55=>213|57=>238|58=>239|33=>131|n=>n,fun|n=>n⟩
theorem Tryz.sortedS:Go.Proofs.SlLaysZ.n6 Tryz.prog Tryz.sortedS_ren:={
 mixed:=by kernel_rfl
 f6:=⟨Tryz.f31.name,by decide,Tryz.func31.trans (congrArg some (by kernel_rfl))⟩
 f8:=⟨Tryz.f61.name,by decide,Tryz.func61.trans (congrArg some (by kernel_rfl))⟩
 f11:=⟨Tryz.f119.name,by decide,Tryz.func119.trans (congrArg some (by kernel_rfl))⟩
 t0:=Tryz.underlying0
 a0:=Tryz.isAgg0
 z0:=Tryz.sizeOf0
 v0:=Tryz.zeroValue0
 t24:=Tryz.underlying28
 a24:=Tryz.isAgg28
 z24:=Tryz.sizeOf28
 v24:=Tryz.zeroValue28
 t26:=Tryz.underlying9
 a26:=Tryz.isAgg9
 z26:=Tryz.sizeOf9
 v26:=Tryz.zeroValue9
 t28:=Tryz.underlying87
 a28:=Tryz.isAgg87
 z28:=Tryz.sizeOf87
 v28:=Tryz.zeroValue87
 i26:=by kernel_rfl }
def Tryz.sortS_ren:Go.Shelf.Ren:=⟨fun|6=>26|8=>51|9=>50|19=>103|20=>104|21=>94|22=>95|23=>96|24=>97|25=>98|26=>99|27=>100|28=>101|29=>102|36=>158|31=>159|32=>160|37=>161|38=>162|39=>163|41=>226|n=>n,fun|27=>28|29=>9|3=>3|32=>112|26=>28|0=>0|44=>145|46=>160|4=>4|36=>166|35=>165|41=>103|5=>5|9=>9|53=>209|57=>213|63=>238|64=>239|n=>n,fun|n=>n⟩
theorem Tryz.sortS:Go.Proofs.SlLaysM.n6 Tryz.prog Tryz.sortS_ren:={
 mixed:=by kernel_rfl
 f6:=⟨Tryz.f26.name,by decide,Tryz.func26.trans (congrArg some (by kernel_rfl))⟩
 f8:=Tryz.func51.trans (congrArg some (by kernel_rfl))
 f9:=⟨Tryz.f50.name,by decide,Tryz.func50.trans (congrArg some (by kernel_rfl))⟩
 f19:=Tryz.func103.trans (congrArg some (by kernel_rfl))
 f20:=Tryz.func104.trans (congrArg some (by kernel_rfl))
 f21:=⟨Tryz.f94.name,by decide,Tryz.func94.trans (congrArg some (by kernel_rfl))⟩
 f22:=⟨Tryz.f95.name,by decide,Tryz.func95.trans (congrArg some (by kernel_rfl))⟩
 f23:=⟨Tryz.f96.name,by decide,Tryz.func96.trans (congrArg some (by kernel_rfl))⟩
 f24:=⟨Tryz.f97.name,by decide,Tryz.func97.trans (congrArg some (by kernel_rfl))⟩
 f25:=⟨Tryz.f98.name,by decide,Tryz.func98.trans (congrArg some (by kernel_rfl))⟩
 f26:=⟨Tryz.f99.name,by decide,Tryz.func99.trans (congrArg some (by kernel_rfl))⟩
 f27:=⟨Tryz.f100.name,by decide,Tryz.func100.trans (congrArg some (by kernel_rfl))⟩
 f28:=⟨Tryz.f101.name,by decide,Tryz.func101.trans (congrArg some (by kernel_rfl))⟩
 f29:=⟨Tryz.f102.name,by decide,Tryz.func102.trans (congrArg some (by kernel_rfl))⟩
 f31:=Tryz.func159.trans (congrArg some (by kernel_rfl))
 f32:=Tryz.func160.trans (congrArg some (by kernel_rfl))
 f36:=⟨Tryz.f158.name,by decide,Tryz.func158.trans (congrArg some (by kernel_rfl))⟩
 f37:=⟨Tryz.f161.name,by decide,Tryz.func161.trans (congrArg some (by kernel_rfl))⟩
 f38:=⟨Tryz.f162.name,by decide,Tryz.func162.trans (congrArg some (by kernel_rfl))⟩
 f39:=⟨Tryz.f163.name,by decide,Tryz.func163.trans (congrArg some (by kernel_rfl))⟩
 f41:=⟨Tryz.f226.name,by decide,Tryz.func226.trans (congrArg some (by kernel_rfl))⟩
 t0:=Tryz.underlying0
 a0:=Tryz.isAgg0
 z0:=Tryz.sizeOf0
 v0:=Tryz.zeroValue0
 t3:=Tryz.underlying3
 a3:=Tryz.isAgg3
 z3:=Tryz.sizeOf3
 v3:=Tryz.zeroValue3
 t4:=Tryz.underlying4
 a4:=Tryz.isAgg4
 z4:=Tryz.sizeOf4
 v4:=Tryz.zeroValue4
 t5:=Tryz.underlying5
 a5:=Tryz.isAgg5
 z5:=Tryz.sizeOf5
 v5:=Tryz.zeroValue5
 t9:=Tryz.underlying9
 a9:=Tryz.isAgg9
 z9:=Tryz.sizeOf9
 v9:=Tryz.zeroValue9
 t26:=Tryz.underlying28
 a26:=Tryz.isAgg28
 z26:=Tryz.sizeOf28
 v26:=Tryz.zeroValue28
 t27:=Tryz.underlying28
 a27:=Tryz.isAgg28
 z27:=Tryz.sizeOf28
 v27:=Tryz.zeroValue28
 t29:=Tryz.underlying9
 a29:=Tryz.isAgg9
 z29:=Tryz.sizeOf9
 v29:=Tryz.zeroValue9
 t32:=Tryz.underlying112
 a32:=Tryz.isAgg112
 z32:=Tryz.sizeOf112
 v32:=Tryz.zeroValue112
 t35:=Tryz.underlying165
 a35:=Tryz.isAgg165
 z35:=Tryz.sizeOf165
 v35:=Tryz.zeroValue165
 t36:=Tryz.underlying166
 a36:=Tryz.isAgg166
 z36:=Tryz.sizeOf166
 v36:=Tryz.zeroValue166
 t41:=Tryz.underlying103
 a41:=Tryz.isAgg103
 z41:=Tryz.sizeOf103
 v41:=Tryz.zeroValue103
 t44:=Tryz.underlying145
 a44:=Tryz.isAgg145
 z44:=Tryz.sizeOf145
 v44:=Tryz.zeroValue145
 t46:=Tryz.underlying160
 a46:=Tryz.isAgg160
 z46:=Tryz.sizeOf160
 v46:=Tryz.zeroValue160
 t53:=Tryz.underlying209
 a53:=Tryz.isAgg209
 z53:=Tryz.sizeOf209
 v53:=Tryz.zeroValue209
 t57:=Tryz.underlying213
 a57:=Tryz.isAgg213
 z57:=Tryz.sizeOf213
 v57:=Tryz.zeroValue213
 t63:=Tryz.underlying238
 a63:=Tryz.isAgg238
 z63:=Tryz.sizeOf238
 v63:=Tryz.zeroValue238
 t64:=Tryz.underlying239
 a64:=Tryz.isAgg239
 z64:=Tryz.sizeOf239
 v64:=Tryz.zeroValue239 }
def Tryz.sortI_ren:Go.Shelf.Ren:=⟨fun|5=>117|8=>51|7=>177|19=>103|20=>104|10=>233|11=>234|12=>235|13=>236|14=>237|15=>238|16=>239|17=>240|18=>241|30=>261|31=>159|32=>160|33=>262|34=>263|35=>228|40=>271|n=>n,fun|23=>22|25=>3|3=>3|32=>112|22=>22|0=>0|44=>145|46=>160|4=>4|36=>166|35=>165|41=>103|5=>5|9=>9|53=>209|57=>213|63=>238|64=>239|n=>n,fun|n=>n⟩
theorem Tryz.sortI:Go.Proofs.SlLaysM.n5 Tryz.prog Tryz.sortI_ren:={
 mixed:=by kernel_rfl
 f5:=⟨Tryz.f117.name,by decide,Tryz.func117.trans (congrArg some (by kernel_rfl))⟩
 f7:=⟨Tryz.f177.name,by decide,Tryz.func177.trans (congrArg some (by kernel_rfl))⟩
 f8:=Tryz.func51.trans (congrArg some (by kernel_rfl))
 f10:=⟨Tryz.f233.name,by decide,Tryz.func233.trans (congrArg some (by kernel_rfl))⟩
 f11:=⟨Tryz.f234.name,by decide,Tryz.func234.trans (congrArg some (by kernel_rfl))⟩
 f12:=⟨Tryz.f235.name,by decide,Tryz.func235.trans (congrArg some (by kernel_rfl))⟩
 f13:=⟨Tryz.f236.name,by decide,Tryz.func236.trans (congrArg some (by kernel_rfl))⟩
 f14:=⟨Tryz.f237.name,by decide,Tryz.func237.trans (congrArg some (by kernel_rfl))⟩
 f15:=⟨Tryz.f238.name,by decide,Tryz.func238.trans (congrArg some (by kernel_rfl))⟩
 f16:=⟨Tryz.f239.name,by decide,Tryz.func239.trans (congrArg some (by kernel_rfl))⟩
 f17:=⟨Tryz.f240.name,by decide,Tryz.func240.trans (congrArg some (by kernel_rfl))⟩
 f18:=⟨Tryz.f241.name,by decide,Tryz.func241.trans (congrArg some (by kernel_rfl))⟩
 f19:=Tryz.func103.trans (congrArg some (by kernel_rfl))
 f20:=Tryz.func104.trans (congrArg some (by kernel_rfl))
 f30:=⟨Tryz.f261.name,by decide,Tryz.func261.trans (congrArg some (by kernel_rfl))⟩
 f31:=Tryz.func159.trans (congrArg some (by kernel_rfl))
 f32:=Tryz.func160.trans (congrArg some (by kernel_rfl))
 f33:=⟨Tryz.f262.name,by decide,Tryz.func262.trans (congrArg some (by kernel_rfl))⟩
 f34:=⟨Tryz.f263.name,by decide,Tryz.func263.trans (congrArg some (by kernel_rfl))⟩
 f35:=⟨Tryz.f228.name,by decide,Tryz.func228.trans (congrArg some (by kernel_rfl))⟩
 f40:=⟨Tryz.f271.name,by decide,Tryz.func271.trans (congrArg some (by kernel_rfl))⟩
 t0:=Tryz.underlying0
 a0:=Tryz.isAgg0
 z0:=Tryz.sizeOf0
 v0:=Tryz.zeroValue0
 t3:=Tryz.underlying3
 a3:=Tryz.isAgg3
 z3:=Tryz.sizeOf3
 v3:=Tryz.zeroValue3
 t4:=Tryz.underlying4
 a4:=Tryz.isAgg4
 z4:=Tryz.sizeOf4
 v4:=Tryz.zeroValue4
 t5:=Tryz.underlying5
 a5:=Tryz.isAgg5
 z5:=Tryz.sizeOf5
 v5:=Tryz.zeroValue5
 t9:=Tryz.underlying9
 a9:=Tryz.isAgg9
 z9:=Tryz.sizeOf9
 v9:=Tryz.zeroValue9
 t22:=Tryz.underlying22
 a22:=Tryz.isAgg22
 z22:=Tryz.sizeOf22
 v22:=Tryz.zeroValue22
 t23:=Tryz.underlying22
 a23:=Tryz.isAgg22
 z23:=Tryz.sizeOf22
 v23:=Tryz.zeroValue22
 t25:=Tryz.underlying3
 a25:=Tryz.isAgg3
 z25:=Tryz.sizeOf3
 v25:=Tryz.zeroValue3
 t32:=Tryz.underlying112
 a32:=Tryz.isAgg112
 z32:=Tryz.sizeOf112
 v32:=Tryz.zeroValue112
 t35:=Tryz.underlying165
 a35:=Tryz.isAgg165
 z35:=Tryz.sizeOf165
 v35:=Tryz.zeroValue165
 t36:=Tryz.underlying166
 a36:=Tryz.isAgg166
 z36:=Tryz.sizeOf166
 v36:=Tryz.zeroValue166
 t41:=Tryz.underlying103
 a41:=Tryz.isAgg103
 z41:=Tryz.sizeOf103
 v41:=Tryz.zeroValue103
 t44:=Tryz.underlying145
 a44:=Tryz.isAgg145
 z44:=Tryz.sizeOf145
 v44:=Tryz.zeroValue145
 t46:=Tryz.underlying160
 a46:=Tryz.isAgg160
 z46:=Tryz.sizeOf160
 v46:=Tryz.zeroValue160
 t53:=Tryz.underlying209
 a53:=Tryz.isAgg209
 z53:=Tryz.sizeOf209
 v53:=Tryz.zeroValue209
 t57:=Tryz.underlying213
 a57:=Tryz.isAgg213
 z57:=Tryz.sizeOf213
 v57:=Tryz.zeroValue213
 t63:=Tryz.underlying238
 a63:=Tryz.isAgg238
 z63:=Tryz.sizeOf238
 v63:=Tryz.zeroValue238
 t64:=Tryz.underlying239
 a64:=Tryz.isAgg239
 z64:=Tryz.sizeOf239
 v64:=Tryz.zeroValue239 }
def Tryz.compS_ren:Go.Shelf.Ren:=⟨fun|194=>27|n=>n,fun|31=>28|9=>9|3=>3|4=>4|0=>0|n=>n,fun|n=>n⟩
theorem Tryz.compS:Go.Proofs.Lays.n194 Tryz.prog Tryz.compS_ren:={
 mixed:=by kernel_rfl
 f194:=Tryz.func27.trans (congrArg some (by kernel_rfl))
 t0:=Tryz.underlying0
 a0:=Tryz.isAgg0
 z0:=Tryz.sizeOf0
 v0:=Tryz.zeroValue0
 t3:=Tryz.underlying3
 a3:=Tryz.isAgg3
 z3:=Tryz.sizeOf3
 v3:=Tryz.zeroValue3
 t4:=Tryz.underlying4
 a4:=Tryz.isAgg4
 z4:=Tryz.sizeOf4
 v4:=Tryz.zeroValue4
 t9:=Tryz.underlying9
 a9:=Tryz.isAgg9
 z9:=Tryz.sizeOf9
 v9:=Tryz.zeroValue9
 t31:=Tryz.underlying28
 a31:=Tryz.isAgg28
 z31:=Tryz.sizeOf28
 v31:=Tryz.zeroValue28 }
end Go.Proofs
namespace Go.Proofs.YtoefdofbekihdaaGreatDoor.Sy
open Go Go.Proofs
instance:TyOne Tryz.prog 3:=⟨ae⟩
instance:TyInt Tryz.prog 3 .i64:=⟨ae⟩
instance:TyZero Tryz.prog 3 (.int .i64 0):=⟨ae⟩
instance:TyOne Tryz.prog 4:=⟨ae⟩
instance:TyZero Tryz.prog 4 (.bool false):=⟨ae⟩
instance:TyOne Tryz.prog 5:=⟨ae⟩
instance:TyInt Tryz.prog 5 .u8:=⟨ae⟩
instance:TyZero Tryz.prog 5 (.int .u8 0):=⟨ae⟩
instance:TyOne Tryz.prog 9:=⟨ae⟩
instance:TyStr Tryz.prog 9:=⟨ae⟩
instance:TyZero Tryz.prog 9 (.string ⟨#[]⟩):=⟨ae⟩
instance:TyOne Tryz.prog 22:=⟨ae⟩
instance:TySl Tryz.prog 22 3 1 8:=⟨ae⟩
instance:TyZero Tryz.prog 22 (.slice none 0 0):=⟨ae⟩
instance:TyOne Tryz.prog 23:=⟨ae⟩
instance:TySl Tryz.prog 23 63 49 568:=⟨ae⟩
instance:TyAgg Tryz.prog 25 2:=⟨ae⟩
instance:TyFld Tryz.prog 25 0 0:=⟨ae⟩
instance:TyFld Tryz.prog 25 1 1:=⟨ae⟩
instance:TyPl Tryz.prog 25 [(0,1),(1,1)]:=⟨ae⟩
instance:TyZero Tryz.prog 25 (.agg #[(.slice none 0 0),(.slice none 0 0)]):=⟨ae⟩
instance:TyAgg Tryz.prog 27 2:=⟨ae⟩
instance:TyFld Tryz.prog 27 0 0:=⟨ae⟩
instance:TyFld Tryz.prog 27 1 1:=⟨ae⟩
instance:TyPl Tryz.prog 27 [(0,1),(1,1)]:=⟨ae⟩
instance:TyZero Tryz.prog 27 (.agg #[(.int .i64 0),(.int .i64 0)]):=⟨ae⟩
instance:TyOne Tryz.prog 28:=⟨ae⟩
instance:TySl Tryz.prog 28 9 1 16:=⟨ae⟩
instance:TySl Tryz.prog 31 36 6 96:=⟨ae⟩
instance:TyOne Tryz.prog 33:=⟨ae⟩
instance:TySl Tryz.prog 33 50 20 264:=⟨ae⟩
instance:TyZero Tryz.prog 33 (.slice none 0 0):=⟨ae⟩
instance:TyOne Tryz.prog 34:=⟨ae⟩
instance:TySl Tryz.prog 34 124 3 24:=⟨ae⟩
instance:TyAgg Tryz.prog 36 6:=⟨ae⟩
instance:TyFld Tryz.prog 36 0 0:=⟨ae⟩
instance:TyFld Tryz.prog 36 1 1:=⟨ae⟩
instance:TyFld Tryz.prog 36 2 2:=⟨ae⟩
instance:TyFld Tryz.prog 36 3 3:=⟨ae⟩
instance:TyFld Tryz.prog 36 4 4:=⟨ae⟩
instance:TyFld Tryz.prog 36 5 5:=⟨ae⟩
instance:TyPl Tryz.prog 36 [(0,1),(1,1),(2,1),(3,1),(4,1),(5,1)]:=⟨ae⟩
instance:TyZero Tryz.prog 36 (.agg #[(.string ⟨#[]⟩),(.slice none 0 0),(.slice none 0 0),(.string ⟨#[]⟩),(.int .i64 0),(.bool false)]):=⟨ae⟩
instance:TyAgg Tryz.prog 45 3:=⟨ae⟩
instance:TyFld Tryz.prog 45 0 0:=⟨ae⟩
instance:TyFld Tryz.prog 45 1 1:=⟨ae⟩
instance:TyFld Tryz.prog 45 2 2:=⟨ae⟩
instance:TyZero Tryz.prog 45 (.agg #[(.string ⟨#[]⟩),(.string ⟨#[]⟩),(.string ⟨#[]⟩)]):=⟨ae⟩
instance:TyOne Tryz.prog 46:=⟨ae⟩
instance:TySl Tryz.prog 46 96 5 64:=⟨ae⟩
instance:TyAgg Tryz.prog 48 2:=⟨ae⟩
instance:TyFld Tryz.prog 48 0 0:=⟨ae⟩
instance:TyFld Tryz.prog 48 1 1:=⟨ae⟩
instance:TyPl Tryz.prog 48 [(0,1),(1,1)]:=⟨ae⟩
instance:TyZero Tryz.prog 48 (.agg #[(.int .i64 0),(.int .i64 0)]):=⟨ae⟩
instance:TyAgg Tryz.prog 50 20:=⟨ae⟩
instance:TyFld Tryz.prog 50 0 0:=⟨ae⟩
instance:TyFld Tryz.prog 50 1 1:=⟨ae⟩
instance:TyFld Tryz.prog 50 2 2:=⟨ae⟩
instance:TyFld Tryz.prog 50 3 3:=⟨ae⟩
instance:TyFld Tryz.prog 50 4 4:=⟨ae⟩
instance:TyFld Tryz.prog 50 5 5:=⟨ae⟩
instance:TyFld Tryz.prog 50 6 6:=⟨ae⟩
instance:TyFld Tryz.prog 50 7 7:=⟨ae⟩
instance:TyFld Tryz.prog 50 8 8:=⟨ae⟩
instance:TyFld Tryz.prog 50 9 9:=⟨ae⟩
instance:TyFld Tryz.prog 50 10 10:=⟨ae⟩
instance:TyFld Tryz.prog 50 11 11:=⟨ae⟩
instance:TyFld Tryz.prog 50 12 14:=⟨ae⟩
instance:TyFld Tryz.prog 50 13 15:=⟨ae⟩
instance:TyFld Tryz.prog 50 14 16:=⟨ae⟩
instance:TyFld Tryz.prog 50 15 17:=⟨ae⟩
instance:TyFld Tryz.prog 50 16 18:=⟨ae⟩
instance:TyPl Tryz.prog 50 [(0,1),(1,1),(2,1),(3,1),(4,1),(5,1),(6,1),(7,1),(8,1),(9,1),(10,1),(11,3),(14,1),(15,1),(16,1),(17,1),(18,2)]:=⟨ae⟩
instance:TyZero Tryz.prog 50 (.agg #[(.string ⟨#[]⟩),(.int .i64 0),(.string ⟨#[]⟩),(.int .i64 0),(.int .i64 0),(.string ⟨#[]⟩),(.string ⟨#[]⟩),(.int .i64 0),(.string ⟨#[]⟩),(.slice none 0 0),(.string ⟨#[]⟩),(.string ⟨#[]⟩),(.string ⟨#[]⟩),(.string ⟨#[]⟩),(.int .i64 0),(.slice none 0 0),(.int .i64 0),(.int .i64 0),(.int .i64 0),(.int .i64 0)]):=⟨ae⟩
instance:TyAgg Tryz.prog 57 9:=⟨ae⟩
instance:TyFld Tryz.prog 57 0 0:=⟨ae⟩
instance:TyFld Tryz.prog 57 1 1:=⟨ae⟩
instance:TyFld Tryz.prog 57 2 2:=⟨ae⟩
instance:TyFld Tryz.prog 57 3 3:=⟨ae⟩
instance:TyFld Tryz.prog 57 4 4:=⟨ae⟩
instance:TyFld Tryz.prog 57 5 5:=⟨ae⟩
instance:TyFld Tryz.prog 57 6 6:=⟨ae⟩
instance:TyFld Tryz.prog 57 7 7:=⟨ae⟩
instance:TyPl Tryz.prog 57 [(0,1),(1,1),(2,1),(3,1),(4,1),(5,1),(6,1),(7,2)]:=⟨ae⟩
instance:TyZero Tryz.prog 57 (.agg #[(.string ⟨#[]⟩),(.int .i64 0),(.string ⟨#[]⟩),(.int .i64 0),(.int .i64 0),(.int .i64 0),(.int .i64 0),(.int .i64 0),(.int .i64 0)]):=⟨ae⟩
instance:TyAgg Tryz.prog 59 7:=⟨ae⟩
instance:TyFld Tryz.prog 59 0 0:=⟨ae⟩
instance:TyFld Tryz.prog 59 1 1:=⟨ae⟩
instance:TyFld Tryz.prog 59 2 2:=⟨ae⟩
instance:TyFld Tryz.prog 59 3 3:=⟨ae⟩
instance:TyFld Tryz.prog 59 4 4:=⟨ae⟩
instance:TyFld Tryz.prog 59 5 5:=⟨ae⟩
instance:TyPl Tryz.prog 59 [(0,1),(1,1),(2,1),(3,1),(4,1),(5,2)]:=⟨ae⟩
instance:TyZero Tryz.prog 59 (.agg #[(.int .i64 0),(.string ⟨#[]⟩),(.int .i64 0),(.string ⟨#[]⟩),(.int .i64 0),(.int .i64 0),(.int .i64 0)]):=⟨ae⟩
instance:TyAgg Tryz.prog 61 12:=⟨ae⟩
instance:TyFld Tryz.prog 61 0 0:=⟨ae⟩
instance:TyFld Tryz.prog 61 1 1:=⟨ae⟩
instance:TyFld Tryz.prog 61 2 2:=⟨ae⟩
instance:TyFld Tryz.prog 61 3 3:=⟨ae⟩
instance:TyFld Tryz.prog 61 4 4:=⟨ae⟩
instance:TyFld Tryz.prog 61 5 5:=⟨ae⟩
instance:TyFld Tryz.prog 61 6 6:=⟨ae⟩
instance:TyFld Tryz.prog 61 7 7:=⟨ae⟩
instance:TyFld Tryz.prog 61 8 8:=⟨ae⟩
instance:TyFld Tryz.prog 61 9 9:=⟨ae⟩
instance:TyFld Tryz.prog 61 10 10:=⟨ae⟩
instance:TyPl Tryz.prog 61 [(0,1),(1,1),(2,1),(3,1),(4,1),(5,1),(6,1),(7,1),(8,1),(9,1),(10,2)]:=⟨ae⟩
instance:TyZero Tryz.prog 61 (.agg #[(.int .i64 0),(.int .i64 0),(.int .i64 0),(.string ⟨#[]⟩),(.string ⟨#[]⟩),(.string ⟨#[]⟩),(.slice none 0 0),(.int .i64 0),(.int .i64 0),(.int .i64 0),(.int .i64 0),(.int .i64 0)]):=⟨ae⟩
instance:TyAgg Tryz.prog 63 49:=⟨ae⟩
instance:TyFld Tryz.prog 63 0 0:=⟨ae⟩
instance:TyFld Tryz.prog 63 1 1:=⟨ae⟩
instance:TyFld Tryz.prog 63 2 21:=⟨ae⟩
instance:TyFld Tryz.prog 63 3 30:=⟨ae⟩
instance:TyFld Tryz.prog 63 4 37:=⟨ae⟩
instance:TyPl Tryz.prog 63 [(0,1),(1,20),(21,9),(30,7),(37,12)]:=⟨ae⟩
instance:TyZero Tryz.prog 63 (.agg #[(.int .i64 0),(.string ⟨#[]⟩),(.int .i64 0),(.string ⟨#[]⟩),(.int .i64 0),(.int .i64 0),(.string ⟨#[]⟩),(.string ⟨#[]⟩),(.int .i64 0),(.string ⟨#[]⟩),(.slice none 0 0),(.string ⟨#[]⟩),(.string ⟨#[]⟩),(.string ⟨#[]⟩),(.string ⟨#[]⟩),(.int .i64 0),(.slice none 0 0),(.int .i64 0),(.int .i64 0),(.int .i64 0),(.int .i64 0),(.string ⟨#[]⟩),(.int .i64 0),(.string ⟨#[]⟩),(.int .i64 0),(.int .i64 0),(.int .i64 0),(.int .i64 0),(.int .i64 0),(.int .i64 0),(.int .i64 0),(.string ⟨#[]⟩),(.int .i64 0),(.string ⟨#[]⟩),(.int .i64 0),(.int .i64 0),(.int .i64 0),(.int .i64 0),(.int .i64 0),(.int .i64 0),(.string ⟨#[]⟩),(.string ⟨#[]⟩),(.string ⟨#[]⟩),(.slice none 0 0),(.int .i64 0),(.int .i64 0),(.int .i64 0),(.int .i64 0),(.int .i64 0)]):=⟨ae⟩
instance:TyAgg Tryz.prog 96 5:=⟨ae⟩
instance:TyFld Tryz.prog 96 0 0:=⟨ae⟩
instance:TyFld Tryz.prog 96 1 1:=⟨ae⟩
instance:TyFld Tryz.prog 96 2 2:=⟨ae⟩
instance:TyZero Tryz.prog 96 (.agg #[(.int .i64 0),(.int .i64 0),(.string ⟨#[]⟩),(.string ⟨#[]⟩),(.string ⟨#[]⟩)]):=⟨ae⟩
instance:TySl Tryz.prog 97 101 2 24:=⟨ae⟩
instance:TyAgg Tryz.prog 101 2:=⟨ae⟩
instance:TyPl Tryz.prog 101 [(0,1),(1,1)]:=⟨ae⟩
instance:TyZero Tryz.prog 101 (.agg #[(.string ⟨#[]⟩),(.int .i64 0)]):=⟨ae⟩
instance:TyInt Tryz.prog 112 .u64:=⟨ae⟩
instance:TyOne Tryz.prog 113:=⟨ae⟩
instance:TyOne Tryz.prog 114:=⟨ae⟩
instance:TyOne Tryz.prog 115:=⟨ae⟩
instance:TyFld Tryz.prog 117 0 0:=⟨ae⟩
instance:TyFld Tryz.prog 117 1 2:=⟨ae⟩
instance:TyFld Tryz.prog 117 2 8:=⟨ae⟩
instance:TyFld Tryz.prog 117 3 9:=⟨ae⟩
instance:TyFld Tryz.prog 117 4 10:=⟨ae⟩
instance:TyFld Tryz.prog 117 5 19:=⟨ae⟩
instance:TyPl Tryz.prog 117 [(0,2),(2,6),(8,1),(9,1),(10,9),(19,1)]:=⟨ae⟩
instance:TyZero Tryz.prog 117 (.agg #[(.slice none 0 0),(.slice none 0 0),(.string ⟨#[]⟩),(.slice none 0 0),(.slice none 0 0),(.string ⟨#[]⟩),(.int .i64 0),(.bool false),(.map none),(.map none),(.string ⟨#[]⟩),(.int .i64 0),(.string ⟨#[]⟩),(.int .i64 0),(.int .i64 0),(.int .i64 0),(.int .i64 0),(.int .i64 0),(.int .i64 0),(.bool false)]):=⟨ae⟩
instance:TyAgg Tryz.prog 120 2:=⟨ae⟩
instance:TyPl Tryz.prog 120 [(0,1),(1,1)]:=⟨ae⟩
instance:TyZero Tryz.prog 120 (.agg #[(.int .i64 0),(.string ⟨#[]⟩)]):=⟨ae⟩
instance:TyFld Tryz.prog 124 1 1:=⟨ae⟩
instance:TyPl Tryz.prog 124 [(0,1),(1,1),(2,1)]:=⟨ae⟩
instance:TyZero Tryz.prog 124 (.agg #[(.int .i64 0),(.int .i64 0),(.int .i64 0)]):=⟨ae⟩
instance:TyOne Tryz.prog 132:=⟨ae⟩
instance:TyOne Tryz.prog 136:=⟨ae⟩
instance:TySl Tryz.prog 136 5 1 1:=⟨ae⟩
instance:TyFld Tryz.prog 138 0 0:=⟨ae⟩
instance:TyZero Tryz.prog 138 (.agg #[(.slice none 0 0)]):=⟨ae⟩
instance:TyOne Tryz.prog 140:=⟨ae⟩
instance:TyAgg Tryz.prog 142 4:=⟨ae⟩
instance:TyFld Tryz.prog 142 0 0:=⟨ae⟩
instance:TyFld Tryz.prog 142 1 1:=⟨ae⟩
instance:TyFld Tryz.prog 142 2 2:=⟨ae⟩
instance:TyPl Tryz.prog 142 [(0,1),(1,1),(2,2)]:=⟨ae⟩
instance:TyZero Tryz.prog 142 (.agg #[(.string ⟨#[]⟩),.nilFunc,(.int .i64 0),(.int .i64 0)]):=⟨ae⟩
instance:TyOne Tryz.prog 145:=⟨ae⟩
instance:TyInt Tryz.prog 145 .u32:=⟨ae⟩
instance:TyZero Tryz.prog 145 (.int .u32 0):=⟨ae⟩
instance:TyAgg Tryz.prog 146 8:=⟨ae⟩
instance:TyZero Tryz.prog 146 (.agg #[(.int .u32 0),(.int .u32 0),(.int .u32 0),(.int .u32 0),(.int .u32 0),(.int .u32 0),(.int .u32 0),(.int .u32 0)]):=⟨ae⟩
instance:TyInt Tryz.prog 160 .u64:=⟨ae⟩
instance:TySl Tryz.prog 161 145 1 4:=⟨ae⟩
instance:TyAgg Tryz.prog 190 2:=⟨ae⟩
instance:TyFld Tryz.prog 190 0 0:=⟨ae⟩
instance:TyFld Tryz.prog 190 1 1:=⟨ae⟩
instance:TyPl Tryz.prog 190 [(0,1),(1,1)]:=⟨ae⟩
instance:TyZero Tryz.prog 190 (.agg #[(.int .i64 0),.nilFunc]):=⟨ae⟩
instance:TyAgg Tryz.prog 202 64:=⟨ae⟩
instance:TyZero Tryz.prog 202 (.agg #[(.int .u32 0),(.int .u32 0),(.int .u32 0),(.int .u32 0),(.int .u32 0),(.int .u32 0),(.int .u32 0),(.int .u32 0),(.int .u32 0),(.int .u32 0),(.int .u32 0),(.int .u32 0),(.int .u32 0),(.int .u32 0),(.int .u32 0),(.int .u32 0),(.int .u32 0),(.int .u32 0),(.int .u32 0),(.int .u32 0),(.int .u32 0),(.int .u32 0),(.int .u32 0),(.int .u32 0),(.int .u32 0),(.int .u32 0),(.int .u32 0),(.int .u32 0),(.int .u32 0),(.int .u32 0),(.int .u32 0),(.int .u32 0),(.int .u32 0),(.int .u32 0),(.int .u32 0),(.int .u32 0),(.int .u32 0),(.int .u32 0),(.int .u32 0),(.int .u32 0),(.int .u32 0),(.int .u32 0),(.int .u32 0),(.int .u32 0),(.int .u32 0),(.int .u32 0),(.int .u32 0),(.int .u32 0),(.int .u32 0),(.int .u32 0),(.int .u32 0),(.int .u32 0),(.int .u32 0),(.int .u32 0),(.int .u32 0),(.int .u32 0),(.int .u32 0),(.int .u32 0),(.int .u32 0),(.int .u32 0),(.int .u32 0),(.int .u32 0),(.int .u32 0),(.int .u32 0)]):=⟨ae⟩
instance:TySl Tryz.prog 215 218 22 288:=⟨ae⟩
instance:TyAgg Tryz.prog 218 22:=⟨ae⟩
instance:TyFld Tryz.prog 218 0 0:=⟨ae⟩
instance:TyFld Tryz.prog 218 1 1:=⟨ae⟩
instance:TyFld Tryz.prog 218 2 2:=⟨ae⟩
instance:TyPl Tryz.prog 218 [(0,1),(1,1),(2,20)]:=⟨ae⟩
instance:TyZero Tryz.prog 218 (.agg #[(.int .i64 0),(.string ⟨#[]⟩),(.string ⟨#[]⟩),(.int .i64 0),(.string ⟨#[]⟩),(.int .i64 0),(.int .i64 0),(.string ⟨#[]⟩),(.string ⟨#[]⟩),(.int .i64 0),(.string ⟨#[]⟩),(.slice none 0 0),(.string ⟨#[]⟩),(.string ⟨#[]⟩),(.string ⟨#[]⟩),(.string ⟨#[]⟩),(.int .i64 0),(.slice none 0 0),(.int .i64 0),(.int .i64 0),(.int .i64 0),(.int .i64 0)]):=⟨ae⟩
instance:TySl Tryz.prog 223 57 9 88:=⟨ae⟩
instance:TySl Tryz.prog 271 274 11 112:=⟨ae⟩
instance:TyAgg Tryz.prog 274 11:=⟨ae⟩
instance:TyFld Tryz.prog 274 0 0:=⟨ae⟩
instance:TyFld Tryz.prog 274 1 1:=⟨ae⟩
instance:TyFld Tryz.prog 274 2 2:=⟨ae⟩
instance:TyPl Tryz.prog 274 [(0,1),(1,1),(2,9)]:=⟨ae⟩
instance:TyZero Tryz.prog 274 (.agg #[(.int .i64 0),(.string ⟨#[]⟩),(.string ⟨#[]⟩),(.int .i64 0),(.string ⟨#[]⟩),(.int .i64 0),(.int .i64 0),(.int .i64 0),(.int .i64 0),(.int .i64 0),(.int .i64 0)]):=⟨ae⟩
instance:TySl Tryz.prog 277 59 7 72:=⟨ae⟩
instance:TySl Tryz.prog 292 295 9 96:=⟨ae⟩
instance:TyAgg Tryz.prog 295 9:=⟨ae⟩
instance:TyFld Tryz.prog 295 0 0:=⟨ae⟩
instance:TyFld Tryz.prog 295 1 1:=⟨ae⟩
instance:TyFld Tryz.prog 295 2 2:=⟨ae⟩
instance:TyPl Tryz.prog 295 [(0,1),(1,1),(2,7)]:=⟨ae⟩
instance:TyZero Tryz.prog 295 (.agg #[(.int .i64 0),(.string ⟨#[]⟩),(.int .i64 0),(.string ⟨#[]⟩),(.int .i64 0),(.string ⟨#[]⟩),(.int .i64 0),(.int .i64 0),(.int .i64 0)]):=⟨ae⟩
instance:FnBody Tryz.prog 7:=⟨ae⟩
instance:FnBody Tryz.prog 8:=⟨ae⟩
instance:FnBody Tryz.prog 9:=⟨ae⟩
instance:FnBody Tryz.prog 14:=⟨ae⟩
instance:FnBody Tryz.prog 15:=⟨ae⟩
instance:FnBody Tryz.prog 17:=⟨ae⟩
instance:FnBody Tryz.prog 18:=⟨ae⟩
instance:FnBody Tryz.prog 19:=⟨ae⟩
instance:FnBody Tryz.prog 20:=⟨ae⟩
instance:FnBody Tryz.prog 22:=⟨ae⟩
instance:FnBody Tryz.prog 23:=⟨ae⟩
instance:FnBody Tryz.prog 24:=⟨ae⟩
instance:FnBody Tryz.prog 25:=⟨ae⟩
instance:FnBody Tryz.prog 26:=⟨ae⟩
instance:FnBody Tryz.prog 27:=⟨ae⟩
instance:FnBody Tryz.prog 28:=⟨ae⟩
instance:FnBody Tryz.prog 31:=⟨ae⟩
instance:FnBody Tryz.prog 33:=⟨ae⟩
instance:FnBody Tryz.prog 34:=⟨ae⟩
instance:FnBody Tryz.prog 35:=⟨ae⟩
instance:FnBody Tryz.prog 36:=⟨ae⟩
instance:FnBody Tryz.prog 37:=⟨ae⟩
instance:FnBody Tryz.prog 38:=⟨ae⟩
instance:FnBody Tryz.prog 39:=⟨ae⟩
instance:FnBody Tryz.prog 40:=⟨ae⟩
instance:FnBody Tryz.prog 41:=⟨ae⟩
instance:FnBody Tryz.prog 42:=⟨ae⟩
instance:FnBody Tryz.prog 43:=⟨ae⟩
instance:FnBody Tryz.prog 44:=⟨ae⟩
instance:FnBody Tryz.prog 45:=⟨ae⟩
instance:FnBody Tryz.prog 46:=⟨ae⟩
instance:FnBody Tryz.prog 47:=⟨ae⟩
instance:FnBody Tryz.prog 48:=⟨ae⟩
instance:FnBody Tryz.prog 49:=⟨ae⟩
instance:FnBody Tryz.prog 52:=⟨ae⟩
instance:FnBody Tryz.prog 53:=⟨ae⟩
instance:FnBody Tryz.prog 54:=⟨ae⟩
instance:FnBody Tryz.prog 55:=⟨ae⟩
instance:FnBody Tryz.prog 56:=⟨ae⟩
instance:FnBody Tryz.prog 57:=⟨ae⟩
instance:FnBody Tryz.prog 58:=⟨ae⟩
instance:FnBody Tryz.prog 63:=⟨ae⟩
instance:FnBody Tryz.prog 64:=⟨ae⟩
instance:FnBody Tryz.prog 65:=⟨ae⟩
instance:FnBody Tryz.prog 66:=⟨ae⟩
instance:FnBody Tryz.prog 67:=⟨ae⟩
instance:FnBody Tryz.prog 68:=⟨ae⟩
instance:FnBody Tryz.prog 69:=⟨ae⟩
instance:FnBody Tryz.prog 70:=⟨ae⟩
instance:FnBody Tryz.prog 71:=⟨ae⟩
instance:FnBody Tryz.prog 72:=⟨ae⟩
instance:FnBody Tryz.prog 73:=⟨ae⟩
instance:FnBody Tryz.prog 74:=⟨ae⟩
instance:FnBody Tryz.prog 76:=⟨ae⟩
instance:FnBody Tryz.prog 77:=⟨ae⟩
instance:FnBody Tryz.prog 78:=⟨ae⟩
instance:FnBody Tryz.prog 79:=⟨ae⟩
instance:FnBody Tryz.prog 80:=⟨ae⟩
instance:FnBody Tryz.prog 81:=⟨ae⟩
instance:FnBody Tryz.prog 82:=⟨ae⟩
instance:FnBody Tryz.prog 83:=⟨ae⟩
instance:FnBody Tryz.prog 84:=⟨ae⟩
instance:FnBody Tryz.prog 85:=⟨ae⟩
instance:FnBody Tryz.prog 86:=⟨ae⟩
instance:FnBody Tryz.prog 87:=⟨ae⟩
instance:FnBody Tryz.prog 88:=⟨ae⟩
instance:FnBody Tryz.prog 89:=⟨ae⟩
instance:FnBody Tryz.prog 90:=⟨ae⟩
instance:FnBody Tryz.prog 91:=⟨ae⟩
instance:FnBody Tryz.prog 92:=⟨ae⟩
instance:FnBody Tryz.prog 93:=⟨ae⟩
instance:FnBody Tryz.prog 104:=⟨ae⟩
instance:FnBody Tryz.prog 105:=⟨ae⟩
instance:FnBody Tryz.prog 106:=⟨ae⟩
instance:FnBody Tryz.prog 107:=⟨ae⟩
instance:FnBody Tryz.prog 108:=⟨ae⟩
instance:FnBody Tryz.prog 109:=⟨ae⟩
instance:FnBody Tryz.prog 110:=⟨ae⟩
instance:FnBody Tryz.prog 111:=⟨ae⟩
instance:FnBody Tryz.prog 112:=⟨ae⟩
instance:FnBody Tryz.prog 113:=⟨ae⟩
instance:FnBody Tryz.prog 114:=⟨ae⟩
instance:FnBody Tryz.prog 115:=⟨ae⟩
instance:FnBody Tryz.prog 117:=⟨ae⟩
instance:FnBody Tryz.prog 120:=⟨ae⟩
instance:FnBody Tryz.prog 121:=⟨ae⟩
instance:FnBody Tryz.prog 122:=⟨ae⟩
instance:FnBody Tryz.prog 123:=⟨ae⟩
instance:FnBody Tryz.prog 124:=⟨ae⟩
instance:FnBody Tryz.prog 125:=⟨ae⟩
instance:FnBody Tryz.prog 126:=⟨ae⟩
instance:FnBody Tryz.prog 127:=⟨ae⟩
instance:FnBody Tryz.prog 128:=⟨ae⟩
instance:FnBody Tryz.prog 129:=⟨ae⟩
instance:FnBody Tryz.prog 130:=⟨ae⟩
instance:FnBody Tryz.prog 131:=⟨ae⟩
instance:FnBody Tryz.prog 132:=⟨ae⟩
instance:FnBody Tryz.prog 133:=⟨ae⟩
instance:FnBody Tryz.prog 134:=⟨ae⟩
instance:FnBody Tryz.prog 135:=⟨ae⟩
instance:FnBody Tryz.prog 136:=⟨ae⟩
instance:FnBody Tryz.prog 137:=⟨ae⟩
instance:FnBody Tryz.prog 138:=⟨ae⟩
instance:FnBody Tryz.prog 139:=⟨ae⟩
instance:FnBody Tryz.prog 140:=⟨ae⟩
instance:FnBody Tryz.prog 141:=⟨ae⟩
instance:FnBody Tryz.prog 142:=⟨ae⟩
instance:FnBody Tryz.prog 143:=⟨ae⟩
instance:FnBody Tryz.prog 145:=⟨ae⟩
instance:FnBody Tryz.prog 146:=⟨ae⟩
instance:FnBody Tryz.prog 147:=⟨ae⟩
instance:FnBody Tryz.prog 148:=⟨ae⟩
instance:FnBody Tryz.prog 149:=⟨ae⟩
instance:FnBody Tryz.prog 150:=⟨ae⟩
instance:FnBody Tryz.prog 151:=⟨ae⟩
instance:FnBody Tryz.prog 152:=⟨ae⟩
instance:FnBody Tryz.prog 153:=⟨ae⟩
instance:FnBody Tryz.prog 154:=⟨ae⟩
instance:FnBody Tryz.prog 155:=⟨ae⟩
instance:FnBody Tryz.prog 156:=⟨ae⟩
instance:FnBody Tryz.prog 157:=⟨ae⟩
instance:FnBody Tryz.prog 163:=⟨ae⟩
instance:FnBody Tryz.prog 164:=⟨ae⟩
instance:FnBody Tryz.prog 165:=⟨ae⟩
instance:FnBody Tryz.prog 166:=⟨ae⟩
instance:FnBody Tryz.prog 167:=⟨ae⟩
instance:FnBody Tryz.prog 168:=⟨ae⟩
instance:FnBody Tryz.prog 169:=⟨ae⟩
instance:FnBody Tryz.prog 170:=⟨ae⟩
instance:FnBody Tryz.prog 171:=⟨ae⟩
instance:FnBody Tryz.prog 172:=⟨ae⟩
instance:FnBody Tryz.prog 173:=⟨ae⟩
instance:FnBody Tryz.prog 174:=⟨ae⟩
instance:FnBody Tryz.prog 175:=⟨ae⟩
instance:FnBody Tryz.prog 178:=⟨ae⟩
instance:FnBody Tryz.prog 179:=⟨ae⟩
instance:FnBody Tryz.prog 180:=⟨ae⟩
instance:FnBody Tryz.prog 181:=⟨ae⟩
instance:FnBody Tryz.prog 182:=⟨ae⟩
instance:FnBody Tryz.prog 183:=⟨ae⟩
instance:FnBody Tryz.prog 184:=⟨ae⟩
instance:FnBody Tryz.prog 185:=⟨ae⟩
instance:FnBody Tryz.prog 186:=⟨ae⟩
instance:FnBody Tryz.prog 187:=⟨ae⟩
instance:FnBody Tryz.prog 188:=⟨ae⟩
instance:FnBody Tryz.prog 189:=⟨ae⟩
instance:FnBody Tryz.prog 190:=⟨ae⟩
instance:FnBody Tryz.prog 191:=⟨ae⟩
instance:FnBody Tryz.prog 192:=⟨ae⟩
instance:FnBody Tryz.prog 193:=⟨ae⟩
instance:FnBody Tryz.prog 194:=⟨ae⟩
instance:FnBody Tryz.prog 195:=⟨ae⟩
instance:FnBody Tryz.prog 196:=⟨ae⟩
instance:FnBody Tryz.prog 197:=⟨ae⟩
instance:FnBody Tryz.prog 198:=⟨ae⟩
instance:FnBody Tryz.prog 199:=⟨ae⟩
instance:FnBody Tryz.prog 200:=⟨ae⟩
instance:FnBody Tryz.prog 201:=⟨ae⟩
instance:FnBody Tryz.prog 202:=⟨ae⟩
instance:FnBody Tryz.prog 203:=⟨ae⟩
instance:FnBody Tryz.prog 204:=⟨ae⟩
instance:FnBody Tryz.prog 205:=⟨ae⟩
instance:FnBody Tryz.prog 206:=⟨ae⟩
instance:FnBody Tryz.prog 207:=⟨ae⟩
instance:FnBody Tryz.prog 208:=⟨ae⟩
instance:FnBody Tryz.prog 209:=⟨ae⟩
instance:FnBody Tryz.prog 210:=⟨ae⟩
instance:FnBody Tryz.prog 211:=⟨ae⟩
instance:FnBody Tryz.prog 212:=⟨ae⟩
instance:FnBody Tryz.prog 213:=⟨ae⟩
instance:FnBody Tryz.prog 214:=⟨ae⟩
instance:FnBody Tryz.prog 215:=⟨ae⟩
instance:FnBody Tryz.prog 216:=⟨ae⟩
instance:FnBody Tryz.prog 217:=⟨ae⟩
instance:FnBody Tryz.prog 218:=⟨ae⟩
instance:FnBody Tryz.prog 219:=⟨ae⟩
instance:FnBody Tryz.prog 220:=⟨ae⟩
instance:FnBody Tryz.prog 221:=⟨ae⟩
instance:FnBody Tryz.prog 222:=⟨ae⟩
instance:FnBody Tryz.prog 223:=⟨ae⟩
instance:FnBody Tryz.prog 224:=⟨ae⟩
instance:FnBody Tryz.prog 225:=⟨ae⟩
instance:FnBody Tryz.prog 227:=⟨ae⟩
instance:FnBody Tryz.prog 228:=⟨ae⟩
instance:FnBody Tryz.prog 229:=⟨ae⟩
instance:FnBody Tryz.prog 230:=⟨ae⟩
instance:FnBody Tryz.prog 231:=⟨ae⟩
instance:FnBody Tryz.prog 232:=⟨ae⟩
instance:FnBody Tryz.prog 242:=⟨ae⟩
instance:FnBody Tryz.prog 243:=⟨ae⟩
instance:FnBody Tryz.prog 244:=⟨ae⟩
instance:FnBody Tryz.prog 245:=⟨ae⟩
instance:FnBody Tryz.prog 246:=⟨ae⟩
instance:FnBody Tryz.prog 247:=⟨ae⟩
instance:FnBody Tryz.prog 251:=⟨ae⟩
instance:FnBody Tryz.prog 252:=⟨ae⟩
instance:FnBody Tryz.prog 253:=⟨ae⟩
instance:FnBody Tryz.prog 254:=⟨ae⟩
instance:FnBody Tryz.prog 255:=⟨ae⟩
instance:FnBody Tryz.prog 256:=⟨ae⟩
instance:FnBody Tryz.prog 257:=⟨ae⟩
instance:FnBody Tryz.prog 258:=⟨ae⟩
instance:FnBody Tryz.prog 259:=⟨ae⟩
instance:FnBody Tryz.prog 260:=⟨ae⟩
instance:FnBody Tryz.prog 266:=⟨ae⟩
instance:FnBody Tryz.prog 267:=⟨ae⟩
instance:FnBody Tryz.prog 268:=⟨ae⟩
instance:FnBody Tryz.prog 269:=⟨ae⟩
instance:FnBody Tryz.prog 270:=⟨ae⟩
instance:FnBody Tryz.prog 274:=⟨ae⟩
instance:FnBody Tryz.prog 275:=⟨ae⟩
instance:FnBody Tryz.prog 276:=⟨ae⟩
instance:FnBody Tryz.prog 277:=⟨ae⟩
instance:FnBody Tryz.prog 278:=⟨ae⟩
instance:FnBody Tryz.prog 279:=⟨ae⟩
instance:FnBody Tryz.prog 280:=⟨ae⟩
instance:FnBody Tryz.prog 281:=⟨ae⟩
instance:FnBody Tryz.prog 282:=⟨ae⟩
instance:FnBody Tryz.prog 283:=⟨ae⟩
instance:FnBody Tryz.prog 284:=⟨ae⟩
instance:FnBody Tryz.prog 285:=⟨ae⟩
instance:FnBody Tryz.prog 286:=⟨ae⟩
end Go.Proofs.YtoefdofbekihdaaGreatDoor.Sy
