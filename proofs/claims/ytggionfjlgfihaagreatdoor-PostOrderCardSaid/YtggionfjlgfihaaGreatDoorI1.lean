/- Joined. -/
import Derived.Test.YtggionfjlgfihaaGreatDoorI0
import Derived.MapKept
import Derived.Sort.OwnSorted
import Derived.Lib.SlKeysI
import Derived.Lib.SlicesCompact
import Derived.Shelf.SlIter.Nil
import Derived.Shelf.SlIterI.Nil
import Derived.Shelf.SortM.Plain
import Derived.Shelf.SortM.SortNone
import Derived.Shelf.Slices.CompactS
import Derived.Test.YtggionfjlgfihaaGreatDoorProg
set_option linter.unusedVariables false
set_option linter.unusedSimpArgs false
set_option maxHeartbeats 16000000
namespace Go.Proofs.YtggionfjlgfihaaGreatDoor.Sy
open Go Go.RowKit
inductive Pn where
 | mk (ts:List Nat) (bs:List (Nat×Pn))
def lstd (n:Nat):List Nat→Array Bool
 | []=>Array.replicate n false
 | i::r=>(lstd n r).setIfInBounds i true
theorem gq {p q r s s':Prop} {b:Bool} (a_:b=true→s→q) (b_:b=false→s'→r) (h:(b=true→q)→(b=false→r)→p:=by intro a_ b_;first|((fail_if_success (refine zX ?_));exact zV (ht:=a_) (hf:=b_))|((fail_if_success (refine wa ?_));exact oJ (ht:=a_) (hf:=b_))|fail) (hs:b=true→s:=by first|exact cI|exact fun _=>trivial|fail) (hs':b=false→s':=by first|exact d1|exact fun _=>trivial|fail):p:=h (fun e=>a_ e (hs e)) (fun e=>b_ e (hs' e))
section
variable {P:Program} {N:Nat} {av bor:List Nat} {w0:World}
variable {loc0:List Xk} {X0:World→Prop} {l:List Oper} {fuel:Nat} {dn ts:List Nat} {bs:List (Nat×Pn)} {E:Env} {loc:List Xk} {X:World→Prop} {k:St→Prop} {K:Exit→St→Prop}
variable {n i:Nat} {o:Op} {ty:TypeId} {pos:String} {af:Array Edge} {g:Option (Nat×Bool)} {v:Value} {bb want:Bool}
theorem xH {loc loc0:List Xk} {X X0:World→Prop} (h:∀ w,Xq av bor w0 loc X w→Xq av bor w0 loc0 X0 w:=by first|(first|exact fun _ h=>h|exact fun _ h=>(h.drop (List.nil_sublist _)).imp (fun _ _=>trivial)|exact fun _ h=>h.drop (by (first|exact aj _|exact List.Sublist.cons _ (aj _)|exact List.Sublist.cons _ (List.Sublist.cons _ (aj _))|exact List.Sublist.cons _ (List.Sublist.cons _ (List.Sublist.cons _ (aj _)))))|exact fun _ h=>h.imp (fun _ h=>h.1)|exact fun _ h=>(h.drop (by (first|exact aj _|exact List.Sublist.cons _ (aj _)|exact List.Sublist.cons _ (List.Sublist.cons _ (aj _))|exact List.Sublist.cons _ (List.Sublist.cons _ (List.Sublist.cons _ (aj _)))))).imp (fun _ h=>h.1)|exact fun _ h=>(h.drop (by (first|exact aj _|exact List.Sublist.cons _ (aj _)|exact List.Sublist.cons _ (List.Sublist.cons _ (aj _))|exact List.Sublist.cons _ (List.Sublist.cons _ (List.Sublist.cons _ (aj _)))))).imp (fun _ h=>h.1.1))|(first|exact fun _ h=>h|exact fun _ h=>h.drop (by ((repeat (first|exact aj _|exact List.Sublist.cons_cons _ (List.nil_sublist _)|apply List.Sublist.cons));first|done|fail))|exact fun _ h=>(h.drop (by ((repeat (first|exact aj _|exact List.Sublist.cons_cons _ (List.nil_sublist _)|apply List.Sublist.cons));first|done|fail))).imp (fun _ h=>h.1)|exact fun _ h=>(h.drop (by ((repeat (first|exact aj _|exact List.Sublist.cons_cons _ (List.nil_sublist _)|apply List.Sublist.cons));first|done|fail))).imp (fun _ h=>h.1.1)|exact fun _ h=>(h.drop (by ((repeat (first|exact aj _|exact List.Sublist.cons_cons _ (List.nil_sublist _)|apply List.Sublist.cons));first|done|fail))).imp (fun _ h=>h.1.1.1)|exact fun _ h=>(h.drop (by ((repeat (first|exact aj _|exact List.Sublist.cons_cons _ (List.nil_sublist _)|apply List.Sublist.cons));first|done|fail))).imp (fun _ h=>h.1.1.1.1))|(exact fun _ h=>(h.drop (by ((repeat (first|exact aj _|exact List.Sublist.cons_cons _ (List.nil_sublist _)|apply List.Sublist.cons));first|done|fail))).imp (fun _ _=>trivial))|(first|exact fun _ h=>h.drop (by ((repeat (first|exact aj _|exact List.nil_sublist _|apply List.Sublist.cons_cons|apply List.Sublist.cons));first|done|fail))|exact fun _ h=>(h.drop (by ((repeat (first|exact aj _|exact List.nil_sublist _|apply List.Sublist.cons_cons|apply List.Sublist.cons));first|done|fail))).imp (fun _ h=>h.1)|exact fun _ h=>(h.drop (by ((repeat (first|exact aj _|exact List.nil_sublist _|apply List.Sublist.cons_cons|apply List.Sublist.cons));first|done|fail))).imp (fun _ h=>h.1.1))|(first|exact fun _ h=>h.drop (by ((repeat (first|exact aj _|exact List.nil_sublist _|with_reducible apply List.Sublist.cons_cons|apply List.Sublist.cons));first|done|fail))|exact fun _ h=>(h.drop (by ((repeat (first|exact aj _|exact List.nil_sublist _|with_reducible apply List.Sublist.cons_cons|apply List.Sublist.cons));first|done|fail))).imp (fun _ h=>h.1)|exact fun _ h=>(h.drop (by ((repeat (first|exact aj _|exact List.nil_sublist _|with_reducible apply List.Sublist.cons_cons|apply List.Sublist.cons));first|done|fail))).imp (fun _ h=>h.1.1))|fail):∀ w,Xq av bor w0 loc X w→Xq av bor w0 loc0 X0 w:=h
structure Dw (P:Program) (N:Nat) (av bor:List Nat) (w0:World) (loc0:List Xk) (X0:World→Prop) (l:List Oper) (fuel:Nat) (dn:List Nat) (pl:Pn) (st:St) (k:St→Prop):Prop where
 run:Aw P N av bor w0 loc0 X0 l.toArray fuel (lstd l.length dn) st k
structure Df (A B:Prop):Prop where
 a:A
 b:B
theorem vX {ops:Array Oper} {todo:List Oper} {st:St} {k k':St→Prop} (hk:∀ s,k s→k' s) (h:Sw P N av bor w0 ops todo st k):Sw P N av bor w0 ops todo st k':=Sw.mk fun a w ok=>by
 have mono:∀ (todo:List Oper) a w,wpList P ops (post N av bor w0 (only k)) todo a w→wpList P ops (post N av bor w0 (only k')) todo a w:=by
  intro todo
  induction todo with
  | nil =>
   rintro a w ⟨s,h1,h2⟩
   exact ⟨s,hk s h1,h2⟩
  | cons o rest ih =>
   intro a w h
   simp only [wpList] at h ⊢
   split
   · rename_i hw
     simp only [hw,if_true] at h
     rcases h with h|⟨_,_,_,h⟩
     · exact .inl (iF ih h)
     · exact h.elim
   · rename_i hw
     simp only [hw] at h
     exact ih _ _ h
 exact mono _ _ _ (h.run a w ok)
structure Ds (P:Program) (N:Nat) (av bor:List Nat) (w0:World) (loc0:List Xk) (X0:World→Prop) (l:List Oper) (fuel:Nat) (dn:List Nat) (bs:List (Nat×Pn)) (st:St) (k:St→Prop):Prop where
 run:∀ i∈bs.map Prod.fst,∀ a w,Ok N av bor w0 st a w→wpOp P l.toArray (post N av bor w0 (only k)) i (fun a' w'=>Xq av bor w0 loc0 X0 w'∧wpAnyH P .any l.toArray (post N av bor w0 (only k)) (Xq av bor w0 loc0 X0) fuel ((lstd l.length dn).setIfInBounds i true) a' w') a w
theorem Bu {pl:Pn} {st:St} (h:Dw P N av bor w0 loc0 X0 l fuel dn pl st k):Dw P N av bor w0 loc0 X0 l fuel dn pl st k:=h
theorem ao {id:Nat} (pl:Pn) (loc0:List Xk) (X0:World→Prop) (hm:P.follows .mixedOrders=true:=by kernel_rfl) (h:Dw P N av bor w0 loc0 X0 l l.length [] pl ⟨E,loc,X⟩ (K .normal)) :
  Cw P N av bor w0 (.region id l.toArray true) ⟨E,loc,X⟩ K:=kn loc0 X0 hm h.run
theorem bE {id:Nat} (pl:Pn) (hm:P.follows .mixedOrders=true:=by kernel_rfl) (h:Dw P N av bor w0 loc X l l.length [] pl ⟨E,loc,X⟩ (K .normal)) :
  Cw P N av bor w0 (.region id l.toArray true) ⟨E,loc,X⟩ K:=kn loc X hm h.run
theorem ax (h:Dw P N av bor w0 loc0 X0 l fuel (i::dn) ⟨ts,bs⟩ ⟨(n,v)::E,loc,X⟩ k) (hi:l.toArray[i]?=some ⟨some n,o,ty,pos,af,g⟩:=by rfl) (hg:gdB l.toArray E g=some (bb,want):=by rfl) (hb:bb=want:=by exact aq) (hd:Nat.blt n N=true:=by rfl) (hy:Sy.Yields P N av bor w0 ⟨E,loc0,X0⟩ o ty v:=by (first|(apply qs;rfl)|(apply kA;rfl)|(apply fy;rfl)|(apply vF;rfl;(first|exact Nat.zero_add _|(simp only [Nat.reduceAdd];rfl)))|(apply nd;rfl;(repeat (first|exact ap|apply List.mem_cons_of_mem));rfl)|(apply nc;rfl;(repeat (first|exact ap|apply List.mem_cons_of_mem));rfl)|(apply kr;rfl;(first|with_reducible rfl|with_reducible assumption|with_reducible exact Bool.not_false|with_reducible exact Bool.not_true);rfl)|(apply ku;rfl;(first|with_reducible rfl|with_reducible assumption|with_reducible exact Bool.not_false|with_reducible exact Bool.not_true);rfl)|(apply rR;rfl)|(apply ky;rfl;rfl)|(apply rS;rfl;rfl)|(apply rT;rfl;rfl)|(apply vC;rfl;rfl)|(apply jA;rfl;rfl)|(apply rU;rfl;rfl)|(apply kq;rfl;rfl)|(apply na;rfl;rfl)|(apply qr;rfl)|(apply vD;rfl)|(apply iY;rfl;rfl)|(apply vJ;rfl;rfl;(first|exact IntWalk.i64_in _ (by omega)|rfl))|(apply oA;rfl;rfl;(first|exact IntWalk.i64_in _ (by omega)|rfl))|(apply vI;rfl;rfl)|(apply Ad;rfl;rfl)|(apply vq;rfl;rfl)|(apply io;rfl;rfl)|(apply vp;rfl)|(apply vv;rfl;rfl;(first|decide|exact cG _ _ rfl _ _|exact dV _ rfl _|omega))|(apply vu;rfl;rfl;(first|decide|exact cG _ _ rfl _ _|exact dV _ rfl _|omega))|(apply vE;rfl;rfl)|(apply fa;rfl;rfl;decide;decide;rfl))) (hs:Region.noSelect l.toArray=true:=by kernel_rfl) (hf:Region.free .any l.toArray (lstd l.length dn) i=true:=by kernel_rfl) (hr:(Region.ready .any l.toArray (lstd l.length dn)).contains i=true:=by kernel_rfl) (hsub:∀ w,Xq av bor w0 loc X w→Xq av bor w0 loc0 X0 w:=by exact fV):Dw P N av bor w0 loc0 X0 l (fuel+1) dn ⟨i::ts,bs⟩ ⟨E,loc,X⟩ k:=⟨aT i h.run hi hs hf hr hsub hy hg hb hd⟩
theorem x9 (h:Dw P N av bor w0 loc0 X0 l fuel (i::dn) ⟨ts,bs⟩ ⟨(n,undef)::E,loc,X⟩ k) (hi:l.toArray[i]?=some ⟨some n,o,ty,pos,af,g⟩:=by rfl) (hg:gdB l.toArray E g=some (bb,true):=by rfl) (hb:bb=false:=by exact aq) (hd:Nat.blt n N=true:=by rfl) (hs:Region.noSelect l.toArray=true:=by kernel_rfl) (hf:Region.free .any l.toArray (lstd l.length dn) i=true:=by kernel_rfl) (hr:(Region.ready .any l.toArray (lstd l.length dn)).contains i=true:=by kernel_rfl) (hsub:∀ w,Xq av bor w0 loc X w→Xq av bor w0 loc0 X0 w:=by exact fV):Dw P N av bor w0 loc0 X0 l (fuel+1) dn ⟨i::ts,bs⟩ ⟨E,loc,X⟩ k:=⟨yb i h.run hi hs hf hr hsub hg hb hd⟩
theorem ya (h:Dw P N av bor w0 loc0 X0 l fuel (i::dn) ⟨ts,bs⟩ ⟨(n,undef)::E,loc,X⟩ k) (hi:l.toArray[i]?=some ⟨some n,o,ty,pos,af,g⟩:=by rfl) (hg:gdB l.toArray E g=some (bb,false):=by rfl) (hb:bb=true:=by exact aq) (hd:Nat.blt n N=true:=by rfl) (hs:Region.noSelect l.toArray=true:=by kernel_rfl) (hf:Region.free .any l.toArray (lstd l.length dn) i=true:=by kernel_rfl) (hr:(Region.ready .any l.toArray (lstd l.length dn)).contains i=true:=by kernel_rfl) (hsub:∀ w,Xq av bor w0 loc X w→Xq av bor w0 loc0 X0 w:=by exact fV):Dw P N av bor w0 loc0 X0 l (fuel+1) dn ⟨i::ts,bs⟩ ⟨E,loc,X⟩ k:=⟨yc i h.run hi hs hf hr hsub hg hb hd⟩
theorem zX {jb:Nat×Bool} (h:Dw P N av bor w0 loc0 X0 l fuel dn ⟨i::ts,bs⟩ ⟨E,loc,X⟩ k) (hi:l.toArray[i]?=some ⟨some n,o,ty,pos,af,some jb⟩:=by rfl) (hg:gdB l.toArray E (some jb)=some (bb,want):=by rfl) (hb:bb=true∨bb=false:=by (first|with_reducible exact Or.inl rfl|with_reducible exact Or.inr rfl|with_reducible exact Or.inl Bool.not_false|with_reducible exact Or.inr Bool.not_true|(apply Or.inl;with_reducible assumption)|(apply Or.inr;with_reducible assumption))):Dw P N av bor w0 loc0 X0 l fuel dn ⟨i::ts,bs⟩ ⟨E,loc,X⟩ k:=h
theorem zV {jb:Nat×Bool} (hi:l.toArray[i]?=some ⟨some n,o,ty,pos,af,some jb⟩:=by rfl) (hg:gdB l.toArray E (some jb)=some (bb,want):=by rfl) (ht:bb=true→Dw P N av bor w0 loc0 X0 l fuel dn ⟨i::ts,bs⟩ ⟨E,loc,X⟩ k) (hf:bb=false→Dw P N av bor w0 loc0 X0 l fuel dn ⟨i::ts,bs⟩ ⟨E,loc,X⟩ k) :
  Dw P N av bor w0 loc0 X0 l fuel dn ⟨i::ts,bs⟩ ⟨E,loc,X⟩ k:=by
 cases bb
 · exact hf rfl
 · exact ht rfl
theorem yd {q:Nat×Pn} (h:Ds P N av bor w0 loc0 X0 l fuel dn (q::bs) ⟨E,loc,X⟩ k) (hr:Region.ready .any l.toArray (lstd l.length dn)=(q::bs).map Prod.fst:=by kernel_rfl):Dw P N av bor w0 loc0 X0 l (fuel+1) dn ⟨[],q::bs⟩ ⟨E,loc,X⟩ k :=
 ⟨Aw.mk fun a w ok=>wpAnyH_all hr (by rw [List.map_cons];exact List.cons_ne_nil _ _) fun j hj=>h.run j hj a w ok⟩
theorem ay {pl:Pn} {o:Oper} (h:Sw P N av bor w0 l.toArray [o] ⟨E,loc,X⟩ (fun s=>Df (∀ w,Xq av bor w0 s.loc s.ext w→Xq av bor w0 loc0 X0 w) (Dw P N av bor w0 loc0 X0 l fuel (i::dn) pl s k))) (hi:l.toArray[i]?=some o:=by rfl) (h':Ds P N av bor w0 loc0 X0 l fuel dn bs ⟨E,loc,X⟩ k):Ds P N av bor w0 loc0 X0 l fuel dn ((i,pl)::bs) ⟨E,loc,X⟩ k:=⟨fun j hj a w ok=>by
 rw [List.map_cons] at hj
 rcases List.mem_cons.1 hj with rfl|hj
 · exact tp (listed:=lstd l.length dn) hi (vX (fun s q=>⟨q.a,q.b.run⟩) h) a w ok
 · exact h'.run j hj a w ok⟩
theorem az:Ds P N av bor w0 loc0 X0 l fuel dn [] ⟨E,loc,X⟩ k:=⟨fun j hj=>by cases hj⟩
theorem zW (h:k ⟨E,loc,X⟩) (hr:Region.ready .any l.toArray (lstd l.length dn)=[]:=by kernel_rfl):Dw P N av bor w0 loc0 X0 l fuel dn ⟨[],[]⟩ ⟨E,loc,X⟩ k:=⟨iV hr h⟩
end
theorem aF {av bor:List Nat} {w0:World} {loc loc0:List Xk} {X X0:World→Prop} (h:∀ w,Xq av bor w0 loc X w→Xq av bor w0 loc0 X0 w:=by first|exact fun _ h=>h|(first|exact fun _ h=>h.drop (by ((repeat (first|exact aj _|exact List.nil_sublist _|apply List.Sublist.cons_cons|apply List.Sublist.cons));done))|exact fun _ h=>(h.drop (by ((repeat (first|exact aj _|exact List.nil_sublist _|apply List.Sublist.cons_cons|apply List.Sublist.cons));done))).imp (fun _ h=>h.1)|exact fun _ h=>(h.drop (by ((repeat (first|exact aj _|exact List.nil_sublist _|apply List.Sublist.cons_cons|apply List.Sublist.cons));done))).imp (fun _ h=>h.1.1))|(first|exact fun _ h=>h.drop (by ((repeat (first|exact aj _|exact List.nil_sublist _|with_reducible apply List.Sublist.cons_cons|apply List.Sublist.cons));done))|exact fun _ h=>(h.drop (by ((repeat (first|exact aj _|exact List.nil_sublist _|with_reducible apply List.Sublist.cons_cons|apply List.Sublist.cons));done))).imp (fun _ h=>h.1)|exact fun _ h=>(h.drop (by ((repeat (first|exact aj _|exact List.nil_sublist _|with_reducible apply List.Sublist.cons_cons|apply List.Sublist.cons));done))).imp (fun _ h=>h.1.1))|(first|exact fun _ h=>h|exact fun _ h=>h.drop (by ((repeat (first|exact aj _|exact List.Sublist.cons_cons _ (List.nil_sublist _)|apply List.Sublist.cons));done))|exact fun _ h=>(h.drop (by ((repeat (first|exact aj _|exact List.Sublist.cons_cons _ (List.nil_sublist _)|apply List.Sublist.cons));done))).imp (fun _ h=>h.1)|exact fun _ h=>(h.drop (by ((repeat (first|exact aj _|exact List.Sublist.cons_cons _ (List.nil_sublist _)|apply List.Sublist.cons));done))).imp (fun _ h=>h.1.1)|exact fun _ h=>(h.drop (by ((repeat (first|exact aj _|exact List.Sublist.cons_cons _ (List.nil_sublist _)|apply List.Sublist.cons));done))).imp (fun _ h=>h.1.1.1)|exact fun _ h=>(h.drop (by ((repeat (first|exact aj _|exact List.Sublist.cons_cons _ (List.nil_sublist _)|apply List.Sublist.cons));done))).imp (fun _ h=>h.1.1.1.1))|(first|exact fun _ h=>h|exact fun _ h=>(h.drop (List.nil_sublist _)).imp (fun _ _=>trivial)|exact fun _ h=>h.drop (by (first|exact aj _|exact List.Sublist.cons _ (aj _)|exact List.Sublist.cons _ (List.Sublist.cons _ (aj _))|exact List.Sublist.cons _ (List.Sublist.cons _ (List.Sublist.cons _ (aj _)))))|exact fun _ h=>h.imp (fun _ h=>h.1)|exact fun _ h=>(h.drop (by (first|exact aj _|exact List.Sublist.cons _ (aj _)|exact List.Sublist.cons _ (List.Sublist.cons _ (aj _))|exact List.Sublist.cons _ (List.Sublist.cons _ (List.Sublist.cons _ (aj _)))))).imp (fun _ h=>h.1)|exact fun _ h=>(h.drop (by (first|exact aj _|exact List.Sublist.cons _ (aj _)|exact List.Sublist.cons _ (List.Sublist.cons _ (aj _))|exact List.Sublist.cons _ (List.Sublist.cons _ (List.Sublist.cons _ (aj _)))))).imp (fun _ h=>h.1.1))|(exact fun _ h=>(h.drop (by ((repeat (first|exact aj _|exact List.Sublist.cons_cons _ (List.nil_sublist _)|apply List.Sublist.cons));done))).imp (fun _ _=>trivial))|fail):∀ w,Xq av bor w0 loc X w→Xq av bor w0 loc0 X0 w:=h
theorem gdz {p q:Prop} (k_:q) (h:q→p:=by intro q_;first|(refine Bu ?_;first|exact zW (h:=q_)|exact yd (h:=q_)|exact ax (h:=q_) (hsub:=by exact aF)|exact x9 (h:=q_) (hsub:=by exact aF)|exact ya (h:=q_) (hsub:=by exact aF)|fail)|(refine Df.mk ?_ q_;exact aF)|exact bz q_|(refine AT ?_;first|exact df (h:=q_)|exact br (h:=q_)|fail)|(refine AS ?_;first|exact ci (h:=q_)|exact bw (h:=q_)|fail)|(refine AU ?_;first|exact kI (h:=q_)|exact kJ (h:=q_)|exact kH (h:=q_)|fail)|fail):p:=h k_
def ORow (w:World) (e size:Nat) (v:Value) (n:Nat) (xs:List Value):Prop :=
 xs.length=n*size∧((v=.slice none 0 0∧n=0) ∨
  ∃ g cap cur fz,v=.slice (some ⟨g,0,none⟩) n cap∧w.heap[g]?=some (.cells cur e fz)∧n≤cap∧cap≤maxLen∧cur.size=cap*size∧cur.toList.take (n*size)=xs∧(fz.1=fz.2∨cur.size≤fz.1))
def orow (e size:Nat) (v:Value) (n:Nat) (xs:List Value):Xk:=⟨v.ownBlock.toList,fun w=>ORow w e size v n xs⟩
theorem dm {e size n:Nat} {v:Value} {xs:List Value} {w:World} (h:ORow w e size v n xs):Holds (orow e size v n xs) w:=by
 intro w2 h2
 refine ⟨h.1,?_⟩
 rcases h.2 with h0|⟨g,cap,cur,fz,hv,hg,hr⟩
 · exact .inl h0
 · exact .inr ⟨g,cap,cur,fz,hv,(h2 g (by rw [hv];simp [orow,Value.ownBlock])).trans hg,hr⟩
section
variable {P:Program} {N:Nat} {av bor:List Nat} {w0:World} {ops:Array Oper} {rest:List Oper} {k:St→Prop} {E:Env} {loc loc':List Xk} {X:World→Prop}
variable {d:Option Tmp} {ty:TypeId} {pos:String} {af:Array Edge} {g:Option (Nat×Bool)} {bb want:Bool} {K:Exit→St→Prop}
theorem Xq.swap {w w':World} {r r':Xk} (G:Xq av bor w0 loc X w) (hA:At r r' loc loc') (ho:w'.os=w.os) (ht:w'.tape=w.tape) (hp:w'.output=w.output) (hz:w.heap.size≤w'.heap.size)
  (hb:∀ i,i<w.heap.size→i∉r.fp→w'.heap[i]?=w.heap[i]?) (hn:r'.fp.Nodup) (hf:∀ i∈r'.fp,i<w'.heap.size∧(i∈r.fp∨w.heap.size≤i)) (hr:Holds r' w'):Xq av bor w0 loc' X w':=by
 obtain ⟨f,h1,h2⟩:=hA.perm
 have G1:Xq av bor w0 ([r]++f) X w:=G.perm h1
 have G2:Xq (av++fps f) (fps [r]) w [r'] (fun _=>True) w':=by
  have hs:=G1.start
  have e1:fps [r]=r.fp:=by simp [fps]
  have e2:fps [r']=r'.fp:=by simp [fps]
  refine ⟨⟨ho,ht,hp,hz,fun i hi hne=>hb i hi (by rwa [e1] at hne)⟩,hs.avb,by rw [e2];exact hn,?_,?_,Keeps.all fun _=>trivial⟩
  · intro i hi
    rw [e2] at hi
    have:=hf i hi
    rw [e1]
    exact ⟨this.1,this.2.symm⟩
  · intro x hx
    rw [List.mem_singleton] at hx
    subst hx
    exact hr
 exact (((G1.frame G2).imp fun _ h=>h.1:Xq av bor w0 ([r']++f) X w')).perm h2.symm
theorem dr (P:Program) (g o:Nat) (t:TypeId) (fz:Nat×Nat):∀ (vs:List Value) (i:Nat) (cur:Array Value) (w:World),w.heap[g]?=some (.cells cur t fz)→(fz.1=fz.2∨cur.size≤fz.1)→o+i+vs.length≤cur.size→(∀ v∈vs,v.oneCell'=true) →
  (storeCells ⟨g,o,none⟩ vs i).run P w=.ok () (w.setRow g (cur.toList.take (o+i)++vs++cur.toList.drop (o+i+vs.length)).toArray)
 | [],i,cur,w,hg,_,_,_=>by
  simp only [storeCells,List.append_nil,List.length_nil,Nat.add_zero,List.take_append_drop,Array.toArray_toList]
  rw [setRow_self w g cur t fz hg]
  rfl
 | v::rest,i,cur,w,hg,hz,hl,h1=>by
  have hi:o+i<cur.size:=by simp at hl;omega
  have hadd:(⟨g,o,none⟩:Addr).add i=⟨g,o+i,none⟩:=by unfold Addr.add;split<;>simp_all
  have hcell:w.cell? ⟨g,o+i,none⟩=some cur[o+i]:=by simp [World.cell?,hg,hi]
  have hfro:w.frozen? ⟨g,o+i,none⟩=false:=by
   obtain ⟨lo,hi'⟩:=fz
   simp only [World.frozen?,hg]
   simp only at hz
   have:¬ (lo≤o+i∧o+i<hi'):=by omega
   simpa using this
  have hst:(store ((⟨g,o,none⟩:Addr).add i) v).run P w=.ok () (w.setRow g (cur.setIfInBounds (o+i) v)):=by
   rw [hadd,run_store P w _ v _ (h1 v (by simp)),hcell]
   simp [hfro,setCell_eq_setRow w g (o+i) cur t fz v hg]
  have ih:=dr P g o t fz rest (i+1) (cur.setIfInBounds (o+i) v) (w.setRow g (cur.setIfInBounds (o+i) v)) (Go.setRow_heap w g cur _ t _ hg) (by simpa using hz) (by simp at hl ⊢;omega) (fun x hx=>h1 x (by simp [hx]))
  simp only [storeCells,Sem.run_bind,hst,Result.andThen_ok,ih,setRow_setRow]
  congr 3
  have e:=list_seg_step cur.toList (o+i) v rest (by simp at hl ⊢;omega)
  simpa [Array.toList_setIfInBounds,Nat.add_assoc] using e
def strOrSl (P:Program) (u:TypeId):Bool :=
 match P.underlying u with
 | some .string|some (.slice _)=>true
 | _=>false
class TySrc (P:Program) (u:TypeId):Prop where out:strOrSl P u=true
instance {u:TypeId} [h:Eb P u]:TySrc P u:=⟨by simp [strOrSl,h.out]⟩
instance {u e n b:TypeId} [h:Ea P u e n b]:TySrc P u:=⟨by simp [strOrSl,(cf h.out).1]⟩
theorem fE {u:TypeId} (h:strOrSl P u=true):P.underlying u=some .string∨∃ e,P.underlying u=some (.slice e):=by
 unfold strOrSl at h
 split at h
 · exact .inl (by assumption)
 · exact .inr ⟨_,by assumption⟩
 · cases h
structure Src (P:Program) (w:World) (size:Nat) (x:Value) (m:Nat) (news:List Value):Prop where
 len:∀ w',(Builtin.lenOf x).run P w'=.ok m w'
 cells:∀ w':World,w'.heap=w.heap→(Builtin.firstCells size m x).run P w'=.ok news.toArray w'
 size:news.length=m*size
 one:∀ u∈news,u.oneCell'=true
theorem dM (e:TypeId) (cs:Array Value) (w:World):(newRow e cs).run P w=.ok ⟨w.heap.size,0,none⟩ (w.alloc (.cells cs e)):=rfl
theorem nL {w:World} {t u ty e size bytes:Nat} {z:Value} (hs:slOf P t=some (e,size,bytes)) (hz:zeroOf P e=some z) (hzs:z.cells.size=size) (hsz:0<size) (hu:strOrSl P u=true)
  {v x:Value} {n m:Nat} {xs news:List Value} (ho:ORow w e size v n xs) (hx:Src P w size x m news) (h63:n+m≤maxLen) (hby:(n+m)*bytes≤140737488355328) :
  ∃ v' w',(Builtin.append_ #[t,u] ty #[v,x]).run P w=.ok v' w'∧ORow w' e size v' (n+m) (xs++news)∧w'.os=w.os∧w'.tape=w.tape∧w'.output=w.output∧w.heap.size≤w'.heap.size ∧
   (∀ i,i<w.heap.size→i∉v.ownBlock.toList→w'.heap[i]?=w.heap[i]?)∧(∀ i∈v'.ownBlock.toList,i<w'.heap.size∧(i∈v.ownBlock.toList∨w.heap.size≤i)):=by
 obtain ⟨ht,inf,hi,hi1,hi2⟩:=cf hs
 have hzr:(zeroValue e).run P w.drew=.ok z w.drew:=dj hz _
 have hsm:n+m≤9223372036854775807:=by simp only [maxLen] at h63;omega
 have hlen:(xs++news).length=(n+m)*size:=by rw [List.length_append,ho.1,hx.size,Nat.add_mul]
 have h63':¬ (9223372036854775807<(n:Int)+(m:Int)):=by omega
 have grow:∀ (A:Option Addr) (cap:Nat),v=.slice A n cap→cap<n+m→(∀ w':World,w'.heap=w.heap→(Builtin.firstCells size n v).run P w'=.ok xs.toArray w') →
   (Builtin.append_ #[t,u] ty #[v,x]).run P w=.ok (.slice (some ⟨w.heap.size,0,none⟩) (n+m) (grownCap w (n+m) cap e))
    (w.drew.alloc (.cells (xs.toArray++news.toArray++Builtin.zeroCells z.cells (grownCap w (n+m) cap e-(n+m))) e)):=by
  intro A cap hv hlt hf
  subst hv
  have h1:=hf w.drew rfl
  have h2:=hx.cells w.drew rfl
  have hnc:¬ (n+m≤cap):=by omega
  have hfit:¬ (281474976710656<Builtin.nextslicecap (n+m) cap*bytes):=by have:=growslice_fits hlt hby;omega
  have hsw:(sizeOf e).run P w=.ok size w:=by simp [sizeOf,typeInfo,hi,hi1]
  rcases fE hu with hD|⟨e',hD⟩<;>simp [Builtin.append_,run_underlying ht,run_underlying hD,hsw,typeInfo,hi,hi1,hi2,hx.len,hnc,hfit,h1,h2,hzr,grownCap,Question.forced,h63',dM]<;>(rw [←Array.append_assoc];simp)
 have fin:∀ (A:Option Addr) (cap:Nat),v=.slice A n cap→cap<n+m→(∀ w':World,w'.heap=w.heap→(Builtin.firstCells size n v).run P w'=.ok xs.toArray w')→_ :=
  fun A cap hv hlt hf=>by
   have hge:=grownCap_ge w (n+m) cap e
   have hcm:grownCap w (n+m) cap e≤maxLen:=grownCap_le_maxLen w (n+m) cap e h63
   exact (⟨_,_,grow A cap hv hlt hf,⟨hlen,.inr ⟨w.heap.size,_,_,(0,0),rfl,heap_alloc_new w.drew _,hge,hcm,by
     simp only [Array.size_append,List.size_toArray,size_zeroCells,hzs,ho.1,hx.size,←Nat.add_mul]
     congr 1
     omega,by
     simp only [Array.toList_append,List.append_assoc]
     rw [←List.append_assoc,←hlen]
     exact List.take_left,.inl rfl⟩⟩,rfl,rfl,rfl,by simp,fun i hi _=>Below.heap_alloc w.drew _ i hi,fun i hi=>by
     simp only [Value.ownBlock,Option.toList_some,List.mem_singleton] at hi
     subst hi
     exact ⟨by simp,.inr (Nat.le_refl _)⟩⟩ :
    ∃ v' w',(Builtin.append_ #[t,u] ty #[v,x]).run P w=.ok v' w'∧ORow w' e size v' (n+m) (xs++news)∧w'.os=w.os∧w'.tape=w.tape∧w'.output=w.output∧w.heap.size≤w'.heap.size ∧
     (∀ i,i<w.heap.size→i∉v.ownBlock.toList→w'.heap[i]?=w.heap[i]?)∧(∀ i∈v'.ownBlock.toList,i<w'.heap.size∧(i∈v.ownBlock.toList∨w.heap.size≤i)))
 have hsw:(sizeOf e).run P w=.ok size w:=by simp [sizeOf,typeInfo,hi,hi1]
 rcases ho.2 with ⟨rfl,rfl⟩|⟨g,cap,cur,fz,rfl,hg,hnc,hcm,hcs,htake,hfz⟩
 · have hxs:xs=[]:=List.eq_nil_of_length_eq_zero (by simpa using ho.1)
   subst hxs
   by_cases hm:m=0
   · subst hm
     have hn:news=[]:=List.eq_nil_of_length_eq_zero (by simpa using hx.size)
     subst hn
     refine ⟨.slice none 0 0,w,?_,⟨by simp,.inl ⟨rfl,rfl⟩⟩,rfl,rfl,rfl,Nat.le_refl _,fun _ _ _=>rfl,fun i hi=>by simp [Value.ownBlock] at hi⟩
     have h2:=hx.cells w rfl
     rcases fE hu with hD|⟨e',hD⟩<;>simp [Builtin.append_,run_underlying ht,run_underlying hD,hsw,hx.len,h2]
   · refine fin none 0 rfl aa fun w' _=>?_
     simp [Builtin.firstCells]
 · have hglt:g<w.heap.size:=(Array.getElem?_eq_some_iff.1 hg).1
   by_cases hroom:n+m≤cap
   · have h2:=hx.cells w rfl
     have hfit:n*size+news.length≤cur.size:=by
      rw [hcs,hx.size,←Nat.add_mul]
      exact Nat.mul_le_mul_right _ hroom
     have hst:=dr P g (n*size) e fz news 0 cur w hg hfz (by simpa using hfit) hx.one
     simp only [Nat.add_zero] at hst
     have hadd:(⟨g,0,none⟩:Addr).add (n*size)=⟨g,n*size,none⟩:=by unfold Addr.add;split<;>simp_all
     refine ⟨.slice (some ⟨g,0,none⟩) (n+m) cap,w.setRow g (cur.toList.take (n*size)++news++cur.toList.drop (n*size+news.length)).toArray,?_,⟨hlen,.inr ⟨g,cap,_,fz,rfl,Go.setRow_heap w g cur _ e fz hg,hroom,hcm,?_,?_,?_⟩⟩,rfl,rfl,rfl,by rw [setRow_size];exact Nat.le_refl _,?_,?_⟩
     · rcases fE hu with hD|⟨e',hD⟩<;>simp [Builtin.append_,run_underlying ht,run_underlying hD,hsw,hx.len,h2,hroom,hadd,hst]
     · simp only [List.size_toArray,List.length_append,List.length_take,List.length_drop,Array.length_toList]
       omega
     · rw [htake,←hlen]
       exact List.take_left
     · simp only [List.size_toArray,List.length_append,List.length_take,List.length_drop,Array.length_toList]
       omega
     · intro i _ hi
       exact setRow_heap _ _ _ _ (fun e=>hi (by simp [Value.ownBlock,e]))
     · intro i hi
       simp only [Value.ownBlock,Option.toList_some,List.mem_singleton] at hi
       subst hi
       exact ⟨by rw [setRow_size];exact hglt,.inl (by simp [Value.ownBlock])⟩
   · refine fin (some ⟨g,0,none⟩) cap rfl aa fun w' hw'=>?_
     have hl:=run_loadCells_list (P:=P) w' ⟨g,0,none⟩ xs (fun j u hj=>by
      have hadd:(⟨g,0,none⟩:Addr).add j=⟨g,j,none⟩:=by unfold Addr.add;split<;>simp_all
      rw [hadd,cell_of_row w' g j cur e fz (by rw [hw'];exact hg)]
      rw [←htake,List.getElem?_take] at hj
      split at hj
      · simpa using hj
      · cases hj)
     rw [ho.1] at hl
     simp [Builtin.firstCells,hl]
theorem aC {n:Nat} {s x:Operand} {t u e size bytes:Nat} [hs:Ea P t e size bytes] {z:Value} [hz:Xo P e z] {v vx:Value} {m q:Nat} {xs news:List Value} {L:Value→List Xk}
  [hu:TySrc P u] (hzs:z.cells.size=size:=by rfl) (hsz:Nat.blt 0 size=true:=by rfl)
  (hv:ev E s=some v:=by rfl) (hx:ev E x=some vx:=by rfl) (hA:∀ v',At (orow e size v m xs) (orow e size v' (m+q) (xs++news)) loc (L v')) (hsrc:∀ w,Xq av bor w0 loc X w→Src P w size vx q news)
  (h63:(m+q)*bytes≤140737488355328) (h1:m+q≤maxLen) (hg:gdB ops E g=some (bb,want):=by rfl) (hb:bb=want:=by exact aq) (hd:Nat.blt n N=true:=by rfl)
  (h:∀ A c,Sw P N av bor w0 ops rest ⟨(n,.slice A (m+q) c)::E,L (.slice A (m+q) c),X⟩ k):Sw P N av bor w0 ops (⟨some n,.call ⟨.builtin .append,#[s,x],#[t,u]⟩,ty,pos,af,g⟩::rest) ⟨E,loc,X⟩ k:=Sw.mk fun a w ok=>by
 have hd':inB N (some n)=true:=by have h1:n<N:=Nat.le_of_ble_eq_true hd;simpa [inB] using h1
 have ho:ORow w e size v m xs:=(ok.gam.here _ (hA v).mem).now
 obtain ⟨v',w',hr,ho',k1,k2,k3,k4,k5,k6⟩:=nL (P:=P) (ty:=ty) hs.out hz.out hzs (Nat.le_of_ble_eq_true hsz) hu.out ho (hsrc w ok.gam) h1 h63
 have hv':∃ A c,v'=.slice A (m+q) c:=by
  rcases ho'.2 with ⟨rfl,h0⟩|⟨g',cap,_,_,rfl,_⟩
  · exact ⟨none,0,by rw [h0]⟩
  · exact ⟨_,_,rfl⟩
 obtain ⟨A,c,rfl⟩:=hv'
 simp only [wpList]
 rw [aX ok (o:=⟨some n,.call ⟨.builtin .append,#[s,x],#[t,u]⟩,ty,pos,af,g⟩) hg]
 subst hb
 simp only [beq_self_eq_true,if_true]
 left
 unfold Oper.wp
 have hr':(execOp a.eval ⟨some n,.call ⟨.builtin .append,#[s,x],#[t,u]⟩,ty,pos,af,g⟩).run P w=.ok (.value (.slice A (m+q) c)) w':=by
  simp only [execOp,resolve,invoke,builtin,Sem.run_bind,Sem.run_pure,Result.andThen_ok,List.map_toArray,List.map_cons,List.map_nil,ok.eval (st:=⟨E,loc,X⟩) hv,ok.eval (st:=⟨E,loc,X⟩) hx,hr]
 rw [hr']
 have hn:(orow e size (.slice A (m+q) c) (m+q) (xs++news)).fp.Nodup:=by cases A<;>simp [orow,Value.ownBlock]
 have ok':Ok N av bor w0 ⟨E,L (.slice A (m+q) c),X⟩ a w':=(ok.via fun M G=>G.swap ((hA _).app M) k1 k2 k3 k4 k5 hn k6 (dm ho'))
 exact (h A c).run _ _ (cu (some n) _▸ok'.put hd' _)
theorem Xq.nilRow {w:World} (G:Xq av bor w0 loc X w) (e size:Nat):Xq av bor w0 (orow e size (.slice none 0 0) 0 []::loc) X w:=by
 have e1:fps (orow e size (.slice none 0 0) 0 []::loc)=fps loc:=by simp [fps,orow,Value.ownBlock]
 refine ⟨G.fr,G.avb,by rw [e1];exact G.nodup,by rw [e1];exact G.own,fun r hr=>?_,by rw [e1];exact G.keep⟩
 rcases List.mem_cons.1 hr with rfl|hr
 · exact dm ⟨by simp,.inl ⟨rfl,rfl⟩⟩
 · exact G.here r hr
theorem ff (e size:Nat) (h:Sw P N av bor w0 ops rest ⟨E,orow e size (.slice none 0 0) 0 []::loc,X⟩ k):Sw P N av bor w0 ops rest ⟨E,loc,X⟩ k:=Sw.mk fun a w ok=>h.run a w (ok.via fun M G=>G.nilRow e size)
theorem bA {c:Code} (e size:Nat) (h:Cw P N av bor w0 c ⟨E,orow e size (.slice none 0 0) 0 []::loc,X⟩ K):Cw P N av bor w0 c ⟨E,loc,X⟩ K:=Cw.mk fun a w ok=>h.run a w (ok.via fun M G=>G.nilRow e size)
theorem qI {w:World} {s:ByteArray} (hs:s.size≤9223372036854775807):Src P w 1 (.string s) s.size (s.data.toList.map fun b=>.int .u8 b.toNat):=by
 refine ⟨fun w'=>by simp [Builtin.lenOf],fun w' _=>?_,by simp,fun u hu=>?_⟩
 · have e:s.extract 0 s.size=s:=by simp
   simp only [Builtin.firstCells,e,Sem.run_pure]
   congr 1
   apply Array.ext'
   simp
 · simp only [List.mem_map] at hu
   obtain ⟨b,_,rfl⟩:=hu
   rfl
theorem aU {w:World} {b T n size:Nat} {cs:List Value} (G:Xq av bor w0 loc X w) (hm:cel b T cs∈loc) (hl:cs.length=n*size) (h1:cs.all (·.oneCell')=true) (c:Nat):Src P w size (.slice (some ⟨b,0,none⟩) n c) n cs:=by
 have hw:w.heap[b]?=some (.cells cs.toArray T (0,0)):=(G.here _ hm).now
 refine ⟨fun w'=>by simp [Builtin.lenOf],fun w' e=>?_,hl,by simpa using h1⟩
 have:=run_loadCells_list (P:=P) w' ⟨b,0,none⟩ cs (fun j v hv=>by
  have hadd:(⟨b,0,none⟩:Addr).add j=⟨b,j,none⟩:=by unfold Addr.add;split<;>simp_all
  rw [hadd,cell_of_row w' b j _ _ _ (by rw [e];exact hw)]
  simpa using hv)
 rw [hl] at this
 simp [Builtin.firstCells,this]
theorem eL {w:World} {size:Nat} {s:Xj} {xs:List (List Value)} (h:Xe w size s xs) (h1:∀ cs∈xs,cs.all (·.oneCell')=true):Src P w size s.v s.n xs.flatten:=by
 have hlen:xs.flatten.length=s.n*size:=by
  rw [List.length_flatten,h.len]
  have:∀ x∈xs.map List.length,x=size:=by
   intro x hx
   obtain ⟨cs,hcs,rfl⟩:=List.mem_map.1 hx
   obtain ⟨i,hi⟩:=List.mem_iff_getElem?.1 hcs
   exact (h.row i cs hi).1
  rw [List.eq_replicate_of_mem this]
  simp
 refine ⟨fun w'=>by simp [Builtin.lenOf,Xj.v],fun w' e=>?_,hlen,fun u hu=>?_⟩
 · obtain ⟨p,n,c⟩:=s
   cases p with
   | none =>
    have:xs=[]:=by
     cases xs with
     | nil=>rfl
     | cons cs r=>have:=(h.row 0 cs rfl).2.1;simp at this
    subst this
    simp [Builtin.firstCells,Xj.v]
   | some a =>
    have:=run_loadCells_list (P:=P) w' a xs.flatten (fun j v hv=>by
     have key:∀ (l:List (List Value)) (i0:Nat),(∀ i cs,l[i]?=some cs→cs.length=size∧∀ j u,cs[j]?=some u→CellAt w (some a) ((i0+i)*size+j) u)→∀ j v,l.flatten[j]?=some v→w.cell? (a.add (i0*size+j))=some v:=by
      intro l
      induction l with
      | nil=>intro _ _ j v hv;simp at hv
      | cons cs r ih =>
       intro i0 hl j v hv
       have h0:=hl 0 cs rfl
       rw [List.flatten_cons] at hv
       rcases Nat.lt_or_ge j cs.length with hj|hj
       · rw [List.getElem?_append_left hj] at hv
         have:=(h0.2 j v hv).2 a rfl
         simpa using this
       · rw [List.getElem?_append_right hj] at hv
         have:=ih (i0+1) (fun i cs' hi=>by
          have:=hl (i+1) cs' (by simpa using hi)
          rw [show i0+1+i=i0+(i+1) from by omega]
          exact this) (j-cs.length) v hv
         rw [h0.1] at this hj
         rw [show i0*size+j=(i0+1)*size+(j-size) from by rw [Nat.add_mul];omega]
         exact this
     have:=key xs 0 (fun i cs hi=>⟨(h.row i cs hi).1,fun j u hj=>by simpa using (h.row i cs hi).2.2 j u hj⟩) j v hv
     have hc:w'.cell? (a.add j)=w.cell? (a.add j):=by simp [World.cell?,e]
     rw [hc]
     simpa using this)
    rw [hlen] at this
    simp [Builtin.firstCells,Xj.v,this]
 · simp only [List.mem_flatten] at hu
   obtain ⟨cs,hcs,hu⟩:=hu
   have:=h1 cs hcs
   simp only [List.all_eq_true] at this
   exact this u hu
def ofInts (ns:List Int):ByteArray:=ns.foldl (fun r n=>r.push (UInt8.ofNat n.toNat)) ByteArray.empty
def u8s (ns:List Int):List Value:=ns.map (Value.int .u8)
def bytesI (s:ByteArray):List Int:=s.data.toList.map fun b=>(b.toNat:Int)
theorem bU (a b:List Int):u8s (a++b)=u8s a++u8s b:=by simp [u8s]
theorem gM {w:World} {s:ByteArray} (hs:s.size≤9223372036854775807):Src P w 1 (.string s) s.size (u8s (bytesI s)):=by
 have:=qI (P:=P) (w:=w) hs
 simpa [u8s,bytesI,List.map_map,Function.comp_def] using this
theorem Bd {st:St} {x:Operand} {t t2 e b':TypeId} [hs:Ea P t e 1 b'] [he:Xw P e .u8] [h2:Eb P t2] {v:Value} {n:Nat} {ns:List Int} (hx:ev st.env x=some v) (hm:orow e 1 v n (u8s ns)∈st.loc) :
  Sy.Yields P N av bor w0 st (.convert t t2 x) ty (.string (ofInts ns)):=Sy.Yields.mk fun A w ok d pos af g=>by
 have ho:ORow w e 1 v n (u8s ns):=(ok.gam.here _ hm).now
 have hl:(u8s ns).length=n:=by have:=ho.1;omega
 rcases ho.2 with ⟨rfl,rfl⟩|⟨g,cap,cur,fz,rfl,hg,hnc,hcm,hcs,htake,hfz⟩
 · have:ns=[]:=by simpa [u8s] using hl
   subst this
   have:=run_convert_bytes_string (P:=P) w t t2 e none 0 0 (cf hs.out).1 he.out h2.out
   simp [execOp,ok.eval hx,this,Conv.bytesToString,ofInts]
 · have hlc:=run_loadCells_list (P:=P) w ⟨g,0,none⟩ (u8s ns) (fun j u hj=>by
    have hadd:(⟨g,0,none⟩:Addr).add j=⟨g,j,none⟩:=by unfold Addr.add;split<;>simp_all
    rw [hadd,cell_of_row w g j cur e fz hg]
    rw [←htake,List.getElem?_take] at hj
    split at hj
    · simpa using hj
    · cases hj)
   rw [hl] at hlc
   have h3:=run_bytesToString (P:=P) w ⟨g,0,none⟩ n cap ns hlc
   have h4:=run_convert_bytes_string (P:=P) w t t2 e (some ⟨g,0,none⟩) n cap (cf hs.out).1 he.out h2.out
   rw [h3] at h4
   simp [execOp,ok.eval hx,h4,ofInts]
theorem dR {nn:Nat} {x:Operand} {t t2 e b':TypeId} [hs:Ea P t e 1 b'] [he:Xw P e .u8] [h2:Eb P t2] {v:Value} {n:Nat} {ns:List Int} (h:Sw P N av bor w0 ops rest ⟨(nn,.string (ofInts ns))::E,loc,X⟩ k) (hx:ev E x=some v:=by rfl) (hm:orow e 1 v n (u8s ns)∈loc:=by exact aL) (hg:gdB ops E g=some (bb,want):=by rfl) (hb:bb=want:=by exact aq) (hd:Nat.blt nn N=true:=by rfl):Sw P N av bor w0 ops (⟨some nn,.convert t t2 x,ty,pos,af,g⟩::rest) ⟨E,loc,X⟩ k :=
 ak (Bd hx hm) hg hb hd h
theorem rs (w:World) (C:Array Value) (e:TypeId):(w.alloc (.cells C e)).freeze ⟨w.heap.size,C.size,none⟩ 1=w.alloc (.cells C e (C.size,C.size+1)):=by
 simp only [World.freeze,World.alloc]
 rw [if_neg (by omega)]
 congr 1
 apply Array.ext_getElem?
 intro i
 rw [Array.getElem?_modify]
 by_cases h:w.heap.size=i
 · subst h
   simp
 · have h':¬ i=w.heap.size:=fun e=>h e.symm
   simp [h,h',Array.getElem?_push]
theorem yM {w:World} {e:TypeId} {s:ByteArray}:(Conv.stringToBytes e s).run P w=.ok (.slice (some ⟨w.heap.size,0,none⟩) s.size (grownCap w s.size 0 e))
  (w.drew.alloc (.cells ((s.data.map fun b=>Value.int .u8 b.toNat)++Array.replicate (grownCap w s.size 0 e-s.size) (.int .u8 0)) e
   ((((s.data.map fun b=>Value.int .u8 b.toNat)++Array.replicate (grownCap w s.size 0 e-s.size) (.int .u8 0)):Array Value).size,(((s.data.map fun b=>Value.int .u8 b.toNat)++Array.replicate (grownCap w s.size 0 e-s.size) (.int .u8 0)):Array Value).size+1))):=by
 have h1:(choose (.appendCap s.size 0 e)).run P w=.ok (grownCap w s.size 0 e) w.drew:=rfl
 unfold Conv.stringToBytes
 simp only [Sem.run_bind,h1,Result.andThen_ok,dM]
 generalize ((s.data.map fun b=>Value.int .u8 b.toNat)++Array.replicate (grownCap w s.size 0 e-s.size) (.int .u8 0):Array Value)=C
 have h2:(markStringish ⟨w.drew.heap.size,0,none⟩).run P (w.drew.alloc (.cells C e))=.ok () (w.drew.alloc (.cells C e (C.size,C.size+1))):=by
  have hs:(w.drew.alloc (.cells C e)).shape? w.heap.size=some (e,C.size):=by
   have:=heap_alloc_new w.drew (.cells C e)
   unfold World.shape?
   rw [show w.heap.size=w.drew.heap.size from rfl,this]
  have:=rs w.drew C e
  simp [markStringish,hs]
  exact this
 rw [h2]
 simp
theorem qF {n:Nat} {x:Operand} {t t2 e b':TypeId} [hs:Ea P t2 e 1 b'] [he:Xw P e .u8] [h2:Eb P t] {s:ByteArray} (h:∀ A c,Sw P N av bor w0 ops rest ⟨(n,.slice A s.size c)::E,orow e 1 (.slice A s.size c) s.size (u8s (bytesI s))::loc,X⟩ k) (hx:ev E x=some (.string s):=by rfl) (hsz:s.size≤4611686018427387904:=by omega) (hg:gdB ops E g=some (bb,want):=by rfl) (hb:bb=want:=by exact aq) (hd:Nat.blt n N=true:=by rfl):Sw P N av bor w0 ops (⟨some n,.convert t t2 x,ty,pos,af,g⟩::rest) ⟨E,loc,X⟩ k:=Sw.mk fun a w ok=>by
 have hd':inB N (some n)=true:=by have h1:n<N:=Nat.le_of_ble_eq_true hd;simpa [inB] using h1
 have hge:s.size≤grownCap w s.size 0 e:=grownCap_ge w s.size 0 e
 have hcm:grownCap w s.size 0 e≤maxLen:=grownCap_le_maxLen w s.size 0 e (by simp only [maxLen];omega)
 have hr0:=yM (P:=P) (w:=w) (e:=e) (s:=s)
 generalize grownCap w s.size 0 e=c at hge hcm hr0
 generalize hC:((s.data.map fun b=>Value.int .u8 b.toNat)++Array.replicate (c-s.size) (.int .u8 0):Array Value)=C at hr0
 have hCs:C.size=c:=by rw [←hC];simp;omega
 have hCt:C.toList.take s.size=u8s (bytesI s):=by
  rw [←hC]
  simp only [Array.toList_append,Array.toList_map]
  rw [List.take_append_of_le_length (by simp)]
  rw [List.take_of_length_le (by simp)]
  simp [u8s,bytesI]
 simp only [wpList]
 rw [aX ok (o:=⟨some n,.convert t t2 x,ty,pos,af,g⟩) hg]
 subst hb
 simp only [beq_self_eq_true,if_true]
 left
 unfold Oper.wp
 have hr:(execOp a.eval ⟨some n,.convert t t2 x,ty,pos,af,g⟩).run P w=.ok (.value (.slice (some ⟨w.heap.size,0,none⟩) s.size c)) (w.drew.alloc (.cells C e (C.size,C.size+1))):=by
  simp [execOp,ok.eval (st:=⟨E,loc,X⟩) hx,convert,run_underlying h2.out,run_underlying (cf hs.out).1,run_underlying he.out,hr0]
 rw [hr]
 have ok':Ok N av bor w0 ⟨E,orow e 1 (.slice (some ⟨w.heap.size,0,none⟩) s.size c) s.size (u8s (bytesI s))::loc,X⟩ a (w.drew.alloc (.cells C e (C.size,C.size+1))):=(ok.via fun M G=>(G.drew).new (.cells C e (C.size,C.size+1)) (fun w2=>ORow w2 e 1 (.slice (some ⟨w.heap.size,0,none⟩) s.size c) s.size (u8s (bytesI s))) (fun w2 h=>⟨by simp [u8s,bytesI],.inr ⟨w.heap.size,c,C,_,rfl,h,hge,hcm,by omega,by simpa using hCt,.inr (Nat.le_refl _)⟩⟩))
 exact (h _ _).run _ _ (cu (some n) _▸ok'.put hd' _)
end
end Go.Proofs.YtggionfjlgfihaaGreatDoor.Sy
namespace Go.Proofs.YtggionfjlgfihaaGreatDoor.Sy
open Go Go.RowKit Go.MapKept
class Xm (κ:Type) where
 d:TypeDesc
 enc:κ→Value
 eqb:κ→κ→Bool
 ok:∀ a,IsKey d (enc a)
 same:∀ a b,Instr.sameNow d (enc a) (enc b)=some (eqb a b)
 eqb_iff:∀ a b,eqb a b=true↔a=b
instance:Xm Int:=⟨.int .i64,.int .i64,fun a b=>decide (a=b),fun a=>rfl,fun a b=>by simp [Instr.sameNow];rfl,fun a b=>by simp⟩
instance:Xm ByteArray:=⟨.string,.string,fun a b=>a==b,fun a=>trivial,fun a b=>rfl,bytes_beq⟩
def keyD (κ:Type) [Xm κ]:TypeDesc:=Xm.d κ
section
variable {κ:Type} [Xm κ] {β:Type}
def mget:List (κ×β)→κ→Option β
 | [],_=>none
 | (k',v')::r,k=>bif Xm.eqb k k' then some v' else mget r k
def mput:List (κ×β)→κ→β→List (κ×β)
 | [],k,v=>[(k,v)]
 | (k',v')::r,k,v=>bif Xm.eqb k k' then (k,v)::r else (k',v')::mput r k v
def MapAt (w:World) (g:Nat) (l:List (κ×Value)):Prop :=
 ∃ es clock,w.heap[g]?=some (.map es clock)∧Stamped es clock∧es.toList.map (fun e=>(e.key,e.val))=l.map fun p=>(Xm.enc p.1,p.2)
def mapr (g:Nat) (l:List (κ×Value)):Xk:=⟨[g],fun w=>MapAt w g l⟩
theorem iP (k:κ):∀ (es:List MapEntry) (l:List (κ×Value)) (i:Nat),es.map (fun e=>(e.key,e.val))=l.map (fun p=>(Xm.enc p.1,p.2)) →
  (Instr.findNow (keyD κ) (Xm.enc k) es i=some none∧mget l k=none∧(∀ v,mput l k v=l++[(k,v)])∧∀ x∈es,x.key≠Xm.enc k) ∨
  ∃ j e v0,Instr.findNow (keyD κ) (Xm.enc k) es i=some (some (i+j,v0))∧es[j]?=some e∧e.key=Xm.enc k∧mget l k=some v0∧∀ v,mput l k v=l.set j (k,v)
 | [],l,i,h=>by
  have:l=[]:=by cases l<;>simp_all
  subst this
  exact .inl ⟨rfl,rfl,fun _=>rfl,by simp⟩
 | e::es,[],i,h=>by simp at h
 | e::es,(k',v')::l,i,h=>by
  simp only [List.map_cons,List.cons.injEq,Prod.mk.injEq] at h
  obtain ⟨⟨h1,h2⟩,h3⟩:=h
  have hs:Instr.sameNow (keyD κ) (Xm.enc k) e.key=some (Xm.eqb k k'):=by rw [h1];exact Xm.same k k'
  cases hb:Xm.eqb k k' with
  | true =>
   have hk:=(Xm.eqb_iff k k').1 hb
   exact .inr ⟨0,e,v',by simp [Instr.findNow,hs,hb,h2],rfl,by rw [h1,hk],by simp [mget,hb],fun v=>by simp [mput,hb]⟩
  | false =>
   have hne:e.key≠Xm.enc k:=fun q=>by
    have h5:=Xm.same k k
    have h6:Xm.eqb k k=true:=(Xm.eqb_iff k k).2 rfl
    have h7:Instr.sameNow (keyD κ) (Xm.enc k) (Xm.enc k)=some true:=by rw [←h6];exact h5
    rw [q,h7,hb] at hs
    simp at hs
   rcases iP k es l (i+1) h3 with ⟨g1,g2,g3,g4⟩|⟨j,e',v0,g1,g2,g3,g4,g5⟩
   · exact .inl ⟨by simp [Instr.findNow,hs,hb,g1],by simp [mget,hb,g2],fun v=>by simp [mput,hb,g3],fun x hx=>by
      cases hx with
      | head=>exact hne
      | tail _ hx=>exact g4 x hx⟩
   · exact .inr ⟨j+1,e',v0,by simp [Instr.findNow,hs,hb,g1];omega,by simpa using g2,g3,by simp [mget,hb,g4],fun v=>by simp [mput,hb,g5]⟩
def mapOf (P:Program) (t:TypeId):Option (TypeId×TypeDesc) :=
 match P.underlying t with
 | some (.map kt et)=>(P.underlying kt).map fun d=>(et,d)
 | _=>none
class TyMap (P:Program) (t:TypeId) (et:outParam Nat) (d:outParam TypeDesc):Prop where out:mapOf P t=some (et,d)
theorem ig {P:Program} {t et:TypeId} {d:TypeDesc} (h:mapOf P t=some (et,d)):∃ kt,P.underlying t=some (.map kt et)∧P.underlying kt=some d:=by
 unfold mapOf at h
 split at h
 · rename_i kt et' he
   cases hk:P.underlying kt with
   | none=>simp [hk] at h
   | some d' =>
    simp [hk] at h
    obtain ⟨rfl,rfl⟩:=h
    exact ⟨kt,he,hk⟩
 · cases h
theorem je {P:Program} {w:World} {t et:TypeId} (ht:mapOf P t=some (et,keyD κ)) {g:Nat} {l:List (κ×Value)} (h:MapAt w g l) (k:κ) (v:Value) :
  ∃ o,(Instr.mapUpdate t (.map (some g)) (Xm.enc k) v).run P w=.ok () { w with heap:=w.heap.setIfInBounds g o }∧∀ w':World,w'.heap[g]?=some o→MapAt w' g (mput l k v):=by
 obtain ⟨kt,h1,h2⟩:=ig ht
 obtain ⟨es,clock,hb,hs,hl⟩:=h
 have hk:=Xm.ok k
 rcases iP k es.toList l 0 hl with ⟨g1,g2,g3,g4⟩|⟨j,e,v0,g1,g2,g3,g4,g5⟩
 · refine ⟨.map (es.push { key:=Xm.enc k,val:=v,born:=clock }) (clock+1),?_,fun w' hw=>⟨_,_,hw,stamped_push hs g4,?_⟩⟩
   · simp [Instr.mapUpdate,run_underlying h1,MapKept.run_getObj_map hb,MapKept.run_checkKey h2 hk,MapKept.run_findKey h2 g1,MapKept.run_setObj_map _ hb,Result.andThen]
   · rw [g3]
     simp [hl]
 · have hj:es[j]?=some e:=by simpa using g2
   refine ⟨.map (es.modify j fun e=>{ e with key:=Xm.enc k,val:=v }) clock,?_,fun w' hw=>⟨_,_,hw,stamped_modify hs _ _ (fun _ _=>rfl) (fun e' _ he'=>by rw [hj] at he';cases he';exact g3.symm),?_⟩⟩
   · simp [Instr.mapUpdate,run_underlying h1,MapKept.run_getObj_map hb,MapKept.run_checkKey h2 hk,MapKept.run_findKey h2 g1,hj,g3,MapKept.run_keyThatStays hk,MapKept.run_setObj_map _ hb,Result.andThen]
   · rw [g5]
     apply List.ext_getElem?
     intro q
     have hq:=congrArg (fun l=>l[q]?) hl
     simp only [List.getElem?_map,Array.getElem?_toList] at hq
     simp only [List.getElem?_map,Array.getElem?_toList,Array.getElem?_modify,List.getElem?_set]
     by_cases e1:j=q
     · subst e1
       have hlt:j<l.length:=by
        rcases Nat.lt_or_ge j l.length with h|h
        · exact h
        · rw [hj,List.getElem?_eq_none h] at hq;simp at hq
       simp [hj,hlt]
     · simp [e1,hq]
theorem lW {P:Program} {w:World} {t et:TypeId} {z:Value} (ht:mapOf P t=some (et,keyD κ)) (hz:zeroOf P et=some z) {g:Nat} {l:List (κ×Value)} (h:MapAt w g l) (k:κ) (c:Bool) :
  (Instr.lookup t (.map (some g)) (Xm.enc k) c).run P w=.ok (if c then .tuple #[(mget l k).getD z,.bool (mget l k).isSome] else (mget l k).getD z) w:=by
 obtain ⟨kt,h1,h2⟩:=ig ht
 obtain ⟨es,clock,hb,hs,hl⟩:=h
 have hk:=Xm.ok k
 have hzr:(zeroValue et).run P w=.ok z w:=dj hz w
 rcases iP k es.toList l 0 hl with ⟨g1,g2,g3,g4⟩|⟨j,e,v0,g1,g2,g3,g4,g5⟩
 · cases c<;>simp [Instr.lookup,run_underlying h1,MapKept.run_getObj_map hb,MapKept.run_checkKey h2 hk,MapKept.run_findKey h2 g1,hzr,g2,Result.andThen]
 · cases c<;>simp [Instr.lookup,run_underlying h1,MapKept.run_getObj_map hb,MapKept.run_checkKey h2 hk,MapKept.run_findKey h2 g1,g4,Result.andThen]
end
theorem Xq.give {av bor:List Nat} {w0 w:World} {r:Xk} {loc:List Xk} {X:World→Prop} (G:Xq av bor w0 (r::loc) X w):Xq av bor w0 loc (fun w=>X w∧r.F w) w:=by
 have hn:=G.nodup
 rw [cJ] at hn
 have hn2:=List.nodup_append.1 hn
 refine ⟨G.fr,G.avb,hn2.2.1,fun k hk=>G.own k (by rw [cJ];exact List.mem_append.2 (.inr hk)),fun q hq=>G.here q (List.mem_cons_of_mem _ hq),?_⟩
 refine Keeps.and (G.keep.anti fun k hk=>?_) ⟨fun k=>k∈r.fp,fun k hk=>?_,fun w' e=>G.here r ap w' e⟩
 · rw [cJ]
   rcases List.mem_append.1 hk with h|h
   · exact List.mem_append.2 (.inl h)
   · exact List.mem_append.2 (.inr (List.mem_append.2 (.inr h)))
 · have h1:=G.own k (by rw [cJ];exact List.mem_append.2 (.inl hk))
   refine ⟨h1.1,fun h=>?_⟩
   rcases List.mem_append.1 h with h|h
   · have h2:=G.avb k h
     rcases h1.2 with h3|h3
     · omega
     · exact h2.2 h3
   · exact hn2.2.2 k hk k h rfl
section
variable {P:Program} {N:Nat} {av bor:List Nat} {w0:World} {ops:Array Oper} {rest:List Oper} {k:St→Prop} {E:Env} {loc loc':List Xk} {X:World→Prop}
variable {d:Option Tmp} {ty:TypeId} {pos:String} {af:Array Edge} {g:Option (Nat×Bool)} {bb want:Bool} {K:Exit→St→Prop}
theorem aW {r:Xk} (h:Sw P N av bor w0 ops rest ⟨E,loc,fun w=>X w∧r.F w⟩ k):Sw P N av bor w0 ops rest ⟨E,r::loc,X⟩ k:=Sw.mk fun a w ok=>h.run a w (ok.via fun M G=>G.give)
theorem eK (κ:Type) [Xm κ] {n:Nat} {t:TypeId} (hg:gdB ops E g=some (bb,want):=by rfl) (hb:bb=want:=by exact aq) (hd:Nat.blt n N=true:=by rfl)
  (h:∀ q,Sw P N av bor w0 ops rest ⟨(n,.map (some q))::E,mapr q ([]:List (κ×Value))::loc,X⟩ k):Sw P N av bor w0 ops (⟨some n,.makeMap t none,ty,pos,af,g⟩::rest) ⟨E,loc,X⟩ k:=Sw.mk fun a w ok=>by
 have hd':inB N (some n)=true:=by have h1:n<N:=Nat.le_of_ble_eq_true hd;simpa [inB] using h1
 simp only [wpList]
 rw [aX ok (o:=⟨some n,.makeMap t none,ty,pos,af,g⟩) hg]
 subst hb
 simp only [beq_self_eq_true,if_true]
 left
 unfold Oper.wp
 have hr:(execOp a.eval ⟨some n,.makeMap t none,ty,pos,af,g⟩).run P w=.ok (.value (.map (some w.heap.size))) (w.alloc (.map #[] 0)):=by
  have:(newObj (.map #[] 0)).run P w=.ok w.heap.size (w.alloc (.map #[] 0)):=rfl
  simp [execOp,Instr.makeMap,this]
 rw [hr]
 have ok':Ok N av bor w0 ⟨E,mapr w.heap.size ([]:List (κ×Value))::loc,X⟩ a (w.alloc (.map #[] 0)):=(ok.via fun M G=>G.new (.map #[] 0) (fun w2=>MapAt w2 w.heap.size ([]:List (κ×Value))) fun w2 h=>⟨#[],0,h,stamped_empty 0,rfl⟩)
 exact (h _).run _ _ (cu (some n) _▸ok'.put hd' _)
theorem MapAt.same {κ:Type} [Xm κ] {w w':World} {q:Nat} {l:List (κ×Value)} (h:MapAt w q l) (e:w'.heap[q]?=w.heap[q]?):MapAt w' q l:=by
 obtain ⟨es,c,h1,h2⟩:=h
 exact ⟨es,c,e.trans h1,h2⟩
theorem mC {κ:Type} [Xm κ] {a:Act} {w:World} (ok:Ok N av bor w0 ⟨E,loc,X⟩ a w) {t et:TypeId} (ht:mapOf P t=some (et,keyD κ)) {q:Nat} {l:List (κ×Value)} {kk:κ} {v:Value} (hA:At (mapr q l) (mapr q (mput l kk v)) loc loc') :
  ∃ w',(Instr.mapUpdate t (.map (some q)) (Xm.enc kk) v).run P w=.ok () w'∧Ok N av bor w0 ⟨E,loc',X⟩ a w':=by
 have hm:MapAt w q l:=(ok.gam.here _ hA.mem).now
 obtain ⟨o,hr,ho⟩:=je ht hm kk v
 obtain ⟨es,c,hb,_⟩:=hm
 have hs:=heap_set (o':=o) hb
 refine ⟨_,hr,ok.via fun M G=>G.turn (hA.app M) rfl rfl rfl (by simp) (fun i hi=>hs.2 i hi) fun w2 h2=>ho w2 (h2.trans hs.1)⟩
theorem tK {κ:Type} [Xm κ] {t et:Nat} [ht:TyMap P t et (keyD κ)] {m x y:Operand} {q:Nat} {l:List (κ×Value)} {kk:κ} {v:Value} (h:Sw P N av bor w0 ops rest ⟨putE E d undef,loc',X⟩ k) (hm:ev E m=some (.map (some q)):=by rfl) (hx:ev E x=some (Xm.enc kk):=by rfl) (hy:ev E y=some v:=by rfl) (hA:At (mapr q l) (mapr q (mput l kk v)) loc loc':=by (repeat (first|exact At.here _|apply At.there))) (hg:gdB ops E g=some (bb,want):=by rfl) (hb:bb=want:=by exact aq) (hd:inB N d=true:=by rfl):Sw P N av bor w0 ops (⟨d,.insert t m x y,ty,pos,af,g⟩::rest) ⟨E,loc,X⟩ k:=Sw.mk fun a w ok=>by
 simp only [wpList]
 rw [aX ok (o:=⟨d,.insert t m x y,ty,pos,af,g⟩) hg]
 subst hb
 simp only [beq_self_eq_true,if_true]
 left
 unfold Oper.wp
 obtain ⟨w',hr,ok'⟩:=mC (P:=P) ok ht.out hA
 have hr':(execOp a.eval ⟨d,.insert t m x y,ty,pos,af,g⟩).run P w=.ok .skip w':=by
  simp [execOp,ok.eval (st:=⟨E,loc,X⟩) hm,ok.eval (st:=⟨E,loc,X⟩) hx,ok.eval (st:=⟨E,loc,X⟩) hy,hr]
 rw [hr']
 exact h.run _ _ (cu d _▸ok'.put hd _)
theorem fe {κ:Type} [Xm κ] {t et:Nat} [ht:TyMap P t et (keyD κ)] {m x y:Operand} {q:Nat} {l:List (κ×Value)} {kk:κ} {v:Value} (h:Sw P N av bor w0 ops rest ⟨putE E d undef,loc',X⟩ k) (hm:ev E m=some (.map (some q)):=by rfl) (hx:ev E x=some (Xm.enc kk):=by rfl) (hy:ev E y=some v:=by rfl) (hA:At (mapr q l) (mapr q (mput l kk v)) loc loc':=by (repeat (first|exact At.here _|apply At.there))) (hg:gdB ops E g=some (bb,want):=by rfl) (hb:bb=want:=by exact aq) (hd:inB N d=true:=by rfl):Sw P N av bor w0 ops (⟨d,.mapUpdate t m x y,ty,pos,af,g⟩::rest) ⟨E,loc,X⟩ k:=Sw.mk fun a w ok=>by
 simp only [wpList]
 rw [aX ok (o:=⟨d,.mapUpdate t m x y,ty,pos,af,g⟩) hg]
 subst hb
 simp only [beq_self_eq_true,if_true]
 left
 unfold Oper.wp
 obtain ⟨w',hr,ok'⟩:=mC (P:=P) ok ht.out hA
 have hr':(execOp a.eval ⟨d,.mapUpdate t m x y,ty,pos,af,g⟩).run P w=.ok .skip w':=by
  simp [execOp,ok.eval (st:=⟨E,loc,X⟩) hm,ok.eval (st:=⟨E,loc,X⟩) hx,ok.eval (st:=⟨E,loc,X⟩) hy,hr]
 rw [hr']
 exact h.run _ _ (cu d _▸ok'.put hd _)
theorem vB {κ:Type} [Xm κ] {st:St} {t et:Nat} [ht:TyMap P t et (keyD κ)] {z:Value} [hz:Xo P et z] {m x:Operand} {c:Bool} {q:Nat} {l:List (κ×Value)} {kk:κ} (hm:ev st.env m=some (.map (some q))) (hx:ev st.env x=some (Xm.enc kk))
  (hl:∀ w,Xq av bor w0 st.loc st.ext w→MapAt w q l):Sy.Yields P N av bor w0 st (.lookup t m x c) ty (if c then .tuple #[(mget l kk).getD z,.bool (mget l kk).isSome] else (mget l kk).getD z):=Sy.Yields.mk fun A w ok d pos af g=>by
 have:=lW (P:=P) (t:=t) ht.out hz.out (hl w ok.gam) kk c
 simp [execOp,ok.eval hm,ok.eval hx,this]
theorem dD {κ:Type} [Xm κ] {q:Nat} {l:List (κ×Value)} (hm:mapr q l∈loc):∀ w,Xq av bor w0 loc X w→MapAt w q l:=fun w G=>(G.here _ hm).now
theorem ke {κ:Type} [Xm κ] {q:Nat} {l:List (κ×Value)} (hm:∀ w,X w→MapAt w q l):∀ w,Xq av bor w0 loc X w→MapAt w q l:=fun w G=>hm w G.keep.now
theorem tH {κ:Type} [Xm κ] {n:Nat} {t et:Nat} [ht:TyMap P t et (keyD κ)] {z:Value} [hz:Xo P et z] {m x:Operand} {c:Bool} {q:Nat} {l:List (κ×Value)} {kk:κ} (hm:ev E m=some (.map (some q)):=by rfl) (hx:ev E x=some (Xm.enc kk):=by rfl)
  (hl:∀ w,Xq av bor w0 loc X w→MapAt w q l) (hg:gdB ops E g=some (bb,want):=by rfl) (hb:bb=want:=by exact aq) (hd:Nat.blt n N=true:=by rfl)
  (h:Sw P N av bor w0 ops rest ⟨(n,if c then .tuple #[(mget l kk).getD z,.bool (mget l kk).isSome] else (mget l kk).getD z)::E,loc,X⟩ k):Sw P N av bor w0 ops (⟨some n,.lookup t m x c,ty,pos,af,g⟩::rest) ⟨E,loc,X⟩ k:=ak (vB hm hx hl) hg hb hd h
theorem bF {κ:Type} [Xm κ] {n:Nat} {t et:Nat} [ht:TyMap P t et (keyD κ)] {z:Value} [hz:Xo P et z] {m x:Operand} {q:Nat} {l:List (κ×Value)} {kk:κ} {o:Option Value} {v:Value} {b:Bool} (h:Sw P N av bor w0 ops rest ⟨(n,.tuple #[v,.bool b])::E,loc,X⟩ k) (hm:ev E m=some (.map (some q)):=by rfl) (hx:ev E x=some (Xm.enc kk):=by rfl) (hl:∀ w,Xq av bor w0 loc X w→MapAt w q l) (ho:mget l kk=o) (hv:o.getD z=v:=by rfl) (hbo:o.isSome=b:=by rfl) (hg:gdB ops E g=some (bb,want):=by rfl) (hb:bb=want:=by exact aq) (hd:Nat.blt n N=true:=by rfl):Sw P N av bor w0 ops (⟨some n,.lookup t m x true,ty,pos,af,g⟩::rest) ⟨E,loc,X⟩ k:=by
 subst ho;subst hv;subst hbo
 exact tH hm hx hl hg hb hd h
end
theorem Xq.giveAll {av bor:List Nat} {w0 w:World}:∀ {loc:List Xk} {X:World→Prop},Xq av bor w0 loc X w→Xq av bor w0 [] (fun w=>X w∧∀ r∈loc,r.F w) w
  | [],X,G=>G.imp fun _ h=>⟨h,by simp⟩
  | r :: loc,X,G=>(Xq.giveAll G.give).imp fun w h=>⟨h.1.1,fun q hq=>by
      rcases List.mem_cons.1 hq with rfl|hq
      · exact h.1.2
      · exact h.2 q hq⟩
theorem ux {P:Program} {f:FuncId} {fn:Func} {c:Code} {args:List Value} {X:World→Prop} {Φ:Value→(World→Prop)→Prop} (N:Nat)
  (hf:P.funcs[f]?=some fn) (hb:fn.body=some c) (hN:fn.ntmps=N) (hn:Nat.ble args.length N=true)
  (h:∀ av bor w0,Cw P N av bor w0 c ⟨params 0 args,[],X⟩ (ends P fn N fun u R X'=>Φ u fun w=>X' w∧∀ r∈R,r.F w)):Mk P f args.toArray X Φ:=by
 unfold Mk
 exact Ct.mk fun w av G=>by
  have h1:=(ft (P:=P) (Post:=fun u R X'=>Φ u fun w=>X' w∧∀ r∈R,r.F w) N hf hb hN hn h).run w av G
  refine h1.mono fun e w' ⟨u,R,X',he,hu,G'⟩=>⟨u,[],_,he,⟨hu,rfl⟩,G'.giveAll⟩
theorem cC {P:Program} {f:FuncId} {fn:Func} {c:Code} {args:List Value} {X:World→Prop} {Φ:Value→(World→Prop)→Prop} {N:Nat} (hf:P.funcs[f]?=some fn) (hN:fn.ntmps=N) (h:∀ av bor w0,Cw P N av bor w0 c ⟨params 0 args,[],X⟩ (ends P fn N fun u R X'=>Φ u fun w=>X' w∧∀ r∈R,r.F w)) (hb:fn.body=some c:=by rfl) (hn:Nat.ble args.length N=true:=by rfl):Mk P f args.toArray X Φ:=ux N hf hb hN hn h
end Go.Proofs.YtggionfjlgfihaaGreatDoor.Sy
namespace Go.Proofs.YtggionfjlgfihaaGreatDoor.Sy
open Go Go.RowKit Go.Sort Go.Proofs
def bl (s:ByteArray):List UInt8:=s.data.toList
def lb (l:List UInt8):ByteArray:=⟨l.toArray⟩
theorem zU (s:ByteArray):lb (bl s)=s:=by simp [lb,bl]
theorem tj (l:List UInt8):bl (lb l)=l:=by simp [lb,bl]
def encB (s:ByteArray):Value:=.string s
theorem mS (s:ByteArray):encStr (bl s)=encB s:=by simp [encStr,bl,encB]
theorem ie (l:List (List UInt8)):l.map encStr=(l.map lb).map encB:=by
 rw [List.map_map]
 apply List.map_congr_left
 intro a _
 show encStr a=encB (lb a)
 rw [←mS,tj]
theorem pH (l:List ByteArray):l.map encB=(l.map bl).map encStr:=by
 rw [List.map_map]
 apply List.map_congr_left
 intro a _
 exact (mS a).symm
def sortB (l:List ByteArray):List ByteArray:=((l.map bl).mergeSort leB).map lb
def compB (l:List ByteArray):List ByteArray:=(Lib.compact (l.map bl)).map lb
theorem gN (l:List ByteArray):(sortB l).length=l.length:=by simp [sortB]
theorem ls {α:Type} [Inhabited α] {enc:α→Value} {w:World} {e g n:Nat} {cur:Array Value} {fz:Nat×Nat} {ss:List α} (hb:w.heap[g]?=some (.cells cur e fz)) (hl:ss.length=n) (ht:cur.toList.take (n*1)=ss.map enc)
  (hz:fz.1=fz.2∨cur.size≤fz.1):Go.Sort.Holds enc w g 0 ss.toArray:=by
 intro j hj
 have hj':j<ss.length:=by simpa using hj
 have h1:(cur.toList.take (n*1))[j]?=(ss.map enc)[j]?:=by rw [ht]
 rw [List.getElem?_take_of_lt (by omega)] at h1
 have hjc:j<cur.size:=by
  rcases Nat.lt_or_ge j cur.size with h|h
  · exact h
  · rw [List.getElem?_eq_none (by simpa using h),List.getElem?_map,List.getElem?_eq_getElem hj'] at h1
    simp at h1
 refine ⟨?_,?_⟩
 · simp only [World.cell?,hb,Nat.zero_add]
   simp only [Option.isSome_none,Bool.false_eq_true,if_false]
   rw [←Array.getElem?_toList,h1]
   simp [hj']
 · obtain ⟨lo,hi⟩:=fz
   simp only [World.frozen?,hb]
   simp only at hz
   have:¬ (lo≤0+j∧0+j<hi):=by omega
   simpa using this
theorem xE {α:Type} [Inhabited α] {enc:α→Value} {w:World} {g n:Nat} {os:Array Obj} {cur:Array Value} {e:Nat} {fr:Nat×Nat} (d:Array α) (hb:w.heap[g]?=some (.cells cur e fr)) :
  (grow (putRow enc (Sort.ahead w n) g 0 d) os).heap[g]?=some (.cells (putCells enc 0 d cur) e fr):=by
 have hg:g<w.heap.size:=(Array.getElem?_eq_some_iff.1 hb).1
 rw [heap_grow_old _ _ (by simpa using hg)]
 simp [putRow,mapBlock,Sort.ahead,Array.getElem?_modify,hb,onCells]
theorem rr {α:Type} [Inhabited α] {enc:α→Value} {w:World} {g n:Nat} {os:Array Obj} (d:Array α) (k:Nat) (hk:k<w.heap.size) (hne:k≠g) :
  (grow (putRow enc (Sort.ahead w n) g 0 d) os).heap[k]?=w.heap[k]?:=by
 rw [heap_grow_old _ _ (by simpa using hk)]
 have:g≠k:=fun e=>hne e.symm
 simp [putRow,mapBlock,Sort.ahead,Array.getElem?_modify,this]
theorem vR {α:Type} [Inhabited α] {enc:α→Value} (cur:Array Value) (ts us:List α) (h:(ts++us).length≤cur.size):(putCells enc 0 (ts++us).toArray cur).toList.take ts.length=ts.map enc:=by
 apply List.ext_getElem?
 intro j
 by_cases hj:j<ts.length
 · rw [List.getElem?_take_of_lt hj,Array.getElem?_toList]
   have h2:ts.length+us.length≤cur.size:=by simpa using h
   simp [putCells,hj,show j<cur.size by omega,show j<ts.length+us.length by omega]
 · rw [List.getElem?_take_eq_none aa,List.getElem?_eq_none (by simp;omega)]
theorem Xq.putRow {α:Type} [Inhabited α] {enc:α→Value} {av bor:List Nat} {w0 w:World} {loc loc':List Xk} {X:World→Prop} {e g cap n n' q:Nat} {xs:List Value} {cur:Array Value} {fz:Nat×Nat} {os:Array Obj} {ts us:List α}
  (G:Xq av bor w0 loc X w) (hb:w.heap[g]?=some (.cells cur e fz)) (hcm:cap≤maxLen) (hcs:cur.size=cap) (hz:fz.1=fz.2∨cur.size≤fz.1) (hle:n'≤cap) (htl:ts.length=n') (hus:(ts++us).length≤cap)
  (hA:At (orow e 1 (.slice (some ⟨g,0,none⟩) n cap) n xs) (orow e 1 (.slice (some ⟨g,0,none⟩) n' cap) n' (ts.map enc)) loc loc') :
  Xq av bor w0 loc' X (grow (Go.Sort.putRow enc (Sort.ahead w q) g 0 (ts++us).toArray) os):=by
 have hg:g<w.heap.size:=(Array.getElem?_eq_some_iff.1 hb).1
 refine G.swap hA rfl rfl rfl (by simp) (fun i hi hne=>rr _ i hi ?_) (by simp [orow,Value.ownBlock]) (fun i hi=>?_) (dm ?_)
 · simpa [orow,Value.ownBlock] using hne
 · simp only [orow,Value.ownBlock,Option.toList_some,List.mem_singleton] at hi ⊢
   subst hi
   exact ⟨by simp;omega,.inl rfl⟩
 · refine ⟨by simp [htl],.inr ⟨g,cap,_,fz,rfl,xE _ hb,hle,hcm,by simp [putCells,hcs],?_,by simpa [putCells] using hz⟩⟩
   rw [Nat.mul_one,←htl]
   exact vR cur ts us aa
section
variable {P:Program} {f:FuncId}
structure SortC {α:Type} [Inhabited α] (P:Program) (f:FuncId) (enc:α→Value) (srt:List α→List α):Prop where
 some_:∀ (blk off cap:Nat) (ss:List α) (w:World),Go.Sort.Holds enc w blk off ss.toArray→blk<w.heap.size→ss.length<4611686018427387904 →
  Calls P f #[.slice (some ⟨blk,off,none⟩) ss.length cap] w fun e w'=>e=.returned (.tuple #[])∧∃ n os,w'=grow (Go.Sort.putRow enc (Sort.ahead w n) blk off (srt ss).toArray) os
 none_:∀ (p:Option Addr) (cap:Nat) (w:World),Calls P f #[.slice p 0 cap] w fun e w'=>e=.returned (.tuple #[])∧w'=w
 len:∀ ss,(srt ss).length=ss.length
theorem SortC.ct {α:Type} [Inhabited α] {enc:α→Value} {srt:List α→List α} (h:SortC P f enc srt) {e n:Nat} {v:Value} {ss:List α} (hn:n≤1000000000) :
  Ct P f #[v] [orow e 1 v n (ss.map enc)] (fun _=>True) fun u R _=>u=.tuple #[]∧R=[orow e 1 v n ((srt ss).map enc)]:=Ct.mk fun w av G=>by
 have ho:ORow w e 1 v n (ss.map enc):=(G.here _ ap).now
 have hl:ss.length=n:=by simpa using ho.1
 rcases ho.2 with ⟨rfl,rfl⟩|⟨g,cap,cur,fz,rfl,hg,hnc,hcm,hcs,htake,hfz⟩
 · have hss:ss=[]:=List.eq_nil_of_length_eq_zero hl
   have hss':srt ss=[]:=List.eq_nil_of_length_eq_zero (by rw [h.len,hl])
   refine (h.none_ none 0 w).mono fun e w' ⟨h1,h2⟩=>⟨_,_,fun _=>True,h1,⟨rfl,rfl⟩,?_⟩
   subst h2
   rw [hss']
   rw [hss] at G
   exact G
 · have hgl:g<w.heap.size:=(Array.getElem?_eq_some_iff.1 hg).1
   subst hl
   have h62:ss.length<4611686018427387904:=by omega
   refine (h.some_ g 0 cap ss w (ls hg rfl htake hfz) hgl h62).mono fun e w' ⟨h1,n,os,h2⟩=>⟨_,_,fun _=>True,h1,⟨rfl,rfl⟩,?_⟩
   subst h2
   have:=G.putRow (us:=[]) (ts:=srt ss) (q:=n) (os:=os) (enc:=enc) hg hcm aa hfz hnc (h.len ss) (by simp [h.len];omega) (At.here [])
   rw [List.append_nil] at this
   exact this
structure CompC {α:Type} [Inhabited α] (P:Program) (f:FuncId) (enc:α→Value) (z:α) (cmp:List α→List α):Prop where
 some_:∀ (blk off cap:Nat) (ss:List α) (w:World),Go.Sort.Holds enc w blk off ss.toArray→ss.length≤9223372036854775807→ss.length≤cap →
  Calls P f #[.slice (some ⟨blk,off,none⟩) ss.length cap] w fun e w'=>e=.returned (.slice (some ⟨blk,off,none⟩) (cmp ss).length cap)∧∃ q,w'=Go.Sort.putRow enc (Sort.ahead w q) blk off (cmp ss++List.replicate (ss.length-(cmp ss).length) z).toArray
 none_:∀ (a:Option Addr) (cap:Nat) (w:World),Calls P f #[.slice a 0 cap] w fun e w'=>e=.returned (.slice a 0 cap)∧w'=w
 len:∀ ss,(cmp ss).length≤ss.length
theorem CompC.ct {α:Type} [Inhabited α] {enc:α→Value} {z:α} {cmp:List α→List α} (h:CompC P f enc z cmp) {e n:Nat} {v:Value} {ss:List α} :
  Ct P f #[v] [orow e 1 v n (ss.map enc)] (fun _=>True) fun u R _=>∃ A c,u=.slice A (cmp ss).length c∧R=[orow e 1 u (cmp ss).length ((cmp ss).map enc)]:=Ct.mk fun w av G=>by
 have ho:ORow w e 1 v n (ss.map enc):=(G.here _ ap).now
 have hl:ss.length=n:=by simpa using ho.1
 rcases ho.2 with ⟨rfl,rfl⟩|⟨g,cap,cur,fz,rfl,hg,hnc,hcm,hcs,htake,hfz⟩
 · have hss:ss=[]:=List.eq_nil_of_length_eq_zero hl
   have hss':cmp ss=[]:=List.eq_nil_of_length_eq_zero (by have:=h.len ss;omega)
   refine (h.none_ none 0 w).mono fun e w' ⟨h1,h2⟩=>⟨_,_,fun _=>True,h1,⟨none,0,by rw [hss'];rfl,rfl⟩,?_⟩
   subst h2
   rw [hss']
   rw [hss] at G
   exact G
 · subst hl
   have h62:ss.length≤9223372036854775807:=by simp only [maxLen] at hcm;omega
   have hlen:=h.len ss
   refine (h.some_ g 0 cap ss w (ls hg rfl htake hfz) h62 hnc).mono fun e w' ⟨h1,q,h2⟩=>⟨_,_,fun _=>True,h1,⟨_,_,rfl,rfl⟩,?_⟩
   subst h2
   have:=G.putRow (us:=List.replicate (ss.length-(cmp ss).length) z) (ts:=cmp ss) (n':=(cmp ss).length) (q:=q) (os:=#[]) (enc:=enc) hg hcm aa hfz aa rfl (by simp;omega) (At.here [])
   rw [grow_empty] at this
   exact this
end
end Go.Proofs.YtggionfjlgfihaaGreatDoor.Sy
namespace Go.Proofs.YtggionfjlgfihaaGreatDoor.Sy
open Go Go.RowKit Go.Sort Go.Proofs Go.MapKept Go.Maps Go.Shelf
theorem Xq.more {av bor:List Nat} {w0 w w':World} {loc:List Xk} {X:World→Prop} {r:Xk} (G:Xq av bor w0 loc X w) (hB:Below w.heap.size w w') (hr:Holds r w') (hn:r.fp.Nodup) (hf:∀ i∈r.fp,w.heap.size≤i∧i<w'.heap.size) :
  Xq av bor w0 (r::loc) X w':=by
 have G0:Xq av bor w0 (⟨[],fun _=>True⟩::loc) X w:=by
  have e1:fps ((⟨[],fun _=>True⟩:Xk)::loc)=fps loc:=by simp [fps]
  refine ⟨G.fr,G.avb,by rw [e1];exact G.nodup,by rw [e1];exact G.own,fun x hx=>?_,by rw [e1];exact G.keep⟩
  rcases List.mem_cons.1 hx with rfl|hx
  · exact fun _ _=>trivial
  · exact G.here x hx
 refine G0.swap (At.here loc) hB.os hB.tape hB.output hB.size (fun i hi _=>hB.block i hi) hn (fun i hi=>⟨(hf i hi).2,.inr (hf i hi).1⟩) hr
theorem iE {w:World} {base e size n:Nat} {v:Value} {xs:List Value} (h:w.ownsRow base e size v n xs):ORow w e size v n xs:=by
 refine ⟨h.1,?_⟩
 rcases h.2 with h0|⟨g,cap,cur,hv,_,hg,h1,h2,h3,h4⟩
 · exact .inl h0
 · exact .inr ⟨g,cap,cur,(0,0),hv,hg,h1,h2,h3,h4,.inl rfl⟩
theorem sj {w:World} {base e size n:Nat} {v:Value} {xs:List Value} (h:w.ownsRow base e size v n xs):(orow e size v n xs).fp.Nodup∧(∀ i∈(orow e size v n xs).fp,base≤i∧i<w.heap.size)∧∃ A c,v=.slice A n c:=by
 rcases h.2 with ⟨rfl,rfl⟩|⟨g,cap,cur,rfl,hb,hg,h1,h2,h3,h4⟩
 · exact ⟨by simp [orow,Value.ownBlock],fun i hi=>by simp [orow,Value.ownBlock] at hi,none,0,rfl⟩
 · refine ⟨by simp [orow,Value.ownBlock],fun i hi=>?_,_,_,rfl⟩
   simp only [orow,Value.ownBlock,Option.toList_some,List.mem_singleton] at hi
   subst hi
   exact ⟨hb,(Array.getElem?_eq_some_iff.1 hg).1⟩
def rTriv:Value→Option (DataW Unit×List MemPlace):=fun _=>some (.nil,[])
theorem sC {κ:Type} [Xm κ] {w:World} {q:Nat} {l:List (κ×Value)} {es:Array MapEntry} (hl:es.toList.map (fun e=>(e.key,e.val))=l.map fun p=>(Xm.enc p.1,p.2)):es.size=l.length:=by
 have:=congrArg List.length hl
 simpa using this
theorem nP {P:Program} {K:Nat} (hk:P.underlying K=some .string) {w:World} {q:Nat} {l:List (ByteArray×Value)} (h:MapAt w q l) (hs:∀ p∈l,p.1.size≤maxLen) (hlen:l.length≤maxLen) :
  ∃ D0:DataW Unit,w.ownsMap P K rTriv q l.length D0∧(strKeys D0).Perm (l.map fun p=>bl p.1)∧Maps.size D0=l.length:=by
 obtain ⟨es,clock,hb,hst,hl⟩:=h
 have hz:=sC (w:=w) (q:=q) hl
 have hkey:∀ x∈es.toList,∃ s:ByteArray,x.key=.string s∧s.size≤maxLen:=by
  intro x hx
  have h1:(x.key,x.val)∈l.map fun p=>(Xm.enc p.1,p.2):=by rw [←hl];exact List.mem_map.2 ⟨x,hx,rfl⟩
  obtain ⟨p,hp,he⟩:=List.mem_map.1 h1
  refine ⟨p.1,?_,hs p hp⟩
  have:=congrArg Prod.fst he
  exact this.symm
 have hrd:∀ x∈es.toList,∃ s:ByteArray,x.key=.string s∧WideElems.rd P K rTriv x=some (.string (bl s),.nil):=by
  intro x hx
  obtain ⟨s,h1,h2⟩:=hkey x hx
  refine ⟨s,h1,?_⟩
  have h3:Go.keyOf P K x.key=some (.string (bl s)):=by rw [h1];simp [Go.keyOf,hk,mapKey,h2,bl]
  simp [WideElems.rd,h3,rTriv]
 refine ⟨_,⟨es,clock,hb,⟨by omega,hst,fun x hx=>?_⟩,by omega,rfl⟩,?_,?_⟩
 · obtain ⟨s,_,h2⟩:=hrd x hx
   exact ⟨_,h2⟩
 · have h1:=(WideShapes.sorted_perm (es.toList.map (WideElems.rg P K rTriv))).map fun p=>strOf p.1
   refine h1.trans ?_
   have h2:(es.toList.map (WideElems.rg P K rTriv)).map (fun p=>strOf p.1)=es.toList.map fun x=>match x.key with|.string s=>bl s|_=>[]:=by
    rw [List.map_map]
    refine List.map_congr_left fun x hx=>?_
    obtain ⟨s,h3,h4⟩:=hrd x hx
    simp [WideElems.rg,h4,h3,strOf]
   have h5:(es.toList.map fun x=>match x.key with|.string s=>bl s|_=>[])=l.map fun p=>bl p.1:=by
    have h6:=congrArg (List.map fun (p:Value×Value)=>match p.1 with|.string s=>bl s|_=>[]) hl
    rw [List.map_map,List.map_map] at h6
    exact h6
   rw [h2,h5]
 · show ((es.toList.map (WideElems.rg P K rTriv)).foldr DataW.insert []).length=l.length
   rw [length_sorted]
   simp [hz]
theorem nQ {P:Program} {K:Nat} (hk:P.underlying K=some (.int .i64)) {w:World} {q:Nat} {l:List (Int×Value)} (h:MapAt w q l) (hs:∀ p∈l,(Lit.int .i64 p.1).wf=true) (hlen:l.length≤maxLen) :
  ∃ D0:DataW Unit,w.ownsMap P K rTriv q l.length D0∧(intKeys D0).Perm (l.map fun p=>p.1)∧Maps.size D0=l.length:=by
 obtain ⟨es,clock,hb,hst,hl⟩:=h
 have hz:=sC (w:=w) (q:=q) hl
 have hkey:∀ x∈es.toList,∃ s:Int,x.key=.int .i64 s∧(Lit.int .i64 s).wf=true:=by
  intro x hx
  have h1:(x.key,x.val)∈l.map fun p=>(Xm.enc p.1,p.2):=by rw [←hl];exact List.mem_map.2 ⟨x,hx,rfl⟩
  obtain ⟨p,hp,he⟩:=List.mem_map.1 h1
  refine ⟨p.1,?_,hs p hp⟩
  have:=congrArg Prod.fst he
  exact this.symm
 have hrd:∀ x∈es.toList,∃ s:Int,x.key=.int .i64 s∧WideElems.rd P K rTriv x=some (.int .i64 s,.nil):=by
  intro x hx
  obtain ⟨s,h1,h2⟩:=hkey x hx
  refine ⟨s,h1,?_⟩
  have h3:Go.keyOf P K x.key=some (.int .i64 s):=by rw [h1];simp [Go.keyOf,hk,mapKey,h2]
  simp [WideElems.rd,h3,rTriv]
 refine ⟨_,⟨es,clock,hb,⟨by omega,hst,fun x hx=>?_⟩,by omega,rfl⟩,?_,?_⟩
 · obtain ⟨s,_,h2⟩:=hrd x hx
   exact ⟨_,h2⟩
 · have h1:=(WideShapes.sorted_perm (es.toList.map (WideElems.rg P K rTriv))).map fun p=>Go.intOf p.1
   refine h1.trans ?_
   have h2:(es.toList.map (WideElems.rg P K rTriv)).map (fun p=>Go.intOf p.1)=es.toList.map fun x=>match x.key with|.int _ s=>s|_=>0:=by
    rw [List.map_map]
    refine List.map_congr_left fun x hx=>?_
    obtain ⟨s,h3,h4⟩:=hrd x hx
    simp [WideElems.rg,h4,h3,Go.intOf]
   have h5:(es.toList.map fun x=>match x.key with|.int _ s=>s|_=>0)=l.map fun p=>p.1:=by
    have h6:=congrArg (List.map fun (p:Value×Value)=>match p.1 with|.int _ s=>s|_=>0) hl
    rw [List.map_map,List.map_map] at h6
    exact h6
   rw [h2,h5]
 · show ((es.toList.map (WideElems.rg P K rTriv)).foldr DataW.insert []).length=l.length
   rw [length_sorted]
   simp [hz]
section
variable {P:Program}
structure KeysC (P:Program) (fk g M:Nat):Prop where
 keys:∀ (mb:Option Nat) (W:World),Calls P fk #[.map mb] W fun e w'=>e=.returned (.func (.func g) #[] #[.pointer (some ⟨W.heap.size,0,none⟩)])∧w'=W.alloc (.cells #[.map mb] M)
structure SortedSC (P:Program) (fs g K:Nat):Prop where
 key:P.underlying K=some .string
 sorted:∀ (w:World) (Bm q nn:Nat) (D0:DataW Unit),Bm<w.heap.size→w.cell? ⟨Bm,0,none⟩=some (.map (some q))→w.ownsMap P K rTriv q nn D0→Maps.size D0≤maxLen→Maps.size D0*16≤140737488355328 →
  Calls P fs #[.func (.func g) #[] #[.pointer (some ⟨Bm,0,none⟩)]] w fun e w'=>∃ (v:Value) (ss:List (List UInt8)),e=.returned v∧ss.Perm (strKeys D0) ∧
   w'.ownsRow w.heap.size K 1 v ss.length ((ss.mergeSort (fun x y=>decide (x≤y))).map encStr)∧(v=.slice none 0 0↔ss=[])∧Below w.heap.size w w'
structure SortedIC (P:Program) (fs g K:Nat):Prop where
 key:P.underlying K=some (.int .i64)
 sorted:∀ (w:World) (Bm q nn:Nat) (D0:DataW Unit),Bm<w.heap.size→w.cell? ⟨Bm,0,none⟩=some (.map (some q))→w.ownsMap P K rTriv q nn D0→Maps.size D0≤maxLen→Maps.size D0*8≤140737488355328 →
  Calls P fs #[.func (.func g) #[] #[.pointer (some ⟨Bm,0,none⟩)]] w fun e w'=>∃ (v:Value) (ss:List Int),e=.returned v∧ss.Perm (intKeys D0) ∧
   w'.ownsRow w.heap.size K 1 v ss.length ((ss.mergeSort (fun x y=>decide (x≤y))).map encZ)∧(v=.slice none 0 0↔ss=[])∧Below w.heap.size w w'
theorem KeysC.ct {fk g M:Nat} (h:KeysC P fk g M) (mb:Option Nat):Ct P fk #[.map mb] [] (fun _=>True) fun u R _=>∃ b,u=.func (.func g) #[] #[.pointer (some ⟨b,0,none⟩)]∧R=[cel b M [.map mb]]:=Ct.mk fun w av G=>by
 refine (h.keys mb w).mono fun e w' ⟨h1,h2⟩=>⟨_,_,fun _=>True,h1,⟨_,rfl,rfl⟩,?_⟩
 subst h2
 exact G.new _ _ fun _ h=>h
def sortI (l:List Int):List Int:=l.mergeSort leI
theorem SortedSC.ct {fs g M K:Nat} (h:SortedSC P fs g K) (b q:Nat) (l:List (ByteArray×Value)) (hs:∀ p∈l,p.1.size≤maxLen) (hl:l.length≤1000000) :
  Ct P fs #[.func (.func g) #[] #[.pointer (some ⟨b,0,none⟩)]] [cel b M [.map (some q)],mapr q l] (fun _=>True)
   fun u R _=>∃ A c,u=.slice A l.length c∧R=[orow K 1 u l.length ((sortB (l.map (·.1))).map encB),cel b M [.map (some q)],mapr q l]:=Ct.mk fun w av G=>by
 have hb:w.heap[b]?=some (.cells #[.map (some q)] M (0,0)):=(G.here (cel b M [.map (some q)]) ap).now
 have hm:MapAt w q l:=(G.here (mapr q l) (List.mem_cons_of_mem _ ap)).now
 obtain ⟨D0,hown,hperm,hsz⟩:=nP h.key hm hs (by simp only [maxLen];omega)
 have hbl:b<w.heap.size:=(Array.getElem?_eq_some_iff.1 hb).1
 have hc:w.cell? ⟨b,0,none⟩=some (.map (some q)):=by simp [World.cell?,hb]
 refine (h.sorted w b q l.length D0 hbl hc hown (by rw [hsz];simp only [maxLen];omega) (by rw [hsz];omega)).mono fun e w' ⟨v,ss,he,hS,hrow,hnil,hB⟩=>?_
 have hlen:ss.length=l.length:=by rw [(hS.trans hperm).length_eq];simp
 have hsort:(ss.mergeSort fun x y=>decide (x≤y)).map encStr=(sortB (l.map (·.1))).map encB:=by
  have:=mergeSort_of_perm (hS.trans hperm)
  rw [show (ss.mergeSort fun x y=>decide (x≤y))=ss.mergeSort leB from rfl,this,ie,sortB]
  simp only [List.map_map]
  rfl
 rw [hsort,hlen] at hrow
 obtain ⟨f1,f2,A,c,rfl⟩:=sj hrow
 exact ⟨_,_,fun _=>True,he,⟨A,c,rfl,rfl⟩,(G.more hB (dm (iE hrow)) f1 f2).imp fun _ _=>trivial⟩
theorem SortedIC.ct {fs g M K:Nat} (h:SortedIC P fs g K) (b q:Nat) (l:List (Int×Value)) (hs:∀ p∈l,(Lit.int .i64 p.1).wf=true) (hl:l.length≤1000000) :
  Ct P fs #[.func (.func g) #[] #[.pointer (some ⟨b,0,none⟩)]] [cel b M [.map (some q)],mapr q l] (fun _=>True)
   fun u R _=>∃ A c,u=.slice A l.length c∧R=[orow K 1 u l.length ((sortI (l.map (·.1))).map encZ),cel b M [.map (some q)],mapr q l]:=Ct.mk fun w av G=>by
 have hb:w.heap[b]?=some (.cells #[.map (some q)] M (0,0)):=(G.here (cel b M [.map (some q)]) ap).now
 have hm:MapAt w q l:=(G.here (mapr q l) (List.mem_cons_of_mem _ ap)).now
 obtain ⟨D0,hown,hperm,hsz⟩:=nQ h.key hm hs (by simp only [maxLen];omega)
 have hbl:b<w.heap.size:=(Array.getElem?_eq_some_iff.1 hb).1
 have hc:w.cell? ⟨b,0,none⟩=some (.map (some q)):=by simp [World.cell?,hb]
 refine (h.sorted w b q l.length D0 hbl hc hown (by rw [hsz];simp only [maxLen];omega) (by rw [hsz];omega)).mono fun e w' ⟨v,ss,he,hS,hrow,hnil,hB⟩=>?_
 have hlen:ss.length=l.length:=by rw [(hS.trans hperm).length_eq];simp
 have hsort:(ss.mergeSort fun x y=>decide (x≤y)).map encZ=(sortI (l.map (·.1))).map encZ:=by
  have:=mergeSort_of_perm_i (hS.trans hperm)
  rw [show (ss.mergeSort fun x y=>decide (x≤y))=ss.mergeSort leI from rfl,this,sortI]
 rw [hsort,hlen] at hrow
 obtain ⟨f1,f2,A,c,rfl⟩:=sj hrow
 exact ⟨_,_,fun _=>True,he,⟨A,c,rfl,rfl⟩,(G.more hB (dm (iE hrow)) f1 f2).imp fun _ _=>trivial⟩
end
end Go.Proofs.YtggionfjlgfihaaGreatDoor.Sy
namespace Go.Proofs
open Go.Shelf
def Tryz.keys_agora_relation_set_string_bool_ren:Go.Shelf.Ren:=⟨fun|7=>233|10=>249|n=>n,fun|23=>275|26=>9|3=>4|28=>295|0=>0|27=>294|33=>147|4=>4|n=>n,fun|n=>n⟩
theorem Tryz.keys_agora_relation_set_string_bool:Go.Proofs.SlLaysZ.n7 Tryz.prog Tryz.keys_agora_relation_set_string_bool_ren:={
 mixed:=by kernel_rfl
 f7:=⟨Tryz.f233.name,by decide,Tryz.func233.trans (congrArg some (by kernel_rfl))⟩
 f10:=⟨Tryz.f249.name,by decide,Tryz.func249.trans (congrArg some (by kernel_rfl))⟩
 t0:=Tryz.underlying0
 a0:=Tryz.isAgg0
 z0:=Tryz.sizeOf0
 v0:=Tryz.zeroValue0
 t4:=Tryz.underlying4
 a4:=Tryz.isAgg4
 z4:=Tryz.sizeOf4
 v4:=Tryz.zeroValue4
 t23:=Tryz.underlying275
 a23:=Tryz.isAgg275
 z23:=Tryz.sizeOf275
 v23:=Tryz.zeroValue275
 t26:=Tryz.underlying9
 a26:=Tryz.isAgg9
 z26:=Tryz.sizeOf9
 v26:=Tryz.zeroValue9
 t27:=Tryz.underlying294
 a27:=Tryz.isAgg294
 z27:=Tryz.sizeOf294
 v27:=Tryz.zeroValue294
 t28:=Tryz.underlying295
 a28:=Tryz.isAgg295
 z28:=Tryz.sizeOf295
 v28:=Tryz.zeroValue295
 t33:=Tryz.underlying147
 a33:=Tryz.isAgg147
 z33:=Tryz.sizeOf147
 v33:=Tryz.zeroValue147 }
def Tryz.sortedS_ren:Go.Shelf.Ren:=⟨fun|6=>232|8=>248|9=>30|11=>258|13=>70|12=>69|23=>129|24=>130|14=>120|15=>121|16=>122|17=>123|18=>124|19=>125|20=>126|21=>127|22=>128|25=>181|26=>182|27=>183|28=>184|29=>185|30=>82|31=>206|n=>n,fun|26=>9|28=>295|24=>30|0=>0|3=>3|37=>121|48=>116|50=>187|4=>4|40=>190|39=>189|45=>76|5=>5|9=>9|51=>233|55=>237|57=>258|58=>259|33=>147|n=>n,fun|n=>n⟩
theorem Tryz.sortedS:Go.Proofs.SlLaysZ.n6 Tryz.prog Tryz.sortedS_ren:={
 mixed:=by kernel_rfl
 f6:=⟨Tryz.f232.name,by decide,Tryz.func232.trans (congrArg some (by kernel_rfl))⟩
 f8:=⟨Tryz.f248.name,by decide,Tryz.func248.trans (congrArg some (by kernel_rfl))⟩
 f11:=⟨Tryz.f258.name,by decide,Tryz.func258.trans (congrArg some (by kernel_rfl))⟩
 t0:=Tryz.underlying0
 a0:=Tryz.isAgg0
 z0:=Tryz.sizeOf0
 v0:=Tryz.zeroValue0
 t24:=Tryz.underlying30
 a24:=Tryz.isAgg30
 z24:=Tryz.sizeOf30
 v24:=Tryz.zeroValue30
 t26:=Tryz.underlying9
 a26:=Tryz.isAgg9
 z26:=Tryz.sizeOf9
 v26:=Tryz.zeroValue9
 t28:=Tryz.underlying295
 a28:=Tryz.isAgg295
 z28:=Tryz.sizeOf295
 v28:=Tryz.zeroValue295
 i26:=by kernel_rfl }
def Tryz.sortS_ren:Go.Shelf.Ren:=⟨fun|6=>30|8=>70|9=>69|19=>129|20=>130|21=>120|22=>121|23=>122|24=>123|25=>124|26=>125|27=>126|28=>127|29=>128|36=>181|31=>182|32=>183|37=>184|38=>185|39=>82|41=>206|n=>n,fun|27=>30|29=>9|3=>3|32=>121|26=>30|0=>0|44=>116|46=>187|4=>4|36=>190|35=>189|41=>76|5=>5|9=>9|53=>233|57=>237|63=>258|64=>259|n=>n,fun|n=>n⟩
theorem Tryz.sortS:Go.Proofs.SlLaysM.n6 Tryz.prog Tryz.sortS_ren:={
 mixed:=by kernel_rfl
 f6:=⟨Tryz.f30.name,by decide,Tryz.func30.trans (congrArg some (by kernel_rfl))⟩
 f8:=Tryz.func70.trans (congrArg some (by kernel_rfl))
 f9:=⟨Tryz.f69.name,by decide,Tryz.func69.trans (congrArg some (by kernel_rfl))⟩
 f19:=Tryz.func129.trans (congrArg some (by kernel_rfl))
 f20:=Tryz.func130.trans (congrArg some (by kernel_rfl))
 f21:=⟨Tryz.f120.name,by decide,Tryz.func120.trans (congrArg some (by kernel_rfl))⟩
 f22:=⟨Tryz.f121.name,by decide,Tryz.func121.trans (congrArg some (by kernel_rfl))⟩
 f23:=⟨Tryz.f122.name,by decide,Tryz.func122.trans (congrArg some (by kernel_rfl))⟩
 f24:=⟨Tryz.f123.name,by decide,Tryz.func123.trans (congrArg some (by kernel_rfl))⟩
 f25:=⟨Tryz.f124.name,by decide,Tryz.func124.trans (congrArg some (by kernel_rfl))⟩
 f26:=⟨Tryz.f125.name,by decide,Tryz.func125.trans (congrArg some (by kernel_rfl))⟩
 f27:=⟨Tryz.f126.name,by decide,Tryz.func126.trans (congrArg some (by kernel_rfl))⟩
 f28:=⟨Tryz.f127.name,by decide,Tryz.func127.trans (congrArg some (by kernel_rfl))⟩
 f29:=⟨Tryz.f128.name,by decide,Tryz.func128.trans (congrArg some (by kernel_rfl))⟩
 f31:=Tryz.func182.trans (congrArg some (by kernel_rfl))
 f32:=Tryz.func183.trans (congrArg some (by kernel_rfl))
 f36:=⟨Tryz.f181.name,by decide,Tryz.func181.trans (congrArg some (by kernel_rfl))⟩
 f37:=⟨Tryz.f184.name,by decide,Tryz.func184.trans (congrArg some (by kernel_rfl))⟩
 f38:=⟨Tryz.f185.name,by decide,Tryz.func185.trans (congrArg some (by kernel_rfl))⟩
 f39:=⟨Tryz.f82.name,by decide,Tryz.func82.trans (congrArg some (by kernel_rfl))⟩
 f41:=⟨Tryz.f206.name,by decide,Tryz.func206.trans (congrArg some (by kernel_rfl))⟩
 t0:=Tryz.underlying0
 a0:=Tryz.isAgg0
 z0:=Tryz.sizeOf0
 v0:=Tryz.zeroValue0
 t3:=Tryz.underlying3
 a3:=Tryz.isAgg3
 z3:=Tryz.sizeOf3
 v3:=Tryz.zeroValue3
 t4:=Tryz.underlying4
 a4:=Tryz.isAgg4
 z4:=Tryz.sizeOf4
 v4:=Tryz.zeroValue4
 t5:=Tryz.underlying5
 a5:=Tryz.isAgg5
 z5:=Tryz.sizeOf5
 v5:=Tryz.zeroValue5
 t9:=Tryz.underlying9
 a9:=Tryz.isAgg9
 z9:=Tryz.sizeOf9
 v9:=Tryz.zeroValue9
 t26:=Tryz.underlying30
 a26:=Tryz.isAgg30
 z26:=Tryz.sizeOf30
 v26:=Tryz.zeroValue30
 t27:=Tryz.underlying30
 a27:=Tryz.isAgg30
 z27:=Tryz.sizeOf30
 v27:=Tryz.zeroValue30
 t29:=Tryz.underlying9
 a29:=Tryz.isAgg9
 z29:=Tryz.sizeOf9
 v29:=Tryz.zeroValue9
 t32:=Tryz.underlying121
 a32:=Tryz.isAgg121
 z32:=Tryz.sizeOf121
 v32:=Tryz.zeroValue121
 t35:=Tryz.underlying189
 a35:=Tryz.isAgg189
 z35:=Tryz.sizeOf189
 v35:=Tryz.zeroValue189
 t36:=Tryz.underlying190
 a36:=Tryz.isAgg190
 z36:=Tryz.sizeOf190
 v36:=Tryz.zeroValue190
 t41:=Tryz.underlying76
 a41:=Tryz.isAgg76
 z41:=Tryz.sizeOf76
 v41:=Tryz.zeroValue76
 t44:=Tryz.underlying116
 a44:=Tryz.isAgg116
 z44:=Tryz.sizeOf116
 v44:=Tryz.zeroValue116
 t46:=Tryz.underlying187
 a46:=Tryz.isAgg187
 z46:=Tryz.sizeOf187
 v46:=Tryz.zeroValue187
 t53:=Tryz.underlying233
 a53:=Tryz.isAgg233
 z53:=Tryz.sizeOf233
 v53:=Tryz.zeroValue233
 t57:=Tryz.underlying237
 a57:=Tryz.isAgg237
 z57:=Tryz.sizeOf237
 v57:=Tryz.zeroValue237
 t63:=Tryz.underlying258
 a63:=Tryz.isAgg258
 z63:=Tryz.sizeOf258
 v63:=Tryz.zeroValue258
 t64:=Tryz.underlying259
 a64:=Tryz.isAgg259
 z64:=Tryz.sizeOf259
 v64:=Tryz.zeroValue259 }
def Tryz.sortI_ren:Go.Shelf.Ren:=⟨fun|5=>212|8=>70|7=>227|19=>129|20=>130|10=>238|11=>239|12=>240|13=>241|14=>242|15=>243|16=>244|17=>245|18=>246|30=>255|31=>182|32=>183|33=>256|34=>257|35=>208|40=>261|n=>n,fun|23=>24|25=>3|3=>3|32=>121|22=>24|0=>0|44=>116|46=>187|4=>4|36=>190|35=>189|41=>76|5=>5|9=>9|53=>233|57=>237|63=>258|64=>259|n=>n,fun|n=>n⟩
theorem Tryz.sortI:Go.Proofs.SlLaysM.n5 Tryz.prog Tryz.sortI_ren:={
 mixed:=by kernel_rfl
 f5:=⟨Tryz.f212.name,by decide,Tryz.func212.trans (congrArg some (by kernel_rfl))⟩
 f7:=⟨Tryz.f227.name,by decide,Tryz.func227.trans (congrArg some (by kernel_rfl))⟩
 f8:=Tryz.func70.trans (congrArg some (by kernel_rfl))
 f10:=⟨Tryz.f238.name,by decide,Tryz.func238.trans (congrArg some (by kernel_rfl))⟩
 f11:=⟨Tryz.f239.name,by decide,Tryz.func239.trans (congrArg some (by kernel_rfl))⟩
 f12:=⟨Tryz.f240.name,by decide,Tryz.func240.trans (congrArg some (by kernel_rfl))⟩
 f13:=⟨Tryz.f241.name,by decide,Tryz.func241.trans (congrArg some (by kernel_rfl))⟩
 f14:=⟨Tryz.f242.name,by decide,Tryz.func242.trans (congrArg some (by kernel_rfl))⟩
 f15:=⟨Tryz.f243.name,by decide,Tryz.func243.trans (congrArg some (by kernel_rfl))⟩
 f16:=⟨Tryz.f244.name,by decide,Tryz.func244.trans (congrArg some (by kernel_rfl))⟩
 f17:=⟨Tryz.f245.name,by decide,Tryz.func245.trans (congrArg some (by kernel_rfl))⟩
 f18:=⟨Tryz.f246.name,by decide,Tryz.func246.trans (congrArg some (by kernel_rfl))⟩
 f19:=Tryz.func129.trans (congrArg some (by kernel_rfl))
 f20:=Tryz.func130.trans (congrArg some (by kernel_rfl))
 f30:=⟨Tryz.f255.name,by decide,Tryz.func255.trans (congrArg some (by kernel_rfl))⟩
 f31:=Tryz.func182.trans (congrArg some (by kernel_rfl))
 f32:=Tryz.func183.trans (congrArg some (by kernel_rfl))
 f33:=⟨Tryz.f256.name,by decide,Tryz.func256.trans (congrArg some (by kernel_rfl))⟩
 f34:=⟨Tryz.f257.name,by decide,Tryz.func257.trans (congrArg some (by kernel_rfl))⟩
 f35:=⟨Tryz.f208.name,by decide,Tryz.func208.trans (congrArg some (by kernel_rfl))⟩
 f40:=⟨Tryz.f261.name,by decide,Tryz.func261.trans (congrArg some (by kernel_rfl))⟩
 t0:=Tryz.underlying0
 a0:=Tryz.isAgg0
 z0:=Tryz.sizeOf0
 v0:=Tryz.zeroValue0
 t3:=Tryz.underlying3
 a3:=Tryz.isAgg3
 z3:=Tryz.sizeOf3
 v3:=Tryz.zeroValue3
 t4:=Tryz.underlying4
 a4:=Tryz.isAgg4
 z4:=Tryz.sizeOf4
 v4:=Tryz.zeroValue4
 t5:=Tryz.underlying5
 a5:=Tryz.isAgg5
 z5:=Tryz.sizeOf5
 v5:=Tryz.zeroValue5
 t9:=Tryz.underlying9
 a9:=Tryz.isAgg9
 z9:=Tryz.sizeOf9
 v9:=Tryz.zeroValue9
 t22:=Tryz.underlying24
 a22:=Tryz.isAgg24
 z22:=Tryz.sizeOf24
 v22:=Tryz.zeroValue24
 t23:=Tryz.underlying24
 a23:=Tryz.isAgg24
 z23:=Tryz.sizeOf24
 v23:=Tryz.zeroValue24
 t25:=Tryz.underlying3
 a25:=Tryz.isAgg3
 z25:=Tryz.sizeOf3
 v25:=Tryz.zeroValue3
 t32:=Tryz.underlying121
 a32:=Tryz.isAgg121
 z32:=Tryz.sizeOf121
 v32:=Tryz.zeroValue121
 t35:=Tryz.underlying189
 a35:=Tryz.isAgg189
 z35:=Tryz.sizeOf189
 v35:=Tryz.zeroValue189
 t36:=Tryz.underlying190
 a36:=Tryz.isAgg190
 z36:=Tryz.sizeOf190
 v36:=Tryz.zeroValue190
 t41:=Tryz.underlying76
 a41:=Tryz.isAgg76
 z41:=Tryz.sizeOf76
 v41:=Tryz.zeroValue76
 t44:=Tryz.underlying116
 a44:=Tryz.isAgg116
 z44:=Tryz.sizeOf116
 v44:=Tryz.zeroValue116
 t46:=Tryz.underlying187
 a46:=Tryz.isAgg187
 z46:=Tryz.sizeOf187
 v46:=Tryz.zeroValue187
 t53:=Tryz.underlying233
 a53:=Tryz.isAgg233
 z53:=Tryz.sizeOf233
 v53:=Tryz.zeroValue233
 t57:=Tryz.underlying237
 a57:=Tryz.isAgg237
 z57:=Tryz.sizeOf237
 v57:=Tryz.zeroValue237
 t63:=Tryz.underlying258
 a63:=Tryz.isAgg258
 z63:=Tryz.sizeOf258
 v63:=Tryz.zeroValue258
 t64:=Tryz.underlying259
 a64:=Tryz.isAgg259
 z64:=Tryz.sizeOf259
 v64:=Tryz.zeroValue259 }
def Tryz.compS_ren:Go.Shelf.Ren:=⟨fun|194=>31|n=>n,fun|31=>30|9=>9|3=>3|4=>4|0=>0|n=>n,fun|n=>n⟩
theorem Tryz.compS:Go.Proofs.Lays.n194 Tryz.prog Tryz.compS_ren:={
 mixed:=by kernel_rfl
 f194:=Tryz.func31.trans (congrArg some (by kernel_rfl))
 t0:=Tryz.underlying0
 a0:=Tryz.isAgg0
 z0:=Tryz.sizeOf0
 v0:=Tryz.zeroValue0
 t3:=Tryz.underlying3
 a3:=Tryz.isAgg3
 z3:=Tryz.sizeOf3
 v3:=Tryz.zeroValue3
 t4:=Tryz.underlying4
 a4:=Tryz.isAgg4
 z4:=Tryz.sizeOf4
 v4:=Tryz.zeroValue4
 t9:=Tryz.underlying9
 a9:=Tryz.isAgg9
 z9:=Tryz.sizeOf9
 v9:=Tryz.zeroValue9
 t31:=Tryz.underlying30
 a31:=Tryz.isAgg30
 z31:=Tryz.sizeOf30
 v31:=Tryz.zeroValue30 }
end Go.Proofs
namespace Go.Proofs.YtggionfjlgfihaaGreatDoor.Sy
open Go Go.RowKit
theorem fU {P:Program} {N:Nat} {av bor:List Nat} {w0:World} {ops:Array Oper} {rest:List Oper} {st:St} {k:St→Prop} {d:Option Tmp} {ty:TypeId} {pos:String} {af:Array Edge} {g:Option (Nat×Bool)} {xs:Array Operand} {ts:Array TypeId}
  (h:Sw P N av bor w0 ops (⟨d,.call ⟨.builtin .append,xs,ts⟩,ty,pos,af,g⟩::rest) st k):Sw P N av bor w0 ops (⟨d,.call ⟨.builtin .append,xs,ts⟩,ty,pos,af,g⟩::rest) st k:=h
end Go.Proofs.YtggionfjlgfihaaGreatDoor.Sy
namespace Go.Proofs.YtggionfjlgfihaaGreatDoor.Sy
open Go Go.RowKit
section
variable {P:Program} {N:Nat} {av bor:List Nat} {w0:World} {ops:Array Oper} {rest:List Oper} {k:St→Prop} {E:Env} {loc loc':List Xk} {X:World→Prop}
variable {d:Option Tmp} {ty:TypeId} {pos:String} {af:Array Edge} {g:Option (Nat×Bool)} {bb want:Bool} {K:Exit→St→Prop}
theorem jp:∀ (vs pre z:List Value),(∀ v∈vs,v.oneCell'=true)→z.length=vs.length →
  Instr.fill (fun i=>some (i*1,1)) (pre++z).toArray ((vs.zipIdx pre.length).map fun p=>(p.2,p.1))=some (pre++vs).toArray
 | [],pre,z,_,hz=>by
  have:z=[]:=List.eq_nil_of_length_eq_zero (by simpa using hz)
  subst this
  simp [Instr.fill]
 | v::vs,pre,z,h1,hz=>by
  cases z with
  | nil=>simp at hz
  | cons y z =>
   have hv:v.cells=#[v]:=by
    have:=h1 v ap
    cases v<;>first|rfl|(simp [Value.oneCell'] at this)
   have ih:=jp vs (pre++[v]) z (fun u hu=>h1 u (List.mem_cons_of_mem _ hu)) (by simpa using hz)
   simp only [List.zipIdx_cons,List.map_cons,Instr.fill,hv]
   have e:((pre++y::z).toArray.setIfInBounds pre.length v)=(pre++[v]++z).toArray:=by
    apply Array.ext'
    simp
   simp only [List.length_append,List.length_cons,List.length_nil,Nat.zero_add] at ih
   simp [e]
   simpa using ih
def partsOf (E:Env):Nat→List (Nat×Operand)→Option (List Value)
 | _,[]=>some []
 | i,(j,x)::r =>
  bif Nat.beq i j then
   match ev E x,partsOf E (i+1) r with
   | some v,some l=>some (v::l)
   | _,_=>none
  else none
theorem eB {a:Act} {w:World} (ok:Ok N av bor w0 ⟨E,loc,X⟩ a w):∀ (l:List (Nat×Operand)) (i:Nat) (vs:List Value),partsOf E i l=some vs→(l.map fun p=>(p.1,a.eval p.2))=(vs.zipIdx i).map fun p=>(p.2,p.1)
 | [],i,vs,h=>by simp [partsOf] at h;subst h;rfl
 | (j,x)::r,i,vs,h=>by
  unfold partsOf at h
  cases hb:Nat.beq i j with
  | false=>simp [hb] at h
  | true =>
   have e:i=j:=Nat.eq_of_beq_eq_true hb
   subst e
   simp only [hb,cond_true] at h
   split at h
   · rename_i v l' hv hl
     simp at h
     subst h
     simp [ok.eval (st:=⟨E,loc,X⟩) hv,eB ok r (i+1) l' hl]
   · cases h
theorem cr {n len:Nat} {t e b':Nat} [hs:Ea P t e 1 b'] {z:Value} [hz:Xo P e z] {parts:List (Nat×Operand)} {vs:List Value} (h:∀ b,Sw P N av bor w0 ops rest ⟨(n,.slice (some ⟨b,0,none⟩) len len)::E,cel b e vs::loc,X⟩ k) (hp:partsOf E 0 parts=some vs:=by rfl) (hl:vs.length=len:=by rfl) (h1:vs.all (·.oneCell')=true:=by rfl) (hpos:Nat.ble len 1000000=true:=by rfl) (hg:gdB ops E g=some (bb,want):=by rfl) (hb:bb=want:=by exact aq) (hd:Nat.blt n N=true:=by rfl):Sw P N av bor w0 ops (⟨some n,.buildSlice t len parts.toArray,ty,pos,af,g⟩::rest) ⟨E,loc,X⟩ k:=Sw.mk fun a w ok=>by
 have hd':inB N (some n)=true:=by have h1:n<N:=Nat.le_of_ble_eq_true hd;simpa [inB] using h1
 have hle:len≤1000000:=Nat.le_of_ble_eq_true hpos
 obtain ⟨ht,inf,hi,hi1,hi2⟩:=cf hs.out
 have hsz:(sizeOf e).run P w=.ok 1 w:=by simp [sizeOf,typeInfo,hi,hi1]
 have hzr:(zeroValue e).run P w=.ok z w:=dj hz.out w
 simp only [wpList]
 rw [aX ok (o:=⟨some n,.buildSlice t len parts.toArray,ty,pos,af,g⟩) hg]
 subst hb
 simp only [beq_self_eq_true,if_true]
 left
 unfold Oper.wp
 have hfill:∀ Z:Array Value,Z.size=len→Instr.fill (fun i=>some (i*1,1)) Z (parts.map fun p=>(p.1,a.eval p.2))=some vs.toArray:=fun Z hZ=>by
  rw [eB ok parts 0 vs hp]
  have:=jp vs [] Z.toList (by simpa using h1) (by simp [hZ,hl])
  simpa using this
 have hr:(execOp a.eval ⟨some n,.buildSlice t len parts.toArray,ty,pos,af,g⟩).run P w=.ok (.value (.slice (some ⟨w.heap.size,0,none⟩) len len)) (w.alloc (.cells vs.toArray e)):=by
  have hn:¬ (16777216<len):=by omega
  by_cases h0:len=0
  · subst h0
    have hf:=hfill #[] rfl
    have hr0:∀ f:Nat→Value,Array.map f (Array.range 0)=#[]:=fun f=>Array.eq_empty_of_size_eq_zero (by simp)
    simp at hf
    simp [execOp,Instr.buildSlice,run_underlying ht,hsz,hf,hr0,dM]
  · have hf:=hfill ((Array.range len).map (fun x=>z.cells[x%z.cells.size]!)) (by simp)
    simp at hf
    simp [execOp,Instr.buildSlice,run_underlying ht,hsz,hzr,h0,hn,hf,dM]
 rw [hr]
 have ok':Ok N av bor w0 ⟨E,cel w.heap.size e vs::loc,X⟩ a (w.alloc (.cells vs.toArray e)):=(ok.via fun M G=>G.new _ _ fun _ h=>h)
 exact (h _).run _ _ (cu (some n) _▸ok'.put hd' _)
end
end Go.Proofs.YtggionfjlgfihaaGreatDoor.Sy
namespace Go.Proofs.YtggionfjlgfihaaGreatDoor.Sy
open Go Go.RowKit
theorem ly (off:Nat):∀ (vs:List Value) (i:Nat) (cur:Array Value),off+i+vs.length≤cur.size →
  (vs.zipIdx i).foldl (fun cs (p:Value×Nat)=>cs.setIfInBounds (off+p.2) p.1) cur=(cur.toList.take (off+i)++vs++cur.toList.drop (off+i+vs.length)).toArray
 | [],i,cur,_=>by simp
 | v::vs,i,cur,h=>by
  simp only [List.length_cons] at h
  rw [List.zipIdx_cons,List.foldl_cons,ly off vs (i+1) _ (by simp;omega)]
  have e:=list_seg_step cur.toList (off+i) v vs (by simp;omega)
  congr 1
  simpa [Array.toList_setIfInBounds,Nat.add_assoc] using e
def fillL (pl:List (Nat×Nat)):List Value→List (Nat×Value)→Option (List Value)
 | cs,[]=>some cs
 | cs,(i,v)::r =>
  match pl[i]? with
  | none=>none
  | some (off,size)=>bif Nat.beq v.cells.size size&&Nat.ble (off+size) cs.length then fillL pl (cs.take off++v.cells.toList++cs.drop (off+size)) r else none
theorem lA (pl:List (Nat×Nat)):∀ (vs:List (Nat×Value)) (cs cs':List Value),fillL pl cs vs=some cs'→Instr.fill (pl.toArray[·]?) cs.toArray vs=some cs'.toArray
 | [],cs,cs',h=>by simp [fillL] at h;subst h;rfl
 | (i,v)::r,cs,cs',h=>by
  unfold fillL at h
  cases hp:pl[i]? with
  | none=>simp [hp] at h
  | some q =>
   obtain ⟨off,size⟩:=q
   simp only [hp] at h
   cases hb:Nat.beq v.cells.size size&&Nat.ble (off+size) cs.length with
   | false=>simp [hb] at h
   | true =>
    simp only [hb,cond_true] at h
    have hb':=(Bool.and_eq_true _ _).mp hb
    have h1:v.cells.size=size:=Nat.eq_of_beq_eq_true hb'.1
    have h2:off+size≤cs.length:=Nat.le_of_ble_eq_true hb'.2
    have h3:=ly off v.cells.toList 0 cs.toArray (by simp;omega)
    have h4:(v.cells.zipIdx.foldl (fun cs (p:Value×Nat)=>cs.setIfInBounds (off+p.2) p.1) cs.toArray)=(cs.take off++v.cells.toList++cs.drop (off+size)).toArray:=by
     rw [←Array.foldl_toList,Array.toList_zipIdx,h3]
     simp [h1]
    have ih:=lA pl r _ _ h
    have hp':pl.toArray[i]?=some (off,size):=by simpa using hp
    unfold Instr.fill
    simp only [hp']
    rw [if_neg (by simp [h1];omega),←ih,←h4]
section
variable {P:Program} {N:Nat} {av bor:List Nat} {w0:World} {ops:Array Oper} {rest:List Oper} {k:St→Prop} {E:Env} {loc loc':List Xk} {X:World→Prop}
variable {d:Option Tmp} {ty:TypeId} {pos:String} {af:Array Edge} {g:Option (Nat×Bool)} {bb want:Bool} {K:Exit→St→Prop}
theorem kR {w:World}:∀ (fs:List Field) (pl:List (Nat×Nat)),fs.mapM (fun f=>(P.info? f.type).map fun i=>(f.offset,i.size))=some pl →
  (fs.mapM fun f=>(Prod.mk f.offset <$> sizeOf f.type:Sem (Nat×Nat))).run P w=.ok pl w
 | [],pl,h=>by simp at h;subst h;simp
 | f::fs,pl,h=>by
  simp only [List.mapM_cons,Option.bind_eq_bind,Option.bind_eq_some_iff,Option.map_eq_some_iff,Option.pure_def,Option.some.injEq] at h
  obtain ⟨q,⟨i,hi,rfl⟩,l,hl,rfl⟩:=h
  have hs:=run_sizeOf (P:=P) (w:=w) (t:=f.type) (n:=i.size) (by simp [hi])
  simp [List.mapM_cons,hs,kR fs l hl]
def partsE (E:Env):List (Nat×Operand)→Option (List (Nat×Value))
 | []=>some []
 | (j,x)::r =>
  match ev E x,partsE E r with
  | some v,some l=>some ((j,v)::l)
  | _,_=>none
theorem jI {st:St} {a:Act} {w:World} (ok:Ok N av bor w0 st a w):∀ (l:List (Nat×Operand)) (vs:List (Nat×Value)),partsE st.env l=some vs→(l.map fun p=>(p.1,a.eval p.2))=vs
 | [],vs,h=>by simp [partsE] at h;subst h;rfl
 | (j,x)::r,vs,h=>by
  unfold partsE at h
  split at h
  · rename_i v l' hv hl
    simp at h
    subst h
    simp [ok.eval hv,jI ok r l' hl]
  · cases h
theorem dp {st:St} {t:TypeId} {z:Value} [hz:Xo P t z] {pl:List (Nat×Nat)} [hp:Ej P t pl] {parts:List (Nat×Operand)} {vs:List (Nat×Value)} {cs:List Value}
  (hx:partsE st.env parts=some vs) (hf:fillL pl z.cells.toList vs=some cs):Sy.Yields P N av bor w0 st (.build t parts.toArray) ty (.agg cs.toArray):=Sy.Yields.mk fun A w ok d pos af g=>by
 have hz':=dj hz.out w
 have h1:=hp.out
 unfold plOf at h1
 split at h1
 · rename_i fs hu
   have h2:=kR (w:=w) fs.toList pl h1
   have h3:(fs.mapM fun f=>(Prod.mk f.offset <$> sizeOf f.type:Sem (Nat×Nat))).run P w=.ok pl.toArray w:=by
    have e:fs=fs.toList.toArray:=by simp
    rw [e,List.mapM_toArray]
    simp [Sem.run_bind,h2]
   have h4:=jI ok parts vs hx
   have h5:=lA pl vs _ _ hf
   simp only [Array.toArray_toList,List.getElem?_toArray] at h5
   simp [execOp,Instr.build,hz',run_underlying hu,h3,h4,h5]
 · cases h1
theorem aM {n:Nat} {t:TypeId} {z:Value} [hz:Xo P t z] {pl:List (Nat×Nat)} [hp:Ej P t pl] {parts:List (Nat×Operand)} {vs:List (Nat×Value)} {cs:List Value} (h:Sw P N av bor w0 ops rest ⟨(n,.agg cs.toArray)::E,loc,X⟩ k) (hx:partsE E parts=some vs:=by rfl) (hf:fillL pl z.cells.toList vs=some cs:=by rfl) (hg:gdB ops E g=some (bb,want):=by rfl) (hbb:bb=want:=by exact aq) (hd:Nat.blt n N=true:=by rfl) :
  Sw P N av bor w0 ops (⟨some n,.build t parts.toArray,ty,pos,af,g⟩::rest) ⟨E,loc,X⟩ k:=ak (dp hx hf) hg hbb hd h
end
end Go.Proofs.YtggionfjlgfihaaGreatDoor.Sy
namespace Go.Proofs.YtggionfjlgfihaaGreatDoor.Sy
open Go Go.RowKit Go.MapKept
def arrOf (P:Program) (t:TypeId):Option (Nat×Nat) :=
 match P.underlying t with
 | some (.array n e)=>bif oneCell P e then some (n,e) else none
 | _=>none
class TyArr (P:Program) (t:TypeId) (n e:outParam Nat):Prop where out:arrOf P t=some (n,e)
theorem il {P:Program} {t n e:Nat} (h:arrOf P t=some (n,e)):P.underlying t=some (.array n e)∧oneCell P e=true:=by
 unfold arrOf at h
 split at h
 · rename_i n' e' he
   cases ho:oneCell P e' with
   | false=>simp [ho] at h
   | true=>simp [ho] at h;obtain ⟨rfl,rfl⟩:=h;exact ⟨he,ho⟩
 · cases h
class TyBool (P:Program) (t:TypeId):Prop where out:P.underlying t=some .bool
def byteAt (s:ByteArray) (i:Nat):Int:=((s.data.toList.getD i 0).toNat:Int)
section
variable {P:Program} {N:Nat} {av bor:List Nat} {w0:World} {st:St} {ty:TypeId} {x y z:Operand} {t t2:TypeId} {k:IntKind} {a b c:Int}
theorem qq {s:ByteArray} [hI:Eb P t] (hx:ev st.env x=some (.string s)) (hy:ev st.env y=some (.int k a)) (h0:0≤a) (h1:a≤s.size):Yields P N av bor w0 st (.slice t x none (some y) none) ty (.string (s.extract 0 a.toNat)):=Sy.Yields.mk fun A w ok d pos af g=>by
 simp [execOp,ok.eval hx,ok.eval hy,Instr.sliceAt,run_underlying hI.out,run_slice_string_h w t s hI.out k a h0 h1]
theorem zY {s:ByteArray} [hI:Eb P t] (hx:ev st.env x=some (.string s)) (hy:ev st.env y=some (.int k a)) (h0:0≤a) (h1:a≤s.size):Yields P N av bor w0 st (.slice t x (some y) none none) ty (.string (s.extract a.toNat s.size)):=Sy.Yields.mk fun A w ok d pos af g=>by
 simp [execOp,ok.eval hx,ok.eval hy,Instr.sliceAt,run_underlying hI.out,run_slice_string_l w t s hI.out k a h0 h1]
theorem yn {s:ByteArray} {k':IntKind} [hI:Eb P t] (hx:ev st.env x=some (.string s)) (hy:ev st.env y=some (.int k a)) (hz:ev st.env z=some (.int k' b)) (h0:0≤a) (h1:a≤b) (h2:b≤s.size):Yields P N av bor w0 st (.slice t x (some y) (some z) none) ty (.string (s.extract a.toNat b.toNat)):=Sy.Yields.mk fun A w ok d pos af g=>by
 simp [execOp,ok.eval hx,ok.eval hy,ok.eval hz,Instr.sliceAt,run_underlying hI.out,run_slice_string w t s k k' a b hI.out h0 h1 h2]
theorem qp {s:ByteArray} [hI:Eb P t] (hx:ev st.env x=some (.string s)) (hy:ev st.env y=some (.int k a)) (h0:0≤a) (h1:a<s.size):Yields P N av bor w0 st (.index t x y) ty (.int .u8 (byteAt s a.toNat)):=Sy.Yields.mk fun A w ok d pos af g=>by
 have hn:a.toNat<s.data.size:=by have:s.size=s.data.size:=rfl;omega
 have hn':a.toNat<s.size:=hn
 have e:s[a.toNat]=s.data[a.toNat]:=rfl
 have e2:byteAt s a.toNat=((s[a.toNat]'hn').toNat:Int):=by rw [byteAt,List.getD_eq_getElem?_getD,Array.getElem?_toList,Array.getElem?_eq_getElem hn];rfl
 rw [e2]
 simp [execOp,ok.eval hx,ok.eval hy,run_index_string w t s k a hI.out,h0,h1]
theorem Al {n e:Nat} {cs:Array Value} {v:Value} [hI:TyArr P t n e] (hx:ev st.env x=some (.agg cs)) (hy:ev st.env y=some (.int k a)) (h0:0≤a) (h1:a<n) (hv:cs[a.toNat]?=some v):Yields P N av bor w0 st (.index t x y) ty v:=Sy.Yields.mk fun A w ok d pos af g=>by
 obtain ⟨hu,ho⟩:=il hI.out
 obtain ⟨h2,h3⟩:=bI ho w
 simp [execOp,ok.eval hx,ok.eval hy,Instr.index,asIntOf,run_underlying hu,h0,h1,run_sizeOf h3,part,h2,hv]
theorem fa {n e:Nat} {bl off q:Nat} [hI:TyArr P t n e] (hx:ev st.env x=some (.pointer (some ⟨bl,off,none⟩))) (hy:ev st.env y=some (.int k a)) (h0:0≤a) (h1:a<n) (hq:off+a.toNat=q):Yields P N av bor w0 st (.indexAddr t x y) ty (.pointer (some ⟨bl,q,none⟩)):=Sy.Yields.mk fun A w ok d pos af g=>by
 obtain ⟨hu,ho⟩:=il hI.out
 obtain ⟨h2,h3⟩:=bI ho w
 have e1:(⟨bl,off,none⟩:Addr).add a.toNat=⟨bl,q,none⟩:=by
  unfold Addr.add
  split
  · rename_i hz;rw [hz] at hq;simp at hq;subst hq;rfl
  · subst hq;rfl
 simp [execOp,ok.eval hx,ok.eval hy,Instr.indexAt,asIntOf,Instr.sureAddr,run_underlying hu,h0,h1,run_sizeOf h3,e1]
theorem Ba (hx:ev st.env x=some (.int k a)) (hy:ev st.env y=some (.int k b)):Yields P N av bor w0 st (.call ⟨.builtin .min,#[x,y],#[t,t2]⟩) ty (.int k (if b<a then b else a)):=Sy.Yields.mk fun A w ok d pos af g=>by
 simp [execOp,resolve,invoke,builtin,Builtin.min_,Builtin.min2,ok.eval hx,ok.eval hy]
theorem Bb (hx:ev st.env x=some (.int k a)) (hy:ev st.env y=some (.int k b)):Yields P N av bor w0 st (.call ⟨.builtin .max,#[x,y],#[t,t2]⟩) ty (.int k (if a<b then b else a)):=Sy.Yields.mk fun A w ok d pos af g=>by
 simp [execOp,resolve,invoke,builtin,Builtin.max_,Builtin.max2,ok.eval hx,ok.eval hy]
theorem Ak {p q:Bool} [hI:TyBool P t] (hx:ev st.env x=some (.bool p)) (hy:ev st.env y=some (.bool q)):Yields P N av bor w0 st (.binOp .eql t x y t2) ty (.bool (p==q)):=Sy.Yields.mk fun A w ok d pos af g=>by
 simp [execOp,ok.eval hx,ok.eval hy,eqGuard,binOp,run_equal_bool w t p q hI.out]
theorem Aj {p q:Bool} [hI:TyBool P t] (hx:ev st.env x=some (.bool p)) (hy:ev st.env y=some (.bool q)):Yields P N av bor w0 st (.binOp .neq t x y t2) ty (.bool (p != q)):=Sy.Yields.mk fun A w ok d pos af g=>by
 simp [execOp,ok.eval hx,ok.eval hy,eqGuard,binOp,run_equal_bool w t p q hI.out]
 cases p<;>cases q<;>rfl
theorem zP {bl off:Nat} {v:Value} [hI:Xy P t] (hx:ev st.env x=some (.pointer (some ⟨bl,off,none⟩))) (hF:∀ w,st.ext w→w.cell? ⟨bl,off,none⟩=some v):Yields P N av bor w0 st (.load t x) ty v:=Sy.Yields.mk fun A w ok d pos af g=>by
 simp [execOp,ok.eval hx,Instr.loadAt,Instr.sureAddr,loadVar,(bI hI.out w).1,hF w ok.gam.keep.now]
theorem Ae {m:Nat} {bl:Nat} {cs:List Value} [hI:Xs P t m] (hx:ev st.env x=some (.pointer (some ⟨bl,0,none⟩))) (hF:∀ w,st.ext w→∀ j v,cs[j]?=some v→w.cell? ⟨bl,j,none⟩=some v) (hl:cs.length=m):Yields P N av bor w0 st (.load t x) ty (.agg cs.toArray):=Sy.Yields.mk fun A w ok d pos af g=>by
 have:=dc (P:=P) (t:=t) hI.out (w:=w) (A:=⟨bl,0,none⟩) hl (fun j v hj=>by
  have e:(⟨bl,0,none⟩:Addr).add j=⟨bl,j,none⟩:=by unfold Addr.add;split<;>simp_all
  rw [e]
  exact hF w ok.gam.keep.now j v hj)
 simp [execOp,ok.eval hx,Instr.loadAt,Instr.sureAddr,this]
theorem vG {n e:Nat} {zv:Value} [hI:TyArr P t n e] [hz:Xo P t zv] {parts:List (Nat×Operand)} {vs:List Value} (hx:partsOf st.env 0 parts=some vs) (h1:vs.all (·.oneCell')=true) (hl:zv.cells.size=vs.length) :
  Yields P N av bor w0 st (.build t parts.toArray) ty (.agg vs.toArray):=Sy.Yields.mk fun A w ok d pos af g=>by
 obtain ⟨hu,ho⟩:=il hI.out
 obtain ⟨h2,h3⟩:=bI ho w
 have hz':=dj hz.out w
 have hp:=eB (E:=st.env) (loc:=st.loc) (X:=st.ext) ok parts 0 vs hx
 have hf:=jp vs [] zv.cells.toList (by simpa using h1) (by simpa using hl)
 simp only [List.nil_append,List.length_nil,Array.toArray_toList] at hf
 rw [←hp] at hf
 simp only [Nat.mul_one] at hf
 simp [execOp,Instr.build,hz',run_underlying hu,run_sizeOf h3,hf]
end
theorem dV (k:IntKind) (hk:k.signed=false) (n:Int):0≤k.wrap n:=by
 cases k<;>first|(simp [IntKind.signed] at hk;done)|(simp only [IntKind.wrap,IntKind.bits,IntKind.signed];simp;try exact Int.emod_nonneg _ (by decide))
theorem cG (op:BinOp) (k:IntKind) (hk:k.signed=false) (a b:Int):0≤bitsV op k a b:=dV k hk _
section
variable {P:Program} {N:Nat} {av bor:List Nat} {w0:World} {ops:Array Oper} {rest:List Oper} {k:St→Prop} {E:Env} {loc loc':List Xk} {X:World→Prop}
variable {d:Option Tmp} {ty:TypeId} {pos:String} {af:Array Edge} {g:Option (Nat×Bool)} {bb want:Bool} {K:Exit→St→Prop}
theorem eU {n c:Nat} {t e size bytes:Nat} [hs:Ea P t e size bytes] {z:Value} [hz:Xo P e z] {x y:Operand} (h:∀ q,Sw P N av bor w0 ops rest ⟨(n,.slice (some ⟨q,0,none⟩) 0 c)::E,orow e size (.slice (some ⟨q,0,none⟩) 0 c) 0 []::loc,X⟩ k) (hx:ev E x=some (.int .i64 0):=by rfl) (hy:ev E y=some (.int .i64 (c:Int)):=by rfl) (hm:Nat.ble (bytes*c) 1000000=true:=by rfl) (hm2:Nat.ble c 1000000=true:=by rfl) (hg:gdB ops E g=some (bb,want):=by rfl) (hb:bb=want:=by exact aq) (hd:Nat.blt n N=true:=by rfl) :
  Sw P N av bor w0 ops (⟨some n,.makeSlice t x y,ty,pos,af,g⟩::rest) ⟨E,loc,X⟩ k:=Sw.mk fun a w ok=>by
 have hd':inB N (some n)=true:=by have h1:n<N:=Nat.le_of_ble_eq_true hd;simpa [inB] using h1
 obtain ⟨ht,inf,hi,hi1,hi2⟩:=cf hs.out
 have hz1:inf.zero=some z:=by have:=hz.out;simpa [zeroOf,hi] using this
 have h1:=Nat.le_of_ble_eq_true hm
 have h2:=Nat.le_of_ble_eq_true hm2
 have hby:(inf.bytes:Int)*(c:Int)≤281474976710656:=by
  have h:((inf.bytes*c:Nat):Int)≤281474976710656:=by rw [hi2];omega
  rwa [Int.natCast_mul] at h
 have hr:=run_make (P:=P) w t e inf z ht hi hz1 .i64 .i64 0 (c:Int) (Int.le_refl _) aa hby aa
 simp only [Int.toNat_zero,Int.toNat_natCast] at hr
 simp only [wpList]
 rw [aX ok (o:=⟨some n,.makeSlice t x y,ty,pos,af,g⟩) hg]
 subst hb
 simp only [beq_self_eq_true,if_true]
 left
 unfold Oper.wp
 have hr':(execOp a.eval ⟨some n,.makeSlice t x y,ty,pos,af,g⟩).run P w=.ok (.value (.slice (some ⟨w.heap.size,0,none⟩) 0 c)) (w.alloc (.cells (madeCells z.cells (c*inf.size)) e)):=by
  simp [execOp,ok.eval (st:=⟨E,loc,X⟩) hx,ok.eval (st:=⟨E,loc,X⟩) hy,hr]
 rw [hr']
 have ok':Ok N av bor w0 ⟨E,orow e size (.slice (some ⟨w.heap.size,0,none⟩) 0 c) 0 []::loc,X⟩ a (w.alloc (.cells (madeCells z.cells (c*inf.size)) e)):=(ok.via fun M G=>G.new (.cells (madeCells z.cells (c*inf.size)) e) (fun w2=>ORow w2 e size (.slice (some ⟨w.heap.size,0,none⟩) 0 c) 0 []) (fun w2 h=>⟨by simp,.inr ⟨w.heap.size,c,_,(0,0),rfl,h,Nat.zero_le _,by simp only [maxLen];omega,by rw [size_madeCells,hi1],by simp,.inl rfl⟩⟩))
 exact (h _).run _ _ (cu (some n) _▸ok'.put hd' _)
end
section
variable {P:Program}
theorem bx {fn:Func} {N t ty n:Nat} {s:St} {b T:Nat} {cs:List Value} [hI:Xs P ty n] (hr:fn.results=#[.cell t ty]) (h:look s.env t=some (.pointer (some ⟨b,0,none⟩))) (hm:cel b T cs∈s.loc) (hn:cs.length=n):Res1 P fn N s (.agg cs.toArray):=fun av bor w0 a w ok=>by
 obtain ⟨D,h1,h2,h3⟩:=ck hI.out
 have ht:=ok.env t _ h
 have:(loadVar ty ⟨b,0,none⟩).run P w=.ok (.agg cs.toArray) w:=by
  cases D<;>simp at h2
  · exact run_loadVar_row w b T ty cs.toArray (0,0) _ (dX ok hm) h1 rfl (by rw [h3];simp [hn])
  · exact run_loadVar_row w b T ty cs.toArray (0,0) _ (dX ok hm) h1 rfl (by rw [h3];simp [hn])
 simp [results,hr,ht,asAddr,this]
end
section
variable {P:Program} {N:Nat} {av bor:List Nat} {w0:World} {ty:TypeId} {x y z:Operand} {t t2:TypeId} {k:IntKind} {a b c:Int}
variable {E:Env} {loc:List Xk} {X:World→Prop} {ops:Array Oper} {kk:St→Prop} {n:Nat} {pos:String} {af:Array Edge} {g:Option (Nat×Bool)} {rest:List Oper} {bb want:Bool}
theorem yz {s:ByteArray} [hI:Eb P t] (h:Sw P N av bor w0 ops rest ⟨(n,.string (s.extract 0 a.toNat))::E,loc,X⟩ kk) (hx:ev E x=some (.string s):=by rfl) (hy:ev E y=some (.int k a):=by rfl) (h0:0≤a:=by (first|decide|omega)) (h1:a≤s.size:=by (first|decide|omega)) (hg:gdB ops E g=some (bb,want):=by rfl) (hbb:bb=want:=by exact aq) (hd:Nat.blt n N=true:=by rfl) :
  Sw P N av bor w0 ops (⟨some n,.slice t x none (some y) none,ty,pos,af,g⟩::rest) ⟨E,loc,X⟩ kk:=ak (qq hx hy h0 h1) hg hbb hd h
theorem rY {s:ByteArray} [hI:Eb P t] (h:Sw P N av bor w0 ops rest ⟨(n,.string (s.extract a.toNat s.size))::E,loc,X⟩ kk) (hx:ev E x=some (.string s):=by rfl) (hy:ev E y=some (.int k a):=by rfl) (h0:0≤a:=by (first|decide|omega)) (h1:a≤s.size:=by (first|decide|omega)) (hg:gdB ops E g=some (bb,want):=by rfl) (hbb:bb=want:=by exact aq) (hd:Nat.blt n N=true:=by rfl) :
  Sw P N av bor w0 ops (⟨some n,.slice t x (some y) none none,ty,pos,af,g⟩::rest) ⟨E,loc,X⟩ kk:=ak (zY hx hy h0 h1) hg hbb hd h
theorem vS {s:ByteArray} {k':IntKind} [hI:Eb P t] (h:Sw P N av bor w0 ops rest ⟨(n,.string (s.extract a.toNat b.toNat))::E,loc,X⟩ kk) (hx:ev E x=some (.string s):=by rfl) (hy:ev E y=some (.int k a):=by rfl) (hz:ev E z=some (.int k' b):=by rfl) (h0:0≤a:=by (first|decide|omega)) (h1:a≤b:=by (first|decide|omega)) (h2:b≤s.size:=by (first|decide|omega)) (hg:gdB ops E g=some (bb,want):=by rfl) (hbb:bb=want:=by exact aq) (hd:Nat.blt n N=true:=by rfl) :
  Sw P N av bor w0 ops (⟨some n,.slice t x (some y) (some z) none,ty,pos,af,g⟩::rest) ⟨E,loc,X⟩ kk:=ak (yn hx hy hz h0 h1 h2) hg hbb hd h
theorem cD {s:ByteArray} [hI:Eb P t] (h:Sw P N av bor w0 ops rest ⟨(n,.int .u8 (byteAt s a.toNat))::E,loc,X⟩ kk) (hx:ev E x=some (.string s):=by rfl) (hy:ev E y=some (.int k a):=by rfl) (h0:0≤a:=by (first|decide|omega)) (h1:a<s.size:=by (first|decide|omega)) (hg:gdB ops E g=some (bb,want):=by rfl) (hbb:bb=want:=by exact aq) (hd:Nat.blt n N=true:=by rfl) :
  Sw P N av bor w0 ops (⟨some n,.index t x y,ty,pos,af,g⟩::rest) ⟨E,loc,X⟩ kk:=ak (qp hx hy h0 h1) hg hbb hd h
theorem yG {n0 e:Nat} {cs:Array Value} {v:Value} [hI:TyArr P t n0 e] (h:Sw P N av bor w0 ops rest ⟨(n,v)::E,loc,X⟩ kk) (hx:ev E x=some (.agg cs):=by rfl) (hy:ev E y=some (.int k a):=by rfl) (h0:0≤a:=by (first|decide|omega)) (h1:a<n0:=by (first|decide|omega)) (hv:cs[a.toNat]?=some v:=by rfl) (hg:gdB ops E g=some (bb,want):=by rfl) (hbb:bb=want:=by exact aq) (hd:Nat.blt n N=true:=by rfl) :
  Sw P N av bor w0 ops (⟨some n,.index t x y,ty,pos,af,g⟩::rest) ⟨E,loc,X⟩ kk:=ak (Al hx hy h0 h1 hv) hg hbb hd h
theorem cE {n0 e:Nat} {bl off q:Nat} [hI:TyArr P t n0 e] (h:Sw P N av bor w0 ops rest ⟨(n,.pointer (some ⟨bl,q,none⟩))::E,loc,X⟩ kk) (hx:ev E x=some (.pointer (some ⟨bl,off,none⟩)):=by rfl) (hy:ev E y=some (.int k a):=by rfl) (h0:0≤a:=by (first|decide|omega)) (h1:a<n0:=by (first|decide|omega)) (hq:off+a.toNat=q:=by (first|rfl|omega)) (hg:gdB ops E g=some (bb,want):=by rfl) (hbb:bb=want:=by exact aq) (hd:Nat.blt n N=true:=by rfl) :
  Sw P N av bor w0 ops (⟨some n,.indexAddr t x y,ty,pos,af,g⟩::rest) ⟨E,loc,X⟩ kk:=ak (fa hx hy h0 h1 hq) hg hbb hd h
theorem Av (h:Sw P N av bor w0 ops rest ⟨(n,.int k (if b<a then b else a))::E,loc,X⟩ kk) (hx:ev E x=some (.int k a):=by rfl) (hy:ev E y=some (.int k b):=by rfl) (hg:gdB ops E g=some (bb,want):=by rfl) (hbb:bb=want:=by exact aq) (hd:Nat.blt n N=true:=by rfl) :
  Sw P N av bor w0 ops (⟨some n,.call ⟨.builtin .min,#[x,y],#[t,t2]⟩,ty,pos,af,g⟩::rest) ⟨E,loc,X⟩ kk:=ak (Ba hx hy) hg hbb hd h
theorem Ax (h:Sw P N av bor w0 ops rest ⟨(n,.int k (if a<b then b else a))::E,loc,X⟩ kk) (hx:ev E x=some (.int k a):=by rfl) (hy:ev E y=some (.int k b):=by rfl) (hg:gdB ops E g=some (bb,want):=by rfl) (hbb:bb=want:=by exact aq) (hd:Nat.blt n N=true:=by rfl) :
  Sw P N av bor w0 ops (⟨some n,.call ⟨.builtin .max,#[x,y],#[t,t2]⟩,ty,pos,af,g⟩::rest) ⟨E,loc,X⟩ kk:=ak (Bb hx hy) hg hbb hd h
theorem iw {p q:Bool} [hI:TyBool P t] (h:Sw P N av bor w0 ops rest ⟨(n,.bool (p==q))::E,loc,X⟩ kk) (hx:ev E x=some (.bool p):=by rfl) (hy:ev E y=some (.bool q):=by rfl) (hg:gdB ops E g=some (bb,want):=by rfl) (hbb:bb=want:=by exact aq) (hd:Nat.blt n N=true:=by rfl) :
  Sw P N av bor w0 ops (⟨some n,.binOp .eql t x y t2,ty,pos,af,g⟩::rest) ⟨E,loc,X⟩ kk:=ak (Ak hx hy) hg hbb hd h
theorem yE {p q:Bool} [hI:TyBool P t] (h:Sw P N av bor w0 ops rest ⟨(n,.bool (p != q))::E,loc,X⟩ kk) (hx:ev E x=some (.bool p):=by rfl) (hy:ev E y=some (.bool q):=by rfl) (hg:gdB ops E g=some (bb,want):=by rfl) (hbb:bb=want:=by exact aq) (hd:Nat.blt n N=true:=by rfl) :
  Sw P N av bor w0 ops (⟨some n,.binOp .neq t x y t2,ty,pos,af,g⟩::rest) ⟨E,loc,X⟩ kk:=ak (Aj hx hy) hg hbb hd h
theorem vV {bl off:Nat} {v:Value} [hI:Xy P t] (h:Sw P N av bor w0 ops rest ⟨(n,v)::E,loc,X⟩ kk) (hx:ev E x=some (.pointer (some ⟨bl,off,none⟩)):=by rfl) (hF:∀ w,X w→w.cell? ⟨bl,off,none⟩=some v) (hg:gdB ops E g=some (bb,want):=by rfl) (hbb:bb=want:=by exact aq) (hd:Nat.blt n N=true:=by rfl) :
  Sw P N av bor w0 ops (⟨some n,.load t x,ty,pos,af,g⟩::rest) ⟨E,loc,X⟩ kk:=ak (zP hx hF) hg hbb hd h
theorem nu {m:Nat} {bl:Nat} {cs:List Value} [hI:Xs P t m] (h:Sw P N av bor w0 ops rest ⟨(n,.agg cs.toArray)::E,loc,X⟩ kk) (hx:ev E x=some (.pointer (some ⟨bl,0,none⟩)):=by rfl) (hF:∀ w,X w→∀ j v,cs[j]?=some v→w.cell? ⟨bl,j,none⟩=some v) (hl:cs.length=m:=by rfl) (hg:gdB ops E g=some (bb,want):=by rfl) (hbb:bb=want:=by exact aq) (hd:Nat.blt n N=true:=by rfl) :
  Sw P N av bor w0 ops (⟨some n,.load t x,ty,pos,af,g⟩::rest) ⟨E,loc,X⟩ kk:=ak (Ae hx hF hl) hg hbb hd h
theorem tI {n0 e:Nat} {zv:Value} [hI:TyArr P t n0 e] [hz:Xo P t zv] {parts:List (Nat×Operand)} {vs:List Value} (h:Sw P N av bor w0 ops rest ⟨(n,.agg vs.toArray)::E,loc,X⟩ kk) (hx:partsOf E 0 parts=some vs:=by rfl) (h1:vs.all (·.oneCell')=true:=by rfl) (hl:zv.cells.size=vs.length:=by rfl) (hg:gdB ops E g=some (bb,want):=by rfl) (hbb:bb=want:=by exact aq) (hd:Nat.blt n N=true:=by rfl) :
  Sw P N av bor w0 ops (⟨some n,.build t parts.toArray,ty,pos,af,g⟩::rest) ⟨E,loc,X⟩ kk:=ak (vG hx h1 hl) hg hbb hd h
end
end Go.Proofs.YtggionfjlgfihaaGreatDoor.Sy
