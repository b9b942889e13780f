/- Joined. -/
import Derived.Test.YtaolfiikahlmkaaGreatDoorT0
import Derived.MapKept
import Derived.Sort.OwnSorted
import Derived.Lib.SlKeysI
import Derived.Lib.SlicesCompact
import Derived.Shelf.SlIter.Nil
import Derived.Shelf.SlIterI.Nil
import Derived.Shelf.SortM.Plain
import Derived.Shelf.SortM.SortNone
import Derived.Shelf.Slices.CompactS
import Derived.Test.YtaolfiikahlmkaaGreatDoorProg
import Derived.Test.YtaolfiikahlmkaaGreatDoorChecked
set_option linter.unusedVariables false
set_option linter.unusedSimpArgs false
set_option maxHeartbeats 16000000
namespace Go.Proofs.YtaolfiikahlmkaaGreatDoor.Sy
open Go Go.RowKit
inductive Pn where
 | mk (ts:List Nat) (bs:List (Nat×Pn))
def lstd (n:Nat):List Nat→Array Bool
 | []=>Array.replicate n false
 | i::r=>(lstd n r).setIfInBounds i true
theorem gq {p q r s s':Prop} {b:Bool} (a_:b=true→s→q) (b_:b=false→s'→r) (h:(b=true→q)→(b=false→r)→p:=by intro a_ b_;first|((fail_if_success (refine EM ?_));exact EK (ht:=a_) (hf:=b_))|((fail_if_success (refine cf ?_));exact bu (ht:=a_) (hf:=b_))|fail) (hs:b=true→s:=by first|exact bz|exact fun _=>trivial|fail) (hs':b=false→s':=by first|exact co|exact fun _=>trivial|fail):p:=h (fun e=>a_ e (hs e)) (fun e=>b_ e (hs' e))
section
variable {P:Program} {N:Nat} {av bor:List Nat} {w0:World}
variable {loc0:List Xm} {X0:World→Prop} {l:List Oper} {fuel:Nat} {dn ts:List Nat} {bs:List (Nat×Pn)} {E:Env} {loc:List Xm} {X:World→Prop} {k:St→Prop} {K:Exit→St→Prop}
variable {n i:Nat} {o:Op} {ty:TypeId} {pos:String} {af:Array Edge} {g:Option (Nat×Bool)} {v:Value} {bb want:Bool}
theorem Bl {loc loc0:List Xm} {X X0:World→Prop} (h:∀ w,Xr av bor w0 loc X w→Xr av bor w0 loc0 X0 w:=by first|(first|exact fun _ h=>h|exact fun _ h=>(h.drop (Zu _)).imp (fun _ _=>trivial)|exact fun _ h=>h.drop (by (first|exact aj _|exact Z2 _ (aj _)|exact Z2 _ (Z2 _ (aj _))|exact Z2 _ (Z2 _ (Z2 _ (aj _)))))|exact fun _ h=>h.imp (fun _ h=>h.1)|exact fun _ h=>(h.drop (by (first|exact aj _|exact Z2 _ (aj _)|exact Z2 _ (Z2 _ (aj _))|exact Z2 _ (Z2 _ (Z2 _ (aj _)))))).imp (fun _ h=>h.1)|exact fun _ h=>(h.drop (by (first|exact aj _|exact Z2 _ (aj _)|exact Z2 _ (Z2 _ (aj _))|exact Z2 _ (Z2 _ (Z2 _ (aj _)))))).imp (fun _ h=>h.1.1))|(first|exact fun _ h=>h|exact fun _ h=>h.drop (by ((repeat (first|exact aj _|exact Z3 _ (Zu _)|apply Z2));first|done|fail))|exact fun _ h=>(h.drop (by ((repeat (first|exact aj _|exact Z3 _ (Zu _)|apply Z2));first|done|fail))).imp (fun _ h=>h.1)|exact fun _ h=>(h.drop (by ((repeat (first|exact aj _|exact Z3 _ (Zu _)|apply Z2));first|done|fail))).imp (fun _ h=>h.1.1)|exact fun _ h=>(h.drop (by ((repeat (first|exact aj _|exact Z3 _ (Zu _)|apply Z2));first|done|fail))).imp (fun _ h=>h.1.1.1)|exact fun _ h=>(h.drop (by ((repeat (first|exact aj _|exact Z3 _ (Zu _)|apply Z2));first|done|fail))).imp (fun _ h=>h.1.1.1.1))|(exact fun _ h=>(h.drop (by ((repeat (first|exact aj _|exact Z3 _ (Zu _)|apply Z2));first|done|fail))).imp (fun _ _=>trivial))|(first|exact fun _ h=>h.drop (by ((repeat (first|exact aj _|exact Zu _|apply Z3|apply Z2));first|done|fail))|exact fun _ h=>(h.drop (by ((repeat (first|exact aj _|exact Zu _|apply Z3|apply Z2));first|done|fail))).imp (fun _ h=>h.1)|exact fun _ h=>(h.drop (by ((repeat (first|exact aj _|exact Zu _|apply Z3|apply Z2));first|done|fail))).imp (fun _ h=>h.1.1))|(first|exact fun _ h=>h.drop (by ((repeat (first|exact aj _|exact Zu _|with_reducible apply Z3|apply Z2));first|done|fail))|exact fun _ h=>(h.drop (by ((repeat (first|exact aj _|exact Zu _|with_reducible apply Z3|apply Z2));first|done|fail))).imp (fun _ h=>h.1)|exact fun _ h=>(h.drop (by ((repeat (first|exact aj _|exact Zu _|with_reducible apply Z3|apply Z2));first|done|fail))).imp (fun _ h=>h.1.1))|fail):∀ w,Xr av bor w0 loc X w→Xr av bor w0 loc0 X0 w:=h
structure Dw (P:Program) (N:Nat) (av bor:List Nat) (w0:World) (loc0:List Xm) (X0:World→Prop) (l:List Oper) (fuel:Nat) (dn:List Nat) (pl:Pn) (st:St) (k:St→Prop):Prop where
 run:Aw P N av bor w0 loc0 X0 l.toArray fuel (lstd l.length dn) st k
structure Df (A B:Prop):Prop where
 a:A
 b:B
theorem zP {ops:Array Oper} {todo:List Oper} {st:St} {k k':St→Prop} (hk:∀ s,k s→k' s) (h:Sw P N av bor w0 ops todo st k):Sw P N av bor w0 ops todo st k':=Sw.mk fun a w ok=>by
 have mono:∀ (todo:List Oper) a w,wpList P ops (post N av bor w0 (only k)) todo a w→wpList P ops (post N av bor w0 (only k')) todo a w:=by
  intro todo
  induction todo with
  | nil =>
   rintro a w ⟨s,h1,h2⟩
   exact ⟨s,hk s h1,h2⟩
  | cons o rest ih =>
   intro a w h
   simp only [wpList] at h ⊢
   split
   · rename_i hw
     simp only [hw,ZN] at h
     rcases h with h|⟨_,_,_,h⟩
     · exact .inl (jl ih h)
     · exact h.elim
   · rename_i hw
     simp only [hw] at h
     exact ih _ _ h
 exact mono _ _ _ (h.run a w ok)
structure Ds (P:Program) (N:Nat) (av bor:List Nat) (w0:World) (loc0:List Xm) (X0:World→Prop) (l:List Oper) (fuel:Nat) (dn:List Nat) (bs:List (Nat×Pn)) (st:St) (k:St→Prop):Prop where
 run:∀ i∈bs.map Prod.fst,∀ a w,Ok N av bor w0 st a w→wpOp P l.toArray (post N av bor w0 (only k)) i (fun a' w'=>Xr av bor w0 loc0 X0 w'∧wpAnyH P .any l.toArray (post N av bor w0 (only k)) (Xr av bor w0 loc0 X0) fuel ((lstd l.length dn).setIfInBounds i true) a' w') a w
theorem Gn {pl:Pn} {st:St} (h:Dw P N av bor w0 loc0 X0 l fuel dn pl st k):Dw P N av bor w0 loc0 X0 l fuel dn pl st k:=h
theorem aq {id:Nat} (pl:Pn) (loc0:List Xm) (X0:World→Prop) (hm:P.follows .mixedOrders=true:=by kernel_rfl) (h:Dw P N av bor w0 loc0 X0 l l.length [] pl ⟨E,loc,X⟩ (K .normal)) :
  Cw P N av bor w0 (.region id l.toArray true) ⟨E,loc,X⟩ K:=jC loc0 X0 hm h.run
theorem aW {id:Nat} (pl:Pn) (hm:P.follows .mixedOrders=true:=by kernel_rfl) (h:Dw P N av bor w0 loc X l l.length [] pl ⟨E,loc,X⟩ (K .normal)) :
  Cw P N av bor w0 (.region id l.toArray true) ⟨E,loc,X⟩ K:=jC loc X hm h.run
theorem ax (h:Dw P N av bor w0 loc0 X0 l fuel (i::dn) ⟨ts,bs⟩ ⟨(n,v)::E,loc,X⟩ k) (hi:l.toArray[i]?=some ⟨some n,o,ty,pos,af,g⟩:=by rfl) (hg:gdB l.toArray E g=some (bb,want):=by rfl) (hb:bb=want:=by exact ar) (hd:Nat.blt n N=true:=by rfl) (hy:Sy.Yields P N av bor w0 ⟨E,loc0,X0⟩ o ty v:=by (first|(apply pg;rfl)|(apply iN;rfl)|(apply fm;rfl)|(apply uF;rfl;(first|exact ZU _|(simp only [Nat.reduceAdd];rfl)))|(apply nA;rfl;(repeat (first|exact am|apply Zv));rfl)|(apply la;rfl;(repeat (first|exact am|apply Zv));rfl)|(apply iL;rfl;(first|with_reducible rfl|with_reducible assumption|with_reducible exact Zl|with_reducible exact Zn);rfl)|(apply iM;rfl;(first|with_reducible rfl|with_reducible assumption|with_reducible exact Zl|with_reducible exact Zn);rfl)|(apply uD;rfl)|(apply kp;rfl;rfl)|(apply qy;rfl;rfl)|(apply qA;rfl;rfl)|(apply qB;rfl;rfl)|(apply ko;rfl;rfl)|(apply qC;rfl;rfl)|(apply jI;rfl;rfl)|(apply lq;rfl;rfl)|(apply pf;rfl)|(apply uE;rfl)|(apply g6;rfl;rfl)|(apply lw;rfl;rfl;(first|exact IntWalk.i64_in _ (by omega)|rfl))|(apply lp;rfl;rfl;(first|exact IntWalk.i64_in _ (by omega)|rfl))|(apply nW;rfl;rfl)|(apply Ca;rfl;rfl)|(apply qv;rfl;rfl)|(apply lu;rfl;rfl)|(apply pd;rfl)|(apply uC;rfl;rfl;(first|decide|exact cE _ _ rfl _ _|exact dK _ rfl _|omega))|(apply qw;rfl;rfl;(first|decide|exact cE _ _ rfl _ _|exact dK _ rfl _|omega))|(apply nV;rfl;rfl)|(apply fq;rfl;rfl;decide;decide;rfl))) (hs:Region.noSelect l.toArray=true:=by kernel_rfl) (hf:Region.free .any l.toArray (lstd l.length dn) i=true:=by kernel_rfl) (hr:(Region.ready .any l.toArray (lstd l.length dn)).contains i=true:=by kernel_rfl) (hsub:∀ w,Xr av bor w0 loc X w→Xr av bor w0 loc0 X0 w:=by exact eS):Dw P N av bor w0 loc0 X0 l (fuel+1) dn ⟨i::ts,bs⟩ ⟨E,loc,X⟩ k:=⟨bp i h.run hi hs hf hr hsub hy hg hb hd⟩
theorem BQ (h:Dw P N av bor w0 loc0 X0 l fuel (i::dn) ⟨ts,bs⟩ ⟨(n,undef)::E,loc,X⟩ k) (hi:l.toArray[i]?=some ⟨some n,o,ty,pos,af,g⟩:=by rfl) (hg:gdB l.toArray E g=some (bb,true):=by rfl) (hb:bb=false:=by exact ar) (hd:Nat.blt n N=true:=by rfl) (hs:Region.noSelect l.toArray=true:=by kernel_rfl) (hf:Region.free .any l.toArray (lstd l.length dn) i=true:=by kernel_rfl) (hr:(Region.ready .any l.toArray (lstd l.length dn)).contains i=true:=by kernel_rfl) (hsub:∀ w,Xr av bor w0 loc X w→Xr av bor w0 loc0 X0 w:=by exact eS):Dw P N av bor w0 loc0 X0 l (fuel+1) dn ⟨i::ts,bs⟩ ⟨E,loc,X⟩ k:=⟨BT i h.run hi hs hf hr hsub hg hb hd⟩
theorem BR (h:Dw P N av bor w0 loc0 X0 l fuel (i::dn) ⟨ts,bs⟩ ⟨(n,undef)::E,loc,X⟩ k) (hi:l.toArray[i]?=some ⟨some n,o,ty,pos,af,g⟩:=by rfl) (hg:gdB l.toArray E g=some (bb,false):=by rfl) (hb:bb=true:=by exact ar) (hd:Nat.blt n N=true:=by rfl) (hs:Region.noSelect l.toArray=true:=by kernel_rfl) (hf:Region.free .any l.toArray (lstd l.length dn) i=true:=by kernel_rfl) (hr:(Region.ready .any l.toArray (lstd l.length dn)).contains i=true:=by kernel_rfl) (hsub:∀ w,Xr av bor w0 loc X w→Xr av bor w0 loc0 X0 w:=by exact eS):Dw P N av bor w0 loc0 X0 l (fuel+1) dn ⟨i::ts,bs⟩ ⟨E,loc,X⟩ k:=⟨BU i h.run hi hs hf hr hsub hg hb hd⟩
theorem BP (h:Dw P N av bor w0 loc0 X0 l fuel (i::dn) ⟨ts,bs⟩ ⟨(n,undef)::E,loc,X⟩ k) (hi:l.toArray[i]?=some ⟨some n,o,ty,pos,af,g⟩:=by rfl) (hg:gdU l.toArray E g=true:=by rfl) (hd:Nat.blt n N=true:=by rfl) (hs:Region.noSelect l.toArray=true:=by kernel_rfl) (hf:Region.free .any l.toArray (lstd l.length dn) i=true:=by kernel_rfl) (hr:(Region.ready .any l.toArray (lstd l.length dn)).contains i=true:=by kernel_rfl) (hsub:∀ w,Xr av bor w0 loc X w→Xr av bor w0 loc0 X0 w:=by exact eS):Dw P N av bor w0 loc0 X0 l (fuel+1) dn ⟨i::ts,bs⟩ ⟨E,loc,X⟩ k:=⟨BS i h.run hi hs hf hr hsub hg hd⟩
theorem EM {jb:Nat×Bool} (h:Dw P N av bor w0 loc0 X0 l fuel dn ⟨i::ts,bs⟩ ⟨E,loc,X⟩ k) (hi:l.toArray[i]?=some ⟨some n,o,ty,pos,af,some jb⟩:=by rfl) (hg:gdB l.toArray E (some jb)=some (bb,want):=by rfl) (hb:bb=true∨bb=false:=by (first|with_reducible exact Or.inl rfl|with_reducible exact Or.inr rfl|with_reducible exact Or.inl Zl|with_reducible exact Or.inr Zn|(apply Or.inl;with_reducible assumption)|(apply Or.inr;with_reducible assumption))):Dw P N av bor w0 loc0 X0 l fuel dn ⟨i::ts,bs⟩ ⟨E,loc,X⟩ k:=h
theorem EK {jb:Nat×Bool} (hi:l.toArray[i]?=some ⟨some n,o,ty,pos,af,some jb⟩:=by rfl) (hg:gdB l.toArray E (some jb)=some (bb,want):=by rfl) (ht:bb=true→Dw P N av bor w0 loc0 X0 l fuel dn ⟨i::ts,bs⟩ ⟨E,loc,X⟩ k) (hf:bb=false→Dw P N av bor w0 loc0 X0 l fuel dn ⟨i::ts,bs⟩ ⟨E,loc,X⟩ k) :
  Dw P N av bor w0 loc0 X0 l fuel dn ⟨i::ts,bs⟩ ⟨E,loc,X⟩ k:=by
 cases bb
 · exact hf rfl
 · exact ht rfl
theorem BV {q:Nat×Pn} (h:Ds P N av bor w0 loc0 X0 l fuel dn (q::bs) ⟨E,loc,X⟩ k) (hr:Region.ready .any l.toArray (lstd l.length dn)=(q::bs).map Prod.fst:=by kernel_rfl):Dw P N av bor w0 loc0 X0 l (fuel+1) dn ⟨[],q::bs⟩ ⟨E,loc,X⟩ k :=
 ⟨Aw.mk fun a w ok=>wpAnyH_all hr (by rw [Z1];exact List.cons_ne_nil _ _) fun j hj=>h.run j hj a w ok⟩
theorem aA {pl:Pn} {o:Oper} (h:Sw P N av bor w0 l.toArray [o] ⟨E,loc,X⟩ (fun s=>Df (∀ w,Xr av bor w0 s.loc s.ext w→Xr av bor w0 loc0 X0 w) (Dw P N av bor w0 loc0 X0 l fuel (i::dn) pl s k))) (hi:l.toArray[i]?=some o:=by rfl) (h':Ds P N av bor w0 loc0 X0 l fuel dn bs ⟨E,loc,X⟩ k):Ds P N av bor w0 loc0 X0 l fuel dn ((i,pl)::bs) ⟨E,loc,X⟩ k:=⟨fun j hj a w ok=>by
 rw [Z1] at hj
 rcases ZI.1 hj with rfl|hj
 · exact vQ (listed:=lstd l.length dn) hi (zP (fun s q=>⟨q.a,q.b.run⟩) h) a w ok
 · exact h'.run j hj a w ok⟩
theorem aB:Ds P N av bor w0 loc0 X0 l fuel dn [] ⟨E,loc,X⟩ k:=⟨fun j hj=>by cases hj⟩
theorem EL (h:k ⟨E,loc,X⟩) (hr:Region.ready .any l.toArray (lstd l.length dn)=[]:=by kernel_rfl):Dw P N av bor w0 loc0 X0 l fuel dn ⟨[],[]⟩ ⟨E,loc,X⟩ k:=⟨fC hr h⟩
end
theorem aI {av bor:List Nat} {w0:World} {loc loc0:List Xm} {X X0:World→Prop} (h:∀ w,Xr av bor w0 loc X w→Xr av bor w0 loc0 X0 w:=by first|exact fun _ h=>h|(first|exact fun _ h=>h.drop (by ((repeat (first|exact aj _|exact Zu _|apply Z3|apply Z2));done))|exact fun _ h=>(h.drop (by ((repeat (first|exact aj _|exact Zu _|apply Z3|apply Z2));done))).imp (fun _ h=>h.1)|exact fun _ h=>(h.drop (by ((repeat (first|exact aj _|exact Zu _|apply Z3|apply Z2));done))).imp (fun _ h=>h.1.1))|(first|exact fun _ h=>h.drop (by ((repeat (first|exact aj _|exact Zu _|with_reducible apply Z3|apply Z2));done))|exact fun _ h=>(h.drop (by ((repeat (first|exact aj _|exact Zu _|with_reducible apply Z3|apply Z2));done))).imp (fun _ h=>h.1)|exact fun _ h=>(h.drop (by ((repeat (first|exact aj _|exact Zu _|with_reducible apply Z3|apply Z2));done))).imp (fun _ h=>h.1.1))|(first|exact fun _ h=>h|exact fun _ h=>h.drop (by ((repeat (first|exact aj _|exact Z3 _ (Zu _)|apply Z2));done))|exact fun _ h=>(h.drop (by ((repeat (first|exact aj _|exact Z3 _ (Zu _)|apply Z2));done))).imp (fun _ h=>h.1)|exact fun _ h=>(h.drop (by ((repeat (first|exact aj _|exact Z3 _ (Zu _)|apply Z2));done))).imp (fun _ h=>h.1.1)|exact fun _ h=>(h.drop (by ((repeat (first|exact aj _|exact Z3 _ (Zu _)|apply Z2));done))).imp (fun _ h=>h.1.1.1)|exact fun _ h=>(h.drop (by ((repeat (first|exact aj _|exact Z3 _ (Zu _)|apply Z2));done))).imp (fun _ h=>h.1.1.1.1))|(first|exact fun _ h=>h|exact fun _ h=>(h.drop (Zu _)).imp (fun _ _=>trivial)|exact fun _ h=>h.drop (by (first|exact aj _|exact Z2 _ (aj _)|exact Z2 _ (Z2 _ (aj _))|exact Z2 _ (Z2 _ (Z2 _ (aj _)))))|exact fun _ h=>h.imp (fun _ h=>h.1)|exact fun _ h=>(h.drop (by (first|exact aj _|exact Z2 _ (aj _)|exact Z2 _ (Z2 _ (aj _))|exact Z2 _ (Z2 _ (Z2 _ (aj _)))))).imp (fun _ h=>h.1)|exact fun _ h=>(h.drop (by (first|exact aj _|exact Z2 _ (aj _)|exact Z2 _ (Z2 _ (aj _))|exact Z2 _ (Z2 _ (Z2 _ (aj _)))))).imp (fun _ h=>h.1.1))|(exact fun _ h=>(h.drop (by ((repeat (first|exact aj _|exact Z3 _ (Zu _)|apply Z2));done))).imp (fun _ _=>trivial))|fail):∀ w,Xr av bor w0 loc X w→Xr av bor w0 loc0 X0 w:=h
theorem gdz {p q:Prop} (k_:q) (h:q→p:=by intro q_;first|(refine Gn ?_;first|exact EL (h:=q_)|exact BV (h:=q_)|exact ax (h:=q_) (hsub:=by exact aI)|exact BQ (h:=q_) (hsub:=by exact aI)|exact BR (h:=q_) (hsub:=by exact aI)|exact BP (h:=q_) (hsub:=by exact aI)|fail)|(refine Df.mk ?_ q_;exact aI)|exact aH q_|(refine FK ?_;first|exact bQ (h:=q_)|exact be (h:=q_)|fail)|(refine FJ ?_;first|exact bX (h:=q_)|exact aP (h:=q_)|fail)|(refine FL ?_;first|exact bj (h:=q_)|exact fO (h:=q_)|exact mr (h:=q_)|fail)|fail):p:=h k_
def ORow (w:World) (e size:Nat) (v:Value) (n:Nat) (xs:List Value):Prop :=
 xs.length=n*size∧((v=.slice none 0 0∧n=0) ∨
  ∃ g cap cur fz,v=.slice (some ⟨g,0,none⟩) n cap∧w.heap[g]?=some (.cells cur e fz)∧n≤cap∧cap≤maxLen∧cur.size=cap*size∧cur.toList.take (n*size)=xs∧(fz.1=fz.2∨cur.size≤fz.1))
def orow (e size:Nat) (v:Value) (n:Nat) (xs:List Value):Xm:=⟨v.ownBlock.toList,fun w=>ORow w e size v n xs⟩
theorem dH {e size n:Nat} {v:Value} {xs:List Value} {w:World} (h:ORow w e size v n xs):Holds (orow e size v n xs) w:=by
 intro w2 h2
 refine ⟨h.1,?_⟩
 rcases h.2 with h0|⟨g,cap,cur,fz,hv,hg,hr⟩
 · exact .inl h0
 · exact .inr ⟨g,cap,cur,fz,hv,(h2 g (by rw [hv];simp [orow,Value.ownBlock])).trans hg,hr⟩
section
variable {P:Program} {N:Nat} {av bor:List Nat} {w0:World} {ops:Array Oper} {rest:List Oper} {k:St→Prop} {E:Env} {loc loc':List Xm} {X:World→Prop}
variable {d:Option Tmp} {ty:TypeId} {pos:String} {af:Array Edge} {g:Option (Nat×Bool)} {bb want:Bool} {K:Exit→St→Prop}
theorem Xr.swap {w w':World} {r r':Xm} (G:Xr av bor w0 loc X w) (hA:At r r' loc loc') (ho:w'.os=w.os) (ht:w'.tape=w.tape) (hp:w'.output=w.output) (hz:w.heap.size≤w'.heap.size)
  (hb:∀ i,i<w.heap.size→i∉r.fp→w'.heap[i]?=w.heap[i]?) (hn:r'.fp.Nodup) (hf:∀ i∈r'.fp,i<w'.heap.size∧(i∈r.fp∨w.heap.size≤i)) (hr:Holds r' w'):Xr av bor w0 loc' X w':=by
 obtain ⟨f,h1,h2⟩:=hA.perm
 have G1:Xr av bor w0 ([r]++f) X w:=G.perm h1
 have G2:Xr (av++fps f) (fps [r]) w [r'] (fun _=>True) w':=by
  have hs:=G1.start
  have e1:fps [r]=r.fp:=by simp [fps]
  have e2:fps [r']=r'.fp:=by simp [fps]
  refine ⟨⟨ho,ht,hp,hz,fun i hi hne=>hb i hi (by rwa [e1] at hne)⟩,hs.avb,by rw [e2];exact hn,?_,?_,Keeps.all fun _=>trivial⟩
  · intro i hi
    rw [e2] at hi
    have:=hf i hi
    rw [e1]
    exact ⟨this.1,this.2.symm⟩
  · intro x hx
    rw [Z5] at hx
    subst hx
    exact hr
 exact (((G1.frame G2).imp fun _ h=>h.1:Xr av bor w0 ([r']++f) X w')).perm h2.symm
theorem dO (P:Program) (g o:Nat) (t:TypeId) (fz:Nat×Nat):∀ (vs:List Value) (i:Nat) (cur:Array Value) (w:World),w.heap[g]?=some (.cells cur t fz)→(fz.1=fz.2∨cur.size≤fz.1)→o+i+vs.length≤cur.size→(∀ v∈vs,v.oneCell'=true) →
  (storeCells ⟨g,o,none⟩ vs i).run P w=.ok () (w.setRow g (cur.toList.take (o+i)++vs++cur.toList.drop (o+i+vs.length)).toArray)
 | [],i,cur,w,hg,_,_,_=>by
  simp only [storeCells,ZJ,ZR,ZT,Qs,Array.toArray_toList]
  rw [setRow_self w g cur t fz hg]
  rfl
 | v::rest,i,cur,w,hg,hz,hl,h1=>by
  have hi:o+i<cur.size:=by simp at hl;omega
  have hadd:(⟨g,o,none⟩:Addr).add i=⟨g,o+i,none⟩:=by unfold Addr.add;split<;>simp_all
  have hcell:w.cell? ⟨g,o+i,none⟩=some cur[o+i]:=by simp [World.cell?,hg,hi]
  have hfro:w.frozen? ⟨g,o+i,none⟩=false:=by
   obtain ⟨lo,hi'⟩:=fz
   simp only [World.frozen?,hg]
   simp only at hz
   have:¬ (lo≤o+i∧o+i<hi'):=by omega
   simpa using this
  have hst:(store ((⟨g,o,none⟩:Addr).add i) v).run P w=.ok () (w.setRow g (cur.setIfInBounds (o+i) v)):=by
   rw [hadd,run_store P w _ v _ (h1 v (by simp)),hcell]
   simp [hfro,setCell_eq_setRow w g (o+i) cur t fz v hg]
  have ih:=dO P g o t fz rest (i+1) (cur.setIfInBounds (o+i) v) (w.setRow g (cur.setIfInBounds (o+i) v)) (Go.setRow_heap w g cur _ t _ hg) (by simpa using hz) (by simp at hl ⊢;omega) (fun x hx=>h1 x (by simp [hx]))
  simp only [storeCells,Sem.run_bind,hst,Result.andThen_ok,ih,setRow_setRow]
  congr 3
  have e:=list_seg_step cur.toList (o+i) v rest (by simp at hl ⊢;omega)
  simpa [Array.toList_setIfInBounds,ZH] using e
def strOrSl (P:Program) (u:TypeId):Bool :=
 match P.underlying u with
 | some .string|some (.slice _)=>true
 | _=>false
class TySrc (P:Program) (u:TypeId):Prop where out:strOrSl P u=true
instance {u:TypeId} [h:X8 P u]:TySrc P u:=⟨by simp [strOrSl,h.out]⟩
instance {u e n b:TypeId} [h:X7 P u e n b]:TySrc P u:=⟨by simp [strOrSl,(cB h.out).1]⟩
theorem gk {u:TypeId} (h:strOrSl P u=true):P.underlying u=some .string∨∃ e,P.underlying u=some (.slice e):=by
 unfold strOrSl at h
 split at h
 · exact .inl (by assumption)
 · exact .inr ⟨_,by assumption⟩
 · cases h
structure Src (P:Program) (w:World) (size:Nat) (x:Value) (m:Nat) (news:List Value):Prop where
 len:∀ w',(Builtin.lenOf x).run P w'=.ok m w'
 cells:∀ w':World,w'.heap=w.heap→(Builtin.firstCells size m x).run P w'=.ok news.toArray w'
 size:news.length=m*size
 one:∀ u∈news,u.oneCell'=true
theorem ei (e:TypeId) (cs:Array Value) (w:World):(newRow e cs).run P w=.ok ⟨w.heap.size,0,none⟩ (w.alloc (.cells cs e)):=rfl
theorem pN {w:World} {t u ty e size bytes:Nat} {z:Value} (hs:slOf P t=some (e,size,bytes)) (hz:zeroOf P e=some z) (hzs:z.cells.size=size) (hsz:0<size) (hu:strOrSl P u=true)
  {v x:Value} {n m:Nat} {xs news:List Value} (ho:ORow w e size v n xs) (hx:Src P w size x m news) (h63:n+m≤maxLen) (hby:(n+m)*bytes≤140737488355328) :
  ∃ v' w',(Builtin.append_ #[t,u] ty #[v,x]).run P w=.ok v' w'∧ORow w' e size v' (n+m) (xs++news)∧w'.os=w.os∧w'.tape=w.tape∧w'.output=w.output∧w.heap.size≤w'.heap.size ∧
   (∀ i,i<w.heap.size→i∉v.ownBlock.toList→w'.heap[i]?=w.heap[i]?)∧(∀ i∈v'.ownBlock.toList,i<w'.heap.size∧(i∈v.ownBlock.toList∨w.heap.size≤i)):=by
 obtain ⟨ht,inf,hi,hi1,hi2⟩:=cB hs
 have hzr:(zeroValue e).run P w.drew=.ok z w.drew:=dF hz _
 have hsm:n+m≤9223372036854775807:=by simp only [maxLen] at h63;omega
 have hlen:(xs++news).length=(n+m)*size:=by rw [ZA,ho.1,hx.size,QF]
 have h63':¬ (9223372036854775807<(n:Int)+(m:Int)):=by omega
 have grow:∀ (A:Option Addr) (cap:Nat),v=.slice A n cap→cap<n+m→(∀ w':World,w'.heap=w.heap→(Builtin.firstCells size n v).run P w'=.ok xs.toArray w') →
   (Builtin.append_ #[t,u] ty #[v,x]).run P w=.ok (.slice (some ⟨w.heap.size,0,none⟩) (n+m) (grownCap w (n+m) cap e))
    (w.drew.alloc (.cells (xs.toArray++news.toArray++Builtin.zeroCells z.cells (grownCap w (n+m) cap e-(n+m))) e)):=by
  intro A cap hv hlt hf
  subst hv
  have h1:=hf w.drew rfl
  have h2:=hx.cells w.drew rfl
  have hnc:¬ (n+m≤cap):=by omega
  have hfit:¬ (281474976710656<Builtin.nextslicecap (n+m) cap*bytes):=by have:=growslice_fits hlt hby;omega
  have hsw:(sizeOf e).run P w=.ok size w:=by simp [sizeOf,typeInfo,hi,hi1]
  rcases gk hu with hD|⟨e',hD⟩<;>simp [Builtin.append_,run_underlying ht,run_underlying hD,hsw,typeInfo,hi,hi1,hi2,hx.len,hnc,hfit,h1,h2,hzr,grownCap,Question.forced,h63',ei]<;>(rw [←Array.append_assoc];simp)
 have fin:∀ (A:Option Addr) (cap:Nat),v=.slice A n cap→cap<n+m→(∀ w':World,w'.heap=w.heap→(Builtin.firstCells size n v).run P w'=.ok xs.toArray w')→_ :=
  fun A cap hv hlt hf=>by
   have hge:=grownCap_ge w (n+m) cap e
   have hcm:grownCap w (n+m) cap e≤maxLen:=grownCap_le_maxLen w (n+m) cap e h63
   exact (⟨_,_,grow A cap hv hlt hf,⟨hlen,.inr ⟨w.heap.size,_,_,(0,0),rfl,heap_alloc_new w.drew _,hge,hcm,by
     simp only [Array.size_append,List.size_toArray,size_zeroCells,hzs,ho.1,hx.size,←QF]
     congr 1
     omega,by
     simp only [Array.toList_append,ZC]
     rw [←ZC,←hlen]
     exact List.take_left,.inl rfl⟩⟩,rfl,rfl,rfl,by simp,fun i hi _=>Below.heap_alloc w.drew _ i hi,fun i hi=>by
     simp only [Value.ownBlock,Qu,Z5] at hi
     subst hi
     exact ⟨by simp,.inr (ZX _)⟩⟩ :
    ∃ v' w',(Builtin.append_ #[t,u] ty #[v,x]).run P w=.ok v' w'∧ORow w' e size v' (n+m) (xs++news)∧w'.os=w.os∧w'.tape=w.tape∧w'.output=w.output∧w.heap.size≤w'.heap.size ∧
     (∀ i,i<w.heap.size→i∉v.ownBlock.toList→w'.heap[i]?=w.heap[i]?)∧(∀ i∈v'.ownBlock.toList,i<w'.heap.size∧(i∈v.ownBlock.toList∨w.heap.size≤i)))
 have hsw:(sizeOf e).run P w=.ok size w:=by simp [sizeOf,typeInfo,hi,hi1]
 rcases ho.2 with ⟨rfl,rfl⟩|⟨g,cap,cur,fz,rfl,hg,hnc,hcm,hcs,htake,hfz⟩
 · have hxs:xs=[]:=Z8 (by simpa using ho.1)
   subst hxs
   by_cases hm:m=0
   · subst hm
     have hn:news=[]:=Z8 (by simpa using hx.size)
     subst hn
     refine ⟨.slice none 0 0,w,?_,⟨by simp,.inl ⟨rfl,rfl⟩⟩,rfl,rfl,rfl,ZX _,fun _ _ _=>rfl,fun i hi=>by simp [Value.ownBlock] at hi⟩
     have h2:=hx.cells w rfl
     rcases gk hu with hD|⟨e',hD⟩<;>simp [Builtin.append_,run_underlying ht,run_underlying hD,hsw,hx.len,h2]
   · refine fin none 0 rfl aa fun w' _=>?_
     simp [Builtin.firstCells]
 · have hglt:g<w.heap.size:=(QM.1 hg).1
   by_cases hroom:n+m≤cap
   · have h2:=hx.cells w rfl
     have hfit:n*size+news.length≤cur.size:=by
      rw [hcs,hx.size,←QF]
      exact QB _ hroom
     have hst:=dO P g (n*size) e fz news 0 cur w hg hfz (by simpa using hfit) hx.one
     simp only [ZT] at hst
     have hadd:(⟨g,0,none⟩:Addr).add (n*size)=⟨g,n*size,none⟩:=by unfold Addr.add;split<;>simp_all
     refine ⟨.slice (some ⟨g,0,none⟩) (n+m) cap,w.setRow g (cur.toList.take (n*size)++news++cur.toList.drop (n*size+news.length)).toArray,?_,⟨hlen,.inr ⟨g,cap,_,fz,rfl,Go.setRow_heap w g cur _ e fz hg,hroom,hcm,?_,?_,?_⟩⟩,rfl,rfl,rfl,by rw [setRow_size];exact ZX _,?_,?_⟩
     · rcases gk hu with hD|⟨e',hD⟩<;>simp [Builtin.append_,run_underlying ht,run_underlying hD,hsw,hx.len,h2,hroom,hadd,hst]
     · simp only [List.size_toArray,ZA,Qi,Qr,Array.length_toList]
       omega
     · rw [htake,←hlen]
       exact List.take_left
     · simp only [List.size_toArray,ZA,Qi,Qr,Array.length_toList]
       omega
     · intro i _ hi
       exact setRow_heap _ _ _ _ (fun e=>hi (by simp [Value.ownBlock,e]))
     · intro i hi
       simp only [Value.ownBlock,Qu,Z5] at hi
       subst hi
       exact ⟨by rw [setRow_size];exact hglt,.inl (by simp [Value.ownBlock])⟩
   · refine fin (some ⟨g,0,none⟩) cap rfl aa fun w' hw'=>?_
     have hl:=run_loadCells_list (P:=P) w' ⟨g,0,none⟩ xs (fun j u hj=>by
      have hadd:(⟨g,0,none⟩:Addr).add j=⟨g,j,none⟩:=by unfold Addr.add;split<;>simp_all
      rw [hadd,cell_of_row w' g j cur e fz (by rw [hw'];exact hg)]
      rw [←htake,QH] at hj
      split at hj
      · simpa using hj
      · cases hj)
     rw [ho.1] at hl
     simp [Builtin.firstCells,hl]
theorem aJ {n:Nat} {s x:Operand} {t u e size bytes:Nat} [hs:X7 P t e size bytes] {z:Value} [hz:Xn P e z] {v vx:Value} {m q:Nat} {xs news:List Value} {L:Value→List Xm}
  [hu:TySrc P u] (hzs:z.cells.size=size:=by rfl) (hsz:Nat.blt 0 size=true:=by rfl)
  (hv:ev E s=some v:=by rfl) (hx:ev E x=some vx:=by rfl) (hA:∀ v',At (orow e size v m xs) (orow e size v' (m+q) (xs++news)) loc (L v')) (hsrc:∀ w,Xr av bor w0 loc X w→Src P w size vx q news)
  (h63:(m+q)*bytes≤140737488355328) (h1:m+q≤maxLen) (hg:gdB ops E g=some (bb,want):=by rfl) (hb:bb=want:=by exact ar) (hd:Nat.blt n N=true:=by rfl)
  (h:∀ A c,Sw P N av bor w0 ops rest ⟨(n,.slice A (m+q) c)::E,L (.slice A (m+q) c),X⟩ k):Sw P N av bor w0 ops (⟨some n,.call ⟨.builtin .append,#[s,x],#[t,u]⟩,ty,pos,af,g⟩::rest) ⟨E,loc,X⟩ k:=Sw.mk fun a w ok=>by
 have hd':inB N (some n)=true:=by have h1:n<N:=Zx hd;simpa [inB] using h1
 have ho:ORow w e size v m xs:=(ok.gam.here _ (hA v).mem).now
 obtain ⟨v',w',hr,ho',k1,k2,k3,k4,k5,k6⟩:=pN (P:=P) (ty:=ty) hs.out hz.out hzs (Zx hsz) hu.out ho (hsrc w ok.gam) h1 h63
 have hv':∃ A c,v'=.slice A (m+q) c:=by
  rcases ho'.2 with ⟨rfl,h0⟩|⟨g',cap,_,_,rfl,_⟩
  · exact ⟨none,0,by rw [h0]⟩
  · exact ⟨_,_,rfl⟩
 obtain ⟨A,c,rfl⟩:=hv'
 simp only [wpList]
 rw [bx ok (o:=⟨some n,.call ⟨.builtin .append,#[s,x],#[t,u]⟩,ty,pos,af,g⟩) hg]
 subst hb
 simp only [Zz,ZN]
 left
 unfold Oper.wp
 have hr':(execOp a.eval ⟨some n,.call ⟨.builtin .append,#[s,x],#[t,u]⟩,ty,pos,af,g⟩).run P w=.ok (.value (.slice A (m+q) c)) w':=by
  simp only [execOp,resolve,invoke,builtin,Sem.run_bind,Sem.run_pure,Result.andThen_ok,List.map_toArray,Z1,List.map_nil,ok.eval (st:=⟨E,loc,X⟩) hv,ok.eval (st:=⟨E,loc,X⟩) hx,hr]
 rw [hr']
 have hn:(orow e size (.slice A (m+q) c) (m+q) (xs++news)).fp.Nodup:=by cases A<;>simp [orow,Value.ownBlock]
 have ok':Ok N av bor w0 ⟨E,L (.slice A (m+q) c),X⟩ a w':=(ok.via fun M G=>G.swap ((hA _).app M) k1 k2 k3 k4 k5 hn k6 (dH ho'))
 exact (h A c).run _ _ (cO (some n) _▸ok'.put hd' _)
theorem Xr.nilRow {w:World} (G:Xr av bor w0 loc X w) (e size:Nat):Xr av bor w0 (orow e size (.slice none 0 0) 0 []::loc) X w:=by
 have e1:fps (orow e size (.slice none 0 0) 0 []::loc)=fps loc:=by simp [fps,orow,Value.ownBlock]
 refine ⟨G.fr,G.avb,by rw [e1];exact G.nodup,by rw [e1];exact G.own,fun r hr=>?_,by rw [e1];exact G.keep⟩
 rcases ZI.1 hr with rfl|hr
 · exact dH ⟨by simp,.inl ⟨rfl,rfl⟩⟩
 · exact G.here r hr
theorem fP (e size:Nat) (h:Sw P N av bor w0 ops rest ⟨E,orow e size (.slice none 0 0) 0 []::loc,X⟩ k):Sw P N av bor w0 ops rest ⟨E,loc,X⟩ k:=Sw.mk fun a w ok=>h.run a w (ok.via fun M G=>G.nilRow e size)
theorem cD {c:Code} (e size:Nat) (h:Cw P N av bor w0 c ⟨E,orow e size (.slice none 0 0) 0 []::loc,X⟩ K):Cw P N av bor w0 c ⟨E,loc,X⟩ K:=Cw.mk fun a w ok=>h.run a w (ok.via fun M G=>G.nilRow e size)
theorem tt {w:World} {s:ByteArray} (hs:s.size≤9223372036854775807):Src P w 1 (.string s) s.size (s.data.toList.map fun b=>.int .u8 b.toNat):=by
 refine ⟨fun w'=>by simp [Builtin.lenOf],fun w' _=>?_,by simp,fun u hu=>?_⟩
 · have e:s.extract 0 s.size=s:=by simp
   simp only [Builtin.firstCells,e,Sem.run_pure]
   congr 1
   apply Array.ext'
   simp
 · simp only [QJ] at hu
   obtain ⟨b,_,rfl⟩:=hu
   rfl
theorem bA {w:World} {b T n size:Nat} {cs:List Value} (G:Xr av bor w0 loc X w) (hm:cel b T cs∈loc) (hl:cs.length=n*size) (h1:cs.all (·.oneCell')=true) (c:Nat):Src P w size (.slice (some ⟨b,0,none⟩) n c) n cs:=by
 have hw:w.heap[b]?=some (.cells cs.toArray T (0,0)):=(G.here _ hm).now
 refine ⟨fun w'=>by simp [Builtin.lenOf],fun w' e=>?_,hl,by simpa using h1⟩
 have:=run_loadCells_list (P:=P) w' ⟨b,0,none⟩ cs (fun j v hv=>by
  have hadd:(⟨b,0,none⟩:Addr).add j=⟨b,j,none⟩:=by unfold Addr.add;split<;>simp_all
  rw [hadd,cell_of_row w' b j _ _ _ (by rw [e];exact hw)]
  simpa using hv)
 rw [hl] at this
 simp [Builtin.firstCells,this]
theorem iW {w:World} {size:Nat} {s:Xl} {xs:List (List Value)} (h:Xf w size s xs) (h1:∀ cs∈xs,cs.all (·.oneCell')=true):Src P w size s.v s.n xs.flatten:=by
 have hlen:xs.flatten.length=s.n*size:=by
  rw [List.length_flatten,h.len]
  have:∀ x∈xs.map List.length,x=size:=by
   intro x hx
   obtain ⟨cs,hcs,rfl⟩:=QJ.1 hx
   obtain ⟨i,hi⟩:=QP.1 hcs
   exact (h.row i cs hi).1
  rw [List.eq_replicate_of_mem this]
  simp
 refine ⟨fun w'=>by simp [Builtin.lenOf,Xl.v],fun w' e=>?_,hlen,fun u hu=>?_⟩
 · obtain ⟨p,n,c⟩:=s
   cases p with
   | none =>
    have:xs=[]:=by
     cases xs with
     | nil=>rfl
     | cons cs r=>have:=(h.row 0 cs rfl).2.1;simp at this
    subst this
    simp [Builtin.firstCells,Xl.v]
   | some a =>
    have:=run_loadCells_list (P:=P) w' a xs.flatten (fun j v hv=>by
     have key:∀ (l:List (List Value)) (i0:Nat),(∀ i cs,l[i]?=some cs→cs.length=size∧∀ j u,cs[j]?=some u→CellAt w (some a) ((i0+i)*size+j) u)→∀ j v,l.flatten[j]?=some v→w.cell? (a.add (i0*size+j))=some v:=by
      intro l
      induction l with
      | nil=>intro _ _ j v hv;simp at hv
      | cons cs r ih =>
       intro i0 hl j v hv
       have h0:=hl 0 cs rfl
       rw [Qb] at hv
       rcases Nat.lt_or_ge j cs.length with hj|hj
       · rw [ZG hj] at hv
         have:=(h0.2 j v hv).2 a rfl
         simpa using this
       · rw [ZV hj] at hv
         have:=ih (i0+1) (fun i cs' hi=>by
          have:=hl (i+1) cs' (by simpa using hi)
          rw [show i0+1+i=i0+(i+1) from by omega]
          exact this) (j-cs.length) v hv
         rw [h0.1] at this hj
         rw [show i0*size+j=(i0+1)*size+(j-size) from by rw [QF];omega]
         exact this
     have:=key xs 0 (fun i cs hi=>⟨(h.row i cs hi).1,fun j u hj=>by simpa using (h.row i cs hi).2.2 j u hj⟩) j v hv
     have hc:w'.cell? (a.add j)=w.cell? (a.add j):=by simp [World.cell?,e]
     rw [hc]
     simpa using this)
    rw [hlen] at this
    simp [Builtin.firstCells,Xl.v,this]
 · simp only [List.mem_flatten] at hu
   obtain ⟨cs,hcs,hu⟩:=hu
   have:=h1 cs hcs
   simp only [List.all_eq_true] at this
   exact this u hu
def ofInts (ns:List Int):ByteArray:=ns.foldl (fun r n=>r.push (UInt8.ofNat n.toNat)) ByteArray.empty
def u8s (ns:List Int):List Value:=ns.map (Value.int .u8)
def bytesI (s:ByteArray):List Int:=s.data.toList.map fun b=>(b.toNat:Int)
theorem bT (a b:List Int):u8s (a++b)=u8s a++u8s b:=by simp [u8s]
theorem ia {w:World} {s:ByteArray} (hs:s.size≤9223372036854775807):Src P w 1 (.string s) s.size (u8s (bytesI s)):=by
 have:=tt (P:=P) (w:=w) hs
 simpa [u8s,bytesI,Z0,Function.comp_def] using this
theorem Gg {st:St} {x:Operand} {t t2 e b':TypeId} [hs:X7 P t e 1 b'] [he:Xt P e .u8] [h2:X8 P t2] {v:Value} {n:Nat} {ns:List Int} (hx:ev st.env x=some v) (hm:orow e 1 v n (u8s ns)∈st.loc) :
  Sy.Yields P N av bor w0 st (.convert t t2 x) ty (.string (ofInts ns)):=Sy.Yields.mk fun A w ok d pos af g=>by
 have ho:ORow w e 1 v n (u8s ns):=(ok.gam.here _ hm).now
 have hl:(u8s ns).length=n:=by have:=ho.1;omega
 rcases ho.2 with ⟨rfl,rfl⟩|⟨g,cap,cur,fz,rfl,hg,hnc,hcm,hcs,htake,hfz⟩
 · have:ns=[]:=by simpa [u8s] using hl
   subst this
   have:=run_convert_bytes_string (P:=P) w t t2 e none 0 0 (cB hs.out).1 he.out h2.out
   simp [execOp,ok.eval hx,this,Conv.bytesToString,ofInts]
 · have hlc:=run_loadCells_list (P:=P) w ⟨g,0,none⟩ (u8s ns) (fun j u hj=>by
    have hadd:(⟨g,0,none⟩:Addr).add j=⟨g,j,none⟩:=by unfold Addr.add;split<;>simp_all
    rw [hadd,cell_of_row w g j cur e fz hg]
    rw [←htake,QH] at hj
    split at hj
    · simpa using hj
    · cases hj)
   rw [hl] at hlc
   have h3:=run_bytesToString (P:=P) w ⟨g,0,none⟩ n cap ns hlc
   have h4:=run_convert_bytes_string (P:=P) w t t2 e (some ⟨g,0,none⟩) n cap (cB hs.out).1 he.out h2.out
   rw [h3] at h4
   simp [execOp,ok.eval hx,h4,ofInts]
theorem eU {nn:Nat} {x:Operand} {t t2 e b':TypeId} [hs:X7 P t e 1 b'] [he:Xt P e .u8] [h2:X8 P t2] {v:Value} {n:Nat} {ns:List Int} (h:Sw P N av bor w0 ops rest ⟨(nn,.string (ofInts ns))::E,loc,X⟩ k) (hx:ev E x=some v:=by rfl) (hm:orow e 1 v n (u8s ns)∈loc:=by exact aQ) (hg:gdB ops E g=some (bb,want):=by rfl) (hb:bb=want:=by exact ar) (hd:Nat.blt nn N=true:=by rfl):Sw P N av bor w0 ops (⟨some nn,.convert t t2 x,ty,pos,af,g⟩::rest) ⟨E,loc,X⟩ k :=
 ak (Gg hx hm) hg hb hd h
theorem uc (w:World) (C:Array Value) (e:TypeId):(w.alloc (.cells C e)).freeze ⟨w.heap.size,C.size,none⟩ 1=w.alloc (.cells C e (C.size,C.size+1)):=by
 simp only [World.freeze,World.alloc]
 rw [ZP (by omega)]
 congr 1
 apply Array.ext_getElem?
 intro i
 rw [QI]
 by_cases h:w.heap.size=i
 · subst h
   simp
 · have h':¬ i=w.heap.size:=fun e=>h e.symm
   simp [h,h',Array.getElem?_push]
theorem C0 {w:World} {e:TypeId} {s:ByteArray}:(Conv.stringToBytes e s).run P w=.ok (.slice (some ⟨w.heap.size,0,none⟩) s.size (grownCap w s.size 0 e))
  (w.drew.alloc (.cells ((s.data.map fun b=>Value.int .u8 b.toNat)++Array.replicate (grownCap w s.size 0 e-s.size) (.int .u8 0)) e
   ((((s.data.map fun b=>Value.int .u8 b.toNat)++Array.replicate (grownCap w s.size 0 e-s.size) (.int .u8 0)):Array Value).size,(((s.data.map fun b=>Value.int .u8 b.toNat)++Array.replicate (grownCap w s.size 0 e-s.size) (.int .u8 0)):Array Value).size+1))):=by
 have h1:(choose (.appendCap s.size 0 e)).run P w=.ok (grownCap w s.size 0 e) w.drew:=rfl
 unfold Conv.stringToBytes
 simp only [Sem.run_bind,h1,Result.andThen_ok,ei]
 generalize ((s.data.map fun b=>Value.int .u8 b.toNat)++Array.replicate (grownCap w s.size 0 e-s.size) (.int .u8 0):Array Value)=C
 have h2:(markStringish ⟨w.drew.heap.size,0,none⟩).run P (w.drew.alloc (.cells C e))=.ok () (w.drew.alloc (.cells C e (C.size,C.size+1))):=by
  have hs:(w.drew.alloc (.cells C e)).shape? w.heap.size=some (e,C.size):=by
   have:=heap_alloc_new w.drew (.cells C e)
   unfold World.shape?
   rw [show w.heap.size=w.drew.heap.size from rfl,this]
  have:=uc w.drew C e
  simp [markStringish,hs]
  exact this
 rw [h2]
 simp
theorem tp {n:Nat} {x:Operand} {t t2 e b':TypeId} [hs:X7 P t2 e 1 b'] [he:Xt P e .u8] [h2:X8 P t] {s:ByteArray} (h:∀ A c,Sw P N av bor w0 ops rest ⟨(n,.slice A s.size c)::E,orow e 1 (.slice A s.size c) s.size (u8s (bytesI s))::loc,X⟩ k) (hx:ev E x=some (.string s):=by rfl) (hsz:s.size≤4611686018427387904:=by omega) (hg:gdB ops E g=some (bb,want):=by rfl) (hb:bb=want:=by exact ar) (hd:Nat.blt n N=true:=by rfl):Sw P N av bor w0 ops (⟨some n,.convert t t2 x,ty,pos,af,g⟩::rest) ⟨E,loc,X⟩ k:=Sw.mk fun a w ok=>by
 have hd':inB N (some n)=true:=by have h1:n<N:=Zx hd;simpa [inB] using h1
 have hge:s.size≤grownCap w s.size 0 e:=grownCap_ge w s.size 0 e
 have hcm:grownCap w s.size 0 e≤maxLen:=grownCap_le_maxLen w s.size 0 e (by simp only [maxLen];omega)
 have hr0:=C0 (P:=P) (w:=w) (e:=e) (s:=s)
 generalize grownCap w s.size 0 e=c at hge hcm hr0
 generalize hC:((s.data.map fun b=>Value.int .u8 b.toNat)++Array.replicate (c-s.size) (.int .u8 0):Array Value)=C at hr0
 have hCs:C.size=c:=by rw [←hC];simp;omega
 have hCt:C.toList.take s.size=u8s (bytesI s):=by
  rw [←hC]
  simp only [Array.toList_append,Array.toList_map]
  rw [List.take_append_of_le_length (by simp)]
  rw [Qf (by simp)]
  simp [u8s,bytesI]
 simp only [wpList]
 rw [bx ok (o:=⟨some n,.convert t t2 x,ty,pos,af,g⟩) hg]
 subst hb
 simp only [Zz,ZN]
 left
 unfold Oper.wp
 have hr:(execOp a.eval ⟨some n,.convert t t2 x,ty,pos,af,g⟩).run P w=.ok (.value (.slice (some ⟨w.heap.size,0,none⟩) s.size c)) (w.drew.alloc (.cells C e (C.size,C.size+1))):=by
  simp [execOp,ok.eval (st:=⟨E,loc,X⟩) hx,convert,run_underlying h2.out,run_underlying (cB hs.out).1,run_underlying he.out,hr0]
 rw [hr]
 have ok':Ok N av bor w0 ⟨E,orow e 1 (.slice (some ⟨w.heap.size,0,none⟩) s.size c) s.size (u8s (bytesI s))::loc,X⟩ a (w.drew.alloc (.cells C e (C.size,C.size+1))):=(ok.via fun M G=>(G.drew).new (.cells C e (C.size,C.size+1)) (fun w2=>ORow w2 e 1 (.slice (some ⟨w.heap.size,0,none⟩) s.size c) s.size (u8s (bytesI s))) (fun w2 h=>⟨by simp [u8s,bytesI],.inr ⟨w.heap.size,c,C,_,rfl,h,hge,hcm,by omega,by simpa using hCt,.inr (ZX _)⟩⟩))
 exact (h _ _).run _ _ (cO (some n) _▸ok'.put hd' _)
end
end Go.Proofs.YtaolfiikahlmkaaGreatDoor.Sy
namespace Go.Proofs.YtaolfiikahlmkaaGreatDoor.Sy
open Go Go.RowKit Go.MapKept
class Xk (κ:Type) where
 d:TypeDesc
 enc:κ→Value
 eqb:κ→κ→Bool
 ok:∀ a,IsKey d (enc a)
 same:∀ a b,Instr.sameNow d (enc a) (enc b)=some (eqb a b)
 eqb_iff:∀ a b,eqb a b=true↔a=b
instance:Xk Int:=⟨.int .i64,.int .i64,fun a b=>decide (a=b),fun a=>rfl,fun a b=>by simp [Instr.sameNow];rfl,fun a b=>by simp⟩
instance:Xk ByteArray:=⟨.string,.string,fun a b=>a==b,fun a=>trivial,fun a b=>rfl,bytes_beq⟩
def keyD (κ:Type) [Xk κ]:TypeDesc:=Xk.d κ
section
variable {κ:Type} [Xk κ] {β:Type}
def mget:List (κ×β)→κ→Option β
 | [],_=>none
 | (k',v')::r,k=>bif Xk.eqb k k' then some v' else mget r k
def mput:List (κ×β)→κ→β→List (κ×β)
 | [],k,v=>[(k,v)]
 | (k',v')::r,k,v=>bif Xk.eqb k k' then (k,v)::r else (k',v')::mput r k v
def MapAt (w:World) (g:Nat) (l:List (κ×Value)):Prop :=
 ∃ es clock,w.heap[g]?=some (.map es clock)∧Stamped es clock∧es.toList.map (fun e=>(e.key,e.val))=l.map fun p=>(Xk.enc p.1,p.2)
def mapr (g:Nat) (l:List (κ×Value)):Xm:=⟨[g],fun w=>MapAt w g l⟩
theorem jy (k:κ):∀ (es:List MapEntry) (l:List (κ×Value)) (i:Nat),es.map (fun e=>(e.key,e.val))=l.map (fun p=>(Xk.enc p.1,p.2)) →
  (Instr.findNow (keyD κ) (Xk.enc k) es i=some none∧mget l k=none∧(∀ v,mput l k v=l++[(k,v)])∧∀ x∈es,x.key≠Xk.enc k) ∨
  ∃ j e v0,Instr.findNow (keyD κ) (Xk.enc k) es i=some (some (i+j,v0))∧es[j]?=some e∧e.key=Xk.enc k∧mget l k=some v0∧∀ v,mput l k v=l.set j (k,v)
 | [],l,i,h=>by
  have:l=[]:=by cases l<;>simp_all
  subst this
  exact .inl ⟨rfl,rfl,fun _=>rfl,by simp⟩
 | e::es,[],i,h=>by simp at h
 | e::es,(k',v')::l,i,h=>by
  simp only [Z1,List.cons.injEq,Prod.mk.injEq] at h
  obtain ⟨⟨h1,h2⟩,h3⟩:=h
  have hs:Instr.sameNow (keyD κ) (Xk.enc k) e.key=some (Xk.eqb k k'):=by rw [h1];exact Xk.same k k'
  cases hb:Xk.eqb k k' with
  | true =>
   have hk:=(Xk.eqb_iff k k').1 hb
   exact .inr ⟨0,e,v',by simp [Instr.findNow,hs,hb,h2],rfl,by rw [h1,hk],by simp [mget,hb],fun v=>by simp [mput,hb]⟩
  | false =>
   have hne:e.key≠Xk.enc k:=fun q=>by
    have h5:=Xk.same k k
    have h6:Xk.eqb k k=true:=(Xk.eqb_iff k k).2 rfl
    have h7:Instr.sameNow (keyD κ) (Xk.enc k) (Xk.enc k)=some true:=by rw [←h6];exact h5
    rw [q,h7,hb] at hs
    simp at hs
   rcases jy k es l (i+1) h3 with ⟨g1,g2,g3,g4⟩|⟨j,e',v0,g1,g2,g3,g4,g5⟩
   · exact .inl ⟨by simp [Instr.findNow,hs,hb,g1],by simp [mget,hb,g2],fun v=>by simp [mput,hb,g3],fun x hx=>by
      cases hx with
      | head=>exact hne
      | tail _ hx=>exact g4 x hx⟩
   · exact .inr ⟨j+1,e',v0,by simp [Instr.findNow,hs,hb,g1];omega,by simpa using g2,g3,by simp [mget,hb,g4],fun v=>by simp [mput,hb,g5]⟩
def mapOf (P:Program) (t:TypeId):Option (TypeId×TypeDesc) :=
 match P.underlying t with
 | some (.map kt et)=>(P.underlying kt).map fun d=>(et,d)
 | _=>none
class Eg (P:Program) (t:TypeId) (et:outParam Nat) (d:outParam TypeDesc):Prop where out:mapOf P t=some (et,d)
theorem gv {P:Program} {t et:TypeId} {d:TypeDesc} (h:mapOf P t=some (et,d)):∃ kt,P.underlying t=some (.map kt et)∧P.underlying kt=some d:=by
 unfold mapOf at h
 split at h
 · rename_i kt et' he
   cases hk:P.underlying kt with
   | none=>simp [hk] at h
   | some d' =>
    simp [hk] at h
    obtain ⟨rfl,rfl⟩:=h
    exact ⟨kt,he,hk⟩
 · cases h
theorem jR {P:Program} {w:World} {t et:TypeId} (ht:mapOf P t=some (et,keyD κ)) {g:Nat} {l:List (κ×Value)} (h:MapAt w g l) (k:κ) (v:Value) :
  ∃ o,(Instr.mapUpdate t (.map (some g)) (Xk.enc k) v).run P w=.ok () { w with heap:=w.heap.setIfInBounds g o }∧∀ w':World,w'.heap[g]?=some o→MapAt w' g (mput l k v):=by
 obtain ⟨kt,h1,h2⟩:=gv ht
 obtain ⟨es,clock,hb,hs,hl⟩:=h
 have hk:=Xk.ok k
 rcases jy k es.toList l 0 hl with ⟨g1,g2,g3,g4⟩|⟨j,e,v0,g1,g2,g3,g4,g5⟩
 · refine ⟨.map (es.push { key:=Xk.enc k,val:=v,born:=clock }) (clock+1),?_,fun w' hw=>⟨_,_,hw,stamped_push hs g4,?_⟩⟩
   · simp [Instr.mapUpdate,run_underlying h1,MapKept.run_getObj_map hb,MapKept.run_checkKey h2 hk,MapKept.run_findKey h2 g1,MapKept.run_setObj_map _ hb,Result.andThen]
   · rw [g3]
     simp [hl]
 · have hj:es[j]?=some e:=by simpa using g2
   refine ⟨.map (es.modify j fun e=>{ e with key:=Xk.enc k,val:=v }) clock,?_,fun w' hw=>⟨_,_,hw,stamped_modify hs _ _ (fun _ _=>rfl) (fun e' _ he'=>by rw [hj] at he';cases he';exact g3.symm),?_⟩⟩
   · simp [Instr.mapUpdate,run_underlying h1,MapKept.run_getObj_map hb,MapKept.run_checkKey h2 hk,MapKept.run_findKey h2 g1,hj,g3,MapKept.run_keyThatStays hk,MapKept.run_setObj_map _ hb,Result.andThen]
   · rw [g5]
     apply List.ext_getElem?
     intro q
     have hq:=congrArg (fun l=>l[q]?) hl
     simp only [Z7,Qo] at hq
     simp only [Z7,Qo,QI,List.getElem?_set]
     by_cases e1:j=q
     · subst e1
       have hlt:j<l.length:=by
        rcases Nat.lt_or_ge j l.length with h|h
        · exact h
        · rw [hj,List.getElem?_eq_none h] at hq;simp at hq
       simp [hj,hlt]
     · simp [e1,hq]
theorem nE {P:Program} {w:World} {t et:TypeId} {z:Value} (ht:mapOf P t=some (et,keyD κ)) (hz:zeroOf P et=some z) {g:Nat} {l:List (κ×Value)} (h:MapAt w g l) (k:κ) (c:Bool) :
  (Instr.lookup t (.map (some g)) (Xk.enc k) c).run P w=.ok (if c then .tuple #[(mget l k).getD z,.bool (mget l k).isSome] else (mget l k).getD z) w:=by
 obtain ⟨kt,h1,h2⟩:=gv ht
 obtain ⟨es,clock,hb,hs,hl⟩:=h
 have hk:=Xk.ok k
 have hzr:(zeroValue et).run P w=.ok z w:=dF hz w
 rcases jy k es.toList l 0 hl with ⟨g1,g2,g3,g4⟩|⟨j,e,v0,g1,g2,g3,g4,g5⟩
 · cases c<;>simp [Instr.lookup,run_underlying h1,MapKept.run_getObj_map hb,MapKept.run_checkKey h2 hk,MapKept.run_findKey h2 g1,hzr,g2,Result.andThen]
 · cases c<;>simp [Instr.lookup,run_underlying h1,MapKept.run_getObj_map hb,MapKept.run_checkKey h2 hk,MapKept.run_findKey h2 g1,g4,Result.andThen]
end
theorem Xr.give {av bor:List Nat} {w0 w:World} {r:Xm} {loc:List Xm} {X:World→Prop} (G:Xr av bor w0 (r::loc) X w):Xr av bor w0 loc (fun w=>X w∧r.F w) w:=by
 have hn:=G.nodup
 rw [db] at hn
 have hn2:=List.nodup_append.1 hn
 refine ⟨G.fr,G.avb,hn2.2.1,fun k hk=>G.own k (by rw [db];exact Qy.2 (.inr hk)),fun q hq=>G.here q (Zv _ hq),?_⟩
 refine Keeps.and (G.keep.anti fun k hk=>?_) ⟨fun k=>k∈r.fp,fun k hk=>?_,fun w' e=>G.here r am w' e⟩
 · rw [db]
   rcases Qy.1 hk with h|h
   · exact Qy.2 (.inl h)
   · exact Qy.2 (.inr (Qy.2 (.inr h)))
 · have h1:=G.own k (by rw [db];exact Qy.2 (.inl hk))
   refine ⟨h1.1,fun h=>?_⟩
   rcases Qy.1 h with h|h
   · have h2:=G.avb k h
     rcases h1.2 with h3|h3
     · omega
     · exact h2.2 h3
   · exact hn2.2.2 k hk k h rfl
section
variable {P:Program} {N:Nat} {av bor:List Nat} {w0:World} {ops:Array Oper} {rest:List Oper} {k:St→Prop} {E:Env} {loc loc':List Xm} {X:World→Prop}
variable {d:Option Tmp} {ty:TypeId} {pos:String} {af:Array Edge} {g:Option (Nat×Bool)} {bb want:Bool} {K:Exit→St→Prop}
theorem bI {r:Xm} (h:Sw P N av bor w0 ops rest ⟨E,loc,fun w=>X w∧r.F w⟩ k):Sw P N av bor w0 ops rest ⟨E,r::loc,X⟩ k:=Sw.mk fun a w ok=>h.run a w (ok.via fun M G=>G.give)
theorem vK {c:Code} {r:Xm} (h:Cw P N av bor w0 c ⟨E,loc,fun w=>X w∧r.F w⟩ K):Cw P N av bor w0 c ⟨E,r::loc,X⟩ K:=Cw.mk fun a w ok=>h.run a w (ok.via fun M G=>G.give)
theorem d7 (κ:Type) [Xk κ] {n:Nat} {t:TypeId} (hg:gdB ops E g=some (bb,want):=by rfl) (hb:bb=want:=by exact ar) (hd:Nat.blt n N=true:=by rfl)
  (h:∀ q,Sw P N av bor w0 ops rest ⟨(n,.map (some q))::E,mapr q ([]:List (κ×Value))::loc,X⟩ k):Sw P N av bor w0 ops (⟨some n,.makeMap t none,ty,pos,af,g⟩::rest) ⟨E,loc,X⟩ k:=Sw.mk fun a w ok=>by
 have hd':inB N (some n)=true:=by have h1:n<N:=Zx hd;simpa [inB] using h1
 simp only [wpList]
 rw [bx ok (o:=⟨some n,.makeMap t none,ty,pos,af,g⟩) hg]
 subst hb
 simp only [Zz,ZN]
 left
 unfold Oper.wp
 have hr:(execOp a.eval ⟨some n,.makeMap t none,ty,pos,af,g⟩).run P w=.ok (.value (.map (some w.heap.size))) (w.alloc (.map #[] 0)):=by
  have:(newObj (.map #[] 0)).run P w=.ok w.heap.size (w.alloc (.map #[] 0)):=rfl
  simp [execOp,Instr.makeMap,this]
 rw [hr]
 have ok':Ok N av bor w0 ⟨E,mapr w.heap.size ([]:List (κ×Value))::loc,X⟩ a (w.alloc (.map #[] 0)):=(ok.via fun M G=>G.new (.map #[] 0) (fun w2=>MapAt w2 w.heap.size ([]:List (κ×Value))) fun w2 h=>⟨#[],0,h,stamped_empty 0,rfl⟩)
 exact (h _).run _ _ (cO (some n) _▸ok'.put hd' _)
theorem MapAt.same {κ:Type} [Xk κ] {w w':World} {q:Nat} {l:List (κ×Value)} (h:MapAt w q l) (e:w'.heap[q]?=w.heap[q]?):MapAt w' q l:=by
 obtain ⟨es,c,h1,h2⟩:=h
 exact ⟨es,c,e.trans h1,h2⟩
theorem oB {κ:Type} [Xk κ] {a:Act} {w:World} (ok:Ok N av bor w0 ⟨E,loc,X⟩ a w) {t et:TypeId} (ht:mapOf P t=some (et,keyD κ)) {q:Nat} {l:List (κ×Value)} {kk:κ} {v:Value} (hA:At (mapr q l) (mapr q (mput l kk v)) loc loc') :
  ∃ w',(Instr.mapUpdate t (.map (some q)) (Xk.enc kk) v).run P w=.ok () w'∧Ok N av bor w0 ⟨E,loc',X⟩ a w':=by
 have hm:MapAt w q l:=(ok.gam.here _ hA.mem).now
 obtain ⟨o,hr,ho⟩:=jR ht hm kk v
 obtain ⟨es,c,hb,_⟩:=hm
 have hs:=heap_set (o':=o) hb
 refine ⟨_,hr,ok.via fun M G=>G.turn (hA.app M) rfl rfl rfl (by simp) (fun i hi=>hs.2 i hi) fun w2 h2=>ho w2 (h2.trans hs.1)⟩
theorem wP {κ:Type} [Xk κ] {t et:Nat} [ht:Eg P t et (keyD κ)] {m x y:Operand} {q:Nat} {l:List (κ×Value)} {kk:κ} {v:Value} (h:Sw P N av bor w0 ops rest ⟨putE E d undef,loc',X⟩ k) (hm:ev E m=some (.map (some q)):=by rfl) (hx:ev E x=some (Xk.enc kk):=by rfl) (hy:ev E y=some v:=by rfl) (hA:At (mapr q l) (mapr q (mput l kk v)) loc loc':=by (repeat (first|exact At.here _|apply At.there))) (hg:gdB ops E g=some (bb,want):=by rfl) (hb:bb=want:=by exact ar) (hd:inB N d=true:=by rfl):Sw P N av bor w0 ops (⟨d,.insert t m x y,ty,pos,af,g⟩::rest) ⟨E,loc,X⟩ k:=Sw.mk fun a w ok=>by
 simp only [wpList]
 rw [bx ok (o:=⟨d,.insert t m x y,ty,pos,af,g⟩) hg]
 subst hb
 simp only [Zz,ZN]
 left
 unfold Oper.wp
 obtain ⟨w',hr,ok'⟩:=oB (P:=P) ok ht.out hA
 have hr':(execOp a.eval ⟨d,.insert t m x y,ty,pos,af,g⟩).run P w=.ok .skip w':=by
  simp [execOp,ok.eval (st:=⟨E,loc,X⟩) hm,ok.eval (st:=⟨E,loc,X⟩) hx,ok.eval (st:=⟨E,loc,X⟩) hy,hr]
 rw [hr']
 exact h.run _ _ (cO d _▸ok'.put hd _)
theorem dp {κ:Type} [Xk κ] {t et:Nat} [ht:Eg P t et (keyD κ)] {m x y:Operand} {q:Nat} {l:List (κ×Value)} {kk:κ} {v:Value} (h:Sw P N av bor w0 ops rest ⟨putE E d undef,loc',X⟩ k) (hm:ev E m=some (.map (some q)):=by rfl) (hx:ev E x=some (Xk.enc kk):=by rfl) (hy:ev E y=some v:=by rfl) (hA:At (mapr q l) (mapr q (mput l kk v)) loc loc':=by (repeat (first|exact At.here _|apply At.there))) (hg:gdB ops E g=some (bb,want):=by rfl) (hb:bb=want:=by exact ar) (hd:inB N d=true:=by rfl):Sw P N av bor w0 ops (⟨d,.mapUpdate t m x y,ty,pos,af,g⟩::rest) ⟨E,loc,X⟩ k:=Sw.mk fun a w ok=>by
 simp only [wpList]
 rw [bx ok (o:=⟨d,.mapUpdate t m x y,ty,pos,af,g⟩) hg]
 subst hb
 simp only [Zz,ZN]
 left
 unfold Oper.wp
 obtain ⟨w',hr,ok'⟩:=oB (P:=P) ok ht.out hA
 have hr':(execOp a.eval ⟨d,.mapUpdate t m x y,ty,pos,af,g⟩).run P w=.ok .skip w':=by
  simp [execOp,ok.eval (st:=⟨E,loc,X⟩) hm,ok.eval (st:=⟨E,loc,X⟩) hx,ok.eval (st:=⟨E,loc,X⟩) hy,hr]
 rw [hr']
 exact h.run _ _ (cO d _▸ok'.put hd _)
theorem yu {κ:Type} [Xk κ] {st:St} {t et:Nat} [ht:Eg P t et (keyD κ)] {z:Value} [hz:Xn P et z] {m x:Operand} {c:Bool} {q:Nat} {l:List (κ×Value)} {kk:κ} (hm:ev st.env m=some (.map (some q))) (hx:ev st.env x=some (Xk.enc kk))
  (hl:∀ w,Xr av bor w0 st.loc st.ext w→MapAt w q l):Sy.Yields P N av bor w0 st (.lookup t m x c) ty (if c then .tuple #[(mget l kk).getD z,.bool (mget l kk).isSome] else (mget l kk).getD z):=Sy.Yields.mk fun A w ok d pos af g=>by
 have:=nE (P:=P) (t:=t) ht.out hz.out (hl w ok.gam) kk c
 simp [execOp,ok.eval hm,ok.eval hx,this]
theorem cU {κ:Type} [Xk κ] {q:Nat} {l:List (κ×Value)} (hm:mapr q l∈loc):∀ w,Xr av bor w0 loc X w→MapAt w q l:=fun w G=>(G.here _ hm).now
theorem lj {κ:Type} [Xk κ] {q:Nat} {l:List (κ×Value)} (hm:∀ w,X w→MapAt w q l):∀ w,Xr av bor w0 loc X w→MapAt w q l:=fun w G=>hm w G.keep.now
theorem oe {κ:Type} [Xk κ] {n:Nat} {t et:Nat} [ht:Eg P t et (keyD κ)] {z:Value} [hz:Xn P et z] {m x:Operand} {c:Bool} {q:Nat} {l:List (κ×Value)} {kk:κ} (hm:ev E m=some (.map (some q)):=by rfl) (hx:ev E x=some (Xk.enc kk):=by rfl)
  (hl:∀ w,Xr av bor w0 loc X w→MapAt w q l) (hg:gdB ops E g=some (bb,want):=by rfl) (hb:bb=want:=by exact ar) (hd:Nat.blt n N=true:=by rfl)
  (h:Sw P N av bor w0 ops rest ⟨(n,if c then .tuple #[(mget l kk).getD z,.bool (mget l kk).isSome] else (mget l kk).getD z)::E,loc,X⟩ k):Sw P N av bor w0 ops (⟨some n,.lookup t m x c,ty,pos,af,g⟩::rest) ⟨E,loc,X⟩ k:=ak (yu hm hx hl) hg hb hd h
theorem bZ {κ:Type} [Xk κ] {n:Nat} {t et:Nat} [ht:Eg P t et (keyD κ)] {z:Value} [hz:Xn P et z] {m x:Operand} {q:Nat} {l:List (κ×Value)} {kk:κ} {o:Option Value} {v:Value} {b:Bool} (h:Sw P N av bor w0 ops rest ⟨(n,.tuple #[v,.bool b])::E,loc,X⟩ k) (hm:ev E m=some (.map (some q)):=by rfl) (hx:ev E x=some (Xk.enc kk):=by rfl) (hl:∀ w,Xr av bor w0 loc X w→MapAt w q l) (ho:mget l kk=o) (hv:o.getD z=v:=by rfl) (hbo:o.isSome=b:=by rfl) (hg:gdB ops E g=some (bb,want):=by rfl) (hb:bb=want:=by exact ar) (hd:Nat.blt n N=true:=by rfl):Sw P N av bor w0 ops (⟨some n,.lookup t m x true,ty,pos,af,g⟩::rest) ⟨E,loc,X⟩ k:=by
 subst ho;subst hv;subst hbo
 exact oe hm hx hl hg hb hd h
theorem ft {κ:Type} [Xk κ] {n:Nat} {t et:Nat} [ht:Eg P t et (keyD κ)] {z:Value} [hz:Xn P et z] {m x:Operand} {q:Nat} {l:List (κ×Value)} {kk:κ} {o:Option Value} (hm:ev E m=some (.map (some q)):=by rfl) (hx:ev E x=some (Xk.enc kk):=by rfl)
  (hl:∀ w,Xr av bor w0 loc X w→MapAt w q l) (ho:mget l kk=o) (hg:gdB ops E g=some (bb,want):=by rfl) (hb:bb=want:=by exact ar) (hd:Nat.blt n N=true:=by rfl)
  (h:Sw P N av bor w0 ops rest ⟨(n,o.getD z)::E,loc,X⟩ k):Sw P N av bor w0 ops (⟨some n,.lookup t m x false,ty,pos,af,g⟩::rest) ⟨E,loc,X⟩ k:=by
 subst ho
 exact oe hm hx hl hg hb hd h
end
theorem Xr.giveAll {av bor:List Nat} {w0 w:World}:∀ {loc:List Xm} {X:World→Prop},Xr av bor w0 loc X w→Xr av bor w0 [] (fun w=>X w∧∀ r∈loc,r.F w) w
  | [],X,G=>G.imp fun _ h=>⟨h,by simp⟩
  | r :: loc,X,G=>(Xr.giveAll G.give).imp fun w h=>⟨h.1.1,fun q hq=>by
      rcases ZI.1 hq with rfl|hq
      · exact h.1.2
      · exact h.2 q hq⟩
theorem xB {P:Program} {f:FuncId} {fn:Func} {c:Code} {args:List Value} {X:World→Prop} {Φ:Value→(World→Prop)→Prop} (N:Nat)
  (hf:P.funcs[f]?=some fn) (hb:fn.body=some c) (hN:fn.ntmps=N) (hn:Nat.ble args.length N=true)
  (h:∀ av bor w0,Cw P N av bor w0 c ⟨params 0 args,[],X⟩ (ends P fn N fun u R X'=>Φ u fun w=>X' w∧∀ r∈R,r.F w)):Mk P f args.toArray X Φ:=by
 unfold Mk
 exact Ct.mk fun w av G=>by
  have h1:=(gU (P:=P) (Post:=fun u R X'=>Φ u fun w=>X' w∧∀ r∈R,r.F w) N hf hb hN hn h).run w av G
  refine h1.mono fun e w' ⟨u,R,X',he,hu,G'⟩=>⟨u,[],_,he,⟨hu,rfl⟩,G'.giveAll⟩
theorem dE {P:Program} {f:FuncId} {fn:Func} {c:Code} {args:List Value} {X:World→Prop} {Φ:Value→(World→Prop)→Prop} {N:Nat} (hf:P.funcs[f]?=some fn) (hN:fn.ntmps=N) (h:∀ av bor w0,Cw P N av bor w0 c ⟨params 0 args,[],X⟩ (ends P fn N fun u R X'=>Φ u fun w=>X' w∧∀ r∈R,r.F w)) (hb:fn.body=some c:=by rfl) (hn:Nat.ble args.length N=true:=by rfl):Mk P f args.toArray X Φ:=xB N hf hb hN hn h
end Go.Proofs.YtaolfiikahlmkaaGreatDoor.Sy
namespace Go.Proofs.YtaolfiikahlmkaaGreatDoor.Sy
open Go Go.RowKit Go.Sort Go.Proofs
def bl (s:ByteArray):List UInt8:=s.data.toList
def lb (l:List UInt8):ByteArray:=⟨l.toArray⟩
theorem oK (s:ByteArray):lb (bl s)=s:=by simp [lb,bl]
theorem o0 (l:List UInt8):bl (lb l)=l:=by simp [lb,bl]
def encB (s:ByteArray):Value:=.string s
theorem oT (s:ByteArray):encStr (bl s)=encB s:=by simp [encStr,bl,encB]
theorem iE (l:List (List UInt8)):l.map encStr=(l.map lb).map encB:=by
 rw [Z0]
 apply QA
 intro a _
 show encStr a=encB (lb a)
 rw [←oT,o0]
theorem r4 (l:List ByteArray):l.map encB=(l.map bl).map encStr:=by
 rw [Z0]
 apply QA
 intro a _
 exact (oT a).symm
def sortB (l:List ByteArray):List ByteArray:=((l.map bl).mergeSort leB).map lb
def compB (l:List ByteArray):List ByteArray:=(Lib.compact (l.map bl)).map lb
theorem jP (l:List ByteArray):(sortB l).length=l.length:=by simp [sortB]
theorem mY {α:Type} [Inhabited α] {enc:α→Value} {w:World} {e g n:Nat} {cur:Array Value} {fz:Nat×Nat} {ss:List α} (hb:w.heap[g]?=some (.cells cur e fz)) (hl:ss.length=n) (ht:cur.toList.take (n*1)=ss.map enc)
  (hz:fz.1=fz.2∨cur.size≤fz.1):Go.Sort.Holds enc w g 0 ss.toArray:=by
 intro j hj
 have hj':j<ss.length:=by simpa using hj
 have h1:(cur.toList.take (n*1))[j]?=(ss.map enc)[j]?:=by rw [ht]
 rw [List.getElem?_take_of_lt (by omega)] at h1
 have hjc:j<cur.size:=by
  rcases Nat.lt_or_ge j cur.size with h|h
  · exact h
  · rw [List.getElem?_eq_none (by simpa using h),Z7,Zb hj'] at h1
    simp at h1
 refine ⟨?_,?_⟩
 · simp only [World.cell?,hb,ZU]
   simp only [Option.isSome_none,Bool.false_eq_true,if_false]
   rw [←Qo,h1]
   simp [hj']
 · obtain ⟨lo,hi⟩:=fz
   simp only [World.frozen?,hb]
   simp only at hz
   have:¬ (lo≤0+j∧0+j<hi):=by omega
   simpa using this
theorem Bj {α:Type} [Inhabited α] {enc:α→Value} {w:World} {g n:Nat} {os:Array Obj} {cur:Array Value} {e:Nat} {fr:Nat×Nat} (d:Array α) (hb:w.heap[g]?=some (.cells cur e fr)) :
  (grow (putRow enc (Sort.ahead w n) g 0 d) os).heap[g]?=some (.cells (putCells enc 0 d cur) e fr):=by
 have hg:g<w.heap.size:=(QM.1 hb).1
 rw [heap_grow_old _ _ (by simpa using hg)]
 simp [putRow,mapBlock,Sort.ahead,QI,hb,onCells]
theorem ua {α:Type} [Inhabited α] {enc:α→Value} {w:World} {g n:Nat} {os:Array Obj} (d:Array α) (k:Nat) (hk:k<w.heap.size) (hne:k≠g) :
  (grow (putRow enc (Sort.ahead w n) g 0 d) os).heap[k]?=w.heap[k]?:=by
 rw [heap_grow_old _ _ (by simpa using hk)]
 have:g≠k:=fun e=>hne e.symm
 simp [putRow,mapBlock,Sort.ahead,QI,this]
theorem zF {α:Type} [Inhabited α] {enc:α→Value} (cur:Array Value) (ts us:List α) (h:(ts++us).length≤cur.size):(putCells enc 0 (ts++us).toArray cur).toList.take ts.length=ts.map enc:=by
 apply List.ext_getElem?
 intro j
 by_cases hj:j<ts.length
 · rw [List.getElem?_take_of_lt hj,Qo]
   have h2:ts.length+us.length≤cur.size:=by simpa using h
   simp [putCells,hj,show j<cur.size by omega,show j<ts.length+us.length by omega]
 · rw [List.getElem?_take_eq_none aa,List.getElem?_eq_none (by simp;omega)]
theorem Xr.putRow {α:Type} [Inhabited α] {enc:α→Value} {av bor:List Nat} {w0 w:World} {loc loc':List Xm} {X:World→Prop} {e g cap n n' q:Nat} {xs:List Value} {cur:Array Value} {fz:Nat×Nat} {os:Array Obj} {ts us:List α}
  (G:Xr av bor w0 loc X w) (hb:w.heap[g]?=some (.cells cur e fz)) (hcm:cap≤maxLen) (hcs:cur.size=cap) (hz:fz.1=fz.2∨cur.size≤fz.1) (hle:n'≤cap) (htl:ts.length=n') (hus:(ts++us).length≤cap)
  (hA:At (orow e 1 (.slice (some ⟨g,0,none⟩) n cap) n xs) (orow e 1 (.slice (some ⟨g,0,none⟩) n' cap) n' (ts.map enc)) loc loc') :
  Xr av bor w0 loc' X (grow (Go.Sort.putRow enc (Sort.ahead w q) g 0 (ts++us).toArray) os):=by
 have hg:g<w.heap.size:=(QM.1 hb).1
 refine G.swap hA rfl rfl rfl (by simp) (fun i hi hne=>ua _ i hi ?_) (by simp [orow,Value.ownBlock]) (fun i hi=>?_) (dH ?_)
 · simpa [orow,Value.ownBlock] using hne
 · simp only [orow,Value.ownBlock,Qu,Z5] at hi ⊢
   subst hi
   exact ⟨by simp;omega,.inl rfl⟩
 · refine ⟨by simp [htl],.inr ⟨g,cap,_,fz,rfl,Bj _ hb,hle,hcm,by simp [putCells,hcs],?_,by simpa [putCells] using hz⟩⟩
   rw [Nat.mul_one,←htl]
   exact zF cur ts us aa
section
variable {P:Program} {f:FuncId}
structure SortC {α:Type} [Inhabited α] (P:Program) (f:FuncId) (enc:α→Value) (srt:List α→List α):Prop where
 some_:∀ (blk off cap:Nat) (ss:List α) (w:World),Go.Sort.Holds enc w blk off ss.toArray→blk<w.heap.size→ss.length<4611686018427387904 →
  Calls P f #[.slice (some ⟨blk,off,none⟩) ss.length cap] w fun e w'=>e=.returned (.tuple #[])∧∃ n os,w'=grow (Go.Sort.putRow enc (Sort.ahead w n) blk off (srt ss).toArray) os
 none_:∀ (p:Option Addr) (cap:Nat) (w:World),Calls P f #[.slice p 0 cap] w fun e w'=>e=.returned (.tuple #[])∧w'=w
 len:∀ ss,(srt ss).length=ss.length
theorem SortC.ct {α:Type} [Inhabited α] {enc:α→Value} {srt:List α→List α} (h:SortC P f enc srt) {e n:Nat} {v:Value} {ss:List α} (hn:n≤1000000000) :
  Ct P f #[v] [orow e 1 v n (ss.map enc)] (fun _=>True) fun u R _=>u=.tuple #[]∧R=[orow e 1 v n ((srt ss).map enc)]:=Ct.mk fun w av G=>by
 have ho:ORow w e 1 v n (ss.map enc):=(G.here _ am).now
 have hl:ss.length=n:=by simpa using ho.1
 rcases ho.2 with ⟨rfl,rfl⟩|⟨g,cap,cur,fz,rfl,hg,hnc,hcm,hcs,htake,hfz⟩
 · have hss:ss=[]:=Z8 hl
   have hss':srt ss=[]:=Z8 (by rw [h.len,hl])
   refine (h.none_ none 0 w).mono fun e w' ⟨h1,h2⟩=>⟨_,_,fun _=>True,h1,⟨rfl,rfl⟩,?_⟩
   subst h2
   rw [hss']
   rw [hss] at G
   exact G
 · have hgl:g<w.heap.size:=(QM.1 hg).1
   subst hl
   have h62:ss.length<4611686018427387904:=by omega
   refine (h.some_ g 0 cap ss w (mY hg rfl htake hfz) hgl h62).mono fun e w' ⟨h1,n,os,h2⟩=>⟨_,_,fun _=>True,h1,⟨rfl,rfl⟩,?_⟩
   subst h2
   have:=G.putRow (us:=[]) (ts:=srt ss) (q:=n) (os:=os) (enc:=enc) hg hcm aa hfz hnc (h.len ss) (by simp [h.len];omega) (At.here [])
   rw [ZJ] at this
   exact this
structure CompC {α:Type} [Inhabited α] (P:Program) (f:FuncId) (enc:α→Value) (z:α) (cmp:List α→List α):Prop where
 some_:∀ (blk off cap:Nat) (ss:List α) (w:World),Go.Sort.Holds enc w blk off ss.toArray→ss.length≤9223372036854775807→ss.length≤cap →
  Calls P f #[.slice (some ⟨blk,off,none⟩) ss.length cap] w fun e w'=>e=.returned (.slice (some ⟨blk,off,none⟩) (cmp ss).length cap)∧∃ q,w'=Go.Sort.putRow enc (Sort.ahead w q) blk off (cmp ss++List.replicate (ss.length-(cmp ss).length) z).toArray
 none_:∀ (a:Option Addr) (cap:Nat) (w:World),Calls P f #[.slice a 0 cap] w fun e w'=>e=.returned (.slice a 0 cap)∧w'=w
 len:∀ ss,(cmp ss).length≤ss.length
theorem CompC.ct {α:Type} [Inhabited α] {enc:α→Value} {z:α} {cmp:List α→List α} (h:CompC P f enc z cmp) {e n:Nat} {v:Value} {ss:List α} :
  Ct P f #[v] [orow e 1 v n (ss.map enc)] (fun _=>True) fun u R _=>∃ A c,u=.slice A (cmp ss).length c∧R=[orow e 1 u (cmp ss).length ((cmp ss).map enc)]:=Ct.mk fun w av G=>by
 have ho:ORow w e 1 v n (ss.map enc):=(G.here _ am).now
 have hl:ss.length=n:=by simpa using ho.1
 rcases ho.2 with ⟨rfl,rfl⟩|⟨g,cap,cur,fz,rfl,hg,hnc,hcm,hcs,htake,hfz⟩
 · have hss:ss=[]:=Z8 hl
   have hss':cmp ss=[]:=Z8 (by have:=h.len ss;omega)
   refine (h.none_ none 0 w).mono fun e w' ⟨h1,h2⟩=>⟨_,_,fun _=>True,h1,⟨none,0,by rw [hss'];rfl,rfl⟩,?_⟩
   subst h2
   rw [hss']
   rw [hss] at G
   exact G
 · subst hl
   have h62:ss.length≤9223372036854775807:=by simp only [maxLen] at hcm;omega
   have hlen:=h.len ss
   refine (h.some_ g 0 cap ss w (mY hg rfl htake hfz) h62 hnc).mono fun e w' ⟨h1,q,h2⟩=>⟨_,_,fun _=>True,h1,⟨_,_,rfl,rfl⟩,?_⟩
   subst h2
   have:=G.putRow (us:=List.replicate (ss.length-(cmp ss).length) z) (ts:=cmp ss) (n':=(cmp ss).length) (q:=q) (os:=#[]) (enc:=enc) hg hcm aa hfz aa rfl (by simp;omega) (At.here [])
   rw [grow_empty] at this
   exact this
end
end Go.Proofs.YtaolfiikahlmkaaGreatDoor.Sy
namespace Go.Proofs.YtaolfiikahlmkaaGreatDoor.Sy
open Go Go.RowKit Go.Sort Go.Proofs Go.MapKept Go.Maps Go.Shelf
theorem Xr.more {av bor:List Nat} {w0 w w':World} {loc:List Xm} {X:World→Prop} {r:Xm} (G:Xr av bor w0 loc X w) (hB:Below w.heap.size w w') (hr:Holds r w') (hn:r.fp.Nodup) (hf:∀ i∈r.fp,w.heap.size≤i∧i<w'.heap.size) :
  Xr av bor w0 (r::loc) X w':=by
 have G0:Xr av bor w0 (⟨[],fun _=>True⟩::loc) X w:=by
  have e1:fps ((⟨[],fun _=>True⟩:Xm)::loc)=fps loc:=by simp [fps]
  refine ⟨G.fr,G.avb,by rw [e1];exact G.nodup,by rw [e1];exact G.own,fun x hx=>?_,by rw [e1];exact G.keep⟩
  rcases ZI.1 hx with rfl|hx
  · exact fun _ _=>trivial
  · exact G.here x hx
 refine G0.swap (At.here loc) hB.os hB.tape hB.output hB.size (fun i hi _=>hB.block i hi) hn (fun i hi=>⟨(hf i hi).2,.inr (hf i hi).1⟩) hr
theorem jj {w:World} {base e size n:Nat} {v:Value} {xs:List Value} (h:w.ownsRow base e size v n xs):ORow w e size v n xs:=by
 refine ⟨h.1,?_⟩
 rcases h.2 with h0|⟨g,cap,cur,hv,_,hg,h1,h2,h3,h4⟩
 · exact .inl h0
 · exact .inr ⟨g,cap,cur,(0,0),hv,hg,h1,h2,h3,h4,.inl rfl⟩
theorem vr {w:World} {base e size n:Nat} {v:Value} {xs:List Value} (h:w.ownsRow base e size v n xs):(orow e size v n xs).fp.Nodup∧(∀ i∈(orow e size v n xs).fp,base≤i∧i<w.heap.size)∧∃ A c,v=.slice A n c:=by
 rcases h.2 with ⟨rfl,rfl⟩|⟨g,cap,cur,rfl,hb,hg,h1,h2,h3,h4⟩
 · exact ⟨by simp [orow,Value.ownBlock],fun i hi=>by simp [orow,Value.ownBlock] at hi,none,0,rfl⟩
 · refine ⟨by simp [orow,Value.ownBlock],fun i hi=>?_,_,_,rfl⟩
   simp only [orow,Value.ownBlock,Qu,Z5] at hi
   subst hi
   exact ⟨hb,(QM.1 hg).1⟩
def rTriv:Value→Option (DataW Unit×List MemPlace):=fun _=>some (.nil,[])
theorem vw {κ:Type} [Xk κ] {w:World} {q:Nat} {l:List (κ×Value)} {es:Array MapEntry} (hl:es.toList.map (fun e=>(e.key,e.val))=l.map fun p=>(Xk.enc p.1,p.2)):es.size=l.length:=by
 have:=congrArg List.length hl
 simpa using this
theorem pW {P:Program} {K:Nat} (hk:P.underlying K=some .string) {w:World} {q:Nat} {l:List (ByteArray×Value)} (h:MapAt w q l) (hs:∀ p∈l,p.1.size≤maxLen) (hlen:l.length≤maxLen) :
  ∃ D0:DataW Unit,w.ownsMap P K rTriv q l.length D0∧(strKeys D0).Perm (l.map fun p=>bl p.1)∧Maps.size D0=l.length:=by
 obtain ⟨es,clock,hb,hst,hl⟩:=h
 have hz:=vw (w:=w) (q:=q) hl
 have hkey:∀ x∈es.toList,∃ s:ByteArray,x.key=.string s∧s.size≤maxLen:=by
  intro x hx
  have h1:(x.key,x.val)∈l.map fun p=>(Xk.enc p.1,p.2):=by rw [←hl];exact QJ.2 ⟨x,hx,rfl⟩
  obtain ⟨p,hp,he⟩:=QJ.1 h1
  refine ⟨p.1,?_,hs p hp⟩
  have:=congrArg Prod.fst he
  exact this.symm
 have hrd:∀ x∈es.toList,∃ s:ByteArray,x.key=.string s∧WideElems.rd P K rTriv x=some (.string (bl s),.nil):=by
  intro x hx
  obtain ⟨s,h1,h2⟩:=hkey x hx
  refine ⟨s,h1,?_⟩
  have h3:Go.keyOf P K x.key=some (.string (bl s)):=by rw [h1];simp [Go.keyOf,hk,mapKey,h2,bl]
  simp [WideElems.rd,h3,rTriv]
 refine ⟨_,⟨es,clock,hb,⟨by omega,hst,fun x hx=>?_⟩,by omega,rfl⟩,?_,?_⟩
 · obtain ⟨s,_,h2⟩:=hrd x hx
   exact ⟨_,h2⟩
 · have h1:=(WideShapes.sorted_perm (es.toList.map (WideElems.rg P K rTriv))).map fun p=>strOf p.1
   refine h1.trans ?_
   have h2:(es.toList.map (WideElems.rg P K rTriv)).map (fun p=>strOf p.1)=es.toList.map fun x=>match x.key with|.string s=>bl s|_=>[]:=by
    rw [Z0]
    refine QA fun x hx=>?_
    obtain ⟨s,h3,h4⟩:=hrd x hx
    simp [WideElems.rg,h4,h3,strOf]
   have h5:(es.toList.map fun x=>match x.key with|.string s=>bl s|_=>[])=l.map fun p=>bl p.1:=by
    have h6:=congrArg (List.map fun (p:Value×Value)=>match p.1 with|.string s=>bl s|_=>[]) hl
    rw [Z0,Z0] at h6
    exact h6
   rw [h2,h5]
 · show ((es.toList.map (WideElems.rg P K rTriv)).foldr DataW.insert []).length=l.length
   rw [length_sorted]
   simp [hz]
theorem pX {P:Program} {K:Nat} (hk:P.underlying K=some (.int .i64)) {w:World} {q:Nat} {l:List (Int×Value)} (h:MapAt w q l) (hs:∀ p∈l,(Lit.int .i64 p.1).wf=true) (hlen:l.length≤maxLen) :
  ∃ D0:DataW Unit,w.ownsMap P K rTriv q l.length D0∧(intKeys D0).Perm (l.map fun p=>p.1)∧Maps.size D0=l.length:=by
 obtain ⟨es,clock,hb,hst,hl⟩:=h
 have hz:=vw (w:=w) (q:=q) hl
 have hkey:∀ x∈es.toList,∃ s:Int,x.key=.int .i64 s∧(Lit.int .i64 s).wf=true:=by
  intro x hx
  have h1:(x.key,x.val)∈l.map fun p=>(Xk.enc p.1,p.2):=by rw [←hl];exact QJ.2 ⟨x,hx,rfl⟩
  obtain ⟨p,hp,he⟩:=QJ.1 h1
  refine ⟨p.1,?_,hs p hp⟩
  have:=congrArg Prod.fst he
  exact this.symm
 have hrd:∀ x∈es.toList,∃ s:Int,x.key=.int .i64 s∧WideElems.rd P K rTriv x=some (.int .i64 s,.nil):=by
  intro x hx
  obtain ⟨s,h1,h2⟩:=hkey x hx
  refine ⟨s,h1,?_⟩
  have h3:Go.keyOf P K x.key=some (.int .i64 s):=by rw [h1];simp [Go.keyOf,hk,mapKey,h2]
  simp [WideElems.rd,h3,rTriv]
 refine ⟨_,⟨es,clock,hb,⟨by omega,hst,fun x hx=>?_⟩,by omega,rfl⟩,?_,?_⟩
 · obtain ⟨s,_,h2⟩:=hrd x hx
   exact ⟨_,h2⟩
 · have h1:=(WideShapes.sorted_perm (es.toList.map (WideElems.rg P K rTriv))).map fun p=>Go.intOf p.1
   refine h1.trans ?_
   have h2:(es.toList.map (WideElems.rg P K rTriv)).map (fun p=>Go.intOf p.1)=es.toList.map fun x=>match x.key with|.int _ s=>s|_=>0:=by
    rw [Z0]
    refine QA fun x hx=>?_
    obtain ⟨s,h3,h4⟩:=hrd x hx
    simp [WideElems.rg,h4,h3,Go.intOf]
   have h5:(es.toList.map fun x=>match x.key with|.int _ s=>s|_=>0)=l.map fun p=>p.1:=by
    have h6:=congrArg (List.map fun (p:Value×Value)=>match p.1 with|.int _ s=>s|_=>0) hl
    rw [Z0,Z0] at h6
    exact h6
   rw [h2,h5]
 · show ((es.toList.map (WideElems.rg P K rTriv)).foldr DataW.insert []).length=l.length
   rw [length_sorted]
   simp [hz]
section
variable {P:Program}
structure KeysC (P:Program) (fk g M:Nat):Prop where
 keys:∀ (mb:Option Nat) (W:World),Calls P fk #[.map mb] W fun e w'=>e=.returned (.func (.func g) #[] #[.pointer (some ⟨W.heap.size,0,none⟩)])∧w'=W.alloc (.cells #[.map mb] M)
structure SortedSC (P:Program) (fs g K:Nat):Prop where
 key:P.underlying K=some .string
 sorted:∀ (w:World) (Bm q nn:Nat) (D0:DataW Unit),Bm<w.heap.size→w.cell? ⟨Bm,0,none⟩=some (.map (some q))→w.ownsMap P K rTriv q nn D0→Maps.size D0≤maxLen→Maps.size D0*16≤140737488355328 →
  Calls P fs #[.func (.func g) #[] #[.pointer (some ⟨Bm,0,none⟩)]] w fun e w'=>∃ (v:Value) (ss:List (List UInt8)),e=.returned v∧ss.Perm (strKeys D0) ∧
   w'.ownsRow w.heap.size K 1 v ss.length ((ss.mergeSort (fun x y=>decide (x≤y))).map encStr)∧(v=.slice none 0 0↔ss=[])∧Below w.heap.size w w'
structure SortedIC (P:Program) (fs g K:Nat):Prop where
 key:P.underlying K=some (.int .i64)
 sorted:∀ (w:World) (Bm q nn:Nat) (D0:DataW Unit),Bm<w.heap.size→w.cell? ⟨Bm,0,none⟩=some (.map (some q))→w.ownsMap P K rTriv q nn D0→Maps.size D0≤maxLen→Maps.size D0*8≤140737488355328 →
  Calls P fs #[.func (.func g) #[] #[.pointer (some ⟨Bm,0,none⟩)]] w fun e w'=>∃ (v:Value) (ss:List Int),e=.returned v∧ss.Perm (intKeys D0) ∧
   w'.ownsRow w.heap.size K 1 v ss.length ((ss.mergeSort (fun x y=>decide (x≤y))).map encZ)∧(v=.slice none 0 0↔ss=[])∧Below w.heap.size w w'
theorem KeysC.ct {fk g M:Nat} (h:KeysC P fk g M) (mb:Option Nat):Ct P fk #[.map mb] [] (fun _=>True) fun u R _=>∃ b,u=.func (.func g) #[] #[.pointer (some ⟨b,0,none⟩)]∧R=[cel b M [.map mb]]:=Ct.mk fun w av G=>by
 refine (h.keys mb w).mono fun e w' ⟨h1,h2⟩=>⟨_,_,fun _=>True,h1,⟨_,rfl,rfl⟩,?_⟩
 subst h2
 exact G.new _ _ fun _ h=>h
def sortI (l:List Int):List Int:=l.mergeSort leI
theorem SortedSC.ct {fs g M K:Nat} (h:SortedSC P fs g K) (b q:Nat) (l:List (ByteArray×Value)) (hs:∀ p∈l,p.1.size≤maxLen) (hl:l.length≤1000000) :
  Ct P fs #[.func (.func g) #[] #[.pointer (some ⟨b,0,none⟩)]] [cel b M [.map (some q)],mapr q l] (fun _=>True)
   fun u R _=>∃ A c,u=.slice A l.length c∧R=[orow K 1 u l.length ((sortB (l.map (·.1))).map encB),cel b M [.map (some q)],mapr q l]:=Ct.mk fun w av G=>by
 have hb:w.heap[b]?=some (.cells #[.map (some q)] M (0,0)):=(G.here (cel b M [.map (some q)]) am).now
 have hm:MapAt w q l:=(G.here (mapr q l) (Zv _ am)).now
 obtain ⟨D0,hown,hperm,hsz⟩:=pW h.key hm hs (by simp only [maxLen];omega)
 have hbl:b<w.heap.size:=(QM.1 hb).1
 have hc:w.cell? ⟨b,0,none⟩=some (.map (some q)):=by simp [World.cell?,hb]
 refine (h.sorted w b q l.length D0 hbl hc hown (by rw [hsz];simp only [maxLen];omega) (by rw [hsz];omega)).mono fun e w' ⟨v,ss,he,hS,hrow,hnil,hB⟩=>?_
 have hlen:ss.length=l.length:=by rw [(hS.trans hperm).length_eq];simp
 have hsort:(ss.mergeSort fun x y=>decide (x≤y)).map encStr=(sortB (l.map (·.1))).map encB:=by
  have:=mergeSort_of_perm (hS.trans hperm)
  rw [show (ss.mergeSort fun x y=>decide (x≤y))=ss.mergeSort leB from rfl,this,iE,sortB]
  simp only [Z0]
  rfl
 rw [hsort,hlen] at hrow
 obtain ⟨f1,f2,A,c,rfl⟩:=vr hrow
 exact ⟨_,_,fun _=>True,he,⟨A,c,rfl,rfl⟩,(G.more hB (dH (jj hrow)) f1 f2).imp fun _ _=>trivial⟩
theorem SortedIC.ct {fs g M K:Nat} (h:SortedIC P fs g K) (b q:Nat) (l:List (Int×Value)) (hs:∀ p∈l,(Lit.int .i64 p.1).wf=true) (hl:l.length≤1000000) :
  Ct P fs #[.func (.func g) #[] #[.pointer (some ⟨b,0,none⟩)]] [cel b M [.map (some q)],mapr q l] (fun _=>True)
   fun u R _=>∃ A c,u=.slice A l.length c∧R=[orow K 1 u l.length ((sortI (l.map (·.1))).map encZ),cel b M [.map (some q)],mapr q l]:=Ct.mk fun w av G=>by
 have hb:w.heap[b]?=some (.cells #[.map (some q)] M (0,0)):=(G.here (cel b M [.map (some q)]) am).now
 have hm:MapAt w q l:=(G.here (mapr q l) (Zv _ am)).now
 obtain ⟨D0,hown,hperm,hsz⟩:=pX h.key hm hs (by simp only [maxLen];omega)
 have hbl:b<w.heap.size:=(QM.1 hb).1
 have hc:w.cell? ⟨b,0,none⟩=some (.map (some q)):=by simp [World.cell?,hb]
 refine (h.sorted w b q l.length D0 hbl hc hown (by rw [hsz];simp only [maxLen];omega) (by rw [hsz];omega)).mono fun e w' ⟨v,ss,he,hS,hrow,hnil,hB⟩=>?_
 have hlen:ss.length=l.length:=by rw [(hS.trans hperm).length_eq];simp
 have hsort:(ss.mergeSort fun x y=>decide (x≤y)).map encZ=(sortI (l.map (·.1))).map encZ:=by
  have:=mergeSort_of_perm_i (hS.trans hperm)
  rw [show (ss.mergeSort fun x y=>decide (x≤y))=ss.mergeSort leI from rfl,this,sortI]
 rw [hsort,hlen] at hrow
 obtain ⟨f1,f2,A,c,rfl⟩:=vr hrow
 exact ⟨_,_,fun _=>True,he,⟨A,c,rfl,rfl⟩,(G.more hB (dH (jj hrow)) f1 f2).imp fun _ _=>trivial⟩
end
end Go.Proofs.YtaolfiikahlmkaaGreatDoor.Sy
namespace Go.Proofs
open Go.Shelf
def Tryz.keys_map_string_bool_string_bool_ren:Go.Shelf.Ren:=⟨fun|7=>102|10=>179|n=>n,fun|23=>116|26=>9|3=>4|28=>107|0=>0|27=>106|33=>157|4=>4|n=>n,fun|n=>n⟩
theorem Tryz.keys_map_string_bool_string_bool:Go.Proofs.SlLaysZ.n7 Tryz.prog Tryz.keys_map_string_bool_string_bool_ren:={
 mixed:=by kernel_rfl
 f7:=⟨Tryz.f102.name,by decide,Tryz.func102.trans (congrArg some (by kernel_rfl))⟩
 f10:=⟨Tryz.f179.name,by decide,Tryz.func179.trans (congrArg some (by kernel_rfl))⟩
 t0:=Tryz.underlying0
 a0:=Tryz.isAgg0
 z0:=Tryz.sizeOf0
 v0:=Tryz.zeroValue0
 t4:=Tryz.underlying4
 a4:=Tryz.isAgg4
 z4:=Tryz.sizeOf4
 v4:=Tryz.zeroValue4
 t23:=Tryz.underlying116
 a23:=Tryz.isAgg116
 z23:=Tryz.sizeOf116
 v23:=Tryz.zeroValue116
 t26:=Tryz.underlying9
 a26:=Tryz.isAgg9
 z26:=Tryz.sizeOf9
 v26:=Tryz.zeroValue9
 t27:=Tryz.underlying106
 a27:=Tryz.isAgg106
 z27:=Tryz.sizeOf106
 v27:=Tryz.zeroValue106
 t28:=Tryz.underlying107
 a28:=Tryz.isAgg107
 z28:=Tryz.sizeOf107
 v28:=Tryz.zeroValue107
 t33:=Tryz.underlying157
 a33:=Tryz.isAgg157
 z33:=Tryz.sizeOf157
 v33:=Tryz.zeroValue157 }
def Tryz.sortedS_ren:Go.Shelf.Ren:=⟨fun|6=>51|8=>94|9=>48|11=>173|13=>93|12=>92|23=>171|24=>172|14=>162|15=>163|16=>164|17=>165|18=>166|19=>167|20=>168|21=>169|22=>170|25=>243|26=>244|27=>245|28=>246|29=>247|30=>142|31=>281|n=>n,fun|26=>9|28=>107|24=>39|0=>0|3=>3|37=>156|48=>167|50=>218|4=>4|40=>224|39=>223|45=>78|5=>5|9=>9|51=>262|55=>266|57=>296|58=>297|33=>157|n=>n,fun|n=>n⟩
theorem Tryz.sortedS:Go.Proofs.SlLaysZ.n6 Tryz.prog Tryz.sortedS_ren:={
 mixed:=by kernel_rfl
 f6:=⟨Tryz.f51.name,by decide,Tryz.func51.trans (congrArg some (by kernel_rfl))⟩
 f8:=⟨Tryz.f94.name,by decide,Tryz.func94.trans (congrArg some (by kernel_rfl))⟩
 f11:=⟨Tryz.f173.name,by decide,Tryz.func173.trans (congrArg some (by kernel_rfl))⟩
 t0:=Tryz.underlying0
 a0:=Tryz.isAgg0
 z0:=Tryz.sizeOf0
 v0:=Tryz.zeroValue0
 t24:=Tryz.underlying39
 a24:=Tryz.isAgg39
 z24:=Tryz.sizeOf39
 v24:=Tryz.zeroValue39
 t26:=Tryz.underlying9
 a26:=Tryz.isAgg9
 z26:=Tryz.sizeOf9
 v26:=Tryz.zeroValue9
 t28:=Tryz.underlying107
 a28:=Tryz.isAgg107
 z28:=Tryz.sizeOf107
 v28:=Tryz.zeroValue107
 i26:=by kernel_rfl }
def Tryz.sortS_ren:Go.Shelf.Ren:=⟨fun|6=>48|8=>93|9=>92|19=>171|20=>172|21=>162|22=>163|23=>164|24=>165|25=>166|26=>167|27=>168|28=>169|29=>170|36=>243|31=>244|32=>245|37=>246|38=>247|39=>142|41=>281|n=>n,fun|27=>39|29=>9|3=>3|32=>156|26=>39|0=>0|44=>167|46=>218|4=>4|36=>224|35=>223|41=>78|5=>5|9=>9|53=>262|57=>266|63=>296|64=>297|n=>n,fun|n=>n⟩
theorem Tryz.sortS:Go.Proofs.SlLaysM.n6 Tryz.prog Tryz.sortS_ren:={
 mixed:=by kernel_rfl
 f6:=⟨Tryz.f48.name,by decide,Tryz.func48.trans (congrArg some (by kernel_rfl))⟩
 f8:=Tryz.func93.trans (congrArg some (by kernel_rfl))
 f9:=⟨Tryz.f92.name,by decide,Tryz.func92.trans (congrArg some (by kernel_rfl))⟩
 f19:=Tryz.func171.trans (congrArg some (by kernel_rfl))
 f20:=Tryz.func172.trans (congrArg some (by kernel_rfl))
 f21:=⟨Tryz.f162.name,by decide,Tryz.func162.trans (congrArg some (by kernel_rfl))⟩
 f22:=⟨Tryz.f163.name,by decide,Tryz.func163.trans (congrArg some (by kernel_rfl))⟩
 f23:=⟨Tryz.f164.name,by decide,Tryz.func164.trans (congrArg some (by kernel_rfl))⟩
 f24:=⟨Tryz.f165.name,by decide,Tryz.func165.trans (congrArg some (by kernel_rfl))⟩
 f25:=⟨Tryz.f166.name,by decide,Tryz.func166.trans (congrArg some (by kernel_rfl))⟩
 f26:=⟨Tryz.f167.name,by decide,Tryz.func167.trans (congrArg some (by kernel_rfl))⟩
 f27:=⟨Tryz.f168.name,by decide,Tryz.func168.trans (congrArg some (by kernel_rfl))⟩
 f28:=⟨Tryz.f169.name,by decide,Tryz.func169.trans (congrArg some (by kernel_rfl))⟩
 f29:=⟨Tryz.f170.name,by decide,Tryz.func170.trans (congrArg some (by kernel_rfl))⟩
 f31:=Tryz.func244.trans (congrArg some (by kernel_rfl))
 f32:=Tryz.func245.trans (congrArg some (by kernel_rfl))
 f36:=⟨Tryz.f243.name,by decide,Tryz.func243.trans (congrArg some (by kernel_rfl))⟩
 f37:=⟨Tryz.f246.name,by decide,Tryz.func246.trans (congrArg some (by kernel_rfl))⟩
 f38:=⟨Tryz.f247.name,by decide,Tryz.func247.trans (congrArg some (by kernel_rfl))⟩
 f39:=⟨Tryz.f142.name,by decide,Tryz.func142.trans (congrArg some (by kernel_rfl))⟩
 f41:=⟨Tryz.f281.name,by decide,Tryz.func281.trans (congrArg some (by kernel_rfl))⟩
 t0:=Tryz.underlying0
 a0:=Tryz.isAgg0
 z0:=Tryz.sizeOf0
 v0:=Tryz.zeroValue0
 t3:=Tryz.underlying3
 a3:=Tryz.isAgg3
 z3:=Tryz.sizeOf3
 v3:=Tryz.zeroValue3
 t4:=Tryz.underlying4
 a4:=Tryz.isAgg4
 z4:=Tryz.sizeOf4
 v4:=Tryz.zeroValue4
 t5:=Tryz.underlying5
 a5:=Tryz.isAgg5
 z5:=Tryz.sizeOf5
 v5:=Tryz.zeroValue5
 t9:=Tryz.underlying9
 a9:=Tryz.isAgg9
 z9:=Tryz.sizeOf9
 v9:=Tryz.zeroValue9
 t26:=Tryz.underlying39
 a26:=Tryz.isAgg39
 z26:=Tryz.sizeOf39
 v26:=Tryz.zeroValue39
 t27:=Tryz.underlying39
 a27:=Tryz.isAgg39
 z27:=Tryz.sizeOf39
 v27:=Tryz.zeroValue39
 t29:=Tryz.underlying9
 a29:=Tryz.isAgg9
 z29:=Tryz.sizeOf9
 v29:=Tryz.zeroValue9
 t32:=Tryz.underlying156
 a32:=Tryz.isAgg156
 z32:=Tryz.sizeOf156
 v32:=Tryz.zeroValue156
 t35:=Tryz.underlying223
 a35:=Tryz.isAgg223
 z35:=Tryz.sizeOf223
 v35:=Tryz.zeroValue223
 t36:=Tryz.underlying224
 a36:=Tryz.isAgg224
 z36:=Tryz.sizeOf224
 v36:=Tryz.zeroValue224
 t41:=Tryz.underlying78
 a41:=Tryz.isAgg78
 z41:=Tryz.sizeOf78
 v41:=Tryz.zeroValue78
 t44:=Tryz.underlying167
 a44:=Tryz.isAgg167
 z44:=Tryz.sizeOf167
 v44:=Tryz.zeroValue167
 t46:=Tryz.underlying218
 a46:=Tryz.isAgg218
 z46:=Tryz.sizeOf218
 v46:=Tryz.zeroValue218
 t53:=Tryz.underlying262
 a53:=Tryz.isAgg262
 z53:=Tryz.sizeOf262
 v53:=Tryz.zeroValue262
 t57:=Tryz.underlying266
 a57:=Tryz.isAgg266
 z57:=Tryz.sizeOf266
 v57:=Tryz.zeroValue266
 t63:=Tryz.underlying296
 a63:=Tryz.isAgg296
 z63:=Tryz.sizeOf296
 v63:=Tryz.zeroValue296
 t64:=Tryz.underlying297
 a64:=Tryz.isAgg297
 z64:=Tryz.sizeOf297
 v64:=Tryz.zeroValue297 }
def Tryz.sortI_ren:Go.Shelf.Ren:=⟨fun|5=>255|8=>93|7=>288|19=>171|20=>172|10=>299|11=>300|12=>301|13=>302|14=>303|15=>304|16=>305|17=>306|18=>307|30=>316|31=>244|32=>245|33=>317|34=>318|35=>251|40=>321|n=>n,fun|23=>22|25=>3|3=>3|32=>156|22=>22|0=>0|44=>167|46=>218|4=>4|36=>224|35=>223|41=>78|5=>5|9=>9|53=>262|57=>266|63=>296|64=>297|n=>n,fun|n=>n⟩
theorem Tryz.sortI:Go.Proofs.SlLaysM.n5 Tryz.prog Tryz.sortI_ren:={
 mixed:=by kernel_rfl
 f5:=⟨Tryz.f255.name,by decide,Tryz.func255.trans (congrArg some (by kernel_rfl))⟩
 f7:=⟨Tryz.f288.name,by decide,Tryz.func288.trans (congrArg some (by kernel_rfl))⟩
 f8:=Tryz.func93.trans (congrArg some (by kernel_rfl))
 f10:=⟨Tryz.f299.name,by decide,Tryz.func299.trans (congrArg some (by kernel_rfl))⟩
 f11:=⟨Tryz.f300.name,by decide,Tryz.func300.trans (congrArg some (by kernel_rfl))⟩
 f12:=⟨Tryz.f301.name,by decide,Tryz.func301.trans (congrArg some (by kernel_rfl))⟩
 f13:=⟨Tryz.f302.name,by decide,Tryz.func302.trans (congrArg some (by kernel_rfl))⟩
 f14:=⟨Tryz.f303.name,by decide,Tryz.func303.trans (congrArg some (by kernel_rfl))⟩
 f15:=⟨Tryz.f304.name,by decide,Tryz.func304.trans (congrArg some (by kernel_rfl))⟩
 f16:=⟨Tryz.f305.name,by decide,Tryz.func305.trans (congrArg some (by kernel_rfl))⟩
 f17:=⟨Tryz.f306.name,by decide,Tryz.func306.trans (congrArg some (by kernel_rfl))⟩
 f18:=⟨Tryz.f307.name,by decide,Tryz.func307.trans (congrArg some (by kernel_rfl))⟩
 f19:=Tryz.func171.trans (congrArg some (by kernel_rfl))
 f20:=Tryz.func172.trans (congrArg some (by kernel_rfl))
 f30:=⟨Tryz.f316.name,by decide,Tryz.func316.trans (congrArg some (by kernel_rfl))⟩
 f31:=Tryz.func244.trans (congrArg some (by kernel_rfl))
 f32:=Tryz.func245.trans (congrArg some (by kernel_rfl))
 f33:=⟨Tryz.f317.name,by decide,Tryz.func317.trans (congrArg some (by kernel_rfl))⟩
 f34:=⟨Tryz.f318.name,by decide,Tryz.func318.trans (congrArg some (by kernel_rfl))⟩
 f35:=⟨Tryz.f251.name,by decide,Tryz.func251.trans (congrArg some (by kernel_rfl))⟩
 f40:=⟨Tryz.f321.name,by decide,Tryz.func321.trans (congrArg some (by kernel_rfl))⟩
 t0:=Tryz.underlying0
 a0:=Tryz.isAgg0
 z0:=Tryz.sizeOf0
 v0:=Tryz.zeroValue0
 t3:=Tryz.underlying3
 a3:=Tryz.isAgg3
 z3:=Tryz.sizeOf3
 v3:=Tryz.zeroValue3
 t4:=Tryz.underlying4
 a4:=Tryz.isAgg4
 z4:=Tryz.sizeOf4
 v4:=Tryz.zeroValue4
 t5:=Tryz.underlying5
 a5:=Tryz.isAgg5
 z5:=Tryz.sizeOf5
 v5:=Tryz.zeroValue5
 t9:=Tryz.underlying9
 a9:=Tryz.isAgg9
 z9:=Tryz.sizeOf9
 v9:=Tryz.zeroValue9
 t22:=Tryz.underlying22
 a22:=Tryz.isAgg22
 z22:=Tryz.sizeOf22
 v22:=Tryz.zeroValue22
 t23:=Tryz.underlying22
 a23:=Tryz.isAgg22
 z23:=Tryz.sizeOf22
 v23:=Tryz.zeroValue22
 t25:=Tryz.underlying3
 a25:=Tryz.isAgg3
 z25:=Tryz.sizeOf3
 v25:=Tryz.zeroValue3
 t32:=Tryz.underlying156
 a32:=Tryz.isAgg156
 z32:=Tryz.sizeOf156
 v32:=Tryz.zeroValue156
 t35:=Tryz.underlying223
 a35:=Tryz.isAgg223
 z35:=Tryz.sizeOf223
 v35:=Tryz.zeroValue223
 t36:=Tryz.underlying224
 a36:=Tryz.isAgg224
 z36:=Tryz.sizeOf224
 v36:=Tryz.zeroValue224
 t41:=Tryz.underlying78
 a41:=Tryz.isAgg78
 z41:=Tryz.sizeOf78
 v41:=Tryz.zeroValue78
 t44:=Tryz.underlying167
 a44:=Tryz.isAgg167
 z44:=Tryz.sizeOf167
 v44:=Tryz.zeroValue167
 t46:=Tryz.underlying218
 a46:=Tryz.isAgg218
 z46:=Tryz.sizeOf218
 v46:=Tryz.zeroValue218
 t53:=Tryz.underlying262
 a53:=Tryz.isAgg262
 z53:=Tryz.sizeOf262
 v53:=Tryz.zeroValue262
 t57:=Tryz.underlying266
 a57:=Tryz.isAgg266
 z57:=Tryz.sizeOf266
 v57:=Tryz.zeroValue266
 t63:=Tryz.underlying296
 a63:=Tryz.isAgg296
 z63:=Tryz.sizeOf296
 v63:=Tryz.zeroValue296
 t64:=Tryz.underlying297
 a64:=Tryz.isAgg297
 z64:=Tryz.sizeOf297
 v64:=Tryz.zeroValue297 }
def Tryz.compS_ren:Go.Shelf.Ren:=⟨fun|194=>49|n=>n,fun|31=>39|9=>9|3=>3|4=>4|0=>0|n=>n,fun|n=>n⟩
theorem Tryz.compS:Go.Proofs.Lays.n194 Tryz.prog Tryz.compS_ren:={
 mixed:=by kernel_rfl
 f194:=Tryz.func49.trans (congrArg some (by kernel_rfl))
 t0:=Tryz.underlying0
 a0:=Tryz.isAgg0
 z0:=Tryz.sizeOf0
 v0:=Tryz.zeroValue0
 t3:=Tryz.underlying3
 a3:=Tryz.isAgg3
 z3:=Tryz.sizeOf3
 v3:=Tryz.zeroValue3
 t4:=Tryz.underlying4
 a4:=Tryz.isAgg4
 z4:=Tryz.sizeOf4
 v4:=Tryz.zeroValue4
 t9:=Tryz.underlying9
 a9:=Tryz.isAgg9
 z9:=Tryz.sizeOf9
 v9:=Tryz.zeroValue9
 t31:=Tryz.underlying39
 a31:=Tryz.isAgg39
 z31:=Tryz.sizeOf39
 v31:=Tryz.zeroValue39 }
end Go.Proofs
namespace Go.Proofs.YtaolfiikahlmkaaGreatDoor.Sy
open Go Go.RowKit
theorem iF {P:Program} {N:Nat} {av bor:List Nat} {w0:World} {ops:Array Oper} {rest:List Oper} {st:St} {k:St→Prop} {d:Option Tmp} {ty:TypeId} {pos:String} {af:Array Edge} {g:Option (Nat×Bool)} {xs:Array Operand} {ts:Array TypeId}
  (h:Sw P N av bor w0 ops (⟨d,.call ⟨.builtin .append,xs,ts⟩,ty,pos,af,g⟩::rest) st k):Sw P N av bor w0 ops (⟨d,.call ⟨.builtin .append,xs,ts⟩,ty,pos,af,g⟩::rest) st k:=h
end Go.Proofs.YtaolfiikahlmkaaGreatDoor.Sy
namespace Go.Proofs.YtaolfiikahlmkaaGreatDoor.Sy
open Go Go.Proofs Tryz
instance:Xw prog 3:=⟨ac⟩
instance:Xt prog 3 .i64:=⟨ac⟩
instance:Xn prog 3 (.int .i64 0):=⟨ac⟩
instance:Xw prog 4:=⟨ac⟩
instance:Xn prog 4 (.bool false):=⟨ac⟩
instance:Xw prog 5:=⟨ac⟩
instance:Xt prog 5 .u8:=⟨ac⟩
instance:Xn prog 5 (.int .u8 0):=⟨ac⟩
instance:Xw prog 9:=⟨ac⟩
instance:X8 prog 9:=⟨ac⟩
instance:Xn prog 9 (.string ⟨#[]⟩):=⟨ac⟩
instance:Xw prog 22:=⟨ac⟩
instance:X7 prog 22 3 1 8:=⟨ac⟩
instance:Xn prog 22 (.slice none 0 0):=⟨ac⟩
instance:Xw prog 23:=⟨ac⟩
instance:X7 prog 23 60 49 568:=⟨ac⟩
instance:Xv prog 25 2:=⟨ac⟩
instance:Xj prog 25 0 0:=⟨ac⟩
instance:Xj prog 25 1 1:=⟨ac⟩
instance:X7 prog 30 35 6 96:=⟨ac⟩
instance:Xw prog 32:=⟨ac⟩
instance:X7 prog 32 46 20 264:=⟨ac⟩
instance:Xn prog 32 (.slice none 0 0):=⟨ac⟩
instance:Xw prog 33:=⟨ac⟩
instance:X7 prog 33 133 3 24:=⟨ac⟩
instance:Xv prog 35 6:=⟨ac⟩
instance:Xj prog 35 0 0:=⟨ac⟩
instance:Xj prog 35 1 1:=⟨ac⟩
instance:Xj prog 35 2 2:=⟨ac⟩
instance:Xj prog 35 3 3:=⟨ac⟩
instance:Xj prog 35 4 4:=⟨ac⟩
instance:Xj prog 35 5 5:=⟨ac⟩
instance:Ei prog 35 [(0,1),(1,1),(2,1),(3,1),(4,1),(5,1)]:=⟨ac⟩
instance:Xn prog 35 (.agg #[(.string ⟨#[]⟩),(.slice none 0 0),(.slice none 0 0),(.string ⟨#[]⟩),(.int .i64 0),(.bool false)]):=⟨ac⟩
instance:Xw prog 39:=⟨ac⟩
instance:X7 prog 39 9 1 16:=⟨ac⟩
instance:Xv prog 41 3:=⟨ac⟩
instance:Xj prog 41 0 0:=⟨ac⟩
instance:Xj prog 41 1 1:=⟨ac⟩
instance:Xj prog 41 2 2:=⟨ac⟩
instance:Xn prog 41 (.agg #[(.string ⟨#[]⟩),(.string ⟨#[]⟩),(.string ⟨#[]⟩)]):=⟨ac⟩
instance:Xw prog 42:=⟨ac⟩
instance:X7 prog 42 112 5 64:=⟨ac⟩
instance:Xv prog 44 2:=⟨ac⟩
instance:Xj prog 44 0 0:=⟨ac⟩
instance:Xj prog 44 1 1:=⟨ac⟩
instance:Xv prog 46 20:=⟨ac⟩
instance:Xj prog 46 0 0:=⟨ac⟩
instance:Xj prog 46 1 1:=⟨ac⟩
instance:Xj prog 46 2 2:=⟨ac⟩
instance:Xj prog 46 3 3:=⟨ac⟩
instance:Xj prog 46 4 4:=⟨ac⟩
instance:Xj prog 46 5 5:=⟨ac⟩
instance:Xj prog 46 6 6:=⟨ac⟩
instance:Xj prog 46 7 7:=⟨ac⟩
instance:Xj prog 46 8 8:=⟨ac⟩
instance:Xj prog 46 9 9:=⟨ac⟩
instance:Xj prog 46 10 10:=⟨ac⟩
instance:Xj prog 46 11 11:=⟨ac⟩
instance:Xj prog 46 12 14:=⟨ac⟩
instance:Xj prog 46 13 15:=⟨ac⟩
instance:Xj prog 46 14 16:=⟨ac⟩
instance:Xj prog 46 15 17:=⟨ac⟩
instance:Xj prog 46 16 18:=⟨ac⟩
instance:Ei prog 46 [(0,1),(1,1),(2,1),(3,1),(4,1),(5,1),(6,1),(7,1),(8,1),(9,1),(10,1),(11,3),(14,1),(15,1),(16,1),(17,1),(18,2)]:=⟨ac⟩
instance:Xn prog 46 (.agg #[(.string ⟨#[]⟩),(.int .i64 0),(.string ⟨#[]⟩),(.int .i64 0),(.int .i64 0),(.string ⟨#[]⟩),(.string ⟨#[]⟩),(.int .i64 0),(.string ⟨#[]⟩),(.slice none 0 0),(.string ⟨#[]⟩),(.string ⟨#[]⟩),(.string ⟨#[]⟩),(.string ⟨#[]⟩),(.int .i64 0),(.slice none 0 0),(.int .i64 0),(.int .i64 0),(.int .i64 0),(.int .i64 0)]):=⟨ac⟩
instance:Xv prog 54 9:=⟨ac⟩
instance:Xj prog 54 0 0:=⟨ac⟩
instance:Xj prog 54 1 1:=⟨ac⟩
instance:Xj prog 54 2 2:=⟨ac⟩
instance:Xj prog 54 3 3:=⟨ac⟩
instance:Xj prog 54 4 4:=⟨ac⟩
instance:Xj prog 54 5 5:=⟨ac⟩
instance:Xj prog 54 6 6:=⟨ac⟩
instance:Xj prog 54 7 7:=⟨ac⟩
instance:Ei prog 54 [(0,1),(1,1),(2,1),(3,1),(4,1),(5,1),(6,1),(7,2)]:=⟨ac⟩
instance:Xn prog 54 (.agg #[(.string ⟨#[]⟩),(.int .i64 0),(.string ⟨#[]⟩),(.int .i64 0),(.int .i64 0),(.int .i64 0),(.int .i64 0),(.int .i64 0),(.int .i64 0)]):=⟨ac⟩
instance:Xv prog 56 7:=⟨ac⟩
instance:Xj prog 56 0 0:=⟨ac⟩
instance:Xj prog 56 1 1:=⟨ac⟩
instance:Xj prog 56 2 2:=⟨ac⟩
instance:Xj prog 56 3 3:=⟨ac⟩
instance:Xj prog 56 4 4:=⟨ac⟩
instance:Xj prog 56 5 5:=⟨ac⟩
instance:Ei prog 56 [(0,1),(1,1),(2,1),(3,1),(4,1),(5,2)]:=⟨ac⟩
instance:Xn prog 56 (.agg #[(.int .i64 0),(.string ⟨#[]⟩),(.int .i64 0),(.string ⟨#[]⟩),(.int .i64 0),(.int .i64 0),(.int .i64 0)]):=⟨ac⟩
instance:Xv prog 58 12:=⟨ac⟩
instance:Xj prog 58 0 0:=⟨ac⟩
instance:Xj prog 58 1 1:=⟨ac⟩
instance:Xj prog 58 2 2:=⟨ac⟩
instance:Xj prog 58 3 3:=⟨ac⟩
instance:Xj prog 58 4 4:=⟨ac⟩
instance:Xj prog 58 5 5:=⟨ac⟩
instance:Xj prog 58 6 6:=⟨ac⟩
instance:Xj prog 58 7 7:=⟨ac⟩
instance:Xj prog 58 8 8:=⟨ac⟩
instance:Xj prog 58 9 9:=⟨ac⟩
instance:Xj prog 58 10 10:=⟨ac⟩
instance:Ei prog 58 [(0,1),(1,1),(2,1),(3,1),(4,1),(5,1),(6,1),(7,1),(8,1),(9,1),(10,2)]:=⟨ac⟩
instance:Xn prog 58 (.agg #[(.int .i64 0),(.int .i64 0),(.int .i64 0),(.string ⟨#[]⟩),(.string ⟨#[]⟩),(.string ⟨#[]⟩),(.slice none 0 0),(.int .i64 0),(.int .i64 0),(.int .i64 0),(.int .i64 0),(.int .i64 0)]):=⟨ac⟩
instance:Xv prog 60 49:=⟨ac⟩
instance:Xj prog 60 0 0:=⟨ac⟩
instance:Xj prog 60 1 1:=⟨ac⟩
instance:Xj prog 60 2 21:=⟨ac⟩
instance:Xj prog 60 3 30:=⟨ac⟩
instance:Xj prog 60 4 37:=⟨ac⟩
instance:Ei prog 60 [(0,1),(1,20),(21,9),(30,7),(37,12)]:=⟨ac⟩
instance:Xn prog 60 (.agg #[(.int .i64 0),(.string ⟨#[]⟩),(.int .i64 0),(.string ⟨#[]⟩),(.int .i64 0),(.int .i64 0),(.string ⟨#[]⟩),(.string ⟨#[]⟩),(.int .i64 0),(.string ⟨#[]⟩),(.slice none 0 0),(.string ⟨#[]⟩),(.string ⟨#[]⟩),(.string ⟨#[]⟩),(.string ⟨#[]⟩),(.int .i64 0),(.slice none 0 0),(.int .i64 0),(.int .i64 0),(.int .i64 0),(.int .i64 0),(.string ⟨#[]⟩),(.int .i64 0),(.string ⟨#[]⟩),(.int .i64 0),(.int .i64 0),(.int .i64 0),(.int .i64 0),(.int .i64 0),(.int .i64 0),(.int .i64 0),(.string ⟨#[]⟩),(.int .i64 0),(.string ⟨#[]⟩),(.int .i64 0),(.int .i64 0),(.int .i64 0),(.int .i64 0),(.int .i64 0),(.int .i64 0),(.string ⟨#[]⟩),(.string ⟨#[]⟩),(.string ⟨#[]⟩),(.slice none 0 0),(.int .i64 0),(.int .i64 0),(.int .i64 0),(.int .i64 0),(.int .i64 0)]):=⟨ac⟩
instance:Xj prog 64 0 0:=⟨ac⟩
instance:Xj prog 64 1 1:=⟨ac⟩
instance:Xj prog 64 2 2:=⟨ac⟩
instance:Ei prog 64 [(0,1),(1,1),(2,1)]:=⟨ac⟩
instance:Xn prog 64 (.agg #[(.int .i64 0),(.int .i64 0),(.int .i64 0)]):=⟨ac⟩
instance:Xv prog 68 11:=⟨ac⟩
instance:Xj prog 68 0 0:=⟨ac⟩
instance:Xj prog 68 1 1:=⟨ac⟩
instance:Xj prog 68 3 3:=⟨ac⟩
instance:Xj prog 68 4 4:=⟨ac⟩
instance:Xj prog 68 5 5:=⟨ac⟩
instance:Xj prog 68 6 6:=⟨ac⟩
instance:Xj prog 68 7 7:=⟨ac⟩
instance:Xj prog 68 9 9:=⟨ac⟩
instance:Xj prog 68 10 10:=⟨ac⟩
instance:Ei prog 68 [(0,1),(1,1),(2,1),(3,1),(4,1),(5,1),(6,1),(7,1),(8,1),(9,1),(10,1)]:=⟨ac⟩
instance:Xn prog 68 (.agg #[(.string ⟨#[]⟩),(.string ⟨#[]⟩),(.int .i64 0),(.int .i64 0),(.int .i64 0),(.string ⟨#[]⟩),(.slice none 0 0),(.string ⟨#[]⟩),(.int .i64 0),(.slice none 0 0),(.bool false)]):=⟨ac⟩
instance:Xw prog 91:=⟨ac⟩
instance:X7 prog 91 68 11 152:=⟨ac⟩
instance:Xv prog 112 5:=⟨ac⟩
instance:Xj prog 112 0 0:=⟨ac⟩
instance:Xj prog 112 1 1:=⟨ac⟩
instance:Xj prog 112 2 2:=⟨ac⟩
instance:Xn prog 112 (.agg #[(.int .i64 0),(.int .i64 0),(.string ⟨#[]⟩),(.string ⟨#[]⟩),(.string ⟨#[]⟩)]):=⟨ac⟩
instance:Xw prog 117:=⟨ac⟩
instance:Xv prog 119 4:=⟨ac⟩
instance:Xj prog 119 0 0:=⟨ac⟩
instance:Xj prog 119 1 1:=⟨ac⟩
instance:Xj prog 119 2 2:=⟨ac⟩
instance:Xj prog 119 3 3:=⟨ac⟩
instance:Ei prog 119 [(0,1),(1,1),(2,1),(3,1)]:=⟨ac⟩
instance:Xn prog 119 (.agg #[(.map none),(.map none),(.map none),(.map none)]):=⟨ac⟩
instance:Xw prog 122:=⟨ac⟩
instance:Xw prog 123:=⟨ac⟩
instance:Xw prog 124:=⟨ac⟩
instance:Xj prog 126 0 0:=⟨ac⟩
instance:Xj prog 126 1 2:=⟨ac⟩
instance:Xj prog 126 2 8:=⟨ac⟩
instance:Xj prog 126 3 9:=⟨ac⟩
instance:Xj prog 126 4 10:=⟨ac⟩
instance:Xj prog 126 5 19:=⟨ac⟩
instance:Ei prog 126 [(0,2),(2,6),(8,1),(9,1),(10,9),(19,1)]:=⟨ac⟩
instance:Xn prog 126 (.agg #[(.slice none 0 0),(.slice none 0 0),(.string ⟨#[]⟩),(.slice none 0 0),(.slice none 0 0),(.string ⟨#[]⟩),(.int .i64 0),(.bool false),(.map none),(.map none),(.string ⟨#[]⟩),(.int .i64 0),(.string ⟨#[]⟩),(.int .i64 0),(.int .i64 0),(.int .i64 0),(.int .i64 0),(.int .i64 0),(.int .i64 0),(.bool false)]):=⟨ac⟩
instance:Xv prog 129 2:=⟨ac⟩
instance:Ei prog 129 [(0,1),(1,1)]:=⟨ac⟩
instance:Xn prog 129 (.agg #[(.int .i64 0),(.string ⟨#[]⟩)]):=⟨ac⟩
instance:Xj prog 133 1 1:=⟨ac⟩
instance:Ei prog 133 [(0,1),(1,1),(2,1)]:=⟨ac⟩
instance:Xn prog 133 (.agg #[(.int .i64 0),(.int .i64 0),(.int .i64 0)]):=⟨ac⟩
instance:Xw prog 140:=⟨ac⟩
instance:Xt prog 156 .u64:=⟨ac⟩
instance:Xw prog 158:=⟨ac⟩
instance:X7 prog 158 5 1 1:=⟨ac⟩
instance:Xj prog 160 0 0:=⟨ac⟩
instance:Xn prog 160 (.agg #[(.slice none 0 0)]):=⟨ac⟩
instance:Xw prog 162:=⟨ac⟩
instance:Xv prog 164 4:=⟨ac⟩
instance:Xj prog 164 0 0:=⟨ac⟩
instance:Xj prog 164 1 1:=⟨ac⟩
instance:Xj prog 164 2 2:=⟨ac⟩
instance:Ei prog 164 [(0,1),(1,1),(2,2)]:=⟨ac⟩
instance:Xn prog 164 (.agg #[(.string ⟨#[]⟩),.nilFunc,(.int .i64 0),(.int .i64 0)]):=⟨ac⟩
instance:Xw prog 167:=⟨ac⟩
instance:Xt prog 167 .u32:=⟨ac⟩
instance:Xn prog 167 (.int .u32 0):=⟨ac⟩
instance:Xv prog 168 8:=⟨ac⟩
instance:Xn prog 168 (.agg #[(.int .u32 0),(.int .u32 0),(.int .u32 0),(.int .u32 0),(.int .u32 0),(.int .u32 0),(.int .u32 0),(.int .u32 0)]):=⟨ac⟩
instance:Xw prog 176:=⟨ac⟩
instance:Xj prog 178 0 0:=⟨ac⟩
instance:Xj prog 178 1 6:=⟨ac⟩
instance:Xj prog 178 2 7:=⟨ac⟩
instance:Xj prog 178 3 8:=⟨ac⟩
instance:Ei prog 178 [(0,6),(6,1),(7,1),(8,1)]:=⟨ac⟩
instance:Xn prog 178 (.agg #[(.string ⟨#[]⟩),(.slice none 0 0),(.slice none 0 0),(.string ⟨#[]⟩),(.int .i64 0),(.bool false),(.slice none 0 0),(.map none),(.map none)]):=⟨ac⟩
instance:Xv prog 199 2:=⟨ac⟩
instance:Xj prog 199 0 0:=⟨ac⟩
instance:Xj prog 199 1 1:=⟨ac⟩
instance:Ei prog 199 [(0,1),(1,1)]:=⟨ac⟩
instance:Xn prog 199 (.agg #[(.int .i64 0),.nilFunc]):=⟨ac⟩
instance:Xt prog 218 .u64:=⟨ac⟩
instance:X7 prog 219 167 1 4:=⟨ac⟩
instance:Xv prog 234 64:=⟨ac⟩
instance:Xn prog 234 (.agg #[(.int .u32 0),(.int .u32 0),(.int .u32 0),(.int .u32 0),(.int .u32 0),(.int .u32 0),(.int .u32 0),(.int .u32 0),(.int .u32 0),(.int .u32 0),(.int .u32 0),(.int .u32 0),(.int .u32 0),(.int .u32 0),(.int .u32 0),(.int .u32 0),(.int .u32 0),(.int .u32 0),(.int .u32 0),(.int .u32 0),(.int .u32 0),(.int .u32 0),(.int .u32 0),(.int .u32 0),(.int .u32 0),(.int .u32 0),(.int .u32 0),(.int .u32 0),(.int .u32 0),(.int .u32 0),(.int .u32 0),(.int .u32 0),(.int .u32 0),(.int .u32 0),(.int .u32 0),(.int .u32 0),(.int .u32 0),(.int .u32 0),(.int .u32 0),(.int .u32 0),(.int .u32 0),(.int .u32 0),(.int .u32 0),(.int .u32 0),(.int .u32 0),(.int .u32 0),(.int .u32 0),(.int .u32 0),(.int .u32 0),(.int .u32 0),(.int .u32 0),(.int .u32 0),(.int .u32 0),(.int .u32 0),(.int .u32 0),(.int .u32 0),(.int .u32 0),(.int .u32 0),(.int .u32 0),(.int .u32 0),(.int .u32 0),(.int .u32 0),(.int .u32 0),(.int .u32 0)]):=⟨ac⟩
instance:X7 prog 240 243 22 288:=⟨ac⟩
instance:Xv prog 243 22:=⟨ac⟩
instance:Xj prog 243 0 0:=⟨ac⟩
instance:Xj prog 243 1 1:=⟨ac⟩
instance:Xj prog 243 2 2:=⟨ac⟩
instance:Ei prog 243 [(0,1),(1,1),(2,20)]:=⟨ac⟩
instance:Xn prog 243 (.agg #[(.int .i64 0),(.string ⟨#[]⟩),(.string ⟨#[]⟩),(.int .i64 0),(.string ⟨#[]⟩),(.int .i64 0),(.int .i64 0),(.string ⟨#[]⟩),(.string ⟨#[]⟩),(.int .i64 0),(.string ⟨#[]⟩),(.slice none 0 0),(.string ⟨#[]⟩),(.string ⟨#[]⟩),(.string ⟨#[]⟩),(.string ⟨#[]⟩),(.int .i64 0),(.slice none 0 0),(.int .i64 0),(.int .i64 0),(.int .i64 0),(.int .i64 0)]):=⟨ac⟩
instance:X7 prog 247 54 9 88:=⟨ac⟩
instance:X7 prog 301 304 11 112:=⟨ac⟩
instance:Xv prog 304 11:=⟨ac⟩
instance:Xj prog 304 0 0:=⟨ac⟩
instance:Xj prog 304 1 1:=⟨ac⟩
instance:Xj prog 304 2 2:=⟨ac⟩
instance:Ei prog 304 [(0,1),(1,1),(2,9)]:=⟨ac⟩
instance:Xn prog 304 (.agg #[(.int .i64 0),(.string ⟨#[]⟩),(.string ⟨#[]⟩),(.int .i64 0),(.string ⟨#[]⟩),(.int .i64 0),(.int .i64 0),(.int .i64 0),(.int .i64 0),(.int .i64 0),(.int .i64 0)]):=⟨ac⟩
instance:X7 prog 307 56 7 72:=⟨ac⟩
instance:X7 prog 326 329 9 96:=⟨ac⟩
instance:Xv prog 329 9:=⟨ac⟩
instance:Xj prog 329 0 0:=⟨ac⟩
instance:Xj prog 329 1 1:=⟨ac⟩
instance:Xj prog 329 2 2:=⟨ac⟩
instance:Ei prog 329 [(0,1),(1,1),(2,7)]:=⟨ac⟩
instance:Xn prog 329 (.agg #[(.int .i64 0),(.string ⟨#[]⟩),(.int .i64 0),(.string ⟨#[]⟩),(.int .i64 0),(.string ⟨#[]⟩),(.int .i64 0),(.int .i64 0),(.int .i64 0)]):=⟨ac⟩
instance:Xc prog 10:=⟨ac⟩
instance:Xc prog 11:=⟨ac⟩
instance:Xc prog 12:=⟨ac⟩
instance:Xc prog 17:=⟨ac⟩
instance:Xc prog 18:=⟨ac⟩
instance:Xc prog 19:=⟨ac⟩
instance:Xc prog 20:=⟨ac⟩
instance:Xc prog 21:=⟨ac⟩
instance:Xc prog 22:=⟨ac⟩
instance:Xc prog 23:=⟨ac⟩
instance:Xc prog 24:=⟨ac⟩
instance:Xc prog 25:=⟨ac⟩
instance:Xc prog 27:=⟨ac⟩
instance:Xc prog 42:=⟨ac⟩
instance:Xc prog 46:=⟨ac⟩
instance:Xc prog 47:=⟨ac⟩
instance:Xc prog 48:=⟨ac⟩
instance:Xc prog 49:=⟨ac⟩
instance:Xc prog 50:=⟨ac⟩
instance:Xc prog 51:=⟨ac⟩
instance:Xc prog 53:=⟨ac⟩
instance:Xc prog 54:=⟨ac⟩
instance:Xc prog 55:=⟨ac⟩
instance:Xc prog 56:=⟨ac⟩
instance:Xc prog 57:=⟨ac⟩
instance:Xc prog 58:=⟨ac⟩
instance:Xc prog 59:=⟨ac⟩
instance:Xc prog 60:=⟨ac⟩
instance:Xc prog 62:=⟨ac⟩
instance:Xc prog 63:=⟨ac⟩
instance:Xc prog 64:=⟨ac⟩
instance:Xc prog 65:=⟨ac⟩
instance:Xc prog 66:=⟨ac⟩
instance:Xc prog 67:=⟨ac⟩
instance:Xc prog 68:=⟨ac⟩
instance:Xc prog 70:=⟨ac⟩
instance:Xc prog 73:=⟨ac⟩
instance:Xc prog 75:=⟨ac⟩
instance:Xc prog 78:=⟨ac⟩
instance:Xc prog 82:=⟨ac⟩
instance:Xc prog 83:=⟨ac⟩
instance:Xc prog 84:=⟨ac⟩
instance:Xc prog 86:=⟨ac⟩
instance:Xc prog 87:=⟨ac⟩
instance:Xc prog 88:=⟨ac⟩
instance:Xc prog 89:=⟨ac⟩
instance:Xc prog 90:=⟨ac⟩
instance:Xc prog 91:=⟨ac⟩
instance:Xc prog 96:=⟨ac⟩
instance:Xc prog 97:=⟨ac⟩
instance:Xc prog 98:=⟨ac⟩
instance:Xc prog 99:=⟨ac⟩
instance:Xc prog 100:=⟨ac⟩
instance:Xc prog 101:=⟨ac⟩
instance:Xc prog 102:=⟨ac⟩
instance:Xc prog 103:=⟨ac⟩
instance:Xc prog 104:=⟨ac⟩
instance:Xc prog 105:=⟨ac⟩
instance:Xc prog 106:=⟨ac⟩
instance:Xc prog 107:=⟨ac⟩
instance:Xc prog 108:=⟨ac⟩
instance:Xc prog 109:=⟨ac⟩
instance:Xc prog 110:=⟨ac⟩
instance:Xc prog 111:=⟨ac⟩
instance:Xc prog 112:=⟨ac⟩
instance:Xc prog 113:=⟨ac⟩
instance:Xc prog 114:=⟨ac⟩
instance:Xc prog 115:=⟨ac⟩
instance:Xc prog 116:=⟨ac⟩
instance:Xc prog 117:=⟨ac⟩
instance:Xc prog 118:=⟨ac⟩
instance:Xc prog 119:=⟨ac⟩
instance:Xc prog 122:=⟨ac⟩
instance:Xc prog 123:=⟨ac⟩
instance:Xc prog 124:=⟨ac⟩
instance:Xc prog 125:=⟨ac⟩
instance:Xc prog 126:=⟨ac⟩
instance:Xc prog 127:=⟨ac⟩
instance:Xc prog 128:=⟨ac⟩
instance:Xc prog 129:=⟨ac⟩
instance:Xc prog 130:=⟨ac⟩
instance:Xc prog 131:=⟨ac⟩
instance:Xc prog 134:=⟨ac⟩
instance:Xc prog 135:=⟨ac⟩
instance:Xc prog 136:=⟨ac⟩
instance:Xc prog 139:=⟨ac⟩
instance:Xc prog 140:=⟨ac⟩
instance:Xc prog 141:=⟨ac⟩
instance:Xc prog 142:=⟨ac⟩
instance:Xc prog 144:=⟨ac⟩
instance:Xc prog 145:=⟨ac⟩
instance:Xc prog 146:=⟨ac⟩
instance:Xc prog 147:=⟨ac⟩
instance:Xc prog 148:=⟨ac⟩
instance:Xc prog 149:=⟨ac⟩
instance:Xc prog 150:=⟨ac⟩
instance:Xc prog 151:=⟨ac⟩
instance:Xc prog 152:=⟨ac⟩
instance:Xc prog 153:=⟨ac⟩
instance:Xc prog 154:=⟨ac⟩
instance:Xc prog 155:=⟨ac⟩
instance:Xc prog 156:=⟨ac⟩
instance:Xc prog 157:=⟨ac⟩
instance:Xc prog 158:=⟨ac⟩
instance:Xc prog 159:=⟨ac⟩
instance:Xc prog 160:=⟨ac⟩
instance:Xc prog 161:=⟨ac⟩
instance:Xc prog 172:=⟨ac⟩
instance:Xc prog 174:=⟨ac⟩
instance:Xc prog 175:=⟨ac⟩
instance:Xc prog 176:=⟨ac⟩
instance:Xc prog 177:=⟨ac⟩
instance:Xc prog 178:=⟨ac⟩
instance:Xc prog 180:=⟨ac⟩
instance:Xc prog 181:=⟨ac⟩
instance:Xc prog 182:=⟨ac⟩
instance:Xc prog 183:=⟨ac⟩
instance:Xc prog 184:=⟨ac⟩
instance:Xc prog 185:=⟨ac⟩
instance:Xc prog 186:=⟨ac⟩
instance:Xc prog 187:=⟨ac⟩
instance:Xc prog 188:=⟨ac⟩
instance:Xc prog 189:=⟨ac⟩
instance:Xc prog 190:=⟨ac⟩
instance:Xc prog 191:=⟨ac⟩
instance:Xc prog 192:=⟨ac⟩
instance:Xc prog 194:=⟨ac⟩
instance:Xc prog 195:=⟨ac⟩
instance:Xc prog 196:=⟨ac⟩
instance:Xc prog 197:=⟨ac⟩
instance:Xc prog 198:=⟨ac⟩
instance:Xc prog 199:=⟨ac⟩
instance:Xc prog 200:=⟨ac⟩
instance:Xc prog 201:=⟨ac⟩
instance:Xc prog 202:=⟨ac⟩
instance:Xc prog 203:=⟨ac⟩
instance:Xc prog 204:=⟨ac⟩
instance:Xc prog 205:=⟨ac⟩
instance:Xc prog 206:=⟨ac⟩
instance:Xc prog 207:=⟨ac⟩
instance:Xc prog 208:=⟨ac⟩
instance:Xc prog 209:=⟨ac⟩
instance:Xc prog 210:=⟨ac⟩
instance:Xc prog 211:=⟨ac⟩
instance:Xc prog 212:=⟨ac⟩
instance:Xc prog 213:=⟨ac⟩
instance:Xc prog 214:=⟨ac⟩
instance:Xc prog 215:=⟨ac⟩
instance:Xc prog 216:=⟨ac⟩
instance:Xc prog 217:=⟨ac⟩
instance:Xc prog 218:=⟨ac⟩
instance:Xc prog 219:=⟨ac⟩
instance:Xc prog 220:=⟨ac⟩
instance:Xc prog 221:=⟨ac⟩
instance:Xc prog 222:=⟨ac⟩
instance:Xc prog 223:=⟨ac⟩
instance:Xc prog 224:=⟨ac⟩
instance:Xc prog 226:=⟨ac⟩
instance:Xc prog 227:=⟨ac⟩
instance:Xc prog 228:=⟨ac⟩
instance:Xc prog 229:=⟨ac⟩
instance:Xc prog 230:=⟨ac⟩
instance:Xc prog 231:=⟨ac⟩
instance:Xc prog 232:=⟨ac⟩
instance:Xc prog 233:=⟨ac⟩
instance:Xc prog 234:=⟨ac⟩
instance:Xc prog 235:=⟨ac⟩
instance:Xc prog 236:=⟨ac⟩
instance:Xc prog 237:=⟨ac⟩
instance:Xc prog 238:=⟨ac⟩
instance:Xc prog 239:=⟨ac⟩
instance:Xc prog 240:=⟨ac⟩
instance:Xc prog 241:=⟨ac⟩
instance:Xc prog 242:=⟨ac⟩
instance:Xc prog 248:=⟨ac⟩
instance:Xc prog 249:=⟨ac⟩
instance:Xc prog 250:=⟨ac⟩
instance:Xc prog 251:=⟨ac⟩
instance:Xc prog 252:=⟨ac⟩
instance:Xc prog 253:=⟨ac⟩
instance:Xc prog 254:=⟨ac⟩
instance:Xc prog 255:=⟨ac⟩
instance:Xc prog 256:=⟨ac⟩
instance:Xc prog 258:=⟨ac⟩
instance:Xc prog 259:=⟨ac⟩
instance:Xc prog 260:=⟨ac⟩
instance:Xc prog 261:=⟨ac⟩
instance:Xc prog 262:=⟨ac⟩
instance:Xc prog 266:=⟨ac⟩
instance:Xc prog 267:=⟨ac⟩
instance:Xc prog 268:=⟨ac⟩
instance:Xc prog 269:=⟨ac⟩
instance:Xc prog 270:=⟨ac⟩
instance:Xc prog 271:=⟨ac⟩
instance:Xc prog 272:=⟨ac⟩
instance:Xc prog 273:=⟨ac⟩
instance:Xc prog 274:=⟨ac⟩
instance:Xc prog 275:=⟨ac⟩
instance:Xc prog 276:=⟨ac⟩
instance:Xc prog 277:=⟨ac⟩
instance:Xc prog 278:=⟨ac⟩
instance:Xc prog 279:=⟨ac⟩
instance:Xc prog 280:=⟨ac⟩
instance:Xc prog 282:=⟨ac⟩
instance:Xc prog 283:=⟨ac⟩
instance:Xc prog 284:=⟨ac⟩
instance:Xc prog 285:=⟨ac⟩
instance:Xc prog 286:=⟨ac⟩
instance:Xc prog 287:=⟨ac⟩
instance:Xc prog 291:=⟨ac⟩
instance:Xc prog 292:=⟨ac⟩
instance:Xc prog 293:=⟨ac⟩
instance:Xc prog 294:=⟨ac⟩
instance:Xc prog 295:=⟨ac⟩
instance:Xc prog 296:=⟨ac⟩
instance:Xc prog 297:=⟨ac⟩
instance:Xc prog 298:=⟨ac⟩
instance:Xc prog 310:=⟨ac⟩
instance:Xc prog 311:=⟨ac⟩
instance:Xc prog 312:=⟨ac⟩
instance:Xc prog 313:=⟨ac⟩
instance:Xc prog 314:=⟨ac⟩
instance:Xc prog 315:=⟨ac⟩
instance:Xc prog 319:=⟨ac⟩
instance:Xc prog 320:=⟨ac⟩
instance:Xc prog 322:=⟨ac⟩
instance:Xc prog 323:=⟨ac⟩
instance:Xc prog 324:=⟨ac⟩
instance:Xc prog 325:=⟨ac⟩
instance:Xc prog 326:=⟨ac⟩
end Go.Proofs.YtaolfiikahlmkaaGreatDoor.Sy
namespace Go.Proofs.YtaolfiikahlmkaaGreatDoor
open Go Go.Proofs Sy
def strs (l:List ByteArray):List (List Value):=l.map fun s=>[.string s]
def Strs (w:World) (s:Xl) (l:List ByteArray):Prop:=Xf w 1 s (strs l)
theorem Strs.at_ {w:World} {s:Xl} {l:List ByteArray} (h:Strs w s l) {i:Nat} {x:ByteArray} (hx:l[i]?=some x):CellAt w s.p i (.string x):=by
 have:=(Xf.row h i [.string x] (by simp [strs,hx])).2.2 0 (.string x) rfl
 simpa using this
theorem Strs.len_ {w:World} {s:Xl} {l:List ByteArray} (h:Strs w s l):s.n=l.length:=by have:=Xf.len h;simpa [strs] using this
theorem Strs.some_ {w:World} {s:Xl} {l:List ByteArray} (h:Strs w s l) (hl:0<l.length):s.p.isSome=true:=by
 have hx:l[0]?=some l[0]:=Zb hl
 exact (Xf.row h 0 [.string l[0]] (by simp [strs,hx])).2.1
theorem Strs.get {w:World} {s:Xl} {l:List ByteArray} (h:Strs w s l) {i:Nat} (hi:i<l.length):CellAt w s.p i (.string (l.getD i .empty)):=h.at_ (by simp [hi])
structure Xo where
 nonce:ByteArray
 data:ByteArray
 tag:ByteArray
structure Xy where
 to:Int
 eph:Int
 box:Xo
structure Xa where
 author:ByteArray
 seq:Int
 prev:ByteArray
 kind:Int
 time:Int
 object:ByteArray
 target:ByteArray
 scope:Int
 group:ByteArray
 to:Xl
 text:ByteArray
 body:Xo
 epoch:Int
 wraps:Xl
 n:Int
 m:Int
 e:Int
 s:Int
 toL:List ByteArray
 wrapsL:List Xy
def Xo.cells (b:Xo):List Value:=[.string b.nonce,.string b.data,.string b.tag]
def Xo.v (b:Xo):Value:=.agg b.cells.toArray
theorem Xo.v_cells (b:Xo):b.v.cells.toList=b.cells:=rfl
def Xo.zero:Xo:=⟨⟨#[]⟩,⟨#[]⟩,⟨#[]⟩⟩
def Xy.cells (w:Xy):List Value:=[.int .i64 w.to,.int .i64 w.eph,.string w.box.nonce,.string w.box.data,.string w.box.tag]
theorem Xy.cells_box (w:Xy):(w.cells.drop 2).take 3=w.box.cells:=rfl
def Xa.cells (a:Xa):List Value:=[.string a.author,.int .i64 a.seq,.string a.prev,.int .i64 a.kind,.int .i64 a.time,.string a.object,.string a.target,.int .i64 a.scope,.string a.group,a.to.v,
 .string a.text,.string a.body.nonce,.string a.body.data,.string a.body.tag,.int .i64 a.epoch,a.wraps.v,.int .i64 a.n,.int .i64 a.m,.int .i64 a.e,.int .i64 a.s]
def Xa.v (a:Xa):Value:=.agg a.cells.toArray
theorem Xa.v_cells (a:Xa):a.v.cells.toList=a.cells:=rfl
theorem Xa.cells_body (a:Xa):(a.cells.drop 11).take 3=a.body.cells:=rfl
def Wraps (w:World) (s:Xl) (l:List Xy):Prop:=Xf w 5 s (l.map Xy.cells)
theorem Wraps.len_ {w:World} {s:Xl} {l:List Xy} (h:Wraps w s l):s.n=l.length:=by have:=Xf.len h;simpa using this
theorem Wraps.some_ {w:World} {s:Xl} {l:List Xy} (h:Wraps w s l) (hl:0<l.length):s.p.isSome=true:=by
 have hx:l[0]?=some l[0]:=Zb hl
 exact (Xf.row h 0 l[0].cells (by simp [hx])).2.1
theorem Wraps.get {w:World} {s:Xl} {l:List Xy} (h:Wraps w s l) {i:Nat} {x:Xy} (hx:l[i]?=some x):x.cells.length=5∧s.p.isSome=true∧∀ j u,x.cells[j]?=some u→CellAt w s.p (i*5+j) u :=
 Xf.row h i x.cells (by simp [hx])
def Xa.at_ (w:World) (a:Xa):Prop:=Strs w a.to a.toL∧Wraps w a.wraps a.wrapsL
end Go.Proofs.YtaolfiikahlmkaaGreatDoor
