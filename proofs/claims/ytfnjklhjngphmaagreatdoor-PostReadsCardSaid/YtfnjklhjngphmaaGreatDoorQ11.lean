/- Joined by program out of: Vi Sv Vj Uz Ne Nl Io Jf Nv Na Jt. -/
import Derived.Test.YtfnjklhjngphmaaGreatDoorQ10
set_option linter.unusedVariables false
set_option linter.unusedSimpArgs false
namespace Go.Proofs.YtfnjklhjngphmaaGreatDoor
open Go Go.Proofs Sy
def SomeInts (m:Nat) (u:Value) (X:World→Prop):Prop:=∃ (s:SlV) (L:List Int),u=s.v∧L.length≤m∧∀ w,X w→Ints w s L
structure EdI (m:Nat) where
 k:Nat
 hk:k≤m
 L:List Int
 hL:L.length≤k
 A:Option Addr
 c:Nat
 xs:List Value
 hxs:xs=L.map intV
 n:Nat
 hn:n=L.length
set_option maxHeartbeats 16000000 in
theorem rp (c:ChainD) (sl:SlV) (ds:List ByteArray) (hd:ds.length=c.actsL.length) (hl:c.actsL.length≤1000000) (i:Nat) (hi:i<c.actsL.length) :
  Mk Tryz.prog 215 #[c.v,sl.v,.int .i64 (i:Nat)] (DgX c sl ds) (SomeInts c.actsL.length):=by
 refine bL (args:=[_,_,_]) _ Tryz.func215 rfl Tryz.ntmps215 rfl fun av bor w0=>?_
 refine bt (fun w h=>DgX.know h) fun ⟨⟨hn,hm,hp⟩,hsn,hsm,hsp⟩=>?_
 have hp':=hp ag
 obtain ⟨a,ha⟩:∃ a,c.actsL[i]?=some a:=⟨_,List.getElem?_eq_getElem hi⟩
 have ham:=List.mem_of_getElem? ha
 refine cf 3 1 ?_
 repeat' (first|apply ab|apply aj|apply ai|refine ae ?_|refine ac ?_|refine aM ?_|refine aL ?_|refine aP fun _=>?_|refine aT fun _=>?_|refine aK ?_|apply aw|(refine bf (q:=i*20) ?_)|(refine bD (cs:=a.cells) (hF:=fun w h=>Acts.get h.c ha) ?_)|fail)
 rename_i b3 b8
 refine be (ι:=EdI c.actsL.length) (fun i'=>⟨[(1,sl.v),(2,.int .i64 (i:Nat)),(3,.pointer (some ⟨b3,0,none⟩)),(7,.slice i'.A i'.n i'.c),(8,.pointer (some ⟨b8,0,none⟩)),(9,.int .i64 (i'.k:Nat))],[cel b8 46 a.cells,cel b3 31 c.cells,orow 3 1 (.slice i'.A i'.n i'.c) i'.n i'.xs],DgX c sl ds⟩) (fun i'=>c.actsL.length-i'.k) ⟨0,Nat.zero_le _,[],Nat.zero_le _,none,0,[],rfl,0,rfl⟩ (aF ⟨rfl,rfl,rfl,rfl,rfl,rfl,trivial⟩ (aQ _) fun _ h=>h) fun i'=>?_
 obtain ⟨k,hk,L,hL,A,cp,xs,hxs,n,hnL⟩:=i'
 simp only
 by_cases hlt:k<c.actsL.length
 · obtain ⟨b,hb⟩:∃ b,c.actsL[k]?=some b:=⟨_,List.getElem?_eq_getElem hlt⟩
   have hbm:=List.mem_of_getElem? hb
   have hsa:=xl a.to b.to a.toL b.toL
   have hre:=mK c sl ds hd i k hi hlt
   have hde:=lX c sl ds hd i k hi ag
   repeat' (first|apply aj|fail)
   apply ai
   repeat' (first|(refine ax (bK true rfl rfl (decide_eq_true ag)) rfl aR rfl ?_)|apply ab|apply aj|refine ae ?_|refine aM ?_|refine aL ?_|refine bg ?_|refine aE ?_|apply ay|apply aw|fail)
   apply ai
   repeat' (first|apply ab|apply aj|refine ae ?_|refine aM ?_|refine aL ?_|refine aP fun _=>?_|refine aK ?_|(refine bf (q:=k*20) ?_)|(refine bD (cs:=b.cells) (hF:=fun w h=>Acts.get h.c hb) ?_)|fail)
   rename_i b10
   refine ez (ι:=Bool) (fun v=>⟨[(1,sl.v),(2,.int .i64 (i:Nat)),(3,.pointer (some ⟨b3,0,none⟩)),(7,.slice A n cp),(8,.pointer (some ⟨b8,0,none⟩)),(9,.int .i64 (k:Nat)),(10,.pointer (some ⟨b10,0,none⟩)),(11,.bool v)],[cel b10 46 b.cells,cel b8 46 a.cells,cel b3 31 c.cells,orow 3 1 (.slice A n cp) n xs],DgX c sl ds⟩) ?_ fun v=>?_
   · apply ai
     repeat' (first|apply ab|refine ae ?_|refine ac ?_|refine aM ?_|refine aL ?_|refine aJ ?_|refine aH ?_|refine bR ?_|refine co ?_|refine aW ?_|(refine aC (hc:=hsa) (hX:=fun w h=>⟨(h.c.2 a ham).1,(h.c.2 b hbm).1⟩) ?_)|((fail_if_success (refine bA ?_));refine bj (ht:=?_) (hf:=?_);all_goals (intro hx_;first|have:=aY hx_|have:=aZ hx_|skip))|fail)
     all_goals exact ⟨_,aF ⟨rfl,rfl,rfl,rfl,rfl,rfl,rfl,rfl,trivial⟩ (aQ _) fun _ h=>h⟩
   apply aj
   refine ez (ι:=Bool) (fun u=>⟨[(1,sl.v),(2,.int .i64 (i:Nat)),(3,.pointer (some ⟨b3,0,none⟩)),(7,.slice A n cp),(8,.pointer (some ⟨b8,0,none⟩)),(9,.int .i64 (k:Nat)),(10,.pointer (some ⟨b10,0,none⟩)),(68,.bool u)],[cel b10 46 b.cells,cel b8 46 a.cells,cel b3 31 c.cells,orow 3 1 (.slice A n cp) n xs],DgX c sl ds⟩) ?_ fun u=>?_
   · apply ai
     repeat' (first|apply ab|refine ae ?_|refine aM ?_|refine aL ?_|refine aG ?_|refine aJ ?_|refine aH ?_|refine bE ?_|refine bR ?_|refine aW ?_|(refine bN (hc:=hre) (hX:=fun w h=>h) fun v X' h'=>?_;obtain ⟨rb,rfl⟩:=h')|(refine bN (hc:=hde) (hX:=fun w h=>h.1) fun v X' h'=>?_;obtain ⟨db,rfl⟩:=h')|((fail_if_success (refine bA ?_));refine bj (ht:=?_) (hf:=?_);all_goals (intro hx_;first|have:=aY hx_|have:=aZ hx_|skip))|fail)
     all_goals first
      | exact ⟨_,aF ⟨rfl,rfl,rfl,rfl,rfl,rfl,rfl,rfl,trivial⟩ (aQ _) fun _ h=>h⟩
      | exact ⟨_,aF ⟨rfl,rfl,rfl,rfl,rfl,rfl,rfl,rfl,trivial⟩ (aQ _) fun _ h=>h.1⟩
      | exact ⟨_,aF ⟨rfl,rfl,rfl,rfl,rfl,rfl,rfl,rfl,trivial⟩ (aQ _) fun _ h=>h.1.1⟩
   cases u with
   | true =>
    repeat' (first|apply ab|apply ai|refine ae ?_|refine ac ?_|refine bm (h:=?_)|refine ca fun _=>?_|refine aE ?_|(refine aS (size:=1) (news:=[intV (k:Nat)]) (q:=1) rfl rfl rfl rfl (fun _=>At.there _ (At.there _ (At.there _ (At.there _ (At.here _))))) (fun w G=>bq G aU rfl rfl 1) ag (by simp only [maxLen];omega) rfl ?_ rfl ?_;(with_reducible rfl);intro A2 c2)|fail)
    all_goals first
     | exact ⟨(⟨k+1,hlt,L++[((k:Nat):Int)],by rw [List.length_append,List.length_singleton];omega,A2,c2,xs++[intV (k:Nat)],by rw [hxs,List.map_append];rfl,n+1,by rw [List.length_append,hnL];rfl⟩:EdI c.actsL.length),(by show c.actsL.length-(k+1)<c.actsL.length-k;omega),aF ⟨rfl,rfl,rfl,rfl,rfl,rfl,trivial⟩ (.cons _ (.cons _ (aQ _))) fun _ h=>h⟩
   | false =>
    repeat' (first|apply ab|apply ai|refine ae ?_|refine ac ?_|refine bm (h:=?_)|refine aD ?_|apply ay|fail)
    all_goals first
     | exact ⟨(⟨k+1,hlt,L,by omega,A,cp,xs,hxs,n,hnL⟩:EdI c.actsL.length),(by show c.actsL.length-(k+1)<c.actsL.length-k;omega),aF ⟨rfl,rfl,rfl,rfl,rfl,rfl,trivial⟩ (.cons _ (aQ _)) fun _ h=>h⟩
 · repeat' (first|refine ax (bK false rfl rfl (decide_eq_false ag)) rfl aR rfl ?_|apply ab|apply aj|apply ai|refine ae ?_|refine ac ?_|refine aM ?_|refine aL ?_|refine bg ?_|refine aD ?_|apply aA|apply aV|fail)
   subst hxs
   exact aq (aB rfl rfl) ⟨⟨A,n,cp⟩,L,rfl,by omega,fun w h=>dN (h.2 _ (.tail _ (.tail _ (.head _)))) hnL⟩
def OnePost (m:Nat) (u:Value) (X:World→Prop):Prop:=∃ p:PostZ,u=p.v∧p.edL.length≤m∧∀ w,X w→Ints w p.ed p.edL
set_option maxHeartbeats 16000000 in
theorem xK (c:ChainD) (sl:SlV) (ds:List ByteArray) (hd:ds.length=c.actsL.length) (hl:c.actsL.length≤1000000) (i:Nat) (hi:i<c.actsL.length) :
    Mk Tryz.prog 133 #[c.v,sl.v,.int .i64 (i:Nat)] (DgX c sl ds) (OnePost c.actsL.length):=by
  refine bL (args:=[_,_,_]) _ Tryz.func133 rfl Tryz.ntmps133 rfl fun av bor w0=>?_
  refine bt (fun w h=>DgX.know h) fun ⟨⟨hn,hm,hp⟩,hsn,hsm,hsp⟩=>?_
  have hp':=hp ag
  have hsp':=hsp ag
  obtain ⟨a,ha⟩:∃ a,c.actsL[i]?=some a:=⟨_,List.getElem?_eq_getElem hi⟩
  obtain ⟨x,hx⟩:∃ x,ds[i]?=some x:=⟨_,List.getElem?_eq_getElem ag⟩
  have hed:=rp c sl ds hd hl i hi
  have hde:=lX c sl ds hd i c.actsL.length hi (Nat.le_refl _)
  rw [←hn] at hde
  repeat' (first|apply ab|apply aj|apply ai|refine ae ?_|refine aM ?_|refine aL ?_|refine aP fun _=>?_|refine aT fun _=>?_|refine aK ?_|(refine bf (q:=i*20) ?_)|(refine bD (cs:=a.cells) (hF:=fun w h=>Acts.get h.c ha) ?_)|fail)
  rename_i b3 b6 b7
  (refine bo [cel b7 46 a.cells,cel b3 31 c.cells] (DgX c sl ds) ar ?_)
  all_goals refine aa 0 ?_
  all_goals refine aa 1 ?_
  all_goals (refine aa 2 (hy:=by (apply bp (q:=i);rfl;rfl;omega;omega;assumption;omega)) ?_)
  all_goals (refine aa 3 (hy:=by (apply cC (q:=i) (u:=.string x);rfl;exact fun w h=>h.d.at_ hx)) ?_)
  all_goals refine aa 4 ?_
  all_goals refine aa 5 ?_
  all_goals refine aa 6 ?_
  all_goals refine aa 7 ?_
  all_goals refine aa 8 ?_
  all_goals refine aa 9 ?_
  all_goals refine aa 10 ?_
  all_goals refine aa 11 ?_
  all_goals refine aa 12 ?_
  all_goals refine aa 13 ?_
  all_goals refine aa 14 ?_
  all_goals refine aa 15 ?_
  all_goals refine aa 16 ?_
  all_goals refine aa 17 ?_
  all_goals refine aa 18 ?_
  all_goals refine aa 19 ?_
  all_goals refine aa 20 ?_
  all_goals refine aa 21 ?_
  all_goals refine aa 23 ?_
  all_goals refine aa 24 ?_
  all_goals refine aa 25 ?_
  all_goals refine aa 26 ?_
  all_goals refine aa 27 ?_
  all_goals refine aa 28 ?_
  all_goals (refine ao 22 ?_;(refine bN (hc:=hed) (hX:=fun w h=>h) fun v X1 h1=>?_;obtain ⟨se,Le,rfl,hLe,hwe⟩:=h1);apply ab;refine ak ?_)
  all_goals (refine ao 29 ?_;(refine bN (hc:=hde) (hX:=fun w h=>h.1) fun v X2 h2=>?_;obtain ⟨db,rfl⟩:=h2);apply ab;refine ak ?_)
  all_goals (refine aa 30 (hy:=by (apply cd (cs:=(⟨x,c.id,((i:Nat):Int),a.kind,a.scope,a.group,a.to,a.object,a.time,se,db,Le⟩:PostZ).cells);rfl;kernel_rfl)) ?_)
  all_goals (refine ao 31 ?_;(refine aK ?_);apply ab;refine ak ?_)
  all_goals (refine aI ?_)
  all_goals first
    | (repeat' (first|apply aA|fail)
       exact aq (bT rfl rfl bF (by rfl)) ⟨(⟨x,c.id,((i:Nat):Int),a.kind,a.scope,a.group,a.to,a.object,a.time,se,db,Le⟩:PostZ),rfl,hLe,fun w h=>hwe w h.1.1.2⟩)
end Go.Proofs.YtfnjklhjngphmaaGreatDoor
namespace Go.Proofs.YtfnjklhjngphmaaGreatDoor
open Go Go.Proofs Sy
section
variable {P:Program} {N:Nat} {av bor:List Nat} {w0:World} {st:St} {ty:TypeId} {x y:Operand} {t t2:TypeId} {k:IntKind}
theorem BX {a b:Int} [hI:TyInt P t k] (hx:ev st.env x=some (.int k a)) (hy:ev st.env y=some (.int k b)) (hab:b<a):Sy.Yields P N av bor w0 st (.binOp .gtr t x y t2) ty (.bool true):=by
 have h:=mo (P:=P) (N:=N) (av:=av) (bor:=bor) (w0:=w0) (st:=st) (ty:=ty) (t:=t) (t2:=t2) hx hy
 rwa [decide_eq_true hab] at h
theorem BY {a b:Int} [hI:TyInt P t k] (hx:ev st.env x=some (.int k a)) (hy:ev st.env y=some (.int k b)) (hab:¬ b<a):Sy.Yields P N av bor w0 st (.binOp .gtr t x y t2) ty (.bool false):=by
 have h:=mo (P:=P) (N:=N) (av:=av) (bor:=bor) (w0:=w0) (st:=st) (ty:=ty) (t:=t) (t2:=t2) hx hy
 rwa [decide_eq_false hab] at h
end
structure InsI (P:List PostD) (a b:Nat) where
 k:Nat
 h1:a+1≤k
 h2:k≤b∨k=a+1
 Q:List PostD
 hQ:Q.Perm P
structure InsJ (P:List PostD) (a k:Nat) where
 j:Nat
 h1:a≤j
 h2:j≤k
 Q:List PostD
 hQ:Q.Perm P
set_option maxHeartbeats 4000000 in
theorem iH (s:SlV) (P:List PostD) (a b:Nat) (hs:s.n=P.length) (hm:s.n≤1000000) (ha:a≤s.n) (hb:b≤s.n) :
  Ct Tryz.prog 269 #[s.v,.int .i64 (a:Nat),.int .i64 (b:Nat),cmpF] [postR s P] (fun _=>True) (PermAt s P):=by
 refine cB (args:=[_,_,_,_]) _ Tryz.func269 rfl Tryz.ntmps269 rfl fun av bor w0=>?_
 refine de (r:=postR s P) aU (p:=0<s.n→s.p.isSome=true) (fun w h hn=>cR h hn) fun hp=>?_
 repeat' (first|refine dF (q:=1) (hq:=by omega) ?_|apply ab|apply aj|apply ai|refine ae ?_|refine ac ?_|apply aw|fail)
 refine be (ι:=InsI P a b) (fun i=>⟨[(0,s.v),(1,.int .i64 (a:Nat)),(2,.int .i64 (b:Nat)),(3,cmpF),(8,.int .i64 (i.k:Nat))],[postR s i.Q],fun _=>True⟩) (fun i=>b-i.k) ⟨a+1,Nat.le_refl _,.inr rfl,P,List.Perm.refl _⟩ (aF ⟨rfl,rfl,rfl,rfl,rfl,trivial⟩ (aQ _) fun _ h=>h) fun i=>?_
 obtain ⟨k,h1,h2,Q,hQ⟩:=i
 simp only
 have hl:=hQ.length_eq
 repeat' (first|apply ab|apply aj|apply ai|refine ae ?_|refine ac ?_|refine bu ?_|apply ay|apply aw|apply aV|(refine aO (ht:=?_) (hf:=?_);all_goals (intro hx_;first|have:=aY hx_|have:=aZ hx_)))
 · have hkb:k<b:=by omega
   refine be (ι:=InsJ P a k) (fun i=>⟨[(0,s.v),(1,.int .i64 (a:Nat)),(2,.int .i64 (b:Nat)),(3,cmpF),(8,.int .i64 (k:Nat)),(9,.int .i64 (i.j:Nat))],[postR s i.Q],fun _=>True⟩) (fun i=>i.j) ⟨k,by omega,Nat.le_refl _,Q,hQ⟩ (aF ⟨rfl,rfl,rfl,rfl,rfl,rfl,trivial⟩ (aQ _) fun _ h=>h) fun i=>?_
   obtain ⟨j,h3,h4,Q2,hQ2⟩:=i
   simp only
   have hl2:=hQ2.length_eq
   have hp':=hp ag
   by_cases hja:a<j
   · obtain ⟨x,hx⟩:∃ x,Q2[j]?=some x:=⟨_,List.getElem?_eq_getElem ag⟩
     obtain ⟨y,hy⟩:∃ y,Q2[j-1]?=some y:=⟨_,List.getElem?_eq_getElem ag⟩
     have hcm:=ou x y
     generalize cmpB x.id y.id=z at *
     apply aj
     apply aj
     unfold cmpF
     (refine bo [] (fun _=>True) ar ?_)
     all_goals refine aa 0 ?_
     all_goals refine aa 1 ?_
     all_goals (refine aa 2 (hy:=by (apply BX;rfl;rfl;omega)) ?_)
     all_goals refine aa 3 ?_
     all_goals refine aa 4 ?_
     all_goals refine aa 5 ?_
     all_goals refine aa 6 ?_
     all_goals (refine aa 7 (hy:=by (apply bp (q:=j*11);rfl;rfl;omega;omega;assumption;(rfl))) ?_)
     all_goals refine aa 9 ?_
     all_goals refine aa 10 ?_
     all_goals refine aa 11 ?_
     all_goals (refine aa 12 (hy:=by (apply bp (q:=(j-1)*11);rfl;rfl;omega;omega;assumption;(omega))) ?_)
     all_goals (refine bS 8 13 (h:=?_) (h':=?_);(focus (((refine ax (cX (i:=j) (P:=Q2) rfl aU ag hx) rfl rfl rfl ?_);apply ab;refine ak ?_);all_goals ((refine ao 13 ?_;(refine ax (cX (i:=j-1) (P:=Q2) rfl aU ag hy) rfl rfl rfl ?_);apply ab;refine ak ?_);all_goals (refine ao 14 ?_;(refine aC (hc:=hcm) (hX:=fun _ _=>trivial) ?_);apply ab;refine ak ?_);all_goals (refine aa 15 ?_);all_goals (refine aa 16 ?_);all_goals (refine aI ?_))));rotate_right;(focus (((refine ax (cX (i:=j-1) (P:=Q2) rfl aU ag hy) rfl rfl rfl ?_);apply ab;refine ak ?_);all_goals ((refine ao 8 ?_;(refine ax (cX (i:=j) (P:=Q2) rfl aU ag hx) rfl rfl rfl ?_);apply ab;refine ak ?_);all_goals (refine ao 14 ?_;(refine aC (hc:=hcm) (hX:=fun _ _=>trivial) ?_);apply ab;refine ak ?_);all_goals (refine aa 15 ?_);all_goals (refine aa 16 ?_);all_goals (refine aI ?_)))))
     all_goals
      repeat' (first|apply ab|apply aj|apply ai|refine ae ?_|refine ac ?_|refine bm (h:=?_)|apply ay|apply aw|apply aV|(refine aO (ht:=?_) (hf:=?_);all_goals (intro hx_;first|have:=aY hx_|have:=aZ hx_)))
      · (refine bo [] (fun _=>True) ar ?_)
        all_goals refine aa 0 ?_
        all_goals refine aa 1 ?_
        all_goals refine aa 2 ?_
        all_goals refine aa 3 ?_
        all_goals refine aa 4 ?_
        all_goals refine aa 5 ?_
        all_goals refine aa 6 ?_
        all_goals refine aa 7 ?_
        all_goals (refine aa 8 (hy:=by (apply bp (q:=(j-1)*11);rfl;rfl;omega;omega;assumption;(omega))) ?_)
        all_goals refine aa 10 ?_
        all_goals refine aa 11 ?_
        all_goals (refine aa 12 (hy:=by (apply bp (q:=j*11);rfl;rfl;omega;omega;assumption;(rfl))) ?_)
        all_goals (refine bS 9 13 (h:=?_) (h':=?_);(focus (((refine ax (cX (i:=j-1) (P:=Q2) rfl aU ag hy) rfl rfl rfl ?_);apply ab;refine ak ?_);all_goals ((refine ao 13 ?_;(refine ax (cX (i:=j) (P:=Q2) rfl aU ag hx) rfl rfl rfl ?_);apply ab;refine ak ?_);all_goals (refine aa 14 (hy:=by (apply bp (q:=j*11);rfl;rfl;omega;omega;assumption;(rfl))) ?_);all_goals (refine ao 15 ?_;(refine dT (i:=j) (p:=y) rfl rfl ag ag (At.here _) rfl aR rfl ?_);apply ab;refine ak ?_);all_goals (refine aa 16 (hy:=by (apply bp (q:=(j-1)*11);rfl;rfl;omega;omega;assumption;(omega))) ?_);all_goals (refine ao 17 ?_;(refine dT (i:=j-1) (p:=x) rfl rfl ag (by (simp only [List.length_set];omega)) (At.here _) rfl aR rfl ?_);apply ab;refine ak ?_);all_goals (refine aI ?_))));rotate_right;(focus (((refine ax (cX (i:=j) (P:=Q2) rfl aU ag hx) rfl rfl rfl ?_);apply ab;refine ak ?_);all_goals ((refine ao 9 ?_;(refine ax (cX (i:=j-1) (P:=Q2) rfl aU ag hy) rfl rfl rfl ?_);apply ab;refine ak ?_);all_goals (refine aa 14 (hy:=by (apply bp (q:=j*11);rfl;rfl;omega;omega;assumption;(rfl))) ?_);all_goals (refine ao 15 ?_;(refine dT (i:=j) (p:=y) rfl rfl ag ag (At.here _) rfl aR rfl ?_);apply ab;refine ak ?_);all_goals (refine aa 16 (hy:=by (apply bp (q:=(j-1)*11);rfl;rfl;omega;omega;assumption;(omega))) ?_);all_goals (refine ao 17 ?_;(refine dT (i:=j-1) (p:=x) rfl rfl ag (by (simp only [List.length_set];omega)) (At.here _) rfl aR rfl ?_);apply ab;refine ak ?_);all_goals (refine aI ?_)))))
        all_goals
         repeat' (first|refine dW (q:=1) (hq:=by omega) ?_|apply ab|apply ai|refine ae ?_|refine ac ?_|fail)
         exact ⟨(⟨j-1,by omega,by omega,(Q2.set j y).set (j-1) x,(gC hx hy).trans hQ2⟩:InsJ P a k),(by show j-1<j;omega),aF ⟨rfl,rfl,rfl,rfl,rfl,rfl,trivial⟩ (aQ _) fun _ h=>h⟩
      · repeat' (first|refine dF (q:=1) (hq:=by omega) ?_|fail)
        exact ⟨(⟨k+1,by omega,by omega,Q2,hQ2⟩:InsI P a b),(by show b-(k+1)<b-k;omega),aF ⟨rfl,rfl,rfl,rfl,rfl,trivial⟩ (aQ _) fun _ h=>h⟩
   · apply aj
     apply aj
     unfold cmpF
     (refine bo [] (fun _=>True) ar ?_)
     all_goals refine aa 0 ?_
     all_goals refine aa 1 ?_
     all_goals (refine aa 2 (hy:=by (apply BY;rfl;rfl;omega)) ?_)
     all_goals refine aa 3 ?_
     all_goals refine aX 4 ?_
     all_goals refine aX 5 ?_
     all_goals refine aX 6 ?_
     all_goals refine aX 7 ?_
     all_goals refine aX 9 ?_
     all_goals refine aX 10 ?_
     all_goals refine aX 11 ?_
     all_goals refine aX 12 ?_
     all_goals (refine bS 8 13 (h:=?_) (h':=?_);(focus (((refine aW ?_);apply ab;refine ak ?_);all_goals ((refine ao 13 ?_;(refine aW ?_);apply ab;refine ak ?_);all_goals (refine ao 14 ?_;(refine aW ?_);apply ab;refine ak ?_);all_goals (refine aX 15 ?_);all_goals (refine aa 16 ?_);all_goals (refine aI ?_))));rotate_right;(focus (((refine aW ?_);apply ab;refine ak ?_);all_goals ((refine ao 8 ?_;(refine aW ?_);apply ab;refine ak ?_);all_goals (refine ao 14 ?_;(refine aW ?_);apply ab;refine ak ?_);all_goals (refine aX 15 ?_);all_goals (refine aa 16 ?_);all_goals (refine aI ?_)))))
     all_goals
      repeat' (first|refine dF (q:=1) (hq:=by omega) ?_|apply ab|apply ai|refine ae ?_|refine ac ?_|refine aD ?_|apply aV|fail)
      exact ⟨(⟨k+1,by omega,by omega,Q2,hQ2⟩:InsI P a b),(by show b-(k+1)<b-k;omega),aF ⟨rfl,rfl,rfl,rfl,rfl,trivial⟩ (aQ _) fun _ h=>h⟩
 · exact cb (bP rfl) ⟨rfl,Q,hQ,rfl⟩
end Go.Proofs.YtfnjklhjngphmaaGreatDoor
namespace Go.Proofs.YtfnjklhjngphmaaGreatDoor
open Go Go.Proofs Sy
def BehZ (w:World) (P:List PostZ):Prop:=∀ p∈P,Ints w p.ed p.edL
theorem BehZ.app {w:World} {P Q:List PostZ} (h:BehZ w P) (k:BehZ w Q):BehZ w (P++Q):=fun p hp=>(List.mem_append.1 hp).elim (h p) (k p)
theorem cellsZ11 (P:List PostZ):∀ r∈P.map PostZ.cells,r.length=11:=fun r hr=>by
 obtain ⟨c,_,rfl⟩:=List.mem_map.1 hr
 rfl
theorem cellsZ1 (P:List PostZ):∀ cs∈P.map PostZ.cells,cs.all (·.oneCell')=true:=fun r hr=>by
 obtain ⟨c,_,rfl⟩:=List.mem_map.1 hr
 rfl
structure PostsZ (m e:Nat) (P:List PostZ):Prop where
 len:P.length≤m
 ed:∀ p∈P,p.edL.length≤e
def SomePosts (m:Nat) (u:Value) (X:World→Prop):Prop:=∃ (s:SlV) (P:List PostZ),u=s.v∧PostsZ m m P∧∀ w,X w→RowsD w 11 s (P.map PostZ.cells)∧BehZ w P
structure OfI26 (m:Nat) where
 k:Nat
 hk:k≤m
 P:List PostZ
 hP:PostsZ k m P
 n:Nat
 hn:n=P.length
 xs:List Value
 hxs:xs=(P.map PostZ.cells).flatten
 A:Option Addr
 c:Nat
set_option maxHeartbeats 8000000 in
theorem AG (c:ChainD) (hs:∀ a∈c.actsL,a.Str∧a.Rng) (hl:c.actsL.length≤1000000):Mk Tryz.prog 79 #[c.v] (fun w=>c.at_ w) (SomePosts c.actsL.length):=by
 refine bL (args:=[_]) _ Tryz.func79 rfl Tryz.ntmps79 rfl fun av bor w0=>?_
 have hdg:=om c hs hl
 refine cf 84 11 ?_
 repeat' (first|apply ab|apply aj|apply ai|refine ac ?_|refine aG ?_|refine aT fun _=>?_|apply aw|(refine bN (hc:=hdg) (hX:=fun w h=>h) fun v X' h'=>?_;obtain ⟨sl,rfl,hsl⟩:=h';refine dr (X':=DgX c sl (c.actsL.map digV)) (fun w h=>⟨h.1,hsl w h.2⟩) ?_)|fail)
 rename_i b1
 refine bt (fun w h=>DgX.know h) fun ⟨⟨hn,hm,hp⟩,hsn,hsm,hsp⟩=>?_
 refine be (ι:=OfI26 c.actsL.length) (fun i=>⟨[(1,.pointer (some ⟨b1,0,none⟩)),(3,sl.v),(4,.slice i.A i.n i.c),(5,.int .i64 (i.k:Nat))],[cel b1 31 c.cells,orow 84 11 (.slice i.A i.n i.c) i.n i.xs],fun w=>DgX c sl (c.actsL.map digV) w∧BehZ w i.P⟩) (fun i=>c.actsL.length-i.k) ⟨0,Nat.zero_le _,[],⟨Nat.le_refl _,fun p hp=>(List.not_mem_nil hp).elim⟩,0,rfl,[],rfl,none,0⟩ (aF ⟨rfl,rfl,rfl,rfl,trivial⟩ (aQ _) fun _ h=>⟨h,fun p hp=>(List.not_mem_nil hp).elim⟩) fun i=>?_
 obtain ⟨k,hk,P,hP,n,hnP,xs,hxs,A,cp⟩:=i
 simp only
 by_cases hlt:k<c.actsL.length
 · have hp':=hp ag
   obtain ⟨a,ha⟩:∃ a,c.actsL[k]?=some a:=⟨_,List.getElem?_eq_getElem hlt⟩
   have hpo:=fm a.kind
   have hon:=xK c sl (c.actsL.map digV) (by simp) hl k hlt
   have hnl:=hP.len
   repeat' (first|refine ax (bK true rfl rfl (decide_eq_true ag)) rfl aR rfl ?_|apply ab|apply aj|apply ai|refine ae ?_|refine ac ?_|refine aM ?_|refine aL ?_|refine aG ?_|refine bg ?_|refine bm (h:=?_)|refine aE ?_|apply ay|apply aw|(refine bf (q:=k*20) ?_)|(refine cT ?_)|(refine bU (q:=k*20+3) (u:=.int .i64 a.kind) (hF:=fun w h=>(Acts.get h.1.c ha).2.2 3 _ rfl) ?_)|(refine aC (hc:=hpo) (hX:=fun _ _=>trivial) ?_)|(refine bN (hc:=hon) (hX:=fun w h=>h.1) fun v X' h'=>?_;obtain ⟨p,rfl,hpl,hpw⟩:=h')|(refine bH (size:=11) (vs:=[p.v]) (css:=p.cells) (hsz:=by rfl) (hcs:=by rfl) fun _=>?_)|(refine aS (size:=11) (news:=p.cells) (q:=1) rfl rfl rfl rfl (fun _=>At.there _ (At.there _ (At.here _))) (fun w G=>bq G aU rfl rfl 1) ag (by simp only [maxLen];omega) rfl ?_ rfl ?_;(with_reducible rfl);intro A2 c2)|(refine aO (ht:=?_) (hf:=?_);all_goals (intro hx_;skip)))
   · exact ⟨(⟨k+1,hlt,P++[p],⟨by rw [List.length_append,List.length_singleton];omega,fun q hq=>by
       rcases List.mem_append.1 hq with hq|hq
       · exact hP.ed q hq
       · rw [List.mem_singleton.1 hq];exact hpl⟩,n+1,by rw [List.length_append,hnP];rfl,xs++p.cells,by rw [hxs];simp,A2,c2⟩:OfI26 c.actsL.length),(by show c.actsL.length-(k+1)<c.actsL.length-k;omega),aF ⟨rfl,rfl,rfl,rfl,trivial⟩ (.cons _ (aQ _)) fun w h=>⟨h.1.1,h.1.2.app fun q hq=>by rw [List.mem_singleton.1 hq];exact hpw w h.2⟩⟩
   · exact ⟨(⟨k+1,hlt,P,⟨by omega,hP.ed⟩,n,hnP,xs,hxs,A,cp⟩:OfI26 c.actsL.length),(by show c.actsL.length-(k+1)<c.actsL.length-k;omega),aF ⟨rfl,rfl,rfl,rfl,trivial⟩ (aQ _) fun w h=>h⟩
 · have hkE:k=c.actsL.length:=by omega
   repeat' (first|refine ax (bK false rfl rfl (decide_eq_false ag)) rfl aR rfl ?_|apply ab|apply aj|apply ai|refine ae ?_|refine ac ?_|refine aM ?_|refine aL ?_|refine bg ?_|refine aD ?_|apply aA|apply aV|fail)
   subst hxs
   exact aq (aB rfl rfl) ⟨⟨A,n,cp⟩,P,rfl,⟨by have:=hP.len;omega,hP.ed⟩,fun w h=>⟨bJ (h.2 _ (.tail _ (.head _))) (by rw [List.length_map];exact hnP) (cellsZ11 P),h.1.2⟩⟩
theorem vr {P:Program} {f:FuncId} {fn:Func} {c:Code} {args:List Value} {pre:List Res} {X:World→Prop} {Post:Value→List Res→(World→Prop)→Prop} (N:Nat)
  (hf:P.funcs[f]?=some fn) (hb:fn.body=some c) (hN:fn.ntmps=N) (hn:Nat.ble args.length N=true)
  (h:∀ av bor w0,Cw P N av bor w0 c ⟨params 0 args,pre,X⟩ (ends P fn N fun u R X'=>∃ R',R'.Sublist R∧Post u R' X')):Ct P f args.toArray pre X Post:=Ct.mk fun w av G=>by
 have h1:=(cB (P:=P) (Post:=fun u R X'=>∃ R',R'.Sublist R∧Post u R' X') N hf hb hN hn h).run w av G
 refine h1.mono fun e w' ⟨u,R,X',he,⟨R',hs,hp⟩,G'⟩=>⟨u,R',X',he,hp,G'.drop hs⟩
def OwnPosts (m e:Nat) (u:Value) (R:List Res) (X:World→Prop):Prop:=∃ (A:Option Addr) (n c:Nat) (P:List PostZ) (xs:List Value),u=.slice A n c∧R=[orow 84 11 (.slice A n c) n xs]∧n=P.length∧xs=(P.map PostZ.cells).flatten∧PostsZ m e P∧∀ w,X w→BehZ w P
structure AllI26 (m:Nat) where
 k:Nat
 hk:k≤m
 P:List PostZ
 hP:PostsZ (20*k) 20 P
 n:Nat
 hn:n=P.length
 xs:List Value
 hxs:xs=(P.map PostZ.cells).flatten
 A:Option Addr
 c:Nat
structure AllJ26 (k m:Nat) where
 j:Nat
 hj:j≤m
 P:List PostZ
 hP:PostsZ (20*k+j) 20 P
 n:Nat
 hn:n=P.length
 xs:List Value
 hxs:xs=(P.map PostZ.cells).flatten
 A:Option Addr
 c:Nat
structure AllX26 (s:SlV) (l:List ChainD) (s5:SlV) (Q:List PostZ) (P:List PostZ) (w:World):Prop where
 c:Chains w s l
 r:RowsD w 11 s5 (Q.map PostZ.cells)
 q:BehZ w Q
 p:BehZ w P
theorem uW {w:World} {e size n c:Nat} {A:Option Addr} {xs:List Value} (h:ORow w e size (.slice A n c) n xs):n≤c:=by
 rcases h.2 with ⟨h1,h2⟩|⟨g,cap,cur,fz,h1,hg,h3,_⟩
 · omega
 · simp only [Value.slice.injEq] at h1
   obtain ⟨_,_,rfl⟩:=h1
   exact h3
theorem mP {w:World} {P:List PostZ} {n k c:Nat} {A:Option Addr} (h:ORow w 84 11 (.slice A n c) n (P.map PostZ.cells).flatten) (hn:n=P.length) (hk:k≤P.length):Src Tryz.prog w 11 ((⟨A,n,c⟩:SlV).from 11 k).v ((⟨A,n,c⟩:SlV).from 11 k).n ((P.drop k).map PostZ.cells).flatten:=by
 have h0:=bJ h (by rw [List.length_map];exact hn) (cellsZ11 P)
 have h1:=RowsD.drop (n:=k) h0 (by rw [List.length_map];exact hk)
 rw [←List.map_drop] at h1
 exact dJ h1 (cellsZ1 _)
theorem mQ {w:World} {P:List PostZ} {n c:Nat} {A:Option Addr} (h:ORow w 84 11 (.slice A n c) n (P.map PostZ.cells).flatten) (hn:n=P.length):Src Tryz.prog w 11 (.slice A n c) n (P.map PostZ.cells).flatten :=
 dJ (s:=⟨A,n,c⟩) (bJ h (by rw [List.length_map];exact hn) (cellsZ11 P)) (cellsZ1 _)
theorem takeZ (P:List PostZ) (k:Nat):((P.map PostZ.cells).flatten).take (k*11)=((P.take k).map PostZ.cells).flatten:=by
 induction k generalizing P with
 | zero=>simp
 | succ k ih =>
  cases P with
  | nil=>simp
  | cons p P =>
   rw [List.map_cons,List.flatten_cons,List.take_succ_cons,List.map_cons,List.flatten_cons,Nat.add_mul,Nat.one_mul,Nat.add_comm,List.take_append]
   have e:p.cells.length=11:=rfl
   rw [List.take_of_length_le (by rw [e];omega),e,Nat.add_sub_cancel_left,ih]
set_option maxHeartbeats 16000000 in
set_option maxRecDepth 20000 in
theorem yX (s:SlV) (l:List ChainD) (hs:∀ c∈l,∀ a∈c.actsL,a.Str∧a.Rng) (hl:∀ c∈l,c.actsL.length≤20) (hl4:l.length≤4):Ct Tryz.prog 34 #[s.v] [] (fun w=>Chains w s l) (OwnPosts 80 20):=by
  refine vr (args:=[_]) _ Tryz.func34 rfl Tryz.ntmps34 rfl fun av bor w0=>?_
  refine bt (p:=s.n=l.length∧s.n≤maxLen∧(0<l.length→s.p.isSome=true)) (fun w h=>⟨h.len_,h.max_,h.some_⟩) fun ⟨hsl,hsm,hsp⟩=>?_
  simp only [maxLen] at hsm
  refine cf 84 11 ?_
  repeat' (first|apply ab|apply aj|apply ai|refine ac ?_|apply aw|fail)
  refine be (ι:=AllI26 l.length) (fun i=>⟨[(0,s.v),(3,.slice i.A i.n i.c),(4,.int .i64 (i.k:Nat))],[orow 84 11 (.slice i.A i.n i.c) i.n i.xs],fun w=>Chains w s l∧BehZ w i.P⟩) (fun i=>l.length-i.k) ⟨0,Nat.zero_le _,[],⟨Nat.le_refl _,fun p hp=>(List.not_mem_nil hp).elim⟩,0,rfl,[],rfl,none,0⟩ (aF ⟨rfl,rfl,rfl,trivial⟩ (aQ _) fun _ h=>⟨h,fun p hp=>(List.not_mem_nil hp).elim⟩) fun i=>?_
  obtain ⟨k,hk,P,hP,n,hnP,xs,hxs,A,cp⟩:=i
  simp only
  by_cases hlt:k<l.length
  · have hsp':=hsp ag
    obtain ⟨c,hc⟩:∃ c,l[k]?=some c:=⟨_,List.getElem?_eq_getElem hlt⟩
    have hcm:=List.mem_of_getElem? hc
    have hcl:=hl c hcm
    have hof:=AG c (hs c hcm) ag
    repeat' (first|refine ax (bK true rfl rfl (decide_eq_true ag)) rfl aR rfl ?_|apply ab|apply aj|apply ai|refine ae ?_|refine ac ?_|refine bg ?_|refine aE ?_|apply ay|apply aw|(refine bf (q:=k*6) ?_)|(refine bD (cs:=c.cells) (hF:=fun w h=>Chains.get h.1 hc) ?_)|(refine bN (hc:=hof) (hX:=fun w h=>h.1.2 c hcm) fun v X' h'=>?_;obtain ⟨s5,Q,rfl,hQ,hwQ⟩:=h';refine dr (X':=AllX26 s l s5 Q P) (fun w h=>⟨h.1.1,(hwQ w h.2).1,(hwQ w h.2).2,h.1.2⟩) ?_)|fail)
    refine bt (p:=s5.n=Q.length∧s5.n≤maxLen∧(0<Q.length→s5.p.isSome=true)) (fun w h=>⟨by simpa using RowsD.len h.r,Nat.le_trans (RowsD.cap h.r) (RowsD.max h.r),fun h0=>(RowsD.row h.r 0 Q[0].cells (by simp [List.getElem?_eq_getElem h0])).2.1⟩) fun ⟨h5n,h5m,h5p⟩=>?_
    simp only [maxLen] at h5m
    have hQl:=hQ.len
    refine be (ι:=AllJ26 k Q.length) (fun i=>⟨[(0,s.v),(3,.slice i.A i.n i.c),(4,.int .i64 (k:Nat)),(5,s5.v),(6,.int .i64 (i.j:Nat))],[orow 84 11 (.slice i.A i.n i.c) i.n i.xs],AllX26 s l s5 Q i.P⟩) (fun i=>Q.length-i.j) ⟨0,Nat.zero_le _,P,hP,n,hnP,xs,hxs,A,cp⟩ (aF ⟨rfl,rfl,rfl,rfl,rfl,trivial⟩ (aQ _) fun _ h=>h) fun i=>?_
    obtain ⟨j,hj,P,hP,n,hnP,xs,hxs,A,cp⟩:=i
    simp only
    by_cases hjl:j<Q.length
    · have h5p':=h5p ag
      obtain ⟨q,hq⟩:∃ q,Q[j]?=some q:=⟨_,List.getElem?_eq_getElem hjl⟩
      have hqm:=List.mem_of_getElem? hq
      have hrow:∀ w,AllX26 s l s5 Q P w→q.cells.length=11∧s5.p.isSome=true∧∀ i u,q.cells[i]?=some u→CellAt w s5.p (j*11+i) u:=fun w h=>RowsD.row h.r j q.cells (by simp [hq])
      have hPl:=hP.len
      repeat' (first|refine ax (bK true rfl rfl (decide_eq_true ag)) rfl aR rfl ?_|apply ab|apply aj|apply ai|refine ae ?_|refine ac ?_|refine bg ?_|refine aE ?_|apply ay|apply aw|fail)
      refine de (r:=orow 84 11 (.slice A n cp) n xs) bF (p:=(0<n→A.isSome=true)∧n≤cp) (fun w h=>⟨fun h0=>cR h h0,uW h⟩) fun ⟨hAp,hncp⟩=>?_
      refine be (ι:=Kth n) (fun i=>⟨[(0,s.v),(3,.slice A n cp),(4,.int .i64 (k:Nat)),(5,s5.v),(6,.int .i64 (j:Nat)),(7,.int .i64 (i.k:Nat))],[orow 84 11 (.slice A n cp) n xs],AllX26 s l s5 Q P⟩) (fun i=>i.k) ⟨n,Nat.le_refl _⟩ (aF ⟨rfl,rfl,rfl,rfl,rfl,rfl,trivial⟩ (aQ _) fun _ h=>h) fun i=>?_
      obtain ⟨z,hz⟩:=i
      simp only
      subst hxs
      have hzP:z≤P.length:=by omega
      have fin:∀ P':List PostZ,P'=P.take z++q::P.drop z→P'.length=P.length+1:=fun P' e=>by
        rw [e,List.length_append,List.length_cons,List.length_take,List.length_drop]
        omega
      by_cases hz0:0<z
      · have hAp':=hAp ag
        obtain ⟨p0,hp0⟩:∃ p0,P[z-1]?=some p0:=⟨_,List.getElem?_eq_getElem ag⟩
        cases hg:gtB p0.id q.id with
        | true =>
          repeat' (first|apply aj|fail)
          (refine bo [orow 84 11 (.slice A n cp) n (P.map PostZ.cells).flatten] (AllX26 s l s5 Q P) ar ?_)
          all_goals refine aa 0 ?_
          all_goals (refine aa 1 (hy:=by (apply ql true;rfl;rfl;exact decide_eq_true ag)) ?_)
          all_goals refine aa 2 ?_
          all_goals refine aa 3 ?_
          all_goals refine aa 4 ?_
          all_goals refine aa 5 ?_
          all_goals (refine aa 6 (hy:=by (apply bp (q:=(z-1)*11);rfl;rfl;omega;omega;assumption;(omega))) ?_)
          all_goals (refine aa 7 (hy:=by (apply cw;rfl;assumption;rfl)) ?_)
          all_goals refine aa 9 ?_
          all_goals refine aa 10 ?_
          all_goals (refine aa 11 (hy:=by (apply bp (q:=j*11);rfl;rfl;omega;omega;assumption;omega)) ?_)
          all_goals (refine aa 12 (hy:=by (apply cw;rfl;assumption;rfl)) ?_)
          all_goals (refine aa 13 (hy:=by (apply cC (q:=j*11) (u:=.string q.id);rfl;exact fun w h=>(hrow w h).2.2 0 _ rfl)) ?_)
          all_goals (refine ao 8 ?_;(refine ax (eJ (size:=11) (m:=n) (i:=z-1) (j:=0) (xs:=P.map PostZ.cells) (cs:=p0.cells) (u:=.string p0.id) rfl bF (by rw [List.length_map];exact hnP) (cellsZ11 P) (by simp [hp0]) rfl) rfl rfl rfl ?_);apply ab;refine ak ?_)
          all_goals (refine aa 14 (hy:=by (apply ib true;rfl;rfl;exact hg)) ?_)
          all_goals refine aa 15 ?_
          all_goals (refine aI ?_)
          all_goals first
            | (repeat' (first|refine dW (q:=1) (hq:=by omega) ?_|apply ab|apply ai|refine ae ?_|refine ac ?_|refine aE ?_|apply ay|apply aw|fail)
               exact ⟨(⟨z-1,by omega⟩:Kth n),(by show z-1<z;omega),aF ⟨rfl,rfl,rfl,rfl,rfl,rfl,trivial⟩ (aQ _) fun _ h=>h⟩)
        | false =>
          repeat' (first|apply aj|fail)
          (refine bo [orow 84 11 (.slice A n cp) n (P.map PostZ.cells).flatten] (AllX26 s l s5 Q P) ar ?_)
          all_goals refine aa 0 ?_
          all_goals (refine aa 1 (hy:=by (apply ql true;rfl;rfl;exact decide_eq_true ag)) ?_)
          all_goals refine aa 2 ?_
          all_goals refine aa 3 ?_
          all_goals refine aa 4 ?_
          all_goals refine aa 5 ?_
          all_goals (refine aa 6 (hy:=by (apply bp (q:=(z-1)*11);rfl;rfl;omega;omega;assumption;(omega))) ?_)
          all_goals (refine aa 7 (hy:=by (apply cw;rfl;assumption;rfl)) ?_)
          all_goals refine aa 9 ?_
          all_goals refine aa 10 ?_
          all_goals (refine aa 11 (hy:=by (apply bp (q:=j*11);rfl;rfl;omega;omega;assumption;omega)) ?_)
          all_goals (refine aa 12 (hy:=by (apply cw;rfl;assumption;rfl)) ?_)
          all_goals (refine aa 13 (hy:=by (apply cC (q:=j*11) (u:=.string q.id);rfl;exact fun w h=>(hrow w h).2.2 0 _ rfl)) ?_)
          all_goals (refine ao 8 ?_;(refine ax (eJ (size:=11) (m:=n) (i:=z-1) (j:=0) (xs:=P.map PostZ.cells) (cs:=p0.cells) (u:=.string p0.id) rfl bF (by rw [List.length_map];exact hnP) (cellsZ11 P) (by simp [hp0]) rfl) rfl rfl rfl ?_);apply ab;refine ak ?_)
          all_goals (refine aa 14 (hy:=by (apply ib false;rfl;rfl;exact hg)) ?_)
          all_goals refine aa 15 ?_
          all_goals (refine aI ?_)
          repeat' (first|refine dY fun _=>?_|apply aj|apply ai|refine ae ?_|refine aD ?_|apply aV|(refine ax (gP (s:=⟨A,n,cp⟩) rfl rfl ag (by show (z:Int)≤(n:Int);omega)) rfl rfl rfl ?_)|fail)
          refine aS (size:=11) (news:=((P.drop z).map PostZ.cells).flatten) (q:=n-z) rfl rfl rfl rfl (fun _=>At.here _) (fun w G=>mP (G.here _ (.tail _ (.head _))).now hnP hzP) ag (by simp only [maxLen];omega) rfl ?_ rfl ?_
          · (with_reducible rfl)
          intro A1 c1
          repeat' (first|apply ab|refine ac ?_|fail)
          (refine bo [] (AllX26 s l s5 Q P) ar ?_)
          all_goals refine aa 0 ?_
          all_goals refine aa 1 ?_
          all_goals (refine aa 2 (hy:=by (apply iU;rfl;rfl;omega;omega)) ?_)
          all_goals refine aa 3 ?_
          all_goals refine aa 4 ?_
          all_goals (refine aa 5 (hy:=by (apply bp (q:=j*11);rfl;rfl;omega;omega;assumption;omega)) ?_)
          all_goals (refine aa 6 (hy:=by (apply gQ (cs:=q.cells);rfl;exact hrow)) ?_)
          all_goals refine aa 9 ?_
          all_goals (refine ao 7 ?_;(refine bH (size:=11) (vs:=[q.v]) (css:=q.cells) (hsz:=by rfl) (hcs:=by rfl) fun _=>?_);apply ab;refine ak ?_)
          all_goals (refine ao 8 ?_;(refine sg (n:=z) (At.there _ (At.there _ (At.here _))) ag ?_;refine aS (size:=11) (news:=q.cells) (q:=1) rfl rfl rfl rfl (fun _=>At.there _ (At.there _ (At.here _))) (fun w G=>bq G aU rfl rfl 1) ag (by simp only [maxLen];omega) rfl ?_ rfl ?_;(with_reducible rfl);intro A2 c2);apply ab;refine ak ?_)
          all_goals (refine ao 10 ?_;(refine aS (size:=11) (news:=((P.drop z).map PostZ.cells).flatten) (q:=0+(n-z)) rfl rfl rfl rfl (fun _=>At.there _ (At.there _ (At.here _))) (fun w G=>mQ (P:=P.drop z) (G.here (orow 84 11 (.slice A1 (0+(n-z)) c1) (0+(n-z)) ((P.drop z).map PostZ.cells).flatten) (.tail _ (.head _))).now (by rw [List.length_drop];omega)) ag (by simp only [maxLen];omega) rfl ?_ rfl ?_;(with_reducible rfl);intro A3 c3);apply ab;refine ak ?_)
          all_goals refine aa 11 ?_
          all_goals (refine aI ?_)
          all_goals first
            | (repeat' (first|apply ab|apply ai|refine ae ?_|refine ac ?_|refine bm (h:=?_)|fail)
               exact ⟨(⟨j+1,hjl,P.take z++q::P.drop z,⟨by rw [fin _ rfl];omega,fun r hr=>by
                   rcases List.mem_append.1 hr with hr|hr
                   · exact hP.ed r (List.mem_of_mem_take hr)
                   · rcases List.mem_cons.1 hr with rfl|hr
                     · have:=hQ.ed _ hqm;omega
                     · exact hP.ed r (List.mem_of_mem_drop hr)⟩,z+1+(0+(n-z)),by rw [fin _ rfl];omega,((P.map PostZ.cells).flatten.take (z*11)++q.cells)++((P.drop z).map PostZ.cells).flatten,by rw [takeZ];simp,A3,c3⟩:AllJ26 k Q.length),(by show Q.length-(j+1)<Q.length-j;omega),aF ⟨rfl,rfl,rfl,rfl,rfl,trivial⟩ (.cons _ (.cons _ (aQ _))) fun w h=>⟨h.c,h.r,h.q,fun r hr=>by
                   rcases List.mem_append.1 hr with hr|hr
                   · exact h.p r (List.mem_of_mem_take hr)
                   · rcases List.mem_cons.1 hr with rfl|hr
                     · exact h.q _ hqm
                     · exact h.p r (List.mem_of_mem_drop hr)⟩⟩)
      · repeat' (first|apply aj|fail)
        (refine bo [orow 84 11 (.slice A n cp) n (P.map PostZ.cells).flatten] (AllX26 s l s5 Q P) ar ?_)
        all_goals refine aa 0 ?_
        all_goals (refine aa 1 (hy:=by (apply ql false;rfl;rfl;exact decide_eq_false ag)) ?_)
        all_goals refine aa 2 ?_
        all_goals refine aX 3 ?_
        all_goals refine aX 4 ?_
        all_goals refine aX 5 ?_
        all_goals refine aX 6 ?_
        all_goals refine aX 7 ?_
        all_goals refine aX 9 ?_
        all_goals refine aX 10 ?_
        all_goals refine aX 11 ?_
        all_goals refine aX 12 ?_
        all_goals refine aX 13 ?_
        all_goals (refine ao 8 ?_;(refine aW ?_);apply ab;refine ak ?_)
        all_goals refine aX 14 ?_
        all_goals refine aa 15 ?_
        all_goals (refine aI ?_)
        repeat' (first|refine dY fun _=>?_|apply aj|apply ai|refine ae ?_|refine aD ?_|apply aV|(refine ax (gP (s:=⟨A,n,cp⟩) rfl rfl ag (by show (z:Int)≤(n:Int);omega)) rfl rfl rfl ?_)|fail)
        refine aS (size:=11) (news:=((P.drop z).map PostZ.cells).flatten) (q:=n-z) rfl rfl rfl rfl (fun _=>At.here _) (fun w G=>mP (G.here _ (.tail _ (.head _))).now hnP hzP) ag (by simp only [maxLen];omega) rfl ?_ rfl ?_
        · (with_reducible rfl)
        intro A1 c1
        repeat' (first|apply ab|refine ac ?_|fail)
        (refine bo [] (AllX26 s l s5 Q P) ar ?_)
        all_goals refine aa 0 ?_
        all_goals refine aa 1 ?_
        all_goals (refine aa 2 (hy:=by (apply iU;rfl;rfl;omega;omega)) ?_)
        all_goals refine aa 3 ?_
        all_goals refine aa 4 ?_
        all_goals (refine aa 5 (hy:=by (apply bp (q:=j*11);rfl;rfl;omega;omega;assumption;omega)) ?_)
        all_goals (refine aa 6 (hy:=by (apply gQ (cs:=q.cells);rfl;exact hrow)) ?_)
        all_goals refine aa 9 ?_
        all_goals (refine ao 7 ?_;(refine bH (size:=11) (vs:=[q.v]) (css:=q.cells) (hsz:=by rfl) (hcs:=by rfl) fun _=>?_);apply ab;refine ak ?_)
        all_goals (refine ao 8 ?_;(refine sg (n:=z) (At.there _ (At.there _ (At.here _))) ag ?_;refine aS (size:=11) (news:=q.cells) (q:=1) rfl rfl rfl rfl (fun _=>At.there _ (At.there _ (At.here _))) (fun w G=>bq G aU rfl rfl 1) ag (by simp only [maxLen];omega) rfl ?_ rfl ?_;(with_reducible rfl);intro A2 c2);apply ab;refine ak ?_)
        all_goals (refine ao 10 ?_;(refine aS (size:=11) (news:=((P.drop z).map PostZ.cells).flatten) (q:=0+(n-z)) rfl rfl rfl rfl (fun _=>At.there _ (At.there _ (At.here _))) (fun w G=>mQ (P:=P.drop z) (G.here (orow 84 11 (.slice A1 (0+(n-z)) c1) (0+(n-z)) ((P.drop z).map PostZ.cells).flatten) (.tail _ (.head _))).now (by rw [List.length_drop];omega)) ag (by simp only [maxLen];omega) rfl ?_ rfl ?_;(with_reducible rfl);intro A3 c3);apply ab;refine ak ?_)
        all_goals refine aa 11 ?_
        all_goals (refine aI ?_)
        all_goals first
          | (repeat' (first|apply ab|apply ai|refine ae ?_|refine ac ?_|refine bm (h:=?_)|fail)
             exact ⟨(⟨j+1,hjl,P.take z++q::P.drop z,⟨by rw [fin _ rfl];omega,fun r hr=>by
                 rcases List.mem_append.1 hr with hr|hr
                 · exact hP.ed r (List.mem_of_mem_take hr)
                 · rcases List.mem_cons.1 hr with rfl|hr
                   · have:=hQ.ed _ hqm;omega
                   · exact hP.ed r (List.mem_of_mem_drop hr)⟩,z+1+(0+(n-z)),by rw [fin _ rfl];omega,((P.map PostZ.cells).flatten.take (z*11)++q.cells)++((P.drop z).map PostZ.cells).flatten,by rw [takeZ];simp,A3,c3⟩:AllJ26 k Q.length),(by show Q.length-(j+1)<Q.length-j;omega),aF ⟨rfl,rfl,rfl,rfl,rfl,trivial⟩ (.cons _ (.cons _ (aQ _))) fun w h=>⟨h.c,h.r,h.q,fun r hr=>by
                 rcases List.mem_append.1 hr with hr|hr
                 · exact h.p r (List.mem_of_mem_take hr)
                 · rcases List.mem_cons.1 hr with rfl|hr
                   · exact h.q _ hqm
                   · exact h.p r (List.mem_of_mem_drop hr)⟩⟩)
    · have hjE:j=Q.length:=by omega
      repeat' (first|refine ax (bK false rfl rfl (decide_eq_false ag)) rfl aR rfl ?_|apply ab|apply aj|apply ai|refine ae ?_|refine ac ?_|refine bg ?_|refine bm (h:=?_)|refine aD ?_|apply aV|fail)
      exact ⟨(⟨k+1,hlt,P,⟨by have:=hP.len;omega,hP.ed⟩,n,hnP,xs,hxs,A,cp⟩:AllI26 l.length),(by show l.length-(k+1)<l.length-k;omega),aF ⟨rfl,rfl,rfl,trivial⟩ (aQ _) fun w h=>⟨h.c,h.p⟩⟩
  · repeat' (first|refine ax (bK false rfl rfl (decide_eq_false ag)) rfl aR rfl ?_|apply ab|apply aj|apply ai|refine ae ?_|refine ac ?_|refine bg ?_|refine aD ?_|apply aA|apply aV|fail)
    exact aq (aB rfl rfl) ⟨_,aQ _,A,n,cp,P,xs,rfl,rfl,hnP,hxs,⟨by have:=hP.len;omega,hP.ed⟩,fun w h=>h.2⟩
end Go.Proofs.YtfnjklhjngphmaaGreatDoor
namespace Go.Proofs.YtfnjklhjngphmaaGreatDoor
open Go Go.Proofs Sy Go.RowKit Go.Deep Go.ChangeShapes
def PostZ.at_ (w:World) (p:PostZ):Prop:=Ints w p.ed p.edL
section
variable {H:Type} {enc:TypeId×Value→H} {P:Program} {w:World} {base:Nat} {spare:Nat→Bool} {held:Bool}
theorem qU {fuel:Nat} {cs:List Value} {x:DataW H×List MemPlace} (h:DataW.trod enc Tryz.prog w base spare held fuel 22 cs=some x):∃ (s:SlV) (l:List Int),cs=[s.v]∧Ints w s l:=by
 obtain ⟨s,l,h1,h2,h3⟩:=gH (α:=Int) Tryz.underlying22 (size:=1) ar (fun n=>[.int .i64 n]) (fun _=>True) (fun n cs y hy=>by obtain ⟨s,h1,h2⟩:=cH hy;exact ⟨s,h1,trivial⟩) h
 exact ⟨s,l,h1,h2⟩
theorem qT {fuel:Nat} {cs:List Value} {x:DataW H×List MemPlace} (h:DataW.trod enc Tryz.prog w base spare held fuel 84 cs=some x):∃ p:PostZ,cs=p.cells∧p.at_ w:=by
 have hl:=jj Tryz.underlying84 (k:=11) ar h
 obtain ⟨n0,y0,h0⟩:=cg (i:=0) (off:=0) (k:=1) (t':=9) Tryz.underlying84 h rfl rfl rfl ar
 obtain ⟨n1,y1,h1⟩:=cg (i:=1) (off:=1) (k:=1) (t':=9) Tryz.underlying84 h rfl rfl rfl ar
 obtain ⟨n2,y2,h2⟩:=cg (i:=2) (off:=2) (k:=1) (t':=3) Tryz.underlying84 h rfl rfl rfl ar
 obtain ⟨n3,y3,h3⟩:=cg (i:=3) (off:=3) (k:=1) (t':=3) Tryz.underlying84 h rfl rfl rfl ar
 obtain ⟨n4,y4,h4⟩:=cg (i:=4) (off:=4) (k:=1) (t':=3) Tryz.underlying84 h rfl rfl rfl ar
 obtain ⟨n5,y5,h5⟩:=cg (i:=5) (off:=5) (k:=1) (t':=9) Tryz.underlying84 h rfl rfl rfl ar
 obtain ⟨n6,y6,h6⟩:=cg (i:=6) (off:=6) (k:=1) (t':=39) Tryz.underlying84 h rfl rfl rfl ar
 obtain ⟨n7,y7,h7⟩:=cg (i:=7) (off:=7) (k:=1) (t':=9) Tryz.underlying84 h rfl rfl rfl ar
 obtain ⟨n8,y8,h8⟩:=cg (i:=8) (off:=8) (k:=1) (t':=3) Tryz.underlying84 h rfl rfl rfl ar
 obtain ⟨n9,y9,h9⟩:=cg (i:=9) (off:=9) (k:=1) (t':=22) Tryz.underlying84 h rfl rfl rfl ar
 obtain ⟨n10,y10,h10⟩:=cg (i:=10) (off:=10) (k:=1) (t':=4) Tryz.underlying84 h rfl rfl rfl ar
 match cs,hl with
 | [c0,c1,c2,c3,c4,c5,c6,c7,c8,c9,c10],_ =>
  obtain ⟨s0,e0,_⟩:=cu h0
  obtain ⟨s1,e1,_⟩:=cu h1
  obtain ⟨s2,e2,_⟩:=cH h2
  obtain ⟨s3,e3,_⟩:=cH h3
  obtain ⟨s4,e4,_⟩:=cH h4
  obtain ⟨s5,e5,_⟩:=cu h5
  obtain ⟨s6,e6⟩:=sK Tryz.underlying39 h6
  obtain ⟨s7,e7,_⟩:=cu h7
  obtain ⟨s8,e8,_⟩:=cH h8
  obtain ⟨s9,l9,e9,r9⟩:=qU h9
  obtain ⟨s10,e10⟩:=lE h10
  simp at e0 e1 e2 e3 e4 e5 e6 e7 e8 e9 e10
  exact ⟨⟨s0,s1,s2,s3,s4,s5,s6,s7,s8,s9,s10,l9⟩,by simp [PostZ.cells,e0,e1,e2,e3,e4,e5,e6,e7,e8,e9,e10],r9⟩
end
end Go.Proofs.YtfnjklhjngphmaaGreatDoor
namespace Go.Proofs.YtfnjklhjngphmaaGreatDoor
open Go Go.Proofs Sy
def keyF (kl:List KeyD) (i:Int):Nat→Option KeyD
 | 0=>none
 | j+1=>bif decide ((kl.getD j KeyD.zero).from_≤i) then some (kl.getD j KeyD.zero) else keyF kl i j
def keyV (n:Nat) (kl:List KeyD) (i:Int):Option KeyD:=bif decide (i<0)||decide ((n:Int)<i) then none else keyF kl i kl.length
def keyOP (o:Option KeyD):Value:=.tuple #[(o.getD KeyD.zero).v,.bool o.isSome]
structure KeyI (kl:List KeyD) (i:Int) where
 k:Nat
 hk:k≤kl.length
 hs:keyF kl i kl.length=keyF kl i k
set_option maxHeartbeats 8000000 in
theorem p6 (c:ChainD) (kl:List KeyD) (i:Int):Pu Tryz.prog 12 #[c.v,.int .i64 i] (fun w=>c.at_ w∧Keyz w c.keys kl) (keyOP (keyV c.acts.n kl i)):=by
 refine aN (args:=[_,_]) _ Tryz.func12 rfl Tryz.ntmps12 rfl fun av bor w0=>?_
 refine bt (p:=c.keys.n=kl.length∧c.keys.n≤maxLen∧(0<kl.length→c.keys.p.isSome=true)) (fun w h=>Keyz.know w h.2) fun ⟨hkn,hkm,hkp⟩=>?_
 simp only [maxLen] at hkm
 cases hb:(decide (i<0)||decide ((c.acts.n:Int)<i)) with
 | true =>
  rw [show keyV c.acts.n kl i=none from by rw [keyV,hb];rfl]
  repeat' (first|apply ab|apply aj|apply ai|refine ae ?_|refine ac ?_|refine aM ?_|refine aL ?_|refine aJ ?_|refine aH ?_|refine bu ?_|refine cP ?_|refine bg ?_|refine cJ (h:=?_)|refine bI ?_|refine aP fun _=>?_|refine aT fun _=>?_|refine aK ?_|refine aE ?_|apply ay|apply aw|apply aA|(refine bV (cs:=KeyD.zero.cells) (hf:=by rfl) ?_)|((fail_if_success (refine bA ?_));refine bj (ht:=?_) (hf:=?_);all_goals (intro hx_;first|have:=aY hx_|have:=aZ hx_))|(refine aO (ht:=?_) (hf:=?_);all_goals (intro hx_;first|have:=aY hx_|have:=aZ hx_)))
  all_goals first
   | exact aq (cN rfl rfl rfl bF (by rfl)) rfl
   | (exfalso;simp_all;done)
 | false =>
  have hb':=hb
  simp only [Bool.or_eq_false_iff,decide_eq_false_iff_not] at hb'
  obtain ⟨h0,h1⟩:=hb'
  rw [show keyV c.acts.n kl i=keyF kl i kl.length from by rw [keyV,hb];rfl]
  repeat' (first|refine ax (bK false rfl rfl (decide_eq_false h0)) rfl aR rfl ?_|refine nH (hab:=h1) ?_|apply ab|apply aj|apply ai|refine ae ?_|refine ac ?_|refine aM ?_|refine aL ?_|refine aH ?_|refine bg ?_|refine cJ (h:=?_)|refine aP fun _=>?_|refine aT fun _=>?_|refine aD ?_|apply ay|apply aw|fail)
  rename_i b2 b4
  refine be (ι:=KeyI kl i) (fun j=>⟨[(1,.int .i64 i),(2,.pointer (some ⟨b2,0,none⟩)),(4,.pointer (some ⟨b4,0,none⟩)),(6,.int .i64 ((j.k:Nat)-1))],[cel b4 35 KeyD.zero.cells,cel b2 31 c.cells],fun w=>c.at_ w∧Keyz w c.keys kl⟩) (fun j=>j.k) ⟨c.keys.n,by omega,by rw [hkn]⟩ (aF ⟨rfl,rfl,rfl,rfl,trivial⟩ (aQ _) fun _ h=>h) fun j=>?_
  obtain ⟨k,hk,hs⟩:=j
  simp only
  cases k with
  | zero =>
   rw [hs]
   clear hs
   repeat' (first|refine ax (dl false rfl rfl (decide_eq_false ag)) rfl aR rfl ?_|apply ab|apply aj|apply ai|refine ae ?_|refine ac ?_|refine aK ?_|refine aD ?_|apply aA|apply aV|(refine bV (cs:=KeyD.zero.cells) (hf:=by rfl) ?_)|fail)
   exact aq (cN rfl rfl rfl bF (by rfl)) rfl
  | succ k =>
   obtain ⟨y,hy⟩:∃ y,kl[k]?=some y:=⟨_,List.getElem?_eq_getElem ag⟩
   have hyD:kl.getD k KeyD.zero=y:=by rw [List.getD_eq_getElem?_getD,hy];rfl
   have hkp':=hkp ag
   cases hle:decide (y.from_≤i) with
   | true =>
    rw [hs,show keyF kl i (k+1)=some y from by rw [keyF,hyD,hle];rfl]
    clear hs
    have hle':=aY hle
    repeat' (first|refine ax (dl true rfl rfl (decide_eq_true ag)) rfl aR rfl ?_|refine bU (q:=k*3) (u:=.int .i64 y.from_) (hF:=fun w h=>(Keyz.get h.2 hy).2.2 0 _ rfl) ?_|apply ab|apply aj|apply ai|refine ae ?_|refine ac ?_|refine aM ?_|refine aL ?_|refine cF ?_|refine aK ?_|refine aE ?_|apply ay|apply aw|apply aA|(refine bf (q:=k*3) ?_)|(refine cT ?_)|(refine bD (cs:=y.cells) (hF:=fun w h=>Keyz.get h.2 hy) ?_)|fail)
    all_goals first
     | exact aq (cN rfl rfl rfl bF (by rfl)) rfl
     | (exfalso;omega)
   | false =>
    have hs2:keyF kl i kl.length=keyF kl i k:=by rw [hs,keyF,hyD,hle];rfl
    repeat' (first|refine ax (dl true rfl rfl (decide_eq_true ag)) rfl aR rfl ?_|refine bU (q:=k*3) (u:=.int .i64 y.from_) (hF:=fun w h=>(Keyz.get h.2 hy).2.2 0 _ rfl) ?_|apply ab|apply aj|apply ai|refine ae ?_|refine ac ?_|refine aM ?_|refine aL ?_|refine cF ?_|refine cJ (h:=?_)|refine aE ?_|refine aD ?_|apply ay|apply aw|(refine bf (q:=k*3) ?_)|(refine cT ?_)|fail)
    all_goals first
     | exact ⟨(⟨k,by omega,hs2⟩:KeyI kl i),Nat.lt_succ_self k,aF ⟨rfl,rfl,rfl,(by show some (Value.int IntKind.i64 (((k+1:Nat):Int)-1-1))=some (Value.int IntKind.i64 ((k:Int)-1));rw [show ((k+1:Nat):Int)-1-1=(k:Int)-1 from by omega]),trivial⟩ (aQ _) fun _ h=>h⟩
     | (exfalso;exact absurd (by assumption) (aZ hle))
def numL:Nat→Nat→List Nat
 | 0,_=>[]
 | f+1,n=>bif decide (128≤n) then (128+n%128)::numL f (n/128) else [n]
theorem sQ:∀ (f n:Nat),numD f (n:Int)=(numL f n).map fun (n:Nat)=>(n:Int)
 | 0,n=>rfl
 | f+1,n=>by
  rw [numD,numL]
  by_cases h:128≤n
  · have e1:lowD (n:Int)=((128+n%128:Nat):Int):=by
     rw [lowD,show (n:Int).tmod 128=((n%128:Nat):Int) from rfl,show (128:Int)+((n%128:Nat):Int)=((128+n%128:Nat):Int) from by omega,wrap8,Nat.mod_eq_of_lt (by omega)]
    rw [decide_eq_true (show (128:Int)≤(n:Int) by omega),decide_eq_true h,cond_true,cond_true,List.map_cons,e1,show (n:Int).tdiv 128=((n/128:Nat):Int) from rfl,sQ f]
  · rw [decide_eq_false (show ¬ (128:Int)≤(n:Int) by omega),decide_eq_false h,cond_false,cond_false,wrap8,Nat.mod_eq_of_lt (by omega)]
    rfl
theorem sO:∀ (f n:Nat),∀ x∈numL f n,x<256
 | 0,n,x,h=>(List.not_mem_nil h).elim
 | f+1,n,x,h=>by
  rw [numL] at h
  by_cases h1:128≤n
  · rw [decide_eq_true h1,cond_true] at h
    rcases List.mem_cons.1 h with rfl|h
    · omega
    · exact sO f _ x h
  · rw [decide_eq_false h1,cond_false,List.mem_singleton] at h
    omega
theorem gu (n:Nat):nl (numV (n:Int))=numL 10 n:=by
 rw [numV,decide_eq_false ag,cond_false,sQ,fB _ (sO 10 n)]
theorem fZ {n:Int} (h:0≤n):nl (numV n)=numL 10 n.toNat:=by rw [←gu,Int.toNat_of_nonneg h]
def textL (l:List Nat):List Nat:=numL 10 l.length++l
theorem ig (s:ByteArray):nl (textV s)=textL (nl s):=by
 rw [textV,ek,gu,textL,cU]
def boxL (b:BoxD):List Nat:=textL (nl b.nonce)++textL (nl b.data)++textL (nl b.tag)
def coreL (a:ActD):List Nat :=
 textL [97,99,116]++(textL (nl a.author)++(numL 10 a.seq.toNat++(textL (nl a.prev)++(numL 10 a.kind.toNat++(numL 10 a.time.toNat++(textL (nl a.object)++(textL (nl a.target)++(numL 10 a.scope.toNat++(textL (nl a.group)++(numL 10 0++(textL (nl a.text)++(boxL a.body++(numL 10 a.epoch.toNat++(numL 10 0++(numL 10 a.n.toNat++numL 10 a.m.toNat)))))))))))))))
structure ActD.Pos (a:ActD):Prop where
 seq:0≤a.seq
 kind:0≤a.kind
 time:0≤a.time
 scope:0≤a.scope
 epoch:0≤a.epoch
 n:0≤a.n
 m:0≤a.m
 toL:a.toL=[]
 wrapsL:a.wrapsL=[]
theorem oq (a:ActD) (h:a.Pos):nl (coreV a)=coreL a:=by
 have e1:nl (⟨#[97,99,116]⟩:ByteArray)=[97,99,116]:=rfl
 have e2:nl ByteArray.empty=[]:=rfl
 simp only [coreV,core5,core4,core3,core2,core1,boxV,listV,h.toL,h.wrapsL,List.map_nil,List.take_nil,cats,List.length_nil,ek,ig,e1,e2,gu,fZ h.seq,fZ h.kind,fZ h.time,fZ h.scope,fZ h.epoch,fZ h.n,fZ h.m,List.append_assoc,List.append_nil,coreL,boxL]
def hashL (m:List Nat):Nat:=numN (shaL m)
theorem og (xs:List ByteArray) (hs:(catB xs).size<2305843009213693952):hashN xs=hashL (xs.flatMap nl):=by
 rw [hashN,nN _ hs,qY,hashL]
def powF:Nat→Nat→Nat→Nat→Nat
 | 0,_,x,_=>x
 | f+1,e,x,s=>fc (bif decide (e%2=1) then x*s%2305843009213693951 else x) fun x'=>fc (s*s%2305843009213693951) fun s'=>fc (e/2) fun e'=>powF f e' x' s'
theorem sF (a e:Nat):∀ (f i:Nat),powF f (e/2 ^ i) (expF a e i).1 (expF a e i).2=(expF a e (i+f)).1
 | 0,i=>rfl
 | f+1,i=>by
  have ih:=sF a e f (i+1)
  rw [powF,gN,gN,gN,Nat.div_div_eq_div_mul,←Nat.pow_succ,show i+(f+1)=i+1+f by omega,←ih]
  rfl
def powL (a e:Nat):Nat:=powF (Lib.bitLen e) e 1 (a%2305843009213693951)
theorem ol (a e:Nat):expV a e=powL a e:=by
 have h:=sF a e (Lib.bitLen e) 0
 rw [Nat.pow_zero,Nat.div_one,Nat.zero_add] at h
 exact h.symm
theorem lJ {n:Nat} (h:n≤1000000):n<2305843009213693952:=by omega
def nonceL (S:Nat) (m:List Nat):Nat:=reduceN (hashL (textL [110,111,110,99,101]++(numL 10 S++textL m)))
theorem pB (S:Nat) (msg:ByteArray) (hl:(nl msg).length≤100000):nonceN (S:Int) msg=nonceL S (nl msg):=by
 have h1:=bx ⟨#[110,111,110,99,101]⟩
 have h2:=bw (S:Int)
 have h3:=bx msg
 have h5:(⟨#[110,111,110,99,101]⟩:ByteArray).size=5:=rfl
 rw [cU] at hl
 rw [nonceN,nonceL,nonceP,og _ (lJ (by
  rw [eT]
  simp only [List.map_cons,List.map_nil,List.sum_cons,List.sum_nil]
  omega))]
 have e:nl (⟨#[110,111,110,99,101]⟩:ByteArray)=[110,111,110,99,101]:=rfl
 simp only [List.flatMap_cons,List.flatMap_nil,ig,gu,List.append_nil,e]
def chalL (r p:Nat) (m:List Nat):Nat:=hashL (textL [115,105,103,110]++(numL 10 r++(numL 10 p++textL m)))%2305843009213693950
theorem tr (r p:Nat) (msg:ByteArray) (hl:(nl msg).length≤100000):chalN r p msg=chalL r p (nl msg):=by
 have h1:=bx ⟨#[115,105,103,110]⟩
 have h2:=bw (r:Int)
 have h4:=bw (p:Int)
 have h3:=bx msg
 have h5:(⟨#[115,105,103,110]⟩:ByteArray).size=4:=rfl
 rw [cU] at hl
 rw [chalN,chalL,chalP,og _ (lJ (by
  rw [eT]
  simp only [List.map_cons,List.map_nil,List.sum_cons,List.sum_nil]
  omega))]
 have e:nl (⟨#[115,105,103,110]⟩:ByteArray)=[115,105,103,110]:=rfl
 simp only [List.flatMap_cons,List.flatMap_nil,ig,gu,List.append_nil,e]
theorem lZ (a:ActD) (g g':SgD):coreV (a.sig g)=coreV (a.sig g'):=rfl
theorem tn {a:ActD} (hr:rightB a=true) {m:List Nat} (hm:nl (coreV a)=m) (hm0:m.length≠0) (hl:m.length≤100000) {E G:Nat} (he:a.e=(E:Nat)) (hs:a.s=(G:Nat)) {D:ByteArray} (h:shaL (0::(m++(numL 10 E++numL 10 G)))=nl D):digV a=D:=by
 subst hm
 have hsz:(coreV a).size=(nl (coreV a)).length:=(cU _).symm
 have e1:actCore a=coreV a:=by rw [actCore,hr,cond_true]
 have e2:actBytes a=coreV a++numV a.e++numV a.s:=by rw [actBytes,e1,da,decide_eq_false ag,cond_false]
 have e3:bytesV a=numV 0++(coreV a++numV a.e++numV a.s):=by rw [bytesV,hr,cond_true,e2]
 have e4:nl (bytesV a)=0::(nl (coreV a)++(numL 10 E++numL 10 G)):=by
  rw [e3,ek,ek,ek,he,hs,gu,gu,List.append_assoc]
  rfl
 have e5:(bytesV a).size=(nl (coreV a)).length+(numL 10 E++numL 10 G).length+1:=by rw [←cU,e4,List.length_cons,List.length_append]
 have e6:∀ f n,(numL f n).length≤f:=fun f=>by
  induction f with
  | zero=>intro n;exact Nat.le_refl 0
  | succ f ih =>
   intro n
   rw [numL]
   cases decide (128≤n) with
   | true=>have:=ih (n/128);rw [cond_true,List.length_cons];omega
   | false=>rw [cond_false,List.length_singleton];omega
 have e7:(bytesV a).size≤1000000:=by
  have h1:=e6 10 E
  have h2:=e6 10 G
  rw [e5,List.length_append]
  omega
 rw [digV,da,decide_eq_false ag,cond_false]
 apply qX
 rw [nN _ (lJ e7),e4,h]
theorem yt {seed:ByteArray} {S P:Nat} (hsz:seed.size≤1000) (h1:reduceN (hashL (textL [107,101,121]++textL (nl seed)))=S) (h2:powL 37 S=P):keyOf seed=⟨(S:Nat),(P:Nat)⟩:=by
 have h3:=bx ⟨#[107,101,121]⟩
 have h4:=bx seed
 have h5:(⟨#[107,101,121]⟩:ByteArray).size=3:=rfl
 have e:nl (⟨#[107,101,121]⟩:ByteArray)=[107,101,121]:=rfl
 have hk:keyN seed=S:=by
  rw [←h1,keyN,keyP,og _ (lJ (by
   rw [eT]
   simp only [List.map_cons,List.map_nil,List.sum_cons,List.sum_nil]
   omega))]
  simp only [List.flatMap_cons,List.flatMap_nil,ig,List.append_nil,e]
 rw [keyOf,hk,ol,h2]
theorem AZ {P:Nat} {D:ByteArray} (h:(hexL (shaL (textL [97,99,116,111,114]++numL 10 P))).take 16=nl D):idV (P:Int)=D:=by
 apply qX
 have h3:=bx ⟨#[97,99,116,111,114]⟩
 have h4:=bw (P:Int)
 have h5:(⟨#[97,99,116,111,114]⟩:ByteArray).size=5:=rfl
 have e:nl (⟨#[97,99,116,111,114]⟩:ByteArray)=[97,99,116,111,114]:=rfl
 rw [idV,f0,CB,nN _ (lJ (by rw [idText,ByteArray.size_append];omega)),idText,ek,ig,gu,e,←h]
 rfl
theorem jc {k:KyD} {S P:Nat} (hrk:rightK k=true) (hk:k=⟨(S:Nat),(P:Nat)⟩) {a:ActD} (hr:rightB (a.sig SgD.zero)=true) {m:List Nat} (hm:nl (coreV (a.sig SgD.zero))=m) (hl:m.length≤100000) {K R E G:Nat} (h1:nonceL S m=K) (h2:powL 37 K=R) (h3:chalL R P m=E)
  (h4:(K+E*S%2305843009213693950)%2305843009213693950=G):actSignV k a=a.sig ⟨(E:Nat),(G:Nat)⟩:=by
 subst hm
 have e1:sigE k (coreV (a.sig SgD.zero))=E:=by
  rw [sigE,hk]
  show chalN (expV 37 (nonceN (S:Int) _)) ((P:Int)).toNat _=E
  rw [pB S _ hl,h1,ol,h2,Int.toNat_natCast,tr _ _ _ hl,h3]
 have e2:sigS k (coreV (a.sig SgD.zero))=G:=by
  rw [sigS,e1,hk]
  show (nonceN (S:Int) _+E*((S:Int)).toNat%2305843009213693950)%2305843009213693950=G
  rw [pB S _ hl,h1,Int.toNat_natCast,h4]
 rw [actSignV,hr,hrk,Bool.and_true,cond_true,signV,hrk,cond_true,e1,e2]
def ordV (n:Int):Bool:=decide (0≤n)&&decide (n<2305843009213693950)
theorem lN (n:Int):Pu Tryz.prog 108 #[.int .i64 n] (fun _=>True) (.bool (ordV n)):=by
 refine aN (args:=[_]) _ Tryz.func108 rfl Tryz.ntmps108 rfl fun av bor w0=>?_
 repeat' (first|apply ab|apply aj|apply ai|refine ae ?_|refine ac ?_|refine aJ ?_|refine aH ?_|refine bu ?_|refine cL ?_|refine aW ?_|apply aA|((fail_if_success (refine bA ?_));refine bj (ht:=?_) (hf:=?_);all_goals (intro hx_;first|have:=aY hx_|have:=aZ hx_))|fail)
 (all_goals (apply aq;apply aB;rfl;rfl));all_goals (simp only [ordV, *,decide_true,decide_false,cond_true,cond_false,Bool.and_true,Bool.true_and,Bool.and_false,Bool.false_and,Bool.not_true,Bool.not_false,Bool.or_true,Bool.true_or,Bool.or_false,Bool.false_or];done)
def verN (p:Int) (msg:ByteArray) (e s:Int):Bool :=
 bif decide (p<1)||decide (2305843009213693951≤p)||!ordV e||!ordV s then false
 else decide (e=(chalN (expV 37 s.toNat * expV p.toNat (2305843009213693950-e.toNat)%2305843009213693951) p.toNat msg:Nat))
set_option maxHeartbeats 4000000 in
theorem tD (p:Int) (msg:ByteArray) (e s:Int) (hm:msg.size≤1000000000000):Pu Tryz.prog 64 #[.int .i64 p,.string msg,(SgD.v ⟨e,s⟩)] Glob (.bool (verN p msg e s)):=by
 refine aN (args:=[_,_,_]) _ Tryz.func64 rfl Tryz.ntmps64 rfl fun av bor w0=>?_
 have hoe:=lN e
 have hos:=lN s
 cases hbad:(decide (p<1)||decide (2305843009213693951≤p)||!ordV e||!ordV s) with
 | true =>
  rw [show verN p msg e s=false from by rw [verN,hbad];rfl]
  repeat' (first|apply ab|apply aj|apply ai|refine ae ?_|refine ac ?_|refine aM ?_|refine aL ?_|refine aJ ?_|refine aH ?_|refine bE ?_|refine bu ?_|refine cL ?_|refine bI ?_|refine aT fun _=>?_|refine aE ?_|apply ay|apply aA|(refine aC (hc:=hoe) (hX:=fun _ _=>trivial) ?_)|(refine aC (hc:=hos) (hX:=fun _ _=>trivial) ?_)|((fail_if_success (refine bA ?_));refine bj (ht:=?_) (hf:=?_);all_goals (intro hx_;first|have:=aY hx_|have:=aZ hx_|skip))|(refine aO (ht:=?_) (hf:=?_);all_goals (intro hx_;skip)))
  all_goals first
   | (apply aq;apply aB;rfl;rfl;rfl)
   | (exfalso;simp_all;done)
 | false =>
  have hb:=hbad
  simp only [Bool.or_eq_false_iff,decide_eq_false_iff_not,Bool.not_eq_false'] at hb
  obtain ⟨⟨⟨h1,h2⟩,h3⟩,h4⟩:=hb
  have h3':=h3
  have h4':=h4
  simp only [ordV,Bool.and_eq_true,decide_eq_true_eq] at h3' h4'
  rw [h3] at hoe
  rw [h4] at hos
  obtain ⟨pn,rfl⟩:∃ n:Nat,p=(n:Int):=⟨p.toNat,by omega⟩
  obtain ⟨en,rfl⟩:∃ n:Nat,e=(n:Int):=⟨e.toNat,by omega⟩
  obtain ⟨sn,rfl⟩:∃ n:Nat,s=(n:Int):=⟨s.toNat,by omega⟩
  obtain ⟨d,hd⟩:∃ d,2305843009213693950-en=d:=⟨_,rfl⟩
  have hsub:IntKind.i64.wrap ((2305843009213693950:Int)-(en:Int))=(d:Int):=by
   rw [show (2305843009213693950:Int)-(en:Int)=(d:Int) from by omega]
   exact IntWalk.i64_in _ ag
  have he1:=oj 37 sn ag
  have he2:=oj pn d ag
  obtain ⟨x1,hx1⟩:∃ x,expV 37 sn=x:=⟨_,rfl⟩
  obtain ⟨x2,hx2⟩:∃ x,expV pn d=x:=⟨_,rfl⟩
  rw [hx1] at he1
  rw [hx2] at he2
  have hmu:=rF x1 x2
  obtain ⟨r,hr⟩:∃ r,x1*x2%2305843009213693951=r:=⟨_,rfl⟩
  have hrl:r<2305843009213693951:=by rw [←hr];exact Nat.mod_lt _ (by decide)
  rw [hr] at hmu
  have hch:=tq r pn msg ag ag hm
  have hV:verN (pn:Int) msg (en:Int) (sn:Int)=decide (((en:Nat):Int)=(chalN r pn msg:Nat)):=by
   rw [verN,hbad,cond_false,Int.toNat_natCast,Int.toNat_natCast,Int.toNat_natCast,hd,hx1,hx2,hr]
  rw [hV]
  have hbg:¬ (2305843009213693951:Int)≤(pn:Int):=h2
  have hbl:¬ (pn:Int)<1:=h1
  clear hbad hV hr hx1 hx2 hd
  generalize hcn:chalN r pn msg=cn at hch
  repeat' (first|refine ax (bK false rfl rfl (decide_eq_false hbl)) rfl aR rfl ?_|refine ax (dl false rfl rfl (decide_eq_false hbg)) rfl aR rfl ?_|apply ab|apply aj|apply ai|refine ae ?_|refine ac ?_|refine aM ?_|refine aL ?_|refine aH ?_|refine bE ?_|refine aT fun _=>?_|refine aD ?_|apply ay|(refine aC (hc:=hoe) (hX:=fun _ _=>trivial) ?_)|(refine aC (hc:=hos) (hX:=fun _ _=>trivial) ?_)|fail)
  rename_i bs
  (refine bo [cel bs 44 (SgD.cells ⟨(en:Int),(sn:Int)⟩)] Glob ar ?_)
  all_goals refine aa 0 ?_
  all_goals refine aa 1 ?_
  all_goals refine aa 3 ?_
  all_goals refine aa 4 ?_
  all_goals refine aa 5 ?_
  all_goals (refine aa 6 (hy:=by (apply oz (c:=(d:Int));rfl;rfl;exact hsub)) ?_)
  all_goals (refine ao 2 ?_;(refine aC (hc:=he1) (hX:=fun _ h=>by trivial) ?_);apply ab;refine ak ?_)
  all_goals (refine ao 7 ?_;(refine aC (hc:=he2) (hX:=fun _ h=>by trivial) ?_);apply ab;refine ak ?_)
  all_goals (refine ao 8 ?_;(refine aC (hc:=hmu) (hX:=fun _ h=>by trivial) ?_);apply ab;refine ak ?_)
  all_goals refine aa 9 ?_
  all_goals (refine aI ?_)
  all_goals
   repeat' (first|apply aj|fail)
   (refine bo [cel bs 44 (SgD.cells ⟨(en:Int),(sn:Int)⟩)] Glob ar ?_)
   all_goals refine aa 0 ?_
   all_goals refine aa 1 ?_
   all_goals refine aa 2 ?_
   all_goals refine aa 3 ?_
   all_goals refine aa 4 ?_
   all_goals (refine ao 5 ?_;(refine aC (hc:=hch) (hX:=fun _ h=>h) ?_);apply ab;refine ak ?_)
   all_goals refine aa 6 ?_
   all_goals refine aa 7 ?_
   all_goals (refine aI ?_)
   all_goals
    repeat' (first|apply aA|fail)
    exact aq (aB rfl rfl) rfl
def verV (p:Int) (a:ActD):Bool:=rightB a&&verN p (actCore a) a.e a.s
theorem ox (p:Int) (a:ActD) (hr:a.Rng):Pu Tryz.prog 25 #[.int .i64 p,a.v] (fun w=>a.at_ w∧Glob w) (.bool (verV p a)):=by
 refine aN (args:=[_,_]) _ Tryz.func25 rfl Tryz.ntmps25 rfl fun av bor w0=>?_
 have hri:=dO a
 cases hR:rightB a with
 | false =>
  rw [hR] at hri
  rw [show verV p a=false from by rw [verV,hR];rfl]
  repeat' (first|apply ab|apply aj|apply ai|refine ac ?_|refine aT fun _=>?_|fail)
  rename_i b3
  (refine bo [cel b3 46 a.cells] (fun w=>a.at_ w∧Glob w) ar ?_)
  all_goals refine aa 0 ?_
  all_goals (refine ao 1 ?_;(refine aC (hc:=hri) (hX:=fun _ h=>h.1) ?_);apply ab;refine ak ?_)
  all_goals refine aa 2 ?_
  all_goals refine aX 3 ?_
  all_goals refine aX 4 ?_
  all_goals refine aX 6 ?_
  all_goals refine aX 7 ?_
  all_goals (refine ao 5 ?_;(refine aW ?_);apply ab;refine ak ?_)
  all_goals (refine ao 8 ?_;(refine aW ?_);apply ab;refine ak ?_)
  all_goals refine aa 9 ?_
  all_goals refine aa 10 ?_
  all_goals (refine aI ?_)
  all_goals
   repeat' (first|apply aA|fail)
   exact aq (aB rfl rfl) rfl
 | true =>
  rw [hR] at hri
  have hco:=oo a (dz hr)
  have hsz:=eZ (dz hr hR)
  rw [hR,cond_true] at hco
  have hve:=tD p (coreV a) a.e a.s ag
  have hV:verV p a=verN p (coreV a) a.e a.s:=by rw [verV,actCore,hR];rfl
  rw [hV]
  generalize verN p (coreV a) a.e a.s=V at *
  repeat' (first|apply ab|apply aj|apply ai|refine ac ?_|refine aT fun _=>?_|fail)
  rename_i b3
  (refine bo [cel b3 46 a.cells] (fun w=>a.at_ w∧Glob w) ar ?_)
  all_goals refine aa 0 ?_
  all_goals (refine ao 1 ?_;(refine aC (hc:=hri) (hX:=fun _ h=>h.1) ?_);apply ab;refine ak ?_)
  all_goals refine aa 2 ?_
  all_goals refine aa 3 ?_
  all_goals refine aa 4 ?_
  all_goals refine aa 6 ?_
  all_goals (refine aa 7 (hy:=by (apply dE (vs:=SgD.cells ⟨a.e,a.s⟩);rfl;exact .head _;rfl;rfl)) ?_)
  all_goals (refine ao 5 ?_;(refine aC (hc:=hco) (hX:=fun _ h=>h.1) ?_);apply ab;refine ak ?_)
  all_goals (refine ao 8 ?_;(refine aC (hc:=hve) (hX:=fun _ h=>h.2) ?_);apply ab;refine ak ?_)
  all_goals refine aa 9 ?_
  all_goals refine aa 10 ?_
  all_goals (refine aI ?_)
  all_goals
   repeat' (first|apply aA|fail)
   exact aq (aB rfl rfl) rfl
theorem zn {p:Int} {msg:ByteArray} {e s:Int} (h1:decide (p<1)=false) (h2:decide ((2305843009213693951:Int)≤p)=false) (h3:ordV e=true) (h4:ordV s=true)
  (h:(chalN (expV 37 s.toNat * expV p.toNat (2305843009213693950-e.toNat)%2305843009213693951) p.toNat msg:Int)=e):verN p msg e s=true:=by
 rw [verN,h1,h2,h3,h4]
 exact decide_eq_true h.symm
theorem zm {P E G d:Nat} {msg:ByteArray} {m:List Nat} (hm:nl msg=m) (hl:m.length≤100000) {x1 x2 R:Nat} (hP1:1≤P) (hP2:P<2305843009213693951) (hd:E+d=2305843009213693950) (hd0:0<d) (hG:G<2305843009213693950) (h1:powL 37 G=x1) (h2:powL P d=x2) (h3:x1*x2%2305843009213693951=R) (h4:chalL R P m=E) :
  verN (P:Int) msg (E:Int) (G:Int)=true:=by
 subst hm
 have e1:(2305843009213693950:Nat)-E=d:=by omega
 refine zn (decide_eq_false ag) (decide_eq_false ag) (by rw [ordV,decide_eq_true ag,decide_eq_true (by omega)];rfl) (by rw [ordV,decide_eq_true ag,decide_eq_true (by omega)];rfl) ?_
 rw [Int.toNat_natCast,Int.toNat_natCast,Int.toNat_natCast,e1,ol,ol,h1,h2,h3,tr _ _ _ hl,h4]
def nkK:KyD:=⟨((361080046605472372:Nat):Int),((2287805972299522828:Nat):Int)⟩
theorem yg:keyOf ⟨#[97]⟩=nkK:=yt (by decide) (by decide +kernel) (by decide +kernel)
theorem eY:rightK nkK=true:=by rw [←yg];exact pO _
def nkI:ByteArray:=⟨#[97,57,100,101,51,99,52,56,49,98,48,50,97,99,54,53]⟩
theorem BP:idV ((2287805972299522828:Nat):Int)=nkI:=AZ (by decide +kernel)
def nkU0:ActD:={ ActD.zero with author:=nkI,text:=⟨#[97,110,110]⟩,n:=((2287805972299522828:Nat):Int) }
def nkA0:ActD:=nkU0.sig ⟨((969070982370715422:Nat):Int),((1494031495678606698:Nat):Int)⟩
def nkM0:List Nat:=[3,97,99,116,16,97,57,100,101,51,99,52,56,49,98,48,50,97,99,54,53,0,0,0,0,0,0,0,0,0,3,97,110,110,0,0,0,0,0,140,198,184,175,145,237,250,223,31,0]
theorem Dc:nkU0.Pos:=⟨by decide,by decide,by decide,by decide,by decide,by decide,by decide,rfl,rfl⟩
theorem yc:nl (coreV (nkU0.sig SgD.zero))=nkM0:=(oq nkU0 Dc).trans (by decide +kernel)
theorem sR:nkM0.length=49:=by decide +kernel
theorem C8:actSignV nkK nkU0=nkA0:=jc eY rfl (by decide +kernel) yc (by rw [sR];decide) (K:=575135974072219164) (R:=24374903102715755) (by decide +kernel) (by decide +kernel) (by decide +kernel) (by decide +kernel)
def nkD0:ByteArray:=⟨#[44,38,166,122,39,168,187,143,132,255,67,202,155,188,227,96,137,65,191,161,227,94,182,139,167,67,206,246,212,205,56,92]⟩
theorem yb:rightB nkA0=true:=by decide +kernel
theorem BO:digV nkA0=nkD0:=tn yb ((congrArg nl (lZ nkU0 _ _)).trans yc) (by rw [sR];decide) (by rw [sR];decide) (E:=969070982370715422) (G:=1494031495678606698) rfl rfl (by decide +kernel)
theorem C5:verN ((2287805972299522828:Nat):Int) (coreV nkA0) ((969070982370715422:Nat):Int) ((1494031495678606698:Nat):Int)=true:=zm (d:=1336772026842978528) (x1:=474056943505715079) (x2:=856046807767542642) (R:=24374903102715755) ((congrArg nl (lZ nkU0 _ _)).trans yc) (by rw [sR];decide) (by decide) (by decide) (by decide) (by decide) (by decide) (by decide +kernel) (by decide +kernel) (by decide +kernel) (by decide +kernel)
def nkU1:ActD:={ ActD.zero with author:=nkI,seq:=1,kind:=1,prev:=nkD0,text:=⟨#[111,110,101]⟩ }
def nkA1:ActD:=nkU1.sig ⟨((1745971467665368206:Nat):Int),((249620231030421063:Nat):Int)⟩
def nkM1:List Nat:=[3,97,99,116,16,97,57,100,101,51,99,52,56,49,98,48,50,97,99,54,53,1,32,44,38,166,122,39,168,187,143,132,255,67,202,155,188,227,96,137,65,191,161,227,94,182,139,167,67,206,246,212,205,56,92,1,0,0,0,0,0,0,3,111,110,101,0,0,0,0,0,0,0]
theorem Db:nkU1.Pos:=⟨by decide,by decide,by decide,by decide,by decide,by decide,by decide,rfl,rfl⟩
theorem BN:nl (coreV (nkU1.sig SgD.zero))=nkM1:=(oq nkU1 Db).trans (by decide +kernel)
theorem yd:nkM1.length=73:=by decide +kernel
theorem C7:actSignV nkK nkU1=nkA1:=jc eY rfl (by decide +kernel) BN (by rw [yd];decide) (K:=695578195445469381) (R:=1941076540844116606) (by decide +kernel) (by decide +kernel) (by decide +kernel) (by decide +kernel)
def nkD1:ByteArray:=⟨#[17,103,247,97,40,131,175,42,157,198,69,74,214,207,5,4,192,111,239,234,83,97,172,201,67,58,106,179,44,25,212,1]⟩
theorem C9:rightB nkA1=true:=by decide +kernel
theorem Df:digV nkA1=nkD1:=tn C9 ((congrArg nl (lZ nkU1 _ _)).trans BN) (by rw [yd];decide) (by rw [yd];decide) (E:=1745971467665368206) (G:=249620231030421063) rfl rfl (by decide +kernel)
def nkU2:ActD:={ ActD.zero with author:=nkI,seq:=2,kind:=14,prev:=nkD1,object:=nkD1,text:=⟨#[116,119,111]⟩ }
def nkA2:ActD:=nkU2.sig ⟨((1131212179145954523:Nat):Int),((1686672710512934773:Nat):Int)⟩
def nkM2:List Nat:=[3,97,99,116,16,97,57,100,101,51,99,52,56,49,98,48,50,97,99,54,53,2,32,17,103,247,97,40,131,175,42,157,198,69,74,214,207,5,4,192,111,239,234,83,97,172,201,67,58,106,179,44,25,212,1,14,0,32,17,103,247,97,40,131,175,42,157,198,69,74,214,207,5,4,192,111,239,234,83,97,172,201,67,58,106,179,44,25,212,1,0,0,0,0,3,116,119,111,0,0,0,0,0,0,0]
theorem Da:nkU2.Pos:=⟨by decide,by decide,by decide,by decide,by decide,by decide,by decide,rfl,rfl⟩
theorem Dd:nl (coreV (nkU2.sig SgD.zero))=nkM2:=(oq nkU2 Da).trans (by decide +kernel)
theorem De:nkM2.length=105:=by decide +kernel
theorem C6:actSignV nkK nkU2=nkA2:=jc eY rfl (by decide +kernel) Dd (by rw [De];decide) (K:=1068052025637179317) (R:=1150115755801198409) (by decide +kernel) (by decide +kernel) (by decide +kernel) (by decide +kernel)
theorem Co:verV ((2287805972299522828:Nat):Int) nkA0=true:=by
 rw [verV,actCore,yb,cond_true,Bool.true_and]
 exact C5
theorem Dg:seqB nkD0 nkD1=false:=by decide +kernel
def actsFor (L:List ActD) (k:PosK):List ActD:=L.filter fun a=>decide (a.seq=k.1)&&seqB a.prev k.2
structure NextD (q:Nat) (G:List (PosK×SlV)) (L:List ActD) (w:World):Prop where
 map:SMapAt Tryz.prog 98 w q (G.map fun g=>(g.1,g.2.v))
 rows:∀ k,Acts w ((dget G k).getD ⟨none,0,0⟩) (actsFor L k)
theorem gz {κ β γ:Type} [DecidableEq κ] (f:β→γ):∀ (l:List (κ×β)) (k:κ),dget (l.map fun p=>(p.1,f p.2)) k=(dget l k).map f
 | [],_=>rfl
 | (k',v')::r,k=>by
  simp only [List.map_cons,dget,gz f r k]
  cases decide (k=k')<;>rfl
theorem yF {st:ChS} {h:BldH} {sa sk:SlV} {id:ByteArray} (hid:h.id=id) (hn:sa.n=st.acts.length) (a:ActD) (pl:Option Nat):fitsV ⟨h.id,sa,sk,st.prev,(st.gen:Nat),h.fork,st.acts⟩ a pl=fitsV (st.ch id) a pl:=by
 subst hid
 obtain ⟨p,n,c⟩:=sa
 simp only at hn
 subst hn
 rfl
theorem m8 (l:List KeyD):∀ r∈l.map KeyD.cells,r.length=3:=fun r hr=>by
 obtain ⟨c,_,rfl⟩:=List.mem_map.1 hr
 rfl
theorem mT {l:List ActD} (h:l.length≠1):oneA l=none:=by
 match l,h with
 | [],_=>rfl
 | [x],h=>exact absurd rfl h
 | x::y::r,_=>rfl
structure CanI (M:List ActD) (B:ActD→Bool) where
 k:Nat
 hk:k≤M.length
 A:Option Addr
 c:Nat
 n:Nat
 hn:n=((M.take k).filter B).length
 xs:List Value
 hxs:xs=(((M.take k).filter B).map ActD.cells).flatten
set_option maxHeartbeats 16000000 in
theorem ot (b:Nat) (h:BldH) (sa sk:SlV) (st:ChS) (pl:List (ByteArray×Value)) (ok:BldOk sa sk st pl) (W:OfW) (G:List (PosK×SlV)) (hI:InvS W st) (hid:h.id=W.id)
  (hok:ActsOk W.L) (hL:W.L.length≤100000) (hB:W.B≤100000)
  (hver:∀ a∈W.L,∀ p:Int,Pu Tryz.prog 25 #[.int .i64 p,a.v] (fun w=>a.at_ w∧Glob w) (.bool (W.ver p a))) :
  Ct Tryz.prog 44 #[.pointer (some ⟨b,0,none⟩)] (bldR b h sa sk st pl) (fun w=>(NextD h.q1 G W.L w∧∀ a∈W.L,a.at_ w)∧Glob w)
   (fun u R _=>(∀ a,oneA (candL W st)=some a→BldAt b h (addS st a) (.bool true) u R)∧(oneA (candL W st)=none→BldAt b { h with fork:=decide (1<(candL W st).length) } st (.bool false) u R)):=by
 have hlen:=hI.len
 have hkn:=hI.keyn
 have hgen:=hI.gen
 have ok':=ok
 obtain ⟨hn,hk,hp⟩:=ok
 refine dD (args:=[_]) _ Tryz.func44 rfl Tryz.ntmps44 rfl fun av bor w0=>?_
 obtain ⟨K,hK⟩:∃ K,st.keys[st.keys.length-1]?=some K:=⟨_,List.getElem?_eq_getElem (by have:=hI.key;omega)⟩
 have hKey:st.key=K.public_:=by rw [ChS.key,List.getD_eq_getElem?_getD,hK];rfl
 have hk0:=hI.key
 obtain ⟨M,hM⟩:∃ M,actsFor W.L ((sa.n:Int),st.prev)=M:=⟨_,rfl⟩
 have hcand:candL W st=M.filter (candB W st):=by rw [candL,←hM,actsFor,hn];rfl
 have hMm:∀ a∈M,a∈W.L:=fun a ha=>by rw [←hM] at ha;exact (List.mem_filter.1 ha).1
 have hMl:M.length≤W.L.length:=by rw [←hM];exact List.length_filter_le _ _
 obtain ⟨s,hs⟩:∃ s,(dget G ((sa.n:Int),st.prev)).getD ⟨none,0,0⟩=s:=⟨_,rfl⟩
 have hgl:∃ o,dget (G.map fun g=>(g.1,g.2.v)) ((sa.n:Int),st.prev)=o∧o.getD (.slice none 0 0)=s.v:=by
  refine ⟨_,rfl,?_⟩
  rw [gz,←hs]
  cases dget G ((sa.n:Int),st.prev)<;>rfl
 obtain ⟨o,ho,hov⟩:=hgl
 refine bt (p:=s.n=M.length∧s.n≤maxLen∧(0<M.length→s.p.isSome=true)) (fun w h=>by
  have h1:=h.1.1.rows ((sa.n:Int),st.prev)
  rw [hs,hM] at h1
  exact ⟨h1.len_,h1.max_,h1.some_⟩) fun ⟨hsn,hsm,hsp⟩=>?_
 simp only [maxLen] at hsm
 have hro:∀ w,((NextD h.q1 G W.L w∧∀ a∈W.L,a.at_ w)∧Glob w)→Acts w s M:=fun w h=>by
  have h1:=h.1.1.rows ((sa.n:Int),st.prev)
  rwa [hs,hM] at h1
 unfold bldR keyR actR
 refine de (r:=orow 35 3 (.slice sk.p sk.n sk.c) sk.n (st.keys.map KeyD.cells).flatten) bF (p:=sk.p.isSome=true) (fun w h=>cR h ag) fun hkp=>?_
 repeat' (first|apply ab|apply aj|apply ai|refine ac ?_|refine bX ?_|refine aM ?_|refine aL ?_|refine aT fun _=>?_|fail)
 rename_i b1
 have hLOC:True:=trivial
 (refine bo [cel b1 92 [.pointer (some ⟨b,0,none⟩)],cel b 96 (bldC h sa sk st.prev (st.gen:Nat)),orow 46 20 (.slice sa.p sa.n sa.c) sa.n (st.acts.map ActD.cells).flatten,orow 35 3 (.slice sk.p sk.n sk.c) sk.n (st.keys.map KeyD.cells).flatten,mapr h.q2 pl] (fun w=>(NextD h.q1 G W.L w∧∀ a∈W.L,a.at_ w)∧Glob w) ar ?_)
 all_goals refine az 0 ?_
 all_goals refine az 1 ?_
 all_goals refine az 2 ?_
 all_goals refine az 3 ?_
 all_goals refine az 4 ?_
 all_goals refine az 5 ?_
 all_goals refine az 6 ?_
 all_goals refine az 7 ?_
 all_goals refine az 8 ?_
 all_goals refine az 9 ?_
 all_goals (refine az 10 (hy:=by (apply bp (q:=(sk.n-1)*3);rfl;rfl;omega;omega;assumption;omega)) ?_)
 all_goals (refine az 11 (hy:=by (apply cw;rfl;assumption;rfl)) ?_)
 all_goals (refine az 12 (hy:=by (apply eJ (xs:=st.keys.map KeyD.cells) (cs:=K.cells) (i:=sk.n-1) (j:=1) (u:=.int .i64 K.public_);rfl;(repeat (first|exact aU|apply List.mem_cons_of_mem));(simp [hk]);exact m8 st.keys;(simp [hk,hK]);rfl)) ?_)
 all_goals refine az 13 ?_
 all_goals (refine aI ?_)
 repeat' (first|apply ab|apply aj|apply ai|refine ac ?_|(refine eA ?_)|fail)
 (refine bo [cel b1 92 [.pointer (some ⟨b,0,none⟩)],cel b 96 (bldC h sa sk st.prev (st.gen:Nat)),orow 46 20 (.slice sa.p sa.n sa.c) sa.n (st.acts.map ActD.cells).flatten,orow 35 3 (.slice sk.p sk.n sk.c) sk.n (st.keys.map KeyD.cells).flatten,mapr h.q2 pl] (fun w=>(NextD h.q1 G W.L w∧∀ a∈W.L,a.at_ w)∧Glob w) ar ?_)
 all_goals refine az 0 ?_
 all_goals refine az 1 ?_
 all_goals refine az 2 ?_
 all_goals refine az 3 ?_
 all_goals refine az 4 ?_
 all_goals refine az 5 ?_
 all_goals refine az 6 ?_
 all_goals refine az 7 ?_
 all_goals refine az 8 ?_
 all_goals refine az 9 ?_
 all_goals refine az 10 ?_
 all_goals refine az 11 ?_
 all_goals refine az 12 ?_
 all_goals (refine az 13 (hy:=by (apply cd (cs:=[.int .i64 (sa.n:Nat),.string st.prev]);rfl;rfl)) ?_)
 all_goals refine az 16 ?_
 all_goals (refine ao 14 ?_;(refine ax (mn (κ:=PosK) (kk:=((sa.n:Int),st.prev)) (z:=.slice none 0 0) (o:=o) (v:=s.v) rfl rfl (oO fun w h=>h.1.1.map) ho hov) rfl rfl rfl ?_);apply ab;refine dA ?_)
 all_goals refine az 15 ?_
 all_goals (refine aI ?_)
 apply aw
 refine cf 46 20 ?_
 refine be (ι:=CanI M (candB W st)) (fun i=>⟨[(1,.pointer (some ⟨b1,0,none⟩)),(3,.pointer (some ⟨b,2,none⟩)),(4,.int .i64 K.public_),(5,.func (.func 85) #[] #[.pointer (some ⟨b1,0,none⟩)]),(6,.slice i.A i.n i.c),(40,s.v),(41,.int .i64 (s.n:Nat)),(42,.int .i64 (i.k:Nat))],[orow 46 20 (.slice i.A i.n i.c) i.n i.xs,cel b1 92 [.pointer (some ⟨b,0,none⟩)],cel b 96 (bldC h sa sk st.prev (st.gen:Nat)),orow 46 20 (.slice sa.p sa.n sa.c) sa.n (st.acts.map ActD.cells).flatten,orow 35 3 (.slice sk.p sk.n sk.c) sk.n (st.keys.map KeyD.cells).flatten,mapr h.q2 pl],(fun w=>(NextD h.q1 G W.L w∧∀ a∈W.L,a.at_ w)∧Glob w)⟩) (fun i=>M.length-i.k) ⟨0,Nat.zero_le _,none,0,0,rfl,[],rfl⟩ (aF ⟨rfl,rfl,rfl,rfl,rfl,rfl,rfl,rfl,trivial⟩ (aQ _) fun _ h=>h) fun i=>?_
 obtain ⟨k,hk',A,cc,n,hn',xs,hxs⟩:=i
 simp only
 have hnl:n≤100000:=by have h1:=List.length_filter_le (candB W st) (M.take k);rw [←hn',List.length_take] at h1;omega
 repeat' (first|apply ab|apply aj|apply ai|refine ae ?_|refine ac ?_|refine bX ?_|refine aM ?_|refine cZ ?_|refine bu ?_|refine cP ?_|refine bg ?_|refine br ?_|apply ay|apply aw|apply aA|apply aV|(refine aO (ht:=?_) (hf:=?_);all_goals (intro hx_;first|have:=aY hx_|have:=aZ hx_|skip)))
 · have hlt:k<M.length:=by omega
   have hsp':=hsp ag
   obtain ⟨a,ha⟩:∃ a,M[k]?=some a:=⟨_,List.getElem?_eq_getElem hlt⟩
   have ham:a∈M:=List.mem_of_getElem? ha
   repeat' (first|apply ab|apply aj|refine aP fun _=>?_|refine aK ?_|(refine bf (q:=k*20) ?_)|(refine bD (cs:=a.cells) (hF:=fun w h=>Acts.get (hro w h) ha) ?_)|fail)
   rename_i b8
   have hf:=td ⟨h.id,sa,sk,st.prev,(st.gen:Nat),h.fork,st.acts⟩ a 85 [.pointer (some ⟨b1,0,none⟩)] (idxV st.acts a.object) _ (yS b b1 h sa sk st pl hp a.object) (fun j hj=>iI hj)
   rw [yF hid hn] at hf
   have hXf:∀ w,((NextD h.q1 G W.L w∧∀ a∈W.L,a.at_ w)∧Glob w)→(∀ r∈[cel b8 46 a.cells,orow 46 20 (.slice A n cc) n xs,cel b1 92 [.pointer (some ⟨b,0,none⟩)],cel b 96 (bldC h sa sk st.prev (st.gen:Nat)),orow 46 20 (.slice sa.p sa.n sa.c) sa.n (st.acts.map ActD.cells).flatten,orow 35 3 (.slice sk.p sk.n sk.c) sk.n (st.keys.map KeyD.cells).flatten,mapr h.q2 pl],r.F w)→(ChainD.at_ w ⟨h.id,sa,sk,st.prev,(st.gen:Nat),h.fork,st.acts⟩∧a.at_ w∧CelD b1 [.pointer (some ⟨b,0,none⟩)] w∧CelD b (bldC h sa sk st.prev (st.gen:Nat)) w∧MapAt w h.q2 pl):=fun w hw hr =>
    ⟨eg (hr _ (.tail _ (.tail _ (.tail _ (.tail _ (.head _)))))) hn (fun x hx=>hw.1.2 x (hI.mem x hx)),hw.1.2 a (hMm a ham),ke (hr _ (.tail _ (.tail _ (.head _)))),ke (hr _ (.tail _ (.tail _ (.tail _ (.head _))))),hr _ (.tail _ (.tail _ (.tail _ (.tail _ (.tail _ (.tail _ (.head _)))))))⟩
   have hv:=hver a (hMm a ham) K.public_
   have htk:((M.take (k+1)).filter (candB W st))=(M.take k).filter (candB W st)++(bif candB W st a then [a] else []):=by
    rw [List.take_add_one,ha,List.filter_append,Option.toList_some]
    congr 1
   have hcb:candB W st a=(fitsV (st.ch W.id) a (idxV st.acts a.object)&&W.ver K.public_ a):=by rw [candB,hKey]
   cases hfv:fitsV (st.ch W.id) a (idxV st.acts a.object) with
   | false =>
    rw [hfv] at hf hcb
    have hno:(M.take (k+1)).filter (candB W st)=(M.take k).filter (candB W st):=by simp [htk,hcb]
    (refine bo [cel b8 46 a.cells,orow 46 20 (.slice A n cc) n xs,cel b1 92 [.pointer (some ⟨b,0,none⟩)],cel b 96 (bldC h sa sk st.prev (st.gen:Nat)),orow 46 20 (.slice sa.p sa.n sa.c) sa.n (st.acts.map ActD.cells).flatten,orow 35 3 (.slice sk.p sk.n sk.c) sk.n (st.keys.map KeyD.cells).flatten,mapr h.q2 pl] (fun w=>(NextD h.q1 G W.L w∧∀ a∈W.L,a.at_ w)∧Glob w) ar ?_)
    all_goals refine az 0 ?_
    all_goals refine az 1 ?_
    all_goals (refine az 2 (hy:=by (apply dE (vs:=[.string h.id,.slice sa.p sa.n sa.c,.slice sk.p sk.n sk.c,.string st.prev,.int .i64 (st.gen:Nat),.bool h.fork]);rfl;(repeat (first|exact aU|apply List.mem_cons_of_mem));rfl;rfl)) ?_)
    all_goals refine az 3 ?_
    all_goals refine az 4 ?_
    all_goals (refine ao 5 ?_;(refine gT (hc:=hf) (hX:=hXf) ?_);apply ab;refine dA ?_)
    all_goals refine az 6 ?_
    all_goals refine nm 7 ?_
    all_goals refine nm 8 ?_
    all_goals (refine ao 9 ?_;(refine aW ?_);apply ab;refine dA ?_)
    all_goals refine az 10 ?_
    all_goals (refine aI ?_)
    all_goals
     repeat' (first|apply ab|apply ai|refine ae ?_|refine bm (h:=?_)|refine aD ?_|apply ay|fail)
     exact ⟨(⟨k+1,hlt,A,cc,n,by rw [hno];exact hn',xs,by rw [hno];exact hxs⟩:CanI M (candB W st)),(by show M.length-(k+1)<M.length-k;omega),aF ⟨rfl,rfl,rfl,rfl,rfl,rfl,rfl,rfl,trivial⟩ (List.Sublist.cons _ (aQ _)) fun _ h=>h⟩
   | true =>
    rw [hfv] at hf hcb
    cases hve:W.ver K.public_ a with
    | false =>
     rw [hve] at hv hcb
     have hno:(M.take (k+1)).filter (candB W st)=(M.take k).filter (candB W st):=by simp [htk,hcb]
     (refine bo [cel b8 46 a.cells,orow 46 20 (.slice A n cc) n xs,cel b1 92 [.pointer (some ⟨b,0,none⟩)],cel b 96 (bldC h sa sk st.prev (st.gen:Nat)),orow 46 20 (.slice sa.p sa.n sa.c) sa.n (st.acts.map ActD.cells).flatten,orow 35 3 (.slice sk.p sk.n sk.c) sk.n (st.keys.map KeyD.cells).flatten,mapr h.q2 pl] (fun w=>(NextD h.q1 G W.L w∧∀ a∈W.L,a.at_ w)∧Glob w) ar ?_)
     all_goals refine az 0 ?_
     all_goals refine az 1 ?_
     all_goals (refine az 2 (hy:=by (apply dE (vs:=[.string h.id,.slice sa.p sa.n sa.c,.slice sk.p sk.n sk.c,.string st.prev,.int .i64 (st.gen:Nat),.bool h.fork]);rfl;(repeat (first|exact aU|apply List.mem_cons_of_mem));rfl;rfl)) ?_)
     all_goals refine az 3 ?_
     all_goals refine az 4 ?_
     all_goals (refine ao 5 ?_;(refine gT (hc:=hf) (hX:=hXf) ?_);apply ab;refine dA ?_)
     all_goals refine az 6 ?_
     all_goals refine az 7 ?_
     all_goals refine az 8 ?_
     all_goals (refine ao 9 ?_;(refine aC (hc:=hv) (hX:=fun w h=>⟨h.1.2 a (hMm a ham),h.2⟩) ?_);apply ab;refine dA ?_)
     all_goals refine az 10 ?_
     all_goals (refine aI ?_)
     all_goals
      repeat' (first|apply ab|apply ai|refine ae ?_|refine bm (h:=?_)|refine aD ?_|apply ay|fail)
      exact ⟨(⟨k+1,hlt,A,cc,n,by rw [hno];exact hn',xs,by rw [hno];exact hxs⟩:CanI M (candB W st)),(by show M.length-(k+1)<M.length-k;omega),aF ⟨rfl,rfl,rfl,rfl,rfl,rfl,rfl,rfl,trivial⟩ (List.Sublist.cons _ (aQ _)) fun _ h=>h⟩
    | true =>
     rw [hve] at hv hcb
     have hyes:(M.take (k+1)).filter (candB W st)=(M.take k).filter (candB W st)++[a]:=by rw [htk,hcb];rfl
     (refine bo [cel b8 46 a.cells,orow 46 20 (.slice A n cc) n xs,cel b1 92 [.pointer (some ⟨b,0,none⟩)],cel b 96 (bldC h sa sk st.prev (st.gen:Nat)),orow 46 20 (.slice sa.p sa.n sa.c) sa.n (st.acts.map ActD.cells).flatten,orow 35 3 (.slice sk.p sk.n sk.c) sk.n (st.keys.map KeyD.cells).flatten,mapr h.q2 pl] (fun w=>(NextD h.q1 G W.L w∧∀ a∈W.L,a.at_ w)∧Glob w) ar ?_)
     all_goals refine az 0 ?_
     all_goals refine az 1 ?_
     all_goals (refine az 2 (hy:=by (apply dE (vs:=[.string h.id,.slice sa.p sa.n sa.c,.slice sk.p sk.n sk.c,.string st.prev,.int .i64 (st.gen:Nat),.bool h.fork]);rfl;(repeat (first|exact aU|apply List.mem_cons_of_mem));rfl;rfl)) ?_)
     all_goals refine az 3 ?_
     all_goals refine az 4 ?_
     all_goals (refine ao 5 ?_;(refine gT (hc:=hf) (hX:=hXf) ?_);apply ab;refine dA ?_)
     all_goals refine az 6 ?_
     all_goals refine az 7 ?_
     all_goals refine az 8 ?_
     all_goals (refine ao 9 ?_;(refine aC (hc:=hv) (hX:=fun w h=>⟨h.1.2 a (hMm a ham),h.2⟩) ?_);apply ab;refine dA ?_)
     all_goals refine az 10 ?_
     all_goals (refine aI ?_)
     all_goals
      repeat' (first|refine bH (size:=20) (vs:=[a.v]) (css:=a.cells) (hsz:=by rfl) (hcs:=by rfl) fun _=>?_|apply ai|refine ae ?_|refine aG ?_|refine aE ?_|fail)
      refine aS (size:=20) (news:=a.cells) (q:=1) rfl rfl rfl rfl (fun _=>At.there _ (At.there _ (At.here _))) (fun w G=>bq G aU rfl rfl 1) ag (by simp only [maxLen];omega) rfl ?_ rfl ?_
      · (with_reducible rfl)
      intro A2 c2
      repeat' (first|apply ab|apply ai|refine ae ?_|refine ac ?_|refine bm (h:=?_)|fail)
      exact ⟨(⟨k+1,hlt,A2,c2,n+1,by rw [hyes,List.length_append,←hn'];rfl,xs++a.cells,by rw [hyes,hxs];simp⟩:CanI M (candB W st)),(by show M.length-(k+1)<M.length-k;omega),aF ⟨rfl,rfl,rfl,rfl,rfl,rfl,rfl,rfl,trivial⟩ (List.Sublist.cons _ (List.Sublist.cons _ (aQ _))) fun _ h=>h⟩
 have hkE:k=M.length:=by omega
 have hfin:candL W st=(M.take k).filter (candB W st):=by rw [hcand,hkE,List.take_length]
 have hnc:n=(candL W st).length:=by rw [hfin];exact hn'
 · have hn1:n≠1:=by
    intro e
    rw [e] at hx_
    exact absurd hx_ (by decide)
   have hone:oneA (candL W st)=none:=mT ag
   have hdc:decide ((1:Int)<(n:Int))=decide (1<(candL W st).length):=by
    rw [←hnc]
    by_cases h1:1<n
    · rw [decide_eq_true h1,decide_eq_true (by omega)]
    · rw [decide_eq_false h1,decide_eq_false (by omega)]
   refine aq (aB rfl rfl) ⟨bldR b { h with fork:=decide ((1:Int)<(n:Int)) } sa sk st pl,List.Sublist.cons _ (List.Sublist.cons _ (aQ _)),fun a ha=>?_,fun _=>?_⟩
   · rw [hone] at ha
     cases ha
   · rw [←hdc]
     exact ⟨rfl,sa,sk,pl,ok',rfl⟩
 have hkE:k=M.length:=by omega
 have hfin:candL W st=(M.take k).filter (candB W st):=by rw [hcand,hkE,List.take_length]
 have hnc:n=(candL W st).length:=by rw [hfin];exact hn'
 have hn1:n=1:=by
  by_cases e:n=1
  · exact e
  · exact absurd hx_ (by simp;omega)
 obtain ⟨a,ha⟩:∃ a,candL W st=[a]:=List.length_eq_one_iff.1 ag
 have ham:a∈W.L:=(p7 (show a∈candL W st from by rw [ha];exact List.mem_singleton.2 rfl)).1
 have hxa:xs=a.cells:=by rw [hxs,←hfin,ha];simp
 subst hxa
 subst hn1
 refine de (r:=orow 46 20 (.slice A 1 cc) 1 a.cells) bF (p:=A.isSome=true) (fun w h=>cR h (by decide)) fun hAp=>?_
 have had:=yY b h sa sk st pl ok' a (hok.rng a ham) (hok.sm a ham) ag ag
 (refine bo [] (fun _=>True) ar ?_)
 all_goals refine aa 1 ?_
 all_goals (refine aa 2 (hy:=by (apply bp (q:=0);rfl;rfl;omega;omega;assumption;rfl)) ?_)
 all_goals (refine bS 0 3 (h:=?_) (h':=?_);(focus (((refine aL ?_);apply ab;refine ak ?_);all_goals ((refine ao 3 ?_;(refine ax (iV (size:=20) (m:=1) (i:=0) (xs:=[a.cells]) (cs:=a.cells) rfl (by exact aU) rfl (fun r hr=>by rw [List.mem_singleton.1 hr];rfl) rfl) rfl rfl rfl ?_);apply ab;refine ak ?_);all_goals (refine ao 4 ?_;(refine eu (l:=bldR b h sa sk st pl++[orow 46 20 (.slice A 1 cc) 1 a.cells,cel b1 92 [.pointer (some ⟨b,0,none⟩)]]) (List.perm_append_comm (l₁:=[orow 46 20 (.slice A 1 cc) 1 a.cells,cel b1 92 [.pointer (some ⟨b,0,none⟩)]]) (l₂:=bldR b h sa sk st pl)) ?_;refine dj (pre:=bldR b h sa sk st pl) (fr:=[orow 46 20 (.slice A 1 cc) 1 a.cells,cel b1 92 [.pointer (some ⟨b,0,none⟩)]]) (first:=#[]) (caps:=#[]) (hc:=had) (hX:=fun w hw=>⟨hw.1.2 a ham,hw.2⟩) (h:=?_);rintro v R X' ⟨rfl,sa2,sk2,pl2,ok2,rfl⟩;simp only [bldR,List.cons_append,List.nil_append]);apply ab;refine ak ?_);all_goals (refine aI ?_))));rotate_right;(focus (((refine ax (iV (size:=20) (m:=1) (i:=0) (xs:=[a.cells]) (cs:=a.cells) rfl (by exact aU) rfl (fun r hr=>by rw [List.mem_singleton.1 hr];rfl) rfl) rfl rfl rfl ?_);apply ab;refine ak ?_);all_goals ((refine ao 0 ?_;(refine aL ?_);apply ab;refine ak ?_);all_goals (refine ao 4 ?_;(refine eu (l:=bldR b h sa sk st pl++[orow 46 20 (.slice A 1 cc) 1 a.cells,cel b1 92 [.pointer (some ⟨b,0,none⟩)]]) (List.perm_append_comm (l₁:=[orow 46 20 (.slice A 1 cc) 1 a.cells,cel b1 92 [.pointer (some ⟨b,0,none⟩)]]) (l₂:=bldR b h sa sk st pl)) ?_;refine dj (pre:=bldR b h sa sk st pl) (fr:=[orow 46 20 (.slice A 1 cc) 1 a.cells,cel b1 92 [.pointer (some ⟨b,0,none⟩)]]) (first:=#[]) (caps:=#[]) (hc:=had) (hX:=fun w hw=>⟨hw.1.2 a ham,hw.2⟩) (h:=?_);rintro v R X' ⟨rfl,sa2,sk2,pl2,ok2,rfl⟩;simp only [bldR,List.cons_append,List.nil_append]);apply ab;refine ak ?_);all_goals (refine aI ?_)))))
 all_goals
  repeat' (first|apply ab|apply aj|apply ai|refine ac ?_|apply aA|fail)
  refine aq (aB rfl rfl) ⟨bldR b h sa2 sk2 (addS st a) pl2,List.sublist_append_left _ _,fun a' ha'=>?_,fun ho=>?_⟩
  · rw [ha,oneA,Option.some.injEq] at ha'
    subst ha'
    exact ⟨rfl,sa2,sk2,pl2,ok2,rfl⟩
  · rw [ha] at ho
    cases ho
end Go.Proofs.YtfnjklhjngphmaaGreatDoor
