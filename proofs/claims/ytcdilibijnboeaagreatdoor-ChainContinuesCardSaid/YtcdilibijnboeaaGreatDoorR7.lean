/- Joined by program out of: ZlB ZmB ZnB Zh Zi Kc Si Zj Zv. -/
import Derived.Test.YtcdilibijnboeaaGreatDoorR6
import Derived.Shelf.Slices.CompactS
import Derived.Lib.RowBridge
import Derived.Shelf.SlIter.Nil
import Derived.Shelf.SlIterI.Nil
import Derived.Shelf.SortM.Plain
import Derived.Shelf.SortM.SortNone
import Derived.Shelf.Slices.CompactI
import Derived.Test.YtcdilibijnboeaaGreatDoorProg
set_option linter.unusedVariables false
set_option linter.unusedSimpArgs false
namespace Go.Proofs.YtcdilibijnboeaaGreatDoor
open Go Go.Proofs Sy SrG
namespace SrB
theorem cellsF (P:List FndB):∀ r∈P.map FndB.cells,r.length=9:=fun r hr=>by
 obtain ⟨c,_,rfl⟩:=List.mem_map.1 hr
 rfl
abbrev postR (s:SlV) (P:List FndB):Res:=orow 261 9 (.slice s.p s.n s.c) s.n (P.map FndB.cells).flatten
theorem cV:∀ (L:List FndB) (p:Nat) (x:FndB),p<L.length→(L.map FndB.cells).flatten.take (p*9)++x.cells++(L.map FndB.cells).flatten.drop (p*9+9)=((L.set p x).map FndB.cells).flatten
 | [],p,x,h=>absurd h (by simp)
 | c::L,0,x,h=>by
  have h6:c.cells.length=9:=rfl
  rw [List.set_cons_zero,Qt,Qt,List.flatten_cons,List.flatten_cons,Nat.zero_mul,Ql,List.take_zero,Qb,List.drop_append,h6,List.drop_of_length_le (by omega)]
  rfl
 | c::L,p+1,x,h=>by
  have h6:c.cells.length=9:=rfl
  have ih:=cV L p x (by simpa using h)
  rw [List.set_cons_succ,Qt,Qt,List.flatten_cons,List.flatten_cons,←ih,List.take_append,List.drop_append,h6,List.take_of_length_le ae,List.drop_of_length_le ae,
   show (p+1)*9-9=p*9 from by omega,show (p+1)*9+9-9=p*9+9 from by omega,Qb,ZZ,ZZ,ZZ]
theorem d8 {P:List FndB} {i j:Nat} {x y:FndB} (hi:P[i]?=some x) (hj:P[j]?=some y):((P.set i y).set j x).Perm P:=by
 obtain ⟨h1,rfl⟩:=List.getElem?_eq_some_iff.1 hi
 obtain ⟨h2,rfl⟩:=List.getElem?_eq_some_iff.1 hj
 exact List.set_set_perm h1 h2
section
variable {N:Nat} {av bor:List Nat} {w0:World} {st:St} {ty:TypeId} {x y:Operand} {E:Env} {loc:List Res} {X:World→Prop} {ops:Array Oper} {kk:St→Prop} {pos:String} {af:Array Edge} {g:Option (Nat×Bool)} {rest:List Oper} {bb want:Bool}
theorem br {A:Option Addr} {m c i:Nat} {P:List FndB} {p:FndB} (hx:ev st.env x=some (elP A (i*9))) (hm:orow 261 9 (.slice A m c) m (P.map FndB.cells).flatten∈st.loc) (hn:m=P.length) (hi:P[i]?=some p) :
  Sy.Yields Tryz.prog N av bor w0 st (.load 261 x) ty (.agg p.cells.toArray):=gb (xs:=P.map FndB.cells) (cs:=p.cells) hx hm (by simp [hn]) (cellsF P) (by simp [hi])
theorem bT {d:Option Tmp} {loc':List Res} {A:Option Addr} {m c i:Nat} {P:List FndB} {p:FndB} (hx:ev E x=some (elP A (i*9)):=by rfl) (hy:ev E y=some (.agg p.cells.toArray):=by rfl) (hi:i<m:=by omega) (hn:m=P.length)
  (hA:At (orow 261 9 (.slice A m c) m (P.map FndB.cells).flatten) (orow 261 9 (.slice A m c) m ((P.set i p).map FndB.cells).flatten) loc loc':=by (repeat (first|exact At.here _|apply At.there))) (hg:gdB ops E g=some (bb,want):=by rfl) (hb:bb=want:=by exact aE) (hd:inB N d=true:=by rfl)
  (h:Sw Tryz.prog N av bor w0 ops rest ⟨putE E d undef,loc',X⟩ kk):Sw Tryz.prog N av bor w0 ops (⟨d,.store 261 x y,ty,pos,af,g⟩::rest) ⟨E,loc,X⟩ kk :=
 oo (i:=i) (size:=9) (vs:=p.cells) al hx hy rfl rfl rfl hi (cV P i p ae) hA hg hb hd h
end
def PermAt (s:SlV) (P:List FndB) (u:Value) (R:List Res) (X:World→Prop):Prop:=u=.tuple #[]∧∃ Q:List FndB,Q.Perm P∧R=[postR s Q]
structure PermI (P:List FndB) (n:Nat) where
 k:Nat
 hk:k≤n
 Q:List FndB
 hQ:Q.Perm P
set_option maxHeartbeats 4000000 in
theorem cQ (s:SlV) (P:List FndB) (a b n:Nat) (fv:Value) (hs:s.n=P.length) (hm:s.n≤1000000) (ha:a+n≤s.n) (hb:b+n≤s.n) :
  Ct Tryz.prog 269 #[s.v,.int .i64 (a:Nat),.int .i64 (b:Nat),.int .i64 (n:Nat),fv] [postR s P] (fun _=>True) (PermAt s P):=by
 refine cj (args:=[_,_,_,_,_]) _ Tryz.func269 rfl Tryz.ntmps269 rfl fun av bor w0=>?_
 refine cS (r:=postR s P) aJ (p:=0<s.n→s.p.isSome=true) (fun w h hn=>cI h hn) fun hp=>?_
 repeat' (first|apply ab|apply Qu|apply Qv|refine ad ?_|apply Qw|fail)
 refine aT (ι:=PermI P n) (fun i=>⟨[(0,s.v),(1,.int .i64 (a:Nat)),(2,.int .i64 (b:Nat)),(3,.int .i64 (n:Nat)),(10,.int .i64 (i.k:Nat))],[postR s i.Q],fun _=>True⟩) (fun i=>n-i.k) ⟨0,Nat.zero_le _,P,List.Perm.refl _⟩ (ax ⟨rfl,rfl,rfl,rfl,rfl,trivial⟩ (aG _) fun _ h=>h) fun i=>?_
 obtain ⟨k,hk,Q,hQ⟩:=i
 simp only
 have hl:=hQ.length_eq
 repeat' (first|apply ab|apply Qu|apply Qv|refine aj ?_|refine bj ?_|apply Qx|apply Qw|apply aS|(refine aF (ht:=?_) (hf:=?_);all_goals (intro hx_;first|have:=aO hx_|have:=aQ hx_)))
 · have hlt:k<n:=by omega
   have hp':=hp ae
   obtain ⟨x,hx⟩:∃ x,Q[a+k]?=some x:=⟨_,Zm ae⟩
   obtain ⟨y,hy⟩:∃ y,Q[b+k]?=some y:=⟨_,Zm ae⟩
   (refine aU [] (fun _=>True) al ?_)
   all_goals refine aa 0 ?_<;>refine aa 1 ?_<;>refine aa 2 ?_<;>refine aa 3 ?_<;>refine aa 4 ?_<;>refine aa 5 ?_<;>refine aa 6 ?_<;>refine aa 7 ?_<;>refine aa 8 ?_<;>refine aa 9 ?_<;>refine aa 10 ?_<;>refine aa 11 ?_<;>(refine aa 12 (hy:=by (apply aN (q:=(b+k)*9);rfl;rfl;omega;omega;assumption;(rfl))) ?_)<;>refine aa 14 ?_<;>refine aa 15 ?_<;>refine aa 16 ?_<;>refine aa 17 ?_<;>(refine aa 18 (hy:=by (apply aN (q:=(a+k)*9);rfl;rfl;omega;omega;assumption;(rfl))) ?_)<;>(refine bw 13 19 (h:=?_) (h':=?_);(focus (((refine am (br (i:=b+k) (P:=Q) rfl aJ ae hy) rfl rfl rfl ?_);apply ab;refine ai ?_);all_goals ((refine ag 19 ?_;(refine am (br (i:=a+k) (P:=Q) rfl aJ ae hx) rfl rfl rfl ?_);apply ab;refine ai ?_);all_goals (refine aa 20 (hy:=by (apply aN (q:=(a+k)*9);rfl;rfl;omega;omega;assumption;(rfl))) ?_);all_goals (refine ag 21 ?_;(refine bT (i:=a+k) (p:=y) rfl rfl ae ae (At.here _) rfl aE rfl ?_);apply ab;refine ai ?_);all_goals (refine aa 22 (hy:=by (apply aN (q:=(b+k)*9);rfl;rfl;omega;omega;assumption;(rfl))) ?_);all_goals (refine ag 23 ?_;(refine bT (i:=b+k) (p:=x) rfl rfl ae (by (simp only [List.length_set];omega)) (At.here _) rfl aE rfl ?_);apply ab;refine ai ?_);all_goals (refine aw ?_))));rotate_right;(focus (((refine am (br (i:=a+k) (P:=Q) rfl aJ ae hx) rfl rfl rfl ?_);apply ab;refine ai ?_);all_goals ((refine ag 13 ?_;(refine am (br (i:=b+k) (P:=Q) rfl aJ ae hy) rfl rfl rfl ?_);apply ab;refine ai ?_);all_goals (refine aa 20 (hy:=by (apply aN (q:=(a+k)*9);rfl;rfl;omega;omega;assumption;(rfl))) ?_);all_goals (refine ag 21 ?_;(refine bT (i:=a+k) (p:=y) rfl rfl ae ae (At.here _) rfl aE rfl ?_);apply ab;refine ai ?_);all_goals (refine aa 22 (hy:=by (apply aN (q:=(b+k)*9);rfl;rfl;omega;omega;assumption;(rfl))) ?_);all_goals (refine ag 23 ?_;(refine bT (i:=b+k) (p:=x) rfl rfl ae (by (simp only [List.length_set];omega)) (At.here _) rfl aE rfl ?_);apply ab;refine ai ?_);all_goals (refine aw ?_)))))
   all_goals
    repeat' (first|apply ab|apply Qv|refine aj ?_|refine ad ?_|refine be (h:=?_)|fail)
    exact ⟨(⟨k+1,hlt,(Q.set (a+k) y).set (b+k) x,(d8 hx hy).trans hQ⟩:PermI P n),(by show n-(k+1)<n-k;omega),ax ⟨rfl,rfl,rfl,rfl,rfl,trivial⟩ (aG _) fun _ h=>h⟩
 · exact ca (bP rfl) ⟨rfl,Q,hQ,rfl⟩
section
variable {N:Nat} {av bor:List Nat} {w0:World} {ops:Array Oper} {rest:List Oper} {k:St→Prop} {E:Env} {X:World→Prop} {d:Option Tmp} {ty:TypeId} {pos:String} {af:Array Edge} {g:Option (Nat×Bool)} {bb want:Bool}
theorem cX {x:Operand} {xs:List Operand} {ats:Array TypeId} {f:FuncId} {args:List Value} {s:SlV} {Q:List FndB}
  (hx:ev E x=some (.func (.func f) #[] #[]):=by rfl) (ha:evs E xs=some args:=by rfl) (hg:gdB ops E g=some (bb,want):=by rfl) (hb:bb=want:=by exact aE) (hd:inB N d=true:=by rfl) (hf:FnBody Tryz.prog f:=by infer_instance)
  (hc:Ct Tryz.prog f args.toArray [postR s Q] (fun _=>True) (PermAt s Q))
  (h:∀ Q':List FndB,Q'.Perm Q→Sw Tryz.prog N av bor w0 ops rest ⟨putE E d (.tuple #[]),[postR s Q'],X⟩ k) :
  Sw Tryz.prog N av bor w0 ops (⟨d,.call ⟨.value x,xs.toArray,ats⟩,ty,pos,af,g⟩::rest) ⟨E,[postR s Q],X⟩ k :=
 cC (pre:=[postR s Q]) (fr:=[]) (first:=#[]) (caps:=#[]) (Post:=PermAt s Q) hx ha rfl hg hb hd hf (by simpa using hc) (fun _ _=>trivial) fun u R X' ⟨h1,Q',h2,h3⟩=>by
  subst h1
  subst h3
  refine iB (fun a w ok=>?_) (h Q' h2)
  exact ok.via fun M G=>G.imp fun _ h=>h.1
end
structure RotI (P:List FndB) (p q:Nat) where
 i:Nat
 j:Nat
 h1:1≤i
 h2:i≤p
 h3:1≤j
 h4:j≤q
 Q:List FndB
 hQ:Q.Perm P
set_option maxHeartbeats 4000000 in
theorem fS (s:SlV) (P:List FndB) (a m b:Nat) (fv:Value) (hs:s.n=P.length) (hm:s.n≤1000000) (ha:a<m) (hb:m<b) (hbs:b≤s.n) :
  Ct Tryz.prog 268 #[s.v,.int .i64 (a:Nat),.int .i64 (m:Nat),.int .i64 (b:Nat),fv] [postR s P] (fun _=>True) (PermAt s P):=by
 refine cj (args:=[_,_,_,_,_]) _ Tryz.func268 rfl Tryz.ntmps268 rfl fun av bor w0=>?_
 repeat' (first|refine bJ (hq:=by omega) ?_|apply ab|apply Qu|apply Qv|refine aj ?_|refine ad ?_|apply Qw|fail)
 refine aT (ι:=RotI P (m-a) (b-m)) (fun r=>⟨[(0,s.v),(2,.int .i64 (m:Nat)),(4,fv),(10,.int .i64 (r.i:Nat)),(11,.int .i64 (r.j:Nat))],[postR s r.Q],fun _=>True⟩) (fun r=>r.i+r.j) ⟨m-a,b-m,by omega,by omega,by omega,by omega,P,List.Perm.refl _⟩ (ax ⟨rfl,rfl,rfl,rfl,rfl,trivial⟩ (aG _) fun _ h=>h) fun r=>?_
 obtain ⟨i,j,h1,h2,h3,h4,Q,hQ⟩:=r
 simp only
 have hl:=hQ.length_eq
 by_cases hij:i=j
 · repeat' (first|refine dJ (hab:=by omega) ?_|refine bJ (hq:=by omega) ?_|apply ab|apply Qu|apply Qv|refine aj ?_|refine Qz ?_|apply aS|(refine cX (hc:=cQ s Q (m-i) m i fv ae hm ae ae) (h:=fun Q2 hQ2=>?_))|fail)
   exact ca (bP rfl) ⟨rfl,Q2,hQ2.trans hQ,rfl⟩
 · repeat' (first|refine bJ (hq:=by omega) ?_|refine bq (hq:=by omega) ?_|apply ab|apply Qu|apply Qv|refine aj ?_|refine ad ?_|refine df ?_|refine cF ?_|apply Qx|apply Qw|apply aS|(refine cX (hc:=cQ s Q (m-i) m j fv ae hm ae ae) (h:=fun Q2 hQ2=>?_))|(refine cX (hc:=cQ s Q (m-i) (m+j-i) i fv ae hm ae ae) (h:=fun Q2 hQ2=>?_))|(refine aF (ht:=?_) (hf:=?_);all_goals (intro hx_;first|have:=aO hx_|have:=aQ hx_|skip)))
   · exact ⟨(⟨i-j,j,by omega,by omega,h3,h4,Q2,hQ2.trans hQ⟩:RotI P (m-a) (b-m)),(by show i-j+j<i+j;omega),ax ⟨rfl,rfl,rfl,rfl,rfl,trivial⟩ (aG _) fun _ h=>h⟩
   · exact ⟨(⟨i,j-i,h1,h2,by omega,by omega,Q2,hQ2.trans hQ⟩:RotI P (m-a) (b-m)),(by show i+(j-i)<i+j;omega),ax ⟨rfl,rfl,rfl,rfl,rfl,trivial⟩ (aG _) fun _ h=>h⟩
   · have h9:(i:Int)=(j:Int):=by simpa using hx_
     exact absurd (show i=j by omega) hij
def cmpX (x y:FndB):Int:=cmp2 x.rank y.rank x.dg y.dg
theorem eM (x y:FndB):Pu Tryz.prog 252 #[.agg x.cells.toArray,.agg y.cells.toArray] (fun _=>True) (.int .i64 (cmpX x y)):=by
 refine ay (args:=[_,_]) _ Tryz.func252 rfl Tryz.ntmps252 rfl fun av bor w0=>?_
 have h1:=gO x.rank y.rank
 have h2:=gw x.dg y.dg
 rw [cmpX,cmp2]
 generalize cmpI x.rank y.rank=k at *
 generalize SrG.cmpB_g x.dg y.dg=l at *
 have h3:=fun s=>r4 s k l
 repeat' (first|apply ab|apply Qu|apply Qv|refine ad ?_|refine aK fun _=>?_|fail)
 rename_i b2 b3
 (refine aU [cel b3 261 y.cells,cel b2 261 x.cells] (fun _=>True) al ?_)
 all_goals refine aa 0 ?_<;>refine aa 1 ?_<;>refine aa 2 ?_<;>refine aa 3 ?_<;>refine aa 5 ?_<;>refine aa 6 ?_<;>refine aa 7 ?_<;>refine aa 8 ?_<;>(refine ag 4 ?_;(refine ao (hc:=h1) (hX:=fun _ _=>trivial) ?_);apply ab;refine ai ?_)<;>(refine ag 9 ?_;(refine ao (hc:=h2) (hX:=fun _ _=>trivial) ?_);apply ab;refine ai ?_)<;>(refine ag 10 ?_;(refine bX (len:=2) (vs:=[.int .i64 k,.int .i64 l]) fun bs=>?_;refine cu ?_);apply ab;refine ai ?_)<;>(refine ag 11 ?_;(refine ao (hc:=h3 ⟨some ⟨bs,0,none⟩,2,2⟩) (hX:=fun w h=>bO (xs:=[[.int .i64 k],[.int .i64 l]]) h.2 rfl (by decide) (by simp)) ?_);apply ab;refine ai ?_)<;>refine aa 12 ?_<;>(refine aw ?_)
 all_goals
  repeat' (first|apply ar|fail)
  exact ak (ap rfl rfl) rfl
def cmpF:Value:=.func (.func 252) #[] #[]
def Srt (P:List FndB):Prop:=∀ (i j:Nat) (x y:FndB),i<j→P[i]?=some x→P[j]?=some y→¬ cmpX y x<0
def Rel (P Q:List FndB):Prop:=Q.Perm P∧(Srt P→Q=P)
theorem Rel.refl (P:List FndB):Rel P P:=⟨List.Perm.refl _,fun _=>rfl⟩
theorem Rel.trans {P Q R:List FndB} (h:Rel P Q) (k:Rel Q R):Rel P R:=⟨k.1.trans h.1,fun hs=>by rw [k.2 (h.2 hs▸hs),h.2 hs]⟩
theorem Rel.swap {P Q:List FndB} (h:Rel P Q) {i j:Nat} {x y:FndB} (hi:Q[i]?=some x) (hj:Q[j]?=some y) (hno:Srt P→False):Rel P ((Q.set i y).set j x):=⟨(d8 hi hj).trans h.1,fun hs=>(hno hs).elim⟩
theorem Rel.srt {P Q:List FndB} (h:Rel P Q) (hs:Srt P):Srt Q:=by rw [h.2 hs];exact hs
theorem Rel.perm {P Q Q':List FndB} (h:Rel P Q) (k:Q'.Perm Q) (hno:Srt P→False):Rel P Q':=⟨k.trans h.1,fun hs=>(hno hs).elim⟩
def RelAt (s:SlV) (P:List FndB) (u:Value) (R:List Res) (X:World→Prop):Prop:=u=.tuple #[]∧∃ Q:List FndB,Rel P Q∧R=[postR s Q]
end SrB
namespace SrB
structure InsI (P:List FndB) (a b:Nat) where
 k:Nat
 h1:a+1≤k
 h2:k≤b∨k=a+1
 Q:List FndB
 hQ:Rel P Q
structure InsJ (P:List FndB) (a k:Nat) where
 j:Nat
 h1:a≤j
 h2:j≤k
 Q:List FndB
 hQ:Rel P Q
set_option maxHeartbeats 4000000 in
theorem du (s:SlV) (P:List FndB) (a b:Nat) (hs:s.n=P.length) (hm:s.n≤1000000) (ha:a≤s.n) (hb:b≤s.n) :
  Ct Tryz.prog 266 #[s.v,.int .i64 (a:Nat),.int .i64 (b:Nat),cmpF] [postR s P] (fun _=>True) (RelAt s P):=by
 refine cj (args:=[_,_,_,_]) _ Tryz.func266 rfl Tryz.ntmps266 rfl fun av bor w0=>?_
 refine cS (r:=postR s P) aJ (p:=0<s.n→s.p.isSome=true) (fun w h hn=>cI h hn) fun hp=>?_
 repeat' (first|refine bq (q:=1) (hq:=by omega) ?_|apply ab|apply Qu|apply Qv|refine aj ?_|refine ad ?_|apply Qw|fail)
 refine aT (ι:=InsI P a b) (fun i=>⟨[(0,s.v),(1,.int .i64 (a:Nat)),(2,.int .i64 (b:Nat)),(3,cmpF),(8,.int .i64 (i.k:Nat))],[postR s i.Q],fun _=>True⟩) (fun i=>b-i.k) ⟨a+1,Qp _,.inr rfl,P,Rel.refl _⟩ (ax ⟨rfl,rfl,rfl,rfl,rfl,trivial⟩ (aG _) fun _ h=>h) fun i=>?_
 obtain ⟨k,h1,h2,Q,hQ⟩:=i
 simp only
 have hl:=hQ.1.length_eq
 repeat' (first|apply ab|apply Qu|apply Qv|refine aj ?_|refine ad ?_|refine bj ?_|apply Qx|apply Qw|apply aS|(refine aF (ht:=?_) (hf:=?_);all_goals (intro hx_;first|have:=aO hx_|have:=aQ hx_)))
 · have hkb:k<b:=by omega
   refine aT (ι:=InsJ P a k) (fun i=>⟨[(0,s.v),(1,.int .i64 (a:Nat)),(2,.int .i64 (b:Nat)),(3,cmpF),(8,.int .i64 (k:Nat)),(9,.int .i64 (i.j:Nat))],[postR s i.Q],fun _=>True⟩) (fun i=>i.j) ⟨k,by omega,Qp _,Q,hQ⟩ (ax ⟨rfl,rfl,rfl,rfl,rfl,rfl,trivial⟩ (aG _) fun _ h=>h) fun i=>?_
   obtain ⟨j,h3,h4,Q2,hQ2⟩:=i
   simp only
   have hl2:=hQ2.1.length_eq
   have hp':=hp ae
   by_cases hja:a<j
   · obtain ⟨x,hx⟩:∃ x,Q2[j]?=some x:=⟨_,Zm ae⟩
     obtain ⟨y,hy⟩:∃ y,Q2[j-1]?=some y:=⟨_,Zm ae⟩
     have hcm:=eM x y
     have hsx:Srt P→¬ cmpX x y<0:=fun hs=>hQ2.srt hs (j-1) j y x ae hy hx
     generalize cmpX x y=z at *
     apply Qu
     apply Qu
     unfold cmpF
     (refine aU [] (fun _=>True) al ?_)
     all_goals refine aa 0 ?_<;>refine aa 1 ?_<;>(refine aa 2 (hy:=by (apply y_gtrT_g;rfl;rfl;omega)) ?_)<;>refine aa 3 ?_<;>refine aa 4 ?_<;>refine aa 5 ?_<;>refine aa 6 ?_<;>(refine aa 7 (hy:=by (apply aN (q:=j*9);rfl;rfl;omega;omega;assumption;(rfl))) ?_)<;>refine aa 9 ?_<;>refine aa 10 ?_<;>refine aa 11 ?_<;>(refine aa 12 (hy:=by (apply aN (q:=(j-1)*9);rfl;rfl;omega;omega;assumption;(omega))) ?_)<;>(refine bw 8 13 (h:=?_) (h':=?_);(focus (((refine am (br (i:=j) (P:=Q2) rfl aJ ae hx) rfl rfl rfl ?_);apply ab;refine ai ?_);all_goals ((refine ag 13 ?_;(refine am (br (i:=j-1) (P:=Q2) rfl aJ ae hy) rfl rfl rfl ?_);apply ab;refine ai ?_);all_goals (refine ag 14 ?_;(refine ao (hc:=hcm) (hX:=fun _ _=>trivial) ?_);apply ab;refine ai ?_);all_goals (refine aa 15 ?_);all_goals (refine aa 16 ?_);all_goals (refine aw ?_))));rotate_right;(focus (((refine am (br (i:=j-1) (P:=Q2) rfl aJ ae hy) rfl rfl rfl ?_);apply ab;refine ai ?_);all_goals ((refine ag 8 ?_;(refine am (br (i:=j) (P:=Q2) rfl aJ ae hx) rfl rfl rfl ?_);apply ab;refine ai ?_);all_goals (refine ag 14 ?_;(refine ao (hc:=hcm) (hX:=fun _ _=>trivial) ?_);apply ab;refine ai ?_);all_goals (refine aa 15 ?_);all_goals (refine aa 16 ?_);all_goals (refine aw ?_)))))
     all_goals
      repeat' (first|apply ab|apply Qu|apply Qv|refine aj ?_|refine ad ?_|refine be (h:=?_)|apply Qx|apply Qw|apply aS|(refine aF (ht:=?_) (hf:=?_);all_goals (intro hx_;first|have:=aO hx_|have:=aQ hx_)))
      · (refine aU [] (fun _=>True) al ?_)
        all_goals refine aa 0 ?_<;>refine aa 1 ?_<;>refine aa 2 ?_<;>refine aa 3 ?_<;>refine aa 4 ?_<;>refine aa 5 ?_<;>refine aa 6 ?_<;>refine aa 7 ?_<;>(refine aa 8 (hy:=by (apply aN (q:=(j-1)*9);rfl;rfl;omega;omega;assumption;(omega))) ?_)<;>refine aa 10 ?_<;>refine aa 11 ?_<;>(refine aa 12 (hy:=by (apply aN (q:=j*9);rfl;rfl;omega;omega;assumption;(rfl))) ?_)<;>(refine bw 9 13 (h:=?_) (h':=?_);(focus (((refine am (br (i:=j-1) (P:=Q2) rfl aJ ae hy) rfl rfl rfl ?_);apply ab;refine ai ?_);all_goals ((refine ag 13 ?_;(refine am (br (i:=j) (P:=Q2) rfl aJ ae hx) rfl rfl rfl ?_);apply ab;refine ai ?_);all_goals (refine aa 14 (hy:=by (apply aN (q:=j*9);rfl;rfl;omega;omega;assumption;(rfl))) ?_);all_goals (refine ag 15 ?_;(refine bT (i:=j) (p:=y) rfl rfl ae ae (At.here _) rfl aE rfl ?_);apply ab;refine ai ?_);all_goals (refine aa 16 (hy:=by (apply aN (q:=(j-1)*9);rfl;rfl;omega;omega;assumption;(omega))) ?_);all_goals (refine ag 17 ?_;(refine bT (i:=j-1) (p:=x) rfl rfl ae (by (simp only [List.length_set];omega)) (At.here _) rfl aE rfl ?_);apply ab;refine ai ?_);all_goals (refine aw ?_))));rotate_right;(focus (((refine am (br (i:=j) (P:=Q2) rfl aJ ae hx) rfl rfl rfl ?_);apply ab;refine ai ?_);all_goals ((refine ag 9 ?_;(refine am (br (i:=j-1) (P:=Q2) rfl aJ ae hy) rfl rfl rfl ?_);apply ab;refine ai ?_);all_goals (refine aa 14 (hy:=by (apply aN (q:=j*9);rfl;rfl;omega;omega;assumption;(rfl))) ?_);all_goals (refine ag 15 ?_;(refine bT (i:=j) (p:=y) rfl rfl ae ae (At.here _) rfl aE rfl ?_);apply ab;refine ai ?_);all_goals (refine aa 16 (hy:=by (apply aN (q:=(j-1)*9);rfl;rfl;omega;omega;assumption;(omega))) ?_);all_goals (refine ag 17 ?_;(refine bT (i:=j-1) (p:=x) rfl rfl ae (by (simp only [List.length_set];omega)) (At.here _) rfl aE rfl ?_);apply ab;refine ai ?_);all_goals (refine aw ?_)))))
        all_goals
         repeat' (first|refine bJ (q:=1) (hq:=by omega) ?_|apply ab|apply Qv|refine aj ?_|refine ad ?_|fail)
         exact ⟨(⟨j-1,by omega,by omega,(Q2.set j y).set (j-1) x,hQ2.swap hx hy (fun hs=>hsx hs (by assumption))⟩:InsJ P a k),(by show j-1<j;omega),ax ⟨rfl,rfl,rfl,rfl,rfl,rfl,trivial⟩ (aG _) fun _ h=>h⟩
      · repeat' (first|refine bq (q:=1) (hq:=by omega) ?_|fail)
        exact ⟨(⟨k+1,by omega,by omega,Q2,hQ2⟩:InsI P a b),(by show b-(k+1)<b-k;omega),ax ⟨rfl,rfl,rfl,rfl,rfl,trivial⟩ (aG _) fun _ h=>h⟩
   · apply Qu
     apply Qu
     unfold cmpF
     (refine aU [] (fun _=>True) al ?_)
     all_goals refine aa 0 ?_<;>refine aa 1 ?_<;>(refine aa 2 (hy:=by (apply y_gtrF_g;rfl;rfl;omega)) ?_)<;>refine aa 3 ?_<;>refine aM 4 ?_<;>refine aM 5 ?_<;>refine aM 6 ?_<;>refine aM 7 ?_<;>refine aM 9 ?_<;>refine aM 10 ?_<;>refine aM 11 ?_<;>refine aM 12 ?_<;>(refine bw 8 13 (h:=?_) (h':=?_);(focus (((refine aL ?_);apply ab;refine ai ?_);all_goals ((refine ag 13 ?_;(refine aL ?_);apply ab;refine ai ?_);all_goals (refine ag 14 ?_;(refine aL ?_);apply ab;refine ai ?_);all_goals (refine aM 15 ?_);all_goals (refine aa 16 ?_);all_goals (refine aw ?_))));rotate_right;(focus (((refine aL ?_);apply ab;refine ai ?_);all_goals ((refine ag 8 ?_;(refine aL ?_);apply ab;refine ai ?_);all_goals (refine ag 14 ?_;(refine aL ?_);apply ab;refine ai ?_);all_goals (refine aM 15 ?_);all_goals (refine aa 16 ?_);all_goals (refine aw ?_)))))
     all_goals
      repeat' (first|refine bq (q:=1) (hq:=by omega) ?_|apply ab|apply Qv|refine aj ?_|refine ad ?_|refine Qz ?_|apply aS|fail)
      exact ⟨(⟨k+1,by omega,by omega,Q2,hQ2⟩:InsI P a b),(by show b-(k+1)<b-k;omega),ax ⟨rfl,rfl,rfl,rfl,rfl,trivial⟩ (aG _) fun _ h=>h⟩
 · exact ca (bP rfl) ⟨rfl,Q,hQ,rfl⟩
section
variable {N:Nat} {av bor:List Nat} {w0:World} {ops:Array Oper} {rest:List Oper} {k:St→Prop} {E:Env} {X:World→Prop} {d:Option Tmp} {ty:TypeId} {pos:String} {af:Array Edge} {g:Option (Nat×Bool)} {bb want:Bool}
theorem gA {x:Operand} {xs:List Operand} {ats:Array TypeId} {f:FuncId} {args:List Value} {s:SlV} {Q:List FndB}
  (hx:ev E x=some (.func (.func f) #[] #[]):=by rfl) (ha:evs E xs=some args:=by rfl) (hg:gdB ops E g=some (bb,want):=by rfl) (hb:bb=want:=by exact aE) (hd:inB N d=true:=by rfl) (hf:FnBody Tryz.prog f:=by infer_instance)
  (hc:Ct Tryz.prog f args.toArray [postR s Q] (fun _=>True) (RelAt s Q))
  (h:∀ Q':List FndB,Rel Q Q'→Sw Tryz.prog N av bor w0 ops rest ⟨putE E d (.tuple #[]),[postR s Q'],X⟩ k) :
  Sw Tryz.prog N av bor w0 ops (⟨d,.call ⟨.value x,xs.toArray,ats⟩,ty,pos,af,g⟩::rest) ⟨E,[postR s Q],X⟩ k :=
 cC (pre:=[postR s Q]) (fr:=[]) (first:=#[]) (caps:=#[]) (Post:=RelAt s Q) hx ha rfl hg hb hd hf (by simpa using hc) (fun _ _=>trivial) fun u R X' ⟨h1,Q',h2,h3⟩=>by
  subst h1
  subst h3
  refine iB (fun a w ok=>?_) (h Q' h2)
  exact ok.via fun M G=>G.imp fun _ h=>h.1
theorem cR {x:Operand} {xs:List Operand} {ats:Array TypeId} {f:FuncId} {args:List Value} {s:SlV} {P Q:List FndB} (hQ:Rel P Q)
  (hx:ev E x=some (.func (.func f) #[] #[]):=by rfl) (ha:evs E xs=some args:=by rfl) (hg:gdB ops E g=some (bb,want):=by rfl) (hb:bb=want:=by exact aE) (hd:inB N d=true:=by rfl) (hf:FnBody Tryz.prog f:=by infer_instance)
  (hc:∀ Q:List FndB,Rel P Q→Ct Tryz.prog f args.toArray [postR s Q] (fun _=>True) (RelAt s Q))
  (h:∀ Q':List FndB,Rel P Q'→Sw Tryz.prog N av bor w0 ops rest ⟨putE E d (.tuple #[]),[postR s Q'],X⟩ k) :
  Sw Tryz.prog N av bor w0 ops (⟨d,.call ⟨.value x,xs.toArray,ats⟩,ty,pos,af,g⟩::rest) ⟨E,[postR s Q],X⟩ k:=gA hx ha hg hb hd hf (hc Q hQ) fun Q' h1=>h Q' (hQ.trans h1)
theorem iC {x:Operand} {xs:List Operand} {ats:Array TypeId} {f:FuncId} {args:List Value} {s:SlV} {P Q:List FndB} (hQ:Rel P Q) (hno:Srt P→False)
  (hx:ev E x=some (.func (.func f) #[] #[]):=by rfl) (ha:evs E xs=some args:=by rfl) (hg:gdB ops E g=some (bb,want):=by rfl) (hb:bb=want:=by exact aE) (hd:inB N d=true:=by rfl) (hf:FnBody Tryz.prog f:=by infer_instance)
  (hc:∀ Q:List FndB,Rel P Q→Ct Tryz.prog f args.toArray [postR s Q] (fun _=>True) (PermAt s Q))
  (h:∀ Q':List FndB,Rel P Q'→Sw Tryz.prog N av bor w0 ops rest ⟨putE E d (.tuple #[]),[postR s Q'],X⟩ k) :
  Sw Tryz.prog N av bor w0 ops (⟨d,.call ⟨.value x,xs.toArray,ats⟩,ty,pos,af,g⟩::rest) ⟨E,[postR s Q],X⟩ k:=cX hx ha hg hb hd hf (hc Q hQ) fun Q' h1=>h Q' (hQ.perm h1 hno)
end
structure BinL (P:List FndB) (lo hi:Nat) extends BinI_g lo hi where
 hs:Srt P→i=lo
structure BinR (P:List FndB) (lo hi:Nat) extends BinI_g lo hi where
 hs:Srt P→j=hi
structure MerO (P:List FndB) (a m b mid:Nat) extends MerI_g a m b mid where
 hs:Srt P→j=(if mid<m then mid else m)
structure UpI (P:List FndB) (a:Nat) where
 k:Nat
 h1:a≤k
 Q:List FndB
 hQ:Rel P Q
structure DownI (P:List FndB) (i m:Nat) where
 k:Nat
 h1:i≤k
 h2:k≤m
 Q:List FndB
 hQ:Rel P Q
set_option maxRecDepth 20000 in
set_option maxHeartbeats 8000000 in
theorem cW:∀ (d:Nat) (s:SlV) (P:List FndB) (a m b:Nat),b-a≤d→s.n=P.length→s.n≤1000000→a<m→m<b→b≤s.n →
  Ct Tryz.prog 267 #[s.v,.int .i64 (a:Nat),.int .i64 (m:Nat),.int .i64 (b:Nat),cmpF] [postR s P] (fun _=>True) (RelAt s P)
 | 0,s,P,a,m,b,hd,hs,hm,ha,hb,hbs=>absurd hd ae
 | d+1,s,P,a,m,b,hd,hs,hm,ha,hb,hbs=>by
  have ih:=cW d
  have hP:Rel P P:=Rel.refl P
  refine cj (args:=[_,_,_,_,_]) _ Tryz.func267 rfl Tryz.ntmps267 rfl fun av bor w0=>?_
  refine cS (r:=postR s P) aJ (p:=0<s.n→s.p.isSome=true) (fun w h hn=>cI h hn) fun hp=>?_
  have hp':=hp ae
  by_cases hA:m-a=1
  · repeat' (first|refine bJ (hq:=by omega) ?_|refine bn (hab:=by omega) ?_|apply ab|apply Qu|apply Qv|refine aj ?_|refine ad ?_|refine Qy ?_|apply Qw|fail)
    refine aT (ι:=BinL P m b) (fun r=>⟨[(0,s.v),(1,.int .i64 (a:Nat)),(4,cmpF),(10,.int .i64 (r.i:Nat)),(11,.int .i64 (r.j:Nat))],[postR s P],fun _=>True⟩) (fun r=>r.j-r.i) ⟨⟨m,b,by omega,by omega,by omega⟩,fun _=>rfl⟩ (ax ⟨rfl,rfl,rfl,rfl,rfl,trivial⟩ (aG _) fun _ h=>h) fun r=>?_
    obtain ⟨⟨i,j,h1,h2,h3⟩,hso⟩:=r
    simp only at hso
    simp only
    repeat' (first|refine bq (hq:=by omega) ?_|refine sy_toU_g (hq:=by omega) ?_|refine dl ?_|refine sy_toI_g (hq:=by omega) ?_|apply ab|apply Qu|apply Qv|refine aj ?_|refine ad ?_|refine bj ?_|apply Qx|apply Qw|apply aS|(refine aF (ht:=?_) (hf:=?_);all_goals (intro hx_;first|have:=aO hx_|have:=aQ hx_)))
    · have hlt:i<j:=by omega
      obtain ⟨x,hx⟩:∃ x,P[(i+j)/2]?=some x:=⟨_,Zm ae⟩
      obtain ⟨y,hy⟩:∃ y,P[a]?=some y:=⟨_,Zm ae⟩
      have hcm:=eM x y
      have hsx:Srt P→¬ cmpX x y<0:=fun hs=>hs a ((i+j)/2) y x ae hy hx
      generalize cmpX x y=z at *
      unfold cmpF
      (refine aU [] (fun _=>True) al ?_)
      all_goals refine aa 0 ?_<;>refine aa 1 ?_<;>refine aa 2 ?_<;>(refine aa 3 (hy:=by (apply aN (q:=((i+j)/2)*9);rfl;rfl;omega;omega;assumption;(rfl))) ?_)<;>refine aa 5 ?_<;>refine aa 6 ?_<;>(refine aa 7 (hy:=by (apply aN (q:=(a)*9);rfl;rfl;omega;omega;assumption;(rfl))) ?_)<;>(refine bw 4 8 (h:=?_) (h':=?_);(focus (((refine am (br (i:=(i+j)/2) (P:=P) rfl aJ ae hx) rfl rfl rfl ?_);apply ab;refine ai ?_);all_goals ((refine ag 8 ?_;(refine am (br (i:=a) (P:=P) rfl aJ ae hy) rfl rfl rfl ?_);apply ab;refine ai ?_);all_goals (refine ag 9 ?_;(refine ao (hc:=hcm) (hX:=fun _ _=>trivial) ?_);apply ab;refine ai ?_);all_goals (refine aa 10 ?_);all_goals (refine aw ?_))));rotate_right;(focus (((refine am (br (i:=a) (P:=P) rfl aJ ae hy) rfl rfl rfl ?_);apply ab;refine ai ?_);all_goals ((refine ag 4 ?_;(refine am (br (i:=(i+j)/2) (P:=P) rfl aJ ae hx) rfl rfl rfl ?_);apply ab;refine ai ?_);all_goals (refine ag 9 ?_;(refine ao (hc:=hcm) (hX:=fun _ _=>trivial) ?_);apply ab;refine ai ?_);all_goals (refine aa 10 ?_);all_goals (refine aw ?_)))))
      all_goals
       repeat' (first|refine bq (q:=1) (hq:=by omega) ?_|apply ab|apply Qv|refine aj ?_|refine ad ?_|(refine aF (ht:=?_) (hf:=?_);all_goals (intro hx_;first|have:=aO hx_|have:=aQ hx_)))
       · exact ⟨(⟨⟨(i+j)/2+1,j,by omega,by omega,h3⟩,fun hs=>absurd (show z<0 by assumption) (hsx hs)⟩:BinL P m b),(by show j-((i+j)/2+1)<j-i;omega),ax ⟨rfl,rfl,rfl,rfl,rfl,trivial⟩ (aG _) fun _ h=>h⟩
       · exact ⟨(⟨⟨i,(i+j)/2,h1,by omega,by omega⟩,hso⟩:BinL P m b),(by show (i+j)/2-i<j-i;omega),ax ⟨rfl,rfl,rfl,rfl,rfl,trivial⟩ (aG _) fun _ h=>h⟩
    · refine aT (ι:=UpI P a) (fun r=>⟨[(0,s.v),(10,.int .i64 (i:Nat)),(13,.int .i64 (r.k:Nat))],[postR s r.Q],fun _=>True⟩) (fun r=>i-r.k) ⟨a,Qp _,P,hP⟩ (ax ⟨rfl,rfl,rfl,trivial⟩ (aG _) fun _ h=>h) fun r=>?_
      obtain ⟨k,h4,Q,hQ⟩:=r
      simp only
      have hl:=hQ.1.length_eq
      repeat' (first|refine bJ (q:=1) (hq:=by omega) ?_|apply ab|apply Qu|apply Qv|refine aj ?_|refine bj ?_|apply Qx|apply Qw|apply ar|apply aS|(refine aF (ht:=?_) (hf:=?_);all_goals (intro hx_;first|have:=aO hx_|have:=aQ hx_)))
      · have hlt:k+1<i:=by omega
        obtain ⟨x,hx⟩:∃ x,Q[k]?=some x:=⟨_,Zm ae⟩
        obtain ⟨y,hy⟩:∃ y,Q[k+1]?=some y:=⟨_,Zm ae⟩
        (refine aU [] (fun _=>True) al ?_)
        all_goals refine aa 0 ?_<;>refine aa 1 ?_<;>refine aa 2 ?_<;>refine aa 3 ?_<;>refine aa 4 ?_<;>refine aa 5 ?_<;>refine aa 6 ?_<;>refine aa 7 ?_<;>(refine aa 8 (hy:=by (apply aN (q:=(k+1)*9);rfl;rfl;omega;omega;assumption;(rfl))) ?_)<;>refine aa 10 ?_<;>refine aa 11 ?_<;>(refine aa 12 (hy:=by (apply aN (q:=(k)*9);rfl;rfl;omega;omega;assumption;(rfl))) ?_)<;>(refine bw 9 13 (h:=?_) (h':=?_);(focus (((refine am (br (i:=k+1) (P:=Q) rfl aJ ae hy) rfl rfl rfl ?_);apply ab;refine ai ?_);all_goals ((refine ag 13 ?_;(refine am (br (i:=k) (P:=Q) rfl aJ ae hx) rfl rfl rfl ?_);apply ab;refine ai ?_);all_goals (refine aa 14 (hy:=by (apply aN (q:=(k)*9);rfl;rfl;omega;omega;assumption;(rfl))) ?_);all_goals (refine ag 15 ?_;(refine bT (i:=k) (p:=y) rfl rfl ae ae (At.here _) rfl aE rfl ?_);apply ab;refine ai ?_);all_goals (refine aa 16 (hy:=by (apply aN (q:=(k+1)*9);rfl;rfl;omega;omega;assumption;(rfl))) ?_);all_goals (refine ag 17 ?_;(refine bT (i:=k+1) (p:=x) rfl rfl ae (by (simp only [List.length_set];omega)) (At.here _) rfl aE rfl ?_);apply ab;refine ai ?_);all_goals (refine aw ?_))));rotate_right;(focus (((refine am (br (i:=k) (P:=Q) rfl aJ ae hx) rfl rfl rfl ?_);apply ab;refine ai ?_);all_goals ((refine ag 9 ?_;(refine am (br (i:=k+1) (P:=Q) rfl aJ ae hy) rfl rfl rfl ?_);apply ab;refine ai ?_);all_goals (refine aa 14 (hy:=by (apply aN (q:=(k)*9);rfl;rfl;omega;omega;assumption;(rfl))) ?_);all_goals (refine ag 15 ?_;(refine bT (i:=k) (p:=y) rfl rfl ae ae (At.here _) rfl aE rfl ?_);apply ab;refine ai ?_);all_goals (refine aa 16 (hy:=by (apply aN (q:=(k+1)*9);rfl;rfl;omega;omega;assumption;(rfl))) ?_);all_goals (refine ag 17 ?_;(refine bT (i:=k+1) (p:=x) rfl rfl ae (by (simp only [List.length_set];omega)) (At.here _) rfl aE rfl ?_);apply ab;refine ai ?_);all_goals (refine aw ?_)))))
        all_goals
         repeat' (first|refine bq (q:=1) (hq:=by omega) ?_|apply ab|apply Qv|refine aj ?_|refine ad ?_|fail)
         exact ⟨(⟨k+1,by omega,(Q.set k y).set (k+1) x,hQ.swap hx hy (fun hs=>by have:=hso hs;omega)⟩:UpI P a),(by show i-(k+1)<i-k;omega),ax ⟨rfl,rfl,rfl,trivial⟩ (aG _) fun _ h=>h⟩
      · exact ak (bP rfl) ⟨rfl,Q,hQ,rfl⟩
  · by_cases hB:b-m=1
    · repeat' (first|refine bJ (hq:=by omega) ?_|refine bn (hab:=by omega) ?_|refine bt (hab:=by omega) ?_|apply ab|apply Qu|apply Qv|refine aj ?_|refine ad ?_|refine Qy ?_|refine Qz ?_|apply Qx|apply Qw|fail)
      refine aT (ι:=BinR P a m) (fun r=>⟨[(0,s.v),(2,.int .i64 (m:Nat)),(4,cmpF),(14,.int .i64 (r.i:Nat)),(15,.int .i64 (r.j:Nat))],[postR s P],fun _=>True⟩) (fun r=>r.j-r.i) ⟨⟨a,m,by omega,by omega,by omega⟩,fun _=>rfl⟩ (ax ⟨rfl,rfl,rfl,rfl,rfl,trivial⟩ (aG _) fun _ h=>h) fun r=>?_
      obtain ⟨⟨i,j,h1,h2,h3⟩,hso⟩:=r
      simp only at hso
      simp only
      repeat' (first|refine bq (hq:=by omega) ?_|refine sy_toU_g (hq:=by omega) ?_|refine dl ?_|refine sy_toI_g (hq:=by omega) ?_|apply ab|apply Qu|apply Qv|refine aj ?_|refine ad ?_|refine bj ?_|apply Qx|apply Qw|apply aS|(refine aF (ht:=?_) (hf:=?_);all_goals (intro hx_;first|have:=aO hx_|have:=aQ hx_)))
      · have hlt:i<j:=by omega
        obtain ⟨x,hx⟩:∃ x,P[m]?=some x:=⟨_,Zm ae⟩
        obtain ⟨y,hy⟩:∃ y,P[(i+j)/2]?=some y:=⟨_,Zm ae⟩
        have hcm:=eM x y
        have hsx:Srt P→¬ cmpX x y<0:=fun hs=>hs ((i+j)/2) m y x ae hy hx
        generalize cmpX x y=z at *
        unfold cmpF
        (refine aU [] (fun _=>True) al ?_)
        all_goals refine aa 0 ?_<;>refine aa 1 ?_<;>refine aa 2 ?_<;>(refine aa 3 (hy:=by (apply aN (q:=(m)*9);rfl;rfl;omega;omega;assumption;(rfl))) ?_)<;>refine aa 5 ?_<;>refine aa 6 ?_<;>(refine aa 7 (hy:=by (apply aN (q:=((i+j)/2)*9);rfl;rfl;omega;omega;assumption;(rfl))) ?_)<;>(refine bw 4 8 (h:=?_) (h':=?_);(focus (((refine am (br (i:=m) (P:=P) rfl aJ ae hx) rfl rfl rfl ?_);apply ab;refine ai ?_);all_goals ((refine ag 8 ?_;(refine am (br (i:=(i+j)/2) (P:=P) rfl aJ ae hy) rfl rfl rfl ?_);apply ab;refine ai ?_);all_goals (refine ag 9 ?_;(refine ao (hc:=hcm) (hX:=fun _ _=>trivial) ?_);apply ab;refine ai ?_);all_goals (refine aa 10 ?_);all_goals (refine aa 11 ?_);all_goals (refine aw ?_))));rotate_right;(focus (((refine am (br (i:=(i+j)/2) (P:=P) rfl aJ ae hy) rfl rfl rfl ?_);apply ab;refine ai ?_);all_goals ((refine ag 4 ?_;(refine am (br (i:=m) (P:=P) rfl aJ ae hx) rfl rfl rfl ?_);apply ab;refine ai ?_);all_goals (refine ag 9 ?_;(refine ao (hc:=hcm) (hX:=fun _ _=>trivial) ?_);apply ab;refine ai ?_);all_goals (refine aa 10 ?_);all_goals (refine aa 11 ?_);all_goals (refine aw ?_)))))
        all_goals
         repeat' (first|refine bq (q:=1) (hq:=by omega) ?_|apply ab|apply Qv|refine aj ?_|refine ad ?_|(refine aF (ht:=?_) (hf:=?_);all_goals (intro hx_;skip)))
         · exact ⟨(⟨⟨(i+j)/2+1,j,by omega,by omega,h3⟩,hso⟩:BinR P a m),(by show j-((i+j)/2+1)<j-i;omega),ax ⟨rfl,rfl,rfl,rfl,rfl,trivial⟩ (aG _) fun _ h=>h⟩
         · exact ⟨(⟨⟨i,(i+j)/2,h1,by omega,by omega⟩,fun hs=>absurd (show z<0 by (simp_all;done)) (hsx hs)⟩:BinR P a m),(by show (i+j)/2-i<j-i;omega),ax ⟨rfl,rfl,rfl,rfl,rfl,trivial⟩ (aG _) fun _ h=>h⟩
      · refine aT (ι:=DownI P i m) (fun r=>⟨[(0,s.v),(14,.int .i64 (i:Nat)),(17,.int .i64 (r.k:Nat))],[postR s r.Q],fun _=>True⟩) (fun r=>r.k) ⟨m,by omega,Qp _,P,hP⟩ (ax ⟨rfl,rfl,rfl,trivial⟩ (aG _) fun _ h=>h) fun r=>?_
        obtain ⟨k,h4,h5,Q,hQ⟩:=r
        simp only
        have hl:=hQ.1.length_eq
        repeat' (first|apply ab|apply Qu|apply Qv|refine aj ?_|refine cF ?_|apply Qx|apply Qw|apply ar|apply aS|(refine aF (ht:=?_) (hf:=?_);all_goals (intro hx_;first|have:=aO hx_|have:=aQ hx_)))
        · have hlt:i<k:=by omega
          obtain ⟨x,hx⟩:∃ x,Q[k]?=some x:=⟨_,Zm ae⟩
          obtain ⟨y,hy⟩:∃ y,Q[k-1]?=some y:=⟨_,Zm ae⟩
          (refine aU [] (fun _=>True) al ?_)
          all_goals refine aa 0 ?_<;>refine aa 1 ?_<;>refine aa 2 ?_<;>refine aa 3 ?_<;>refine aa 4 ?_<;>refine aa 5 ?_<;>refine aa 6 ?_<;>refine aa 7 ?_<;>(refine aa 8 (hy:=by (apply aN (q:=(k-1)*9);rfl;rfl;omega;omega;assumption;(omega))) ?_)<;>refine aa 10 ?_<;>refine aa 11 ?_<;>(refine aa 12 (hy:=by (apply aN (q:=(k)*9);rfl;rfl;omega;omega;assumption;(rfl))) ?_)<;>(refine bw 9 13 (h:=?_) (h':=?_);(focus (((refine am (br (i:=k-1) (P:=Q) rfl aJ ae hy) rfl rfl rfl ?_);apply ab;refine ai ?_);all_goals ((refine ag 13 ?_;(refine am (br (i:=k) (P:=Q) rfl aJ ae hx) rfl rfl rfl ?_);apply ab;refine ai ?_);all_goals (refine aa 14 (hy:=by (apply aN (q:=(k)*9);rfl;rfl;omega;omega;assumption;(rfl))) ?_);all_goals (refine ag 15 ?_;(refine bT (i:=k) (p:=y) rfl rfl ae ae (At.here _) rfl aE rfl ?_);apply ab;refine ai ?_);all_goals (refine aa 16 (hy:=by (apply aN (q:=(k-1)*9);rfl;rfl;omega;omega;assumption;(omega))) ?_);all_goals (refine ag 17 ?_;(refine bT (i:=k-1) (p:=x) rfl rfl ae (by (simp only [List.length_set];omega)) (At.here _) rfl aE rfl ?_);apply ab;refine ai ?_);all_goals (refine aw ?_))));rotate_right;(focus (((refine am (br (i:=k) (P:=Q) rfl aJ ae hx) rfl rfl rfl ?_);apply ab;refine ai ?_);all_goals ((refine ag 9 ?_;(refine am (br (i:=k-1) (P:=Q) rfl aJ ae hy) rfl rfl rfl ?_);apply ab;refine ai ?_);all_goals (refine aa 14 (hy:=by (apply aN (q:=(k)*9);rfl;rfl;omega;omega;assumption;(rfl))) ?_);all_goals (refine ag 15 ?_;(refine bT (i:=k) (p:=y) rfl rfl ae ae (At.here _) rfl aE rfl ?_);apply ab;refine ai ?_);all_goals (refine aa 16 (hy:=by (apply aN (q:=(k-1)*9);rfl;rfl;omega;omega;assumption;(omega))) ?_);all_goals (refine ag 17 ?_;(refine bT (i:=k-1) (p:=x) rfl rfl ae (by (simp only [List.length_set];omega)) (At.here _) rfl aE rfl ?_);apply ab;refine ai ?_);all_goals (refine aw ?_)))))
          all_goals
           repeat' (first|refine bJ (q:=1) (hq:=by omega) ?_|apply ab|apply Qv|refine aj ?_|refine ad ?_|fail)
           exact ⟨(⟨k-1,by omega,by omega,(Q.set k y).set (k-1) x,hQ.swap hx hy (fun hs=>by have:=hso hs;omega)⟩:DownI P i m),(by show k-1<k;omega),ax ⟨rfl,rfl,rfl,trivial⟩ (aG _) fun _ h=>h⟩
        · exact ak (bP rfl) ⟨rfl,Q,hQ,rfl⟩
    · obtain ⟨mid,hmid⟩:∃ mid,mid=(a+b)/2:=⟨_,rfl⟩
      have hm1:a<mid:=by omega
      have hm2:mid<b:=by omega
      have hm3:2*mid≤a+b:=by omega
      have hm4:a+b≤2*mid+1:=by omega
      by_cases hmm:mid<m
      all_goals
       repeat' (first|refine bt (hab:=by omega) ?_|refine oj (hab:=by omega) ?_|refine iA (hab:=by omega) ?_|refine bJ (q:=1) (hq:=by omega) ?_|refine bJ (hq:=by omega) ?_|refine bq (hq:=by omega) ?_|refine sy_toU_g (hq:=by omega) ?_|refine dl ?_|refine sy_toI_g (hq:=by omega) ?_|apply ab|apply Qu|apply Qv|refine aj ?_|refine ad ?_|refine Qy ?_|refine Qz ?_|apply Qx|apply Qw|fail)
       rw [←hmid]
       first
        | refine aT (ι:=MerO P a m b mid) (fun r=>⟨[(0,s.v),(1,.int .i64 (a:Nat)),(2,.int .i64 (m:Nat)),(3,.int .i64 (b:Nat)),(4,cmpF),(18,.int .i64 (mid:Nat)),(19,.int .i64 ((mid+m:Nat):Int)),(20,.int .i64 (r.i:Nat)),(21,.int .i64 (r.j:Nat)),(22,.int .i64 ((mid+m-1:Nat):Int))],[postR s P],fun _=>True⟩) (fun r=>r.j-r.i) ⟨⟨mid+m-b,mid,by omega,by omega,by omega⟩,fun _=>by rw [Qf (by assumption)]⟩ (ax ⟨rfl,rfl,rfl,rfl,rfl,rfl,rfl,rfl,rfl,rfl,trivial⟩ (aG _) fun _ h=>h) fun r=>?_
        | refine aT (ι:=MerO P a m b mid) (fun r=>⟨[(0,s.v),(1,.int .i64 (a:Nat)),(2,.int .i64 (m:Nat)),(3,.int .i64 (b:Nat)),(4,cmpF),(18,.int .i64 (mid:Nat)),(19,.int .i64 ((mid+m:Nat):Int)),(20,.int .i64 (r.i:Nat)),(21,.int .i64 (r.j:Nat)),(22,.int .i64 ((mid+m-1:Nat):Int))],[postR s P],fun _=>True⟩) (fun r=>r.j-r.i) ⟨⟨a,m,by omega,by omega,by omega⟩,fun _=>by rw [Qg (by assumption)]⟩ (ax ⟨rfl,rfl,rfl,rfl,rfl,rfl,rfl,rfl,rfl,rfl,trivial⟩ (aG _) fun _ h=>h) fun r=>?_
       obtain ⟨⟨i,j,h1,h2,h3⟩,hso⟩:=r
       simp only at hso
       simp only
       have hk1:a≤i:=by omega
       have hk2:j≤m:=by omega
       have hk3:i≤mid+m:=by omega
       by_cases hij:i<j
       · have hk4:(i+j)/2<j:=by omega
         have hk5:i≤(i+j)/2:=by omega
         have hk6:(i+j)/2≤mid+m-1:=by omega
         have hk7:mid+m-1-(i+j)/2<b:=by omega
         repeat' (first|refine sy_lssT_g (hab:=by omega) ?_|refine bq (hq:=by omega) ?_|refine sy_toU_g (hq:=by omega) ?_|refine dl ?_|refine sy_toI_g (hq:=by omega) ?_|apply ab|apply Qu|apply Qv|refine aj ?_|refine ad ?_|refine Qy ?_|apply Qx|apply Qw|fail)
         obtain ⟨x,hx⟩:∃ x,P[mid+m-1-(i+j)/2]?=some x:=⟨_,Zm ae⟩
         obtain ⟨y,hy⟩:∃ y,P[(i+j)/2]?=some y:=⟨_,Zm ae⟩
         have hcm:=eM x y
         have hsx:Srt P→¬ cmpX x y<0:=fun hs=>hs ((i+j)/2) (mid+m-1-(i+j)/2) y x ae hy hx
         generalize cmpX x y=z at *
         unfold cmpF
         (refine aU [] (fun _=>True) al ?_)
         all_goals refine aa 0 ?_<;>refine aa 1 ?_<;>refine aa 2 ?_<;>refine aa 3 ?_<;>refine aa 4 ?_<;>(refine aa 5 (hy:=by (apply aN (q:=(mid+m-1-(i+j)/2)*9);rfl;rfl;omega;omega;assumption;(omega))) ?_)<;>refine aa 7 ?_<;>refine aa 8 ?_<;>(refine aa 9 (hy:=by (apply aN (q:=((i+j)/2)*9);rfl;rfl;omega;omega;assumption;(rfl))) ?_)<;>(refine bw 6 10 (h:=?_) (h':=?_);(focus (((refine am (br (i:=mid+m-1-(i+j)/2) (P:=P) rfl aJ ae hx) rfl rfl rfl ?_);apply ab;refine ai ?_);all_goals ((refine ag 10 ?_;(refine am (br (i:=(i+j)/2) (P:=P) rfl aJ ae hy) rfl rfl rfl ?_);apply ab;refine ai ?_);all_goals (refine ag 11 ?_;(refine ao (hc:=hcm) (hX:=fun _ _=>trivial) ?_);apply ab;refine ai ?_);all_goals (refine aa 12 ?_);all_goals (refine aa 13 ?_);all_goals (refine aw ?_))));rotate_right;(focus (((refine am (br (i:=(i+j)/2) (P:=P) rfl aJ ae hy) rfl rfl rfl ?_);apply ab;refine ai ?_);all_goals ((refine ag 6 ?_;(refine am (br (i:=mid+m-1-(i+j)/2) (P:=P) rfl aJ ae hx) rfl rfl rfl ?_);apply ab;refine ai ?_);all_goals (refine ag 11 ?_;(refine ao (hc:=hcm) (hX:=fun _ _=>trivial) ?_);apply ab;refine ai ?_);all_goals (refine aa 12 ?_);all_goals (refine aa 13 ?_);all_goals (refine aw ?_)))))
         all_goals
          repeat' (first|refine bq (q:=1) (hq:=by omega) ?_|apply ab|apply Qv|refine aj ?_|refine ad ?_|(refine aF (ht:=?_) (hf:=?_);all_goals (intro hx_;skip)))
          · exact ⟨(⟨⟨(i+j)/2+1,j,by omega,by omega,by omega⟩,hso⟩:MerO P a m b mid),(by show j-((i+j)/2+1)<j-i;omega),ax ⟨rfl,rfl,rfl,rfl,rfl,rfl,rfl,rfl,rfl,rfl,trivial⟩ (aG _) fun _ h=>h⟩
          · exact ⟨(⟨⟨i,(i+j)/2,by omega,by omega,by omega⟩,fun hs=>absurd (show z<0 by (simp_all;done)) (hsx hs)⟩:MerO P a m b mid),(by show (i+j)/2-i<j-i;omega),ax ⟨rfl,rfl,rfl,rfl,rfl,rfl,rfl,rfl,rfl,rfl,trivial⟩ (aG _) fun _ h=>h⟩
       · have hk8:mid+m-i≤b:=by omega
         have hnl:¬ (i:Int)<(j:Int):=by omega
         repeat' (first|refine sy_lssF_g (hab:=by first|exact hnl|omega) ?_|refine sy_lssT_g (hab:=by omega) ?_|refine bJ (hq:=by omega) ?_|apply ab|apply Qu|apply Qv|refine aj ?_|refine ad ?_|refine aB ?_|refine aC ?_|refine bj ?_|refine aL ?_|refine Qy ?_|refine Qz ?_|apply Qx|apply aS|(refine iC (P:=P) (hQ:=by assumption) (hno:=fun hs=>by have:=hso hs;split at this<;>omega) (hc:=fun Q hQ=>fS s Q i m (mid+m-i) cmpF (hs.trans hQ.1.length_eq.symm) hm ae ae ae) (h:=fun Q2 hQ2=>?_))|(refine cR (P:=P) (hQ:=by assumption) (hc:=fun Q hQ=>ih s Q a i mid ae (hs.trans hQ.1.length_eq.symm) hm ae ae ae) (h:=fun Q2 hQ2=>?_))|(refine cR (P:=P) (hQ:=by assumption) (hc:=fun Q hQ=>ih s Q mid (mid+m-i) b ae (hs.trans hQ.1.length_eq.symm) hm ae ae ae) (h:=fun Q2 hQ2=>?_))|((fail_if_success (refine aZ ?_));refine aP (ht:=?_) (hf:=?_);all_goals (intro hx_;first|have:=aO hx_|have:=aQ hx_))|(refine aF (ht:=?_) (hf:=?_);all_goals (intro hx_;first|have:=aO hx_|have:=aQ hx_)))
         all_goals
          refine ca (bP rfl) ⟨rfl,_,?_,rfl⟩
          assumption
end SrB
namespace SrB
structure StaI (P:List FndB) (n w:Nat) where
 a:Nat
 b:Nat
 h1:a≤n
 h2:b=a+w
 Q:List FndB
 hQ:Rel P Q
structure StaO (P:List FndB) (n:Nat) where
 z:Nat
 h1:1≤z
 h2:z≤2*n+20
 Q:List FndB
 hQ:Rel P Q
set_option maxRecDepth 20000 in
set_option maxHeartbeats 8000000 in
theorem fP (s:SlV) (P:List FndB) (hs:s.n=P.length) (hm:s.n≤1000000):Ct Tryz.prog 263 #[s.v,.int .i64 (s.n:Nat),cmpF] [postR s P] (fun _=>True) (RelAt s P):=by
 have hP:Rel P P:=Rel.refl P
 refine cj (args:=[_,_,_]) _ Tryz.func263 rfl Tryz.ntmps263 rfl fun av bor w0=>?_
 repeat' (first|apply ab|apply Qu|apply Qv|refine aj ?_|refine ad ?_|apply Qw|fail)
 refine aT (ι:=StaI P s.n 20) (fun r=>⟨[(0,s.v),(1,.int .i64 (s.n:Nat)),(2,cmpF),(6,.int .i64 20),(7,.int .i64 (r.a:Nat)),(8,.int .i64 (r.b:Nat))],[postR s r.Q],fun _=>True⟩) (fun r=>s.n-r.a) ⟨0,20,Nat.zero_le _,rfl,P,hP⟩ (ax ⟨rfl,rfl,rfl,rfl,rfl,rfl,trivial⟩ (aG _) fun _ h=>h) fun r=>?_
 obtain ⟨a,b,h1,h2,Q,hQ⟩:=r
 simp only
 repeat' (first|refine bq (q:=20) (hq:=by omega) ?_|apply ab|apply Qu|apply Qv|refine aj ?_|refine ad ?_|refine cB ?_|apply Qx|apply Qw|apply aS|(refine cR (P:=P) (hQ:=by assumption) (hc:=fun Q hQ=>du s Q a b (hs.trans hQ.1.length_eq.symm) hm ae ae) (h:=fun Q2 hQ2=>?_))|(refine cR (P:=P) (hQ:=by assumption) (hc:=fun Q hQ=>du s Q a s.n (hs.trans hQ.1.length_eq.symm) hm ae ae) (h:=fun Q2 hQ2=>?_))|(refine aF (ht:=?_) (hf:=?_);all_goals (intro hx_;first|have:=aO hx_|have:=aQ hx_)))
 · exact ⟨(⟨b,b+20,by omega,rfl,Q2,hQ2⟩:StaI P s.n 20),(by show s.n-b<s.n-a;omega),ax ⟨rfl,rfl,rfl,rfl,rfl,rfl,trivial⟩ (aG _) fun _ h=>h⟩
 · refine aT (ι:=StaO P s.n) (fun r=>⟨[(0,s.v),(1,.int .i64 (s.n:Nat)),(2,cmpF),(6,.int .i64 (r.z:Nat))],[postR s r.Q],fun _=>True⟩) (fun r=>s.n-r.z) ⟨20,by omega,by omega,Q2,hQ2⟩ (ax ⟨rfl,rfl,rfl,rfl,trivial⟩ (aG _) fun _ h=>h) fun r=>?_
   clear h1 h2 hQ hQ2
   obtain ⟨z,h1,h2,Q,hQ⟩:=r
   simp only
   repeat' (first|refine d7 (p:=2) (hq:=by omega) ?_|apply ab|apply Qu|apply Qv|refine aj ?_|refine ad ?_|refine bj ?_|apply Qx|apply Qw|apply aS|(refine aF (ht:=?_) (hf:=?_);all_goals (intro hx_;first|have:=aO hx_|have:=aQ hx_)))
   · have hzn:z<s.n:=by omega
     refine aT (ι:=StaI P s.n (2*z)) (fun r=>⟨[(0,s.v),(1,.int .i64 (s.n:Nat)),(2,cmpF),(6,.int .i64 (z:Nat)),(7,.int .i64 (r.a:Nat)),(8,.int .i64 (r.b:Nat))],[postR s r.Q],fun _=>True⟩) (fun r=>s.n-r.a) ⟨0,2*z,Nat.zero_le _,(Ql _).symm,Q,hQ⟩ (ax ⟨rfl,rfl,rfl,rfl,rfl,rfl,trivial⟩ (aG _) fun _ h=>h) fun r=>?_
     obtain ⟨a,b,h3,h4,Q3,hQ3⟩:=r
     simp only
     repeat' (first|refine bq (hq:=by omega) ?_|refine d7 (p:=2) (hq:=by omega) ?_|refine d7 (q:=2) (hq:=by omega) ?_|apply ab|apply Qu|apply Qv|refine aj ?_|refine ad ?_|refine bj ?_|refine cB ?_|apply Qx|apply Qw|apply aS|(refine cR (P:=P) (hQ:=by assumption) (hc:=fun Q hQ=>cW (b-a) s Q a (a+z) b (Qp _) (hs.trans hQ.1.length_eq.symm) hm ae ae ae) (h:=fun Q2 hQ2=>?_))|(refine cR (P:=P) (hQ:=by assumption) (hc:=fun Q hQ=>cW (s.n-a) s Q a (a+z) s.n (Qp _) (hs.trans hQ.1.length_eq.symm) hm ae ae ae) (h:=fun Q2 hQ2=>?_))|(refine aF (ht:=?_) (hf:=?_);all_goals (intro hx_;first|have:=aO hx_|have:=aQ hx_)))
     · exact ⟨(⟨b,b+2*z,by omega,rfl,Q2,hQ2⟩:StaI P s.n (2*z)),(by show s.n-b<s.n-a;omega),ax ⟨rfl,rfl,rfl,rfl,rfl,rfl,trivial⟩ (aG _) fun _ h=>h⟩
     all_goals
      refine ⟨(⟨z*2,by omega,by omega,_,?_⟩:StaO P s.n),(by show s.n-z*2<s.n-z;omega),ax ⟨rfl,rfl,rfl,rfl,trivial⟩ (aG _) fun _ h=>h⟩
      assumption
   · exact ca (bP rfl) ⟨rfl,Q,hQ,rfl⟩
theorem sortStable_ct (s:SlV) (P:List FndB) (hs:s.n=P.length) (hm:s.n≤1000000):Ct Tryz.prog 251 #[s.v,cmpF] [postR s P] (fun _=>True) (RelAt s P):=by
 have hP:Rel P P:=Rel.refl P
 refine cj (args:=[_,_]) _ Tryz.func251 rfl Tryz.ntmps251 rfl fun av bor w0=>?_
 repeat' (first|apply ab|apply Qv|refine aj ?_|refine aW ?_|(refine cR (P:=P) (hQ:=by assumption) (hc:=fun Q hQ=>fP s Q (hs.trans hQ.1.length_eq.symm) hm) (h:=fun Q2 hQ2=>?_))|fail)
 exact ca (bP rfl) ⟨rfl,Q2,hQ2,rfl⟩
end SrB
end Go.Proofs.YtcdilibijnboeaaGreatDoor
namespace Go.Proofs.YtcdilibijnboeaaGreatDoor
open Go Go.Proofs Sy
def fndOfB (dI:ItemD→ByteArray) (it:ItemD):FndB:=⟨0,dI it,it.ballot⟩
def selBB (au:ByteArray) (gn:Int) (rI:ItemD→Bool) (it:ItemD):Bool:=wantB au gn it&&rI it
def selFB (au:ByteArray) (gn:Int) (rI:ItemD→Bool) (dI:ItemD→ByteArray) (I:List ItemD):List FndB:=(I.filter (selBB au gn rI)).map (fndOfB dI)
def selB2 (au:ByteArray) (gn:Int) (rI:ItemD→Bool) (I:List ItemD):List BallotD:=(I.filter (selBB au gn rI)).map ItemD.ballot
theorem AT (au:ByteArray) (gn:Int) (rI:ItemD→Bool) (dI:ItemD→ByteArray) (I:List ItemD):(selFB au gn rI dI I).map FndB.a=selB2 au gn rI I:=by rw [selFB,selB2,Qs];rfl
structure PikIB (I:List ItemD) (au:ByteArray) (gn:Int) (rI:ItemD→Bool) (dI:ItemD→ByteArray) where
 k:Nat
 hk:k≤I.length
 A:Option Addr
 c:Nat
 n:Nat
 hn:n=(selFB au gn rI dI (I.take k)).length
 xs:List Value
 hxs:xs=((selFB au gn rI dI (I.take k)).map FndB.cells).flatten
structure ValIB (Q:List FndB) where
 k:Nat
 hk:k≤Q.length
 A:Option Addr
 c:Nat
 xs:List Value
 hxs:xs=((Q.take k).map fun f=>f.a.cells).flatten
def wantVB (bW bG:Nat):Value:=.func (.func 223) #[] #[.pointer (some ⟨bW,0,none⟩),.pointer (some ⟨bG,0,none⟩)]
set_option maxHeartbeats 16000000 in
theorem vM (ks ki:SlV) (I:List ItemD) (bW bG:Nat) (au:ByteArray) (gn:Int) (rI:ItemD→Bool) (dI:ItemD→ByteArray)
  (hR:∀ it∈I,Pu Tryz.prog 44 #[it.v] (fun w=>it.at_ w) (.bool (rI it)))
  (hD:∀ it∈I,Pu Tryz.prog 14 #[it.v] (fun w=>it.at_ w∧Glob w) (.string (dI it)))
  (hI:I.length≤1000) (hasc:SrB.Srt (selFB au gn rI dI I)) :
  Mk Tryz.prog 222 #[.agg #[ks.v,ki.v],wantVB bW bG] (fun w=>(Items w ki I∧(CelD bW [.string au] w∧CelD bG [.int .i64 gn] w))∧Glob w)
   (fun u X'=>∃ s:SlV,u=s.v∧∀ w,X' w→Ballots w s (selB2 au gn rI I)):=by
 refine cf (args:=[_,_]) _ Tryz.func222 rfl Tryz.ntmps222 rfl fun av bor w0=>?_
 refine bK (p:=ki.n=I.length∧ki.n≤maxLen∧(0<I.length→ki.p.isSome=true)) (fun w h=>⟨h.1.1.len_,h.1.1.max_,h.1.1.some_⟩) fun ⟨hkn,hkm,hkp⟩=>?_
 simp only [maxLen] at hkm
 repeat' (first|apply ab|apply Qu|apply Qv|refine aj ?_|refine ad ?_|refine az ?_|refine aA ?_|refine aW ?_|refine aK fun _=>?_|apply Qw|fail)
 rename_i b2
 refine cY 261 9 ?_
 refine aT (ι:=PikIB I au gn rI dI) (fun i=>⟨[(1,wantVB bW bG),(5,.slice i.A i.n i.c),(15,ki.v),(16,.int .i64 (ki.n:Nat)),(17,.int .i64 (i.k:Nat))],[orow 261 9 (.slice i.A i.n i.c) i.n i.xs],fun w=>(Items w ki I∧(CelD bW [.string au] w∧CelD bG [.int .i64 gn] w))∧Glob w⟩) (fun i=>I.length-i.k) ⟨0,Nat.zero_le _,none,0,0,rfl,[],rfl⟩ (ax ⟨rfl,rfl,rfl,rfl,rfl,trivial⟩ (.cons_cons _ (ZR _)) fun _ h=>h) fun i=>?_
 obtain ⟨k,hk,A,c,n,hn,xs,hxs⟩:=i
 simp only
 repeat' (first|apply ab|apply Qu|apply Qv|refine aj ?_|refine bj ?_|apply Qx|apply Qw|apply aS|(refine aF (ht:=?_) (hf:=?_);all_goals (intro hx_;first|have:=aO hx_|have:=aQ hx_)))
 · have hlt:k<I.length:=by omega
   have hkp':=hkp ae
   obtain ⟨it,hit⟩:∃ it,I[k]?=some it:=⟨_,Zm hlt⟩
   have him:=List.mem_of_getElem? hit
   have hnl:n≤1000:=by
    rw [hn,selFB,Z3]
    exact Qq (List.length_filter_le _ _) (by rw [List.length_take];omega)
   repeat' (first|apply ab|apply Qu|apply Qv|refine aj ?_|refine aD ?_|refine aI fun _=>?_|refine aH ?_|(refine bz (q:=k*49) ?_)|(refine cq (cs:=it.cells) (hF:=fun w h=>h.1.1.get hit) ?_)|fail)
   rename_i b7
   have hri:=hR it him
   have hdi:=hD it him
   have hwa:=wS bW bG au gn it
   have htk:selFB au gn rI dI (I.take (k+1))=selFB au gn rI dI (I.take k)++(bif selBB au gn rI it then [fndOfB dI it] else []):=by
    rw [selFB,selFB,List.take_add_one,hit,List.filter_append,Qn,Option.toList_some]
    congr 1
    cases hb:selBB au gn rI it with
    | true=>simp [hb]
    | false=>simp [hb]
   cases hwt:wantB au gn it with
   | false =>
    rw [hwt] at hwa
    have hno:selFB au gn rI dI (I.take (k+1))=selFB au gn rI dI (I.take k):=by rw [htk,selBB,hwt];exact Z9 _
    refine fb (args:=[it.v]) (all:=[it.v,.pointer (some ⟨bW,0,none⟩),.pointer (some ⟨bG,0,none⟩)]) (first:=#[]) (caps:=#[.pointer (some ⟨bW,0,none⟩),.pointer (some ⟨bG,0,none⟩)]) (hx:=rfl) (ha:=rfl) (hall:=rfl) (hc:=hwa) (hX:=fun w h=>h.1.2) (h:=?_)
    repeat' (first|apply ab|apply Qu|apply Qv|refine aj ?_|refine ad ?_|refine aC ?_|refine bS ?_|refine be (h:=?_)|refine aL ?_|refine aI fun _=>?_|refine aH ?_|refine Qz ?_|apply Qx|fail)
    exact ⟨(⟨k+1,hlt,A,c,n,by rw [hno];exact hn,xs,by rw [hno];exact hxs⟩:PikIB I au gn rI dI),(by show I.length-(k+1)<I.length-k;omega),ax ⟨rfl,rfl,rfl,rfl,rfl,trivial⟩ (.cons _ (.cons _ (aG _))) fun _ h=>h⟩
   | true =>
    rw [hwt] at hwa
    cases hrt:rI it with
    | false =>
     rw [hrt] at hri
     have hno:selFB au gn rI dI (I.take (k+1))=selFB au gn rI dI (I.take k):=by rw [htk,selBB,hwt,hrt];exact Z9 _
     refine fb (args:=[it.v]) (all:=[it.v,.pointer (some ⟨bW,0,none⟩),.pointer (some ⟨bG,0,none⟩)]) (first:=#[]) (caps:=#[.pointer (some ⟨bW,0,none⟩),.pointer (some ⟨bG,0,none⟩)]) (hx:=rfl) (ha:=rfl) (hall:=rfl) (hc:=hwa) (hX:=fun w h=>h.1.2) (h:=?_)
     repeat' (first|apply ab|apply Qu|apply Qv|refine aj ?_|refine ad ?_|refine aD ?_|refine aB ?_|refine bS ?_|refine be (h:=?_)|refine aI fun _=>?_|refine aH ?_|refine Qz ?_|apply Qx|(refine ao (hc:=hri) (hX:=fun w h=>h.1.1.2 it him) ?_)|fail)
     exact ⟨(⟨k+1,hlt,A,c,n,by rw [hno];exact hn,xs,by rw [hno];exact hxs⟩:PikIB I au gn rI dI),(by show I.length-(k+1)<I.length-k;omega),ax ⟨rfl,rfl,rfl,rfl,rfl,trivial⟩ (.cons _ (.cons _ (aG _))) fun _ h=>h⟩
    | true =>
     rw [hrt] at hri
     have hyes:selFB au gn rI dI (I.take (k+1))=selFB au gn rI dI (I.take k)++[fndOfB dI it]:=by rw [htk,selBB,hwt,hrt];rfl
     refine fb (args:=[it.v]) (all:=[it.v,.pointer (some ⟨bW,0,none⟩),.pointer (some ⟨bG,0,none⟩)]) (first:=#[]) (caps:=#[.pointer (some ⟨bW,0,none⟩),.pointer (some ⟨bG,0,none⟩)]) (hx:=rfl) (ha:=rfl) (hall:=rfl) (hc:=hwa) (hX:=fun w h=>h.1.2) (h:=?_)
     repeat' (first|apply ab|apply Qu|apply Qv|refine aj ?_|refine ad ?_|refine aD ?_|refine aB ?_|refine bS ?_|refine aI fun _=>?_|refine aH ?_|refine Qy ?_|(refine ao (hc:=hri) (hX:=fun w h=>h.1.1.2 it him) ?_)|fail)
     rename_i b8
     (refine aU [cel b8 53 it.ballot.cells,cel b7 57 it.cells] (fun w=>(Items w ki I∧(CelD bW [.string au] w∧CelD bG [.int .i64 gn] w))∧Glob w) al ?_)
     all_goals refine aa 0 ?_<;>refine aa 1 ?_<;>refine aa 2 ?_<;>refine aa 4 ?_<;>(refine ag 3 ?_;(refine ao (hc:=hdi) (hX:=fun w h=>⟨h.1.1.2 it him,h.2⟩) ?_);apply ab;refine ai ?_)<;>(refine aa 5 (hy:=by (apply ci (cs:=(fndOfB dI it).cells);rfl;rfl)) ?_)<;>(refine ag 6 ?_;(refine bH (size:=9) (vs:=[.agg (fndOfB dI it).cells.toArray]) (css:=(fndOfB dI it).cells) (hsz:=by rfl) (hcs:=by rfl) fun _=>?_);apply ab;refine ai ?_)<;>(refine ag 7 ?_;(refine aV (size:=9) (news:=(fndOfB dI it).cells) (q:=1) rfl rfl rfl rfl (fun _=>At.there _ (At.there _ (At.there _ (At.here _)))) (fun w G=>bo G aJ rfl rfl 1) ae (by simp only [maxLen];omega) rfl ?_ rfl ?_;(with_reducible rfl);intro A2 c2);apply ab;refine ai ?_)<;>refine aa 8 ?_<;>(refine aw ?_)
     all_goals
      repeat' (first|apply ab|apply Qv|refine aj ?_|refine be (h:=?_)|fail)
      exact ⟨(⟨k+1,hlt,A2,c2,n+1,by rw [hyes,ZX,←hn];rfl,xs++(fndOfB dI it).cells,by rw [hyes,hxs];simp⟩:PikIB I au gn rI dI),(by show I.length-(k+1)<I.length-k;omega),ax ⟨rfl,rfl,rfl,rfl,rfl,trivial⟩ (.cons _ (.cons _ (.cons _ (aG _)))) fun _ h=>h⟩
 have hkE:k=I.length:=by omega
 rw [hkE,List.take_length] at hn hxs
 obtain ⟨P,hP⟩:∃ P,selFB au gn rI dI I=P:=⟨_,rfl⟩
 rw [hP] at hn hxs
 have hPl:P.length≤I.length:=by rw [←hP,selFB,Z3];exact List.length_filter_le _ _
 subst hxs
 refine cC (pre:=[SrB.postR ⟨A,n,c⟩ P]) (fr:=[]) (first:=#[]) (caps:=#[]) (hc:=SrB.sortStable_ct ⟨A,n,c⟩ P hn (by show n≤1000000;omega)) (hX:=fun _ _=>trivial) (h:=?_)
 rintro v R X' ⟨rfl,Q,hQ,rfl⟩
 have hQP:Q=P:=hQ.2 (by rw [←hP];exact hasc)
 subst hQP
 have hQl:Q.length=n:=hn.symm
 have hnI:n≤1000:=by omega
 refine cT (X':=fun w=>(Items w ki I∧(CelD bW [.string au] w∧CelD bG [.int .i64 gn] w))∧Glob w) (fun w h=>h.1) ?_
 repeat' (first|apply ab|apply Qu|apply Qv|refine aj ?_|refine ad ?_|refine aW ?_|apply Qw|(refine gY (c:=n) (hm:=Nat.ble_eq_true_of_le ae) (hm2:=Nat.ble_eq_true_of_le ae) fun bv=>?_)|fail)
 refine cS (r:=SrB.postR ⟨A,n,c⟩ Q) bL (p:=0<n→A.isSome=true) (fun w h h0=>cI h h0) fun hAp=>?_
 refine aT (ι:=ValIB Q) (fun i=>⟨[(11,.slice i.A i.k i.c),(47,.slice A n c),(48,.int .i64 (n:Nat)),(49,.int .i64 (i.k:Nat))],[orow 53 7 (.slice i.A i.k i.c) i.k i.xs,SrB.postR ⟨A,n,c⟩ Q],fun w=>(Items w ki I∧(CelD bW [.string au] w∧CelD bG [.int .i64 gn] w))∧Glob w⟩) (fun i=>Q.length-i.k) ⟨0,Nat.zero_le _,_,_,[],rfl⟩ (ax ⟨rfl,rfl,rfl,rfl,trivial⟩ (aG _) fun _ h=>h) fun i=>?_
 obtain ⟨k2,hk2,A2,c2,xs2,hxs2⟩:=i
 simp only
 repeat' (first|apply ab|apply Qu|apply Qv|refine aj ?_|refine ad ?_|refine bj ?_|apply Qx|apply Qw|apply ar|apply aS|(refine aF (ht:=?_) (hf:=?_);all_goals (intro hx_;first|have:=aO hx_|have:=aQ hx_)))
 · have hlt:k2<Q.length:=by omega
   have hAp':=hAp ae
   obtain ⟨f,hf⟩:∃ f,Q[k2]?=some f:=⟨_,Zm hlt⟩
   repeat' (first|refine bH (size:=7) (vs:=[f.a.v]) (css:=f.a.cells) (hsz:=by rfl) (hcs:=by rfl) fun _=>?_|apply ab|apply Qv|refine aj ?_|refine az ?_|refine aI fun _=>?_|refine aH ?_|(refine bz (q:=k2*9) ?_)|(refine am (gb (size:=9) (m:=n) (i:=k2) (xs:=Q.map FndB.cells) (cs:=f.cells) rfl (.tail _ (.head _)) (by rw [Z3];exact hQl.symm) (SrB.cellsF Q) (by simp [hf])) rfl rfl rfl ?_)|(refine aX (vs:=f.a.cells) (hv:=rfl) ?_)|fail)
   refine aV (size:=7) (news:=f.a.cells) (q:=1) rfl rfl rfl rfl (fun _=>At.there _ (At.there _ (At.here _))) (fun w G=>bo G aJ rfl rfl 1) ae (by simp only [maxLen];omega) rfl ?_ rfl ?_
   · (with_reducible rfl)
   intro A3 c3
   repeat' (first|apply ab|apply Qv|refine aj ?_|refine ad ?_|refine be (h:=?_)|fail)
   exact ⟨(⟨k2+1,hlt,A3,c3,xs2++f.a.cells,by rw [List.take_add_one,hf,hxs2];simp⟩:ValIB Q),(by show Q.length-(k2+1)<Q.length-k2;omega),ax ⟨rfl,rfl,rfl,rfl,trivial⟩ (.cons _ (.cons _ (aG _))) fun _ h=>h⟩
 have hk2E:k2=Q.length:=by omega
 rw [hk2E,List.take_length] at hxs2
 have hLp:Q.map FndB.a=selB2 au gn rI I:=by rw [←AT au gn rI dI I,hP]
 refine ak (ap rfl rfl) ⟨⟨A2,k2,c2⟩,rfl,fun w h=>?_⟩
 rw [←hLp]
 have hr:=h.2 (orow 53 7 (.slice A2 k2 c2) k2 xs2) (.head _)
 exact cg (xs:=(Q.map FndB.a).map BallotD.cells) (by rw [Qs];rw [hxs2] at hr;exact hr) (by rw [Z3,Z3];exact hk2E) (pj _)
theorem jH (ks ki:SlV) (I:List ItemD) (au:ByteArray) (gn:Int) (rI:ItemD→Bool) (dI:ItemD→ByteArray)
  (hR:∀ it∈I,Pu Tryz.prog 44 #[it.v] (fun w=>it.at_ w) (.bool (rI it)))
  (hD:∀ it∈I,Pu Tryz.prog 14 #[it.v] (fun w=>it.at_ w∧Glob w) (.string (dI it)))
  (hI:I.length≤1000) (hasc:SrB.Srt (selFB au gn rI dI I)) :
  Mk Tryz.prog 194 #[.agg #[ks.v,ki.v],.string au,.int .i64 gn] (fun w=>Items w ki I∧Glob w)
   (fun u X'=>∃ s:SlV,u=s.v∧∀ w,X' w→Ballots w s (selB2 au gn rI I)):=by
 refine cf (args:=[_,_,_]) _ Tryz.func194 rfl Tryz.ntmps194 rfl fun av bor w0=>?_
 repeat' (first|apply ab|apply Qu|apply Qv|refine ad ?_|refine aD ?_|refine aK fun _=>?_|(refine dW ?_)|fail)
 rename_i b2 b3 b4
 refine cu ?_
 refine cu ?_
 refine cM (hc:=vM ks ki I b3 b4 au gn rI dI hR hD hI hasc) (hX:=fun w h=>⟨⟨h.1.1.1,fi h.2,fi h.1.2⟩,h.1.1.2⟩) fun v X1 h1=>?_
 obtain ⟨s,rfl,hw⟩:=h1
 repeat' (first|apply ab|refine ad ?_|apply ar|fail)
 exact ak (ap rfl rfl) ⟨s,rfl,fun w h=>hw w h.1.2⟩
def encBal (b:BallotD):List Value:=[b.v]
structure BalX (ks ki:SlV) (I:List ItemD) (bk ba bg:Nat) (au:ByteArray) (gn:Int) (w:World):Prop where
 i:Items w ki I
 g:Glob w
 k:CelD bk [ks.v,ki.v] w
 a:CelD ba [.string au] w
 n:CelD bg [.int .i64 gn] w
theorem sK (ks ki:SlV) (au:ByteArray) (gn:Int):Mk Tryz.prog 136 #[.agg #[ks.v,ki.v],.string au,.int .i64 gn] (fun _=>True)
  fun u X'=>∃ bk ba bg,u=.func (.func 193) #[] #[.pointer (some ⟨bk,0,none⟩),.pointer (some ⟨ba,0,none⟩),.pointer (some ⟨bg,0,none⟩)]∧∀ w,X' w→CelD bk [ks.v,ki.v] w∧CelD ba [.string au] w∧CelD bg [.int .i64 gn] w:=by
 refine cf (args:=[_,_,_]) _ Tryz.func136 rfl Tryz.ntmps136 rfl fun av bor w0=>?_
 repeat' (first|apply ab|apply Qu|apply Qv|refine ad ?_|refine aK fun _=>?_|apply ar|(refine dW ?_)|fail)
 exact ak (ap rfl rfl) ⟨_,_,_,rfl,fun w h=>⟨fi (h.2 _ bL),fi (h.2 _ bL),fi (h.2 _ bL)⟩⟩
structure BaI (L:List BallotD) (Rs:List BallotD→List Res→Prop) where
 k:Nat
 hk:k≤L.length
 R:List Res
 hR:Rs (L.take k) R
set_option maxHeartbeats 4000000 in
theorem q8 (ks ki:SlV) (I:List ItemD) (bk ba bg:Nat) (au:ByteArray) (gn:Int) (L:List BallotD) (hL:L.length≤1000000)
  (hK:Mk Tryz.prog 194 #[.agg #[ks.v,ki.v],.string au,.int .i64 gn] (fun w=>Items w ki I∧Glob w) (fun u X'=>∃ s:SlV,u=s.v∧∀ w,X' w→Ballots w s L)) :
  It Tryz.prog 193 [.pointer (some ⟨bk,0,none⟩),.pointer (some ⟨ba,0,none⟩),.pointer (some ⟨bg,0,none⟩)] (BalX ks ki I bk ba bg au gn) encBal L:=by
 intro l X Rs hX hY R0 h0
 refine cj (args:=[_,_,_,_]) _ Tryz.func193 rfl Tryz.ntmps193 rfl fun av bor w0=>?_
 refine um (st':=⟨[(1,.pointer (some ⟨bk,0,none⟩)),(2,.pointer (some ⟨ba,0,none⟩)),(3,.pointer (some ⟨bg,0,none⟩)),(0,.func (.yield l) #[] #[])],R0++[],X⟩) (by rw [Z9];exact ax ⟨rfl,rfl,rfl,rfl,trivial⟩ (aG _) fun _ h=>h) ?_
 repeat' (first|apply ab|apply Qu|apply Qv|refine aj ?_|refine aW ?_|apply Qw|(refine oi (cs:=[ks.v,ki.v]) (hF:=fun w h=>(hX w h).k) (hl:=rfl) ?_)|(refine xY (v:=.string au) (hF:=fun w h=>(hX w h).a 0 _ rfl) ?_)|(refine xY (v:=.int .i64 gn) (hF:=fun w h=>(hX w h).n 0 _ rfl) ?_)|(refine cM (hc:=hK) (hX:=fun w h=>⟨(hX w h).i,(hX w h).g⟩) fun v1 X1 h1=>?_;obtain ⟨s,rfl,hs⟩:=h1)|fail)
 refine bK (p:=s.n=L.length∧s.n≤maxLen∧(0<L.length→s.p.isSome=true)) (fun w h=>⟨by simpa using RowsD.len (hs w h.2),Qq (RowsD.cap (hs w h.2)) (RowsD.max (hs w h.2)),fun h0=>(RowsD.row (hs w h.2) 0 L[0].cells (by simp [Zm h0])).2.1⟩) fun ⟨hsn,hsm,hsp⟩=>?_
 simp only [maxLen] at hsm
 refine aT (ι:=BaI L Rs) (fun i=>⟨[(0,.func (.yield l) #[] #[]),(10,s.v),(11,.int .i64 (s.n:Nat)),(12,.int .i64 (i.k:Nat))],i.R++[],fun w=>X w∧X1 w⟩) (fun i=>L.length-i.k) ⟨0,Nat.zero_le _,R0,h0⟩ (ax ⟨rfl,rfl,rfl,rfl,trivial⟩ (aG _) fun _ h=>h) fun i=>?_
 obtain ⟨k,hk,R,hR⟩:=i
 simp only
 by_cases hlt:k<L.length
 · have hsp':=hsp ae
   obtain ⟨x,hx⟩:∃ x,L[k]?=some x:=⟨_,Zm hlt⟩
   have hrow:∀ w,X w∧X1 w→x.cells.length=7∧s.p.isSome=true∧∀ i u,x.cells[i]?=some u→CellAt w s.p (k*7+i) u:=fun w h=>RowsD.row (hs w h.2) k x.cells (by simp [hx])
   have hsplit:L=L.take k++x::L.drop (k+1):=by
    have h1:=List.take_append_drop k L
    rw [List.drop_eq_getElem_cons hlt] at h1
    rw [Zm hlt,Qc] at hx
    rw [hx] at h1
    exact h1.symm
   have htk:L.take (k+1)=L.take k++[x]:=by rw [List.take_add_one,hx,Option.toList_some]
   repeat' (first|apply Qu|fail)
   apply Qv
   repeat' (first|(refine am (bQ true rfl rfl (ZA ae)) rfl aE rfl ?_)|apply ab|apply Qu|refine Qy ?_|apply Qx|apply Qw|fail)
   apply Qv
   repeat' (first|apply ab|apply Qu|refine aI fun _=>?_|refine aH ?_|(refine bz (q:=k*7) ?_)|(refine cq (cs:=x.cells) (hF:=hrow) ?_)|fail)
   rename_i b6
   refine B9 ?_
   refine CX (pre:=[_,_]) (rest:=[_,_]) rfl ?_
   refine aj ?_
   refine aD ?_
   refine dk (l:=R++[cel b6 53 x.cells]) (by rw [Z9];exact List.perm_append_comm (l₁:=[_]) (l₂:=R)) ?_
   apply ab
   refine AN (pre:=R) (fr:=[cel b6 53 x.cells]) rfl rfl rfl rfl rfl (hY _ _ _ _ hsplit hR) (fun _ h=>h.1) fun v R' X' hv=>?_
   obtain ⟨rfl,hR'⟩:=hv
   refine yb rfl ?_
   repeat' (first|apply ab|apply Qv|refine aj ?_|refine bu ?_|refine be (h:=?_)|refine Qz ?_|apply Qx|fail)
   exact ⟨(⟨k+1,hlt,R',by rw [htk];exact hR'⟩:BaI L Rs),(by show L.length-(k+1)<L.length-k;omega),ax ⟨rfl,rfl,rfl,rfl,trivial⟩ (by rw [Z9];exact List.sublist_append_left _ _) fun _ h=>h.1⟩
 · have hkE:k=L.length:=by omega
   repeat' (first|refine am (bQ false rfl rfl (Zn ae)) rfl aE rfl ?_|apply ab|apply Qu|apply Qv|refine Qz ?_|apply aS|fail)
   refine ca (bP rfl) ?_
   rw [hkE,List.take_length] at hR
   simpa using hR
end Go.Proofs.YtcdilibijnboeaaGreatDoor
namespace Go.Proofs.YtcdilibijnboeaaGreatDoor
open Go Go.Proofs Sy Go.Shelf Go.Maps Go.Sort
theorem compS_c:CompC Tryz.prog 47 encStr [] Lib.compact where
 some_:=fun blk off cap ss w h1 h2 h3=>Any.slices_Compact_string Tryz.compS blk off cap ss w h1 h2 h3
 none_:=fun p cap w=>Any.slices_Compact_string_empty Tryz.compS p cap w
 len:=fun ss=>Lib.compact_length_le ss
end Go.Proofs.YtcdilibijnboeaaGreatDoor
namespace Go.Proofs
open Go.Shelf
def Tryz.compI_ren:Go.Shelf.Ren:=⟨fun|20=>138|n=>n,fun|22=>22|3=>3|4=>4|0=>0|n=>n,fun|n=>n⟩
theorem Tryz.compI:Go.Proofs.Lays2.n20 Tryz.prog Tryz.compI_ren:={
 mixed:=by kernel_rfl
 f20:=Tryz.func138.trans (congrArg some (by kernel_rfl))
 t0:=Tryz.underlying0
 a0:=Tryz.isAgg0
 z0:=Tryz.sizeOf0
 v0:=Tryz.zeroValue0
 t3:=Tryz.underlying3
 a3:=Tryz.isAgg3
 z3:=Tryz.sizeOf3
 v3:=Tryz.zeroValue3
 t4:=Tryz.underlying4
 a4:=Tryz.isAgg4
 z4:=Tryz.sizeOf4
 v4:=Tryz.zeroValue4
 t22:=Tryz.underlying22
 a22:=Tryz.isAgg22
 z22:=Tryz.sizeOf22
 v22:=Tryz.zeroValue22
 i3:=by kernel_rfl }
end Go.Proofs
namespace Go.Proofs.YtcdilibijnboeaaGreatDoor
open Go Go.Proofs Sy Go.Shelf Go.Maps Go.Sort
def encJ (n:Int):Value:=.int .i64 n
theorem sortI_c:SortC Tryz.prog 137 encJ (fun ss=>ss.mergeSort (fun a b=>decide (a≤b))) where
 some_:=fun blk off cap ss w h1 h2 h3=>AnyM.slices_Sort_int Tryz.sortI blk off cap ss w h1 h2 h3
 none_:=fun p cap w=>AnyM.slices_Sort_int_none Tryz.sortI p cap w
 len:=fun ss=>List.length_mergeSort ss
theorem compI_c:CompC Tryz.prog 138 encJ 0 Lib.compact where
 some_:=fun blk off cap ss w h1 h2 h3=>Any.slices_Compact_int Tryz.compI blk off cap ss w h1 h2 h3
 none_:=fun p cap w=>Any.slices_Compact_int_empty Tryz.compI p cap w
 len:=fun ss=>Lib.compact_length_le ss
end Go.Proofs.YtcdilibijnboeaaGreatDoor
namespace Go.Proofs.YtcdilibijnboeaaGreatDoor
open Go Go.Proofs Sy
def vpre (d:ByteArray) (l:List BallotD):List Int:=(l.filter fun b=>seqB b.claim d).map BallotD.server
def votV (d:ByteArray) (l:List BallotD):List Int:=Lib.compact ((vpre d l).mergeSort (fun a b=>decide (a≤b)))
theorem CQ {d:ByteArray} {l:List BallotD} {x:BallotD} (h:seqB x.claim d=true):vpre d (l++[x])=vpre d l++[x.server]:=by simp [vpre,List.filter_append,List.filter_cons,h]
theorem CR {d:ByteArray} {l:List BallotD} {x:BallotD} (h:seqB x.claim d=false):vpre d (l++[x])=vpre d l:=by simp [vpre,List.filter_append,List.filter_cons,h]
theorem sZ (d:ByteArray) (l:List BallotD):(vpre d l).length≤l.length:=by rw [vpre,Z3];exact List.length_filter_le _ _
set_option maxHeartbeats 4000000 in
theorem uu (ks ki:SlV) (I:List ItemD) (au:ByteArray) (gn:Int) (d:ByteArray) (L:List BallotD) (hL:L.length≤1000000)
  (hK:Mk Tryz.prog 194 #[.agg #[ks.v,ki.v],.string au,.int .i64 gn] (fun w=>Items w ki I∧Glob w) (fun u X'=>∃ s:SlV,u=s.v∧∀ w,X' w→Ballots w s L)) :
  Mk Tryz.prog 83 #[.agg #[ks.v,ki.v],.string d,.string au,.int .i64 gn] (fun w=>Items w ki I∧Glob w) (fun u _=>∃ A c,u=.slice A (votV d L).length c):=by
 refine cf (args:=[_,_,_,_]) _ Tryz.func83 rfl Tryz.ntmps83 rfl fun av bor w0=>?_
 refine cY 3 1 ?_
 repeat' (first|apply ab|apply Qu|apply Qv|refine aj ?_|refine ad ?_|refine aD ?_|refine aI fun _=>?_|refine aK fun _=>?_|apply Qw|(refine cM (hc:=sK ks ki au gn) (hX:=fun w h=>trivial) fun v1 X1 h1=>?_;obtain ⟨bk,ba,bg,rfl,hb⟩:=h1)|fail)
 rename_i b4 b5 b9
 refine zA (ps:=[15]) (xs:=L) (enc:=encBal) (X1:=BalX ks ki I bk ba bg au gn) rfl inferInstance (q8 ks ki I bk ba bg au gn L hL hK) (fun w h=>⟨h.1.1,h.1.2,(hb w h.2).1,(hb w h.2).2.1,(hb w h.2).2.2⟩) (fun _=>rfl) rfl
  (fun pre loc1=>∃ A q,loc1=[cel b9 22 [.slice A (vpre d pre).length q],cel b5 9 [.string d],cel b4 25 [ks.v,ki.v],orow 3 1 (.slice A (vpre d pre).length q) (vpre d pre).length ((vpre d pre).map encJ)])
  ⟨none,0,rfl⟩ ?_ ?_
 · rintro lo pre x suf loc1 hsp ⟨A,q,rfl⟩ av bor w0
   have hpx:pre.length<L.length:=by rw [hsp];simp
   have hfl:=sZ d pre
   repeat' (first|apply ab|refine Rd.Qv (h:=?_)|refine aI fun _=>?_|refine aH ?_|fail)
   intro av bor w0
   cases hmv:seqB x.claim d with
   | true =>
    rw [CQ hmv]
    generalize vpre d pre=ys at *
    repeat' (first|refine am (dm true rfl rfl hmv) rfl aE rfl ?_|apply ab|apply Rd.Qu|refine Rd.Qv (h:=?_)|refine az ?_|refine aA ?_|refine bX fun _=>?_|refine bc ?_|refine Rd.Qy (ht:=?_)|apply Rd.Qw|(refine aV (size:=1) (news:=[encJ x.server]) (q:=1) rfl rfl rfl rfl (fun _=>At.there _ (At.there _ (At.there _ (At.there _ (At.there _ (At.here _)))))) (fun w G=>bo G aJ rfl rfl 1) ae (by simp only [maxLen];omega) rfl ?_ rfl ?_;(with_reducible rfl);intro A3 c3)|fail)
    have e1:(ys++[x.server]).length=ys.length+1:=by simp
    have e2:(ys++[x.server]).map encJ=ys.map encJ++[encJ x.server]:=by simp
    rw [e1,e2]
    exact ⟨_,.cons _ (.cons _ (aG _)),A3,c3,rfl⟩
   | false =>
    rw [CR hmv]
    generalize vpre d pre=ys at *
    repeat' (first|refine am (dm false rfl rfl hmv) rfl aE rfl ?_|apply ab|apply Rd.Qu|refine Rd.Qv (h:=?_)|refine az ?_|refine aA ?_|refine Rd.Qz (hf:=?_)|apply Rd.Qx|apply Rd.Qw|fail)
    exact ⟨_,.cons _ (aG _),A,q,rfl⟩
 · rintro loc1 ⟨A,q,rfl⟩
   have hfl:=sZ d L
   have hvo:votV d L=Lib.compact ((vpre d L).mergeSort (fun a b=>decide (a≤b))):=rfl
   rw [hvo]
   generalize vpre d L=ys at *
   repeat' (first|apply Qu|apply Qv|refine aA ?_|fail)
   refine on (hc:=sortI_c.ct (e:=3) (n:=ys.length) (ss:=ys) ae) (hX:=fun _ _=>trivial) ?_
   repeat' (first|apply ab|apply Qu|apply Qv|refine aA ?_|fail)
   refine tv (hc:=compI_c.ct) (hX:=fun _ _=>trivial) ?_
   rintro _ _ X2 ⟨A3,c3,rfl,rfl⟩
   repeat' (first|apply ab|refine ad ?_|apply ar|fail)
   exact ak (ap rfl rfl) ⟨A3,c3,rfl⟩
end Go.Proofs.YtcdilibijnboeaaGreatDoor
