/- Joined by program out of: ZlA ZmA ZnA Zy Zt Ne Zu Tk Tm Tn Ya Yb Yd Yc Yg Jg Oa Ob Oc. -/
import Derived.Test.YtoefdofbekihdaaGreatDoorV10
set_option linter.unusedVariables false
set_option linter.unusedSimpArgs false
set_option maxHeartbeats 16000000
namespace Go.Proofs.YtoefdofbekihdaaGreatDoor
open Go Go.Proofs Sy SrG
namespace SrA
def p22 (i:Nat):Nat:=i*22
theorem dJ (i:Nat):p22 i=i*22:=rfl
attribute [irreducible] p22
structure FndX where
 rank:Int
 dg:ByteArray
 r:List Value
 hr:r.length=20
 h1:r.all (·.oneCell')=true
def FndX.cells (f:FndX):List Value:=.int .i64 f.rank::.string f.dg::f.r
theorem FndX.len (f:FndX):f.cells.length=22:=by simp [FndX.cells,f.hr]
theorem FndX.one (f:FndX):f.cells.all (·.oneCell')=true:=by rw [FndX.cells,List.all_cons,List.all_cons,f.h1];rfl
theorem cellsF (P:List FndX):∀ r∈P.map FndX.cells,r.length=22:=fun r hr=>by
 obtain ⟨c,_,rfl⟩:=List.mem_map.1 hr
 exact c.len
abbrev postR (s:SlV) (P:List FndX):Res:=orow 218 22 (.slice s.p s.n s.c) s.n (P.map FndX.cells).flatten
theorem cN:∀ (L:List FndX) (p:Nat) (x:FndX),p<L.length→(L.map FndX.cells).flatten.take (p*22)++x.cells++(L.map FndX.cells).flatten.drop (p*22+22)=((L.set p x).map FndX.cells).flatten
 | [],p,x,h=>absurd h (by simp)
 | c::L,0,x,h=>by
  have h6:c.cells.length=22:=c.len
  rw [List.set_cons_zero,Qv,Qv,List.flatten_cons,List.flatten_cons,Nat.zero_mul,Ql,List.take_zero,Qb,List.drop_append,h6,List.drop_of_length_le (by omega)]
  rfl
 | c::L,p+1,x,h=>by
  have h6:c.cells.length=22:=c.len
  have ih:=cN L p x (by simpa using h)
  rw [List.set_cons_succ,Qv,Qv,List.flatten_cons,List.flatten_cons,←ih,List.take_append,List.drop_append,h6,List.take_of_length_le aa,List.drop_of_length_le aa,
   show (p+1)*22-22=p*22 from by omega,show (p+1)*22+22-22=p*22+22 from by omega,Qb,ZZ,ZZ,ZZ]
theorem dT {P:List FndX} {i j:Nat} {x y:FndX} (hi:P[i]?=some x) (hj:P[j]?=some y):((P.set i y).set j x).Perm P:=by
 obtain ⟨h1,rfl⟩:=List.getElem?_eq_some_iff.1 hi
 obtain ⟨h2,rfl⟩:=List.getElem?_eq_some_iff.1 hj
 exact List.set_set_perm h1 h2
section
variable {N:Nat} {av bor:List Nat} {w0:World} {st:St} {ty:TypeId} {x y:Operand} {E:Env} {loc:List Res} {X:World→Prop} {ops:Array Oper} {kk:St→Prop} {pos:String} {af:Array Edge} {g:Option (Nat×Bool)} {rest:List Oper} {bb want:Bool}
theorem bU {A:Option Addr} {m c i:Nat} {P:List FndX} {p:FndX} (hx:ev st.env x=some (elP A (p22 i))) (hm:orow 218 22 (.slice A m c) m (P.map FndX.cells).flatten∈st.loc) (hn:m=P.length) (hi:P[i]?=some p) :
  Sy.Yields Tryz.prog N av bor w0 st (.load 218 x) ty (.agg p.cells.toArray):=gF (xs:=P.map FndX.cells) (cs:=p.cells) (dJ i▸hx) hm (by simp [hn]) (cellsF P) (by simp [hi])
theorem cQ {d:Option Tmp} {loc':List Res} {A:Option Addr} {m c i:Nat} {P:List FndX} {p:FndX} (hx:ev E x=some (elP A (p22 i)):=by rfl) (hy:ev E y=some (.agg p.cells.toArray):=by rfl) (hi:i<m:=by omega) (hn:m=P.length)
  (hA:At (orow 218 22 (.slice A m c) m (P.map FndX.cells).flatten) (orow 218 22 (.slice A m c) m ((P.set i p).map FndX.cells).flatten) loc loc':=by (repeat (first|exact At.here _|apply At.there))) (hg:gdB ops E g=some (bb,want):=by rfl) (hb:bb=want:=by exact am) (hd:inB N d=true:=by rfl)
  (h:Sw Tryz.prog N av bor w0 ops rest ⟨putE E d undef,loc',X⟩ kk):Sw Tryz.prog N av bor w0 ops (⟨d,.store 218 x y,ty,pos,af,g⟩::rest) ⟨E,loc,X⟩ kk :=
 oZ (i:=i) (size:=22) (vs:=p.cells) ae (dJ i▸hx) hy rfl p.one p.len hi (cN P i p aa) hA hg hb hd h
end
def PermAt (s:SlV) (P:List FndX) (u:Value) (R:List Res) (X:World→Prop):Prop:=u=.tuple #[]∧∃ Q:List FndX,Q.Perm P∧R=[postR s Q]
structure PermI (P:List FndX) (n:Nat) where
 k:Nat
 hk:k≤n
 Q:List FndX
 hQ:Q.Perm P
set_option maxHeartbeats 4000000 in
theorem cE (s:SlV) (P:List FndX) (a b n:Nat) (fv:Value) (hs:s.n=P.length) (hm:s.n≤1000000) (ha:a+n≤s.n) (hb:b+n≤s.n) :
  Ct Tryz.prog 275 #[s.v,.int .i64 (a:Nat),.int .i64 (b:Nat),.int .i64 (n:Nat),fv] [postR s P] (fun _=>True) (PermAt s P):=by
 refine bM (args:=[_,_,_,_,_]) _ Tryz.func275 rfl Tryz.ntmps275 rfl fun av bor w0=>?_
 refine cI (r:=postR s P) ar (p:=0<s.n→s.p.isSome=true) (fun w h hn=>ck h hn) fun hp=>?_
 repeat' (first|refine gs ?_|fail)
 refine ap (ι:=PermI P n) (fun i=>⟨[(0,s.v),(1,.int .i64 (a:Nat)),(2,.int .i64 (b:Nat)),(3,.int .i64 (n:Nat)),(10,.int .i64 (i.k:Nat))],[postR s i.Q],fun _=>True⟩) (fun i=>n-i.k) ⟨0,Nat.zero_le _,P,List.Perm.refl _⟩ (aj ⟨rfl,rfl,rfl,rfl,rfl,trivial⟩ (al _) fun _ h=>h) fun i=>?_
 obtain ⟨k,hk,Q,hQ⟩:=i
 simp only
 have hl:=hQ.length_eq
 repeat' (first|refine gs ?_|(refine gp ?_ ?_<;>intro hx_ this)|fail)
 · have hlt:k<n:=by omega
   have hp':=hp aa
   obtain ⟨x,hx⟩:∃ x,Q[a+k]?=some x:=⟨_,Zm aa⟩
   obtain ⟨y,hy⟩:∃ y,Q[b+k]?=some y:=⟨_,Zm aa⟩
   (refine aq ⟨[0,1,2,3,4,5,6,7,8,9,10,11,12,14,15,16,17,18],[(13,⟨[],[(19,⟨[20],[(21,⟨[22],[(23,⟨[],[]⟩)]⟩)]⟩)]⟩),(19,⟨[],[(13,⟨[20],[(21,⟨[22],[(23,⟨[],[]⟩)]⟩)]⟩)]⟩)]⟩ [] (fun _=>True) (h:=?_))
   all_goals repeat' (first|refine gd ?_|refine ax (hy:=by first|(apply aB (q:=p22 (a+k));rfl;rfl;omega;omega;assumption;(rw [dJ];omega))|(apply aB (q:=p22 (b+k));rfl;rfl;omega;omega;assumption;(rw [dJ];omega))) ?_|refine az ?_ (h':=?_)|exact aA|(refine ai (bU (i:=a+k) (P:=Q) rfl ar aa hx) rfl rfl rfl ?_)|(refine ai (bU (i:=b+k) (P:=Q) rfl ar aa hy) rfl rfl rfl ?_)|((refine cQ (i:=a+k) (p:=y) rfl rfl aa (by first|omega|(simp only [List.length_set];omega)) (At.here _) rfl am rfl ?_))|((refine cQ (i:=b+k) (p:=x) rfl rfl aa (by first|omega|(simp only [List.length_set];omega)) (At.here _) rfl am rfl ?_))|(refine gq ?_ ?_<;>intro hx_ this)|fail)
   all_goals
    repeat' (first|refine gs ?_|(refine gp ?_ ?_<;>intro hx_ this)|fail)
    exact ⟨(⟨k+1,hlt,(Q.set (a+k) y).set (b+k) x,(dT hx hy).trans hQ⟩:PermI P n),(by show n-(k+1)<n-k;omega),aj ⟨rfl,rfl,rfl,rfl,rfl,trivial⟩ (al _) fun _ h=>h⟩
 · exact bA (aW rfl) ⟨rfl,Q,hQ,rfl⟩
section
variable {N:Nat} {av bor:List Nat} {w0:World} {ops:Array Oper} {rest:List Oper} {k:St→Prop} {E:Env} {X:World→Prop} {d:Option Tmp} {ty:TypeId} {pos:String} {af:Array Edge} {g:Option (Nat×Bool)} {bb want:Bool}
theorem cR {x:Operand} {xs:List Operand} {ats:Array TypeId} {f:FuncId} {args:List Value} {s:SlV} {Q:List FndX}
  (hx:ev E x=some (.func (.func f) #[] #[]):=by rfl) (ha:evs E xs=some args:=by rfl) (hg:gdB ops E g=some (bb,want):=by rfl) (hb:bb=want:=by exact am) (hd:inB N d=true:=by rfl) (hf:FnBody Tryz.prog f:=by infer_instance)
  (hc:Ct Tryz.prog f args.toArray [postR s Q] (fun _=>True) (PermAt s Q))
  (h:∀ Q':List FndX,Q'.Perm Q→Sw Tryz.prog N av bor w0 ops rest ⟨putE E d (.tuple #[]),[postR s Q'],X⟩ k) :
  Sw Tryz.prog N av bor w0 ops (⟨d,.call ⟨.value x,xs.toArray,ats⟩,ty,pos,af,g⟩::rest) ⟨E,[postR s Q],X⟩ k :=
 bY (pre:=[postR s Q]) (fr:=[]) (first:=#[]) (caps:=#[]) (Post:=PermAt s Q) hx ha rfl hg hb hd hf (by simpa using hc) (fun _ _=>trivial) fun u R X' ⟨h1,Q',h2,h3⟩=>by
  subst h1
  subst h3
  refine iL (fun a w ok=>?_) (h Q' h2)
  exact ok.via fun M G=>G.imp fun _ h=>h.1
end
structure RotI (P:List FndX) (p q:Nat) where
 i:Nat
 j:Nat
 h1:1≤i
 h2:i≤p
 h3:1≤j
 h4:j≤q
 Q:List FndX
 hQ:Q.Perm P
set_option maxHeartbeats 4000000 in
theorem fT (s:SlV) (P:List FndX) (a m b:Nat) (fv:Value) (hs:s.n=P.length) (hm:s.n≤1000000) (ha:a<m) (hb:m<b) (hbs:b≤s.n) :
  Ct Tryz.prog 267 #[s.v,.int .i64 (a:Nat),.int .i64 (m:Nat),.int .i64 (b:Nat),fv] [postR s P] (fun _=>True) (PermAt s P):=by
 refine bM (args:=[_,_,_,_,_]) _ Tryz.func267 rfl Tryz.ntmps267 rfl fun av bor w0=>?_
 repeat' (first|refine aQ (hq:=by omega) ?_|refine gs ?_|(refine gp ?_ ?_<;>intro hx_ this)|fail)
 refine ap (ι:=RotI P (m-a) (b-m)) (fun r=>⟨[(0,s.v),(2,.int .i64 (m:Nat)),(4,fv),(10,.int .i64 (r.i:Nat)),(11,.int .i64 (r.j:Nat))],[postR s r.Q],fun _=>True⟩) (fun r=>r.i+r.j) ⟨m-a,b-m,by omega,by omega,by omega,by omega,P,List.Perm.refl _⟩ (aj ⟨rfl,rfl,rfl,rfl,rfl,trivial⟩ (al _) fun _ h=>h) fun r=>?_
 obtain ⟨i,j,h1,h2,h3,h4,Q,hQ⟩:=r
 simp only
 have hl:=hQ.length_eq
 by_cases hij:i=j
 · repeat' (first|refine gc (hab:=by omega) ?_|refine aQ (hq:=by omega) ?_|refine gs ?_|(refine cR (hc:=cE s Q (m-i) m i fv aa hm aa aa) (h:=fun Q2 hQ2=>?_))|(refine gp ?_ ?_<;>intro hx_ this)|fail)
   exact bA (aW rfl) ⟨rfl,Q2,hQ2.trans hQ,rfl⟩
 · repeat' (first|refine aQ (hq:=by omega) ?_|refine aG (hq:=by omega) ?_|refine gs ?_|(refine cR (hc:=cE s Q (m-i) m j fv aa hm aa aa) (h:=fun Q2 hQ2=>?_))|(refine cR (hc:=cE s Q (m-i) (m+j-i) i fv aa hm aa aa) (h:=fun Q2 hQ2=>?_))|(refine gp ?_ ?_<;>intro hx_ this)|fail)
   · exact ⟨(⟨i-j,j,by omega,by omega,h3,h4,Q2,hQ2.trans hQ⟩:RotI P (m-a) (b-m)),(by show i-j+j<i+j;omega),aj ⟨rfl,rfl,rfl,rfl,rfl,trivial⟩ (al _) fun _ h=>h⟩
   · exact ⟨(⟨i,j-i,h1,h2,by omega,by omega,Q2,hQ2.trans hQ⟩:RotI P (m-a) (b-m)),(by show i+(j-i)<i+j;omega),aj ⟨rfl,rfl,rfl,rfl,rfl,trivial⟩ (al _) fun _ h=>h⟩
   · have h9:(i:Int)=(j:Int):=by simpa using hx_
     exact absurd (show i=j by omega) hij
def cmpX (x y:FndX):Int:=cmp2 x.rank y.rank x.dg y.dg
theorem eG (x y:FndX):Pu Tryz.prog 165 #[.agg x.cells.toArray,.agg y.cells.toArray] (fun _=>True) (.int .i64 (cmpX x y)):=by
 refine ak (args:=[_,_]) _ Tryz.func165 rfl Tryz.ntmps165 rfl fun av bor w0=>?_
 have h1:=gY x.rank y.rank
 have h2:=gE x.dg y.dg
 rw [cmpX,cmp2]
 generalize cmpI x.rank y.rank=k at *
 generalize SrG.cmpB_g x.dg y.dg=l at *
 have h3:=fun s=>tA s k l
 repeat' (first|refine gs ?_|refine gs1 fun _=>?_|(refine gp ?_ ?_<;>intro hx_ this)|fail)
 rename_i b2 b3
 (refine aq ⟨[0,1,2,3,5,6,7,8],[(4,⟨[],[(9,⟨[],[(10,⟨[],[(11,⟨[12],[]⟩)]⟩)]⟩)]⟩)]⟩ [cel b3 218 y.cells,cel b2 218 x.cells] (fun _=>True) (h:=?_))
 all_goals repeat' (first|(refine ab (hc:=h1) (hX:=fun _ _=>trivial) ?_)|(refine ab (hc:=h2) (hX:=fun _ _=>trivial) ?_)|(refine ab (hc:=h3 ⟨some ⟨bs,0,none⟩,2,2⟩) (hX:=fun w h=>aN (xs:=[[.int .i64 k],[.int .i64 l]]) h.2 rfl (by decide) (by simp)) ?_)|refine gdz ?_|refine az ?_ (h':=?_)|exact aA|((refine dt (len:=2) (vs:=[.int .i64 k,.int .i64 l]) fun bs=>?_;refine bo ?_))|refine gs1 fun _=>?_|(refine gq ?_ ?_<;>intro hx_ this)|fail)
 all_goals
  repeat' (first|refine gs ?_|refine gs1 fun _=>?_|(refine gp ?_ ?_<;>intro hx_ this)|fail)
  exact ad (ag rfl rfl) rfl
def cmpF:Value:=.func (.func 165) #[] #[]
def Srt (P:List FndX):Prop:=∀ (i j:Nat) (x y:FndX),i<j→P[i]?=some x→P[j]?=some y→¬ cmpX y x<0
def Rel (P Q:List FndX):Prop:=Q.Perm P∧(Srt P→Q=P)
theorem Rel.refl (P:List FndX):Rel P P:=⟨List.Perm.refl _,fun _=>rfl⟩
theorem Rel.trans {P Q R:List FndX} (h:Rel P Q) (k:Rel Q R):Rel P R:=⟨k.1.trans h.1,fun hs=>by rw [k.2 (h.2 hs▸hs),h.2 hs]⟩
theorem Rel.swap {P Q:List FndX} (h:Rel P Q) {i j:Nat} {x y:FndX} (hi:Q[i]?=some x) (hj:Q[j]?=some y) (hno:Srt P→False):Rel P ((Q.set i y).set j x):=⟨(dT hi hj).trans h.1,fun hs=>(hno hs).elim⟩
theorem Rel.srt {P Q:List FndX} (h:Rel P Q) (hs:Srt P):Srt Q:=by rw [h.2 hs];exact hs
theorem Rel.perm {P Q Q':List FndX} (h:Rel P Q) (k:Q'.Perm Q) (hno:Srt P→False):Rel P Q':=⟨k.trans h.1,fun hs=>(hno hs).elim⟩
def RelAt (s:SlV) (P:List FndX) (u:Value) (R:List Res) (X:World→Prop):Prop:=u=.tuple #[]∧∃ Q:List FndX,Rel P Q∧R=[postR s Q]
end SrA
namespace SrA
structure InsI (P:List FndX) (a b:Nat) where
 k:Nat
 h1:a+1≤k
 h2:k≤b∨k=a+1
 Q:List FndX
 hQ:Rel P Q
structure InsJ (P:List FndX) (a k:Nat) where
 j:Nat
 h1:a≤j
 h2:j≤k
 Q:List FndX
 hQ:Rel P Q
set_option maxHeartbeats 60000000 in
theorem dj (s:SlV) (P:List FndX) (a b:Nat) (hs:s.n=P.length) (hm:s.n≤1000000) (ha:a≤s.n) (hb:b≤s.n) :
  Ct Tryz.prog 255 #[s.v,.int .i64 (a:Nat),.int .i64 (b:Nat),cmpF] [postR s P] (fun _=>True) (RelAt s P):=by
 refine bM (args:=[_,_,_,_]) _ Tryz.func255 rfl Tryz.ntmps255 rfl fun av bor w0=>?_
 refine cI (r:=postR s P) ar (p:=0<s.n→s.p.isSome=true) (fun w h hn=>ck h hn) fun hp=>?_
 repeat' (first|refine aG (q:=1) (hq:=by omega) ?_|refine gs ?_|(refine gp ?_ ?_<;>intro hx_ this)|fail)
 refine ap (ι:=InsI P a b) (fun i=>⟨[(0,s.v),(1,.int .i64 (a:Nat)),(2,.int .i64 (b:Nat)),(3,cmpF),(8,.int .i64 (i.k:Nat))],[postR s i.Q],fun _=>True⟩) (fun i=>b-i.k) ⟨a+1,Qq _,.inr rfl,P,Rel.refl _⟩ (aj ⟨rfl,rfl,rfl,rfl,rfl,trivial⟩ (al _) fun _ h=>h) fun i=>?_
 obtain ⟨k,h1,h2,Q,hQ⟩:=i
 simp only
 have hl:=hQ.1.length_eq
 repeat' (first|refine gs ?_|(refine gp ?_ ?_<;>intro hx_ this)|fail)
 · have hkb:k<b:=by omega
   refine ap (ι:=InsJ P a k) (fun i=>⟨[(0,s.v),(1,.int .i64 (a:Nat)),(2,.int .i64 (b:Nat)),(3,cmpF),(8,.int .i64 (k:Nat)),(9,.int .i64 (i.j:Nat))],[postR s i.Q],fun _=>True⟩) (fun i=>i.j) ⟨k,by omega,Qq _,Q,hQ⟩ (aj ⟨rfl,rfl,rfl,rfl,rfl,rfl,trivial⟩ (al _) fun _ h=>h) fun i=>?_
   obtain ⟨j,h3,h4,Q2,hQ2⟩:=i
   simp only
   have hl2:=hQ2.1.length_eq
   have hp':=hp aa
   by_cases hja:a<j
   · obtain ⟨x,hx⟩:∃ x,Q2[j]?=some x:=⟨_,Zm aa⟩
     obtain ⟨y,hy⟩:∃ y,Q2[j-1]?=some y:=⟨_,Zm aa⟩
     have hcm:=eG x y
     have hsx:Srt P→¬ cmpX x y<0:=fun hs=>hQ2.srt hs (j-1) j y x aa hy hx
     generalize cmpX x y=z at *
     apply Qw
     apply Qw
     unfold cmpF
     (refine aq ⟨[0,1,2,3,4,5,6,7,9,10,11,12],[(8,⟨[],[(13,⟨[],[(14,⟨[15,16],[]⟩)]⟩)]⟩),(13,⟨[],[(8,⟨[],[(14,⟨[15,16],[]⟩)]⟩)]⟩)]⟩ [] (fun _=>True) (h:=?_))
     all_goals repeat' (first|refine ax (hy:=by first|(apply y_gtrT_g;rfl;rfl;omega)) ?_|(refine ab (hc:=hcm) (hX:=fun _ _=>trivial) ?_)|refine gd ?_|refine ax (hy:=by first|(apply aB (q:=p22 (j));rfl;rfl;omega;omega;assumption;(rw [dJ];omega))|(apply aB (q:=p22 (j-1));rfl;rfl;omega;omega;assumption;(rw [dJ];omega))) ?_|refine az ?_ (h':=?_)|exact aA|(refine ai (bU (i:=j) (P:=Q2) rfl ar aa hx) rfl rfl rfl ?_)|(refine ai (bU (i:=j-1) (P:=Q2) rfl ar aa hy) rfl rfl rfl ?_)|(refine gq ?_ ?_<;>intro hx_ this)|fail)
     all_goals
      repeat' (first|refine gs ?_|(refine gp ?_ ?_<;>intro hx_ this)|fail)
      · (refine aq ⟨[0,1,2,3,4,5,6,7,8,10,11,12],[(9,⟨[],[(13,⟨[14],[(15,⟨[16],[(17,⟨[],[]⟩)]⟩)]⟩)]⟩),(13,⟨[],[(9,⟨[14],[(15,⟨[16],[(17,⟨[],[]⟩)]⟩)]⟩)]⟩)]⟩ [] (fun _=>True) (h:=?_))
        all_goals repeat' (first|refine gd ?_|refine ax (hy:=by first|(apply aB (q:=p22 (j));rfl;rfl;omega;omega;assumption;(rw [dJ];omega))|(apply aB (q:=p22 (j-1));rfl;rfl;omega;omega;assumption;(rw [dJ];omega))) ?_|refine az ?_ (h':=?_)|exact aA|(refine ai (bU (i:=j) (P:=Q2) rfl ar aa hx) rfl rfl rfl ?_)|(refine ai (bU (i:=j-1) (P:=Q2) rfl ar aa hy) rfl rfl rfl ?_)|((refine cQ (i:=j) (p:=y) rfl rfl aa (by first|omega|(simp only [List.length_set];omega)) (At.here _) rfl am rfl ?_))|((refine cQ (i:=j-1) (p:=x) rfl rfl aa (by first|omega|(simp only [List.length_set];omega)) (At.here _) rfl am rfl ?_))|(refine gq ?_ ?_<;>intro hx_ this)|fail)
        all_goals
         repeat' (first|refine aQ (q:=1) (hq:=by omega) ?_|refine gs ?_|(refine gp ?_ ?_<;>intro hx_ this)|fail)
         exact ⟨(⟨j-1,by omega,by omega,(Q2.set j y).set (j-1) x,hQ2.swap hx hy (fun hs=>hsx hs (by first|assumption|omega))⟩:InsJ P a k),(by show j-1<j;omega),aj ⟨rfl,rfl,rfl,rfl,rfl,rfl,trivial⟩ (al _) fun _ h=>h⟩
      · repeat' (first|refine aG (q:=1) (hq:=by omega) ?_|refine gs ?_|(refine gp ?_ ?_<;>intro hx_ this)|fail)
        exact ⟨(⟨k+1,by omega,by omega,Q2,hQ2⟩:InsI P a b),(by show b-(k+1)<b-k;omega),aj ⟨rfl,rfl,rfl,rfl,rfl,trivial⟩ (al _) fun _ h=>h⟩
   · apply Qw
     apply Qw
     unfold cmpF
     (refine aq ⟨[0,1,2,3,4,5,6,7,9,10,11,12],[(8,⟨[],[(13,⟨[],[(14,⟨[15,16],[]⟩)]⟩)]⟩),(13,⟨[],[(8,⟨[],[(14,⟨[15,16],[]⟩)]⟩)]⟩)]⟩ [] (fun _=>True) (h:=?_))
     all_goals repeat' (first|refine ax (hy:=by first|(apply y_gtrF_g;rfl;rfl;omega)) ?_|refine gd ?_|refine az ?_ (h':=?_)|exact aA|(refine gq ?_ ?_<;>intro hx_ this)|fail)
     all_goals
      repeat' (first|refine aG (q:=1) (hq:=by omega) ?_|refine gs ?_|(refine gp ?_ ?_<;>intro hx_ this)|fail)
      exact ⟨(⟨k+1,by omega,by omega,Q2,hQ2⟩:InsI P a b),(by show b-(k+1)<b-k;omega),aj ⟨rfl,rfl,rfl,rfl,rfl,trivial⟩ (al _) fun _ h=>h⟩
 · exact bA (aW rfl) ⟨rfl,Q,hQ,rfl⟩
section
variable {N:Nat} {av bor:List Nat} {w0:World} {ops:Array Oper} {rest:List Oper} {k:St→Prop} {E:Env} {X:World→Prop} {d:Option Tmp} {ty:TypeId} {pos:String} {af:Array Edge} {g:Option (Nat×Bool)} {bb want:Bool}
theorem gJ {x:Operand} {xs:List Operand} {ats:Array TypeId} {f:FuncId} {args:List Value} {s:SlV} {Q:List FndX}
  (hx:ev E x=some (.func (.func f) #[] #[]):=by rfl) (ha:evs E xs=some args:=by rfl) (hg:gdB ops E g=some (bb,want):=by rfl) (hb:bb=want:=by exact am) (hd:inB N d=true:=by rfl) (hf:FnBody Tryz.prog f:=by infer_instance)
  (hc:Ct Tryz.prog f args.toArray [postR s Q] (fun _=>True) (RelAt s Q))
  (h:∀ Q':List FndX,Rel Q Q'→Sw Tryz.prog N av bor w0 ops rest ⟨putE E d (.tuple #[]),[postR s Q'],X⟩ k) :
  Sw Tryz.prog N av bor w0 ops (⟨d,.call ⟨.value x,xs.toArray,ats⟩,ty,pos,af,g⟩::rest) ⟨E,[postR s Q],X⟩ k :=
 bY (pre:=[postR s Q]) (fr:=[]) (first:=#[]) (caps:=#[]) (Post:=RelAt s Q) hx ha rfl hg hb hd hf (by simpa using hc) (fun _ _=>trivial) fun u R X' ⟨h1,Q',h2,h3⟩=>by
  subst h1
  subst h3
  refine iL (fun a w ok=>?_) (h Q' h2)
  exact ok.via fun M G=>G.imp fun _ h=>h.1
theorem cF {x:Operand} {xs:List Operand} {ats:Array TypeId} {f:FuncId} {args:List Value} {s:SlV} {P Q:List FndX} (hQ:Rel P Q)
  (hx:ev E x=some (.func (.func f) #[] #[]):=by rfl) (ha:evs E xs=some args:=by rfl) (hg:gdB ops E g=some (bb,want):=by rfl) (hb:bb=want:=by exact am) (hd:inB N d=true:=by rfl) (hf:FnBody Tryz.prog f:=by infer_instance)
  (hc:∀ Q:List FndX,Rel P Q→Ct Tryz.prog f args.toArray [postR s Q] (fun _=>True) (RelAt s Q))
  (h:∀ Q':List FndX,Rel P Q'→Sw Tryz.prog N av bor w0 ops rest ⟨putE E d (.tuple #[]),[postR s Q'],X⟩ k) :
  Sw Tryz.prog N av bor w0 ops (⟨d,.call ⟨.value x,xs.toArray,ats⟩,ty,pos,af,g⟩::rest) ⟨E,[postR s Q],X⟩ k:=gJ hx ha hg hb hd hf (hc Q hQ) fun Q' h1=>h Q' (hQ.trans h1)
theorem iM {x:Operand} {xs:List Operand} {ats:Array TypeId} {f:FuncId} {args:List Value} {s:SlV} {P Q:List FndX} (hQ:Rel P Q) (hno:Srt P→False)
  (hx:ev E x=some (.func (.func f) #[] #[]):=by rfl) (ha:evs E xs=some args:=by rfl) (hg:gdB ops E g=some (bb,want):=by rfl) (hb:bb=want:=by exact am) (hd:inB N d=true:=by rfl) (hf:FnBody Tryz.prog f:=by infer_instance)
  (hc:∀ Q:List FndX,Rel P Q→Ct Tryz.prog f args.toArray [postR s Q] (fun _=>True) (PermAt s Q))
  (h:∀ Q':List FndX,Rel P Q'→Sw Tryz.prog N av bor w0 ops rest ⟨putE E d (.tuple #[]),[postR s Q'],X⟩ k) :
  Sw Tryz.prog N av bor w0 ops (⟨d,.call ⟨.value x,xs.toArray,ats⟩,ty,pos,af,g⟩::rest) ⟨E,[postR s Q],X⟩ k:=cR hx ha hg hb hd hf (hc Q hQ) fun Q' h1=>h Q' (hQ.perm h1 hno)
end
structure BinL (P:List FndX) (lo hi:Nat) extends BinI_g lo hi where
 hs:Srt P→i=lo
structure BinR (P:List FndX) (lo hi:Nat) extends BinI_g lo hi where
 hs:Srt P→j=hi
structure MerO (P:List FndX) (a m b mid:Nat) extends MerI_g a m b mid where
 hs:Srt P→j=(if mid<m then mid else m)
structure UpI (P:List FndX) (a:Nat) where
 k:Nat
 h1:a≤k
 Q:List FndX
 hQ:Rel P Q
structure DownI (P:List FndX) (i m:Nat) where
 k:Nat
 h1:i≤k
 h2:k≤m
 Q:List FndX
 hQ:Rel P Q
set_option maxRecDepth 20000 in
set_option maxHeartbeats 60000000 in
theorem cO:∀ (d:Nat) (s:SlV) (P:List FndX) (a m b:Nat),b-a≤d→s.n=P.length→s.n≤1000000→a<m→m<b→b≤s.n →
  Ct Tryz.prog 256 #[s.v,.int .i64 (a:Nat),.int .i64 (m:Nat),.int .i64 (b:Nat),cmpF] [postR s P] (fun _=>True) (RelAt s P)
 | 0,s,P,a,m,b,hd,hs,hm,ha,hb,hbs=>absurd hd aa
 | d+1,s,P,a,m,b,hd,hs,hm,ha,hb,hbs=>by
  have ih:=cO d
  have hP:Rel P P:=Rel.refl P
  refine bM (args:=[_,_,_,_,_]) _ Tryz.func256 rfl Tryz.ntmps256 rfl fun av bor w0=>?_
  refine cI (r:=postR s P) ar (p:=0<s.n→s.p.isSome=true) (fun w h hn=>ck h hn) fun hp=>?_
  have hp':=hp aa
  by_cases hA:m-a=1
  · repeat' (first|refine aQ (hq:=by omega) ?_|refine aE (hab:=by omega) ?_|refine gs ?_|(refine gp ?_ ?_<;>intro hx_ this)|fail)
    refine ap (ι:=BinL P m b) (fun r=>⟨[(0,s.v),(1,.int .i64 (a:Nat)),(4,cmpF),(10,.int .i64 (r.i:Nat)),(11,.int .i64 (r.j:Nat))],[postR s P],fun _=>True⟩) (fun r=>r.j-r.i) ⟨⟨m,b,by omega,by omega,by omega⟩,fun _=>rfl⟩ (aj ⟨rfl,rfl,rfl,rfl,rfl,trivial⟩ (al _) fun _ h=>h) fun r=>?_
    obtain ⟨⟨i,j,h1,h2,h3⟩,hso⟩:=r
    simp only at hso
    simp only
    repeat' (first|refine aG (hq:=by omega) ?_|refine sy_toU_g (hq:=by omega) ?_|refine db ?_|refine sy_toI_g (hq:=by omega) ?_|refine gs ?_|(refine gp ?_ ?_<;>intro hx_ this)|fail)
    · have hlt:i<j:=by omega
      obtain ⟨x,hx⟩:∃ x,P[(i+j)/2]?=some x:=⟨_,Zm aa⟩
      obtain ⟨y,hy⟩:∃ y,P[a]?=some y:=⟨_,Zm aa⟩
      have hcm:=eG x y
      have hsx:Srt P→¬ cmpX x y<0:=fun hs=>hs a ((i+j)/2) y x aa hy hx
      generalize cmpX x y=z at *
      unfold cmpF
      (refine aq ⟨[0,1,2,3,5,6,7],[(4,⟨[],[(8,⟨[],[(9,⟨[10],[]⟩)]⟩)]⟩),(8,⟨[],[(4,⟨[],[(9,⟨[10],[]⟩)]⟩)]⟩)]⟩ [] (fun _=>True) (h:=?_))
      all_goals repeat' (first|(refine ab (hc:=hcm) (hX:=fun _ _=>trivial) ?_)|refine gd ?_|refine ax (hy:=by first|(apply aB (q:=p22 (((i+j)/2)));rfl;rfl;omega;omega;assumption;(rw [dJ];omega))|(apply aB (q:=p22 (a));rfl;rfl;omega;omega;assumption;(rw [dJ];omega))) ?_|refine az ?_ (h':=?_)|exact aA|(refine ai (bU (i:=(i+j)/2) (P:=P) rfl ar aa hx) rfl rfl rfl ?_)|(refine ai (bU (i:=a) (P:=P) rfl ar aa hy) rfl rfl rfl ?_)|(refine gq ?_ ?_<;>intro hx_ this)|fail)
      all_goals
       repeat' (first|refine aG (q:=1) (hq:=by omega) ?_|refine gs ?_|(refine gp ?_ ?_<;>intro hx_ this)|fail)
       · exact ⟨(⟨⟨(i+j)/2+1,j,by omega,by omega,h3⟩,fun hs=>absurd (show z<0 by first|assumption|omega|(simp_all;done)) (hsx hs)⟩:BinL P m b),(by show j-((i+j)/2+1)<j-i;omega),aj ⟨rfl,rfl,rfl,rfl,rfl,trivial⟩ (al _) fun _ h=>h⟩
       · exact ⟨(⟨⟨i,(i+j)/2,h1,by omega,by omega⟩,hso⟩:BinL P m b),(by show (i+j)/2-i<j-i;omega),aj ⟨rfl,rfl,rfl,rfl,rfl,trivial⟩ (al _) fun _ h=>h⟩
    · refine ap (ι:=UpI P a) (fun r=>⟨[(0,s.v),(10,.int .i64 (i:Nat)),(13,.int .i64 (r.k:Nat))],[postR s r.Q],fun _=>True⟩) (fun r=>i-r.k) ⟨a,Qq _,P,hP⟩ (aj ⟨rfl,rfl,rfl,trivial⟩ (al _) fun _ h=>h) fun r=>?_
      obtain ⟨k,h4,Q,hQ⟩:=r
      simp only
      have hl:=hQ.1.length_eq
      repeat' (first|refine aQ (q:=1) (hq:=by omega) ?_|refine gs ?_|(refine gp ?_ ?_<;>intro hx_ this)|fail)
      · have hlt:k+1<i:=by omega
        obtain ⟨x,hx⟩:∃ x,Q[k]?=some x:=⟨_,Zm aa⟩
        obtain ⟨y,hy⟩:∃ y,Q[k+1]?=some y:=⟨_,Zm aa⟩
        (refine aq ⟨[0,1,2,3,4,5,6,7,8,10,11,12],[(9,⟨[],[(13,⟨[14],[(15,⟨[16],[(17,⟨[],[]⟩)]⟩)]⟩)]⟩),(13,⟨[],[(9,⟨[14],[(15,⟨[16],[(17,⟨[],[]⟩)]⟩)]⟩)]⟩)]⟩ [] (fun _=>True) (h:=?_))
        all_goals repeat' (first|refine gd ?_|refine ax (hy:=by first|(apply aB (q:=p22 (k));rfl;rfl;omega;omega;assumption;(rw [dJ];omega))|(apply aB (q:=p22 (k+1));rfl;rfl;omega;omega;assumption;(rw [dJ];omega))) ?_|refine az ?_ (h':=?_)|exact aA|(refine ai (bU (i:=k) (P:=Q) rfl ar aa hx) rfl rfl rfl ?_)|(refine ai (bU (i:=k+1) (P:=Q) rfl ar aa hy) rfl rfl rfl ?_)|((refine cQ (i:=k) (p:=y) rfl rfl aa (by first|omega|(simp only [List.length_set];omega)) (At.here _) rfl am rfl ?_))|((refine cQ (i:=k+1) (p:=x) rfl rfl aa (by first|omega|(simp only [List.length_set];omega)) (At.here _) rfl am rfl ?_))|(refine gq ?_ ?_<;>intro hx_ this)|fail)
        all_goals
         repeat' (first|refine aG (q:=1) (hq:=by omega) ?_|refine gs ?_|(refine gp ?_ ?_<;>intro hx_ this)|fail)
         exact ⟨(⟨k+1,by omega,(Q.set k y).set (k+1) x,hQ.swap hx hy (fun hs=>by have:=hso hs;omega)⟩:UpI P a),(by show i-(k+1)<i-k;omega),aj ⟨rfl,rfl,rfl,trivial⟩ (al _) fun _ h=>h⟩
      · exact ad (aW rfl) ⟨rfl,Q,hQ,rfl⟩
  · by_cases hB:b-m=1
    · repeat' (first|refine aQ (hq:=by omega) ?_|refine aE (hab:=by omega) ?_|refine aD (hab:=by omega) ?_|refine gs ?_|(refine gp ?_ ?_<;>intro hx_ this)|fail)
      refine ap (ι:=BinR P a m) (fun r=>⟨[(0,s.v),(2,.int .i64 (m:Nat)),(4,cmpF),(14,.int .i64 (r.i:Nat)),(15,.int .i64 (r.j:Nat))],[postR s P],fun _=>True⟩) (fun r=>r.j-r.i) ⟨⟨a,m,by omega,by omega,by omega⟩,fun _=>rfl⟩ (aj ⟨rfl,rfl,rfl,rfl,rfl,trivial⟩ (al _) fun _ h=>h) fun r=>?_
      obtain ⟨⟨i,j,h1,h2,h3⟩,hso⟩:=r
      simp only at hso
      simp only
      repeat' (first|refine aG (hq:=by omega) ?_|refine sy_toU_g (hq:=by omega) ?_|refine db ?_|refine sy_toI_g (hq:=by omega) ?_|refine gs ?_|(refine gp ?_ ?_<;>intro hx_ this)|fail)
      · have hlt:i<j:=by omega
        obtain ⟨x,hx⟩:∃ x,P[m]?=some x:=⟨_,Zm aa⟩
        obtain ⟨y,hy⟩:∃ y,P[(i+j)/2]?=some y:=⟨_,Zm aa⟩
        have hcm:=eG x y
        have hsx:Srt P→¬ cmpX x y<0:=fun hs=>hs ((i+j)/2) m y x aa hy hx
        generalize cmpX x y=z at *
        unfold cmpF
        (refine aq ⟨[0,1,2,3,5,6,7],[(4,⟨[],[(8,⟨[],[(9,⟨[10,11],[]⟩)]⟩)]⟩),(8,⟨[],[(4,⟨[],[(9,⟨[10,11],[]⟩)]⟩)]⟩)]⟩ [] (fun _=>True) (h:=?_))
        all_goals repeat' (first|(refine ab (hc:=hcm) (hX:=fun _ _=>trivial) ?_)|refine gd ?_|refine ax (hy:=by first|(apply aB (q:=p22 (m));rfl;rfl;omega;omega;assumption;(rw [dJ];omega))|(apply aB (q:=p22 (((i+j)/2)));rfl;rfl;omega;omega;assumption;(rw [dJ];omega))) ?_|refine az ?_ (h':=?_)|exact aA|(refine ai (bU (i:=m) (P:=P) rfl ar aa hx) rfl rfl rfl ?_)|(refine ai (bU (i:=(i+j)/2) (P:=P) rfl ar aa hy) rfl rfl rfl ?_)|(refine gq ?_ ?_<;>intro hx_ this)|fail)
        all_goals
         repeat' (first|refine aG (q:=1) (hq:=by omega) ?_|refine gs ?_|(refine gp ?_ ?_<;>intro hx_ this)|fail)
         · exact ⟨(⟨⟨(i+j)/2+1,j,by omega,by omega,h3⟩,hso⟩:BinR P a m),(by show j-((i+j)/2+1)<j-i;omega),aj ⟨rfl,rfl,rfl,rfl,rfl,trivial⟩ (al _) fun _ h=>h⟩
         · exact ⟨(⟨⟨i,(i+j)/2,h1,by omega,by omega⟩,fun hs=>absurd (show z<0 by first|assumption|omega|(simp_all;done)) (hsx hs)⟩:BinR P a m),(by show (i+j)/2-i<j-i;omega),aj ⟨rfl,rfl,rfl,rfl,rfl,trivial⟩ (al _) fun _ h=>h⟩
      · refine ap (ι:=DownI P i m) (fun r=>⟨[(0,s.v),(14,.int .i64 (i:Nat)),(17,.int .i64 (r.k:Nat))],[postR s r.Q],fun _=>True⟩) (fun r=>r.k) ⟨m,by omega,Qq _,P,hP⟩ (aj ⟨rfl,rfl,rfl,trivial⟩ (al _) fun _ h=>h) fun r=>?_
        obtain ⟨k,h4,h5,Q,hQ⟩:=r
        simp only
        have hl:=hQ.1.length_eq
        repeat' (first|refine gs ?_|(refine gp ?_ ?_<;>intro hx_ this)|fail)
        · have hlt:i<k:=by omega
          obtain ⟨x,hx⟩:∃ x,Q[k]?=some x:=⟨_,Zm aa⟩
          obtain ⟨y,hy⟩:∃ y,Q[k-1]?=some y:=⟨_,Zm aa⟩
          (refine aq ⟨[0,1,2,3,4,5,6,7,8,10,11,12],[(9,⟨[],[(13,⟨[14],[(15,⟨[16],[(17,⟨[],[]⟩)]⟩)]⟩)]⟩),(13,⟨[],[(9,⟨[14],[(15,⟨[16],[(17,⟨[],[]⟩)]⟩)]⟩)]⟩)]⟩ [] (fun _=>True) (h:=?_))
          all_goals repeat' (first|refine gd ?_|refine ax (hy:=by first|(apply aB (q:=p22 (k));rfl;rfl;omega;omega;assumption;(rw [dJ];omega))|(apply aB (q:=p22 (k-1));rfl;rfl;omega;omega;assumption;(rw [dJ];omega))) ?_|refine az ?_ (h':=?_)|exact aA|(refine ai (bU (i:=k) (P:=Q) rfl ar aa hx) rfl rfl rfl ?_)|(refine ai (bU (i:=k-1) (P:=Q) rfl ar aa hy) rfl rfl rfl ?_)|((refine cQ (i:=k) (p:=y) rfl rfl aa (by first|omega|(simp only [List.length_set];omega)) (At.here _) rfl am rfl ?_))|((refine cQ (i:=k-1) (p:=x) rfl rfl aa (by first|omega|(simp only [List.length_set];omega)) (At.here _) rfl am rfl ?_))|(refine gq ?_ ?_<;>intro hx_ this)|fail)
          all_goals
           repeat' (first|refine aQ (q:=1) (hq:=by omega) ?_|refine gs ?_|(refine gp ?_ ?_<;>intro hx_ this)|fail)
           exact ⟨(⟨k-1,by omega,by omega,(Q.set k y).set (k-1) x,hQ.swap hx hy (fun hs=>by have:=hso hs;omega)⟩:DownI P i m),(by show k-1<k;omega),aj ⟨rfl,rfl,rfl,trivial⟩ (al _) fun _ h=>h⟩
        · exact ad (aW rfl) ⟨rfl,Q,hQ,rfl⟩
    · obtain ⟨mid,hmid⟩:∃ mid,mid=(a+b)/2:=⟨_,rfl⟩
      have hm1:a<mid:=by omega
      have hm2:mid<b:=by omega
      have hm3:2*mid≤a+b:=by omega
      have hm4:a+b≤2*mid+1:=by omega
      by_cases hmm:mid<m
      all_goals
       repeat' (first|refine aD (hab:=by omega) ?_|refine kY (hab:=by omega) ?_|refine ic (hab:=by omega) ?_|refine aQ (q:=1) (hq:=by omega) ?_|refine aQ (hq:=by omega) ?_|refine aG (hq:=by omega) ?_|refine sy_toU_g (hq:=by omega) ?_|refine db ?_|refine sy_toI_g (hq:=by omega) ?_|refine gs ?_|(refine gp ?_ ?_<;>intro hx_ this)|fail)
       rw [←hmid]
       first
        | refine ap (ι:=MerO P a m b mid) (fun r=>⟨[(0,s.v),(1,.int .i64 (a:Nat)),(2,.int .i64 (m:Nat)),(3,.int .i64 (b:Nat)),(4,cmpF),(18,.int .i64 (mid:Nat)),(19,.int .i64 ((mid+m:Nat):Int)),(20,.int .i64 (r.i:Nat)),(21,.int .i64 (r.j:Nat)),(22,.int .i64 ((mid+m-1:Nat):Int))],[postR s P],fun _=>True⟩) (fun r=>r.j-r.i) ⟨⟨mid+m-b,mid,by omega,by omega,by omega⟩,fun _=>by rw [Qf (by assumption)]⟩ (aj ⟨rfl,rfl,rfl,rfl,rfl,rfl,rfl,rfl,rfl,rfl,trivial⟩ (al _) fun _ h=>h) fun r=>?_
        | refine ap (ι:=MerO P a m b mid) (fun r=>⟨[(0,s.v),(1,.int .i64 (a:Nat)),(2,.int .i64 (m:Nat)),(3,.int .i64 (b:Nat)),(4,cmpF),(18,.int .i64 (mid:Nat)),(19,.int .i64 ((mid+m:Nat):Int)),(20,.int .i64 (r.i:Nat)),(21,.int .i64 (r.j:Nat)),(22,.int .i64 ((mid+m-1:Nat):Int))],[postR s P],fun _=>True⟩) (fun r=>r.j-r.i) ⟨⟨a,m,by omega,by omega,by omega⟩,fun _=>by rw [Qg (by assumption)]⟩ (aj ⟨rfl,rfl,rfl,rfl,rfl,rfl,rfl,rfl,rfl,rfl,trivial⟩ (al _) fun _ h=>h) fun r=>?_
       obtain ⟨⟨i,j,h1,h2,h3⟩,hso⟩:=r
       simp only at hso
       simp only
       have hk1:a≤i:=by omega
       have hk2:j≤m:=by omega
       have hk3:i≤mid+m:=by omega
       by_cases hij:i<j
       · have hk4:(i+j)/2<j:=by omega
         have hk5:i≤(i+j)/2:=by omega
         have hk6:(i+j)/2≤mid+m-1:=by omega
         have hk7:mid+m-1-(i+j)/2<b:=by omega
         repeat' (first|refine sy_lssT_g (hab:=by omega) ?_|refine aG (hq:=by omega) ?_|refine sy_toU_g (hq:=by omega) ?_|refine db ?_|refine sy_toI_g (hq:=by omega) ?_|refine gs ?_|(refine gp ?_ ?_<;>intro hx_ this)|fail)
         obtain ⟨x,hx⟩:∃ x,P[mid+m-1-(i+j)/2]?=some x:=⟨_,Zm aa⟩
         obtain ⟨y,hy⟩:∃ y,P[(i+j)/2]?=some y:=⟨_,Zm aa⟩
         have hcm:=eG x y
         have hsx:Srt P→¬ cmpX x y<0:=fun hs=>hs ((i+j)/2) (mid+m-1-(i+j)/2) y x aa hy hx
         generalize cmpX x y=z at *
         unfold cmpF
         (refine aq ⟨[0,1,2,3,4,5,7,8,9],[(6,⟨[],[(10,⟨[],[(11,⟨[12,13],[]⟩)]⟩)]⟩),(10,⟨[],[(6,⟨[],[(11,⟨[12,13],[]⟩)]⟩)]⟩)]⟩ [] (fun _=>True) (h:=?_))
         all_goals repeat' (first|(refine ab (hc:=hcm) (hX:=fun _ _=>trivial) ?_)|refine gd ?_|refine ax (hy:=by first|(apply aB (q:=p22 ((mid+m-1-(i+j)/2)));rfl;rfl;omega;omega;assumption;(rw [dJ];omega))|(apply aB (q:=p22 (((i+j)/2)));rfl;rfl;omega;omega;assumption;(rw [dJ];omega))) ?_|refine az ?_ (h':=?_)|exact aA|(refine ai (bU (i:=mid+m-1-(i+j)/2) (P:=P) rfl ar aa hx) rfl rfl rfl ?_)|(refine ai (bU (i:=(i+j)/2) (P:=P) rfl ar aa hy) rfl rfl rfl ?_)|(refine gq ?_ ?_<;>intro hx_ this)|fail)
         all_goals
          repeat' (first|refine aG (q:=1) (hq:=by omega) ?_|refine gs ?_|(refine gp ?_ ?_<;>intro hx_ this)|fail)
          · exact ⟨(⟨⟨(i+j)/2+1,j,by omega,by omega,by omega⟩,hso⟩:MerO P a m b mid),(by show j-((i+j)/2+1)<j-i;omega),aj ⟨rfl,rfl,rfl,rfl,rfl,rfl,rfl,rfl,rfl,rfl,trivial⟩ (al _) fun _ h=>h⟩
          · exact ⟨(⟨⟨i,(i+j)/2,by omega,by omega,by omega⟩,fun hs=>absurd (show z<0 by first|assumption|omega|(simp_all;done)) (hsx hs)⟩:MerO P a m b mid),(by show (i+j)/2-i<j-i;omega),aj ⟨rfl,rfl,rfl,rfl,rfl,rfl,rfl,rfl,rfl,rfl,trivial⟩ (al _) fun _ h=>h⟩
       · have hk8:mid+m-i≤b:=by omega
         have hnl:¬ (i:Int)<(j:Int):=by omega
         repeat' (first|refine sy_lssF_g (hab:=by first|exact hnl|omega) ?_|refine sy_lssT_g (hab:=by omega) ?_|refine aQ (hq:=by omega) ?_|refine gs ?_|(refine iM (P:=P) (hQ:=by assumption) (hno:=fun hs=>by have:=hso hs;split at this<;>omega) (hc:=fun Q hQ=>fT s Q i m (mid+m-i) cmpF (hs.trans hQ.1.length_eq.symm) hm aa aa aa) (h:=fun Q2 hQ2=>?_))|(refine cF (P:=P) (hQ:=by assumption) (hc:=fun Q hQ=>ih s Q a i mid aa (hs.trans hQ.1.length_eq.symm) hm aa aa aa) (h:=fun Q2 hQ2=>?_))|(refine cF (P:=P) (hQ:=by assumption) (hc:=fun Q hQ=>ih s Q mid (mid+m-i) b aa (hs.trans hQ.1.length_eq.symm) hm aa aa aa) (h:=fun Q2 hQ2=>?_))|(refine gp ?_ ?_<;>intro hx_ this)|fail)
         all_goals
          refine bA (aW rfl) ⟨rfl,_,?_,rfl⟩
          assumption
end SrA
namespace SrA
structure StaI (P:List FndX) (n w:Nat) where
 a:Nat
 b:Nat
 h1:a≤n
 h2:b=a+w
 Q:List FndX
 hQ:Rel P Q
structure StaO (P:List FndX) (n:Nat) where
 z:Nat
 h1:1≤z
 h2:z≤2*n+20
 Q:List FndX
 hQ:Rel P Q
set_option maxRecDepth 20000 in
set_option maxHeartbeats 8000000 in
theorem fO (s:SlV) (P:List FndX) (hs:s.n=P.length) (hm:s.n≤1000000):Ct Tryz.prog 227 #[s.v,.int .i64 (s.n:Nat),cmpF] [postR s P] (fun _=>True) (RelAt s P):=by
 have hP:Rel P P:=Rel.refl P
 refine bM (args:=[_,_,_]) _ Tryz.func227 rfl Tryz.ntmps227 rfl fun av bor w0=>?_
 repeat' (first|refine gs ?_|fail)
 refine ap (ι:=StaI P s.n 20) (fun r=>⟨[(0,s.v),(1,.int .i64 (s.n:Nat)),(2,cmpF),(6,.int .i64 20),(7,.int .i64 (r.a:Nat)),(8,.int .i64 (r.b:Nat))],[postR s r.Q],fun _=>True⟩) (fun r=>s.n-r.a) ⟨0,20,Nat.zero_le _,rfl,P,hP⟩ (aj ⟨rfl,rfl,rfl,rfl,rfl,rfl,trivial⟩ (al _) fun _ h=>h) fun r=>?_
 obtain ⟨a,b,h1,h2,Q,hQ⟩:=r
 simp only
 repeat' (first|refine aG (q:=20) (hq:=by omega) ?_|refine gs ?_|(refine cF (P:=P) (hQ:=by assumption) (hc:=fun Q hQ=>dj s Q a b (hs.trans hQ.1.length_eq.symm) hm aa aa) (h:=fun Q2 hQ2=>?_))|(refine cF (P:=P) (hQ:=by assumption) (hc:=fun Q hQ=>dj s Q a s.n (hs.trans hQ.1.length_eq.symm) hm aa aa) (h:=fun Q2 hQ2=>?_))|(refine gp ?_ ?_<;>intro hx_ this)|fail)
 · exact ⟨(⟨b,b+20,by omega,rfl,Q2,hQ2⟩:StaI P s.n 20),(by show s.n-b<s.n-a;omega),aj ⟨rfl,rfl,rfl,rfl,rfl,rfl,trivial⟩ (al _) fun _ h=>h⟩
 · refine ap (ι:=StaO P s.n) (fun r=>⟨[(0,s.v),(1,.int .i64 (s.n:Nat)),(2,cmpF),(6,.int .i64 (r.z:Nat))],[postR s r.Q],fun _=>True⟩) (fun r=>s.n-r.z) ⟨20,by omega,by omega,Q2,hQ2⟩ (aj ⟨rfl,rfl,rfl,rfl,trivial⟩ (al _) fun _ h=>h) fun r=>?_
   clear h1 h2 hQ hQ2
   obtain ⟨z,h1,h2,Q,hQ⟩:=r
   simp only
   repeat' (first|refine dS (p:=2) (hq:=by omega) ?_|refine gs ?_|(refine gp ?_ ?_<;>intro hx_ this)|fail)
   · have hzn:z<s.n:=by omega
     refine ap (ι:=StaI P s.n (2*z)) (fun r=>⟨[(0,s.v),(1,.int .i64 (s.n:Nat)),(2,cmpF),(6,.int .i64 (z:Nat)),(7,.int .i64 (r.a:Nat)),(8,.int .i64 (r.b:Nat))],[postR s r.Q],fun _=>True⟩) (fun r=>s.n-r.a) ⟨0,2*z,Nat.zero_le _,(Ql _).symm,Q,hQ⟩ (aj ⟨rfl,rfl,rfl,rfl,rfl,rfl,trivial⟩ (al _) fun _ h=>h) fun r=>?_
     obtain ⟨a,b,h3,h4,Q3,hQ3⟩:=r
     simp only
     repeat' (first|refine aG (hq:=by omega) ?_|refine dS (p:=2) (hq:=by omega) ?_|refine dS (q:=2) (hq:=by omega) ?_|refine gs ?_|(refine cF (P:=P) (hQ:=by assumption) (hc:=fun Q hQ=>cO (b-a) s Q a (a+z) b (Qq _) (hs.trans hQ.1.length_eq.symm) hm aa aa aa) (h:=fun Q2 hQ2=>?_))|(refine cF (P:=P) (hQ:=by assumption) (hc:=fun Q hQ=>cO (s.n-a) s Q a (a+z) s.n (Qq _) (hs.trans hQ.1.length_eq.symm) hm aa aa aa) (h:=fun Q2 hQ2=>?_))|(refine gp ?_ ?_<;>intro hx_ this)|fail)
     · exact ⟨(⟨b,b+2*z,by omega,rfl,Q2,hQ2⟩:StaI P s.n (2*z)),(by show s.n-b<s.n-a;omega),aj ⟨rfl,rfl,rfl,rfl,rfl,rfl,trivial⟩ (al _) fun _ h=>h⟩
     all_goals
      refine ⟨(⟨z*2,by omega,by omega,_,?_⟩:StaO P s.n),(by show s.n-z*2<s.n-z;omega),aj ⟨rfl,rfl,rfl,rfl,trivial⟩ (al _) fun _ h=>h⟩
      assumption
   · exact bA (aW rfl) ⟨rfl,Q,hQ,rfl⟩
theorem sortStable_ct (s:SlV) (P:List FndX) (hs:s.n=P.length) (hm:s.n≤1000000):Ct Tryz.prog 164 #[s.v,cmpF] [postR s P] (fun _=>True) (RelAt s P):=by
 have hP:Rel P P:=Rel.refl P
 refine bM (args:=[_,_]) _ Tryz.func164 rfl Tryz.ntmps164 rfl fun av bor w0=>?_
 repeat' (first|refine gs ?_|(refine cF (P:=P) (hQ:=by assumption) (hc:=fun Q hQ=>fO s Q (hs.trans hQ.1.length_eq.symm) hm) (h:=fun Q2 hQ2=>?_))|(refine gp ?_ ?_<;>intro hx_ this)|fail)
 exact bA (aW rfl) ⟨rfl,Q2,hQ2,rfl⟩
end SrA
end Go.Proofs.YtoefdofbekihdaaGreatDoor
set_option maxHeartbeats 16000000
namespace Go.Proofs.YtoefdofbekihdaaGreatDoor
open Go Go.Proofs Sy
theorem Ag {α β:Type} {f:α→β} {P:List α} {Q:List β} (h:Q.Perm (P.map f)):∃ Q':List α,Q'.Perm P∧Q'.map f=Q:=by
 generalize e:P.map f=R at h
 induction h generalizing P with
 | nil =>
  cases P with
  | nil=>exact ⟨[],List.Perm.refl _,rfl⟩
  | cons a P=>cases e
 | cons x h ih =>
  cases P with
  | nil=>cases e
  | cons a P =>
   rw [Qv,List.cons.injEq] at e
   obtain ⟨Q',h1,h2⟩:=ih e.2
   exact ⟨a::Q',h1.cons a,by rw [Qv,h2,e.1]⟩
 | swap x y l =>
  cases P with
  | nil=>cases e
  | cons a P =>
   cases P with
   | nil=>cases e
   | cons b P =>
    rw [Qv,Qv,List.cons.injEq,List.cons.injEq] at e
    exact ⟨b::a::P,List.Perm.swap _ _ _,by rw [Qv,Qv,e.1,e.2.1,e.2.2]⟩
 | trans h1 h2 ih1 ih2 =>
  obtain ⟨Q2,p2,e2⟩:=ih2 e
  obtain ⟨Q1,p1,e1⟩:=ih1 e2
  exact ⟨Q1,p1.trans p2,e1⟩
def fndX (f:FndA):SrA.FndX:=⟨f.rank,f.dg,f.a.cells,rfl,rfl⟩
theorem mU (P:List FndA):(P.map fndX).map SrA.FndX.cells=P.map FndA.cells:=by rw [Qu];rfl
theorem wH (n:Nat) (hn:n≤1000000):SortA n:=fun s P hs hl=>by
 have h:=SrA.sortStable_ct s (P.map fndX) (by rw [Z3];exact hs) aa
 have e:SrA.postR s (P.map fndX)=fndR s P:=by
  show orow _ 22 _ _ ((P.map fndX).map SrA.FndX.cells).flatten=orow _ 22 _ _ (P.map FndA.cells).flatten
  rw [mU]
 rw [e] at h
 refine h.mono fun u R X' ⟨h1,Q,h2,h3⟩=>?_
 obtain ⟨Q',p,rfl⟩:=Ag h2.1
 refine ⟨h1,Q',p,?_⟩
 rw [h3]
 show [orow _ 22 _ _ ((Q'.map fndX).map SrA.FndX.cells).flatten]=[orow _ 22 _ _ (Q'.map FndA.cells).flatten]
 rw [mU]
def cutK (kl:List KeyD) (q:Nat):List KeyD:=kl.filter fun k=>decide (k.from_≤(q:Int))
def movN (l:List ActD):Nat:=(l.filter fun a=>decide (a.kind=18)).length
structure CutJ (kl:List KeyD) (q:Nat) where
 k:Nat
 hk:k≤kl.length
 n:Nat
 hn:n=(cutK (kl.take k) q).length
 A:Option Addr
 c:Nat
 xs:List Value
 hxs:xs=((cutK (kl.take k) q).map KeyD.cells).flatten
structure GenJ (l:List ActD) (q n:Nat) where
 k:Nat
 hk:k≤q
 g:Int
 hg:g=(n:Int)-1-(movN (l.take k):Nat)
def keyF (kl:List KeyD) (i:Int):Nat→Option KeyD
 | 0=>none
 | j+1=>bif decide ((kl.getD j KeyD.zero).from_≤i) then some (kl.getD j KeyD.zero) else keyF kl i j
structure KeyI (kl:List KeyD) (i:Int) where
 k:Nat
 hk:k≤kl.length
 hs:keyF kl i kl.length=keyF kl i k
theorem j2 {c c':ChainD} {a:ActD} {pl:Option Nat} (h1:c.id=c'.id) (h2:c.acts.n=c'.acts.n) (h3:c.prev=c'.prev) (h4:c.actsL=c'.actsL):fitsV c a pl=fitsV c' a pl:=by
 have e:∀ p,atK c pl p=atK c' pl p:=fun p=>by
  cases pl with
  | none=>rfl
  | some j=>show p (c.actsL.getD j ActD.zero).kind=p (c'.actsL.getD j ActD.zero).kind;rw [h4]
 rw [fitsV,fitsV,h1,h2,h3,e,e]
theorem fU {W:OfW} {st s:ChS} (h:regS W st=some s):∃ c i,W.won st.gen=some c∧c.base=(st.acts.length:Int)∧c.prev=st.prev∧setI st.acts st.acts.length=some i∧W.clm (st.acts.getD i ActD.zero).m c=true∧s=⟨st.acts,st.keys++[⟨(st.acts.length:Nat),c.pub,c.home⟩],W.dgC c,st.gen+1⟩:=by
 rw [regS] at h
 cases hw:W.won st.gen with
 | none=>rw [hw] at h;cases h
 | some c =>
  rw [hw] at h
  simp only at h
  cases hb:decide (c.base=(st.acts.length:Int))&&seqB c.prev st.prev with
  | false=>rw [hb] at h;cases h
  | true =>
   rw [hb] at h
   rw [ZM,ZT,seqB_iff] at hb
   cases hs:setI st.acts st.acts.length with
   | none=>rw [hs] at h;cases h
   | some i =>
    rw [hs] at h
    simp only [ZC] at h
    cases hc:W.clm (st.acts.getD i ActD.zero).m c with
    | false=>rw [hc] at h;cases h
    | true =>
     rw [hc,ZC,Qc] at h
     exact ⟨c,i,rfl,hb.1,hb.2,rfl,hc,h.symm⟩
theorem eT {W:OfW} {st s:ChS} (h:stepS W st=some s):regS W st=some s∨regS W st=none∧∃ a,candL W st=[a]∧s=addS st a:=by
 rw [stepS] at h
 cases hr:regS W st with
 | some s'=>rw [hr] at h;exact .inl h
 | none =>
  rw [hr] at h
  cases ho:oneA (candL W st) with
  | none=>rw [ho] at h;cases h
  | some a =>
   rw [ho,Option.map_some,Qc] at h
   exact .inr ⟨rfl,a,fY ho,h.symm⟩
theorem pg {W:OfW} {P:ChS→Prop} (hst:∀ st s,P st→stepS W st=some s→P s):∀ (n:Nat) (st:ChS),P st→P (runS W n st)
 | 0,st,h=>h
 | n+1,st,h=>by
  cases hs:stepS W st with
  | none=>rw [fw hs];exact h
  | some s=>rw [eE hs];exact pg hst n s (hst st s h hs)
theorem nM {α:Type} (l:List α) (a:α) (i:Nat) (h:i≤l.length):(l++[a]).take i=l.take i:=by
 rw [List.take_append,show i-l.length=0 from by omega,List.take_zero,Z9]
theorem rP {α:Type} {l:List α} {a x:α} {i:Nat} (h:(l++[a])[i]?=some x):l[i]?=some x∧i<l.length∨i=l.length∧x=a:=by
 rcases Nat.lt_trichotomy i l.length with hi|rfl|hi
 · rw [Z4 hi] at h
   exact .inl ⟨h,hi⟩
 · rw [Qm (Qq _),Nat.sub_self] at h
   exact .inr ⟨rfl,(Option.some.inj h).symm⟩
 · rw [Qm aa,List.getElem?_singleton,Qg (by omega)] at h
   cases h
structure ChFit (W:OfW) (st:ChS):Prop where
 mem:∀ a∈st.acts,a∈W.L
 seq:∀ (i:Nat) (x:ActD),st.acts[i]?=some x→x.seq=(i:Int)
 fit:∀ (i:Nat) (x:ActD),st.acts[i]?=some x→1≤i→fitsV ((⟨st.acts.take i,[],x.prev,0⟩:ChS).ch W.id) x (idxV (st.acts.take i) x.object)=true
 key0:∃ k r,st.keys=k::r∧k.from_=0
theorem Ba {W:OfW} {st s:ChS} (h:ChFit W st) (hs:stepS W st=some s):ChFit W s:=by
 obtain ⟨k,r,hk,hk0⟩:=h.key0
 rcases eT hs with h1|⟨h1,a,h2,rfl⟩
 · obtain ⟨c,i,e1,e2,e3,e4,e5,rfl⟩:=fU h1
   exact ⟨h.mem,h.seq,h.fit,k,r++[_],by rw [hk];rfl,hk0⟩
 · have ha:a∈candL W st:=by rw [h2];exact List.mem_singleton.2 rfl
   obtain ⟨m1,m2,m3⟩:=jA ha
   have hp:a.prev=st.prev:=by
    rw [candL,List.mem_filter,List.mem_filter,posB,ZM,seqB_iff] at ha
    exact ha.1.2.2
   refine ⟨fun x hx=>?_,fun i x hx=>?_,fun i x hx h0=>?_,?_⟩
   · rcases List.mem_append.1 (show x∈st.acts++[a] from hx) with hx|hx
     · exact h.mem x hx
     · rw [List.mem_singleton.1 hx];exact m1
   · rcases rP (show (st.acts++[a])[i]?=some x from hx) with ⟨h3,_⟩|⟨rfl,rfl⟩
     · exact h.seq i x h3
     · exact m2
   · rcases rP (show (st.acts++[a])[i]?=some x from hx) with ⟨h3,h4⟩|⟨rfl,rfl⟩
     · have:=h.fit i x h3 h0
       rw [show (addS st a).acts.take i=st.acts.take i from nM _ _ _ (by omega)]
       exact this
     · rw [show (addS st x).acts.take st.acts.length=st.acts from by rw [show (addS st x).acts=st.acts++[x] from rfl,nM _ _ _ (Qq _),List.take_length]]
       rw [candB,ZM] at m3
       rw [←m3.1]
       exact j2 rfl rfl hp rfl
   · show ∃ k r,(bif decide (a.kind=18) then st.keys++[_] else st.keys)=k::r∧k.from_=0
     cases decide (a.kind=18) with
     | true=>exact ⟨k,r++[_],by rw [hk];rfl,hk0⟩
     | false=>exact ⟨k,r,hk,hk0⟩
theorem BA {W:OfW} {a:ActD} (ha:a∈firstL W):begS a=⟨[a],[⟨0,a.n,a.m⟩],digV a,0⟩∧a∈W.L∧a.seq=0∧a.prev=⟨#[]⟩∧a.kind=0∧idV a.n=W.id∧W.ver a.n a=true:=by
 rw [firstL,List.mem_filter,List.mem_filter] at ha
 have h2:=ha.1.2
 simp only [posB,ZM,ZT,seqB_iff] at h2
 have h3:=ha.2
 simp only [firstB,ZM,ZT,seqB_iff] at h3
 exact ⟨by rw [begS,addS,h3.1.1];rfl,ha.1.1,h2.1,h2.2,h3.1.1,h3.1.2,h3.2⟩
theorem DU {W:OfW} {a:ActD} (ha:a∈firstL W):ChFit W (begS a):=by
 obtain ⟨e,h1,h2,h3,h4,h5,h6⟩:=BA ha
 rw [e]
 refine ⟨fun x hx=>by rw [List.mem_singleton.1 hx];exact h1,fun i x hx=>?_,fun i x hx h0=>?_,_,[],rfl,rfl⟩
 · rw [List.getElem?_singleton] at hx
   split at hx
   · rename_i hi
     subst hi
     rw [←Option.some.inj hx,h2];rfl
   · cases hx
 · rw [List.getElem?_singleton,Qg (by omega)] at hx
   cases hx
theorem vw {W:OfW} {a:ActD} (ha:a∈firstL W):ChFit W (finS W a):=pg (P:=ChFit W) (fun st s h hs=>Ba h hs) _ _ (DU ha)
section
variable {P:Program} {N:Nat} {av bor:List Nat} {w0:World} {ty:TypeId}
end
section
variable {N:Nat} {av bor:List Nat} {w0:World} {st:St} {ty:TypeId} {x:Operand}
end
def seedB (i:Nat):ByteArray:=⟨#[97,99,116,111,114,32]⟩++ofInts [(i:Int)]
def keyA (i:Nat):KyD:=keyOf (seedB i)
def idA21 (i:Nat):ByteArray:=idV (keyA i).p
def ChainD.more (c:ChainD) (s:SlV) (a:ActD):ChainD:={ c with acts:=s,actsL:=c.actsL++[a],prev:=digV a }
theorem zX:ActD.zero.Rng:=⟨by decide,fun w hw=>(List.not_mem_nil hw).elim,rfl,rfl⟩
theorem CB:ActD.zero.Sm:=⟨by decide,by decide,by decide⟩
theorem qL {k:KyD} {a:ActD} (h:a.Rng):(actSignV k a).Rng:=by
 rw [actSignV]
 cases rightB (a.sig SgD.zero)&&rightK k with
 | false=>exact zX
 | true=>exact uV h (nR _ _).1 (nR _ _).2
theorem uR {k:KyD} {a:ActD} (h:a.Sm):(actSignV k a).Sm:=by
 rw [actSignV]
 cases rightB (a.sig SgD.zero)&&rightK k with
 | false=>exact CB
 | true=>exact ⟨h.to,h.wraps,h.target⟩
def ActD.can (a:ActD):ActD:=a.re ⟨none,a.to.n,0⟩ ⟨none,a.wraps.n,0⟩
theorem Fw (a:ActD) {s1 s2:SlV} (h1:s1.n=a.to.n) (h2:s2.n=a.wraps.n):(a.re s1 s2).can=a.can:=by
 show a.re ⟨none,s1.n,0⟩ ⟨none,s2.n,0⟩=a.re ⟨none,a.to.n,0⟩ ⟨none,a.wraps.n,0⟩
 rw [h1,h2]
def ChainD.can (c:ChainD):ChainD:={ c with acts:=⟨none,c.acts.n,0⟩,keys:=⟨none,c.keys.n,0⟩,actsL:=c.actsL.map ActD.can }
def actorB:ByteArray:=⟨#[97,99,116,111,114]⟩
def idC (i:Nat):ChainD:={ ChainD.zero with id:=idA21 i }
def draftB (i:Nat):ActD:={ draftV (idC i) 0 0 with text:=actorB,n:=(keyA i).p }
def actB (i:Nat):ActD:=actSignV (keyA i) (draftB i)
def beginC (i:Nat):ChainD:={ idC i with acts:=⟨none,1,0⟩,keys:=⟨none,1,0⟩,prev:=digV (actB i),actsL:=[(actB i).can] }
section
variable {N:Nat} {av bor:List Nat} {w0:World} {E:Env} {loc:List Res} {X:World→Prop}
end
structure BegI where
 k:Nat
 hk:k≤4
 L:List ChainD
 hL:L.map ChainD.can=(List.range k).map beginC
 xs:List Value
 hxs:xs=(L.map ChainD.cells).flatten
 hb:∀ c∈L,ActsOk c.actsL∧c.actsL.length≤1
 A:Option Addr
 c:Nat
structure SameC (a b:ChainD):Prop where
 id:a.id=b.id
 prev:a.prev=b.prev
 gen:a.gen=b.gen
 fork:a.fork=b.fork
 acts:b.actsL.map ActD.can=a.actsL.map ActD.can
theorem Bu (l:List ByteArray):(compB l).length≤l.length:=by
 rw [compB,Z3]
 exact Qr (Lib.compact_length_le _) (by rw [Z3];exact Qq _)
def authI (I:List ItemD):List ByteArray:=(I.filter fun i=>decide (i.kind=0)).map fun i=>i.act.author
theorem ui (I:List ItemD) {k:Nat} {x:ItemD} (h:I[k]?=some x):authI (I.take (k+1))=authI (I.take k)++(bif decide (x.kind=0) then [x.act.author] else []):=by
 rw [authI,authI,List.take_add_one,h,Option.toList_some,List.filter_append,Qn]
 congr 1
 cases hb:decide (x.kind=0) with
 | true=>simp [hb]
 | false=>simp [hb]
theorem ke (I:List ItemD):(authI I).length≤I.length:=by rw [authI,Z3];exact List.length_filter_le _ _
inductive All2 {α β:Type} (R:α→β→Prop):List α→List β→Prop
 | nil:All2 R [] []
 | cons {a:α} {b:β} {l:List α} {m:List β}:R a b→All2 R l m→All2 R (a::l) (b::m)
theorem All2.snoc {α β:Type} {R:α→β→Prop} {l:List α} {m:List β} (h:All2 R l m) {a:α} {b:β} (r:R a b):All2 R (l++[a]) (m++[b]):=by
 induction h with
 | nil=>exact .cons r .nil
 | cons h1 _ ih=>exact .cons h1 ih
theorem All2.len {α β:Type} {R:α→β→Prop} {l:List α} {m:List β} (h:All2 R l m):l.length=m.length:=by
 induction h with
 | nil=>rfl
 | cons _ _ ih=>rw [ZY,ZY,ih]
theorem All2.right {α β:Type} {R:α→β→Prop} {l:List α} {m:List β} (h:All2 R l m):∀ b∈m,∃ a∈l,R a b:=by
 induction h with
 | nil=>exact fun b hb=>absurd hb (by simp)
 | cons h1 _ ih =>
  intro b hb
  rcases List.mem_cons.1 hb with rfl|hb
  · exact ⟨_,ar,h1⟩
  · obtain ⟨a,ha,r⟩:=ih b hb
    exact ⟨a,ZS _ ha,r⟩
abbrev ChK:=ChainD×List KeyD
def neK (p:ChK):Bool:=decide (0<p.1.actsL.length)
def OfQ (Q:ByteArray→ChainD→List KeyD→Prop) (au:ByteArray) (u:Value) (X:World→Prop):Prop:=∃ (c:ChainD) (kl:List KeyD),Q au c kl∧u=c.v∧∀ w,X w→c.at_ w∧Keyz w c.keys kl
def AllAt (Q:ByteArray→ChainD→List KeyD→Prop) (ids:List ByteArray) (u:Value) (X:World→Prop):Prop :=
 ∃ (s:SlV) (M:List ChK),All2 (fun id p=>Q id p.1 p.2) ids M∧u=s.v∧∀ w,X w→Chains w s ((M.filter neK).map Prod.fst)∧∀ p∈M,Keyz w p.1.keys p.2
structure IdsI (I:List ItemD) where
 k:Nat
 hk:k≤I.length
 A:Option Addr
 c:Nat
 n:Nat
 hn:n=(authI (I.take k)).length
 xs:List Value
 hxs:xs=(authI (I.take k)).map encB
structure ChsI (Q:ByteArray→ChainD→List KeyD→Prop) (ids:List ByteArray) where
 k:Nat
 hk:k≤ids.length
 M:List ChK
 hM:All2 (fun id p=>Q id p.1 p.2) (ids.take k) M
 A:Option Addr
 c:Nat
 n:Nat
 hn:n=(M.filter neK).length
 xs:List Value
 hxs:xs=(((M.filter neK).map Prod.fst).map ChainD.cells).flatten
set_option maxHeartbeats 8000000 in
theorem BK (Q:ByteArray→ChainD→List KeyD→Prop) (ks ki:SlV) (L:List Int) (I:List ItemD) (hI:I.length≤1000)
  (hof:∀ au,Mk Tryz.prog 28 #[.agg #[ks.v,ki.v],.string au] (fun w=>(Ints w ks L∧Items w ki I)∧Glob w) (OfQ Q au)) :
  Mk Tryz.prog 8 #[.agg #[ks.v,ki.v]] (fun w=>(Ints w ks L∧Items w ki I)∧Glob w) (AllAt Q (compB (sortB (authI I)))):=by
 refine bE (args:=[_]) _ Tryz.func8 rfl Tryz.ntmps8 rfl fun av bor w0=>?_
 refine aJ (p:=ki.n=I.length∧ki.n≤maxLen∧(0<I.length→ki.p.isSome=true)) (fun w h=>⟨h.1.2.len_,h.1.2.max_,h.1.2.some_⟩) fun ⟨hin,him,hip⟩=>?_
 simp only [maxLen] at him
 refine cL 9 1 ?_
 refine cL 36 6 ?_
 repeat' (first|refine gs ?_|refine gs1 fun _=>?_|fail)
 rename_i b1
 refine ap (ι:=IdsI I) (fun i=>⟨[(1,.pointer (some ⟨b1,0,none⟩)),(3,.slice i.A i.n i.c),(11,ki.v),(12,.int .i64 (ki.n:Nat)),(13,.int .i64 (i.k:Nat))],
  [cel b1 25 [ks.v,ki.v],orow 36 6 (.slice none 0 0) 0 [],orow 9 1 (.slice i.A i.n i.c) i.n i.xs],fun w=>(Ints w ks L∧Items w ki I)∧Glob w⟩) (fun i=>I.length-i.k) ⟨0,Nat.zero_le _,none,0,0,rfl,[],rfl⟩ (aj ⟨rfl,rfl,rfl,rfl,rfl,trivial⟩ (al _) fun _ h=>h) fun i=>?_
 obtain ⟨k,hk,A,cp,n,hn,xs,hxs⟩:=i
 simp only
 by_cases hlt:k<I.length
 · have hip':=hip aa
   obtain ⟨x,hx⟩:∃ x,I[k]?=some x:=⟨_,Zm hlt⟩
   have hs:=ui I hx
   have hnb:n≤1000:=by have h1:=ke (I.take k);rw [List.length_take] at h1;omega
   by_cases h0:x.kind=0
   · rw [ZA h0,ZC] at hs
     repeat' (first|refine ai (cf true rfl rfl (ZA aa)) rfl am rfl ?_|refine aE (hab:=h0) ?_|(refine aF (size:=1) (z:=.string ⟨#[]⟩) (news:=[encB x.act.author]) (q:=1) rfl rfl rfl rfl (fun _=>At.there _ (At.there _ (At.there _ (At.there _ (At.here _))))) (fun w G=>bJ G ar rfl rfl 1) aa (by simp only [maxLen];omega) rfl ?_ rfl ?_;(first|with_reducible rfl|with_reducible assumption|with_reducible exact ZI|with_reducible exact ZK);intro A2 c2)|refine gs ?_|refine gs1 fun _=>?_|(refine aH (q:=k*49) ?_)|(refine bP (cs:=x.cells) (hF:=fun w h=>Items.get h.1.2 hx) ?_)|(refine gp ?_ ?_<;>intro hx_ this)|fail)
     exact ⟨(⟨k+1,hlt,A2,c2,n+1,by rw [hs,ZX,←hn];rfl,xs++[encB x.act.author],by rw [hs,Qn,←hxs];rfl⟩:IdsI I),(by show I.length-(k+1)<I.length-k;omega),aj ⟨rfl,rfl,rfl,rfl,rfl,trivial⟩ (.cons _ (.cons _ (al _))) fun _ h=>h⟩
   · rw [Zn h0,ZB,Z9] at hs
     repeat' (first|refine ai (cf true rfl rfl (ZA aa)) rfl am rfl ?_|refine aD (hab:=h0) ?_|refine gs ?_|refine gs1 fun _=>?_|(refine aH (q:=k*49) ?_)|(refine bP (cs:=x.cells) (hF:=fun w h=>Items.get h.1.2 hx) ?_)|(refine gp ?_ ?_<;>intro hx_ this)|fail)
     exact ⟨(⟨k+1,hlt,A,cp,n,by rw [hs];exact hn,xs,by rw [hs];exact hxs⟩:IdsI I),(by show I.length-(k+1)<I.length-k;omega),aj ⟨rfl,rfl,rfl,rfl,rfl,trivial⟩ (.cons _ (al _)) fun _ h=>h⟩
 have hkE:k=I.length:=by omega
 rw [hkE,List.take_length] at hn hxs
 subst hxs
 have hnb:n≤1000000000:=by have h1:=ke I;omega
 repeat' (first|refine ai (cf false rfl rfl (Zn aa)) rfl am rfl ?_|(refine oY (hc:=zK hnb) (hX:=fun _ _=>trivial) ?_)|(refine uP (hc:=Bv) (hX:=fun _ _=>trivial) ?_;rintro _ _ X2 ⟨A3,c3,rfl,rfl⟩;refine bo ?_)|refine gs ?_|refine gs1 fun _=>?_|(refine gp ?_ ?_<;>intro hx_ this)|fail)
 have hB:(compB (sortB (authI I))).length≤1000:=by
  have h1:=Bu (sortB (authI I))
  have h2:=nP (authI I)
  have h3:=ke I
  omega
 generalize hids:compB (sortB (authI I))=ids at *
 clear hids hlt hk hnb hn
 refine ap (ι:=ChsI Q ids) (fun i=>⟨[(1,.pointer (some ⟨b1,0,none⟩)),(6,.slice i.A i.n i.c),(30,.slice A3 ids.length c3),(31,.int .i64 (ids.length:Nat)),(32,.int .i64 (i.k:Nat))],
  [cel b1 25 [ks.v,ki.v],orow 36 6 (.slice i.A i.n i.c) i.n i.xs],fun w=>(((Ints w ks L∧Items w ki I)∧Glob w)∧Strs w ⟨A3,ids.length,c3⟩ ids)∧∀ p∈i.M,p.1.at_ w∧Keyz w p.1.keys p.2⟩) (fun i=>ids.length-i.k) ⟨0,Nat.zero_le _,[],.nil,none,0,0,rfl,[],rfl⟩ ?_ fun i=>?_
 · exact aj ⟨rfl,rfl,rfl,rfl,rfl,trivial⟩ (.cons_cons _ (.cons_cons _ (ZR _))) fun w h=>⟨⟨h.1.1,gk h.2 rfl⟩,fun p hp=>absurd hp (by simp)⟩
 obtain ⟨k,hk,M,hM,A4,c4,n4,hn4,xs,hxs⟩:=i
 simp only
 have hMl:M.length=k:=by have:=hM.len;rw [List.length_take] at this;omega
 have hn4b:n4≤1000:=by have:=List.length_filter_le neK M;omega
 by_cases hlt:k<ids.length
 · refine aJ (p:=A3.isSome=true) (fun w h=>h.1.2.some_ aa) fun hA3=>?_
   have hget:ids[k]?=some (ids.getD k .empty):=by rw [ZL,Zm hlt];rfl
   have hlt':=hlt
   generalize hxe:ids.getD k .empty=x at *
   repeat' (first|refine ai (cf true rfl rfl (ZA aa)) rfl am rfl ?_|(refine cA (hc:=hof x) (hX:=fun w h=>h.1.1) fun v X5 h5=>?_;obtain ⟨c,kl,hQ,rfl,hw5⟩:=h5;refine ig (p:=c.acts.n=c.actsL.length) (fun w h=>(hw5 w h.2).1.len_) fun hcn=>?_)|(refine aF (size:=6) (news:=c.cells) (q:=1) rfl rfl rfl rfl (fun _=>At.there _ (At.there _ (At.there _ (At.here _)))) (fun w G=>bJ G ar rfl rfl 1) aa (by simp only [maxLen];omega) rfl ?_ rfl ?_;(first|with_reducible rfl|with_reducible assumption|with_reducible exact ZI|with_reducible exact ZK);intro A2 c2)|refine gs ?_|refine gs1 fun _=>?_|(refine aH (q:=k) ?_)|(refine dr (u:=.string x) (hF:=fun w h=>hxe▸Strs.get h.1.2 hlt') ?_)|(refine cS (size:=6) (vs:=[c.v]) (css:=c.cells) (hsz:=by rfl) (hcs:=by rfl) fun _=>?_)|(refine gp ?_ ?_<;>intro hx_ this)|fail)
   all_goals
    have hM2:All2 (fun id p=>Q id p.1 p.2) (ids.take (k+1)) (M++[(c,kl)]):=by
     rw [List.take_add_one,hget]
     exact hM.snoc hQ
    have hX2:∀ w,((((((Ints w ks L∧Items w ki I)∧Glob w)∧Strs w ⟨A3,ids.length,c3⟩ ids)∧∀ p∈M,p.1.at_ w∧Keyz w p.1.keys p.2)∧X5 w))→(((Ints w ks L∧Items w ki I)∧Glob w)∧Strs w ⟨A3,ids.length,c3⟩ ids)∧∀ p∈M++[(c,kl)],p.1.at_ w∧Keyz w p.1.keys p.2:=fun w h=>⟨h.1.1,fun p hp=>by
     rcases List.mem_append.1 hp with hp|hp
     · exact h.1.2 p hp
     · rw [List.mem_singleton.1 hp];exact hw5 w h.2⟩
   · have hf:(M++[(c,kl)]).filter neK=M.filter neK++[(c,kl)]:=by
      rw [List.filter_append]
      have:neK (c,kl)=true:=ZA (by show 0<c.actsL.length;omega)
      simp [this]
     exact ⟨(⟨k+1,hlt,M++[(c,kl)],hM2,A2,c2,n4+1,by rw [hf,ZX,←hn4];rfl,xs++c.cells,by rw [hf,hxs];simp⟩:ChsI Q ids),(by show ids.length-(k+1)<ids.length-k;omega),aj ⟨rfl,rfl,rfl,rfl,rfl,trivial⟩ (.cons _ (.cons _ (al _))) hX2⟩
   · have hf:(M++[(c,kl)]).filter neK=M.filter neK:=by
      rw [List.filter_append]
      have:neK (c,kl)=false:=Zn (by show ¬ 0<c.actsL.length;omega)
      simp [this]
     exact ⟨(⟨k+1,hlt,M++[(c,kl)],hM2,A4,c4,n4,by rw [hf];exact hn4,xs,by rw [hf];exact hxs⟩:ChsI Q ids),(by show ids.length-(k+1)<ids.length-k;omega),aj ⟨rfl,rfl,rfl,rfl,rfl,trivial⟩ (.cons _ (al _)) hX2⟩
 · have hkE:k=ids.length:=by omega
   rw [hkE,List.take_length] at hM
   subst hxs
   repeat' (first|refine ai (cf false rfl rfl (Zn aa)) rfl am rfl ?_|refine gs ?_|refine gs1 fun _=>?_|(refine gp ?_ ?_<;>intro hx_ this)|fail)
   refine ad (ag rfl rfl) ⟨⟨A4,n4,c4⟩,M,hM,rfl,fun w h=>⟨⟨?_,fun c hc=>?_⟩,fun p hp=>(h.1.2 p hp).2⟩⟩
   · exact bt (xs:=((M.filter neK).map Prod.fst).map ChainD.cells) (h.2 _ (.tail _ (.head _))) (by rw [Z3,Z3];exact hn4) fun r hr=>by
      obtain ⟨z,_,rfl⟩:=List.mem_map.1 hr
      rfl
   · obtain ⟨p,hp,rfl⟩:=List.mem_map.1 hc
     exact (h.1.2 p (List.mem_filter.1 hp).1).1
theorem Items.keep {w w':World} {s:SlV} {l:List ItemD} (h:Items w s l) (hs:∀ k,k<w.heap.size→w'.heap[k]?=w.heap[k]?):Items w' s l :=
 ⟨RowsD.keep h.1 hs,fun i hi=>⟨⟨RowsD.keep (h.2 i hi).1.1 hs,RowsD.keep (h.2 i hi).1.2 hs⟩,RowsD.keep (h.2 i hi).2 hs⟩⟩
theorem qc {α:Type} {f:α→ByteArray} {I:List α} (h:Asc (I.map f)) {x y:α} (hx:x∈I) (hy:y∈I) (e:f x=f y):x=y:=by
 obtain ⟨p,hp⟩:=List.mem_iff_getElem?.1 hx
 obtain ⟨q,hq⟩:=List.mem_iff_getElem?.1 hy
 have key:∀ {a b:Nat} {u v:α},I[a]?=some u→I[b]?=some v→f u=f v→¬ a<b:=fun {a b u v} h1 h2 e hab=>by
  have:=lc h hab (x:=f u) (y:=f v) (by rw [List.getElem?_map,h1];rfl) (by rw [List.getElem?_map,h2];rfl)
  rw [e,cX] at this
  cases this
 rcases Nat.lt_trichotomy p q with h1|rfl|h1
 · exact absurd h1 (key hp hq e)
 · exact Option.some.inj (hp.symm.trans hq)
 · exact absurd h1 (key hq hp e.symm)
theorem fQ {I:List ItemD} {au:ByteArray} {a:ActD} (h:a∈selA au rightIt I):∃ i∈I,i.act=a∧i.kind=0∧rightIt i=true∧digIt i=digV a∧a.author=au:=by
 rw [selA] at h
 obtain ⟨i,hi,rfl⟩:=List.mem_map.1 h
 obtain ⟨h1,h2⟩:=List.mem_filter.1 hi
 rw [selB,ZM,wantA,ZM,ZT,seqB_iff] at h2
 exact ⟨i,h1,rfl,h2.1.1,h2.2,xJ h2.1.1 h2.2,h2.1.2⟩
theorem DP {L:List Int} {I:List ItemD} (h:KnR L I) {au au':ByteArray} {a b:ActD} (ha:a∈selA au rightIt I) (hb:b∈selA au' rightIt I) (e:digV a=digV b):a=b:=by
 obtain ⟨i,hi,rfl,_,_,e1,_⟩:=fQ ha
 obtain ⟨j,hj,rfl,_,_,e2,_⟩:=fQ hb
 rw [qc h.asc hi hj (by rw [e1,e2,e])]
theorem AU {l:List ActD} (hd:∀ a∈l,∀ b∈l,digV a=digV b→a=b) (hs:∀ (i:Nat) (x:ActD),l[i]?=some x→x.seq=(i:Int)) {n:Nat} {x:ActD} (hx:l[n]?=some x):idxV l (digV x)=some n:=by
 obtain ⟨hn,e⟩:=List.getElem?_eq_some_iff.1 hx
 rw [idxV,List.findIdx?_eq_some_iff_getElem]
 refine ⟨hn,by rw [e];exact cV _,fun j hj hc=>?_⟩
 have h1:=seqB_iff.1 hc
 have h2:=hd _ (Qh aa) x (List.mem_of_getElem? hx) h1
 have h3:=hs j _ (Zm aa)
 have h4:=hs n x hx
 rw [h2] at h3
 omega
theorem pD {P:Program} {f:FuncId} {args:Array Value} {X:World→Prop} {Φ Ψ:Value→(World→Prop)→Prop} (h:Mk P f args X Φ) (hi:∀ u X',Φ u X'→Ψ u X'):Mk P f args X Ψ:=by
 unfold Mk at *
 exact h.mono fun u R X' h1=>⟨hi u X' h1.1,h1.2⟩
def QK (L:List Int) (I:List ItemD) (au:ByteArray) (c:ChainD) (kl:List KeyD):Prop :=
 ∃ (A:List ActD) (sa sk:SlV) (st:ChS) (fork:Bool),A.Perm (selA au rightIt I)∧OfRes ((OfWK L.length I au).at A) st fork∧c=⟨au,sa,sk,st.prev,(st.gen:Nat),fork,st.acts⟩∧kl=st.keys
theorem vg (ks ki:SlV) {L:List Int} {I:List ItemD} (h:KnR L I) (au:ByteArray) :
  Mk Tryz.prog 28 #[.agg #[ks.v,ki.v],.string au] (fun w=>(Ints w ks L∧Items w ki I)∧Glob w) (OfQ (QK L I) au) :=
 pD (E3 wH ks ki h au) fun u X ⟨A,sa,sk,st,fork,h1,h2,h3,h4⟩=>⟨⟨au,sa,sk,st.prev,(st.gen:Nat),fork,st.acts⟩,st.keys,⟨A,sa,sk,st,fork,h1,h2,rfl,rfl⟩,h3,h4⟩
structure ChGood (c:ChainD) (kl:List KeyD):Prop where
 ok:ActsOk c.actsL
 len:c.actsL.length≤100
 klen:kl.length≤1000
 seq:∀ (i:Nat) (x:ActD),c.actsL[i]?=some x→x.seq=(i:Int)
 fit:∀ (n:Nat) (x:ActD),1≤n→c.actsL[n]?=some x→∀ d:ChainD,d.id=c.id→d.acts.n=n→d.prev=x.prev→d.actsL=c.actsL.take n→fitsV d x (idxV d.actsL x.object)=true
 key0:0<c.actsL.length→∃ k r,kl=k::r∧k.from_=0
 own:∀ (n:Nat) (x:ActD),c.actsL[n]?=some x→idxV c.actsL (digV x)=some n
theorem vv {W:OfW} (hB:∀ g c,W.won g=some c→g<W.B) {a:ActD} (ha:a∈firstL W):InvS W (finS W a) :=
 pg (P:=InvS W) (fun st s h hs=>(iP hB h hs).1) _ _ (pZ ha).1
theorem zP (au:ByteArray) (I:List ItemD):(selA au rightIt I).length≤I.length:=by rw [selA,Z3];exact List.length_filter_le _ _
theorem gC {L:List Int} {I:List ItemD} (h:KnR L I) {au:ByteArray} {c:ChainD} {kl:List KeyD} (q:QK L I au c kl):ChGood c kl:=by
 obtain ⟨A,sa,sk,st,fork,hA,hR,rfl,rfl⟩:=q
 have hAl:A.length≤100:=by have h1:=hA.length_eq;have h2:=zP au I;have h3:=h.len;omega
 have hAm:∀ a∈A,a∈selA au rightIt I:=fun a ha=>hA.subset ha
 rw [OfRes] at hR
 cases ho:oneA (firstL ((OfWK L.length I au).at A)) with
 | none =>
  rw [ho] at hR
  obtain ⟨rfl,rfl⟩:=hR
  exact ⟨⟨fun a ha=>absurd ha (by simp),fun a ha=>absurd ha (by simp)⟩,by simp,by simp,fun i x hx=>by simp at hx,fun n x _ hx=>by simp at hx,fun hl=>by simp at hl,fun n x hx=>by simp at hx⟩
 | some a =>
  rw [ho] at hR
  obtain ⟨rfl,rfl⟩:=hR
  have ha:a∈firstL ((OfWK L.length I au).at A):=by rw [fY ho];exact List.mem_singleton.2 rfl
  have hF:=vw ha
  have hB:∀ g c,((OfWK L.length I au).at A).won g=some c→g<((OfWK L.length I au).at A).B:=fun g c hw=>(eR hw).1
  have hI:=vv hB ha
  have hg:=pL L.length I au
  have hcl:(claimsV I au).length≤I.length:=by rw [claimsV,selC,Z3];exact List.length_filter_le _ _
  have hIl:=h.len
  have h1:=hI.len
  have h2:=hI.keyn
  have h3:(finS ((OfWK L.length I au).at A) a).gen≤genB L.length I au:=hI.gen
  have h4:(finS ((OfWK L.length I au).at A) a).acts.length≤A.length:=h1
  have hmem:∀ x∈(finS ((OfWK L.length I au).at A) a).acts,x∈selA au rightIt I:=fun x hx=>hAm x (hF.mem x hx)
  refine ⟨⟨fun x hx=>?_,fun x hx=>?_⟩,by show (finS ((OfWK L.length I au).at A) a).acts.length≤100;omega,by omega,hF.seq,fun n x hn hx d e1 e2 e3 e4=>?_,fun _=>hF.key0,fun n x hx=>?_⟩
  · obtain ⟨i,hi,rfl,_⟩:=fQ (hmem x hx)
    exact h.rng i hi
  · obtain ⟨i,hi,rfl,_⟩:=fQ (hmem x hx)
    exact h.sm i hi
  · have h5:=hF.fit n x hx hn
    rw [e4]
    rw [←h5]
    refine j2 e1 ?_ e3 e4
    rw [e2]
    show n=((finS ((OfWK L.length I au).at A) a).acts.take n).length
    rw [List.length_take]
    obtain ⟨hlt,_⟩:=List.getElem?_eq_some_iff.1 hx
    change n<(finS ((OfWK L.length I au).at A) a).acts.length at hlt
    omega
  · exact AU (fun x hx y hy e=>DP h (hmem x hx) (hmem y hy) e) hF.seq hx
theorem oi {l m:List ActD} (h:l.Perm m):oneA l=oneA m:=by
 have hl:=h.length_eq
 match l,m,h,hl with
 | [],m,h,_=>rw [List.Perm.nil_eq h]
 | [a],m,h,_=>rw [List.singleton_perm.1 h]
 | a::b::r,[],h,hl=>cases hl
 | a::b::r,[c],h,hl=>cases hl
 | a::b::r,c::d::s,h,_=>rfl
theorem na (W:OfW) {A B:List ActD} (h:A.Perm B) (st:ChS):(candL (W.at A) st).Perm (candL (W.at B) st):=(h.filter _).filter _
theorem sT (W:OfW) {A B:List ActD} (h:A.Perm B) (st:ChS):stepS (W.at A) st=stepS (W.at B) st:=by
 have h1:regS (W.at A) st=regS (W.at B) st:=rfl
 rw [stepS,stepS,h1,oi (na W h st)]
theorem oa (W:OfW) {A B:List ActD} (h:A.Perm B):∀ n st,runS (W.at A) n st=runS (W.at B) n st
 | 0,st=>rfl
 | n+1,st=>by
  rw [runS,runS,sT W h st]
  cases stepS (W.at B) st with
  | none=>rfl
  | some s=>exact oa W h n s
theorem kF (W:OfW) {A B:List ActD} (h:A.Perm B):(firstL (W.at A)).Perm (firstL (W.at B)):=(h.filter _).filter _
theorem xC (W:OfW) {A B:List ActD} (h:A.Perm B) (a:ActD):finS (W.at A) a=finS (W.at B) a:=by
 rw [finS,finS,show (W.at A).L.length=(W.at B).L.length from h.length_eq]
 exact oa W h _ _
theorem my (W:OfW) {A B:List ActD} (h:A.Perm B) {st:ChS} {fork:Bool} (r:OfRes (W.at A) st fork):OfRes (W.at B) st fork:=by
 rw [OfRes] at r ⊢
 rw [←oi (kF W h)]
 cases ho:oneA (firstL (W.at A)) with
 | none =>
  rw [ho] at r
  exact ⟨r.1,by rw [r.2,(kF W h).length_eq]⟩
 | some a =>
  rw [ho] at r
  simp only at r ⊢
  rw [←xC W h a,←(na W h _).length_eq]
  exact r
theorem xi {W:OfW} {st st':ChS} {f f':Bool} (r:OfRes W st f) (r':OfRes W st' f'):st=st'∧f=f':=by
 rw [OfRes] at r r'
 cases ho:oneA (firstL W) with
 | none =>
  rw [ho] at r r'
  exact ⟨r.1.trans r'.1.symm,r.2.trans r'.2.symm⟩
 | some a =>
  rw [ho] at r r'
  exact ⟨r.1.trans r'.1.symm,r.2.trans r'.2.symm⟩
def EvS (W:OfW) (s:ChS):Prop:=(∃ x∈W.L,s.prev=digV x)∨∃ g c,g<s.gen∧W.won g=some c∧s.prev=W.dgC c
theorem DK {W:OfW} {st s:ChS} (hs:stepS W st=some s):EvS W s:=by
 rcases eT hs with h1|⟨h1,a,h2,rfl⟩
 · obtain ⟨c,i,e1,e2,e3,e4,e5,rfl⟩:=fU h1
   exact .inr ⟨st.gen,c,Nat.lt_succ_self _,e1,rfl⟩
 · have ha:a∈candL W st:=by rw [h2];exact List.mem_singleton.2 rfl
   exact .inl ⟨a,(jA ha).1,rfl⟩
theorem iS {W:OfW}:∀ (n:Nat) (s:ChS),runS W n s=s∨s.acts.length<(runS W n s).acts.length ∨
  s.acts.length=(runS W n s).acts.length∧∃ g c,s.gen≤g∧(runS W n s).gen=g+1∧W.won g=some c∧(runS W n s).prev=W.dgC c
 | 0,s=>.inl rfl
 | n+1,s=>by
  cases hs:stepS W s with
  | none=>exact .inl (fw hs _)
  | some s1 =>
   rw [eE hs]
   have ih:=iS (W:=W) n s1
   rcases eT hs with h1|⟨h1,a,h2,rfl⟩
   · obtain ⟨c,i,e1,e2,e3,e4,e5,e6⟩:=fU h1
     have ea:s1.acts=s.acts:=by rw [e6]
     have eg:s1.gen=s.gen+1:=by rw [e6]
     have ep:s1.prev=W.dgC c:=by rw [e6]
     rw [ea] at ih
     rcases ih with ih|ih|⟨ih,g,c',i1,i2,i3,i4⟩
     · rw [ih]
       exact .inr (.inr ⟨by rw [ea],s.gen,c,Qq _,eg,e1,ep⟩)
     · exact .inr (.inl ih)
     · exact .inr (.inr ⟨ih,g,c',by omega,i2,i3,i4⟩)
   · have el:(addS s a).acts.length=s.acts.length+1:=by simp [addS]
     right;left
     rcases ih with ih|ih|⟨ih,_⟩
     · rw [ih];omega
     · omega
     · omega
structure DistS (W:OfW):Prop where
 ac:∀ x∈W.L,∀ g c,W.won g=some c→digV x≠W.dgC c
 cc:∀ g g' c c',W.won g=some c→W.won g'=some c'→W.dgC c=W.dgC c'→g=g'
theorem AE {W:OfW} (hD:DistS W) {n:Nat} {s s1:ChS} (hE:EvS W s) (hs:stepS W s=some s1):¬ ((runS W n s1).acts.length=s.acts.length∧(runS W n s1).prev=s.prev):=by
 rintro ⟨h1,h2⟩
 have hg:=iS (W:=W) (n+1) s
 rw [eE hs] at hg
 rcases hg with hg|hg|⟨_,g,c,g1,g2,g3,g4⟩
 · have hg1:=iS (W:=W) n s1
   rcases eT hs with k1|⟨k1,a,k2,rfl⟩
   · obtain ⟨c,i,e1,e2,e3,e4,e5,e6⟩:=fU k1
     have eg:s1.gen=s.gen+1:=by rw [e6]
     have ea:s1.acts=s.acts:=by rw [e6]
     rcases hg1 with q|q|⟨q,g,c',q1,q2,_⟩
     · rw [q] at hg
       rw [hg] at eg
       omega
     · rw [hg,ea] at q
       omega
     · rw [hg] at q2
       omega
   · have el:(addS s a).acts.length=s.acts.length+1:=by simp [addS]
     rcases hg1 with q|q|⟨q,_⟩
     · rw [q] at h1;omega
     · omega
     · omega
 · omega
 · rw [h2] at g4
   rcases hE with ⟨x,hx,e⟩|⟨g',c',l1,l2,l3⟩
   · exact hD.ac x hx g c g3 (e.symm.trans g4)
   · have:=hD.cc g' g c' c l2 g3 (l3.symm.trans g4)
     omega
theorem uS {W:OfW} {A:List ActD} {a:ActD} (hD:DistS (W.at A)):∀ (n:Nat) (s:ChS),EvS (W.at A) s→stepS (W.at A) (runS (W.at A) n s)=none→a.seq=((runS (W.at A) n s).acts.length:Int)→a.prev=(runS (W.at A) n s).prev →
  ∃ k,k≤n∧∀ m,runS (W.at (a::A)) (k+m) s=runS (W.at (a::A)) m (runS (W.at A) n s)
 | 0,s,hE,hf,h1,h2=>⟨0,Qq _,fun m=>by rw [Ql];rfl⟩
 | n+1,s,hE,hf,h1,h2=>by
  cases hs:stepS (W.at A) s with
  | none =>
   rw [fw hs] at *
   exact ⟨0,Nat.zero_le _,fun m=>by rw [Ql]⟩
  | some s1 =>
   have hno:=AE hD (n:=n) hE hs
   rw [eE hs] at *
   have hpos:posB s.acts.length s.prev a=false:=by
    cases hp:posB s.acts.length s.prev a with
    | false=>rfl
    | true =>
     rw [posB,ZM,ZT,seqB_iff] at hp
     exact absurd ⟨by have:=hp.1;omega,by rw [←h2];exact hp.2⟩ hno
   have hst:stepS (W.at (a::A)) s=some s1:=by
    rw [←hs]
    have e:candL (W.at (a::A)) s=candL (W.at A) s:=by
     show (List.filter (posB s.acts.length s.prev) (a::A)).filter _=_
     rw [List.filter_cons_of_neg (by rw [hpos];decide)]
     rfl
    have e1:regS (W.at (a::A)) s=regS (W.at A) s:=rfl
    rw [stepS,stepS,e,e1]
   obtain ⟨k,hk,hr⟩:=uS hD n s1 (DK hs) hf h1 h2
   exact ⟨k+1,by omega,fun m=>by rw [Nat.add_right_comm,eE hst];exact hr m⟩
theorem uT {W:OfW} (hB:∀ g c,W.won g=some c→g<W.B):∀ (n:Nat) (s:ChS),InvS W s→muS W s≤n→stepS W (runS W n s)=none
 | 0,s,hI,hm=>by
  cases hs:stepS W s with
  | none=>exact hs
  | some s1=>have:=(iP hB hI hs).2;omega
 | n+1,s,hI,hm=>by
  cases hs:stepS W s with
  | none=>rw [fw hs];exact hs
  | some s1 =>
   obtain ⟨h1,h2⟩:=iP hB hI hs
   rw [eE hs]
   exact uT hB n s1 h1 aa
theorem Bb {W:OfW} (hB:∀ g c,W.won g=some c→g<W.B) {a:ActD} (ha:a∈firstL W):stepS W (finS W a)=none:=by
 obtain ⟨h1,h2⟩:=pZ ha
 exact uT hB _ _ h1 aa
structure KeyS (s:ChS):Prop where
 len:s.keys.length=1+movN s.acts+s.gen
 le:∀ k∈s.keys,k.from_≤(s.acts.length:Int)
theorem uU {W:OfW}:∀ (n:Nat) (s:ChS),∃ M K,(runS W n s).acts=s.acts++M∧(runS W n s).keys=s.keys++K∧∀ k∈K,(s.acts.length:Int)≤k.from_
 | 0,s=>⟨[],[],(Z9 _).symm,(Z9 _).symm,fun k hk=>(List.not_mem_nil hk).elim⟩
 | n+1,s=>by
  cases hs:stepS W s with
  | none=>rw [fw hs];exact ⟨[],[],(Z9 _).symm,(Z9 _).symm,fun k hk=>(List.not_mem_nil hk).elim⟩
  | some s1 =>
   rw [eE hs]
   obtain ⟨M,K,h1,h2,h3⟩:=uU (W:=W) n s1
   rcases eT hs with k1|⟨k1,a,k2,rfl⟩
   · obtain ⟨c,i,e1,e2,e3,e4,e5,rfl⟩:=fU k1
     refine ⟨M,⟨(s.acts.length:Nat),c.pub,c.home⟩::K,h1,by rw [h2];simp,fun k hk=>?_⟩
     rcases List.mem_cons.1 hk with rfl|hk
     · exact Int.le_refl _
     · exact h3 k hk
   · have hl:((addS s a).acts.length:Int)=(s.acts.length:Int)+1:=by simp [addS]
     refine ⟨a::M,(bif decide (a.kind=18) then [⟨((s.acts.length+1:Nat):Int),a.n,a.m⟩] else [])++K,by rw [h1];simp [addS],?_,fun k hk=>?_⟩
     · rw [h2]
       show (bif decide (a.kind=18) then s.keys++[_] else s.keys)++K=_
       cases decide (a.kind=18)<;>simp
     · rcases List.mem_append.1 hk with hk|hk
       · cases hd:decide (a.kind=18) with
         | true =>
          rw [hd,ZC] at hk
          rw [List.mem_singleton.1 hk]
          show (s.acts.length:Int)≤((s.acts.length+1:Nat):Int)
          omega
         | false =>
          rw [hd,ZB] at hk
          exact (List.not_mem_nil hk).elim
       · have:=h3 k hk
         omega
theorem DI {W:OfW} {A:List ActD} {a b:ActD} (hD:DistS (W.at A)) (hB:∀ g c,W.won g=some c→g<W.B) (hb:oneA (firstL (W.at A))=some b) {st st':ChS} {f f':Bool}
  (r:OfRes (W.at A) st f) (r':OfRes (W.at (a::A)) st' f') (h1:a.seq=(st.acts.length:Int)) (h2:a.prev=st.prev) :
  bif !f&&candB (W.at A) st a then f=false∧∃ m,st'=runS (W.at (a::A)) m (addS st a) else st'=st∧f'=f:=by
 have hbm:b∈firstL (W.at A):=by rw [fY hb];exact List.mem_singleton.2 rfl
 have hI:=vv (W:=W.at A) hB hbm
 have hst:st=finS (W.at A) b∧f=decide (1<(candL (W.at A) (finS (W.at A) b)).length):=by
  rw [OfRes,hb] at r
  exact r
 obtain ⟨rfl,hf⟩:=hst
 have hone:=hI.one
 have hfl:firstL (W.at (a::A))=firstL (W.at A):=by
  have hp:posB 0 ⟨#[]⟩ a=false:=by
   rw [posB,Zn (by rw [h1];omega)]
   rfl
  show (List.filter (posB 0 ⟨#[]⟩) (a::A)).filter _=_
  rw [List.filter_cons_of_neg (by rw [hp];decide)]
  rfl
 have hst':st'=finS (W.at (a::A)) b∧f'=decide (1<(candL (W.at (a::A)) (finS (W.at (a::A)) b)).length):=by
  rw [OfRes,hfl,hb] at r'
  exact r'
 obtain ⟨rfl,hf'⟩:=hst'
 have hstop:=Bb (W:=W.at A) hB hbm
 have hE:EvS (W.at A) (begS b):=by
  obtain ⟨e,m1,_⟩:=BA hbm
  exact .inl ⟨b,m1,by rw [e]⟩
 obtain ⟨k,hk,hr⟩:=uS hD _ (begS b) hE hstop h1 h2
 change ∀ m,runS (W.at (a::A)) (k+m) (begS b)=runS (W.at (a::A)) m (finS (W.at A) b) at hr
 obtain ⟨m,hm⟩:∃ m,(a::A).length+W.B=k+(m+1):=⟨(a::A).length+W.B-k-1,by rw [ZY];have:k≤A.length+W.B:=hk;omega⟩
 have hfin:finS (W.at (a::A)) b=runS (W.at (a::A)) (m+1) (finS (W.at A) b):=by
  rw [←hr,←hm]
  rfl
 have hpos:posB (finS (W.at A) b).acts.length (finS (W.at A) b).prev a=true:=by
  rw [posB,ZA h1,h2,cV]
  rfl
 have hcl:candL (W.at (a::A)) (finS (W.at A) b)=if candB (W.at A) (finS (W.at A) b) a=true then a::candL (W.at A) (finS (W.at A) b) else candL (W.at A) (finS (W.at A) b):=by
  show (List.filter (posB (finS (W.at A) b).acts.length (finS (W.at A) b).prev) (a::A)).filter (candB (W.at A) (finS (W.at A) b))=_
  rw [List.filter_cons_of_pos (by rw [hpos]),List.filter_cons]
  rfl
 have hreg:regS (W.at A) (finS (W.at A) b)=none∧oneA (candL (W.at A) (finS (W.at A) b))=none:=by
  rw [stepS] at hstop
  cases hr:regS (W.at A) (finS (W.at A) b) with
  | some s=>rw [hr] at hstop;cases hstop
  | none =>
   rw [hr] at hstop
   exact ⟨rfl,by simpa using hstop⟩
 have hregA:regS (W.at (a::A)) (finS (W.at A) b)=none:=hreg.1
 have hstay:oneA (candL (W.at (a::A)) (finS (W.at A) b))=none→finS (W.at (a::A)) b=finS (W.at A) b:=fun ho=>by
  rw [hfin]
  refine fw ?_ _
  rw [stepS,hregA,ho]
  rfl
 cases hc:candB (W.at A) (finS (W.at A) b) a with
 | false =>
  rw [hc,Qg (by decide)] at hcl
  have hs:=hstay (by rw [hcl];exact hreg.2)
  rw [ZH,ZB]
  refine ⟨hs,?_⟩
  rw [hf',hs,hcl,hf]
 | true =>
  rw [hc,Qf rfl] at hcl
  cases hff:f with
  | true =>
   rw [hff] at hf
   have hl:=aM hf.symm
   have ho:oneA (a::candL (W.at A) (finS (W.at A) b))=none:=by
    cases hcc:candL (W.at A) (finS (W.at A) b) with
    | nil=>rw [hcc] at hl;simp at hl
    | cons x r=>rfl
   have hs:=hstay (by rw [hcl];exact ho)
   refine ⟨hs,?_⟩
   rw [hf',hs,hcl,ZY]
   exact ZA aa
  | false =>
   rw [hff] at hf
   have hl:=aY hf.symm
   have hnil:candL (W.at A) (finS (W.at A) b)=[]:=by
    have h3:=hreg.2
    cases hcc:candL (W.at A) (finS (W.at A) b) with
    | nil=>rfl
    | cons x r =>
     rw [hcc] at hl h3
     cases r with
     | nil=>cases h3
     | cons y r=>simp at hl
   rw [hnil] at hcl
   refine ⟨rfl,m,?_⟩
   rw [hfin]
   refine eE ?_
   rw [stepS,hregA,hcl]
   rfl
theorem xI {i:ItemD} (h:i.kind=1) (hr:rightIt i=true):digIt i=dgCl i.claim:=by
 have h1:claimR i.claim=true:=by
  rcases de hr with h2|h2|h2|h2
  · rw [h] at h2;exact absurd h2.1 (by decide)
  · exact h2.2
  · rw [h] at h2;exact absurd h2.1 (by decide)
  · rw [h] at h2;exact absurd h2.1 (by decide)
 have h2:rightIt (ofClaimI i.claim)=true:=by
  have h3:rightIt (ofClaimI i.claim)=(claimR i.claim&&sameIZ ItemD.zero):=rfl
  rw [h3,h1]
  decide +kernel
 have e:bytesIt i=bytesIt (ofClaimI i.claim):=by
  rw [bytesIt,bytesIt,hr,h2,ZC,ZC,bodyIt,h]
  rfl
 rw [digIt,dgCl,digIt,e]
theorem gZ {I:List ItemD} {au:ByteArray} {c:ClaimD} (h:c∈claimsV I au):∃ i∈I,i.kind=1∧i.claim=c∧digIt i=dgCl c:=by
 rw [claimsV,selC] at h
 obtain ⟨i,hi,rfl⟩:=List.mem_map.1 h
 obtain ⟨h1,h2⟩:=List.mem_filter.1 hi
 rw [selBC,ZM,wantC,ZM,ZT] at h2
 exact ⟨i,h1,h2.1.1,rfl,xI h2.1.1 h2.2⟩
theorem DN {L:List Int} {I:List ItemD} (h:KnR L I) {au:ByteArray} {A:List ActD} (hA:A.Perm (selA au rightIt I)):DistS ((OfWK L.length I au).at A):=by
 refine ⟨fun x hx g c hw e=>?_,fun g g' c c' hw hw' e=>?_⟩
 · obtain ⟨i,hi,e1,e2,_,e3,_⟩:=fQ (hA.subset hx)
   obtain ⟨j,hj,e4,e5,e6⟩:=gZ (fL (eR hw).2).1
   have:=qc h.asc hi hj (by rw [e3,e6];exact e)
   rw [this,e4] at e2
   exact absurd e2 (by decide)
 · obtain ⟨m1,m2⟩:=fL (eR hw).2
   obtain ⟨m3,m4⟩:=fL (eR hw').2
   obtain ⟨i,hi,e1,e2,e3⟩:=gZ m1
   obtain ⟨j,hj,e4,e5,e6⟩:=gZ m3
   have:=qc h.asc hi hj (by rw [e3,e6];exact e)
   subst this
   rw [e2] at e5
   have h9:c.gen=c'.gen:=by rw [e5]
   rw [m2,m4] at h9
   omega
def gtB (a b:ByteArray):Bool:=!(Op.bytesLess a.toList b.toList||seqB a b)
def addAt (dI:ItemD→ByteArray) (d:ByteArray) (I:List ItemD) (k:Nat):Nat:=((I.take k).findIdx? fun x=>gtB (dI x) d).getD I.length
def addV (dI:ItemD→ByteArray) (it:ItemD) (I:List ItemD):List ItemD:=I.take (addAt dI (dI it) I I.length)++it::I.drop (addAt dI (dI it) I I.length)
theorem BP (dI:ItemD→ByteArray) (d:ByteArray) (I:List ItemD) (k:Nat) (hk:k≤I.length):addAt dI d I k<k∨addAt dI d I k=I.length:=by
 rw [addAt]
 cases h:(I.take k).findIdx? fun x=>gtB (dI x) d with
 | none=>exact .inr rfl
 | some j =>
  rw [List.findIdx?_eq_some_iff_getElem] at h
  obtain ⟨h1,_⟩:=h
  rw [List.length_take] at h1
  exact .inl (by show j<k;omega)
theorem uk (dI:ItemD→ByteArray) (d:ByteArray) (I:List ItemD) (k:Nat) (x:ItemD) (hx:I[k]?=some x):addAt dI d I (k+1)=bif gtB (dI x) d&&decide (addAt dI d I k=I.length) then k else addAt dI d I k:=by
 have hk:k<I.length:=(List.getElem?_eq_some_iff.1 hx).1
 rw [addAt,addAt,List.take_add_one,hx,Option.toList_some,List.findIdx?_append]
 cases h:(I.take k).findIdx? fun x=>gtB (dI x) d with
 | none =>
  rw [List.findIdx?_singleton]
  cases hg:gtB (dI x) d with
  | true=>simp [List.length_take];omega
  | false=>simp
 | some j =>
  rw [List.findIdx?_eq_some_iff_getElem] at h
  obtain ⟨h1,_⟩:=h
  rw [List.length_take] at h1
  have:¬ j=I.length:=by omega
  simp [this]
section
variable {P:Program} {N:Nat} {av bor:List Nat} {w0:World} {x y:Operand} {t t2:TypeId} {ty:TypeId} {st:St}
theorem kW {a b:ByteArray} (v:Bool) (hx:ev st.env x=some (.string a)) (hy:ev st.env y=some (.string b)) (hv:gtB a b=v):Sy.Yields P N av bor w0 st (.binOp .gtr t x y t2) ty (.bool v):=hv▸yc hx hy
end
structure AddI (I:List ItemD) where
 k:Nat
 hk:k≤I.length
set_option maxHeartbeats 16000000 in
theorem DX (Y:World→Prop) (ks ki:SlV) (I:List ItemD) (it:ItemD) (rI:ItemD→Bool) (dI:ItemD→ByteArray)
  (hR:Pu Tryz.prog 63 #[it.v] (fun w=>it.at_ w) (.bool true))
  (hS:Pu Tryz.prog 64 #[ks.v,it.v] (fun w=>(Y w∧it.at_ w)∧Glob w) (.bool true))
  (hD0:Pu Tryz.prog 14 #[it.v] (fun w=>it.at_ w∧Glob w) (.string (dI it)))
  (hD:∀ x∈I,Pu Tryz.prog 14 #[x.v] (fun w=>x.at_ w∧Glob w) (.string (dI x)))
  (hI:I.length≤1000) (hnew:∀ x∈I,seqB (dI x) (dI it)=false) :
  Mk Tryz.prog 34 #[.agg #[ks.v,ki.v],it.v] (fun w=>((Y w∧Items w ki I)∧it.at_ w)∧Glob w)
   (fun u X'=>∃ s:SlV,u=.tuple #[.agg #[ks.v,s.v],.bool true]∧∀ w,X' w→Items w s (addV dI it I)):=by
 refine bE (args:=[_,_]) _ Tryz.func34 rfl Tryz.ntmps34 rfl fun av bor w0=>?_
 refine aJ (p:=ki.n=I.length∧ki.n≤maxLen∧(0<I.length→ki.p.isSome=true)∧ki.n≤ki.c) (fun w h=>⟨h.1.1.2.len_,h.1.1.2.max_,h.1.1.2.some_,RowsD.cap h.1.1.2.1⟩) fun ⟨hkn,hkm,hkp,hkc⟩=>?_
 simp only [maxLen] at hkm
 obtain ⟨d,hd⟩:∃ d,dI it=d:=⟨_,rfl⟩
 rw [hd] at hD0 hnew
 repeat' (first|(refine ab (hc:=hR) (hX:=fun w h=>h.1.2) ?_)|(refine ab (hc:=hS) (hX:=fun w h=>⟨⟨h.1.1.1,h.1.2⟩,h.2⟩) ?_)|(refine ab (hc:=hD0) (hX:=fun w h=>⟨h.1.2,h.2⟩) ?_)|refine gs ?_|refine gs1 fun _=>?_|(refine gp ?_ ?_<;>intro hx_ this)|fail)
 rename_i b2 b3 b4
 refine ap (ι:=AddI I) (fun i=>⟨[(2,.pointer (some ⟨b2,0,none⟩)),(3,.pointer (some ⟨b3,0,none⟩)),(4,.pointer (some ⟨b4,0,none⟩)),(6,.string d),(7,.int .i64 (addAt dI d I i.k:Nat)),(29,ki.v),(30,.int .i64 (ki.n:Nat)),(31,.int .i64 (i.k:Nat))],[cel b4 25 [.slice none 0 0,.slice none 0 0],cel b3 63 it.cells,cel b2 25 [ks.v,ki.v]],fun w=>((Y w∧Items w ki I)∧it.at_ w)∧Glob w⟩) (fun i=>I.length-i.k) ⟨0,Nat.zero_le _⟩ (aj ⟨rfl,rfl,rfl,rfl,(by show some (Value.int .i64 (ki.n:Nat))=_;rw [hkn];rfl),rfl,rfl,rfl,trivial⟩ (al _) fun _ h=>h) fun i=>?_
 obtain ⟨k,hk⟩:=i
 simp only
 repeat' (first|refine gs ?_|refine gs1 fun _=>?_|(refine gp ?_ ?_<;>intro hx_ this)|fail)
 · have hlt:k<I.length:=by omega
   have hkp':=hkp aa
   obtain ⟨x,hx⟩:∃ x,I[k]?=some x:=⟨_,Zm hlt⟩
   have hxm:=List.mem_of_getElem? hx
   have hne:=hnew x hxm
   have hst:=uk dI d I k x hx
   generalize addAt dI d I k=at0 at *
   cases hg:gtB (dI x) d with
   | false =>
    rw [hg] at hst
    have hst:addAt dI d I (k+1)=at0:=hst
    have hat:decide ((at0:Int)=(ki.n:Int))=decide ((at0:Int)=(ki.n:Int)):=rfl
    repeat' (first|refine ai (dR false rfl rfl hne) rfl am rfl ?_|refine ai (kW _ rfl rfl hg) rfl am rfl ?_|refine ai (eY _ rfl rfl hat) rfl am rfl ?_|(refine ab (hc:=hD x hxm) (hX:=fun w h=>⟨h.1.1.2.2 x hxm,h.2⟩) ?_)|refine gs ?_|refine gs1 fun _=>?_|(refine aH (q:=k*49) ?_)|(refine bP (cs:=x.cells) (hF:=fun w h=>h.1.1.2.get hx) ?_)|(refine gp ?_ ?_<;>intro hx_ this)|fail)
    exact ⟨(⟨k+1,hlt⟩:AddI I),(by show I.length-(k+1)<I.length-k;omega),aj ⟨rfl,rfl,rfl,rfl,(by show _=some (Value.int .i64 (addAt dI d I (k+1):Nat));rw [hst];rfl),rfl,rfl,rfl,trivial⟩ (.cons _ (al _)) fun _ h=>h⟩
   | true =>
    by_cases ha:at0=I.length
    · rw [hg,ZA ha] at hst
      have hst:addAt dI d I (k+1)=k:=hst
      have hat:decide ((at0:Int)=(ki.n:Int))=true:=ZA aa
      repeat' (first|refine ai (dR false rfl rfl hne) rfl am rfl ?_|refine ai (kW _ rfl rfl hg) rfl am rfl ?_|refine ai (eY _ rfl rfl hat) rfl am rfl ?_|(refine ab (hc:=hD x hxm) (hX:=fun w h=>⟨h.1.1.2.2 x hxm,h.2⟩) ?_)|refine gs ?_|refine gs1 fun _=>?_|(refine aH (q:=k*49) ?_)|(refine bP (cs:=x.cells) (hF:=fun w h=>h.1.1.2.get hx) ?_)|(refine gp ?_ ?_<;>intro hx_ this)|fail)
      exact ⟨(⟨k+1,hlt⟩:AddI I),(by show I.length-(k+1)<I.length-k;omega),aj ⟨rfl,rfl,rfl,rfl,(by show _=some (Value.int .i64 (addAt dI d I (k+1):Nat));rw [hst];rfl),rfl,rfl,rfl,trivial⟩ (.cons _ (al _)) fun _ h=>h⟩
    · rw [hg,Zn ha] at hst
      have hst:addAt dI d I (k+1)=at0:=hst
      have hat:decide ((at0:Int)=(ki.n:Int))=false:=Zn aa
      repeat' (first|refine ai (dR false rfl rfl hne) rfl am rfl ?_|refine ai (kW _ rfl rfl hg) rfl am rfl ?_|refine ai (eY _ rfl rfl hat) rfl am rfl ?_|(refine ab (hc:=hD x hxm) (hX:=fun w h=>⟨h.1.1.2.2 x hxm,h.2⟩) ?_)|refine gs ?_|refine gs1 fun _=>?_|(refine aH (q:=k*49) ?_)|(refine bP (cs:=x.cells) (hF:=fun w h=>h.1.1.2.get hx) ?_)|(refine gp ?_ ?_<;>intro hx_ this)|fail)
      exact ⟨(⟨k+1,hlt⟩:AddI I),(by show I.length-(k+1)<I.length-k;omega),aj ⟨rfl,rfl,rfl,rfl,(by show _=some (Value.int .i64 (addAt dI d I (k+1):Nat));rw [hst];rfl),rfl,rfl,rfl,trivial⟩ (.cons _ (al _)) fun _ h=>h⟩
 have hkE:k=I.length:=by omega
 have hV:addV dI it I=I.take (addAt dI d I k)++it::I.drop (addAt dI d I k):=by rw [addV,hd,hkE]
 have hal:addAt dI d I k≤I.length:=by
  rcases BP dI d I k hk with h|h
  · omega
  · omega
 rw [hV]
 generalize addAt dI d I k=a0 at *
 have hones:∀ (J:List ItemD),∀ cs∈J.map ItemD.cells,cs.all (·.oneCell')=true:=fun J cs hcs=>by
  obtain ⟨x,_,rfl⟩:=List.mem_map.1 hcs
  rfl
 have hs1:∀ w,(((Y w∧Items w ki I)∧it.at_ w)∧Glob w)→Src Tryz.prog w 49 (.slice ki.p a0 ki.c) a0 ((I.take a0).map ItemD.cells).flatten:=fun w h=>by
  have h1:=RowsD.take (n:=a0) h.1.1.2.1 (by simpa using hal)
  rw [←List.map_take] at h1
  exact fP h1 (hones _)
 have hs2:∀ w,(((Y w∧Items w ki I)∧it.at_ w)∧Glob w)→Src Tryz.prog w 49 (ki.from 49 a0).v (ki.from 49 a0).n ((I.drop a0).map ItemD.cells).flatten:=fun w h=>by
  have h1:=RowsD.drop (n:=a0) h.1.1.2.1 (by simpa using hal)
  rw [←List.map_drop] at h1
  exact fP h1 (hones _)
 have hfn:(ki.from 49 a0).n=ki.n-a0:=rfl
 refine ie (c:=ki.n+1) (hm:=Nat.ble_eq_true_of_le aa) (hm2:=Nat.ble_eq_true_of_le aa) fun bv=>?_
 repeat' (first|refine gs ?_|refine gs1 fun _=>?_|(refine ai (Er rfl rfl aa aa) rfl rfl rfl ?_)|(refine gp ?_ ?_<;>intro hx_ this)|fail)
 refine aF (size:=49) (news:=((I.take a0).map ItemD.cells).flatten) (q:=a0) rfl rfl rfl rfl (fun _=>At.here _) (fun w G=>hs1 w G.keep.now) aa (by simp only [maxLen];omega) rfl ?_ rfl ?_
 · (first|with_reducible rfl|with_reducible assumption|with_reducible exact ZI|with_reducible exact ZK)
 intro A1 c1
 repeat' (first|refine cS (size:=49) (vs:=[it.v]) (css:=it.cells) (hsz:=by rfl) (hcs:=by rfl) fun _=>?_|refine gs ?_|refine gs1 fun _=>?_|(refine gp ?_ ?_<;>intro hx_ this)|fail)
 refine aF (size:=49) (news:=it.cells) (q:=1) rfl rfl rfl rfl (fun _=>At.there _ (At.here _)) (fun w G=>bJ G ar rfl rfl 1) aa (by simp only [maxLen];omega) rfl ?_ rfl ?_
 · (first|with_reducible rfl|with_reducible assumption|with_reducible exact ZI|with_reducible exact ZK)
 intro A2 c2
 repeat' (first|refine gs ?_|refine gs1 fun _=>?_|(refine ai (Eq (s:=ki) rfl rfl aa aa) rfl rfl rfl ?_)|(refine gp ?_ ?_<;>intro hx_ this)|fail)
 refine aF (size:=49) (news:=((I.drop a0).map ItemD.cells).flatten) (q:=ki.n-a0) rfl rfl rfl rfl (fun _=>At.there _ (At.here _)) (fun w G=>hs2 w G.keep.now) aa (by simp only [maxLen];omega) rfl ?_ rfl ?_
 · (first|with_reducible rfl|with_reducible assumption|with_reducible exact ZI|with_reducible exact ZK)
 intro A3 c3
 repeat' (first|refine gs ?_|refine gs1 fun _=>?_|(refine aC (cs:=[ks.v,.slice A3 (0+a0+1+(ki.n-a0)) c3]) (hf:=by rfl) ?_)|(refine gp ?_ ?_<;>intro hx_ this)|fail)
 refine ad (di rfl rfl rfl aP (by rfl)) ⟨⟨A3,0+a0+1+(ki.n-a0),c3⟩,rfl,fun w h=>?_⟩
 have hr:=h.2 (orow 63 49 (.slice A3 (0+a0+1+(ki.n-a0)) c3) (0+a0+1+(ki.n-a0)) ([]++((I.take a0).map ItemD.cells).flatten++it.cells++((I.drop a0).map ItemD.cells).flatten)) aP
 refine ⟨bt (e:=63) (xs:=(I.take a0++it::I.drop a0).map ItemD.cells) ?_ (by simp [hkn];omega) fun r hr=>?_,fun x hx=>?_⟩
 · have e:((I.take a0++it::I.drop a0).map ItemD.cells).flatten=[]++((I.take a0).map ItemD.cells).flatten++it.cells++((I.drop a0).map ItemD.cells).flatten:=by simp
   rw [e]
   exact hr
 · obtain ⟨x,_,rfl⟩:=List.mem_map.1 hr
   rfl
 · rcases List.mem_append.1 hx with hx|hx
   · exact h.1.1.1.2.2 x (List.mem_of_mem_take hx)
   · rcases List.mem_cons.1 hx with rfl|hx
     · exact h.1.1.2
     · exact h.1.1.1.2.2 x (List.mem_of_mem_drop hx)
end Go.Proofs.YtoefdofbekihdaaGreatDoor
set_option maxHeartbeats 16000000
namespace Go.Proofs.YtoefdofbekihdaaGreatDoor
open Go Go.Proofs Sy Go.Shelf
namespace Rf4
theorem FD (m x:Nat) (hm:m≤64):shrV .u64 (x:Int) (m:Int)=((x/2 ^ m:Nat):Int):=by
 show (x:Int).fdiv (2 ^ (min (m:Int).toNat 64))=_
 rw [Qt,Nat.min_eq_left hm,show (2:Int) ^ m=((2 ^ m:Nat):Int) by rw [Int.natCast_pow];rfl,←Int.ofNat_fdiv]
theorem ia {p:Nat} (h:p<18446744073709551616):IntKind.u64.wrap (p:Int)=(p:Int):=by
 simp [IntKind.wrap,IntKind.signed,IntKind.bits]
 omega
theorem FL (m x:Nat) (hm:m≤62) (hx:x<18446744073709551616):bitsV .and .u64 (x:Int) (((2 ^ m-1:Nat)):Int)=((x%2 ^ m:Nat):Int):=by
 show IntKind.u64.wrap ((((BitVec.ofInt 64 (x:Int)) &&& (BitVec.ofInt 64 (((2 ^ m-1:Nat)):Int))).toNat:Nat):Int)=_
 have h1:2 ^ m≤2 ^ 62:=Nat.pow_le_pow_right (by decide) hm
 have h2:0<2 ^ m:=Nat.two_pow_pos m
 rw [BitVec.toNat_and,BitVec.ofInt_natCast,BitVec.ofInt_natCast,BitVec.toNat_ofNat,BitVec.toNat_ofNat,Z0 (show x<2 ^ 64 by omega),Z0 (show 2 ^ m-1<2 ^ 64 by omega),Nat.and_two_pow_sub_one_eq_mod]
 exact ia (by have:=Nat.mod_lt x h2;omega)
theorem FF (m x:Nat) (hm:m≤64) (hx:x*2 ^ m<18446744073709551616):shlV .u64 (x:Int) (m:Int)=((x*2 ^ m:Nat):Int):=by
 show IntKind.u64.wrap ((x:Int)*2 ^ (min (m:Int).toNat 64))=_
 rw [Qt,Nat.min_eq_left hm,show (x:Int)*(2:Int) ^ m=((x*2 ^ m:Nat):Int) by rw [Int.natCast_mul,Int.natCast_pow];rfl]
 exact ia hx
section
variable {N:Nat} {av bor:List Nat} {w0:World} {st:St} {ty:TypeId} {x y:Operand} {E:Env} {loc:List Res} {X:World→Prop} {ops:Array Oper} {kk k:St→Prop} {pos:String} {af:Array Edge} {g:Option (Nat×Bool)} {rest:List Oper} {bb want:Bool} {n:Nat} {t t2:TypeId} {d:Option Tmp}
theorem oV {k':IntKind} (m r:Nat) {p:Nat} (hx:ev E x=some (.int .u64 (p:Nat)):=by rfl) (hy:ev E y=some (.int k' (m:Int)):=by rfl) (hm:m≤64∧p/2 ^ m=r) (hg:gdB ops E g=some (bb,want):=by rfl) (hbb:bb=want:=by exact am) (hd:Nat.blt n N=true:=by rfl) (h:Sw Tryz.prog N av bor w0 ops rest ⟨(n,.int .u64 (r:Nat))::E,loc,X⟩ k) :
  Sw Tryz.prog N av bor w0 ops (⟨some n,.binOp .shr t x y t2,ty,pos,af,g⟩::rest) ⟨E,loc,X⟩ k:=sP hx hy aa hg hbb hd (by rw [FD m p hm.1,hm.2];exact h)
theorem oX (m r:Nat) {p:Nat} (hx:ev E x=some (.int .u64 (p:Nat)):=by rfl) (hy:ev E y=some (.int .u64 ((2 ^ m-1:Nat):Int)):=by rfl) (hm:m≤62∧p<18446744073709551616∧p%2 ^ m=r) (hg:gdB ops E g=some (bb,want):=by rfl) (hbb:bb=want:=by exact am) (hd:Nat.blt n N=true:=by rfl) (h:Sw Tryz.prog N av bor w0 ops rest ⟨(n,.int .u64 (r:Nat))::E,loc,X⟩ k) :
  Sw Tryz.prog N av bor w0 ops (⟨some n,.binOp .and t x y t2,ty,pos,af,g⟩::rest) ⟨E,loc,X⟩ k:=ai (ql hx hy) hg hbb hd (by rw [FL m p hm.1 hm.2.1,hm.2.2];exact h)
theorem Cq {k':IntKind} (m r:Nat) {p:Nat} (hx:ev E x=some (.int .u64 (p:Nat)):=by rfl) (hy:ev E y=some (.int k' (m:Int)):=by rfl) (hm:m≤64∧p*2 ^ m<18446744073709551616∧p*2 ^ m=r) (hg:gdB ops E g=some (bb,want):=by rfl) (hbb:bb=want:=by exact am) (hd:Nat.blt n N=true:=by rfl) (h:Sw Tryz.prog N av bor w0 ops rest ⟨(n,.int .u64 (r:Nat))::E,loc,X⟩ k) :
  Sw Tryz.prog N av bor w0 ops (⟨some n,.binOp .shl t x y t2,ty,pos,af,g⟩::rest) ⟨E,loc,X⟩ k:=zy hx hy aa hg hbb hd (by rw [FF m p hm.1 hm.2.1,hm.2.2];exact h)
theorem uK [hI:TyInt Tryz.prog t .u64] {p q:Nat} (h:Sw Tryz.prog N av bor w0 ops rest ⟨(n,.int .u64 ((p*q:Nat):Int))::E,loc,X⟩ k) (hx:ev E x=some (.int .u64 (p:Nat)):=by rfl) (hy:ev E y=some (.int .u64 (q:Nat)):=by rfl) (hq:p*q<18446744073709551616) (hg:gdB ops E g=some (bb,want):=by rfl) (hbb:bb=want:=by exact am) (hd:Nat.blt n N=true:=by rfl) :
  Sw Tryz.prog N av bor w0 ops (⟨some n,.binOp .mul t x y t2,ty,pos,af,g⟩::rest) ⟨E,loc,X⟩ k:=eC (c:=((p*q:Nat):Int)) hx hy (by rw [←Int.natCast_mul];exact ia hq) hg hbb hd h
theorem uN [hI:TyInt Tryz.prog t .u64] {p q:Nat} (h:Sw Tryz.prog N av bor w0 ops rest ⟨(n,.int .u64 ((p+q:Nat):Int))::E,loc,X⟩ k) (hx:ev E x=some (.int .u64 (p:Nat)):=by rfl) (hy:ev E y=some (.int .u64 (q:Nat)):=by rfl) (hq:p+q<18446744073709551616) (hg:gdB ops E g=some (bb,want):=by rfl) (hbb:bb=want:=by exact am) (hd:Nat.blt n N=true:=by rfl) :
  Sw Tryz.prog N av bor w0 ops (⟨some n,.binOp .add t x y t2,ty,pos,af,g⟩::rest) ⟨E,loc,X⟩ k:=dH (c:=((p+q:Nat):Int)) hx hy (by rw [←Int.natCast_add];exact ia hq) hg hbb hd h
end
theorem EZ {P:Program} {fn:Func} {N t u r:Nat} {s:St} {v x y:Value} (hr:fn.results=#[.tmp t,.tmp u,.tmp r]) (h:Sy.look s.env t=some v) (h':Sy.look s.env u=some x) (h2:Sy.look s.env r=some y):Res1 P fn N s (.tuple #[v,x,y]):=fun av bor w0 a w ok=>by
 have h3:=ok.env t v h
 have h4:=ok.env u x h'
 have h5:=ok.env r y h2
 simp [results,hr,h3,h4,h5]
theorem jS (a m:Nat) (hm:0<m) (hm2:m<4611686018427387904):Pu Tryz.prog 224 #[.int .i64 (a:Int),.int .i64 (m:Int)] (fun _=>True) (.int .i64 ((a%m:Nat):Int)):=by
 refine ak (args:=[_,_]) _ Tryz.func224 rfl Tryz.ntmps224 rfl fun av bor w0=>?_
 have hr:Eqq ((a:Int).tmod (m:Int)) ((a%m:Nat):Int):=iX a m
 repeat' (first|refine eZ (hb:=by omega) (hc:=hr) ?_|refine gs ?_|(refine gp ?_ ?_<;>intro hx_ this)|fail)
 · exfalso;omega
 · apply ad;apply ag;rfl;rfl
   rfl
theorem rj (a b x1 x0 y1 y0:Nat) (ha:a<2305843009213693952) (hb:b<2305843009213693952) (h1:a/2 ^ 31=x1) (h0:a%2 ^ 31=x0) (g1:b/2 ^ 31=y1) (g0:b%2 ^ 31=y0) (hm:x1*y1<1152921504606846976) (hp:x1*y0<4611686018427387904) (hq:x0*y1<4611686018427387904) (hr:x0*y0<4611686018427387904) :
  Pu Tryz.prog 223 #[.int .i64 (a:Int),.int .i64 (b:Int)] (fun _=>True) (.tuple #[.int .u64 ((x1*y1:Nat):Int),.int .u64 ((x1*y0+x0*y1:Nat):Int),.int .u64 ((x0*y0:Nat):Int)]):=by
 refine ak (args:=[_,_]) _ Tryz.func223 rfl Tryz.ntmps223 rfl fun av bor w0=>?_
 repeat' (first|refine SrG.sy_toU_g (hq:=by omega) (h:=?_)|refine oV 31 x1 (hm:=by omega) (h:=?_)|refine oV 31 y1 (hm:=by omega) (h:=?_)|refine oX 31 x0 (hm:=by omega) (h:=?_)|refine oX 31 y0 (hm:=by omega) (h:=?_)|refine uK (hq:=by omega) ?_|refine uN (hq:=by omega) ?_|refine gs ?_|(refine gp ?_ ?_<;>intro hx_ this)|fail)
 exact ad (EZ rfl rfl rfl rfl) rfl
theorem mulR {x y x1 x0 y1 y0:Nat} (h1:x/2 ^ 31=x1) (h0:x%2 ^ 31=x0) (g1:y/2 ^ 31=y1) (g0:y%2 ^ 31=y0) :
  x*y%2305843009213693951=(2*(x1*y1)+(x1*y0+x0*y1)/2 ^ 30+(x1*y0+x0*y1)%2 ^ 30*2 ^ 31+x0*y0)%2305843009213693951:=by
 have hx:x=x1*2147483648+x0:=by omega
 have hy:y=y1*2147483648+y0:=by omega
 have e:x*y=x1*y1*4611686018427387904+(x1*y0+x0*y1)*2147483648+x0*y0:=by
  rw [hx,hy,Nat.add_mul,Nat.mul_add,Nat.mul_add,Nat.mul_mul_mul_comm,Nat.mul_right_comm x1 _ y0,←Nat.mul_assoc x0,Nat.add_mul (x1*y0)]
  omega
 rw [e]
 generalize x1*y1=H
 generalize x1*y0+x0*y1=M
 generalize x0*y0=L
 have:H*4611686018427387904+M*2147483648+L=(2*H+M/2 ^ 30+M%2 ^ 30*2 ^ 31+L)+2305843009213693951*(2*H+M/2 ^ 30):=by omega
 rw [this,Nat.add_mul_mod_self_left]
theorem jR (a b:Nat):Pu Tryz.prog 151 #[.int .i64 (a:Int),.int .i64 (b:Int)] (fun _=>True) (.int .i64 ((a*b%2305843009213693951:Nat):Int)):=by
 refine ak (args:=[_,_]) _ Tryz.func151 rfl Tryz.ntmps151 rfl fun av bor w0=>?_
 have c1:=jS a 2305843009213693951 (by decide) (by decide)
 have c2:=jS b 2305843009213693951 (by decide) (by decide)
 have hx:=Nat.mod_lt a (show 0<2305843009213693951 by decide)
 have hy:=Nat.mod_lt b (show 0<2305843009213693951 by decide)
 have hab:a*b%2305843009213693951=(a%2305843009213693951)*(b%2305843009213693951)%2305843009213693951:=Nat.mul_mod a b _
 rw [hab]
 generalize a%2305843009213693951=x at *
 generalize b%2305843009213693951=y at *
 obtain ⟨x1,h1⟩:∃ x1,x/2 ^ 31=x1:=⟨_,rfl⟩
 obtain ⟨x0,h0⟩:∃ x0,x%2 ^ 31=x0:=⟨_,rfl⟩
 obtain ⟨y1,g1⟩:∃ y1,y/2 ^ 31=y1:=⟨_,rfl⟩
 obtain ⟨y0,g0⟩:∃ y0,y%2 ^ 31=y0:=⟨_,rfl⟩
 have b1:x1≤1073741823:=by omega
 have b0:x0≤2147483647:=by omega
 have d1:y1≤1073741823:=by omega
 have d0:y0≤2147483647:=by omega
 have m1:x1*y1≤1073741823*1073741823:=Nat.mul_le_mul b1 d1
 have m2:x1*y0≤1073741823*2147483647:=Nat.mul_le_mul b1 d0
 have m3:x0*y1≤2147483647*1073741823:=Nat.mul_le_mul b0 d1
 have m4:x0*y0≤2147483647*2147483647:=Nat.mul_le_mul b0 d0
 have c3:=rj x y x1 x0 y1 y0 aa aa h1 h0 g1 g0 aa aa aa aa
 rw [mulR h1 h0 g1 g0]
 generalize x1*y1=H at *
 generalize hM:x1*y0+x0*y1=M at *
 have hM2:M≤1073741823*2147483647+2147483647*1073741823:=by omega
 generalize x0*y0=L at *
 obtain ⟨p,hp⟩:∃ p,M/2 ^ 30=p:=⟨_,rfl⟩
 obtain ⟨q,hq⟩:∃ q,M%2 ^ 30=q:=⟨_,rfl⟩
 obtain ⟨r,hr⟩:∃ r,q*2 ^ 31=r:=⟨_,rfl⟩
 rw [hp,hq,hr]
 have hrm:Eqq (((2*H+p+r+L:Nat):Int).tmod 2305843009213693951) (((2*H+p+r+L)%2305843009213693951:Nat):Int):=iX (2*H+p+r+L) 2305843009213693951
 have hz:=Nat.mod_lt (2*H+p+r+L) (show 0<2305843009213693951 by decide)
 repeat' (first|refine SrG.sy_toI_g (hq:=by omega) (h:=?_)|refine oV 30 p (hm:=by omega) (h:=?_)|refine oX 30 q (hm:=by omega) (h:=?_)|refine Cq 31 r (hm:=by omega) (h:=?_)|refine uK (p:=2) (hq:=by omega) ?_|refine uN (hq:=by omega) ?_|refine eZ (hb:=by decide) (hc:=hrm) ?_|(refine ab (hc:=c1) (hX:=fun w h=>h) ?_)|(refine ab (hc:=c2) (hX:=fun w h=>h) ?_)|(refine ab (hc:=c3) (hX:=fun w h=>h) ?_)|refine gs ?_|(refine gp ?_ ?_<;>intro hx_ this)|fail)
 apply ad;apply ag;rfl;rfl
 rfl
end Rf4
namespace Rf4
theorem quo2 (a:Nat) (ha:a<9223372036854775808):IntKind.i64.wrap ((a:Int).tdiv 2)=((a/2:Nat):Int):=by
 rw [show (2:Int)=((2:Nat):Int) from rfl,Int.tdiv_eq_ediv_of_nonneg aa,←Int.natCast_ediv]
 exact IntWalk.i64_in _ aa
structure ExS (a e:Nat) where
 x:Nat
 b:Nat
 f:Nat
 hx:x<2305843009213693951
 hf:f≤e
 inv:x*b ^ f%2305843009213693951=a ^ e%2305843009213693951
theorem Ac (b h M:Nat):(b*b%M) ^ h%M=b ^ (h+h)%M:=by
 rw [←Nat.pow_mod,Nat.mul_pow,←Nat.pow_add]
theorem Dj {x b f M:Nat} (h:f%2=1):(x*b%M)*(b*b%M) ^ (f/2)%M=x*b ^ f%M:=by
 have hf:f=1+(f/2+f/2):=by omega
 conv=>rhs;rw [hf,Nat.pow_add,Nat.pow_one,←Nat.mul_assoc]
 rw [Nat.mul_mod (x*b%M),Nat.mod_mod,Ac,←Nat.mul_mod]
theorem AS {x b f M:Nat} (h:¬ f%2=1):x*(b*b%M) ^ (f/2)%M=x*b ^ f%M:=by
 have hf:f=f/2+f/2:=by omega
 conv=>rhs;rw [hf]
 rw [Nat.mul_mod,Ac,←Nat.mul_mod]
theorem wX (a e:Nat) (he:e<9223372036854775808):Pu Tryz.prog 152 #[.int .i64 (a:Int),.int .i64 (e:Int)] (fun _=>True) (.int .i64 ((a ^ e%2305843009213693951:Nat):Int)):=by
 refine ak (args:=[_,_]) _ Tryz.func152 rfl Tryz.ntmps152 rfl fun av bor w0=>?_
 have c1:=jS a 2305843009213693951 (by decide) (by decide)
 repeat' (first|(refine ab (hc:=c1) (hX:=fun w h=>h) ?_)|refine gs ?_|(refine gp ?_ ?_<;>intro hx_ this)|fail)
 · exfalso;omega
 · refine ap (ι:=ExS a e) (fun i=>⟨[(1,.int .i64 (i.f:Nat)),(5,.int .i64 (i.x:Nat)),(6,.int .i64 (i.b:Nat))],[],fun _=>True⟩) (fun i=>i.f) ⟨1,a%2305843009213693951,e,by decide,Qq _,by rw [Nat.one_mul,←Nat.pow_mod]⟩ (aj ⟨rfl,rfl,rfl,trivial⟩ (ZR _) fun _ h=>h) fun i=>?_
   obtain ⟨x,b,f,hx,hf,inv⟩:=i
   simp only
   have hm1:=jR x b
   have hm2:=jR b b
   have hr:Eqq ((f:Int).tmod 2) ((f%2:Nat):Int):=iX f 2
   have hq:Eqq (IntKind.i64.wrap ((f:Int).tdiv 2)) ((f/2:Nat):Int):=quo2 f aa
   repeat' (first|refine eZ (hb:=by decide) (hc:=hr) ?_|refine iu (hb:=by decide) (hc:=hq) ?_|(refine ab (hc:=hm1) (hX:=fun w h=>h) ?_)|(refine ab (hc:=hm2) (hX:=fun w h=>h) ?_)|refine gs ?_|(refine gp ?_ ?_<;>intro hx_ this)|fail)
   · have hc:f%2=1:=by
      have:=aM hx_
      omega
     exact ⟨(⟨x*b%2305843009213693951,b*b%2305843009213693951,f/2,Nat.mod_lt _ (by decide),by omega,(Dj hc).trans inv⟩:ExS a e),(by show f/2<f;omega),aj ⟨rfl,rfl,rfl,trivial⟩ (ZR _) fun _ h=>h⟩
   · have hc:¬ f%2=1:=by
      have:=aY hx_
      omega
     exact ⟨(⟨x,b*b%2305843009213693951,f/2,hx,by omega,(AS hc).trans inv⟩:ExS a e),(by show f/2<f;omega),aj ⟨rfl,rfl,rfl,trivial⟩ (ZR _) fun _ h=>h⟩
   · have hk:f=0:=by omega
     apply ad;apply ag;rfl;rfl
     rw [←inv,hk,Nat.pow_zero,Nat.mul_one,Z0 hx]
end Rf4
namespace Rf4
theorem jm:∀ f x:Nat,x<2 ^ f→x<2 ^ Lib.bitLenAux f x
 | 0,x,h=>h
 | f+1,x,h=>by
  rw [Lib.bitLenAux]
  split
  · rename_i h0
    rw [h0]
    decide
  · have h1:=jm f (x/2) (by rw [Nat.pow_succ] at h;omega)
    rw [Nat.pow_add]
    omega
theorem rV (a e:Nat):∀ i,(expF a e i).1=a ^ (e%2 ^ i)%2305843009213693951∧(expF a e i).2=a ^ 2 ^ i%2305843009213693951
 | 0=>by
  refine ⟨?_,?_⟩
  · show 1=_
    rw [Nat.pow_zero,Nat.mod_one,Nat.pow_zero]
  · show a%_=_
    rw [Nat.pow_zero,Nat.pow_one]
 | i+1=>by
  obtain ⟨h1,h2⟩:=rV a e i
  refine ⟨?_,?_⟩
  · show (bif decide (e/2 ^ i%2=1) then (expF a e i).1*(expF a e i).2%2305843009213693951 else (expF a e i).1)=_
    rw [Nat.mod_pow_succ,h1,h2]
    by_cases h:e/2 ^ i%2=1
    · rw [ZA h,ZC,h,Nat.mul_one,Nat.pow_add,←Nat.mul_mod]
    · have h0:e/2 ^ i%2=0:=by omega
      rw [Zn h,ZB,h0,Nat.mul_zero,Qk]
  · show (expF a e i).2*(expF a e i).2%2305843009213693951=_
    rw [h2,←Nat.mul_mod,←Nat.pow_add,Nat.pow_succ,Nat.mul_two]
theorem Bd (a e:Nat) (he:e<9223372036854775808):expV a e=a ^ e%2305843009213693951:=by
 have h:e<2 ^ Lib.bitLen e:=jm 64 e aa
 rw [expV,(rV a e _).1,Z0 h]
theorem mt (a e:Nat) (he:e<9223372036854775808):Pu Tryz.prog 152 #[.int .i64 (a:Int),.int .i64 (e:Int)] (fun _=>True) (.int .i64 (expV a e:Nat)):=by
 rw [Bd a e he]
 exact wX a e he
def numS (s:ByteArray) (k:Nat):Nat:=bif decide (k=8) then numN (nl s) else numF (nl s) k
theorem pB {s:ByteArray} {k:Nat} (h:k<8):numS s k=numF (nl s) k:=by rw [numS,Zn aa,ZB]
theorem jG {n:Nat} (h:n<9223372036854775808):IntKind.i64.wrap (n:Int)=(n:Int):=IntWalk.i64_in _ aa
theorem stepA {s:ByteArray} {k:Nat} (h:k<7) {b:Int} (hb:b=(((nl s).getD k 0:Nat):Int)):IntKind.i64.wrap (IntKind.i64.wrap (256*((numS s k:Nat):Int))+b)=((numS s (k+1):Nat):Int):=by
 have h1:=numF7 s (show k<8 by omega)
 have h2:=numF7 s (show k+1<8 by omega)
 rw [pB aa,pB aa,hb]
 rw [numF] at h2 ⊢
 generalize numF (nl s) k=x at *
 generalize (nl s).getD k 0=y at *
 rw [show (256:Int)*(x:Int)=((256*x:Nat):Int) by omega,jG aa,←Int.natCast_add,jG (by omega)]
 omega
theorem stepB {s:ByteArray} {b:Int} (hb:b=(((nl s).getD 7 0:Nat):Int)):IntKind.i64.wrap (IntKind.i64.wrap (32*((numS s 7:Nat):Int))+IntKind.i64.wrap (b.tdiv 8))=((numS s 8:Nat):Int):=by
 have h1:=numF7 s (show 7<8 by omega)
 have h2:=fD (jj s) 7
 have e8:numS s 8=(numF (nl s) 7*256+(nl s).getD 7 0)/8:=rfl
 rw [e8,pB aa,hb]
 generalize numF (nl s) 7=x at *
 generalize (nl s).getD 7 0=y at *
 rw [show (32:Int)*(x:Int)=((32*x:Nat):Int) by omega,jG aa,show ((y:Int)).tdiv 8=((y/8:Nat):Int) by rw [Int.tdiv_eq_ediv_of_nonneg (by omega)];omega,jG aa,←Int.natCast_add,jG (by omega)]
 omega
theorem byteIn {s:ByteArray} {k:Nat} (h:k<s.size):IntKind.i64.wrap (byteAt s (k:Int).toNat)=(((nl s).getD k 0:Nat):Int):=by
 have h2:=fD (jj s) k
 rw [show ((k:Int)).toNat=k from rfl,pW s _ h,jG (by omega)]
theorem byteOut {s:ByteArray} {k:Nat} (h:s.size≤k):(0:Int)=(((nl s).getD k 0:Nat):Int):=by
 rw [ZL,List.getElem?_eq_none (by rw [dp];exact h),Option.getD_none]
 rfl
theorem rk (s:ByteArray):Pu Tryz.prog 222 #[.string s] (fun _=>True) (.int .i64 (numN (nl s):Nat)):=by
 refine ak (args:=[_]) _ Tryz.func222 rfl Tryz.ntmps222 rfl fun av bor w0=>?_
 repeat' (first|refine gs ?_|(refine gp ?_ ?_<;>intro hx_ this)|fail)
 refine ap (ι:=Kth 8) (fun i=>⟨[(0,.string s),(3,.int .i64 ((numS s i.k:Nat):Int)),(4,.int .i64 i.k)],[],fun _=>True⟩) (fun i=>8-i.k) ⟨0,Nat.zero_le _⟩ (aj ⟨rfl,rfl,rfl,trivial⟩ (al _) fun _ h=>h) fun i=>?_
 have hik:=i.hk
 repeat' (first|refine iu (hb:=by decide) (hc:=rfl) ?_|refine gs ?_|(refine gp ?_ ?_<;>intro hx_ this)|fail)
 · exact ⟨⟨i.k+1,by omega⟩,(by show 8-(i.k+1)<8-i.k;omega),aj ⟨rfl,congrArg (fun z=>some (Value.int IntKind.i64 z)) (stepA aa (byteIn aa)),rfl,trivial⟩ (al _) fun _ h=>h⟩
 · have e7:i.k=7:=by omega
   obtain ⟨k,hk⟩:=i
   simp only at e7
   subst e7
   have hE:=@stepB s _ (byteIn (k:=7) aa)
   exact ⟨⟨8,by omega⟩,(by show 8-8<8-7;omega),aj ⟨rfl,congrArg (fun z=>some (Value.int IntKind.i64 z)) hE,rfl,trivial⟩ (al _) fun _ h=>h⟩
 · exact ⟨⟨i.k+1,by omega⟩,(by show 8-(i.k+1)<8-i.k;omega),aj ⟨rfl,congrArg (fun z=>some (Value.int IntKind.i64 z)) (stepA aa (byteOut aa)),rfl,trivial⟩ (al _) fun _ h=>h⟩
 · have e7:i.k=7:=by omega
   obtain ⟨k,hk⟩:=i
   simp only at e7
   subst e7
   have hE:=@stepB s _ (byteOut (k:=7) aa)
   exact ⟨⟨8,by omega⟩,(by show 8-8<8-7;omega),aj ⟨rfl,congrArg (fun z=>some (Value.int IntKind.i64 z)) hE,rfl,trivial⟩ (al _) fun _ h=>h⟩
 · have h8:i.k=8:=by omega
   apply ad;apply ag;rfl;rfl
   rw [h8]
   rfl
end Rf4
end Go.Proofs.YtoefdofbekihdaaGreatDoor
