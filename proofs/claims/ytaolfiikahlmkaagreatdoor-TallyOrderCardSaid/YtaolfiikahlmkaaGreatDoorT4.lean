/- Joined. -/
import Derived.Test.YtaolfiikahlmkaaGreatDoorT3
set_option linter.unusedVariables false
set_option linter.unusedSimpArgs false
set_option maxHeartbeats 16000000
namespace Go.Proofs.YtaolfiikahlmkaaGreatDoor
open Go Go.Proofs Sy Tryz
abbrev postR (s:Xl) (P:List Xd):Xm:=orow 68 11 (.slice s.p s.n s.c) s.n (P.map Xd.cells).flatten
theorem cv:∀ (L:List Xd) (p:Nat) (x:Xd),p<L.length→(L.map Xd.cells).flatten.take (p*11)++x.cells++(L.map Xd.cells).flatten.drop (p*11+11)=((L.set p x).map Xd.cells).flatten
 | [],p,x,h=>absurd h (by simp)
 | c::L,0,x,h=>by
  have h6:c.cells.length=11:=rfl
  rw [List.set_cons_zero,Z1,Z1,Qb,Qb,Nat.zero_mul,ZU,List.take_zero,ZL,List.drop_append,h6,Qw (by omega)]
  rfl
 | c::L,p+1,x,h=>by
  have h6:c.cells.length=11:=rfl
  have ih:=cv L p x (by simpa using h)
  rw [List.set_cons_succ,Z1,Z1,Qb,Qb,←ih,List.take_append,List.drop_append,h6,Qf aa,Qw aa,
   show (p+1)*11-11=p*11 from by omega,show (p+1)*11+11-11=p*11+11 from by omega,ZL,ZC,ZC,ZC]
theorem cL {P:List Xd} {i j:Nat} {x y:Xd} (hi:P[i]?=some x) (hj:P[j]?=some y):((P.set i y).set j x).Perm P:=by
 obtain ⟨h1,rfl⟩:=QL.1 hi
 obtain ⟨h2,rfl⟩:=QL.1 hj
 exact List.set_set_perm h1 h2
namespace Sy
section
variable {N:Nat} {av bor:List Nat} {w0:World} {st:St} {ty:TypeId} {x y:Operand} {E:Env} {loc:List Xm} {X:World→Prop} {ops:Array Oper} {kk:St→Prop} {pos:String} {af:Array Edge} {g:Option (Nat×Bool)} {rest:List Oper} {bb want:Bool}
theorem br {A:Option Addr} {m c i:Nat} {P:List Xd} {p:Xd} (hx:ev st.env x=some (elP A (i*11))) (hm:orow 68 11 (.slice A m c) m (P.map Xd.cells).flatten∈st.loc) (hn:m=P.length) (hi:P[i]?=some p) :
  Yields prog N av bor w0 st (.load 68 x) ty p.v:=gb (xs:=P.map Xd.cells) (cs:=p.cells) hx hm (by simp [hn]) (cells11 P) (by simp [hi])
theorem bV {d:Option Tmp} {loc':List Xm} {A:Option Addr} {m c i:Nat} {P:List Xd} {p:Xd} (hx:ev E x=some (elP A (i*11)):=by rfl) (hy:ev E y=some p.v:=by rfl) (hi:i<m:=by omega) (hn:m=P.length)
  (hA:At (orow 68 11 (.slice A m c) m (P.map Xd.cells).flatten) (orow 68 11 (.slice A m c) m ((P.set i p).map Xd.cells).flatten) loc loc':=by (repeat (first|exact At.here _|apply At.there))) (hg:gdB ops E g=some (bb,want):=by rfl) (hb:bb=want:=by exact ar) (hd:inB N d=true:=by rfl)
  (h:Sw prog N av bor w0 ops rest ⟨putE E d undef,loc',X⟩ kk):Sw prog N av bor w0 ops (⟨d,.store 68 x y,ty,pos,af,g⟩::rest) ⟨E,loc,X⟩ kk :=
 mq (i:=i) (size:=11) (vs:=p.cells) ac hx hy rfl rfl rfl hi (cv P i p aa) hA hg hb hd h
variable {n:Nat} {t t2:TypeId}
theorem dA [hI:Xt prog t .i64] {p q:Nat} (h:Sw prog N av bor w0 ops rest ⟨(n,.int .i64 ((p+q:Nat):Int))::E,loc,X⟩ kk) (hx:ev E x=some (.int .i64 (p:Nat)):=by rfl) (hy:ev E y=some (.int .i64 (q:Nat)):=by rfl) (hq:p+q<9223372036854775808) (hg:gdB ops E g=some (bb,want):=by rfl) (hbb:bb=want:=by exact ar) (hd:Nat.blt n N=true:=by rfl) :
  Sw prog N av bor w0 ops (⟨some n,.binOp .add t x y t2,ty,pos,af,g⟩::rest) ⟨E,loc,X⟩ kk:=d6 (c:=((p+q:Nat):Int)) hx hy (by rw [←Int.natCast_add];exact IntWalk.i64_in _ aa) hg hbb hd h
theorem eA [hI:Xt prog t .i64] {p q:Nat} (h:Sw prog N av bor w0 ops rest ⟨(n,.int .i64 ((p-q:Nat):Int))::E,loc,X⟩ kk) (hx:ev E x=some (.int .i64 (p:Nat)):=by rfl) (hy:ev E y=some (.int .i64 (q:Nat)):=by rfl) (hq:q≤p∧p<9223372036854775808) (hg:gdB ops E g=some (bb,want):=by rfl) (hbb:bb=want:=by exact ar) (hd:Nat.blt n N=true:=by rfl) :
  Sw prog N av bor w0 ops (⟨some n,.binOp .sub t x y t2,ty,pos,af,g⟩::rest) ⟨E,loc,X⟩ kk:=gg (c:=((p-q:Nat):Int)) hx hy (by rw [show (p:Int)-(q:Int)=((p-q:Nat):Int) by omega];exact IntWalk.i64_in _ aa) hg hbb hd h
end
end Sy
def PermAt (s:Xl) (P:List Xd) (u:Value) (R:List Xm) (X:World→Prop):Prop:=u=.tuple #[]∧∃ Q:List Xd,Q.Perm P∧R=[postR s Q]
structure PermI (P:List Xd) (n:Nat) where
 k:Nat
 hk:k≤n
 Q:List Xd
 hQ:Q.Perm P
theorem bL (s:Xl) (P:List Xd) (a b n:Nat) (fv:Value) (hs:s.n=P.length) (hm:s.n≤1000000) (ha:a+n≤s.n) (hb:b+n≤s.n) :
  Ct prog 292 #[s.v,.int .i64 (a:Nat),.int .i64 (b:Nat),.int .i64 (n:Nat),fv] [postR s P] (fun _=>True) (PermAt s P):=by
 refine cF func292 ntmps292 fun av bor w0=>?_
 refine bP (r:=postR s P) am (p:=0<s.n→s.p.isSome=true) (fun w h hn=>bF h hn) fun hp=>?_
 repeat' (first|refine gs ?_|fail)
 refine ao (ι:=PermI P n) (fun i=>⟨[(0,s.v),(1,.int .i64 (a:Nat)),(2,.int .i64 (b:Nat)),(3,.int .i64 (n:Nat)),(10,.int .i64 (i.k:Nat))],[postR s i.Q],fun _=>True⟩) (fun i=>n-i.k) ⟨0,Z4 _,P,Qn _⟩ (ai al (aj _) fun _ h=>h) fun i=>?_
 obtain ⟨k,hk,Q,hQ⟩:=i
 simp only
 have hl:=hQ.length_eq
 repeat' (first|refine gs ?_|(refine gp ?_ ?_<;>intro hx_ this)|fail)
 · have hlt:k<n:=by omega
   have hp':=hp aa
   obtain ⟨x,hx⟩:∃ x,Q[a+k]?=some x:=⟨_,Zb aa⟩
   obtain ⟨y,hy⟩:∃ y,Q[b+k]?=some y:=⟨_,Zb aa⟩
   (refine aq ⟨[0,1,2,3,4,5,6,7,8,9,10,11,12,14,15,16,17,18],[(13,⟨[],[(19,⟨[20],[(21,⟨[22],[(23,⟨[],[]⟩)]⟩)]⟩)]⟩),(19,⟨[],[(13,⟨[20],[(21,⟨[22],[(23,⟨[],[]⟩)]⟩)]⟩)]⟩)]⟩ [] (fun _=>True) (h:=?_))
   all_goals repeat' (first|refine gd ?_|refine ax (hy:=by first|(apply ay (q:=(a+k)*11);rfl;rfl;omega;omega;assumption;(rfl))|(apply ay (q:=(b+k)*11);rfl;rfl;omega;omega;assumption;(rfl))) ?_|refine aA ?_ (h':=?_)|exact aB|(refine ak (br (i:=a+k) (P:=Q) rfl am aa hx) rfl rfl rfl ?_)|(refine ak (br (i:=b+k) (P:=Q) rfl am aa hy) rfl rfl rfl ?_)|((refine bV (i:=a+k) (p:=y) rfl rfl aa (by first|omega|(simp only [Z9];omega)) (At.here _) rfl ar rfl ?_))|((refine bV (i:=b+k) (p:=x) rfl rfl aa (by (simp only [Z9];omega)) (At.here _) rfl ar rfl ?_))|fail)
   all_goals
    repeat' (first|refine gs ?_|fail)
    exact ⟨(⟨k+1,hlt,(Q.set (a+k) y).set (b+k) x,(cL hx hy).trans hQ⟩:PermI P n),(by show n-(k+1)<n-k;omega),ai al (aj _) fun _ h=>h⟩
 · exact aN (aF rfl) ⟨rfl,Q,hQ,rfl⟩
section
variable {N:Nat} {av bor:List Nat} {w0:World} {ops:Array Oper} {rest:List Oper} {k:St→Prop} {E:Env} {X:World→Prop} {d:Option Tmp} {ty:TypeId} {pos:String} {af:Array Edge} {g:Option (Nat×Bool)} {bb want:Bool}
theorem bS {x:Operand} {xs:List Operand} {ats:Array TypeId} {f:FuncId} {args:List Value} {s:Xl} {Q:List Xd}
  (hx:ev E x=some (.func (.func f) #[] #[]):=by rfl) (ha:evs E xs=some args:=by rfl) (hg:gdB ops E g=some (bb,want):=by rfl) (hb:bb=want:=by exact ar) (hd:inB N d=true:=by rfl) (hf:Xc prog f:=by infer_instance)
  (hc:Ct prog f args.toArray [postR s Q] (fun _=>True) (PermAt s Q))
  (h:∀ Q':List Xd,Q'.Perm Q→Sw prog N av bor w0 ops rest ⟨putE E d (.tuple #[]),[postR s Q'],X⟩ k) :
  Sw prog N av bor w0 ops (⟨d,.call ⟨.value x,xs.toArray,ats⟩,ty,pos,af,g⟩::rest) ⟨E,[postR s Q],X⟩ k :=
 bN (pre:=[postR s Q]) (fr:=[]) (first:=#[]) (caps:=#[]) (Post:=PermAt s Q) hx ha rfl hg hb hd hf (by simpa using hc) (fun _ _=>trivial) fun u R X' ⟨h1,Q',h2,h3⟩=>by
  subst h1
  subst h3
  refine iq (fun a w ok=>?_) (h Q' h2)
  exact ok.via fun M G=>G.imp fun _ h=>h.1
end
structure RotI (P:List Xd) (p q:Nat) where
 i:Nat
 j:Nat
 h1:1≤i
 h2:i≤p
 h3:1≤j
 h4:j≤q
 Q:List Xd
 hQ:Q.Perm P
theorem eJ (s:Xl) (P:List Xd) (a m b:Nat) (fv:Value) (hs:s.n=P.length) (hm:s.n≤1000000) (ha:a<m) (hb:m<b) (hbs:b≤s.n) :
  Ct prog 268 #[s.v,.int .i64 (a:Nat),.int .i64 (m:Nat),.int .i64 (b:Nat),fv] [postR s P] (fun _=>True) (PermAt s P):=by
 refine cF func268 ntmps268 fun av bor w0=>?_
 repeat' (first|refine eA (hq:=by omega) ?_|refine gs ?_|fail)
 refine ao (ι:=RotI P (m-a) (b-m)) (fun r=>⟨[(0,s.v),(2,.int .i64 (m:Nat)),(4,fv),(10,.int .i64 (r.i:Nat)),(11,.int .i64 (r.j:Nat))],[postR s r.Q],fun _=>True⟩) (fun r=>r.i+r.j) ⟨m-a,b-m,by omega,by omega,by omega,by omega,P,Qn _⟩ (ai al (aj _) fun _ h=>h) fun r=>?_
 obtain ⟨i,j,h1,h2,h3,h4,Q,hQ⟩:=r
 simp only
 have hl:=hQ.length_eq
 by_cases hij:i=j
 · repeat' (first|refine eX ?_|refine eA (hq:=by omega) ?_|refine gs ?_|(refine bS (hc:=bL s Q (m-i) m i fv aa hm aa aa) (h:=fun Q2 hQ2=>?_))|fail)
   exact aN (aF rfl) ⟨rfl,Q2,hQ2.trans hQ,rfl⟩
 · repeat' (first|refine eA (hq:=by omega) ?_|refine dA (hq:=by omega) ?_|refine gs ?_|(refine bS (hc:=bL s Q (m-i) m j fv aa hm aa aa) (h:=fun Q2 hQ2=>?_))|(refine bS (hc:=bL s Q (m-i) (m+j-i) i fv aa hm aa aa) (h:=fun Q2 hQ2=>?_))|(refine gp ?_ ?_<;>intro hx_ this)|fail)
   · exact ⟨(⟨i-j,j,by omega,by omega,h3,h4,Q2,hQ2.trans hQ⟩:RotI P (m-a) (b-m)),(by show i-j+j<i+j;omega),ai al (aj _) fun _ h=>h⟩
   · exact ⟨(⟨i,j-i,h1,h2,by omega,by omega,Q2,hQ2.trans hQ⟩:RotI P (m-a) (b-m)),(by show i+(j-i)<i+j;omega),ai al (aj _) fun _ h=>h⟩
   · have h9:(i:Int)=(j:Int):=by simpa using hx_
     exact absurd (show i=j by omega) hij
def cmpB (x y:ByteArray):Int:=bif Op.bytesLess x.toList y.toList then -1 else bif !(Op.bytesLess x.toList y.toList||seqB x y) then 1 else 0
theorem A9 (x:ByteArray):Pu prog 142 #[.string x] (fun _=>True) (.bool false):=by
 refine aw func142 ntmps142 fun av bor w0=>?_
 have h:=cG x
 repeat' (first|refine gs ?_|fail)
 apply ab;apply ae;rfl;rfl
 rw [h]
 rfl
theorem ul (x y:ByteArray):Pu prog 84 #[.string x,.string y] (fun _=>True) (.int .i64 (cmpB x y)):=by
 refine aw func84 ntmps84 fun av bor w0=>?_
 repeat' (first|refine ag (hc:=A9 _) ?_|refine gs ?_|(refine uU ?_)|(refine uV ?_)|(refine gp ?_ ?_<;>intro hx_ this)|fail)
 (all_goals (apply ab;apply ae;rfl;rfl));all_goals first|(simp only [cmpB, *,Zt,Zr,Zf,Ze,Zh,Zg,Zk,Zj,Zn,Zl,Zs,Zm,Zq,Zi];done)|(simp_all [cmpB];done)
theorem dj (x y:Xd):Pu prog 83 #[x.v,y.v] (fun _=>True) (.int .i64 (cmpB x.id y.id)):=by
 refine aw func83 ntmps83 fun av bor w0=>?_
 have h:=ul x.id y.id
 generalize cmpB x.id y.id=k at *
 repeat' (first|(refine ag (hc:=h) ?_)|refine gs ?_|refine gs1 fun _=>?_|fail)
 exact ab (ae rfl rfl) rfl
def cmpF:Value:=.func (.func 83) #[] #[]
end Go.Proofs.YtaolfiikahlmkaaGreatDoor
namespace Go.Proofs.YtaolfiikahlmkaaGreatDoor
open Go Go.Proofs Sy Tryz
instance:Eg prog 176 3 (keyD Int):=⟨ac⟩
instance:Eg prog 124 3 (keyD ByteArray):=⟨ac⟩
structure RegI (c:Xb) where
 k:Nat
 hk:k≤c.actsL.length
 P:List Xd
 hP:P.map Xd.can=openF c k
 hz:∀ p∈P,p.ed=⟨none,0,0⟩∧p.edL=[]
 pl:List (ByteArray×Value)
 hpl:∀ d,mget pl d=(idxV (c.actsL.take k) d).map fun (j:Nat)=>Value.int .i64 (j:Int)
 num:List (Int×Value)
 hnum:∀ j:Nat,mget num (j:Int)=(posP P j).map fun (n:Nat)=>Value.int .i64 (n:Int)
 n:Nat
 hn:n=P.length
 xs:List Value
 hxs:xs=(P.map Xd.cells).flatten
 A:Option Addr
 cp:Nat
def RegI.s {c:Xb} (r:RegI c):Xl:=⟨r.A,r.n,r.cp⟩
def regC (c:Xb) (u:Value) (q1 q2:Nat):List Value:=c.cells++[u,.map (some q1),.map (some q2)]
def RegAt (c:Xb) (u:Value) (R:List Xm) (X:World→Prop):Prop:=∃ (r:RegI c) (b b1 q1 q2:Nat),r.k=c.actsL.length∧u=.pointer (some ⟨b,0,none⟩)∧R=[cel b 178 (regC c r.s.v q1 q2),mapr q2 r.pl,mapr q1 r.num,cel b1 35 c.cells,postR r.s r.P]∧∀ w,X w→∀ p∈r.P,Strs w p.to p.toL
end Go.Proofs.YtaolfiikahlmkaaGreatDoor
namespace Go.Proofs.YtaolfiikahlmkaaGreatDoor
open Go Go.Proofs Sy Tryz
theorem iw:∀ (L:List Xd) (n j:Nat) (p p':Xd) (v:Value),L[n]?=some p→j<11→p'.cells=p.cells.take j++[v]++p.cells.drop (j+1)→(L.map Xd.cells).flatten.take (n*11+j)++[v]++(L.map Xd.cells).flatten.drop (n*11+j+1)=((L.set n p').map Xd.cells).flatten
 | [],n,j,p,p',v,h,_,_=>by simp at h
 | c::L,0,j,p,p',v,h,hj,hc=>by
  have h6:c.cells.length=11:=rfl
  obtain rfl:c=p:=by simpa using h
  rw [List.set_cons_zero,Z1,Z1,Qb,Qb,Nat.zero_mul,ZU,List.take_append_of_le_length aa,List.drop_append_of_le_length aa,hc,ZC,ZC,ZC]
 | c::L,n+1,j,p,p',v,h,hj,hc=>by
  have h6:c.cells.length=11:=rfl
  have ih:=iw L n j p p' v (by simpa using h) hj hc
  rw [List.set_cons_succ,Z1,Z1,Qb,Qb,←ih,List.take_append,List.drop_append,h6,Qf aa,Qw aa,
   show (n+1)*11+j-11=n*11+j from by omega,show (n+1)*11+j+1-11=n*11+j+1 from by omega,ZL,ZC,ZC,ZC]
namespace Sy
section
variable {N:Nat} {av bor:List Nat} {w0:World} {st:St} {ty:TypeId} {x y:Operand} {E:Env} {loc:List Xm} {X:World→Prop} {ops:Array Oper} {kk:St→Prop} {pos:String} {af:Array Edge} {g:Option (Nat×Bool)} {rest:List Oper} {bb want:Bool} {t:TypeId}
theorem jJ {A:Option Addr} {q:Nat} {ad:Addr} (hx:ev st.env x=some (elP A q)) (hp:A=some ad):Yields prog N av bor w0 st (.nilCheck x) ty (elP A q):=by
 subst hp
 exact fm (a:=ad.add q) hx
theorem px {n:Nat} {A:Option Addr} {q:Nat} {ad:Addr} (h:Sw prog N av bor w0 ops rest ⟨(n,elP A q)::E,loc,X⟩ kk) (hx:ev E x=some (elP A q):=by rfl) (hp:A=some ad) (hg:gdB ops E g=some (bb,want):=by rfl) (hbb:bb=want:=by exact ar) (hd:Nat.blt n N=true:=by rfl) :
  Sw prog N av bor w0 ops (⟨some n,.nilCheck x,ty,pos,af,g⟩::rest) ⟨E,loc,X⟩ kk:=ak (jJ hx hp) hg hbb hd h
theorem dZ [h:Xw prog t] {A:Option Addr} {m c i j:Nat} {P:List Xd} {p:Xd} {u:Value} (hx:ev st.env x=some (elP A (i*11+j))) (hm:orow 68 11 (.slice A m c) m (P.map Xd.cells).flatten∈st.loc) (hn:m=P.length) (hi:P[i]?=some p) (hj:p.cells[j]?=some u) :
  Yields prog N av bor w0 st (.load t x) ty u:=Sy.Yields.mk fun B w ok d pos af g=>by
 have hr:=bm (ok.gam.here _ hm).now (by simp [hn]) (cells11 P)
 obtain ⟨h1,hp,hc⟩:=Xf.row hr i p.cells (by simp [hi])
 obtain ⟨a,rfl⟩:=QO.1 hp
 simp [execOp,ok.eval hx,elP,Instr.loadAt,Instr.sureAddr,loadVar,(bO h.out w).1,(hc j u hj).2 a rfl]
theorem Fi {P:Program} {d:Option Tmp} {loc':List Xm} {e size m q c:Nat} {A:Option Addr} {xs xs':List Value} {v:Value} (hsz:(P.info? t).map (·.size)=some 1) (hx:ev E x=some (elP A q):=by rfl) (hy:ev E y=some v:=by rfl) (hv:v.cells.toList=[v]) (h1:v.oneCell'=true:=by rfl) (hq:q<m*size)
  (hxs:xs.take q++[v]++xs.drop (q+1)=xs') (hA:At (orow e size (.slice A m c) m xs) (orow e size (.slice A m c) m xs') loc loc':=by (repeat (first|exact At.here _|apply At.there))) (hg:gdB ops E g=some (bb,want):=by rfl) (hb:bb=want:=by exact ar) (hd:inB N d=true:=by rfl)
  (h:Sw P N av bor w0 ops rest ⟨putE E d undef,loc',X⟩ kk):Sw P N av bor w0 ops (⟨d,.store t x y,ty,pos,af,g⟩::rest) ⟨E,loc,X⟩ kk:=Sw.mk fun a w ok=>by
 have ho:ORow w e size (.slice A m c) m xs:=(ok.gam.here _ hA.mem).now
 rcases ho.2 with ⟨_,h0⟩|⟨b,cap,cur,fz,hs,hb',hnc,hcm,hcs,htake,hfz⟩
 · rw [h0] at hq
   omega
 simp only [Value.slice.injEq] at hs
 obtain ⟨rfl,_,rfl⟩:=hs
 have hm2:m*size≤cur.size:=by rw [hcs];exact QB _ hnc
 have hst:=dO P b q e fz [v] 0 cur w hb' hfz (by simp;omega) (by simpa using h1)
 have hadd:(⟨b,0,none⟩:Addr).add q=⟨b,q,none⟩:=by unfold Addr.add;split<;>simp_all
 simp only [wpList]
 rw [bx ok (o:=⟨d,.store t x y,ty,pos,af,g⟩) hg]
 subst hb
 simp only [Zz,ZN]
 left
 unfold Oper.wp
 have hs:v.cells.size=1:=by have:=congrArg List.length hv;simpa using this
 generalize hnew:(cur.toList.take q++[v]++cur.toList.drop (q+1)).toArray=new at *
 have hr:(execOp a.eval ⟨d,.store t x y,ty,pos,af,g⟩).run P w=.ok .skip (w.setRow b new):=by
  try simp only [ZT,List.length_singleton,hnew] at hst
  simp [execOp,ok.eval (st:=⟨E,loc,X⟩) hx,ok.eval (st:=⟨E,loc,X⟩) hy,elP,hadd,Instr.storeAt,Instr.sureAddr,storeVar,run_sizeOf hsz,hs,hv,hst]
 rw [hr]
 have hsn:new.size=cur.size:=by
  rw [←hnew]
  simpa using ji cur.toList [v] q 1 cur.size rfl aa (by simp)
 have ho':ORow (w.setRow b new) e size (.slice (some ⟨b,0,none⟩) m c) m xs':=by
  refine ⟨by rw [←hxs];exact ji xs [v] q 1 (m*size) rfl aa ho.1,.inr ⟨b,c,new,fz,rfl,Go.setRow_heap w b cur new e fz hb',hnc,hcm,hsn.trans hcs,?_,by rw [hsn];exact hfz⟩⟩
  rw [←hnew,←hxs,←htake]
  exact od cur.toList [v] q 1 (m*size) rfl aa (by simpa using hm2)
 have ok':Ok N av bor w0 ⟨E,loc',X⟩ a (w.setRow b new):=(ok.via fun M G=>G.swap (hA.app M) rfl rfl rfl (by rw [Go.setRow_size];exact ZX _) (fun j _ hj=>Go.setRow_other w b j new (by rintro rfl;exact hj (by simp [orow,Value.ownBlock]))) (by simp [orow,Value.ownBlock]) (fun j hj=>by
  have hj:j=b:=by simpa [orow,Value.ownBlock] using hj
  subst hj
  exact ⟨by rw [Go.setRow_size];exact (QM.1 hb').1,.inl (by simp [orow,Value.ownBlock])⟩) (dH ho'))
 exact h.run _ _ (cO d _▸ok'.put hd _)
theorem u7 {d:Option Tmp} {loc':List Xm} {A:Option Addr} {m c i j:Nat} {P:List Xd} (p':Xd) {p:Xd} {v:Value} (hi:P[i]?=some p) (hj:j<11) (hc:p'.cells=p.cells.take j++[v]++p.cells.drop (j+1)) (hn:m=P.length) (hsz:(prog.info? t).map (·.size)=some 1) (hx:ev E x=some (elP A (i*11+j)):=by rfl) (hy:ev E y=some v:=by rfl) (hv:v.cells.toList=[v]) (h1:v.oneCell'=true:=by rfl)
  (hA:At (orow 68 11 (.slice A m c) m (P.map Xd.cells).flatten) (orow 68 11 (.slice A m c) m ((P.set i p').map Xd.cells).flatten) loc loc':=by (repeat (first|exact At.here _|apply At.there))) (hg:gdB ops E g=some (bb,want):=by rfl) (hb:bb=want:=by exact ar) (hd:inB N d=true:=by rfl)
  (h:Sw prog N av bor w0 ops rest ⟨putE E d undef,loc',X⟩ kk):Sw prog N av bor w0 ops (⟨d,.store t x y,ty,pos,af,g⟩::rest) ⟨E,loc,X⟩ kk:=by
 have hil:=(QL.1 hi).1
 exact Fi hsz hx hy hv h1 aa (iw P i j p p' v hi hj hc) hA hg hb hd h
end
end Sy
end Go.Proofs.YtaolfiikahlmkaaGreatDoor
namespace Go.Proofs.YtaolfiikahlmkaaGreatDoor
open Go Go.Proofs Sy Tryz
section
variable {P:Program} {N:Nat} {av bor:List Nat} {w0:World} {st:St} {ty:TypeId} {x y:Operand} {t t2:TypeId} {k:IntKind}
theorem lr {a b:Int} (v:Bool) (hx:ev st.env x=some (.int k a)) (hy:ev st.env y=some (.int k b)) (hv:decide (a=b)=v):Sy.Yields P N av bor w0 st (.binOp .eql t x y t2) ty (.bool v):=hv▸kp hx hy
theorem k9 {a b:ByteArray} (v:Bool) (hx:ev st.env x=some (.string a)) (hy:ev st.env y=some (.string b)) (hv:seqB a b=v):Sy.Yields P N av bor w0 st (.binOp .eql t x y t2) ty (.bool v):=hv▸jI hx hy
end
def NoteAt (r:Xm) (s:Xl) (P:List Xd) (i:Nat) (p p1:Xd) (u:Value) (R:List Xm) (X:World→Prop):Prop:=u=.tuple #[]∧∃ (p':Xd) (ex:List Xm),p'.can=p1.can∧p'.to=p.to∧p'.toL=p.toL∧R=ex++[r,postR s (P.set i p'),edR p']
theorem eO {P:List Xd} {i:Nat} {p:Xd} (h:P[i]?=some p):P.set i p=P:=by
 obtain ⟨h1,rfl⟩:=QL.1 h
 exact List.set_getElem_self h1
theorem rC {X:World→Prop} (r:Xm) (s:Xl) (P:List Xd) (i:Nat) (p:Xd) (u:Value) (k:Nat) (hs:s.n=P.length) (hi:P[i]?=some p):Ct prog 105 #[u,elP s.p (i*11),.int .i64 (k:Nat)] [r,postR s P,edR p] X (NoteAt r s P i p (goneP p)):=by
 refine cF func105 ntmps105 fun av bor w0=>?_
 have hil:=(QL.1 hi).1
 refine bP (r:=postR s P) (Zv _ am) (p:=0<s.n→s.p.isSome=true) (fun w h hn=>bF h hn) fun hp=>?_
 have hp':=hp aa
 obtain ⟨ad,had⟩:=QO.1 hp'
 repeat' (first|refine gs ?_|(refine px (ad:=ad) (hp:=had) ?_)|(refine dX ?_)|(refine u7 (goneP p) (i:=i) (j:=10) (hi:=hi) (hj:=by decide) (hc:=rfl) (hn:=hs) (hsz:=by kernel_rfl) (hv:=rfl) (h1:=rfl) (hA:=At.there _ (At.here _)) (h:=?_))|fail)
 exact aN (aF rfl) ⟨rfl,goneP p,[],rfl,rfl,rfl,rfl⟩
theorem xY (c:Xb) (s:Xl) (P:List Xd) (i:Nat) (p:Xd) (b q1 q2 k:Nat) (x:Xa) (hs:s.n=P.length) (hi:P[i]?=some p) (hx:c.actsL[k]?=some x) (hk:k≤1000000) (hel:p.ed.n=p.edL.length) (hem:p.ed.n≤1000000) :
  Ct prog 106 #[.pointer (some ⟨b,0,none⟩),elP s.p (i*11),.int .i64 (k:Nat)] [cel b 178 (regC c s.v q1 q2),postR s P,edR p] (fun w=>(c.at_ w∧Xi w)∧Strs w p.to p.toL) (NoteAt (cel b 178 (regC c s.v q1 q2)) s P i p (editP x k p)):=by
 refine cF func106 ntmps106 fun av bor w0=>?_
 have hil:=(QL.1 hi).1
 have hkl:=(QL.1 hx).1
 refine bP (r:=postR s P) (Zv _ am) (p:=0<s.n→s.p.isSome=true) (fun w h hn=>bF h hn) fun hp=>?_
 have hp':=hp aa
 obtain ⟨ad,had⟩:=QO.1 hp'
 refine aR (p:=c.acts.n=c.actsL.length∧(0<c.actsL.length→c.acts.p.isSome=true)) (fun w h=>⟨h.1.1.len_,h.1.1.some_⟩) fun ⟨hl,hpa⟩=>?_
 have hpa':=hpa aa
 have heq:=xV x.to p.to x.toL p.toL
 repeat' (first|refine gs ?_|refine gs1 fun _=>?_|(refine aD (q:=k*20) ?_)|(refine aM (cs:=x.cells) (hF:=fun w h=>Acts.get h.1.1 hx) ?_)|fail)
 rename_i b6
 cases hg:p.gone with
 | true =>
  have h10:p.cells[10]?=some (.bool true):=by rw [←hg];rfl
  have hE:editB x p=false:=by rw [editB,hg];rfl
  (refine aq ⟨[0,1,2,3,4,5,6,7,8,9,10,11,12,13,14,15,16,17,18,19,20,21,22,23,24,25,26,27,28,29],[(30,⟨[31],[]⟩)]⟩ [cel b6 46 x.cells,cel b 178 (regC c s.v q1 q2),postR s P,edR p] (fun w=>(c.at_ w∧Xi w)∧Strs w p.to p.toL) (h:=?_))
  all_goals repeat' (first|refine gd ?_|refine ax (hy:=by first|(apply jJ (ad:=ad);rfl;exact had)|(apply dt;rfl;exact hp';rfl)|(apply dZ (i:=i) (j:=10) (P:=P) (p:=p) (u:=.bool true);rfl;exact Zv _ (Zv _ am);exact hs;exact hi;exact h10)) ?_|refine aA ?_ (h':=?_)|exact aB|fail)
  all_goals
   repeat' (first|refine gs ?_|fail)
   first
    | exact aN (aF rfl) ⟨rfl,p,[cel b6 46 x.cells],by rw [editP,hE];rfl,rfl,rfl,by rw [eO hi];rfl⟩
    | exact ab (aF rfl) ⟨rfl,p,[cel b6 46 x.cells],by rw [editP,hE];rfl,rfl,rfl,by rw [eO hi];rfl⟩
 | false =>
  have h10:p.cells[10]?=some (.bool false):=by rw [←hg];rfl
  by_cases hsc:x.scope=p.scope
  · cases hgr:seqB x.group p.group with
    | false =>
     have hE:editB x p=false:=by rw [editB,hgr,Zk];rfl
     (refine aq ⟨[0,1,2,3,4,5,6,7,8,9,10,11,12,13,14,15,16,17,18,19,20,21,22,23,24,25,26,27,28,29],[(30,⟨[31],[]⟩)]⟩ [cel b6 46 x.cells,cel b 178 (regC c s.v q1 q2),postR s P,edR p] (fun w=>(c.at_ w∧Xi w)∧Strs w p.to p.toL) (h:=?_))
     all_goals repeat' (first|refine ax (hy:=by first|(apply lr true;rfl;rfl;exact Zd hsc)|(apply k9 false;rfl;rfl;exact hgr)) ?_|refine gd ?_|refine ax (hy:=by first|(apply jJ (ad:=ad);rfl;exact had)|(apply dt;rfl;exact hp';rfl)|(apply dZ (i:=i) (j:=10) (P:=P) (p:=p) (u:=.bool false);rfl;exact Zv _ (Zv _ am);exact hs;exact hi;exact h10)|(apply dZ (i:=i) (j:=4) (P:=P) (p:=p) (u:=.int .i64 p.scope);rfl;exact Zv _ (Zv _ am);exact hs;exact hi;exact rfl)|(apply dZ (i:=i) (j:=5) (P:=P) (p:=p) (u:=.string p.group);rfl;exact Zv _ (Zv _ am);exact hs;exact hi;exact rfl)) ?_|refine aA ?_ (h':=?_)|exact aB|fail)
     all_goals
      repeat' (first|refine gs ?_|fail)
      first
       | exact aN (aF rfl) ⟨rfl,p,[cel b6 46 x.cells],by rw [editP,hE];rfl,rfl,rfl,by rw [eO hi];rfl⟩
       | exact ab (aF rfl) ⟨rfl,p,[cel b6 46 x.cells],by rw [editP,hE];rfl,rfl,rfl,by rw [eO hi];rfl⟩
    | true =>
     have hEq:editB x p=eqL x.toL p.toL:=by rw [editB,hg,hgr,Zd hsc];rfl
     cases hE:eqL x.toL p.toL with
     | false =>
      rw [hE] at heq hEq
      have hE:=hEq
      (refine aq ⟨[0,1,2,3,4,5,6,7,8,9,10,11,12,13,14,15,16,17,18,19,20,21,22,23,24,25,26,27,28,29],[(30,⟨[31],[]⟩)]⟩ [cel b6 46 x.cells,cel b 178 (regC c s.v q1 q2),postR s P,edR p] (fun w=>(c.at_ w∧Xi w)∧Strs w p.to p.toL) (h:=?_))
      all_goals repeat' (first|refine ax (hy:=by first|(apply lr true;rfl;rfl;exact Zd hsc)|(apply k9 true;rfl;rfl;exact hgr)) ?_|(refine ag (hc:=heq) (hX:=fun w h=>⟨(h.1.1.2 x (Z6 hx)).1,h.2⟩) ?_)|refine gd ?_|refine ax (hy:=by first|(apply jJ (ad:=ad);rfl;exact had)|(apply dt;rfl;exact hp';rfl)|(apply dZ (i:=i) (j:=10) (P:=P) (p:=p) (u:=.bool false);rfl;exact Zv _ (Zv _ am);exact hs;exact hi;exact h10)|(apply dZ (i:=i) (j:=4) (P:=P) (p:=p) (u:=.int .i64 p.scope);rfl;exact Zv _ (Zv _ am);exact hs;exact hi;exact rfl)|(apply dZ (i:=i) (j:=5) (P:=P) (p:=p) (u:=.string p.group);rfl;exact Zv _ (Zv _ am);exact hs;exact hi;exact rfl)|(apply dZ (i:=i) (j:=6) (P:=P) (p:=p) (u:=p.to.v);rfl;exact Zv _ (Zv _ am);exact hs;exact hi;exact rfl)) ?_|refine aA ?_ (h':=?_)|exact aB|fail)
      all_goals
       repeat' (first|refine gs ?_|fail)
       first
        | exact aN (aF rfl) ⟨rfl,p,[cel b6 46 x.cells],by rw [editP,hE];rfl,rfl,rfl,by rw [eO hi];rfl⟩
        | exact ab (aF rfl) ⟨rfl,p,[cel b6 46 x.cells],by rw [editP,hE];rfl,rfl,rfl,by rw [eO hi];rfl⟩
     | true =>
      rw [hE] at heq hEq
      have hE:=hEq
      (refine aq ⟨[0,1,2,3,4,5,6,7,8,9,10,11,12,13,14,15,16,17,18,19,20,21,22,23,24,25,26,27,28,29],[(30,⟨[31],[]⟩)]⟩ [cel b6 46 x.cells,cel b 178 (regC c s.v q1 q2),postR s P,edR p] (fun w=>(c.at_ w∧Xi w)∧Strs w p.to p.toL) (h:=?_))
      all_goals repeat' (first|refine ax (hy:=by first|(apply lr true;rfl;rfl;exact Zd hsc)|(apply k9 true;rfl;rfl;exact hgr)) ?_|(refine ag (hc:=heq) (hX:=fun w h=>⟨(h.1.1.2 x (Z6 hx)).1,h.2⟩) ?_)|refine gd ?_|refine ax (hy:=by first|(apply jJ (ad:=ad);rfl;exact had)|(apply dt;rfl;exact hp';rfl)|(apply dZ (i:=i) (j:=10) (P:=P) (p:=p) (u:=.bool false);rfl;exact Zv _ (Zv _ am);exact hs;exact hi;exact h10)|(apply dZ (i:=i) (j:=4) (P:=P) (p:=p) (u:=.int .i64 p.scope);rfl;exact Zv _ (Zv _ am);exact hs;exact hi;exact rfl)|(apply dZ (i:=i) (j:=5) (P:=P) (p:=p) (u:=.string p.group);rfl;exact Zv _ (Zv _ am);exact hs;exact hi;exact rfl)|(apply dZ (i:=i) (j:=6) (P:=P) (p:=p) (u:=p.to.v);rfl;exact Zv _ (Zv _ am);exact hs;exact hi;exact rfl)) ?_|refine aA ?_ (h':=?_)|exact aB|fail)
      all_goals
       repeat' (first|refine gs ?_|refine gs1 fun _=>?_|(refine px (ad:=ad) (hp:=had) ?_)|(refine dX ?_)|(refine ak (dZ (i:=i) (j:=9) (P:=P) (p:=p) (u:=p.ed.v) rfl (Zv _ (Zv _ am)) hs hi rfl) rfl rfl rfl ?_)|fail)
       rename_i bn
       refine aJ (size:=1) (news:=[.int .i64 (k:Nat)]) (q:=1) rfl rfl rfl rfl (fun _=>At.there _ (At.there _ (At.there _ (At.there _ (At.here _))))) (fun w G=>bA G am rfl rfl 1) aa (by simp only [maxLen];omega) rfl ?_ rfl ?_
       · (with_reducible rfl)
       intro A2 c2
       repeat' (first|refine gs ?_|(refine px (ad:=ad) (hp:=had) ?_)|(refine dX ?_)|(refine u7 { p with ed:=⟨A2,p.ed.n+1,c2⟩,edL:=p.edL++[(k:Int)] } (i:=i) (j:=9) (hi:=hi) (hj:=by decide) (hc:=rfl) (hn:=hs) (hsz:=by kernel_rfl) (hv:=rfl) (h1:=rfl) (hA:=At.there _ (At.there _ (At.there _ (At.here _)))) (h:=?_))|fail)
       refine aN (aF rfl) ⟨rfl,{ p with ed:=⟨A2,p.ed.n+1,c2⟩,edL:=p.edL++[(k:Int)] },[cel bn 3 [.int .i64 (k:Nat)],cel b6 46 x.cells],by rw [editP,hE];rfl,rfl,rfl,?_⟩
       simp only [edR,ZW,Z1,List.map_nil]
       rfl
  · have hE:editB x p=false:=by rw [editB,Zc hsc,Zk];rfl
    (refine aq ⟨[0,1,2,3,4,5,6,7,8,9,10,11,12,13,14,15,16,17,18,19,20,21,22,23,24,25,26,27,28,29],[(30,⟨[31],[]⟩)]⟩ [cel b6 46 x.cells,cel b 178 (regC c s.v q1 q2),postR s P,edR p] (fun w=>(c.at_ w∧Xi w)∧Strs w p.to p.toL) (h:=?_))
    all_goals repeat' (first|refine ax (hy:=by (apply lr false;rfl;rfl;exact Zc hsc)) ?_|refine gd ?_|refine ax (hy:=by first|(apply jJ (ad:=ad);rfl;exact had)|(apply dt;rfl;exact hp';rfl)|(apply dZ (i:=i) (j:=10) (P:=P) (p:=p) (u:=.bool false);rfl;exact Zv _ (Zv _ am);exact hs;exact hi;exact h10)|(apply dZ (i:=i) (j:=4) (P:=P) (p:=p) (u:=.int .i64 p.scope);rfl;exact Zv _ (Zv _ am);exact hs;exact hi;exact rfl)) ?_|refine aA ?_ (h':=?_)|exact aB|fail)
    all_goals
     repeat' (first|refine gs ?_|fail)
     first
      | exact aN (aF rfl) ⟨rfl,p,[cel b6 46 x.cells],by rw [editP,hE];rfl,rfl,rfl,by rw [eO hi];rfl⟩
      | exact ab (aF rfl) ⟨rfl,p,[cel b6 46 x.cells],by rw [editP,hE];rfl,rfl,rfl,by rw [eO hi];rfl⟩
end Go.Proofs.YtaolfiikahlmkaaGreatDoor
namespace Go.Proofs.YtaolfiikahlmkaaGreatDoor
open Go Go.Proofs Sy Tryz
theorem BD {P:List Xd} {n:Nat} {p:Xd} (h:P[n]?=some p):(P.map edR).Perm (edR p::(P.eraseIdx n).map edR):=by
 obtain ⟨h1,rfl⟩:=QL.1 h
 have e:P=P.take n++P[n]::P.drop (n+1):=by rw [←List.drop_eq_getElem_cons h1,Qs]
 rw [List.eraseIdx_eq_take_drop_succ]
 conv=>lhs;rw [e]
 rw [ZW,Z1,ZW]
 exact List.perm_middle
theorem permA (c m2 m1 po e:Xm) (E:List Xm):([c,m2,m1,po]++(e::E)).Perm ([c,po,e]++([m2,m1]++E)):=by
 have h:=(QR (l₁:=[m2,m1]) (l₂:=[po,e])).append_right E
 simpa using h.cons c
theorem permB (c m2 m1 po:Xm) {P:List Xd} {n:Nat} {p:Xd} (h:P[n]?=some p):([c,m2,m1,po]++P.map edR).Perm ([c,po,edR p]++([m2,m1]++(P.eraseIdx n).map edR)) :=
 ((BD h).append_left _).trans (permA c m2 m1 po (edR p) _)
theorem jz {P:List Xd} {n:Nat} {p:Xd}:(P.set n p).eraseIdx n=P.eraseIdx n:=by
 rw [List.eraseIdx_set_eq]
theorem permC (ex:List Xm) (c m2 m1 po:Xm) {P:List Xd} {n:Nat} {p':Xd} (h:n<P.length):((ex++[c,po,edR p'])++([m2,m1]++(P.eraseIdx n).map edR)).Perm (ex++([c,m2,m1,po]++(P.set n p').map edR)):=by
 have h1:=permB c m2 m1 po (P:=P.set n p') (n:=n) (p:=p') (by simp [h])
 rw [jz] at h1
 rw [ZC]
 exact (h1.symm).append_left ex
section
variable {P:Program} {N:Nat} {av bor:List Nat} {w0:World} {ops:Array Oper} {rest:List Oper} {kk:St→Prop} {E:Env} {loc:List Xm} {X:World→Prop} {x y:Operand} {t t2:TypeId}
variable {n:Nat} {ty:TypeId} {pos:String} {af:Array Edge} {g:Option (Nat×Bool)} {bb want:Bool}
theorem CP {k:IntKind} {a b:Int} [hI:Xt P t k] (h:Sw P N av bor w0 ops rest ⟨(n,.bool true)::E,loc,X⟩ kk) (hx:ev E x=some (.int k a):=by rfl) (hy:ev E y=some (.int k b):=by rfl) (hab:b≤a:=by first|omega|decide) (hg:gdB ops E g=some (bb,want):=by rfl) (hbb:bb=want:=by exact ar) (hd:Nat.blt n N=true:=by rfl) :
  Sw P N av bor w0 ops (⟨some n,.binOp .geq t x y t2,ty,pos,af,g⟩::rest) ⟨E,loc,X⟩ kk:=gj (hx:=hx) (hy:=hy) (hg:=hg) (hbb:=hbb) (hd:=hd) (h:=by
   have e:∀ u,u=Value.bool true→Sw P N av bor w0 ops rest ⟨(n,u)::E,loc,X⟩ kk:=fun u hu=>hu▸h
   exact e _ (by simp [hab]))
end
structure Ec (P Q:List Xd):Prop where
 to:Q.map (fun p=>(p.to,p.toL,p.pos))=P.map fun p=>(p.to,p.toL,p.pos)
theorem wY {α:Type} {P:List α} {i:Nat} {p:α} (h:P[i]?=some p):P.set i p=P:=by
 obtain ⟨h1,rfl⟩:=QL.1 h
 exact List.set_getElem_self h1
def ReferAt (c:Xb) (r m2 m1:Xm) (s:Xl) (P:List Xd) (k:Nat) (g:Xd→Xd) (u:Value) (R:List Xm) (X:World→Prop):Prop:=u=.tuple #[]∧∃ (Q:List Xd) (ex:List Xm),Q.map Xd.can=modP (P.map Xd.can) (refV c.actsL P k) g∧Ec P Q∧R=ex++([r,m2,m1,postR s Q]++Q.map edR)
theorem rE (c:Xb) (s:Xl) (P:List Xd) (b q1 q2 k nf:Nat) (hnf:Xc prog nf) (pl:List (ByteArray×Value)) (num:List (Int×Value)) (x:Xa) (g:Xd→Xd) (hs:s.n=P.length) (hx:c.actsL[k]?=some x) (hkm:k≤1000000)
  (hpl:∀ d,mget pl d=(idxV c.actsL d).map fun (j:Nat)=>Value.int .i64 (j:Int)) (hnum:∀ j:Nat,mget num (j:Int)=(posP P j).map fun (n:Nat)=>Value.int .i64 (n:Int)) (hcl:c.actsL.length≤1000000) (hPm:P.length≤1000000)
  (hg:∀ p,(g p).can=g p.can) (hgp:∀ p,(g p).pos=p.pos)
  (hnote:∀ n p,P[n]?=some p→Ct prog nf #[.pointer (some ⟨b,0,none⟩),elP s.p (n*11),.int .i64 (k:Nat)] [cel b 178 (regC c s.v q1 q2),postR s P,edR p] (fun w=>(c.at_ w∧Xi w)∧Strs w p.to p.toL) (NoteAt (cel b 178 (regC c s.v q1 q2)) s P n p (g p))) :
  Ct prog 104 #[.pointer (some ⟨b,0,none⟩),.int .i64 (k:Nat),.func (.func nf) #[.pointer (some ⟨b,0,none⟩)] #[]] ([cel b 178 (regC c s.v q1 q2),mapr q2 pl,mapr q1 num,postR s P]++P.map edR) (fun w=>(c.at_ w∧Xi w)∧∀ p∈P,Strs w p.to p.toL)
   (ReferAt c (cel b 178 (regC c s.v q1 q2)) (mapr q2 pl) (mapr q1 num) s P k g):=by
 refine cF func104 ntmps104 fun av bor w0=>?_
 have hkl:=(QL.1 hx).1
 refine bP (r:=postR s P) (by simp) (p:=0<s.n→s.p.isSome=true) (fun w h hn=>bF h hn) fun hp=>?_
 refine aR (p:=c.acts.n=c.actsL.length∧(0<c.actsL.length→c.acts.p.isSome=true)) (fun w h=>⟨h.1.1.len_,h.1.1.some_⟩) fun ⟨hl,hpa⟩=>?_
 have hpa':=hpa aa
 have hxD:c.actsL.getD k Xa.zero=x:=by rw [Zo,hx];rfl
 have hlk:=hpl x.object
 have hM0:∀ {o},refV c.actsL P k=o→o=none→P.map Xd.can=modP (P.map Xd.can) (refV c.actsL P k) g:=fun {o} h1 h2=>by rw [h1,h2];rfl
 simp only [ZK,ZL]
 cases hj:idxV c.actsL x.object with
 | none =>
  rw [hj] at hlk
  have hR:refV c.actsL P k=none:=by rw [refV,hxD,hj]
  repeat apply QS
  (refine aq ⟨[0,1,2,3,4,5,6,7,8,9,10,11,12],[(13,⟨[14,15,16,17,18],[]⟩)]⟩ [cel b 178 (regC c s.v q1 q2)] (fun w=>(c.at_ w∧Xi w)∧∀ p∈P,Strs w p.to p.toL) (h:=?_))
  all_goals repeat' (first|refine gd ?_|refine ax (hy:=by first|(apply ay (q:=k*20);rfl;rfl;omega;omega;assumption;(rfl))|(apply dt;rfl;exact hpa';rfl)|(apply dl (q:=k*20+5) (u:=.string x.object);rfl;exact (fun w h=>(Acts.get h.1.1 hx).2.2 5 _ rfl))) ?_|refine aA ?_ (h':=?_)|exact aB|(refine bZ (κ:=ByteArray) (kk:=x.object) (b:=false) (v:=.int .i64 0) (hl:=cU (Zv _ am)) (ho:=hlk) ?_)|fail)
  all_goals
   repeat' (first|refine gs ?_|fail)
   first
    | exact ab (aF rfl) ⟨rfl,P,[],hM0 hR rfl,⟨rfl⟩,rfl⟩
    | exact aN (aF rfl) ⟨rfl,P,[],hM0 hR rfl,⟨rfl⟩,rfl⟩
 | some j =>
  rw [hj] at hlk
  have hjl:=p9 hj
  by_cases hjk:j<k
  · have hlk2:=hnum j
    cases hn:posP P j with
    | none =>
     rw [hn] at hlk2
     have hR:refV c.actsL P k=none:=by
      rw [refV,hxD,hj]
      simp only [Zd hjk,Zf,hn]
     repeat apply QS
     (refine aq ⟨[0,1,2,3,4,5,6,7,8,9,10,11,12],[(13,⟨[14,15,16,17,18],[]⟩)]⟩ [cel b 178 (regC c s.v q1 q2)] (fun w=>(c.at_ w∧Xi w)∧∀ p∈P,Strs w p.to p.toL) (h:=?_))
     all_goals repeat' (first|refine gd ?_|refine ax (hy:=by first|(apply ay (q:=k*20);rfl;rfl;omega;omega;assumption;(rfl))|(apply dt;rfl;exact hpa';rfl)|(apply dl (q:=k*20+5) (u:=.string x.object);rfl;exact (fun w h=>(Acts.get h.1.1 hx).2.2 5 _ rfl))) ?_|refine aA ?_ (h':=?_)|exact aB|(refine bZ (κ:=ByteArray) (kk:=x.object) (b:=true) (v:=.int .i64 (j:Nat)) (hl:=cU (Zv _ am)) (ho:=hlk) ?_)|fail)
     all_goals
      repeat' (first|refine pB ?_|refine gs ?_|(refine bZ (κ:=Int) (kk:=(j:Int)) (b:=false) (v:=.int .i64 0) (hl:=cU (Zv _ (Zv _ am))) (ho:=hlk2) ?_)|fail)
      first
       | exact ab (aF rfl) ⟨rfl,P,[],hM0 hR rfl,⟨rfl⟩,rfl⟩
       | exact aN (aF rfl) ⟨rfl,P,[],hM0 hR rfl,⟨rfl⟩,rfl⟩
    | some n =>
     rw [hn] at hlk2
     have hnl:=Dk hn
     obtain ⟨p,hpn⟩:∃ p,P[n]?=some p:=⟨_,Zb hnl⟩
     have hp':=hp aa
     have hR:refV c.actsL P k=some n:=by
      rw [refV,hxD,hj]
      simp only [Zd hjk,Zf,hn]
     have hpm:=Z6 hpn
     have hno:=hnote n p hpn
     repeat apply QS
     (refine aq ⟨[0,1,2,3,4,5,6,7,8,9,10,11,12],[(13,⟨[14,15,16,17,18],[]⟩)]⟩ [cel b 178 (regC c s.v q1 q2)] (fun w=>(c.at_ w∧Xi w)∧∀ p∈P,Strs w p.to p.toL) (h:=?_))
     all_goals repeat' (first|refine gd ?_|refine ax (hy:=by first|(apply ay (q:=k*20);rfl;rfl;omega;omega;assumption;(rfl))|(apply dt;rfl;exact hpa';rfl)|(apply dl (q:=k*20+5) (u:=.string x.object);rfl;exact (fun w h=>(Acts.get h.1.1 hx).2.2 5 _ rfl))) ?_|refine aA ?_ (h':=?_)|exact aB|(refine bZ (κ:=ByteArray) (kk:=x.object) (b:=true) (v:=.int .i64 (j:Nat)) (hl:=cU (Zv _ am)) (ho:=hlk) ?_)|fail)
     all_goals
      repeat' (first|refine pB ?_|refine gs ?_|(refine bZ (κ:=Int) (kk:=(j:Int)) (b:=true) (v:=.int .i64 (n:Nat)) (hl:=cU (Zv _ (Zv _ am))) (ho:=hlk2) ?_)|(refine aD (q:=n*11) ?_)|fail)
      refine cJ (permB _ _ _ _ hpn) ?_
      refine bN (first:=#[.pointer (some ⟨b,0,none⟩)]) (caps:=#[]) (pre:=[cel b 178 (regC c s.v q1 q2),postR s P,edR p]) (fr:=[mapr q2 pl,mapr q1 num]++(P.eraseIdx n).map edR) (hc:=hno) (hX:=fun w h=>⟨h.1,h.2 p hpm⟩) (h:=?_)
      rintro _ _ X' ⟨rfl,p',ex,hcan,hto,htl,rfl⟩
      refine cJ (permC ex _ _ _ _ hnl) ?_
      repeat' (first|refine gs ?_|fail)
      have hpos:p'.pos=p.pos:=(congrArg Xd.pos hcan).trans (hgp p)
      refine aN (aF rfl) ⟨rfl,P.set n p',ex,?_,⟨?_⟩,rfl⟩
      · rw [hR]
        show (P.set n p').map Xd.can=(P.map Xd.can).set n (g ((P.map Xd.can).getD n Xd.zero))
        rw [List.map_set,xO,Zo,hpn,Qe,←hg p,hcan]
      · rw [List.map_set,hto,htl,hpos]
        exact wY (by simp [hpn])
  · have hR:refV c.actsL P k=none:=by
     rw [refV,hxD,hj]
     simp only [Zc hjk,Ze]
    repeat apply QS
    (refine aq ⟨[0,1,2,3,4,5,6,7,8,9,10,11,12],[(13,⟨[14,15,16,17,18],[]⟩)]⟩ [cel b 178 (regC c s.v q1 q2)] (fun w=>(c.at_ w∧Xi w)∧∀ p∈P,Strs w p.to p.toL) (h:=?_))
    all_goals repeat' (first|refine gd ?_|refine ax (hy:=by first|(apply ay (q:=k*20);rfl;rfl;omega;omega;assumption;(rfl))|(apply dt;rfl;exact hpa';rfl)|(apply dl (q:=k*20+5) (u:=.string x.object);rfl;exact (fun w h=>(Acts.get h.1.1 hx).2.2 5 _ rfl))) ?_|refine aA ?_ (h':=?_)|exact aB|(refine bZ (κ:=ByteArray) (kk:=x.object) (b:=true) (v:=.int .i64 (j:Nat)) (hl:=cU (Zv _ am)) (ho:=hlk) ?_)|fail)
    all_goals
     repeat' (first|refine CP ?_|refine gs ?_|fail)
     first
      | exact ab (aF rfl) ⟨rfl,P,[],hM0 hR rfl,⟨rfl⟩,rfl⟩
      | exact aN (aF rfl) ⟨rfl,P,[],hM0 hR rfl,⟨rfl⟩,rfl⟩
theorem Dn (c:Xb) (hc:Xx c.actsL) (hcl:c.actsL.length≤1000000):Ct prog 103 #[c.v] [] (fun w=>c.at_ w∧Xi w) (RegAt c):=by
  refine cF func103 ntmps103 fun av bor w0=>?_
  refine aR (p:=c.acts.n=c.actsL.length∧c.acts.n≤maxLen∧(0<c.actsL.length→c.acts.p.isSome=true)) (fun w h=>⟨h.1.len_,h.1.max_,h.1.some_⟩) fun ⟨hl,hm,hp⟩=>?_
  simp only [maxLen] at hm
  refine cD 68 11 ?_
  repeat' (first|apply aH|apply QS|apply QT|refine aO ?_|refine be ?_|refine cr fun _=>?_|fail)
  refine d7 Int (h:=fun q1=>?_)
  refine d7 ByteArray (h:=fun q2=>?_)
  repeat' (first|apply aH|apply QS|apply QT|refine aZ ?_|refine aO ?_|refine bC ?_|refine bQ ?_|refine iy ?_|refine cr fun _=>?_|apply QU|(refine aK (cs:=regC c (.slice none 0 0) q1 q2) (hf:=by rfl) ?_)|fail)
  rename_i b1 b
  refine ao (ι:=RegI c) (fun r=>⟨[(1,.pointer (some ⟨b1,0,none⟩)),(3,.pointer (some ⟨b,0,none⟩)),(15,c.acts.v),(16,.int .i64 (c.acts.n:Nat)),(17,.int .i64 (r.k:Nat))],[cel b 178 (regC c (.slice r.A r.n r.cp) q1 q2),mapr q2 r.pl,mapr q1 r.num,cel b1 35 c.cells,orow 68 11 (.slice r.A r.n r.cp) r.n r.xs],fun w=>(c.at_ w∧Xi w)∧∀ p∈r.P,Strs w p.to p.toL⟩) (fun r=>c.actsL.length-r.k)
    ⟨0,Z4 _,[],rfl,(fun p hp=>(Qk hp).elim),[],(fun d=>rfl),[],(fun j=>rfl),0,rfl,[],rfl,none,0⟩ (ai al (aj _) fun w h=>⟨h,fun p hp=>(Qk hp).elim⟩) fun r=>?_
  obtain ⟨k,hk,P,hP,hz,pl,hpl,num,hnum,n,hn,xs,hxs,A,cp⟩:=r
  simp only [RegI.s]
  have hPl:P.length≤k:=by
    have h1:=j0 c k
    rw [←hP,ZF] at h1
    exact h1
  repeat' (first|apply aH|apply QS|apply QT|refine aZ ?_|refine aO ?_|refine eG ?_|apply QV|apply QU|apply bY|apply il|(refine dD (ht:=?_) (hf:=?_);all_goals (intro hx_;first|have:=bz hx_|have:=co hx_)))
  · have hlt:k<c.actsL.length:=by omega
    have hp':=hp aa
    obtain ⟨x,hx⟩:∃ x,c.actsL[k]?=some x:=⟨_,Zb hlt⟩
    have hxm:x∈c.actsL:=Z6 hx
    have hxD:c.actsL.getD k Xa.zero=x:=by rw [Zo,hx];rfl
    have hpo:=mH x.kind
    have hlk:=hpl (digV x)
    have hpos:∀ p∈P,p.pos<k:=fun p hp=>by
      have h1:=oz c k p.can (by rw [←hP];exact List.mem_map_of_mem hp)
      exact h1
    have hidx:=xK hx
    have hcl2:=oW x.to (strs x.toL) (hc.sm x hxm).to (wR _)
    have hpl2n:idxV (c.actsL.take k) (digV x)=none→∀ d,mget (mput pl (digV x) (Value.int .i64 (k:Int))) d=(idxV (c.actsL.take (k+1)) d).map fun (j:Nat)=>Value.int .i64 (j:Int):=fun hj d=>by
      rw [gu,hidx d,eqbB]
      cases hs:seqB d (digV x) with
      | true =>
        obtain rfl:=seqB_iff.1 hs
        rw [hj,hs]
        rfl
      | false =>
        rw [om (digV x) d,hs,hpl d]
        cases idxV (c.actsL.take k) d<;>rfl
    have hpl2s:∀ j,idxV (c.actsL.take k) (digV x)=some j→∀ d,mget pl d=(idxV (c.actsL.take (k+1)) d).map fun (j:Nat)=>Value.int .i64 (j:Int):=fun j hj d=>by
      rw [hidx d,hpl d]
      cases hs:seqB (digV x) d with
      | true =>
        obtain rfl:=seqB_iff.1 hs
        rw [hj]
        rfl
      | false=>cases idxV (c.actsL.take k) d<;>rfl
    repeat' (first|apply aH|apply QS|apply QT|refine aO ?_|refine be ?_|refine bc fun _=>?_|refine aP ?_|(refine aD (q:=k*20) ?_)|(refine aM (cs:=x.cells) (hF:=fun w h=>Acts.get h.1.1 hx) ?_)|fail)
    rename_i b5
    refine cd (hc:=jo x (hc.rng x hxm) (hc.sm x hxm)) (hX:=fun w h=>h.1.1.2 x hxm) fun v1 X1 h1=>?_
    obtain ⟨x',rfl,hdig,hr',hat⟩:=h1
    refine ag (hc:=ik x' hr') (hX:=fun w h=>⟨hat w h.2,h.1.1.2⟩) ?_
    rw [hdig]
    cases hpk:postK x.kind with
    | false =>
      rw [hpk] at hpo
      have hP2:P.map Xd.can=openF c (k+1):=by rw [openF,hxD,hpk,Ze,ZJ];exact hP
      cases hj:idxV (c.actsL.take k) (digV x) with
      | none =>
        rw [hj] at hlk
        repeat' (first|apply aH|apply QS|apply QT|refine aZ ?_|refine aO ?_|refine d9 ?_|refine bC ?_|refine bQ ?_|refine gi ?_|refine d5 ?_|refine d6 (h:=?_)|refine QW ?_|refine QX ?_|apply QV|(refine bZ (κ:=ByteArray) (kk:=digV x) (b:=false) (v:=.int .i64 0) (hl:=cU aQ) (ho:=hlk) ?_)|(refine dp (κ:=ByteArray) (kk:=digV x) (v:=.int .i64 (k:Nat)) ?_)|(refine ag (hc:=hpo) ?_)|fail)
        exact ⟨(⟨k+1,hlt,P,hP2,hz,_,hpl2n hj,num,hnum,n,hn,xs,hxs,A,cp⟩:RegI c),(by show c.actsL.length-(k+1)<c.actsL.length-k;omega),ai al (Z2 _ (aj _)) fun w h=>h.1⟩
      | some j =>
        rw [hj] at hlk
        repeat' (first|apply aH|apply QS|apply QT|refine aZ ?_|refine aO ?_|refine d9 ?_|refine bC ?_|refine bQ ?_|refine gi ?_|refine d5 ?_|refine d6 (h:=?_)|refine QX ?_|apply QV|(refine bZ (κ:=ByteArray) (kk:=digV x) (b:=true) (v:=.int .i64 (j:Nat)) (hl:=cU aQ) (ho:=hlk) ?_)|(refine ag (hc:=hpo) ?_)|fail)
        exact ⟨(⟨k+1,hlt,P,hP2,hz,_,hpl2s j hj,num,hnum,n,hn,xs,hxs,A,cp⟩:RegI c),(by show c.actsL.length-(k+1)<c.actsL.length-k;omega),ai al (Z2 _ (aj _)) fun w h=>h.1⟩
    | true =>
      rw [hpk] at hpo
      obtain ⟨p,hpd⟩:∃ p:Xl→Xd,p=fun s2=>⟨digV x,c.id,k,x.kind,x.scope,x.group,s2,x.object,x.time,⟨none,0,0⟩,false,x.toL,[]⟩:=⟨_,rfl⟩
      have hP2:∀ s2,(P++[p s2]).map Xd.can=openF c (k+1):=fun s2=>by
        rw [openF,hxD,hpk,Zf,ZW,hP,hpd]
        rfl
      have hz2:∀ s2,∀ q∈P++[p s2],q.ed=⟨none,0,0⟩∧q.edL=[]:=fun s2 q hq=>by
        rcases Qy.1 hq with hq|hq
        · exact hz q hq
        · rw [Z5] at hq
          subst hq
          rw [hpd]
          exact ⟨rfl,rfl⟩
      have hnum2:∀ s2,∀ j:Nat,mget (mput num (k:Int) (Value.int .i64 (n:Int))) (j:Int)=(posP (P++[p s2]) j).map fun (n:Nat)=>Value.int .i64 (n:Int):=fun s2 j=>by
        rw [gu,rM,eqbI,hnum j,hn]
        have e1:(p s2).pos=k:=by rw [hpd]
        rw [e1]
        by_cases hjk:j=k
        · subst hjk
          rw [xq (fun q hq=>Nat.ne_of_lt (hpos q hq)),Zd rfl,Zz]
          rfl
        · rw [Zc aa,show (k==j)=false from by simpa using fun e=>hjk e.symm,Ze,Ze,Option.or_none]
      rcases hj:idxV (c.actsL.take k) (digV x) with _|j
      all_goals rw [hj] at hlk
      all_goals first
        | (have hpl2:=hpl2n hj
           repeat' (first|apply aH|apply QS|apply QT|refine aZ ?_|refine aO ?_|refine d9 ?_|refine bC ?_|refine bQ ?_|refine gi ?_|refine d5 ?_|refine QW ?_|(refine bZ (κ:=ByteArray) (kk:=digV x) (b:=false) (v:=.int .i64 0) (hl:=cU aQ) (ho:=hlk) ?_)|(refine dp (κ:=ByteArray) (kk:=digV x) (v:=.int .i64 (k:Nat)) ?_)|(refine ag (hc:=hpo) ?_)|fail))
        | (have hpl2:=hpl2s j hj
           repeat' (first|apply aH|apply QS|apply QT|refine aZ ?_|refine aO ?_|refine d9 ?_|refine bC ?_|refine bQ ?_|refine gi ?_|refine d5 ?_|refine QW ?_|refine QX ?_|apply QV|(refine bZ (κ:=ByteArray) (kk:=digV x) (b:=true) (v:=.int .i64 (j:Nat)) (hl:=cU aQ) (ho:=hlk) ?_)|(refine ag (hc:=hpo) ?_)|fail))
      all_goals
        (refine jC [cel b 178 (regC c (.slice A n cp) q1 q2)] (fun w=>((c.at_ w∧Xi w)∧∀ p∈P,Strs w p.to p.toL)∧X1 w) ac ?_)
        all_goals refine bp 0 ?_<;>refine bp 1 ?_<;>refine bp 2 ?_<;>refine bp 3 ?_<;>refine bp 4 ?_<;>refine bp 5 ?_<;>refine bp 6 ?_<;>refine bp 7 ?_<;>refine bp 8 ?_<;>refine bp 9 ?_<;>(refine cQ 10 ?_;(refine dp (κ:=Int) (kk:=(k:Int)) (v:=.int .i64 (n:Nat)) ?_);apply aH;refine dT ?_)<;>(refine fC (h:=?_))
        all_goals
          repeat' (first|apply aH|fail)
          (refine jC [cel b5 46 x.cells,cel b1 35 c.cells] (fun w=>((c.at_ w∧Xi w)∧∀ p∈P,Strs w p.to p.toL)∧X1 w) ac ?_)
          all_goals refine bp 0 ?_<;>refine bp 1 ?_<;>refine bp 2 ?_<;>refine bp 3 ?_<;>refine bp 5 ?_<;>refine bp 6 ?_<;>refine bp 7 ?_<;>refine bp 8 ?_<;>refine bp 9 ?_<;>refine bp 10 ?_<;>refine bp 11 ?_<;>refine bp 12 ?_<;>refine bp 13 ?_<;>refine bp 14 ?_<;>refine bp 15 ?_<;>refine bp 16 ?_<;>refine bp 18 ?_<;>refine bp 19 ?_<;>refine bp 20 ?_<;>refine bp 21 ?_<;>(refine qp 4 17 (h:=?_) (h':=?_);(focus (((refine bQ ?_);apply aH;refine dT ?_);all_goals ((refine cQ 17 ?_;(refine cd (hc:=hcl2) (hX:=fun w h=>(h.1.1.1.2 x hxm).1) fun v2 X2 h2=>?_;obtain ⟨s2,rfl,hn2,hw2⟩:=h2);apply aH;refine dT ?_);all_goals (refine bp 22 (hy:=by (apply dv (cs:=Xd.cells (⟨digV x,c.id,k,x.kind,x.scope,x.group,s2,x.object,x.time,⟨none,0,0⟩,false,x.toL,[]⟩:Xd));rfl;rfl)) ?_);all_goals (refine cQ 23 ?_;(refine cA (size:=11) (vs:=[.agg (Xd.cells (⟨digV x,c.id,k,x.kind,x.scope,x.group,s2,x.object,x.time,⟨none,0,0⟩,false,x.toL,[]⟩:Xd)).toArray]) (css:=Xd.cells (⟨digV x,c.id,k,x.kind,x.scope,x.group,s2,x.object,x.time,⟨none,0,0⟩,false,x.toL,[]⟩:Xd)) (hsz:=by rfl) (hcs:=by rfl) fun _=>?_);apply aH;refine dT ?_);all_goals (refine cQ 24 ?_;(refine aJ (size:=11) (news:=Xd.cells (⟨digV x,c.id,k,x.kind,x.scope,x.group,s2,x.object,x.time,⟨none,0,0⟩,false,x.toL,[]⟩:Xd)) (q:=1) rfl rfl rfl rfl (fun _=>At.there _ (At.there _ (At.there _ (At.there _ (At.there _ (At.there _ (At.here _))))))) (fun w G=>bA G am rfl rfl 1) aa (by simp only [maxLen];omega) rfl ?_ rfl ?_;(with_reducible rfl);intro A2 c2);apply aH;refine dT ?_);all_goals (refine bp 25 ?_);all_goals (refine bp 26 ?_);all_goals (refine cQ 27 ?_;(refine bX ?_);apply aH;refine dT ?_);all_goals (refine fC (h:=?_)))));rotate_right;(focus (((refine cd (hc:=hcl2) (hX:=fun w h=>(h.1.1.1.2 x hxm).1) fun v2 X2 h2=>?_;obtain ⟨s2,rfl,hn2,hw2⟩:=h2);apply aH;refine dT ?_);all_goals ((refine bp 22 (hy:=by (apply dv (cs:=Xd.cells (⟨digV x,c.id,k,x.kind,x.scope,x.group,s2,x.object,x.time,⟨none,0,0⟩,false,x.toL,[]⟩:Xd));rfl;rfl)) ?_);all_goals (refine qp 4 23 (h:=?_) (h':=?_);(focus (((refine bQ ?_);apply aH;refine dT ?_);all_goals ((refine cQ 23 ?_;(refine cA (size:=11) (vs:=[.agg (Xd.cells (⟨digV x,c.id,k,x.kind,x.scope,x.group,s2,x.object,x.time,⟨none,0,0⟩,false,x.toL,[]⟩:Xd)).toArray]) (css:=Xd.cells (⟨digV x,c.id,k,x.kind,x.scope,x.group,s2,x.object,x.time,⟨none,0,0⟩,false,x.toL,[]⟩:Xd)) (hsz:=by rfl) (hcs:=by rfl) fun _=>?_);apply aH;refine dT ?_);all_goals (refine cQ 24 ?_;(refine aJ (size:=11) (news:=Xd.cells (⟨digV x,c.id,k,x.kind,x.scope,x.group,s2,x.object,x.time,⟨none,0,0⟩,false,x.toL,[]⟩:Xd)) (q:=1) rfl rfl rfl rfl (fun _=>At.there _ (At.there _ (At.there _ (At.there _ (At.there _ (At.there _ (At.here _))))))) (fun w G=>bA G am rfl rfl 1) aa (by simp only [maxLen];omega) rfl ?_ rfl ?_;(with_reducible rfl);intro A2 c2);apply aH;refine dT ?_);all_goals (refine bp 25 ?_);all_goals (refine bp 26 ?_);all_goals (refine cQ 27 ?_;(refine bX ?_);apply aH;refine dT ?_);all_goals (refine fC (h:=?_)))));rotate_right;(focus (((refine cA (size:=11) (vs:=[.agg (Xd.cells (⟨digV x,c.id,k,x.kind,x.scope,x.group,s2,x.object,x.time,⟨none,0,0⟩,false,x.toL,[]⟩:Xd)).toArray]) (css:=Xd.cells (⟨digV x,c.id,k,x.kind,x.scope,x.group,s2,x.object,x.time,⟨none,0,0⟩,false,x.toL,[]⟩:Xd)) (hsz:=by rfl) (hcs:=by rfl) fun _=>?_);apply aH;refine dT ?_);all_goals ((refine cQ 4 ?_;(refine bQ ?_);apply aH;refine dT ?_);all_goals (refine cQ 24 ?_;(refine aJ (size:=11) (news:=Xd.cells (⟨digV x,c.id,k,x.kind,x.scope,x.group,s2,x.object,x.time,⟨none,0,0⟩,false,x.toL,[]⟩:Xd)) (q:=1) rfl rfl rfl rfl (fun _=>At.there _ (At.there _ (At.there _ (At.there _ (At.there _ (At.there _ (At.here _))))))) (fun w G=>bA G am rfl rfl 1) aa (by simp only [maxLen];omega) rfl ?_ rfl ?_;(with_reducible rfl);intro A2 c2);apply aH;refine dT ?_);all_goals (refine bp 25 ?_);all_goals (refine bp 26 ?_);all_goals (refine cQ 27 ?_;(refine bX ?_);apply aH;refine dT ?_);all_goals (refine fC (h:=?_))))))))))
          all_goals
            repeat' (first|apply aH|apply QT|refine aZ ?_|refine d6 (h:=?_)|fail)
            exact ⟨(⟨k+1,hlt,P++[p s2],hP2 s2,hz2 s2,_,hpl2,_,hnum2 s2,n+1,by rw [ZA,hn];rfl,xs++Xd.cells (⟨digV x,c.id,k,x.kind,x.scope,x.group,s2,x.object,x.time,⟨none,0,0⟩,false,x.toL,[]⟩:Xd),by rw [hxs,ZW,List.flatten_append,Z1,List.map_nil,Qb,List.flatten_nil,ZJ,hpd],A2,c2⟩:RegI c),(by show c.actsL.length-(k+1)<c.actsL.length-k;omega),
              ai al (Z2 _ (Z2 _ (aj _))) fun w h=>⟨h.1.1.1,fun q hq=>(Qy.1 hq).elim (h.1.1.2 q) fun e=>by
                rw [Z5] at e
                subst e
                rw [hpd]
                exact hw2 w h.2⟩⟩
  · subst hn hxs
    have hkE:k=c.actsL.length:=by omega
    exact ab (ae rfl rfl) ⟨⟨k,hk,P,hP,hz,pl,hpl,num,hnum,_,rfl,_,rfl,A,cp⟩,b,b1,q1,q2,hkE,rfl,rfl,fun w h=>h.2⟩
end Go.Proofs.YtaolfiikahlmkaaGreatDoor
namespace Go.Proofs.YtaolfiikahlmkaaGreatDoor
open Go Go.Proofs Sy Tryz
section
variable {P:Program} {N:Nat} {av bor:List Nat} {w0:World} {E:Env} {loc:List Xm} {X:World→Prop} {K:Exit→St→Prop} {c:Code}
theorem vE {w:World}:∀ (P:List Xd),(∀ p∈P,p.ed=⟨none,0,0⟩∧p.edL=[])→Xr av bor w0 loc X w→Xr av bor w0 (P.map edR++loc) X w
 | [],_,G=>G
 | p::P,h,G=>by
  have h1:=h p am
  have e:edR p=orow 3 1 (.slice none 0 0) 0 []:=by rw [edR,h1.1,h1.2];rfl
  rw [Z1,e]
  exact (vE P (fun q hq=>h q (Zv _ hq)) G).nilRow _ _
theorem F2 (L:List Xd) (hz:∀ p∈L,p.ed=⟨none,0,0⟩∧p.edL=[]) (h:Cw P N av bor w0 c ⟨E,L.map edR++loc,X⟩ K):Cw P N av bor w0 c ⟨E,loc,X⟩ K:=Cw.mk fun a w ok=>h.run a w (ok.via fun M G=>by
 have:=vE L hz G
 rwa [←ZC] at this)
theorem Em {l:List Xm} (hs:loc.Perm l) (h:Cw P N av bor w0 c ⟨E,l,X⟩ K):Cw P N av bor w0 c ⟨E,loc,X⟩ K:=Cw.mk fun a w ok=>h.run a w (ok.via fun M G=>G.perm (hs.append_right M))
theorem kn {st:St} {ty:TypeId} {fn:Fn} {xs:List Operand} {vs:List Value} (hx:evs st.env xs=some vs):Sy.Yields P N av bor w0 st (.makeFunc fn xs.toArray #[]) ty (.func fn vs.toArray #[]):=Sy.Yields.mk fun A w ok d pos af g=>by
 have e:=fZ (E:=st.env) (loc:=st.loc) (X:=st.ext) ok xs vs hx
 have e1:xs.toArray.map A.eval=vs.toArray:=by rw [List.map_toArray,e]
 simp [execOp,Instr.makeFunc,e1,e]
theorem uk {p:Prop} (hp:∀ w,(∀ r∈loc,r.F w)→p) (h:p→Cw P N av bor w0 c ⟨E,loc,X⟩ K):Cw P N av bor w0 c ⟨E,loc,X⟩ K:=Cw.mk fun a w ok=>(h (hp w fun r hr=>(ok.gam.here r hr).now)).run a w ok
end
theorem Ec.len {P Q:List Xd} (h:Ec P Q):Q.length=P.length:=by have:=congrArg List.length h.to;simpa using this
theorem Ec.trans {P Q R:List Xd} (h:Ec P Q) (k:Ec Q R):Ec P R:=⟨k.to.trans h.to⟩
theorem Ec.pos {P Q:List Xd} (h:Ec P Q) (j:Nat):posP Q j=posP P j:=by
 have e:∀ L:List Xd,posP L j=(L.map fun p=>(p.to,p.toL,p.pos)).findIdx? fun t=>t.2.2==j:=fun L=>by rw [posP,List.findIdx?_map];rfl
 rw [e,e,h.to]
theorem Ec.mem {P Q:List Xd} (h:Ec P Q) {p:Xd} (hp:p∈Q):∃ q∈P,q.to=p.to∧q.toL=p.toL:=by
 have h1:(p.to,p.toL,p.pos)∈Q.map fun p=>(p.to,p.toL,p.pos):=List.mem_map_of_mem (f:=fun p:Xd=>(p.to,p.toL,p.pos)) hp
 rw [h.to] at h1
 obtain ⟨q,hq,e⟩:=QJ.1 h1
 simp only [Prod.mk.injEq] at e
 exact ⟨q,hq,e.1,e.2.1⟩
theorem vu {P:List Xd} {o:Option Nat} {f:Xd→Xd} {m:Nat} (h:∀ p∈P,p.edL.length≤m) (hf:∀ p:Xd,(f p).edL.length≤p.edL.length+1):∀ p∈modP P o f,p.edL.length≤m+1:=fun p hp=>by
 cases o with
 | none=>exact Nat.le_succ_of_le (h p hp)
 | some n =>
  rcases List.mem_or_eq_of_mem_set hp with hp|rfl
  · exact Nat.le_succ_of_le (h p hp)
  · refine ZY (hf _) ?_
    by_cases hn:n<P.length
    · have:=h (P.getD n Xd.zero) (by rw [Zo,Zb hn];exact ZQ hn)
      omega
    · rw [Zo,List.getElem?_eq_none (by omega)]
      exact Nat.succ_le_succ (Z4 m)
theorem rQ (c:Xb):∀ i,∀ p∈openF c i,p.edL=[]
 | 0,p,h=>(Qk h).elim
 | i+1,p,h=>by
  rw [openF] at h
  rcases Qy.1 h with h|h
  · exact rQ c i p h
  · revert h
    cases postK (c.actsL.getD i Xa.zero).kind with
    | true=>intro h;rw [Zf,Z5] at h;subst h;rfl
    | false=>intro h;exact (Qk h).elim
theorem BC (a:Xa) (i:Nat) (p:Xd):(editP a i p).edL.length≤p.edL.length+1:=by
 rw [editP]
 cases editB a p with
 | true=>rw [Zf];show (p.edL++[(i:Int)]).length≤_;rw [ZA];exact ZX _
 | false=>exact Nat.le_succ _
theorem AR (c:Xb):∀ i,∀ p∈ofP c i,p.edL.length≤i
 | 0,p,h=>by rw [rQ c _ p h];exact ZX 0
 | i+1,p,h=>by
  have ih:=AR c i
  rw [ofP,stepP] at h
  revert h
  cases decide ((c.actsL.getD i Xa.zero).kind=13) with
  | true=>exact fun h=>vu (f:=goneP) ih (fun p=>Nat.le_succ _) p h
  | false =>
   cases decide ((c.actsL.getD i Xa.zero).kind=14) with
   | true=>exact fun h=>vu (f:=editP _ _) ih (BC _ _) p h
   | false=>exact fun h=>Nat.le_succ_of_le (ih p h)
theorem xZ (a:Xa) (i:Nat) (p:Xd):(editP a i p).can=editP a i p.can:=by
 have h:editB a p.can=editB a p:=rfl
 rw [editP,editP,h]
 cases editB a p<;>rfl
theorem oU (a:Xa) (i:Nat) (p:Xd):(editP a i p).pos=p.pos:=by
 rw [editP]
 cases editB a p<;>rfl
theorem permD (c m2 m1 b1 po b0:Xm) (M:List Xm):(M++([c,m2,m1,b1,po]++[b0])).Perm ((c::m2::m1::po::M)++[b1,b0]):=by
 have h1:([c,m2,m1,b1,po]++[b0]).Perm ([c,m2,m1,po]++[b1,b0]):=(((List.Perm.swap po b1 [b0]).cons m1).cons m2).cons c
 have h2:=(QR (l₁:=M) (l₂:=[c,m2,m1,b1,po]++[b0])).trans (h1.append_right M)
 rw [ZC] at h2
 exact h2.trans ((QR (l₁:=[b1,b0]) (l₂:=M)).append_left [c,m2,m1,po])
def PostsAt (c:Xb) (u:Value) (X:World→Prop):Prop:=∃ (s:Xl) (P:List Xd),u=s.v∧P.map Xd.can=postsV c∧P.length≤c.actsL.length∧∀ w,X w→Xf w 11 s (P.map Xd.cells)
theorem vv {P:Program} {f:FuncId} {args:Array Value} {X:World→Prop} {Φ Ψ:Value→(World→Prop)→Prop} (h:Mk P f args X Φ) (hp:∀ u X',Φ u X'→Ψ u X'):Mk P f args X Ψ:=by
 unfold Mk at *
 exact Ct.mono h fun v R X' ⟨a,b⟩=>⟨hp _ _ a,b⟩
theorem Be {w:World} {p:Xd} (hl:p.edL.length=p.ed.n) (h:(edR p).F w):Ints w p.ed p.edL:=by
 have h':ORow w 3 1 (.slice p.ed.p p.ed.n p.ed.c) p.ed.n (p.edL.map fun n=>[(.int .i64 n:Value)]).flatten:=by
  have e:(p.edL.map fun n=>[(.int .i64 n:Value)]).flatten=p.edL.map fun n=>(.int .i64 n:Value):=by
   induction p.edL with
   | nil=>rfl
   | cons a l ih=>rw [Z1,Qb,ih];rfl
  rw [e]
  exact h
 exact bm h' (by rw [ZF,hl]) fun r hr=>by
  obtain ⟨n,_,rfl⟩:=QJ.1 hr
  rfl
def PostsAtS (c:Xb) (u:Value) (X:World→Prop):Prop:=∃ (s:Xl) (P:List Xd),u=s.v∧P.map Xd.can=postsV c∧P.length≤c.actsL.length∧∀ w,X w→Xf w 11 s (P.map Xd.cells)∧∀ p∈P,Strs w p.to p.toL∧Ints w p.ed p.edL
theorem PostsAtS.weak {c:Xb} {u:Value} {X:World→Prop} (h:PostsAtS c u X):PostsAt c u X:=by
 obtain ⟨s,P,h1,h2,h3,h4⟩:=h
 exact ⟨s,P,h1,h2,h3,fun w hw=>(h4 w hw).1⟩
structure OfI (c:Xb) (P:List Xd) where
 k:Nat
 hk:k≤c.actsL.length
 Q:List Xd
 hQ:Q.map Xd.can=ofP c k
 hT:Ec P Q
theorem AP (c:Xb) (hc:Xx c.actsL) (hcl:c.actsL.length≤1000000):Mk prog 59 #[c.v] (fun w=>c.at_ w∧Xi w) (PostsAtS c):=by
 refine dE func59 ntmps59 fun av bor w0=>?_
 refine aR (p:=c.acts.n=c.actsL.length∧c.acts.n≤maxLen∧(0<c.actsL.length→c.acts.p.isSome=true)) (fun w h=>⟨h.1.len_,h.1.max_,h.1.some_⟩) fun ⟨hl,hm,hp⟩=>?_
 simp only [maxLen] at hm
 repeat' (first|refine gs ?_|refine gs1 fun _=>?_|fail)
 refine pG (hc:=Dn c hc hcl) (hX:=fun w h=>h) ?_
 rintro _ _ X1 ⟨r,b,b1,q1,q2,hrk,rfl,rfl,hX1⟩
 repeat' (first|refine gs ?_|fail)
 have hrP:r.P.map Xd.can=openF c c.actsL.length:=by rw [←hrk];exact r.hP
 have hrl:r.P.length≤c.actsL.length:=by
  have h1:=j0 c c.actsL.length
  rw [←hrP,ZF] at h1
  exact h1
 have hpl:∀ d,mget r.pl d=(idxV c.actsL d).map fun (j:Nat)=>Value.int .i64 (j:Int):=fun d=>by
  rw [r.hpl d,hrk,Qh]
 have hsn:r.s.n=r.P.length:=r.hn
 have hnum:=r.hnum
 have hz:=r.hz
 generalize hs:r.s=s at *
 generalize r.P=P at *
 generalize r.pl=pl at *
 generalize r.num=num at *
 rename_i b0
 refine F2 P hz ?_
 refine Em (permD _ _ _ _ _ _ _) ?_
 refine ao (ι:=OfI c P) (fun i=>⟨[(3,.pointer (some ⟨b,0,none⟩)),(9,c.acts.v),(10,.int .i64 (c.acts.n:Nat)),(11,.int .i64 (i.k:Nat))],cel b 178 (regC c s.v q1 q2)::mapr q2 pl::mapr q1 num::postR s i.Q::i.Q.map edR,fun w=>(c.at_ w∧Xi w)∧∀ p∈P,Strs w p.to p.toL⟩) (fun i=>c.actsL.length-i.k)
  ⟨0,Z4 _,P,hrP,⟨rfl⟩⟩ (ai al (QE _ _) fun w h=>⟨h.1,hX1 w h.2⟩) fun i=>?_
 obtain ⟨k,hk,Q,hQ,hT⟩:=i
 simp only
 have hQl:=hT.len
 have hsQ:s.n=Q.length:=by omega
 refine uk (p:=∀ p∈Q,p.edL.length=p.ed.n) (fun w hr p hp=>by
  have h1:=(hr (edR p) (Zv _ (Zv _ (Zv _ (Zv _ (List.mem_map_of_mem hp)))))).1
  simpa using h1) fun hed=>?_
 have hsto:∀ w,(∀ p∈P,Strs w p.to p.toL)→∀ p∈Q,Strs w p.to p.toL:=fun w h p hp=>by
  obtain ⟨q,hq,e1,e2⟩:=hT.mem hp
  rw [←e1,←e2]
  exact h q hq
 have hnQ:∀ j:Nat,mget num (j:Int)=(posP Q j).map fun (n:Nat)=>Value.int .i64 (n:Int):=fun j=>by rw [hT.pos j];exact hnum j
 have hem:∀ p∈Q,p.ed.n≤1000000:=fun p hp=>by
  have h1:=AR c k p.can (by rw [←hQ];exact List.mem_map_of_mem hp)
  have h2:p.edL.length≤k:=h1
  have h3:=hed p hp
  omega
 repeat' (first|refine gs ?_|(refine gp ?_ ?_<;>intro hx_ this)|fail)
 · have hlt:k<c.actsL.length:=by omega
   have hp':=hp aa
   obtain ⟨x,hx⟩:∃ x,c.actsL[k]?=some x:=⟨_,Zb hlt⟩
   have hxD:c.actsL.getD k Xa.zero=x:=by rw [Zo,hx];rfl
   by_cases h13:x.kind=13
   · repeat' (first|refine aE ?_|refine gs ?_|refine gs1 fun _=>?_|(refine aD (q:=k*20) ?_)|(refine aM (cs:=x.cells) (hF:=fun w h=>Acts.get h.1.1 hx) ?_)|(refine ak (kn (xs:=[_]) (vs:=[_]) rfl) rfl rfl rfl ?_)|fail)
     rename_i b5
     refine cJ (List.perm_append_singleton _ _).symm ?_
     refine bN (first:=#[]) (caps:=#[]) (pre:=[cel b 178 (regC c s.v q1 q2),mapr q2 pl,mapr q1 num,postR s Q]++Q.map edR) (fr:=[cel b5 46 x.cells]) (hc:=rE c s Q b q1 q2 k 105 inferInstance pl num x (goneP) hsQ hx aa hpl hnQ hcl aa (fun p=>rfl) (fun p=>rfl) (fun n p hn=>rC _ s Q n p _ k hsQ hn)) (hX:=fun w h=>⟨h.1,hsto w h.2⟩) (h:=?_)
     rintro _ _ X' ⟨rfl,Q',ex,hcan,hto,rfl⟩
     have HQ:Q'.map Xd.can=ofP c (k+1):=by
      rw [hcan,ofP,stepP,hxD,Zd h13,Zf,←hQ,rH]
     repeat' (first|refine gs ?_|fail)
     exact ⟨(⟨k+1,hlt,Q',HQ,hT.trans hto⟩:OfI c P),(by show c.actsL.length-(k+1)<c.actsL.length-k;omega),ai al ((List.sublist_append_right ex _).trans (QE _ _)) fun w h=>h.1⟩
   by_cases h14:x.kind=14
   · repeat' (first|refine aE ?_|refine aG ?_|refine gs ?_|refine gs1 fun _=>?_|(refine aD (q:=k*20) ?_)|(refine aM (cs:=x.cells) (hF:=fun w h=>Acts.get h.1.1 hx) ?_)|(refine ak (kn (xs:=[_]) (vs:=[_]) rfl) rfl rfl rfl ?_)|fail)
     rename_i b5
     refine cJ (List.perm_append_singleton _ _).symm ?_
     refine bN (first:=#[]) (caps:=#[]) (pre:=[cel b 178 (regC c s.v q1 q2),mapr q2 pl,mapr q1 num,postR s Q]++Q.map edR) (fr:=[cel b5 46 x.cells]) (hc:=rE c s Q b q1 q2 k 106 inferInstance pl num x (editP x k) hsQ hx aa hpl hnQ hcl aa (xZ x k) (oU x k) (fun n p hn=>xY c s Q n p b q1 q2 k x hsQ hn hx aa (hed p (Z6 hn)).symm (hem p (Z6 hn)))) (hX:=fun w h=>⟨h.1,hsto w h.2⟩) (h:=?_)
     rintro _ _ X' ⟨rfl,Q',ex,hcan,hto,rfl⟩
     have HQ:Q'.map Xd.can=ofP c (k+1):=by
      rw [hcan,ofP,stepP,hxD,Zc h13,Ze,Zd h14,Zf,←hQ,rH]
     repeat' (first|refine gs ?_|fail)
     exact ⟨(⟨k+1,hlt,Q',HQ,hT.trans hto⟩:OfI c P),(by show c.actsL.length-(k+1)<c.actsL.length-k;omega),ai al ((List.sublist_append_right ex _).trans (QE _ _)) fun w h=>h.1⟩
   · have HQ:Q.map Xd.can=ofP c (k+1):=by
      rw [ofP,stepP,hxD,Zc h13,Ze,Zc h14,Ze]
      exact hQ
     repeat' (first|refine aG ?_|refine gs ?_|refine gs1 fun _=>?_|(refine aD (q:=k*20) ?_)|(refine aM (cs:=x.cells) (hF:=fun w h=>Acts.get h.1.1 hx) ?_)|fail)
     exact ⟨(⟨k+1,hlt,Q,HQ,hT⟩:OfI c P),(by show c.actsL.length-(k+1)<c.actsL.length-k;omega),ai al (Z2 _ (aj _)) fun w h=>h⟩
 · have hkE:k=c.actsL.length:=by omega
   exact ab (ae rfl rfl) ⟨s,Q,rfl,by rw [hQ,hkE];rfl,by omega,fun w h=>⟨bm (h.2 (postR s Q) (Zv _ (Zv _ (Zv _ am)))) (by simp [hsQ]) (cells11 Q),fun p hp=>⟨hsto w h.1.2 p hp,Be (hed p hp) (h.2 (edR p) (Zv _ (Zv _ (Zv _ (Zv _ (List.mem_map_of_mem hp))))))⟩⟩⟩
theorem FC (c:Xb) (hc:Xx c.actsL) (hcl:c.actsL.length≤1000000):Mk prog 59 #[c.v] (fun w=>c.at_ w∧Xi w) (PostsAt c):=vv (AP c hc hcl) fun u X h=>h.weak
end Go.Proofs.YtaolfiikahlmkaaGreatDoor
namespace Go.Proofs.YtaolfiikahlmkaaGreatDoor
open Go Go.Proofs Sy Tryz
instance:Xv prog 68 11:=⟨ac⟩
def isPost (id:ByteArray) (p:Xd):Bool:=seqB p.id id
def findPV (l:List Xb) (id:ByteArray):Option Xd:=(l.flatMap postsV).find? (isPost id)
theorem sy {l:List Xb} {id:ByteArray} (h:∀ c∈l,∀ p∈postsV c,isPost id p=false):findPV l id=none:=by
 rw [findPV,List.find?_eq_none]
 intro p hp
 obtain ⟨c,hc,h1⟩:=List.mem_flatMap.1 hp
 rw [h c hc p h1]
 decide
theorem xS {l:List Xb} {id:ByteArray} {k j:Nat} {c:Xb} {P:List Xd} {p:Xd} (hc:l[k]?=some c) (hP:P.map Xd.can=postsV c) (hp:P[j]?=some p) (h1:∀ i x,i<k→l[i]?=some x→∀ q∈postsV x,isPost id q=false) (h2:∀ i q,i<j→P[i]?=some q→isPost id q=false) (h3:isPost id p=true) :
  findPV l id=some p.can:=by
 obtain ⟨hk,rfl⟩:=QL.1 hc
 have e:l=l.take k++l[k]::l.drop (k+1):=by rw [←List.drop_eq_getElem_cons hk,Qs]
 rw [findPV,e,QQ,List.flatMap_cons,List.find?_append,List.find?_append,List.find?_eq_none.2 (fun q hq=>by
  obtain ⟨x,hx,hq⟩:=List.mem_flatMap.1 hq
  obtain ⟨i,hi⟩:=QP.1 hx
  rw [QH] at hi
  split at hi
  · rename_i hik
    rw [h1 i x hik hi q hq]
    decide
  · cases hi),Option.none_or]
 have e2:(postsV l[k]).find? (isPost id)=some p.can:=by
  rw [←hP,List.find?_map]
  have e3:(isPost id ∘ Xd.can)=isPost id:=rfl
  rw [e3]
  obtain ⟨hj,rfl⟩:=QL.1 hp
  have e4:P.find? (isPost id)=some P[j]:=by
   rw [List.find?_eq_some_iff_getElem]
   refine ⟨h3,j,hj,rfl,fun i hi=>?_⟩
   rw [h2 i P[i] hi (Zb aa)]
   decide
  rw [e4]
  rfl
 rw [e2]
 rfl
def FoundAt (l:List Xb) (id:ByteArray) (u:Value) (X:World→Prop):Prop:=∃ p:Xd,u=.tuple #[p.v,.bool (findPV l id).isSome]∧p.can=(findPV l id).getD Xd.zero
structure FinI (l:List Xb) (id:ByteArray) where
 k:Nat
 hk:k≤l.length
 no:∀ i x,i<k→l[i]?=some x→∀ q∈postsV x,isPost id q=false
structure FinJ (P:List Xd) (id:ByteArray) where
 j:Nat
 hj:j≤P.length
 no:∀ i q,i<j→P[i]?=some q→isPost id q=false
theorem m8 (s:Xl) (l:List Xb) (id:ByteArray) (hok:∀ c∈l,Xx c.actsL) (hlen:∀ c∈l,c.actsL.length≤1000000):Mk prog 24 #[s.v,.string id] (fun w=>Chains w s l∧Xi w) (FoundAt l id):=by
 refine dE func24 ntmps24 fun av bor w0=>?_
 refine aR (p:=s.n=l.length∧s.n≤maxLen∧(0<l.length→s.p.isSome=true)) (fun w h=>⟨h.1.len_,h.1.max_,h.1.some_⟩) fun ⟨hl,hm,hp⟩=>?_
 simp only [maxLen] at hm
 repeat' (first|refine gs ?_|refine gs1 fun _=>?_|fail)
 rename_i b
 refine ao (ι:=FinI l id) (fun i=>⟨[(1,.string id),(4,.pointer (some ⟨b,0,none⟩)),(10,s.v),(11,.int .i64 (s.n:Nat)),(12,.int .i64 (i.k:Nat))],[cel b 68 Xd.zero.cells],fun w=>Chains w s l∧Xi w⟩) (fun i=>l.length-i.k) ⟨0,Z4 _,fun i x h=>absurd h (Nat.not_lt_zero _)⟩ (ai al (aj _) fun _ h=>h) fun i=>?_
 obtain ⟨k,hk,hno⟩:=i
 simp only
 repeat' (first|refine gs ?_|(refine gp ?_ ?_<;>intro hx_ this)|fail)
 · have hlt:k<l.length:=by omega
   have hp':=hp aa
   obtain ⟨c,hc⟩:∃ c,l[k]?=some c:=⟨_,Zb hlt⟩
   have hcm:=Z6 hc
   have hof:=FC c (hok c hcm) (hlen c hcm)
   repeat' (first|(refine cd (hc:=hof) (hX:=fun w h=>⟨h.1.2 c hcm,h.2⟩) fun v1 X1 h1=>?_;obtain ⟨s1,P,rfl,hP,hPl,hw⟩:=h1)|refine gs ?_|refine gs1 fun _=>?_|(refine aD (q:=k*6) ?_)|(refine aM (cs:=c.cells) (hF:=fun w h=>Chains.get h.1 hc) ?_)|fail)
   refine aR (p:=s1.n=P.length∧s1.n≤maxLen∧(0<P.length→s1.p.isSome=true)) (fun w h=>⟨by simpa using Xf.len (hw w h.2),ZY (Xf.cap (hw w h.2)) (Xf.max (hw w h.2)),fun h0=>(Xf.row (hw w h.2) 0 P[0].cells (by simp [Zb h0])).2.1⟩) fun ⟨hl1,hm1,hp1⟩=>?_
   simp only [maxLen] at hm1
   refine ao (ι:=FinJ P id) (fun i=>⟨[(1,.string id),(4,.pointer (some ⟨b,0,none⟩)),(10,s.v),(11,.int .i64 (s.n:Nat)),(12,.int .i64 (k:Nat)),(17,s1.v),(18,.int .i64 (s1.n:Nat)),(19,.int .i64 (i.j:Nat))],[cel b 68 Xd.zero.cells],fun w=>(Chains w s l∧Xi w)∧X1 w⟩) (fun i=>P.length-i.j) ⟨0,Z4 _,fun i x h=>absurd h (Nat.not_lt_zero _)⟩ (ai al (Z2 _ (aj _)) fun _ h=>h) fun i=>?_
   obtain ⟨j,hj,hno2⟩:=i
   simp only
   repeat' (first|refine gs ?_|(refine gp ?_ ?_<;>intro hx_ this)|fail)
   · have hjl:j<P.length:=by omega
     have hp2:=hp1 aa
     obtain ⟨p,hpj⟩:∃ p,P[j]?=some p:=⟨_,Zb hjl⟩
     repeat' (first|refine gs ?_|refine gs1 fun _=>?_|(refine aD (q:=j*11) ?_)|(refine aM (cs:=p.cells) (hF:=fun w h=>Xf.row (hw w h.2) j p.cells (by simp [hpj])) ?_)|(refine gp ?_ ?_<;>intro hx_ this)|fail)
     · have hf:=xS hc hP hpj hno hno2 (by assumption)
       apply ab;refine ek rfl rfl rfl aQ ?_
       · rfl
       exact ⟨p,by rw [hf];rfl,by rw [hf];rfl⟩
     · exact ⟨(⟨j+1,hjl,fun i q hi hq=>by
        by_cases e:i=j
        · subst e
          obtain rfl:=Option.some.inj (hpj.symm.trans hq)
          assumption
        · exact hno2 i q aa hq⟩:FinJ P id),(by show P.length-(j+1)<P.length-j;omega),ai al (Z2 _ (aj _)) fun _ h=>h⟩
   · exact ⟨(⟨k+1,hlt,fun i x hi hx q hq=>by
      by_cases e:i=k
      · subst e
        obtain rfl:=Option.some.inj (hc.symm.trans hx)
        rw [←hP] at hq
        obtain ⟨p,hpm,rfl⟩:=QJ.1 hq
        obtain ⟨j2,hj2⟩:=QP.1 hpm
        exact hno2 j2 p (by have:=(QL.1 hj2).1;omega) hj2
      · exact hno i x aa hx q hq⟩:FinI l id),(by show l.length-(k+1)<l.length-k;omega),ai al (aj _) fun _ h=>h.1⟩
 · have hf:findPV l id=none:=sy fun c hc q hq=>by
    obtain ⟨i,hi⟩:=QP.1 hc
    exact hno i c (by have:=(QL.1 hi).1;omega) hi q hq
   repeat' (first|refine gs ?_|(refine aK ?_)|fail)
   apply ab;refine ek rfl rfl rfl aQ ?_
   · rfl
   exact ⟨Xd.zero,by rw [hf];rfl,by rw [hf];rfl⟩
end Go.Proofs.YtaolfiikahlmkaaGreatDoor
namespace Go.Proofs.YtaolfiikahlmkaaGreatDoor
open Go Go.Proofs Sy Tryz
section
variable {P:Program} {N:Nat} {av bor:List Nat} {w0:World} {st:St} {ty:TypeId} {x y:Operand} {t t2:TypeId} {k:IntKind}
theorem EY {a b:Int} [hI:Xt P t k] (hx:ev st.env x=some (.int k a)) (hy:ev st.env y=some (.int k b)) (hab:b<a):Sy.Yields P N av bor w0 st (.binOp .gtr t x y t2) ty (.bool true):=by
 have h:=ko (P:=P) (N:=N) (av:=av) (bor:=bor) (w0:=w0) (st:=st) (ty:=ty) (t:=t) (t2:=t2) hx hy
 rwa [Zd hab] at h
theorem EZ {a b:Int} [hI:Xt P t k] (hx:ev st.env x=some (.int k a)) (hy:ev st.env y=some (.int k b)) (hab:¬ b<a):Sy.Yields P N av bor w0 st (.binOp .gtr t x y t2) ty (.bool false):=by
 have h:=ko (P:=P) (N:=N) (av:=av) (bor:=bor) (w0:=w0) (st:=st) (ty:=ty) (t:=t) (t2:=t2) hx hy
 rwa [Zc hab] at h
end
structure InsI (P:List Xd) (a b:Nat) where
 k:Nat
 h1:a+1≤k
 h2:k≤b∨k=a+1
 Q:List Xd
 hQ:Q.Perm P
structure InsJ (P:List Xd) (a k:Nat) where
 j:Nat
 h1:a≤j
 h2:j≤k
 Q:List Xd
 hQ:Q.Perm P
theorem cu (s:Xl) (P:List Xd) (a b:Nat) (hs:s.n=P.length) (hm:s.n≤1000000) (ha:a≤s.n) (hb:b≤s.n) :
  Ct prog 228 #[s.v,.int .i64 (a:Nat),.int .i64 (b:Nat),cmpF] [postR s P] (fun _=>True) (PermAt s P):=by
 refine cF func228 ntmps228 fun av bor w0=>?_
 refine bP (r:=postR s P) am (p:=0<s.n→s.p.isSome=true) (fun w h hn=>bF h hn) fun hp=>?_
 repeat' (first|refine dA (q:=1) (hq:=by omega) ?_|refine gs ?_|fail)
 refine ao (ι:=InsI P a b) (fun i=>⟨[(0,s.v),(1,.int .i64 (a:Nat)),(2,.int .i64 (b:Nat)),(3,cmpF),(8,.int .i64 (i.k:Nat))],[postR s i.Q],fun _=>True⟩) (fun i=>b-i.k) ⟨a+1,ZX _,.inr rfl,P,Qn _⟩ (ai al (aj _) fun _ h=>h) fun i=>?_
 obtain ⟨k,h1,h2,Q,hQ⟩:=i
 simp only
 have hl:=hQ.length_eq
 repeat' (first|refine gs ?_|(refine gp ?_ ?_<;>intro hx_ this)|fail)
 · have hkb:k<b:=by omega
   refine ao (ι:=InsJ P a k) (fun i=>⟨[(0,s.v),(1,.int .i64 (a:Nat)),(2,.int .i64 (b:Nat)),(3,cmpF),(8,.int .i64 (k:Nat)),(9,.int .i64 (i.j:Nat))],[postR s i.Q],fun _=>True⟩) (fun i=>i.j) ⟨k,by omega,ZX _,Q,hQ⟩ (ai al (aj _) fun _ h=>h) fun i=>?_
   obtain ⟨j,h3,h4,Q2,hQ2⟩:=i
   simp only
   have hl2:=hQ2.length_eq
   have hp':=hp aa
   by_cases hja:a<j
   · obtain ⟨x,hx⟩:∃ x,Q2[j]?=some x:=⟨_,Zb aa⟩
     obtain ⟨y,hy⟩:∃ y,Q2[j-1]?=some y:=⟨_,Zb aa⟩
     have hcm:=dj x y
     generalize cmpB x.id y.id=z at *
     apply QS
     apply QS
     unfold cmpF
     (refine aq ⟨[0,1,2,3,4,5,6,7,9,10,11,12],[(8,⟨[],[(13,⟨[],[(14,⟨[15,16],[]⟩)]⟩)]⟩),(13,⟨[],[(8,⟨[],[(14,⟨[15,16],[]⟩)]⟩)]⟩)]⟩ [] (fun _=>True) (h:=?_))
     all_goals repeat' (first|refine ax (hy:=by (apply EY;rfl;rfl;omega)) ?_|(refine ag (hc:=hcm) ?_)|refine gd ?_|refine ax (hy:=by first|(apply ay (q:=j*11);rfl;rfl;omega;omega;assumption;(rfl))|(apply ay (q:=(j-1)*11);rfl;rfl;omega;omega;assumption;(omega))) ?_|refine aA ?_ (h':=?_)|exact aB|(refine ak (br (i:=j) (P:=Q2) rfl am aa hx) rfl rfl rfl ?_)|(refine ak (br (i:=j-1) (P:=Q2) rfl am aa hy) rfl rfl rfl ?_)|fail)
     all_goals
      repeat' (first|refine gs ?_|(refine gp ?_ ?_<;>intro hx_ this)|fail)
      · (refine aq ⟨[0,1,2,3,4,5,6,7,8,10,11,12],[(9,⟨[],[(13,⟨[14],[(15,⟨[16],[(17,⟨[],[]⟩)]⟩)]⟩)]⟩),(13,⟨[],[(9,⟨[14],[(15,⟨[16],[(17,⟨[],[]⟩)]⟩)]⟩)]⟩)]⟩ [] (fun _=>True) (h:=?_))
        all_goals repeat' (first|refine gd ?_|refine ax (hy:=by first|(apply ay (q:=j*11);rfl;rfl;omega;omega;assumption;(rfl))|(apply ay (q:=(j-1)*11);rfl;rfl;omega;omega;assumption;(omega))) ?_|refine aA ?_ (h':=?_)|exact aB|(refine ak (br (i:=j) (P:=Q2) rfl am aa hx) rfl rfl rfl ?_)|(refine ak (br (i:=j-1) (P:=Q2) rfl am aa hy) rfl rfl rfl ?_)|((refine bV (i:=j) (p:=y) rfl rfl aa (by first|omega|(simp only [Z9];omega)) (At.here _) rfl ar rfl ?_))|((refine bV (i:=j-1) (p:=x) rfl rfl aa (by (simp only [Z9];omega)) (At.here _) rfl ar rfl ?_))|fail)
        all_goals
         repeat' (first|refine eA (q:=1) (hq:=by omega) ?_|refine gs ?_|fail)
         exact ⟨(⟨j-1,by omega,by omega,(Q2.set j y).set (j-1) x,(cL hx hy).trans hQ2⟩:InsJ P a k),(by show j-1<j;omega),ai al (aj _) fun _ h=>h⟩
      · repeat' (first|refine dA (q:=1) (hq:=by omega) ?_|fail)
        exact ⟨(⟨k+1,by omega,by omega,Q2,hQ2⟩:InsI P a b),(by show b-(k+1)<b-k;omega),ai al (aj _) fun _ h=>h⟩
   · apply QS
     apply QS
     unfold cmpF
     (refine aq ⟨[0,1,2,3,4,5,6,7,9,10,11,12],[(8,⟨[],[(13,⟨[],[(14,⟨[15,16],[]⟩)]⟩)]⟩),(13,⟨[],[(8,⟨[],[(14,⟨[15,16],[]⟩)]⟩)]⟩)]⟩ [] (fun _=>True) (h:=?_))
     all_goals repeat' (first|refine ax (hy:=by (apply EZ;rfl;rfl;omega)) ?_|refine gd ?_|refine aA ?_ (h':=?_)|exact aB|fail)
     all_goals
      repeat' (first|refine dA (q:=1) (hq:=by omega) ?_|refine gs ?_|fail)
      exact ⟨(⟨k+1,by omega,by omega,Q2,hQ2⟩:InsI P a b),(by show b-(k+1)<b-k;omega),ai al (aj _) fun _ h=>h⟩
 · exact aN (aF rfl) ⟨rfl,Q,hQ,rfl⟩
end Go.Proofs.YtaolfiikahlmkaaGreatDoor
namespace Go.Proofs.YtaolfiikahlmkaaGreatDoor
open Go Go.Proofs Sy Tryz
theorem shr1 (x:Nat):shrV .u64 (x:Int) 1=((x/2:Nat):Int):=by
 show (x:Int).fdiv (2 ^ (min (1:Int).toNat 64))=_
 rw [show (2:Int) ^ (min (1:Int).toNat 64)=((2:Nat):Int) from rfl,←Int.ofNat_fdiv]
section
variable {N:Nat} {av bor:List Nat} {w0:World} {ops:Array Oper} {rest:List Oper} {k:St→Prop} {E:Env} {loc:List Xm} {X:World→Prop} {d:Option Tmp} {ty:TypeId} {pos:String} {af:Array Edge} {g:Option (Nat×Bool)} {bb want:Bool} {n:Nat} {t t2:TypeId}
theorem lc {p:Nat} {x y:Operand} (h:Sw prog N av bor w0 ops rest ⟨(n,.int .u64 ((p/2:Nat):Int))::E,loc,X⟩ k) (hx:ev E x=some (.int .u64 (p:Nat)):=by rfl) (hy:ev E y=some (.int .u64 1):=by rfl) (hg:gdB ops E g=some (bb,want):=by rfl) (hbb:bb=want:=by exact ar) (hd:Nat.blt n N=true:=by rfl) :
  Sw prog N av bor w0 ops (⟨some n,.binOp .shr t x y t2,ty,pos,af,g⟩::rest) ⟨E,loc,X⟩ k:=pu hx hy (by decide) hg hbb hd (by rw [shr1];exact h)
theorem Cj {p:Nat} (h:p<9223372036854775808):IntKind.u64.wrap (p:Int)=(p:Int):=by
 simp [IntKind.wrap,IntKind.signed,IntKind.bits]
 omega
theorem pq [h1:Xt prog t .i64] [h2:Xt prog t2 .u64] {p:Nat} {x:Operand} (h:Sw prog N av bor w0 ops rest ⟨(n,.int .u64 (p:Nat))::E,loc,X⟩ k) (hx:ev E x=some (.int .i64 (p:Nat)):=by rfl) (hq:p<9223372036854775808) (hg:gdB ops E g=some (bb,want):=by rfl) (hbb:bb=want:=by exact ar) (hd:Nat.blt n N=true:=by rfl) :
  Sw prog N av bor w0 ops (⟨some n,.convert t t2 x,ty,pos,af,g⟩::rest) ⟨E,loc,X⟩ k:=jN hx (Cj hq) hg hbb hd h
theorem pr [h1:Xt prog t .u64] [h2:Xt prog t2 .i64] {p:Nat} {x:Operand} (h:Sw prog N av bor w0 ops rest ⟨(n,.int .i64 (p:Nat))::E,loc,X⟩ k) (hx:ev E x=some (.int .u64 (p:Nat)):=by rfl) (hq:p<9223372036854775808) (hg:gdB ops E g=some (bb,want):=by rfl) (hbb:bb=want:=by exact ar) (hd:Nat.blt n N=true:=by rfl) :
  Sw prog N av bor w0 ops (⟨some n,.convert t t2 x,ty,pos,af,g⟩::rest) ⟨E,loc,X⟩ k:=jN hx (IntWalk.i64_in _ aa) hg hbb hd h
theorem CO {x y:Operand} {k':IntKind} {a b:Int} [hI:Xt prog t k'] (h:Sw prog N av bor w0 ops rest ⟨(n,.bool false)::E,loc,X⟩ k) (hx:ev E x=some (.int k' a):=by rfl) (hy:ev E y=some (.int k' b):=by rfl) (hab:¬ a<b:=by first|omega|decide) (hg:gdB ops E g=some (bb,want):=by rfl) (hbb:bb=want:=by exact ar) (hd:Nat.blt n N=true:=by rfl) :
  Sw prog N av bor w0 ops (⟨some n,.binOp .lss t x y t2,ty,pos,af,g⟩::rest) ⟨E,loc,X⟩ k:=eG (hx:=hx) (hy:=hy) (hg:=hg) (hbb:=hbb) (hd:=hd) (h:=by
   have e:∀ u,u=Value.bool false→Sw prog N av bor w0 ops rest ⟨(n,u)::E,loc,X⟩ k:=fun u hu=>hu▸h
   exact e _ (by simp [hab]))
theorem uX {x y:Operand} {k':IntKind} {a b:Int} [hI:Xt prog t k'] (h:Sw prog N av bor w0 ops rest ⟨(n,.bool true)::E,loc,X⟩ k) (hx:ev E x=some (.int k' a):=by rfl) (hy:ev E y=some (.int k' b):=by rfl) (hab:a<b:=by first|omega|decide) (hg:gdB ops E g=some (bb,want):=by rfl) (hbb:bb=want:=by exact ar) (hd:Nat.blt n N=true:=by rfl) :
  Sw prog N av bor w0 ops (⟨some n,.binOp .lss t x y t2,ty,pos,af,g⟩::rest) ⟨E,loc,X⟩ k:=eG (hx:=hx) (hy:=hy) (hg:=hg) (hbb:=hbb) (hd:=hd) (h:=by
   have e:∀ u,u=Value.bool true→Sw prog N av bor w0 ops rest ⟨(n,u)::E,loc,X⟩ k:=fun u hu=>hu▸h
   exact e _ (by simp [hab]))
theorem eM {x:Operand} {xs:List Operand} {ats:Array TypeId} {f:FuncId} {args:List Value} {s:Xl} {P Q:List Xd} (h:∀ Q':List Xd,Q'.Perm P→Sw prog N av bor w0 ops rest ⟨putE E d (.tuple #[]),[postR s Q'],X⟩ k) (hQ:Q.Perm P) (hx:ev E x=some (.func (.func f) #[] #[]):=by rfl) (ha:evs E xs=some args:=by rfl) (hg:gdB ops E g=some (bb,want):=by rfl) (hb:bb=want:=by exact ar) (hd:inB N d=true:=by rfl) (hf:Xc prog f:=by infer_instance) (hc:∀ Q:List Xd,Q.Perm P→Ct prog f args.toArray [postR s Q] (fun _=>True) (PermAt s Q)) :
  Sw prog N av bor w0 ops (⟨d,.call ⟨.value x,xs.toArray,ats⟩,ty,pos,af,g⟩::rest) ⟨E,[postR s Q],X⟩ k:=bS hx ha hg hb hd hf (hc Q hQ) fun Q' h1=>h Q' (h1.trans hQ)
end
structure BinI (lo hi:Nat) where
 i:Nat
 j:Nat
 h1:lo≤i
 h2:i≤j
 h3:j≤hi
structure UpI (P:List Xd) (a:Nat) where
 k:Nat
 h1:a≤k
 Q:List Xd
 hQ:Q.Perm P
structure DownI (P:List Xd) (i m:Nat) where
 k:Nat
 h1:i≤k
 h2:k≤m
 Q:List Xd
 hQ:Q.Perm P
structure MerI (a m b mid:Nat) where
 i:Nat
 j:Nat
 h1:i≤j
 h2:mid<m→mid+m≤i+b∧j≤mid
 h3:m≤mid→a≤i∧j≤m
set_option maxRecDepth 20000 in
theorem bU:∀ (d:Nat) (s:Xl) (P:List Xd) (a m b:Nat),b-a≤d→s.n=P.length→s.n≤1000000→a<m→m<b→b≤s.n →
  Ct prog 229 #[s.v,.int .i64 (a:Nat),.int .i64 (m:Nat),.int .i64 (b:Nat),cmpF] [postR s P] (fun _=>True) (PermAt s P)
 | 0,s,P,a,m,b,hd,hs,hm,ha,hb,hbs=>absurd hd aa
 | d+1,s,P,a,m,b,hd,hs,hm,ha,hb,hbs=>by
  have ih:=bU d
  have hP:P.Perm P:=Qn P
  refine cF func229 ntmps229 fun av bor w0=>?_
  refine bP (r:=postR s P) am (p:=0<s.n→s.p.isSome=true) (fun w h hn=>bF h hn) fun hp=>?_
  have hp':=hp aa
  by_cases hA:m-a=1
  · repeat' (first|refine eA (hq:=by omega) ?_|refine aE ?_|refine gs ?_|fail)
    refine ao (ι:=BinI m b) (fun r=>⟨[(0,s.v),(1,.int .i64 (a:Nat)),(4,cmpF),(10,.int .i64 (r.i:Nat)),(11,.int .i64 (r.j:Nat))],[postR s P],fun _=>True⟩) (fun r=>r.j-r.i) ⟨m,b,by omega,by omega,by omega⟩ (ai al (aj _) fun _ h=>h) fun r=>?_
    obtain ⟨i,j,h1,h2,h3⟩:=r
    simp only
    repeat' (first|refine dA (hq:=by omega) ?_|refine pq (hq:=by omega) ?_|refine lc ?_|refine pr (hq:=by omega) ?_|refine gs ?_|(refine gp ?_ ?_<;>intro hx_ this)|fail)
    · have hlt:i<j:=by omega
      obtain ⟨x,hx⟩:∃ x,P[(i+j)/2]?=some x:=⟨_,Zb aa⟩
      obtain ⟨y,hy⟩:∃ y,P[a]?=some y:=⟨_,Zb aa⟩
      have hcm:=dj x y
      generalize cmpB x.id y.id=z at *
      unfold cmpF
      (refine aq ⟨[0,1,2,3,5,6,7],[(4,⟨[],[(8,⟨[],[(9,⟨[10],[]⟩)]⟩)]⟩),(8,⟨[],[(4,⟨[],[(9,⟨[10],[]⟩)]⟩)]⟩)]⟩ [] (fun _=>True) (h:=?_))
      all_goals repeat' (first|(refine ag (hc:=hcm) ?_)|refine gd ?_|refine ax (hy:=by first|(apply ay (q:=((i+j)/2)*11);rfl;rfl;omega;omega;assumption;(rfl))|(apply ay (q:=(a)*11);rfl;rfl;omega;omega;assumption;(rfl))) ?_|refine aA ?_ (h':=?_)|exact aB|(refine ak (br (i:=(i+j)/2) (P:=P) rfl am aa hx) rfl rfl rfl ?_)|(refine ak (br (i:=a) (P:=P) rfl am aa hy) rfl rfl rfl ?_)|fail)
      all_goals
       repeat' (first|refine dA (q:=1) (hq:=by omega) ?_|refine gs ?_|(refine gp ?_ ?_<;>intro hx_ this)|fail)
       · exact ⟨(⟨(i+j)/2+1,j,by omega,by omega,h3⟩:BinI m b),(by show j-((i+j)/2+1)<j-i;omega),ai al (aj _) fun _ h=>h⟩
       · exact ⟨(⟨i,(i+j)/2,h1,by omega,by omega⟩:BinI m b),(by show (i+j)/2-i<j-i;omega),ai al (aj _) fun _ h=>h⟩
    · refine ao (ι:=UpI P a) (fun r=>⟨[(0,s.v),(10,.int .i64 (i:Nat)),(13,.int .i64 (r.k:Nat))],[postR s r.Q],fun _=>True⟩) (fun r=>i-r.k) ⟨a,ZX _,P,hP⟩ (ai al (aj _) fun _ h=>h) fun r=>?_
      obtain ⟨k,h4,Q,hQ⟩:=r
      simp only
      have hl:=hQ.length_eq
      repeat' (first|refine eA (q:=1) (hq:=by omega) ?_|refine gs ?_|(refine gp ?_ ?_<;>intro hx_ this)|fail)
      · have hlt:k+1<i:=by omega
        obtain ⟨x,hx⟩:∃ x,Q[k]?=some x:=⟨_,Zb aa⟩
        obtain ⟨y,hy⟩:∃ y,Q[k+1]?=some y:=⟨_,Zb aa⟩
        (refine aq ⟨[0,1,2,3,4,5,6,7,8,10,11,12],[(9,⟨[],[(13,⟨[14],[(15,⟨[16],[(17,⟨[],[]⟩)]⟩)]⟩)]⟩),(13,⟨[],[(9,⟨[14],[(15,⟨[16],[(17,⟨[],[]⟩)]⟩)]⟩)]⟩)]⟩ [] (fun _=>True) (h:=?_))
        all_goals repeat' (first|refine gd ?_|refine ax (hy:=by first|(apply ay (q:=(k)*11);rfl;rfl;omega;omega;assumption;(rfl))|(apply ay (q:=(k+1)*11);rfl;rfl;omega;omega;assumption;(rfl))) ?_|refine aA ?_ (h':=?_)|exact aB|(refine ak (br (i:=k) (P:=Q) rfl am aa hx) rfl rfl rfl ?_)|(refine ak (br (i:=k+1) (P:=Q) rfl am aa hy) rfl rfl rfl ?_)|((refine bV (i:=k) (p:=y) rfl rfl aa (by first|omega|(simp only [Z9];omega)) (At.here _) rfl ar rfl ?_))|((refine bV (i:=k+1) (p:=x) rfl rfl aa (by (simp only [Z9];omega)) (At.here _) rfl ar rfl ?_))|fail)
        all_goals
         repeat' (first|refine dA (q:=1) (hq:=by omega) ?_|refine gs ?_|fail)
         exact ⟨(⟨k+1,by omega,(Q.set k y).set (k+1) x,(cL hx hy).trans hQ⟩:UpI P a),(by show i-(k+1)<i-k;omega),ai al (aj _) fun _ h=>h⟩
      · exact ab (aF rfl) ⟨rfl,Q,hQ,rfl⟩
  · by_cases hB:b-m=1
    · repeat' (first|refine eA (hq:=by omega) ?_|refine aE ?_|refine aG ?_|refine gs ?_|fail)
      refine ao (ι:=BinI a m) (fun r=>⟨[(0,s.v),(2,.int .i64 (m:Nat)),(4,cmpF),(14,.int .i64 (r.i:Nat)),(15,.int .i64 (r.j:Nat))],[postR s P],fun _=>True⟩) (fun r=>r.j-r.i) ⟨a,m,by omega,by omega,by omega⟩ (ai al (aj _) fun _ h=>h) fun r=>?_
      obtain ⟨i,j,h1,h2,h3⟩:=r
      simp only
      repeat' (first|refine dA (hq:=by omega) ?_|refine pq (hq:=by omega) ?_|refine lc ?_|refine pr (hq:=by omega) ?_|refine gs ?_|(refine gp ?_ ?_<;>intro hx_ this)|fail)
      · have hlt:i<j:=by omega
        obtain ⟨x,hx⟩:∃ x,P[m]?=some x:=⟨_,Zb aa⟩
        obtain ⟨y,hy⟩:∃ y,P[(i+j)/2]?=some y:=⟨_,Zb aa⟩
        have hcm:=dj x y
        generalize cmpB x.id y.id=z at *
        unfold cmpF
        (refine aq ⟨[0,1,2,3,5,6,7],[(4,⟨[],[(8,⟨[],[(9,⟨[10,11],[]⟩)]⟩)]⟩),(8,⟨[],[(4,⟨[],[(9,⟨[10,11],[]⟩)]⟩)]⟩)]⟩ [] (fun _=>True) (h:=?_))
        all_goals repeat' (first|(refine ag (hc:=hcm) ?_)|refine gd ?_|refine ax (hy:=by first|(apply ay (q:=(m)*11);rfl;rfl;omega;omega;assumption;(rfl))|(apply ay (q:=((i+j)/2)*11);rfl;rfl;omega;omega;assumption;(rfl))) ?_|refine aA ?_ (h':=?_)|exact aB|(refine ak (br (i:=m) (P:=P) rfl am aa hx) rfl rfl rfl ?_)|(refine ak (br (i:=(i+j)/2) (P:=P) rfl am aa hy) rfl rfl rfl ?_)|fail)
        all_goals
         repeat' (first|refine dA (q:=1) (hq:=by omega) ?_|refine gs ?_|(refine gp ?_ ?_<;>intro hx_ this)|fail)
         · exact ⟨(⟨(i+j)/2+1,j,by omega,by omega,h3⟩:BinI a m),(by show j-((i+j)/2+1)<j-i;omega),ai al (aj _) fun _ h=>h⟩
         · exact ⟨(⟨i,(i+j)/2,h1,by omega,by omega⟩:BinI a m),(by show (i+j)/2-i<j-i;omega),ai al (aj _) fun _ h=>h⟩
      · refine ao (ι:=DownI P i m) (fun r=>⟨[(0,s.v),(14,.int .i64 (i:Nat)),(17,.int .i64 (r.k:Nat))],[postR s r.Q],fun _=>True⟩) (fun r=>r.k) ⟨m,by omega,ZX _,P,hP⟩ (ai al (aj _) fun _ h=>h) fun r=>?_
        obtain ⟨k,h4,h5,Q,hQ⟩:=r
        simp only
        have hl:=hQ.length_eq
        repeat' (first|refine gs ?_|(refine gp ?_ ?_<;>intro hx_ this)|fail)
        · have hlt:i<k:=by omega
          obtain ⟨x,hx⟩:∃ x,Q[k]?=some x:=⟨_,Zb aa⟩
          obtain ⟨y,hy⟩:∃ y,Q[k-1]?=some y:=⟨_,Zb aa⟩
          (refine aq ⟨[0,1,2,3,4,5,6,7,8,10,11,12],[(9,⟨[],[(13,⟨[14],[(15,⟨[16],[(17,⟨[],[]⟩)]⟩)]⟩)]⟩),(13,⟨[],[(9,⟨[14],[(15,⟨[16],[(17,⟨[],[]⟩)]⟩)]⟩)]⟩)]⟩ [] (fun _=>True) (h:=?_))
          all_goals repeat' (first|refine gd ?_|refine ax (hy:=by first|(apply ay (q:=(k)*11);rfl;rfl;omega;omega;assumption;(rfl))|(apply ay (q:=(k-1)*11);rfl;rfl;omega;omega;assumption;(omega))) ?_|refine aA ?_ (h':=?_)|exact aB|(refine ak (br (i:=k) (P:=Q) rfl am aa hx) rfl rfl rfl ?_)|(refine ak (br (i:=k-1) (P:=Q) rfl am aa hy) rfl rfl rfl ?_)|((refine bV (i:=k) (p:=y) rfl rfl aa (by first|omega|(simp only [Z9];omega)) (At.here _) rfl ar rfl ?_))|((refine bV (i:=k-1) (p:=x) rfl rfl aa (by (simp only [Z9];omega)) (At.here _) rfl ar rfl ?_))|fail)
          all_goals
           repeat' (first|refine eA (q:=1) (hq:=by omega) ?_|refine gs ?_|fail)
           exact ⟨(⟨k-1,by omega,by omega,(Q.set k y).set (k-1) x,(cL hx hy).trans hQ⟩:DownI P i m),(by show k-1<k;omega),ai al (aj _) fun _ h=>h⟩
        · exact ab (aF rfl) ⟨rfl,Q,hQ,rfl⟩
    · obtain ⟨mid,hmid⟩:∃ mid,mid=(a+b)/2:=⟨_,rfl⟩
      have hm1:a<mid:=by omega
      have hm2:mid<b:=by omega
      have hm3:2*mid≤a+b:=by omega
      have hm4:a+b≤2*mid+1:=by omega
      by_cases hmm:mid<m
      all_goals
       repeat' (first|refine aG ?_|refine dN ?_|refine eB ?_|refine eA (q:=1) (hq:=by omega) ?_|refine eA (hq:=by omega) ?_|refine dA (hq:=by omega) ?_|refine pq (hq:=by omega) ?_|refine lc ?_|refine pr (hq:=by omega) ?_|refine gs ?_|fail)
       rw [←hmid]
       first
        | refine ao (ι:=MerI a m b mid) (fun r=>⟨[(0,s.v),(1,.int .i64 (a:Nat)),(2,.int .i64 (m:Nat)),(3,.int .i64 (b:Nat)),(4,cmpF),(18,.int .i64 (mid:Nat)),(19,.int .i64 ((mid+m:Nat):Int)),(20,.int .i64 (r.i:Nat)),(21,.int .i64 (r.j:Nat)),(22,.int .i64 ((mid+m-1:Nat):Int))],[postR s P],fun _=>True⟩) (fun r=>r.j-r.i) ⟨mid+m-b,mid,by omega,by omega,by omega⟩ (ai al (aj _) fun _ h=>h) fun r=>?_
        | refine ao (ι:=MerI a m b mid) (fun r=>⟨[(0,s.v),(1,.int .i64 (a:Nat)),(2,.int .i64 (m:Nat)),(3,.int .i64 (b:Nat)),(4,cmpF),(18,.int .i64 (mid:Nat)),(19,.int .i64 ((mid+m:Nat):Int)),(20,.int .i64 (r.i:Nat)),(21,.int .i64 (r.j:Nat)),(22,.int .i64 ((mid+m-1:Nat):Int))],[postR s P],fun _=>True⟩) (fun r=>r.j-r.i) ⟨a,m,by omega,by omega,by omega⟩ (ai al (aj _) fun _ h=>h) fun r=>?_
       obtain ⟨i,j,h1,h2,h3⟩:=r
       simp only
       have hk1:a≤i:=by omega
       have hk2:j≤m:=by omega
       have hk3:i≤mid+m:=by omega
       by_cases hij:i<j
       · have hk4:(i+j)/2<j:=by omega
         have hk5:i≤(i+j)/2:=by omega
         have hk6:(i+j)/2≤mid+m-1:=by omega
         have hk7:mid+m-1-(i+j)/2<b:=by omega
         repeat' (first|refine uX ?_|refine dA (hq:=by omega) ?_|refine pq (hq:=by omega) ?_|refine lc ?_|refine pr (hq:=by omega) ?_|refine gs ?_|fail)
         obtain ⟨x,hx⟩:∃ x,P[mid+m-1-(i+j)/2]?=some x:=⟨_,Zb aa⟩
         obtain ⟨y,hy⟩:∃ y,P[(i+j)/2]?=some y:=⟨_,Zb aa⟩
         have hcm:=dj x y
         generalize cmpB x.id y.id=z at *
         unfold cmpF
         (refine aq ⟨[0,1,2,3,4,5,7,8,9],[(6,⟨[],[(10,⟨[],[(11,⟨[12,13],[]⟩)]⟩)]⟩),(10,⟨[],[(6,⟨[],[(11,⟨[12,13],[]⟩)]⟩)]⟩)]⟩ [] (fun _=>True) (h:=?_))
         all_goals repeat' (first|(refine ag (hc:=hcm) ?_)|refine gd ?_|refine ax (hy:=by first|(apply ay (q:=(mid+m-1-(i+j)/2)*11);rfl;rfl;omega;omega;assumption;(omega))|(apply ay (q:=((i+j)/2)*11);rfl;rfl;omega;omega;assumption;(rfl))) ?_|refine aA ?_ (h':=?_)|exact aB|(refine ak (br (i:=mid+m-1-(i+j)/2) (P:=P) rfl am aa hx) rfl rfl rfl ?_)|(refine ak (br (i:=(i+j)/2) (P:=P) rfl am aa hy) rfl rfl rfl ?_)|fail)
         all_goals
          repeat' (first|refine dA (q:=1) (hq:=by omega) ?_|refine gs ?_|(refine gp ?_ ?_<;>intro hx_ this)|fail)
          · exact ⟨(⟨(i+j)/2+1,j,by omega,by omega,by omega⟩:MerI a m b mid),(by show j-((i+j)/2+1)<j-i;omega),ai al (aj _) fun _ h=>h⟩
          · exact ⟨(⟨i,(i+j)/2,by omega,by omega,by omega⟩:MerI a m b mid),(by show (i+j)/2-i<j-i;omega),ai al (aj _) fun _ h=>h⟩
       · have hk8:mid+m-i≤b:=by omega
         have hnl:¬ (i:Int)<(j:Int):=by omega
         repeat' (first|refine CO (hab:=by first|exact hnl|omega) ?_|refine uX ?_|refine eA (hq:=by omega) ?_|refine gs ?_|(refine eM (P:=P) (hQ:=by assumption) (hc:=fun Q hQ=>eJ s Q i m (mid+m-i) cmpF (hs.trans hQ.length_eq.symm) hm aa aa aa) fun Q2 hQ2=>?_)|(refine eM (P:=P) (hQ:=by assumption) (hc:=fun Q hQ=>ih s Q a i mid aa (hs.trans hQ.length_eq.symm) hm aa aa aa) fun Q2 hQ2=>?_)|(refine eM (P:=P) (hQ:=by assumption) (hc:=fun Q hQ=>ih s Q mid (mid+m-i) b aa (hs.trans hQ.length_eq.symm) hm aa aa aa) fun Q2 hQ2=>?_)|(refine gp ?_ ?_<;>intro hx_ this)|fail)
         all_goals
          refine aN (aF rfl) ⟨rfl,_,?_,rfl⟩
          assumption
end Go.Proofs.YtaolfiikahlmkaaGreatDoor
namespace Go.Proofs.YtaolfiikahlmkaaGreatDoor
open Go Go.Proofs Sy Tryz
section
variable {N:Nat} {av bor:List Nat} {w0:World} {ops:Array Oper} {rest:List Oper} {k:St→Prop} {E:Env} {loc:List Xm} {X:World→Prop} {ty:TypeId} {pos:String} {af:Array Edge} {g:Option (Nat×Bool)} {bb want:Bool} {n:Nat} {t t2:TypeId} {x y:Operand}
theorem pz [hI:Xt prog t .i64] {p q:Nat} (h:Sw prog N av bor w0 ops rest ⟨(n,.int .i64 ((p*q:Nat):Int))::E,loc,X⟩ k) (hx:ev E x=some (.int .i64 (p:Nat)):=by rfl) (hy:ev E y=some (.int .i64 (q:Nat)):=by rfl) (hq:p*q<9223372036854775808) (hg:gdB ops E g=some (bb,want):=by rfl) (hbb:bb=want:=by exact ar) (hd:Nat.blt n N=true:=by rfl) :
  Sw prog N av bor w0 ops (⟨some n,.binOp .mul t x y t2,ty,pos,af,g⟩::rest) ⟨E,loc,X⟩ k:=fI (c:=((p*q:Nat):Int)) hx hy (by rw [←Int.natCast_mul];exact IntWalk.i64_in _ aa) hg hbb hd h
end
structure StaI (P:List Xd) (n w:Nat) where
 a:Nat
 b:Nat
 h1:a≤n
 h2:b=a+w
 Q:List Xd
 hQ:Q.Perm P
structure StaO (P:List Xd) (n:Nat) where
 z:Nat
 h1:1≤z
 h2:z≤2*n+20
 Q:List Xd
 hQ:Q.Perm P
set_option maxRecDepth 20000 in
theorem eI (s:Xl) (P:List Xd) (hs:s.n=P.length) (hm:s.n≤1000000):Ct prog 141 #[s.v,.int .i64 (s.n:Nat),cmpF] [postR s P] (fun _=>True) (PermAt s P):=by
 have hP:P.Perm P:=Qn P
 refine cF func141 ntmps141 fun av bor w0=>?_
 repeat' (first|refine gs ?_|fail)
 refine ao (ι:=StaI P s.n 20) (fun r=>⟨[(0,s.v),(1,.int .i64 (s.n:Nat)),(2,cmpF),(6,.int .i64 20),(7,.int .i64 (r.a:Nat)),(8,.int .i64 (r.b:Nat))],[postR s r.Q],fun _=>True⟩) (fun r=>s.n-r.a) ⟨0,20,Z4 _,rfl,P,hP⟩ (ai al (aj _) fun _ h=>h) fun r=>?_
 obtain ⟨a,b,h1,h2,Q,hQ⟩:=r
 simp only
 repeat' (first|refine dA (q:=20) (hq:=by omega) ?_|refine gs ?_|(refine eM (P:=P) (hQ:=by assumption) (hc:=fun Q hQ=>cu s Q a b (hs.trans hQ.length_eq.symm) hm aa aa) fun Q2 hQ2=>?_)|(refine eM (P:=P) (hQ:=by assumption) (hc:=fun Q hQ=>cu s Q a s.n (hs.trans hQ.length_eq.symm) hm aa aa) fun Q2 hQ2=>?_)|(refine gp ?_ ?_<;>intro hx_ this)|fail)
 · exact ⟨(⟨b,b+20,by omega,rfl,Q2,hQ2⟩:StaI P s.n 20),(by show s.n-b<s.n-a;omega),ai al (aj _) fun _ h=>h⟩
 · refine ao (ι:=StaO P s.n) (fun r=>⟨[(0,s.v),(1,.int .i64 (s.n:Nat)),(2,cmpF),(6,.int .i64 (r.z:Nat))],[postR s r.Q],fun _=>True⟩) (fun r=>s.n-r.z) ⟨20,by omega,by omega,Q2,hQ2⟩ (ai al (aj _) fun _ h=>h) fun r=>?_
   clear h1 h2 hQ hQ2
   obtain ⟨z,h1,h2,Q,hQ⟩:=r
   simp only
   repeat' (first|refine pz (p:=2) (hq:=by omega) ?_|refine gs ?_|(refine gp ?_ ?_<;>intro hx_ this)|fail)
   · have hzn:z<s.n:=by omega
     refine ao (ι:=StaI P s.n (2*z)) (fun r=>⟨[(0,s.v),(1,.int .i64 (s.n:Nat)),(2,cmpF),(6,.int .i64 (z:Nat)),(7,.int .i64 (r.a:Nat)),(8,.int .i64 (r.b:Nat))],[postR s r.Q],fun _=>True⟩) (fun r=>s.n-r.a) ⟨0,2*z,Z4 _,(ZU _).symm,Q,hQ⟩ (ai al (aj _) fun _ h=>h) fun r=>?_
     obtain ⟨a,b,h3,h4,Q3,hQ3⟩:=r
     simp only
     repeat' (first|refine dA (hq:=by omega) ?_|refine pz (p:=2) (hq:=by omega) ?_|refine pz (q:=2) (hq:=by omega) ?_|refine gs ?_|(refine eM (P:=P) (hQ:=by assumption) (hc:=fun Q hQ=>bU (b-a) s Q a (a+z) b (ZX _) (hs.trans hQ.length_eq.symm) hm aa aa aa) fun Q2 hQ2=>?_)|(refine eM (P:=P) (hQ:=by assumption) (hc:=fun Q hQ=>bU (s.n-a) s Q a (a+z) s.n (ZX _) (hs.trans hQ.length_eq.symm) hm aa aa aa) fun Q2 hQ2=>?_)|(refine gp ?_ ?_<;>intro hx_ this)|fail)
     · exact ⟨(⟨b,b+2*z,by omega,rfl,Q2,hQ2⟩:StaI P s.n (2*z)),(by show s.n-b<s.n-a;omega),ai al (aj _) fun _ h=>h⟩
     all_goals
      refine ⟨(⟨z*2,by omega,by omega,_,?_⟩:StaO P s.n),(by show s.n-z*2<s.n-z;omega),ai al (aj _) fun _ h=>h⟩
      assumption
   · exact aN (aF rfl) ⟨rfl,Q,hQ,rfl⟩
theorem sortStable_ct (s:Xl) (P:List Xd) (hs:s.n=P.length) (hm:s.n≤1000000):Ct prog 82 #[s.v,cmpF] [postR s P] (fun _=>True) (PermAt s P):=by
 have hP:P.Perm P:=Qn P
 refine cF func82 ntmps82 fun av bor w0=>?_
 repeat' (first|refine gs ?_|(refine eM (P:=P) (hQ:=by assumption) (hc:=fun Q hQ=>eI s Q (hs.trans hQ.length_eq.symm) hm) fun Q2 hQ2=>?_)|fail)
 exact aN (aF rfl) ⟨rfl,Q2,hQ2,rfl⟩
end Go.Proofs.YtaolfiikahlmkaaGreatDoor
namespace Go.Proofs.YtaolfiikahlmkaaGreatDoor
open Go Go.Proofs Sy Tryz
theorem mI (L:List Xd):∀ cs∈L.map Xd.cells,cs.all (·.oneCell')=true:=by
 intro r hr
 obtain ⟨a,_,rfl⟩:=QJ.1 hr
 rfl
def AllPAt (l:List Xb) (u:Value) (X:World→Prop):Prop:=∃ (s:Xl) (P:List Xd),u=s.v∧(P.map Xd.can).Perm (l.flatMap postsV)∧P.length≤1000000∧∀ w,X w→Xf w 11 s (P.map Xd.cells)
def Behind (w:World) (P:List Xd):Prop:=∀ p∈P,Strs w p.to p.toL∧Ints w p.ed p.edL
def AllAtS (l:List Xb) (u:Value) (X:World→Prop):Prop:=∃ (s:Xl) (P:List Xd),u=s.v∧(P.map Xd.can).Perm (l.flatMap postsV)∧P.length≤1000000∧∀ w,X w→Xf w 11 s (P.map Xd.cells)∧Behind w P
theorem AllAtS.weak {l:List Xb} {u:Value} {X:World→Prop} (h:AllAtS l u X):AllPAt l u X:=by
 obtain ⟨s,P,h1,h2,h3,h4⟩:=h
 exact ⟨s,P,h1,h2,h3,fun w hw=>(h4 w hw).1⟩
theorem Behind.nil {w:World}:Behind w []:=fun p hp=>(Qk hp).elim
theorem Behind.app {w:World} {P Q:List Xd} (h:Behind w P) (k:Behind w Q):Behind w (P++Q):=fun p hp=>(Qy.1 hp).elim (h p) (k p)
structure AllI (l:List Xb) where
 k:Nat
 hk:k≤l.length
 P:List Xd
 hP:P.map Xd.can=(l.take k).flatMap postsV
 hm:P.length≤k*1000
 n:Nat
 hn:n=P.length
 xs:List Value
 hxs:xs=(P.map Xd.cells).flatten
 A:Option Addr
 c:Nat
theorem BW (s:Xl) (l:List Xb) (hok:∀ c∈l,Xx c.actsL) (hlen:∀ c∈l,c.actsL.length≤1000) (hll:l.length≤1000):Mk prog 42 #[s.v] (fun w=>Chains w s l∧Xi w) (AllAtS l):=by
 refine dE func42 ntmps42 fun av bor w0=>?_
 refine aR (p:=s.n=l.length∧s.n≤maxLen∧(0<l.length→s.p.isSome=true)) (fun w h=>⟨h.1.len_,h.1.max_,h.1.some_⟩) fun ⟨hl,hm,hp⟩=>?_
 simp only [maxLen] at hm
 refine cD 68 11 ?_
 repeat' (first|refine gs ?_|fail)
 refine ao (ι:=AllI l) (fun i=>⟨[(3,.slice i.A i.n i.c),(6,s.v),(7,.int .i64 (s.n:Nat)),(8,.int .i64 (i.k:Nat))],[orow 68 11 (.slice i.A i.n i.c) i.n i.xs],fun w=>(Chains w s l∧Xi w)∧Behind w i.P⟩) (fun i=>l.length-i.k) ⟨0,Z4 _,[],rfl,Z4 _,0,rfl,[],rfl,none,0⟩ (ai al (aj _) fun _ h=>⟨h,Behind.nil⟩) fun i=>?_
 obtain ⟨k,hk,P,hP,hPm,n,hn,xs,hxs,A,cp⟩:=i
 simp only
 repeat' (first|refine gs ?_|(refine gp ?_ ?_<;>intro hx_ this)|fail)
 · have hlt:k<l.length:=by omega
   have hp':=hp aa
   obtain ⟨c,hc⟩:∃ c,l[k]?=some c:=⟨_,Zb hlt⟩
   have hcm:=Z6 hc
   have hcl:=hlen c hcm
   have hof:=AP c (hok c hcm) aa
   repeat' (first|refine gs ?_|refine gs1 fun _=>?_|(refine aD (q:=k*6) ?_)|(refine aM (cs:=c.cells) (hF:=fun w h=>Chains.get h.1.1 hc) ?_)|fail)
   refine cd (hc:=hof) (hX:=fun w h=>⟨h.1.1.2 c hcm,h.1.2⟩) fun v1 X1 h1=>?_
   obtain ⟨s1,Q,rfl,hQ,hQl,hw⟩:=h1
   refine ld (p:=s1.n=Q.length) (fun w h=>by simpa using Xf.len (hw w h.2).1) fun hl1=>?_
   have hnl:n+s1.n≤1000000:=by omega
   refine aJ (size:=11) (news:=(Q.map Xd.cells).flatten) (q:=s1.n) rfl rfl rfl rfl (fun _=>At.there _ (At.here _)) (fun w G=>iW (hw w G.keep.now.2).1 (mI Q)) aa (by simp only [maxLen];omega) rfl ?_ rfl ?_
   · (with_reducible rfl)
   intro A2 c2
   repeat' (first|refine gs ?_|fail)
   exact ⟨(⟨k+1,hlt,P++Q,by rw [ZW,hP,hQ,Qg,hc,Qu,QQ,List.flatMap_cons,List.flatMap_nil,ZJ],by rw [ZA];omega,n+s1.n,by rw [ZA,hn,hl1],xs++(Q.map Xd.cells).flatten,by rw [hxs,ZW,List.flatten_append],A2,c2⟩:AllI l),(by show l.length-(k+1)<l.length-k;omega),ai al (Z2 _ (aj _)) fun w h=>⟨h.1.1,h.1.2.app (hw w h.2).2⟩⟩
 · have hkE:k=l.length:=by omega
   subst hn hxs
   have hPb:P.length≤1000000:=by omega
   have hst:=sortStable_ct ⟨A,P.length,cp⟩ P rfl hPb
   repeat' (first|refine gs ?_|(refine bS (hc:=hst) (h:=fun Q hQ=>?_))|fail)
   exact ab (ae rfl rfl) ⟨⟨A,P.length,cp⟩,Q,rfl,by
    have h1:=hQ.map Xd.can
    rw [hP,hkE,Qh] at h1
    exact h1,by rw [hQ.length_eq];exact hPb,fun w h=>⟨bm (h.2 _ am) (by rw [ZF];exact hQ.length_eq.symm) (cells11 Q),fun p hp=>h.1.2 p (hQ.mem_iff.1 hp)⟩⟩
theorem Ev (s:Xl) (l:List Xb) (hok:∀ c∈l,Xx c.actsL) (hlen:∀ c∈l,c.actsL.length≤1000) (hll:l.length≤1000):Mk prog 42 #[s.v] (fun w=>Chains w s l∧Xi w) (AllPAt l):=vv (BW s l hok hlen hll) fun u X h=>h.weak
theorem j4:∀ (ks:List ByteArray) (k:ByteArray),mget (setM ks) k=bif hasS ks k then some (.bool true) else none
 | [],_=>rfl
 | a::ks,k=>by
  have ih:=j4 ks k
  have e:Xk.eqb k a=seqB k a:=Bool.eq_iff_iff.2 ((Xk.eqb_iff k a).trans seqB_iff.symm)
  simp only [setM,Z1,mget,hasS,List.any_cons,e] at ih ⊢
  cases seqB k a with
  | true=>rfl
  | false=>simpa using ih
section
variable {N:Nat} {av bor:List Nat} {w0:World} {ops:Array Oper} {rest:List Oper} {k:St→Prop} {E:Env} {loc:List Xm} {X:World→Prop} {x:Operand} {st:St}
variable {n:Nat} {ty:TypeId} {pos:String} {af:Array Edge} {g:Option (Nat×Bool)} {bb want:Bool}
theorem qO {m x:Operand} {q:Nat} {ks:List ByteArray} {kk:ByteArray} (h:Sw prog N av bor w0 ops rest ⟨(n,.bool (hasS ks kk))::E,loc,X⟩ k) (hm:ev E m=some (.map (some q)):=by rfl) (hx:ev E x=some (.string kk):=by rfl) (hl:mapr q (setM ks)∈loc:=by exact aQ) (hg:gdB ops E g=some (bb,want):=by rfl) (hb:bb=want:=by exact ar) (hd:Nat.blt n N=true:=by rfl):Sw prog N av bor w0 ops (⟨some n,.lookup 117 m x false,ty,pos,af,g⟩::rest) ⟨E,loc,X⟩ k:=by
 refine ft (κ:=ByteArray) (kk:=kk) (o:=_) hm hx (cU hl) (j4 ks kk) hg hb hd ?_
 have e:(bif hasS ks kk then some (Value.bool true) else none).getD (Value.bool false)=.bool (hasS ks kk):=by cases hasS ks kk<;>rfl
 exact e▸h
theorem vT (q1 q2 q3 q4:Nat) (hx:ev st.env x=some (setsV q1 q2 q3 q4)):Sy.Yields prog N av bor w0 st (.field 119 x 2) ty (.map (some q3)):=Sy.Yields.mk fun A w ok d pos af g=>by
 simp only [setsV] at hx
 simp [execOp,ok.eval hx,Instr.field,run_underlying underlying119,asAgg,part,isAgg,run_underlying underlying117]
theorem ml {q1 q2 q3 q4:Nat} (h:Sw prog N av bor w0 ops rest ⟨(n,.map (some q3))::E,loc,X⟩ k) (hx:ev E x=some (setsV q1 q2 q3 q4):=by rfl) (hg:gdB ops E g=some (bb,want):=by rfl) (hbb:bb=want:=by exact ar) (hd:Nat.blt n N=true:=by rfl) :
  Sw prog N av bor w0 ops (⟨some n,.field 119 x 2,ty,pos,af,g⟩::rest) ⟨E,loc,X⟩ k:=ak (vT q1 q2 q3 q4 hx) hg hbb hd h
end
def chainC (l:List Xb) (id:ByteArray):Xb:=(findC l id).getD Xb.zero
def tieC (l:List Xb) (id:ByteArray):TieS:=tieV (chainC l id).actsL ((chainC l id).acts.n:Int)
theorem oY (l:List Xb) (id:ByteArray):(chainC l id∈l∧(chainC l id).id=id)∨chainC l id=Xb.zero:=by
 unfold chainC
 cases h:findC l id with
 | none=>exact .inr rfl
 | some c =>
  rw [findC] at h
  exact .inl ⟨Qz h,seqB_iff.1 (List.find?_some (p:=fun c:Xb=>seqB c.id id) h)⟩
theorem yg {l:List Xb} (id:ByteArray) {w:World} {s:Xl} (h:Chains w s l):(chainC l id).at_ w:=by
 rcases oY l id with ⟨hm,_⟩|hz
 · exact h.2 _ hm
 · rw [hz];exact ⟨cj w 20,fun a ha=>(Qk ha).elim⟩
theorem yf {l:List Xb} (id:ByteArray) (h:∀ c∈l,Xx c.actsL):Xx (chainC l id).actsL:=by
 rcases oY l id with ⟨hm,_⟩|hz
 · exact h _ hm
 · rw [hz];exact ⟨fun a ha=>(Qk ha).elim,fun a ha=>(Qk ha).elim⟩
theorem EJ (s:Xl) (l:List Xb) (id:ByteArray) (hok:∀ c∈l,Xx c.actsL) :
  Ct prog 60 #[s.v,.string id] [] (fun w=>Chains w s l∧Xi w) fun u R _=>∃ q1 q2 q3 q4,u=setsV q1 q2 q3 q4∧R=setsR q1 q2 q3 q4 (tieC l id):=by
 refine eu (args:=[_,_]) (Post:=fun u R=>∃ q1 q2 q3 q4,u=setsV q1 q2 q3 q4∧R=setsR q1 q2 q3 q4 (tieC l id)) _ func60 rfl ntmps60 rfl fun av bor w0=>?_
 have hD:=yf id hok
 have hti:=E9 (chainC l id) hD ((chainC l id).acts.n:Int)
 have hfi:Pu prog 12 #[s.v,.string id] (fun w=>Chains w s l) (.tuple #[(chainC l id).v,.bool (findC l id).isSome]):=D2 s l id
 generalize hB:(findC l id).isSome=B at *
 repeat' (first|(refine ag (hc:=hfi) ?_)|refine gs ?_|refine gs1 fun _=>?_|fail)
 refine pG (hc:=hti) (hX:=fun w h=>⟨yg id h.1,h.2⟩) ?_
 rintro _ _ X' ⟨q1,q2,q3,q4,rfl,rfl⟩
 repeat' (first|refine gs ?_|fail)
 exact ab (cM rfl rfl aQ (by rfl)) ⟨_,QE _ _,q1,q2,q3,q4,rfl,rfl⟩
def blockedV (l:List Xb) (a b:ByteArray):Bool:=hasS (tieC l a).b b||hasS (tieC l b).b a
theorem nt (s:Xl) (l:List Xb) (a b:ByteArray) (hok:∀ c∈l,Xx c.actsL):Pu prog 25 #[s.v,.string a,.string b] (fun w=>Chains w s l∧Xi w) (.bool (blockedV l a b)):=by
 refine aw func25 ntmps25 fun av bor w0=>?_
 have h1:=EJ s l a hok
 have h2:=EJ s l b hok
 unfold blockedV
 generalize tieC l a=ta at *
 generalize tieC l b=tb at *
 repeat' (first|refine gs ?_|fail)
 refine pG (hc:=h1) (hX:=fun w h=>h) ?_
 rintro _ _ X1 ⟨q1,q2,q3,q4,rfl,rfl⟩
 unfold setsR
 repeat' (first|refine gs ?_|(refine ml ?_)|(refine qO ?_)|(refine gp ?_ ?_<;>intro hx_ this)|fail)
 · (all_goals (apply ab;apply ae;rfl;rfl));all_goals (simp only [*,Zt,Zr,Zf,Ze,Zh,Zg,Zk,Zj,Zn,Zl,Zs,Zm,Zq,Zi];done)
 · refine pG (hc:=h2) (hX:=fun w h=>h.1) ?_
   rintro _ _ X2 ⟨p1,p2,p3,p4,rfl,rfl⟩
   unfold setsR
   repeat' (first|refine gs ?_|(refine ml ?_)|(refine qO ?_)|fail)
   (all_goals (apply ab;apply ae;rfl;rfl));all_goals (simp only [*,Zt,Zr,Zf,Ze,Zh,Zg,Zk,Zj,Zn,Zl,Zs,Zm,Zq,Zi];done)
end Go.Proofs.YtaolfiikahlmkaaGreatDoor
