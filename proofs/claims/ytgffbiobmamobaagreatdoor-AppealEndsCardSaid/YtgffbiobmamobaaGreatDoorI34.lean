/- Joined. -/
import Derived.Test.YtgffbiobmamobaaGreatDoorI0
import Derived.Test.YtgffbiobmamobaaGreatDoorI1
import Derived.Test.YtgffbiobmamobaaGreatDoorI14
set_option linter.unusedVariables false
set_option linter.unusedSimpArgs false
set_option maxHeartbeats 16000000
namespace Go.Proofs.YtgffbiobmamobaaGreatDoor
open Go Go.Proofs Sy
theorem shr1 (x:Nat):shrV .u64 (x:Int) 1=((x/2:Nat):Int):=by
 show (x:Int).fdiv (2 ^ (min (1:Int).toNat 64))=_
 rw [show (2:Int) ^ (min (1:Int).toNat 64)=((2:Nat):Int) from rfl,←Int.ofNat_fdiv]
section
variable {N:Nat} {av bor:List Nat} {w0:World} {ops:Array Oper} {rest:List Oper} {k:St→Prop} {E:Env} {loc:List Xl} {X:World→Prop} {d:Option Tmp} {ty:TypeId} {pos:String} {af:Array Edge} {g:Option (Nat×Bool)} {bb want:Bool} {n:Nat} {t t2:TypeId}
theorem jQ {p:Nat} {x y:Operand} (h:Sw Tryz.prog N av bor w0 ops rest ⟨(n,.int .u64 ((p/2:Nat):Int))::E,loc,X⟩ k) (hx:ev E x=some (.int .u64 (p:Nat)):=by rfl) (hy:ev E y=some (.int .u64 1):=by rfl) (hg:gdB ops E g=some (bb,want):=by rfl) (hbb:bb=want:=by exact ax) (hd:Nat.blt n N=true:=by rfl) :
  Sw Tryz.prog N av bor w0 ops (⟨some n,.binOp .shr t x y t2,ty,pos,af,g⟩::rest) ⟨E,loc,X⟩ k:=vq hx hy (by decide) hg hbb hd (by rw [shr1];exact h)
theorem ya {p:Nat} (h:p<9223372036854775808):IntKind.u64.wrap (p:Int)=(p:Int):=by
 simp [IntKind.wrap,IntKind.signed,IntKind.bits]
 omega
theorem mF [h1:Xu Tryz.prog t .i64] [h2:Xu Tryz.prog t2 .u64] {p:Nat} {x:Operand} (h:Sw Tryz.prog N av bor w0 ops rest ⟨(n,.int .u64 (p:Nat))::E,loc,X⟩ k) (hx:ev E x=some (.int .i64 (p:Nat)):=by rfl) (hq:p<9223372036854775808) (hg:gdB ops E g=some (bb,want):=by rfl) (hbb:bb=want:=by exact ax) (hd:Nat.blt n N=true:=by rfl) :
  Sw Tryz.prog N av bor w0 ops (⟨some n,.convert t t2 x,ty,pos,af,g⟩::rest) ⟨E,loc,X⟩ k:=iQ hx (ya hq) hg hbb hd h
theorem mG [h1:Xu Tryz.prog t .u64] [h2:Xu Tryz.prog t2 .i64] {p:Nat} {x:Operand} (h:Sw Tryz.prog N av bor w0 ops rest ⟨(n,.int .i64 (p:Nat))::E,loc,X⟩ k) (hx:ev E x=some (.int .u64 (p:Nat)):=by rfl) (hq:p<9223372036854775808) (hg:gdB ops E g=some (bb,want):=by rfl) (hbb:bb=want:=by exact ax) (hd:Nat.blt n N=true:=by rfl) :
  Sw Tryz.prog N av bor w0 ops (⟨some n,.convert t t2 x,ty,pos,af,g⟩::rest) ⟨E,loc,X⟩ k:=iQ hx (IntWalk.i64_in _ ac) hg hbb hd h
theorem yd {x y:Operand} {k':IntKind} {a b:Int} [hI:Xu Tryz.prog t k'] (h:Sw Tryz.prog N av bor w0 ops rest ⟨(n,.bool false)::E,loc,X⟩ k) (hx:ev E x=some (.int k' a):=by rfl) (hy:ev E y=some (.int k' b):=by rfl) (hab:¬ a<b:=by first|omega|decide) (hg:gdB ops E g=some (bb,want):=by rfl) (hbb:bb=want:=by exact ax) (hd:Nat.blt n N=true:=by rfl) :
  Sw Tryz.prog N av bor w0 ops (⟨some n,.binOp .lss t x y t2,ty,pos,af,g⟩::rest) ⟨E,loc,X⟩ k:=cU (hx:=hx) (hy:=hy) (hg:=hg) (hbb:=hbb) (hd:=hd) (h:=by
   have e:∀ u,u=Value.bool false→Sw Tryz.prog N av bor w0 ops rest ⟨(n,u)::E,loc,X⟩ k:=fun u hu=>hu▸h
   exact e _ (by simp [hab]))
theorem rn {x y:Operand} {k':IntKind} {a b:Int} [hI:Xu Tryz.prog t k'] (h:Sw Tryz.prog N av bor w0 ops rest ⟨(n,.bool true)::E,loc,X⟩ k) (hx:ev E x=some (.int k' a):=by rfl) (hy:ev E y=some (.int k' b):=by rfl) (hab:a<b:=by first|omega|decide) (hg:gdB ops E g=some (bb,want):=by rfl) (hbb:bb=want:=by exact ax) (hd:Nat.blt n N=true:=by rfl) :
  Sw Tryz.prog N av bor w0 ops (⟨some n,.binOp .lss t x y t2,ty,pos,af,g⟩::rest) ⟨E,loc,X⟩ k:=cU (hx:=hx) (hy:=hy) (hg:=hg) (hbb:=hbb) (hd:=hd) (h:=by
   have e:∀ u,u=Value.bool true→Sw Tryz.prog N av bor w0 ops rest ⟨(n,u)::E,loc,X⟩ k:=fun u hu=>hu▸h
   exact e _ (by simp [hab]))
theorem ek {x:Operand} {xs:List Operand} {ats:Array TypeId} {f:FuncId} {args:List Value} {s:Xi} {P Q:List Xd} (h:∀ Q':List Xd,Q'.Perm P→Sw Tryz.prog N av bor w0 ops rest ⟨putE E d (.tuple #[]),[postR s Q'],X⟩ k) (hQ:Q.Perm P) (hx:ev E x=some (.func (.func f) #[] #[]):=by rfl) (ha:evs E xs=some args:=by rfl) (hg:gdB ops E g=some (bb,want):=by rfl) (hb:bb=want:=by exact ax) (hd:inB N d=true:=by rfl) (hf:Eb Tryz.prog f:=by first|infer_instance|exact ⟨ai⟩) (hc:∀ Q:List Xd,Q.Perm P→Ct Tryz.prog f args.toArray [postR s Q] (fun _=>True) (PermAt s Q)) :
  Sw Tryz.prog N av bor w0 ops (⟨d,.call ⟨.value x,xs.toArray,ats⟩,ty,pos,af,g⟩::rest) ⟨E,[postR s Q],X⟩ k:=fF hx ha hg hb hd hf (hc Q hQ) fun Q' h1=>h Q' (h1.trans hQ)
end
structure BinI (lo hi:Nat) where
 i:Nat
 j:Nat
 h1:lo≤i
 h2:i≤j
 h3:j≤hi
structure UpI (P:List Xd) (a:Nat) where
 k:Nat
 h1:a≤k
 Q:List Xd
 hQ:Q.Perm P
structure DownI (P:List Xd) (i m:Nat) where
 k:Nat
 h1:i≤k
 h2:k≤m
 Q:List Xd
 hQ:Q.Perm P
structure MerI (a m b mid:Nat) where
 i:Nat
 j:Nat
 h1:i≤j
 h2:mid<m→mid+m≤i+b∧j≤mid
 h3:m≤mid→a≤i∧j≤m
set_option maxRecDepth 20000 in
theorem gg:∀ (d:Nat) (s:Xi) (P:List Xd) (a m b:Nat),b-a≤d→s.n=P.length→s.n≤1000000→a<m→m<b→b≤s.n →
  Ct Tryz.prog 124 #[s.v,.int .i64 (a:Nat),.int .i64 (m:Nat),.int .i64 (b:Nat),cmpF] [postR s P] (fun _=>True) (PermAt s P)
 | 0,s,P,a,m,b,hd,hs,hm,ha,hb,hbs=>absurd hd ac
 | d+1,s,P,a,m,b,hd,hs,hm,ha,hb,hbs=>by
  have ih:=gg d
  have hP:P.Perm P:=List.Perm.refl P
  refine dZ Tryz.func124 Tryz.ntmps124 fun av bor w0=>?_
  refine cY (r:=postR s P) ay (p:=0<s.n→s.p.isSome=true) (fun w h hn=>cG h hn) fun hp=>?_
  have hp':=hp ac
  by_cases hA:m-a=1
  · repeat' (first|refine dP (hq:=by omega) ?_|refine cq ?_|refine gs ?_|(refine gp ?_ ?_<;>intro hx_ this)|fail)
    refine az (ι:=BinI m b) (fun r=>⟨[(0,s.v),(1,.int .i64 (a:Nat)),(4,cmpF),(10,.int .i64 (r.i:Nat)),(11,.int .i64 (r.j:Nat))],[postR s P],fun _=>True⟩) (fun r=>r.j-r.i) ⟨m,b,by omega,by omega,by omega⟩ (ak an (al _) fun _ h=>h) fun r=>?_
    obtain ⟨i,j,h1,h2,h3⟩:=r
    simp only
    repeat' (first|refine db (hq:=by omega) ?_|refine mF (hq:=by omega) ?_|refine jQ ?_|refine mG (hq:=by omega) ?_|refine gs ?_|(refine gp ?_ ?_<;>intro hx_ this)|fail)
    · have hlt:i<j:=by omega
      obtain ⟨x,hx⟩:∃ x,P[(i+j)/2]?=some x:=⟨_,List.getElem?_eq_getElem ac⟩
      obtain ⟨y,hy⟩:∃ y,P[a]?=some y:=⟨_,List.getElem?_eq_getElem ac⟩
      have hcm:=jg x y
      generalize cmpB x.id y.id=z at *
      unfold cmpF
      (refine ao ⟨[0,1,2,3,5,6,7],[(4,⟨[],[(8,⟨[],[(9,⟨[10],[]⟩)]⟩)]⟩),(8,⟨[],[(4,⟨[],[(9,⟨[10],[]⟩)]⟩)]⟩)]⟩ [] (fun _=>True) (h:=?_))
      all_goals repeat' (first|(refine ag (hc:=hcm) ?_)|refine gd ?_|refine aJ (hy:=by first|(apply bk (q:=((i+j)/2)*11);rfl;rfl;omega;omega;assumption;(first|rfl|omega))|(apply bk (q:=(a)*11);rfl;rfl;omega;omega;assumption;(first|rfl|omega))) ?_|refine aF ?_ (h':=?_)|exact aG|(refine am (dB (i:=(i+j)/2) (P:=P) rfl ay ac hx) rfl rfl rfl ?_)|(refine am (dB (i:=a) (P:=P) rfl ay ac hy) rfl rfl rfl ?_)|(refine gq ?_ ?_<;>intro hx_ this)|fail)
      all_goals
       repeat' (first|refine db (q:=1) (hq:=by omega) ?_|refine gs ?_|(refine gp ?_ ?_<;>intro hx_ this)|fail)
       · exact ⟨(⟨(i+j)/2+1,j,by omega,by omega,h3⟩:BinI m b),(by show j-((i+j)/2+1)<j-i;omega),ak an (al _) fun _ h=>h⟩
       · exact ⟨(⟨i,(i+j)/2,h1,by omega,by omega⟩:BinI m b),(by show (i+j)/2-i<j-i;omega),ak an (al _) fun _ h=>h⟩
    · refine az (ι:=UpI P a) (fun r=>⟨[(0,s.v),(10,.int .i64 (i:Nat)),(13,.int .i64 (r.k:Nat))],[postR s r.Q],fun _=>True⟩) (fun r=>i-r.k) ⟨a,Nat.le_refl _,P,hP⟩ (ak an (al _) fun _ h=>h) fun r=>?_
      obtain ⟨k,h4,Q,hQ⟩:=r
      simp only
      have hl:=hQ.length_eq
      repeat' (first|refine dP (q:=1) (hq:=by omega) ?_|refine gs ?_|(refine gp ?_ ?_<;>intro hx_ this)|fail)
      · have hlt:k+1<i:=by omega
        obtain ⟨x,hx⟩:∃ x,Q[k]?=some x:=⟨_,List.getElem?_eq_getElem ac⟩
        obtain ⟨y,hy⟩:∃ y,Q[k+1]?=some y:=⟨_,List.getElem?_eq_getElem ac⟩
        (refine ao ⟨[0,1,2,3,4,5,6,7,8,10,11,12],[(9,⟨[],[(13,⟨[14],[(15,⟨[16],[(17,⟨[],[]⟩)]⟩)]⟩)]⟩),(13,⟨[],[(9,⟨[14],[(15,⟨[16],[(17,⟨[],[]⟩)]⟩)]⟩)]⟩)]⟩ [] (fun _=>True) (h:=?_))
        all_goals repeat' (first|refine gd ?_|refine aJ (hy:=by first|(apply bk (q:=(k)*11);rfl;rfl;omega;omega;assumption;(first|rfl|omega))|(apply bk (q:=(k+1)*11);rfl;rfl;omega;omega;assumption;(first|rfl|omega))) ?_|refine aF ?_ (h':=?_)|exact aG|(refine am (dB (i:=k) (P:=Q) rfl ay ac hx) rfl rfl rfl ?_)|(refine am (dB (i:=k+1) (P:=Q) rfl ay ac hy) rfl rfl rfl ?_)|((refine eT (i:=k) (p:=y) rfl rfl ac (by first|omega|(simp only [List.length_set];omega)) (At.here _) rfl ax rfl ?_))|((refine eT (i:=k+1) (p:=x) rfl rfl ac (by first|omega|(simp only [List.length_set];omega)) (At.here _) rfl ax rfl ?_))|(refine gq ?_ ?_<;>intro hx_ this)|fail)
        all_goals
         repeat' (first|refine db (q:=1) (hq:=by omega) ?_|refine gs ?_|(refine gp ?_ ?_<;>intro hx_ this)|fail)
         exact ⟨(⟨k+1,by omega,(Q.set k y).set (k+1) x,(eM hx hy).trans hQ⟩:UpI P a),(by show i-(k+1)<i-k;omega),ak an (al _) fun _ h=>h⟩
      · exact ae (aS rfl) ⟨rfl,Q,hQ,rfl⟩
  · by_cases hB:b-m=1
    · repeat' (first|refine dP (hq:=by omega) ?_|refine cq ?_|refine bK ?_|refine gs ?_|(refine gp ?_ ?_<;>intro hx_ this)|fail)
      refine az (ι:=BinI a m) (fun r=>⟨[(0,s.v),(2,.int .i64 (m:Nat)),(4,cmpF),(14,.int .i64 (r.i:Nat)),(15,.int .i64 (r.j:Nat))],[postR s P],fun _=>True⟩) (fun r=>r.j-r.i) ⟨a,m,by omega,by omega,by omega⟩ (ak an (al _) fun _ h=>h) fun r=>?_
      obtain ⟨i,j,h1,h2,h3⟩:=r
      simp only
      repeat' (first|refine db (hq:=by omega) ?_|refine mF (hq:=by omega) ?_|refine jQ ?_|refine mG (hq:=by omega) ?_|refine gs ?_|(refine gp ?_ ?_<;>intro hx_ this)|fail)
      · have hlt:i<j:=by omega
        obtain ⟨x,hx⟩:∃ x,P[m]?=some x:=⟨_,List.getElem?_eq_getElem ac⟩
        obtain ⟨y,hy⟩:∃ y,P[(i+j)/2]?=some y:=⟨_,List.getElem?_eq_getElem ac⟩
        have hcm:=jg x y
        generalize cmpB x.id y.id=z at *
        unfold cmpF
        (refine ao ⟨[0,1,2,3,5,6,7],[(4,⟨[],[(8,⟨[],[(9,⟨[10,11],[]⟩)]⟩)]⟩),(8,⟨[],[(4,⟨[],[(9,⟨[10,11],[]⟩)]⟩)]⟩)]⟩ [] (fun _=>True) (h:=?_))
        all_goals repeat' (first|(refine ag (hc:=hcm) ?_)|refine gd ?_|refine aJ (hy:=by first|(apply bk (q:=(m)*11);rfl;rfl;omega;omega;assumption;(first|rfl|omega))|(apply bk (q:=((i+j)/2)*11);rfl;rfl;omega;omega;assumption;(first|rfl|omega))) ?_|refine aF ?_ (h':=?_)|exact aG|(refine am (dB (i:=m) (P:=P) rfl ay ac hx) rfl rfl rfl ?_)|(refine am (dB (i:=(i+j)/2) (P:=P) rfl ay ac hy) rfl rfl rfl ?_)|(refine gq ?_ ?_<;>intro hx_ this)|fail)
        all_goals
         repeat' (first|refine db (q:=1) (hq:=by omega) ?_|refine gs ?_|(refine gp ?_ ?_<;>intro hx_ this)|fail)
         · exact ⟨(⟨(i+j)/2+1,j,by omega,by omega,h3⟩:BinI a m),(by show j-((i+j)/2+1)<j-i;omega),ak an (al _) fun _ h=>h⟩
         · exact ⟨(⟨i,(i+j)/2,h1,by omega,by omega⟩:BinI a m),(by show (i+j)/2-i<j-i;omega),ak an (al _) fun _ h=>h⟩
      · refine az (ι:=DownI P i m) (fun r=>⟨[(0,s.v),(14,.int .i64 (i:Nat)),(17,.int .i64 (r.k:Nat))],[postR s r.Q],fun _=>True⟩) (fun r=>r.k) ⟨m,by omega,Nat.le_refl _,P,hP⟩ (ak an (al _) fun _ h=>h) fun r=>?_
        obtain ⟨k,h4,h5,Q,hQ⟩:=r
        simp only
        have hl:=hQ.length_eq
        repeat' (first|refine gs ?_|(refine gp ?_ ?_<;>intro hx_ this)|fail)
        · have hlt:i<k:=by omega
          obtain ⟨x,hx⟩:∃ x,Q[k]?=some x:=⟨_,List.getElem?_eq_getElem ac⟩
          obtain ⟨y,hy⟩:∃ y,Q[k-1]?=some y:=⟨_,List.getElem?_eq_getElem ac⟩
          (refine ao ⟨[0,1,2,3,4,5,6,7,8,10,11,12],[(9,⟨[],[(13,⟨[14],[(15,⟨[16],[(17,⟨[],[]⟩)]⟩)]⟩)]⟩),(13,⟨[],[(9,⟨[14],[(15,⟨[16],[(17,⟨[],[]⟩)]⟩)]⟩)]⟩)]⟩ [] (fun _=>True) (h:=?_))
          all_goals repeat' (first|refine gd ?_|refine aJ (hy:=by first|(apply bk (q:=(k)*11);rfl;rfl;omega;omega;assumption;(first|rfl|omega))|(apply bk (q:=(k-1)*11);rfl;rfl;omega;omega;assumption;(first|rfl|omega))) ?_|refine aF ?_ (h':=?_)|exact aG|(refine am (dB (i:=k) (P:=Q) rfl ay ac hx) rfl rfl rfl ?_)|(refine am (dB (i:=k-1) (P:=Q) rfl ay ac hy) rfl rfl rfl ?_)|((refine eT (i:=k) (p:=y) rfl rfl ac (by first|omega|(simp only [List.length_set];omega)) (At.here _) rfl ax rfl ?_))|((refine eT (i:=k-1) (p:=x) rfl rfl ac (by first|omega|(simp only [List.length_set];omega)) (At.here _) rfl ax rfl ?_))|(refine gq ?_ ?_<;>intro hx_ this)|fail)
          all_goals
           repeat' (first|refine dP (q:=1) (hq:=by omega) ?_|refine gs ?_|(refine gp ?_ ?_<;>intro hx_ this)|fail)
           exact ⟨(⟨k-1,by omega,by omega,(Q.set k y).set (k-1) x,(eM hx hy).trans hQ⟩:DownI P i m),(by show k-1<k;omega),ak an (al _) fun _ h=>h⟩
        · exact ae (aS rfl) ⟨rfl,Q,hQ,rfl⟩
    · obtain ⟨mid,hmid⟩:∃ mid,mid=(a+b)/2:=⟨_,rfl⟩
      have hm1:a<mid:=by omega
      have hm2:mid<b:=by omega
      have hm3:2*mid≤a+b:=by omega
      have hm4:a+b≤2*mid+1:=by omega
      by_cases hmm:mid<m
      all_goals
       repeat' (first|refine bK ?_|refine ye ?_|refine yf ?_|refine dP (q:=1) (hq:=by omega) ?_|refine dP (hq:=by omega) ?_|refine db (hq:=by omega) ?_|refine mF (hq:=by omega) ?_|refine jQ ?_|refine mG (hq:=by omega) ?_|refine gs ?_|(refine gp ?_ ?_<;>intro hx_ this)|fail)
       rw [←hmid]
       first
        | refine az (ι:=MerI a m b mid) (fun r=>⟨[(0,s.v),(1,.int .i64 (a:Nat)),(2,.int .i64 (m:Nat)),(3,.int .i64 (b:Nat)),(4,cmpF),(18,.int .i64 (mid:Nat)),(19,.int .i64 ((mid+m:Nat):Int)),(20,.int .i64 (r.i:Nat)),(21,.int .i64 (r.j:Nat)),(22,.int .i64 ((mid+m-1:Nat):Int))],[postR s P],fun _=>True⟩) (fun r=>r.j-r.i) ⟨mid+m-b,mid,by omega,by omega,by omega⟩ (ak an (al _) fun _ h=>h) fun r=>?_
        | refine az (ι:=MerI a m b mid) (fun r=>⟨[(0,s.v),(1,.int .i64 (a:Nat)),(2,.int .i64 (m:Nat)),(3,.int .i64 (b:Nat)),(4,cmpF),(18,.int .i64 (mid:Nat)),(19,.int .i64 ((mid+m:Nat):Int)),(20,.int .i64 (r.i:Nat)),(21,.int .i64 (r.j:Nat)),(22,.int .i64 ((mid+m-1:Nat):Int))],[postR s P],fun _=>True⟩) (fun r=>r.j-r.i) ⟨a,m,by omega,by omega,by omega⟩ (ak an (al _) fun _ h=>h) fun r=>?_
       obtain ⟨i,j,h1,h2,h3⟩:=r
       simp only
       have hk1:a≤i:=by omega
       have hk2:j≤m:=by omega
       have hk3:i≤mid+m:=by omega
       by_cases hij:i<j
       · have hk4:(i+j)/2<j:=by omega
         have hk5:i≤(i+j)/2:=by omega
         have hk6:(i+j)/2≤mid+m-1:=by omega
         have hk7:mid+m-1-(i+j)/2<b:=by omega
         repeat' (first|refine rn ?_|refine db (hq:=by omega) ?_|refine mF (hq:=by omega) ?_|refine jQ ?_|refine mG (hq:=by omega) ?_|refine gs ?_|(refine gp ?_ ?_<;>intro hx_ this)|fail)
         obtain ⟨x,hx⟩:∃ x,P[mid+m-1-(i+j)/2]?=some x:=⟨_,List.getElem?_eq_getElem ac⟩
         obtain ⟨y,hy⟩:∃ y,P[(i+j)/2]?=some y:=⟨_,List.getElem?_eq_getElem ac⟩
         have hcm:=jg x y
         generalize cmpB x.id y.id=z at *
         unfold cmpF
         (refine ao ⟨[0,1,2,3,4,5,7,8,9],[(6,⟨[],[(10,⟨[],[(11,⟨[12,13],[]⟩)]⟩)]⟩),(10,⟨[],[(6,⟨[],[(11,⟨[12,13],[]⟩)]⟩)]⟩)]⟩ [] (fun _=>True) (h:=?_))
         all_goals repeat' (first|(refine ag (hc:=hcm) ?_)|refine gd ?_|refine aJ (hy:=by first|(apply bk (q:=(mid+m-1-(i+j)/2)*11);rfl;rfl;omega;omega;assumption;(first|rfl|omega))|(apply bk (q:=((i+j)/2)*11);rfl;rfl;omega;omega;assumption;(first|rfl|omega))) ?_|refine aF ?_ (h':=?_)|exact aG|(refine am (dB (i:=mid+m-1-(i+j)/2) (P:=P) rfl ay ac hx) rfl rfl rfl ?_)|(refine am (dB (i:=(i+j)/2) (P:=P) rfl ay ac hy) rfl rfl rfl ?_)|(refine gq ?_ ?_<;>intro hx_ this)|fail)
         all_goals
          repeat' (first|refine db (q:=1) (hq:=by omega) ?_|refine gs ?_|(refine gp ?_ ?_<;>intro hx_ this)|fail)
          · exact ⟨(⟨(i+j)/2+1,j,by omega,by omega,by omega⟩:MerI a m b mid),(by show j-((i+j)/2+1)<j-i;omega),ak an (al _) fun _ h=>h⟩
          · exact ⟨(⟨i,(i+j)/2,by omega,by omega,by omega⟩:MerI a m b mid),(by show (i+j)/2-i<j-i;omega),ak an (al _) fun _ h=>h⟩
       · have hk8:mid+m-i≤b:=by omega
         have hnl:¬ (i:Int)<(j:Int):=by omega
         repeat' (first|refine yd (hab:=by first|exact hnl|omega) ?_|refine rn ?_|refine dP (hq:=by omega) ?_|refine gs ?_|(refine ek (P:=P) (hQ:=by assumption) (hc:=fun Q hQ=>tj s Q i m (mid+m-i) cmpF (hs.trans hQ.length_eq.symm) hm ac ac ac) fun Q2 hQ2=>?_)|(refine ek (P:=P) (hQ:=by assumption) (hc:=fun Q hQ=>ih s Q a i mid ac (hs.trans hQ.length_eq.symm) hm ac ac ac) fun Q2 hQ2=>?_)|(refine ek (P:=P) (hQ:=by assumption) (hc:=fun Q hQ=>ih s Q mid (mid+m-i) b ac (hs.trans hQ.length_eq.symm) hm ac ac ac) fun Q2 hQ2=>?_)|(refine gp ?_ ?_<;>intro hx_ this)|fail)
         all_goals
          refine br (aS rfl) ⟨rfl,_,?_,rfl⟩
          assumption
end Go.Proofs.YtgffbiobmamobaaGreatDoor
