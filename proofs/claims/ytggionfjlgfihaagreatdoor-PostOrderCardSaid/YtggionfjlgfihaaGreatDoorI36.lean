/- Joined. -/
import Derived.Test.YtggionfjlgfihaaGreatDoorI0
import Derived.Test.YtggionfjlgfihaaGreatDoorI1
import Derived.Test.YtggionfjlgfihaaGreatDoorI13
set_option linter.unusedVariables false
set_option linter.unusedSimpArgs false
set_option maxHeartbeats 16000000
namespace Go.Proofs.YtggionfjlgfihaaGreatDoor
open Go Go.Proofs Sy SrG
namespace SrA
structure InsI (P:List FndX) (a b:Nat) where
 k:Nat
 h1:a+1≤k
 h2:k≤b∨k=a+1
 Q:List FndX
 hQ:Rel P Q
structure InsJ (P:List FndX) (a k:Nat) where
 j:Nat
 h1:a≤j
 h2:j≤k
 Q:List FndX
 hQ:Rel P Q
theorem bY (s:Xj) (P:List FndX) (a b:Nat) (hs:s.n=P.length) (hm:s.n≤1000000) (ha:a≤s.n) (hb:b≤s.n) :
  Ct Tryz.prog 221 #[s.v,.int .i64 (a:Nat),.int .i64 (b:Nat),cmpF] [postR s P] (fun _=>True) (RelAt s P):=by
 refine bT Tryz.func221 Tryz.ntmps221 fun av bor w0=>?_
 refine bH (r:=postR s P) ap (p:=0<s.n→s.p.isSome=true) (fun w h hn=>bu h hn) fun hp=>?_
 repeat' (first|refine aK (q:=1) (hq:=by omega) ?_|refine gs ?_|(refine gp ?_ ?_<;>intro hx_ this)|fail)
 refine am (ι:=InsI P a b) (fun i=>⟨[(0,s.v),(1,.int .i64 (a:Nat)),(2,.int .i64 (b:Nat)),(3,cmpF),(8,.int .i64 (i.k:Nat))],[postR s i.Q],fun _=>True⟩) (fun i=>b-i.k) ⟨a+1,Nat.le_refl _,.inr rfl,P,Rel.refl _⟩ (ae al (aj _) fun _ h=>h) fun i=>?_
 obtain ⟨k,h1,h2,Q,hQ⟩:=i
 simp only
 have hl:=hQ.1.length_eq
 repeat' (first|refine gs ?_|(refine gp ?_ ?_<;>intro hx_ this)|fail)
 · have hkb:k<b:=by omega
   refine am (ι:=InsJ P a k) (fun i=>⟨[(0,s.v),(1,.int .i64 (a:Nat)),(2,.int .i64 (b:Nat)),(3,cmpF),(8,.int .i64 (k:Nat)),(9,.int .i64 (i.j:Nat))],[postR s i.Q],fun _=>True⟩) (fun i=>i.j) ⟨k,by omega,Nat.le_refl _,Q,hQ⟩ (ae al (aj _) fun _ h=>h) fun i=>?_
   obtain ⟨j,h3,h4,Q2,hQ2⟩:=i
   simp only
   have hl2:=hQ2.1.length_eq
   have hp':=hp aa
   by_cases hja:a<j
   · obtain ⟨x,hx⟩:∃ x,Q2[j]?=some x:=⟨_,List.getElem?_eq_getElem aa⟩
     obtain ⟨y,hy⟩:∃ y,Q2[j-1]?=some y:=⟨_,List.getElem?_eq_getElem aa⟩
     have hcm:=dw x y
     have hsx:Srt P→¬ cmpX x y<0:=fun hs=>hQ2.srt hs (j-1) j y x aa hy hx
     generalize cmpX x y=z at *
     apply cw_seq
     apply cw_seq
     unfold cmpF
     (refine ao ⟨[0,1,2,3,4,5,6,7,9,10,11,12],[(8,⟨[],[(13,⟨[],[(14,⟨[15,16],[]⟩)]⟩)]⟩),(13,⟨[],[(8,⟨[],[(14,⟨[15,16],[]⟩)]⟩)]⟩)]⟩ [] (fun _=>True) (h:=?_))
     all_goals repeat' (first|refine ax (hy:=by first|(apply kv;rfl;rfl;omega)) ?_|(refine ag (hc:=hcm) ?_)|refine gd ?_|refine ax (hy:=by first|(apply aG (q:=p22 (j));rfl;rfl;omega;omega;assumption;(rw [cZ];omega))|(apply aG (q:=p22 (j-1));rfl;rfl;omega;omega;assumption;(rw [cZ];omega))) ?_|refine ay ?_ (h':=?_)|exact az|(refine ak (bq (i:=j) (P:=Q2) rfl ap aa hx) rfl rfl rfl ?_)|(refine ak (bq (i:=j-1) (P:=Q2) rfl ap aa hy) rfl rfl rfl ?_)|(refine gq ?_ ?_<;>intro hx_ this)|fail)
     all_goals
      repeat' (first|refine gs ?_|(refine gp ?_ ?_<;>intro hx_ this)|fail)
      · (refine ao ⟨[0,1,2,3,4,5,6,7,8,10,11,12],[(9,⟨[],[(13,⟨[14],[(15,⟨[16],[(17,⟨[],[]⟩)]⟩)]⟩)]⟩),(13,⟨[],[(9,⟨[14],[(15,⟨[16],[(17,⟨[],[]⟩)]⟩)]⟩)]⟩)]⟩ [] (fun _=>True) (h:=?_))
        all_goals repeat' (first|refine gd ?_|refine ax (hy:=by first|(apply aG (q:=p22 (j));rfl;rfl;omega;omega;assumption;(rw [cZ];omega))|(apply aG (q:=p22 (j-1));rfl;rfl;omega;omega;assumption;(rw [cZ];omega))) ?_|refine ay ?_ (h':=?_)|exact az|(refine ak (bq (i:=j) (P:=Q2) rfl ap aa hx) rfl rfl rfl ?_)|(refine ak (bq (i:=j-1) (P:=Q2) rfl ap aa hy) rfl rfl rfl ?_)|((refine bO (i:=j) (p:=y) rfl rfl aa (by first|omega|(simp only [List.length_set];omega)) (At.here _) rfl aq rfl ?_))|((refine bO (i:=j-1) (p:=x) rfl rfl aa (by first|omega|(simp only [List.length_set];omega)) (At.here _) rfl aq rfl ?_))|(refine gq ?_ ?_<;>intro hx_ this)|fail)
        all_goals
         repeat' (first|refine aP (q:=1) (hq:=by omega) ?_|refine gs ?_|(refine gp ?_ ?_<;>intro hx_ this)|fail)
         exact ⟨(⟨j-1,by omega,by omega,(Q2.set j y).set (j-1) x,hQ2.swap hx hy (fun hs=>hsx hs (by first|assumption|omega))⟩:InsJ P a k),(by show j-1<j;omega),ae al (aj _) fun _ h=>h⟩
      · repeat' (first|refine aK (q:=1) (hq:=by omega) ?_|refine gs ?_|(refine gp ?_ ?_<;>intro hx_ this)|fail)
        exact ⟨(⟨k+1,by omega,by omega,Q2,hQ2⟩:InsI P a b),(by show b-(k+1)<b-k;omega),ae al (aj _) fun _ h=>h⟩
   · apply cw_seq
     apply cw_seq
     unfold cmpF
     (refine ao ⟨[0,1,2,3,4,5,6,7,9,10,11,12],[(8,⟨[],[(13,⟨[],[(14,⟨[15,16],[]⟩)]⟩)]⟩),(13,⟨[],[(8,⟨[],[(14,⟨[15,16],[]⟩)]⟩)]⟩)]⟩ [] (fun _=>True) (h:=?_))
     all_goals repeat' (first|refine ax (hy:=by first|(apply kw;rfl;rfl;omega)) ?_|refine gd ?_|refine ay ?_ (h':=?_)|exact az|(refine gq ?_ ?_<;>intro hx_ this)|fail)
     all_goals
      repeat' (first|refine aK (q:=1) (hq:=by omega) ?_|refine gs ?_|(refine gp ?_ ?_<;>intro hx_ this)|fail)
      exact ⟨(⟨k+1,by omega,by omega,Q2,hQ2⟩:InsI P a b),(by show b-(k+1)<b-k;omega),ae al (aj _) fun _ h=>h⟩
 · exact aI (aA rfl) ⟨rfl,Q,hQ,rfl⟩
section
variable {N:Nat} {av bor:List Nat} {w0:World} {ops:Array Oper} {rest:List Oper} {k:St→Prop} {E:Env} {X:World→Prop} {d:Option Tmp} {ty:TypeId} {pos:String} {af:Array Edge} {g:Option (Nat×Bool)} {bb want:Bool}
theorem ga {x:Operand} {xs:List Operand} {ats:Array TypeId} {f:FuncId} {args:List Value} {s:Xj} {Q:List FndX}
  (hx:ev E x=some (.func (.func f) #[] #[]):=by rfl) (ha:evs E xs=some args:=by rfl) (hg:gdB ops E g=some (bb,want):=by rfl) (hb:bb=want:=by exact aq) (hd:inB N d=true:=by rfl) (hf:Xv Tryz.prog f:=by first|infer_instance|exact ⟨ac⟩)
  (hc:Ct Tryz.prog f args.toArray [postR s Q] (fun _=>True) (RelAt s Q))
  (h:∀ Q':List FndX,Rel Q Q'→Sw Tryz.prog N av bor w0 ops rest ⟨putE E d (.tuple #[]),[postR s Q'],X⟩ k) :
  Sw Tryz.prog N av bor w0 ops (⟨d,.call ⟨.value x,xs.toArray,ats⟩,ty,pos,af,g⟩::rest) ⟨E,[postR s Q],X⟩ k :=
 aZ (pre:=[postR s Q]) (fr:=[]) (first:=#[]) (caps:=#[]) (Post:=RelAt s Q) hx ha rfl hg hb hd hf (by simpa using hc) (fun _ _=>trivial) fun u R X' ⟨h1,Q',h2,h3⟩=>by
  subst h1
  subst h3
  refine ix (fun a w ok=>?_) (h Q' h2)
  exact ok.via fun M G=>G.imp fun _ h=>h.1
theorem bP {x:Operand} {xs:List Operand} {ats:Array TypeId} {f:FuncId} {args:List Value} {s:Xj} {P Q:List FndX} (hQ:Rel P Q)
  (hx:ev E x=some (.func (.func f) #[] #[]):=by rfl) (ha:evs E xs=some args:=by rfl) (hg:gdB ops E g=some (bb,want):=by rfl) (hb:bb=want:=by exact aq) (hd:inB N d=true:=by rfl) (hf:Xv Tryz.prog f:=by first|infer_instance|exact ⟨ac⟩)
  (hc:∀ Q:List FndX,Rel P Q→Ct Tryz.prog f args.toArray [postR s Q] (fun _=>True) (RelAt s Q))
  (h:∀ Q':List FndX,Rel P Q'→Sw Tryz.prog N av bor w0 ops rest ⟨putE E d (.tuple #[]),[postR s Q'],X⟩ k) :
  Sw Tryz.prog N av bor w0 ops (⟨d,.call ⟨.value x,xs.toArray,ats⟩,ty,pos,af,g⟩::rest) ⟨E,[postR s Q],X⟩ k:=ga hx ha hg hb hd hf (hc Q hQ) fun Q' h1=>h Q' (hQ.trans h1)
theorem iy {x:Operand} {xs:List Operand} {ats:Array TypeId} {f:FuncId} {args:List Value} {s:Xj} {P Q:List FndX} (hQ:Rel P Q) (hno:Srt P→False)
  (hx:ev E x=some (.func (.func f) #[] #[]):=by rfl) (ha:evs E xs=some args:=by rfl) (hg:gdB ops E g=some (bb,want):=by rfl) (hb:bb=want:=by exact aq) (hd:inB N d=true:=by rfl) (hf:Xv Tryz.prog f:=by first|infer_instance|exact ⟨ac⟩)
  (hc:∀ Q:List FndX,Rel P Q→Ct Tryz.prog f args.toArray [postR s Q] (fun _=>True) (PermAt s Q))
  (h:∀ Q':List FndX,Rel P Q'→Sw Tryz.prog N av bor w0 ops rest ⟨putE E d (.tuple #[]),[postR s Q'],X⟩ k) :
  Sw Tryz.prog N av bor w0 ops (⟨d,.call ⟨.value x,xs.toArray,ats⟩,ty,pos,af,g⟩::rest) ⟨E,[postR s Q],X⟩ k:=cd hx ha hg hb hd hf (hc Q hQ) fun Q' h1=>h Q' (hQ.perm h1 hno)
end
structure BinL (P:List FndX) (lo hi:Nat) extends BinI_g lo hi where
 hs:Srt P→i=lo
structure BinR (P:List FndX) (lo hi:Nat) extends BinI_g lo hi where
 hs:Srt P→j=hi
structure MerO (P:List FndX) (a m b mid:Nat) extends MerI_g a m b mid where
 hs:Srt P→j=(if mid<m then mid else m)
structure UpI (P:List FndX) (a:Nat) where
 k:Nat
 h1:a≤k
 Q:List FndX
 hQ:Rel P Q
structure DownI (P:List FndX) (i m:Nat) where
 k:Nat
 h1:i≤k
 h2:k≤m
 Q:List FndX
 hQ:Rel P Q
set_option maxRecDepth 20000 in
theorem bZ:∀ (d:Nat) (s:Xj) (P:List FndX) (a m b:Nat),b-a≤d→s.n=P.length→s.n≤1000000→a<m→m<b→b≤s.n →
  Ct Tryz.prog 222 #[s.v,.int .i64 (a:Nat),.int .i64 (m:Nat),.int .i64 (b:Nat),cmpF] [postR s P] (fun _=>True) (RelAt s P)
 | 0,s,P,a,m,b,hd,hs,hm,ha,hb,hbs=>absurd hd aa
 | d+1,s,P,a,m,b,hd,hs,hm,ha,hb,hbs=>by
  have ih:=bZ d
  have hP:Rel P P:=Rel.refl P
  refine bT Tryz.func222 Tryz.ntmps222 fun av bor w0=>?_
  refine bH (r:=postR s P) ap (p:=0<s.n→s.p.isSome=true) (fun w h hn=>bu h hn) fun hp=>?_
  have hp':=hp aa
  by_cases hA:m-a=1
  · repeat' (first|refine aP (hq:=by omega) ?_|refine bp ?_|refine gs ?_|(refine gp ?_ ?_<;>intro hx_ this)|fail)
    refine am (ι:=BinL P m b) (fun r=>⟨[(0,s.v),(1,.int .i64 (a:Nat)),(4,cmpF),(10,.int .i64 (r.i:Nat)),(11,.int .i64 (r.j:Nat))],[postR s P],fun _=>True⟩) (fun r=>r.j-r.i) ⟨⟨m,b,by omega,by omega,by omega⟩,fun _=>rfl⟩ (ae al (aj _) fun _ h=>h) fun r=>?_
    obtain ⟨⟨i,j,h1,h2,h3⟩,hso⟩:=r
    simp only at hso
    simp only
    repeat' (first|refine aK (hq:=by omega) ?_|refine cQ (hq:=by omega) ?_|refine cB ?_|refine cR (hq:=by omega) ?_|refine gs ?_|(refine gp ?_ ?_<;>intro hx_ this)|fail)
    · have hlt:i<j:=by omega
      obtain ⟨x,hx⟩:∃ x,P[(i+j)/2]?=some x:=⟨_,List.getElem?_eq_getElem aa⟩
      obtain ⟨y,hy⟩:∃ y,P[a]?=some y:=⟨_,List.getElem?_eq_getElem aa⟩
      have hcm:=dw x y
      have hsx:Srt P→¬ cmpX x y<0:=fun hs=>hs a ((i+j)/2) y x aa hy hx
      generalize cmpX x y=z at *
      unfold cmpF
      (refine ao ⟨[0,1,2,3,5,6,7],[(4,⟨[],[(8,⟨[],[(9,⟨[10],[]⟩)]⟩)]⟩),(8,⟨[],[(4,⟨[],[(9,⟨[10],[]⟩)]⟩)]⟩)]⟩ [] (fun _=>True) (h:=?_))
      all_goals repeat' (first|(refine ag (hc:=hcm) ?_)|refine gd ?_|refine ax (hy:=by first|(apply aG (q:=p22 (((i+j)/2)));rfl;rfl;omega;omega;assumption;(rw [cZ];omega))|(apply aG (q:=p22 (a));rfl;rfl;omega;omega;assumption;(rw [cZ];omega))) ?_|refine ay ?_ (h':=?_)|exact az|(refine ak (bq (i:=(i+j)/2) (P:=P) rfl ap aa hx) rfl rfl rfl ?_)|(refine ak (bq (i:=a) (P:=P) rfl ap aa hy) rfl rfl rfl ?_)|(refine gq ?_ ?_<;>intro hx_ this)|fail)
      all_goals
       repeat' (first|refine aK (q:=1) (hq:=by omega) ?_|refine gs ?_|(refine gp ?_ ?_<;>intro hx_ this)|fail)
       · exact ⟨(⟨⟨(i+j)/2+1,j,by omega,by omega,h3⟩,fun hs=>absurd (show z<0 by first|assumption|omega|(simp_all;done)) (hsx hs)⟩:BinL P m b),(by show j-((i+j)/2+1)<j-i;omega),ae al (aj _) fun _ h=>h⟩
       · exact ⟨(⟨⟨i,(i+j)/2,h1,by omega,by omega⟩,hso⟩:BinL P m b),(by show (i+j)/2-i<j-i;omega),ae al (aj _) fun _ h=>h⟩
    · refine am (ι:=UpI P a) (fun r=>⟨[(0,s.v),(10,.int .i64 (i:Nat)),(13,.int .i64 (r.k:Nat))],[postR s r.Q],fun _=>True⟩) (fun r=>i-r.k) ⟨a,Nat.le_refl _,P,hP⟩ (ae al (aj _) fun _ h=>h) fun r=>?_
      obtain ⟨k,h4,Q,hQ⟩:=r
      simp only
      have hl:=hQ.1.length_eq
      repeat' (first|refine aP (q:=1) (hq:=by omega) ?_|refine gs ?_|(refine gp ?_ ?_<;>intro hx_ this)|fail)
      · have hlt:k+1<i:=by omega
        obtain ⟨x,hx⟩:∃ x,Q[k]?=some x:=⟨_,List.getElem?_eq_getElem aa⟩
        obtain ⟨y,hy⟩:∃ y,Q[k+1]?=some y:=⟨_,List.getElem?_eq_getElem aa⟩
        (refine ao ⟨[0,1,2,3,4,5,6,7,8,10,11,12],[(9,⟨[],[(13,⟨[14],[(15,⟨[16],[(17,⟨[],[]⟩)]⟩)]⟩)]⟩),(13,⟨[],[(9,⟨[14],[(15,⟨[16],[(17,⟨[],[]⟩)]⟩)]⟩)]⟩)]⟩ [] (fun _=>True) (h:=?_))
        all_goals repeat' (first|refine gd ?_|refine ax (hy:=by first|(apply aG (q:=p22 (k));rfl;rfl;omega;omega;assumption;(rw [cZ];omega))|(apply aG (q:=p22 (k+1));rfl;rfl;omega;omega;assumption;(rw [cZ];omega))) ?_|refine ay ?_ (h':=?_)|exact az|(refine ak (bq (i:=k) (P:=Q) rfl ap aa hx) rfl rfl rfl ?_)|(refine ak (bq (i:=k+1) (P:=Q) rfl ap aa hy) rfl rfl rfl ?_)|((refine bO (i:=k) (p:=y) rfl rfl aa (by first|omega|(simp only [List.length_set];omega)) (At.here _) rfl aq rfl ?_))|((refine bO (i:=k+1) (p:=x) rfl rfl aa (by first|omega|(simp only [List.length_set];omega)) (At.here _) rfl aq rfl ?_))|(refine gq ?_ ?_<;>intro hx_ this)|fail)
        all_goals
         repeat' (first|refine aK (q:=1) (hq:=by omega) ?_|refine gs ?_|(refine gp ?_ ?_<;>intro hx_ this)|fail)
         exact ⟨(⟨k+1,by omega,(Q.set k y).set (k+1) x,hQ.swap hx hy (fun hs=>by have:=hso hs;omega)⟩:UpI P a),(by show i-(k+1)<i-k;omega),ae al (aj _) fun _ h=>h⟩
      · exact ab (aA rfl) ⟨rfl,Q,hQ,rfl⟩
  · by_cases hB:b-m=1
    · repeat' (first|refine aP (hq:=by omega) ?_|refine bp ?_|refine bo ?_|refine gs ?_|(refine gp ?_ ?_<;>intro hx_ this)|fail)
      refine am (ι:=BinR P a m) (fun r=>⟨[(0,s.v),(2,.int .i64 (m:Nat)),(4,cmpF),(14,.int .i64 (r.i:Nat)),(15,.int .i64 (r.j:Nat))],[postR s P],fun _=>True⟩) (fun r=>r.j-r.i) ⟨⟨a,m,by omega,by omega,by omega⟩,fun _=>rfl⟩ (ae al (aj _) fun _ h=>h) fun r=>?_
      obtain ⟨⟨i,j,h1,h2,h3⟩,hso⟩:=r
      simp only at hso
      simp only
      repeat' (first|refine aK (hq:=by omega) ?_|refine cQ (hq:=by omega) ?_|refine cB ?_|refine cR (hq:=by omega) ?_|refine gs ?_|(refine gp ?_ ?_<;>intro hx_ this)|fail)
      · have hlt:i<j:=by omega
        obtain ⟨x,hx⟩:∃ x,P[m]?=some x:=⟨_,List.getElem?_eq_getElem aa⟩
        obtain ⟨y,hy⟩:∃ y,P[(i+j)/2]?=some y:=⟨_,List.getElem?_eq_getElem aa⟩
        have hcm:=dw x y
        have hsx:Srt P→¬ cmpX x y<0:=fun hs=>hs ((i+j)/2) m y x aa hy hx
        generalize cmpX x y=z at *
        unfold cmpF
        (refine ao ⟨[0,1,2,3,5,6,7],[(4,⟨[],[(8,⟨[],[(9,⟨[10,11],[]⟩)]⟩)]⟩),(8,⟨[],[(4,⟨[],[(9,⟨[10,11],[]⟩)]⟩)]⟩)]⟩ [] (fun _=>True) (h:=?_))
        all_goals repeat' (first|(refine ag (hc:=hcm) ?_)|refine gd ?_|refine ax (hy:=by first|(apply aG (q:=p22 (m));rfl;rfl;omega;omega;assumption;(rw [cZ];omega))|(apply aG (q:=p22 (((i+j)/2)));rfl;rfl;omega;omega;assumption;(rw [cZ];omega))) ?_|refine ay ?_ (h':=?_)|exact az|(refine ak (bq (i:=m) (P:=P) rfl ap aa hx) rfl rfl rfl ?_)|(refine ak (bq (i:=(i+j)/2) (P:=P) rfl ap aa hy) rfl rfl rfl ?_)|(refine gq ?_ ?_<;>intro hx_ this)|fail)
        all_goals
         repeat' (first|refine aK (q:=1) (hq:=by omega) ?_|refine gs ?_|(refine gp ?_ ?_<;>intro hx_ this)|fail)
         · exact ⟨(⟨⟨(i+j)/2+1,j,by omega,by omega,h3⟩,hso⟩:BinR P a m),(by show j-((i+j)/2+1)<j-i;omega),ae al (aj _) fun _ h=>h⟩
         · exact ⟨(⟨⟨i,(i+j)/2,h1,by omega,by omega⟩,fun hs=>absurd (show z<0 by first|assumption|omega|(simp_all;done)) (hsx hs)⟩:BinR P a m),(by show (i+j)/2-i<j-i;omega),ae al (aj _) fun _ h=>h⟩
      · refine am (ι:=DownI P i m) (fun r=>⟨[(0,s.v),(14,.int .i64 (i:Nat)),(17,.int .i64 (r.k:Nat))],[postR s r.Q],fun _=>True⟩) (fun r=>r.k) ⟨m,by omega,Nat.le_refl _,P,hP⟩ (ae al (aj _) fun _ h=>h) fun r=>?_
        obtain ⟨k,h4,h5,Q,hQ⟩:=r
        simp only
        have hl:=hQ.1.length_eq
        repeat' (first|refine gs ?_|(refine gp ?_ ?_<;>intro hx_ this)|fail)
        · have hlt:i<k:=by omega
          obtain ⟨x,hx⟩:∃ x,Q[k]?=some x:=⟨_,List.getElem?_eq_getElem aa⟩
          obtain ⟨y,hy⟩:∃ y,Q[k-1]?=some y:=⟨_,List.getElem?_eq_getElem aa⟩
          (refine ao ⟨[0,1,2,3,4,5,6,7,8,10,11,12],[(9,⟨[],[(13,⟨[14],[(15,⟨[16],[(17,⟨[],[]⟩)]⟩)]⟩)]⟩),(13,⟨[],[(9,⟨[14],[(15,⟨[16],[(17,⟨[],[]⟩)]⟩)]⟩)]⟩)]⟩ [] (fun _=>True) (h:=?_))
          all_goals repeat' (first|refine gd ?_|refine ax (hy:=by first|(apply aG (q:=p22 (k));rfl;rfl;omega;omega;assumption;(rw [cZ];omega))|(apply aG (q:=p22 (k-1));rfl;rfl;omega;omega;assumption;(rw [cZ];omega))) ?_|refine ay ?_ (h':=?_)|exact az|(refine ak (bq (i:=k) (P:=Q) rfl ap aa hx) rfl rfl rfl ?_)|(refine ak (bq (i:=k-1) (P:=Q) rfl ap aa hy) rfl rfl rfl ?_)|((refine bO (i:=k) (p:=y) rfl rfl aa (by first|omega|(simp only [List.length_set];omega)) (At.here _) rfl aq rfl ?_))|((refine bO (i:=k-1) (p:=x) rfl rfl aa (by first|omega|(simp only [List.length_set];omega)) (At.here _) rfl aq rfl ?_))|(refine gq ?_ ?_<;>intro hx_ this)|fail)
          all_goals
           repeat' (first|refine aP (q:=1) (hq:=by omega) ?_|refine gs ?_|(refine gp ?_ ?_<;>intro hx_ this)|fail)
           exact ⟨(⟨k-1,by omega,by omega,(Q.set k y).set (k-1) x,hQ.swap hx hy (fun hs=>by have:=hso hs;omega)⟩:DownI P i m),(by show k-1<k;omega),ae al (aj _) fun _ h=>h⟩
        · exact ab (aA rfl) ⟨rfl,Q,hQ,rfl⟩
    · obtain ⟨mid,hmid⟩:∃ mid,mid=(a+b)/2:=⟨_,rfl⟩
      have hm1:a<mid:=by omega
      have hm2:mid<b:=by omega
      have hm3:2*mid≤a+b:=by omega
      have hm4:a+b≤2*mid+1:=by omega
      by_cases hmm:mid<m
      all_goals
       repeat' (first|refine bo ?_|refine nw ?_|refine iu ?_|refine aP (q:=1) (hq:=by omega) ?_|refine aP (hq:=by omega) ?_|refine aK (hq:=by omega) ?_|refine cQ (hq:=by omega) ?_|refine cB ?_|refine cR (hq:=by omega) ?_|refine gs ?_|(refine gp ?_ ?_<;>intro hx_ this)|fail)
       rw [←hmid]
       first
        | refine am (ι:=MerO P a m b mid) (fun r=>⟨[(0,s.v),(1,.int .i64 (a:Nat)),(2,.int .i64 (m:Nat)),(3,.int .i64 (b:Nat)),(4,cmpF),(18,.int .i64 (mid:Nat)),(19,.int .i64 ((mid+m:Nat):Int)),(20,.int .i64 (r.i:Nat)),(21,.int .i64 (r.j:Nat)),(22,.int .i64 ((mid+m-1:Nat):Int))],[postR s P],fun _=>True⟩) (fun r=>r.j-r.i) ⟨⟨mid+m-b,mid,by omega,by omega,by omega⟩,fun _=>by rw [if_pos (by assumption)]⟩ (ae al (aj _) fun _ h=>h) fun r=>?_
        | refine am (ι:=MerO P a m b mid) (fun r=>⟨[(0,s.v),(1,.int .i64 (a:Nat)),(2,.int .i64 (m:Nat)),(3,.int .i64 (b:Nat)),(4,cmpF),(18,.int .i64 (mid:Nat)),(19,.int .i64 ((mid+m:Nat):Int)),(20,.int .i64 (r.i:Nat)),(21,.int .i64 (r.j:Nat)),(22,.int .i64 ((mid+m-1:Nat):Int))],[postR s P],fun _=>True⟩) (fun r=>r.j-r.i) ⟨⟨a,m,by omega,by omega,by omega⟩,fun _=>by rw [if_neg (by assumption)]⟩ (ae al (aj _) fun _ h=>h) fun r=>?_
       obtain ⟨⟨i,j,h1,h2,h3⟩,hso⟩:=r
       simp only at hso
       simp only
       have hk1:a≤i:=by omega
       have hk2:j≤m:=by omega
       have hk3:i≤mid+m:=by omega
       by_cases hij:i<j
       · have hk4:(i+j)/2<j:=by omega
         have hk5:i≤(i+j)/2:=by omega
         have hk6:(i+j)/2≤mid+m-1:=by omega
         have hk7:mid+m-1-(i+j)/2<b:=by omega
         repeat' (first|refine eG ?_|refine aK (hq:=by omega) ?_|refine cQ (hq:=by omega) ?_|refine cB ?_|refine cR (hq:=by omega) ?_|refine gs ?_|(refine gp ?_ ?_<;>intro hx_ this)|fail)
         obtain ⟨x,hx⟩:∃ x,P[mid+m-1-(i+j)/2]?=some x:=⟨_,List.getElem?_eq_getElem aa⟩
         obtain ⟨y,hy⟩:∃ y,P[(i+j)/2]?=some y:=⟨_,List.getElem?_eq_getElem aa⟩
         have hcm:=dw x y
         have hsx:Srt P→¬ cmpX x y<0:=fun hs=>hs ((i+j)/2) (mid+m-1-(i+j)/2) y x aa hy hx
         generalize cmpX x y=z at *
         unfold cmpF
         (refine ao ⟨[0,1,2,3,4,5,7,8,9],[(6,⟨[],[(10,⟨[],[(11,⟨[12,13],[]⟩)]⟩)]⟩),(10,⟨[],[(6,⟨[],[(11,⟨[12,13],[]⟩)]⟩)]⟩)]⟩ [] (fun _=>True) (h:=?_))
         all_goals repeat' (first|(refine ag (hc:=hcm) ?_)|refine gd ?_|refine ax (hy:=by first|(apply aG (q:=p22 ((mid+m-1-(i+j)/2)));rfl;rfl;omega;omega;assumption;(rw [cZ];omega))|(apply aG (q:=p22 (((i+j)/2)));rfl;rfl;omega;omega;assumption;(rw [cZ];omega))) ?_|refine ay ?_ (h':=?_)|exact az|(refine ak (bq (i:=mid+m-1-(i+j)/2) (P:=P) rfl ap aa hx) rfl rfl rfl ?_)|(refine ak (bq (i:=(i+j)/2) (P:=P) rfl ap aa hy) rfl rfl rfl ?_)|(refine gq ?_ ?_<;>intro hx_ this)|fail)
         all_goals
          repeat' (first|refine aK (q:=1) (hq:=by omega) ?_|refine gs ?_|(refine gp ?_ ?_<;>intro hx_ this)|fail)
          · exact ⟨(⟨⟨(i+j)/2+1,j,by omega,by omega,by omega⟩,hso⟩:MerO P a m b mid),(by show j-((i+j)/2+1)<j-i;omega),ae al (aj _) fun _ h=>h⟩
          · exact ⟨(⟨⟨i,(i+j)/2,by omega,by omega,by omega⟩,fun hs=>absurd (show z<0 by first|assumption|omega|(simp_all;done)) (hsx hs)⟩:MerO P a m b mid),(by show (i+j)/2-i<j-i;omega),ae al (aj _) fun _ h=>h⟩
       · have hk8:mid+m-i≤b:=by omega
         have hnl:¬ (i:Int)<(j:Int):=by omega
         repeat' (first|refine ja (hab:=by first|exact hnl|omega) ?_|refine eG ?_|refine aP (hq:=by omega) ?_|refine gs ?_|(refine iy (P:=P) (hQ:=by assumption) (hno:=fun hs=>by have:=hso hs;split at this<;>omega) (hc:=fun Q hQ=>fg s Q i m (mid+m-i) cmpF (hs.trans hQ.1.length_eq.symm) hm aa aa aa) (h:=fun Q2 hQ2=>?_))|(refine bP (P:=P) (hQ:=by assumption) (hc:=fun Q hQ=>ih s Q a i mid aa (hs.trans hQ.1.length_eq.symm) hm aa aa aa) (h:=fun Q2 hQ2=>?_))|(refine bP (P:=P) (hQ:=by assumption) (hc:=fun Q hQ=>ih s Q mid (mid+m-i) b aa (hs.trans hQ.1.length_eq.symm) hm aa aa aa) (h:=fun Q2 hQ2=>?_))|(refine gp ?_ ?_<;>intro hx_ this)|fail)
         all_goals
          refine aI (aA rfl) ⟨rfl,_,?_,rfl⟩
          assumption
end SrA
end Go.Proofs.YtggionfjlgfihaaGreatDoor
