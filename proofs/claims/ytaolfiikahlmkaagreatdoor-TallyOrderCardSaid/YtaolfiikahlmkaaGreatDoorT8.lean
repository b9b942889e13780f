/- Joined. -/
import Derived.Test.YtaolfiikahlmkaaGreatDoorT7
import Derived.Shelf.Slices.CompactS
import Derived.Lib.RowBridge
import Derived.Shelf.SlIter.Nil
import Derived.Shelf.SlIterI.Nil
import Derived.Shelf.SortM.Plain
import Derived.Shelf.SortM.SortNone
import Derived.Shelf.Slices.CompactI
import Derived.Test.YtaolfiikahlmkaaGreatDoorProg
set_option linter.unusedVariables false
set_option linter.unusedSimpArgs false
set_option maxHeartbeats 16000000
namespace Go.Proofs.YtaolfiikahlmkaaGreatDoor
open Go Go.Proofs Sy SrG Tryz
namespace SrB
structure InsI (P:List Xs) (a b:Nat) where
 k:Nat
 h1:a+1≤k
 h2:k≤b∨k=a+1
 Q:List Xs
 hQ:Rel P Q
structure InsJ (P:List Xs) (a k:Nat) where
 j:Nat
 h1:a≤j
 h2:j≤k
 Q:List Xs
 hQ:Rel P Q
theorem cu (s:Xl) (P:List Xs) (a b:Nat) (hs:s.n=P.length) (hm:s.n≤1000000) (ha:a≤s.n) (hb:b≤s.n) :
  Ct prog 323 #[s.v,.int .i64 (a:Nat),.int .i64 (b:Nat),cmpF] [postR s P] (fun _=>True) (RelAt s P):=by
 refine cF func323 ntmps323 fun av bor w0=>?_
 refine bP (r:=postR s P) am (p:=0<s.n→s.p.isSome=true) (fun w h hn=>bF h hn) fun hp=>?_
 repeat' (first|refine aL (q:=1) (hq:=by omega) ?_|refine gs ?_|fail)
 refine ao (ι:=InsI P a b) (fun i=>⟨[(0,s.v),(1,.int .i64 (a:Nat)),(2,.int .i64 (b:Nat)),(3,cmpF),(8,.int .i64 (i.k:Nat))],[postR s i.Q],fun _=>True⟩) (fun i=>b-i.k) ⟨a+1,ZX _,.inr rfl,P,Rel.refl _⟩ (ai al (aj _) fun _ h=>h) fun i=>?_
 obtain ⟨k,h1,h2,Q,hQ⟩:=i
 simp only
 have hl:=hQ.1.length_eq
 repeat' (first|refine gs ?_|(refine gp ?_ ?_<;>intro hx_ this)|fail)
 · have hkb:k<b:=by omega
   refine ao (ι:=InsJ P a k) (fun i=>⟨[(0,s.v),(1,.int .i64 (a:Nat)),(2,.int .i64 (b:Nat)),(3,cmpF),(8,.int .i64 (k:Nat)),(9,.int .i64 (i.j:Nat))],[postR s i.Q],fun _=>True⟩) (fun i=>i.j) ⟨k,by omega,ZX _,Q,hQ⟩ (ai al (aj _) fun _ h=>h) fun i=>?_
   obtain ⟨j,h3,h4,Q2,hQ2⟩:=i
   simp only
   have hl2:=hQ2.1.length_eq
   have hp':=hp aa
   by_cases hja:a<j
   · obtain ⟨x,hx⟩:∃ x,Q2[j]?=some x:=⟨_,Zb aa⟩
     obtain ⟨y,hy⟩:∃ y,Q2[j-1]?=some y:=⟨_,Zb aa⟩
     have hcm:=dj x y
     have hsx:Srt P→¬ cmpX x y<0:=fun hs=>hQ2.srt hs (j-1) j y x aa hy hx
     generalize cmpX x y=z at *
     apply QS
     apply QS
     unfold cmpF
     (refine aq ⟨[0,1,2,3,4,5,6,7,9,10,11,12],[(8,⟨[],[(13,⟨[],[(14,⟨[15,16],[]⟩)]⟩)]⟩),(13,⟨[],[(8,⟨[],[(14,⟨[15,16],[]⟩)]⟩)]⟩)]⟩ [] (fun _=>True) (h:=?_))
     all_goals repeat' (first|refine ax (hy:=by (apply y_gtrT_g;rfl;rfl;omega)) ?_|(refine ag (hc:=hcm) ?_)|refine gd ?_|refine ax (hy:=by first|(apply ay (q:=j*9);rfl;rfl;omega;omega;assumption;(rfl))|(apply ay (q:=(j-1)*9);rfl;rfl;omega;omega;assumption;(omega))) ?_|refine aA ?_ (h':=?_)|exact aB|(refine ak (br (i:=j) (P:=Q2) rfl am aa hx) rfl rfl rfl ?_)|(refine ak (br (i:=j-1) (P:=Q2) rfl am aa hy) rfl rfl rfl ?_)|fail)
     all_goals
      repeat' (first|refine gs ?_|(refine gp ?_ ?_<;>intro hx_ this)|fail)
      · (refine aq ⟨[0,1,2,3,4,5,6,7,8,10,11,12],[(9,⟨[],[(13,⟨[14],[(15,⟨[16],[(17,⟨[],[]⟩)]⟩)]⟩)]⟩),(13,⟨[],[(9,⟨[14],[(15,⟨[16],[(17,⟨[],[]⟩)]⟩)]⟩)]⟩)]⟩ [] (fun _=>True) (h:=?_))
        all_goals repeat' (first|refine gd ?_|refine ax (hy:=by first|(apply ay (q:=j*9);rfl;rfl;omega;omega;assumption;(rfl))|(apply ay (q:=(j-1)*9);rfl;rfl;omega;omega;assumption;(omega))) ?_|refine aA ?_ (h':=?_)|exact aB|(refine ak (br (i:=j) (P:=Q2) rfl am aa hx) rfl rfl rfl ?_)|(refine ak (br (i:=j-1) (P:=Q2) rfl am aa hy) rfl rfl rfl ?_)|((refine bV (i:=j) (p:=y) rfl rfl aa (by first|omega|(simp only [Z9];omega)) (At.here _) rfl ar rfl ?_))|((refine bV (i:=j-1) (p:=x) rfl rfl aa (by (simp only [Z9];omega)) (At.here _) rfl ar rfl ?_))|fail)
        all_goals
         repeat' (first|refine aX (q:=1) (hq:=by omega) ?_|refine gs ?_|fail)
         exact ⟨(⟨j-1,by omega,by omega,(Q2.set j y).set (j-1) x,hQ2.swap hx hy (fun hs=>hsx hs (by assumption))⟩:InsJ P a k),(by show j-1<j;omega),ai al (aj _) fun _ h=>h⟩
      · repeat' (first|refine aL (q:=1) (hq:=by omega) ?_|fail)
        exact ⟨(⟨k+1,by omega,by omega,Q2,hQ2⟩:InsI P a b),(by show b-(k+1)<b-k;omega),ai al (aj _) fun _ h=>h⟩
   · apply QS
     apply QS
     unfold cmpF
     (refine aq ⟨[0,1,2,3,4,5,6,7,9,10,11,12],[(8,⟨[],[(13,⟨[],[(14,⟨[15,16],[]⟩)]⟩)]⟩),(13,⟨[],[(8,⟨[],[(14,⟨[15,16],[]⟩)]⟩)]⟩)]⟩ [] (fun _=>True) (h:=?_))
     all_goals repeat' (first|refine ax (hy:=by (apply y_gtrF_g;rfl;rfl;omega)) ?_|refine gd ?_|refine aA ?_ (h':=?_)|exact aB|fail)
     all_goals
      repeat' (first|refine aL (q:=1) (hq:=by omega) ?_|refine gs ?_|fail)
      exact ⟨(⟨k+1,by omega,by omega,Q2,hQ2⟩:InsI P a b),(by show b-(k+1)<b-k;omega),ai al (aj _) fun _ h=>h⟩
 · exact aN (aF rfl) ⟨rfl,Q,hQ,rfl⟩
section
variable {N:Nat} {av bor:List Nat} {w0:World} {ops:Array Oper} {rest:List Oper} {k:St→Prop} {E:Env} {X:World→Prop} {d:Option Tmp} {ty:TypeId} {pos:String} {af:Array Edge} {g:Option (Nat×Bool)} {bb want:Bool}
theorem gI {x:Operand} {xs:List Operand} {ats:Array TypeId} {f:FuncId} {args:List Value} {s:Xl} {Q:List Xs}
  (hx:ev E x=some (.func (.func f) #[] #[]):=by rfl) (ha:evs E xs=some args:=by rfl) (hg:gdB ops E g=some (bb,want):=by rfl) (hb:bb=want:=by exact ar) (hd:inB N d=true:=by rfl) (hf:Xc prog f:=by infer_instance)
  (hc:Ct prog f args.toArray [postR s Q] (fun _=>True) (RelAt s Q))
  (h:∀ Q':List Xs,Rel Q Q'→Sw prog N av bor w0 ops rest ⟨putE E d (.tuple #[]),[postR s Q'],X⟩ k) :
  Sw prog N av bor w0 ops (⟨d,.call ⟨.value x,xs.toArray,ats⟩,ty,pos,af,g⟩::rest) ⟨E,[postR s Q],X⟩ k :=
 bN (pre:=[postR s Q]) (fr:=[]) (first:=#[]) (caps:=#[]) (Post:=RelAt s Q) hx ha rfl hg hb hd hf (by simpa using hc) (fun _ _=>trivial) fun u R X' ⟨h1,Q',h2,h3⟩=>by
  subst h1
  subst h3
  refine iq (fun a w ok=>?_) (h Q' h2)
  exact ok.via fun M G=>G.imp fun _ h=>h.1
theorem cq {x:Operand} {xs:List Operand} {ats:Array TypeId} {f:FuncId} {args:List Value} {s:Xl} {P Q:List Xs} (hQ:Rel P Q)
  (hx:ev E x=some (.func (.func f) #[] #[]):=by rfl) (ha:evs E xs=some args:=by rfl) (hg:gdB ops E g=some (bb,want):=by rfl) (hb:bb=want:=by exact ar) (hd:inB N d=true:=by rfl) (hf:Xc prog f:=by infer_instance)
  (hc:∀ Q:List Xs,Rel P Q→Ct prog f args.toArray [postR s Q] (fun _=>True) (RelAt s Q))
  (h:∀ Q':List Xs,Rel P Q'→Sw prog N av bor w0 ops rest ⟨putE E d (.tuple #[]),[postR s Q'],X⟩ k) :
  Sw prog N av bor w0 ops (⟨d,.call ⟨.value x,xs.toArray,ats⟩,ty,pos,af,g⟩::rest) ⟨E,[postR s Q],X⟩ k:=gI hx ha hg hb hd hf (hc Q hQ) fun Q' h1=>h Q' (hQ.trans h1)
theorem iS {x:Operand} {xs:List Operand} {ats:Array TypeId} {f:FuncId} {args:List Value} {s:Xl} {P Q:List Xs} (hQ:Rel P Q) (hno:Srt P→False)
  (hx:ev E x=some (.func (.func f) #[] #[]):=by rfl) (ha:evs E xs=some args:=by rfl) (hg:gdB ops E g=some (bb,want):=by rfl) (hb:bb=want:=by exact ar) (hd:inB N d=true:=by rfl) (hf:Xc prog f:=by infer_instance)
  (hc:∀ Q:List Xs,Rel P Q→Ct prog f args.toArray [postR s Q] (fun _=>True) (PermAt s Q))
  (h:∀ Q':List Xs,Rel P Q'→Sw prog N av bor w0 ops rest ⟨putE E d (.tuple #[]),[postR s Q'],X⟩ k) :
  Sw prog N av bor w0 ops (⟨d,.call ⟨.value x,xs.toArray,ats⟩,ty,pos,af,g⟩::rest) ⟨E,[postR s Q],X⟩ k:=bS hx ha hg hb hd hf (hc Q hQ) fun Q' h1=>h Q' (hQ.perm h1 hno)
end
structure BinL (P:List Xs) (lo hi:Nat) extends BinI_g lo hi where
 hs:Srt P→i=lo
structure BinR (P:List Xs) (lo hi:Nat) extends BinI_g lo hi where
 hs:Srt P→j=hi
structure MerO (P:List Xs) (a m b mid:Nat) extends MerI_g a m b mid where
 hs:Srt P→j=(if mid<m then mid else m)
structure UpI (P:List Xs) (a:Nat) where
 k:Nat
 h1:a≤k
 Q:List Xs
 hQ:Rel P Q
structure DownI (P:List Xs) (i m:Nat) where
 k:Nat
 h1:i≤k
 h2:k≤m
 Q:List Xs
 hQ:Rel P Q
set_option maxRecDepth 20000 in
theorem bU:∀ (d:Nat) (s:Xl) (P:List Xs) (a m b:Nat),b-a≤d→s.n=P.length→s.n≤1000000→a<m→m<b→b≤s.n →
  Ct prog 324 #[s.v,.int .i64 (a:Nat),.int .i64 (m:Nat),.int .i64 (b:Nat),cmpF] [postR s P] (fun _=>True) (RelAt s P)
 | 0,s,P,a,m,b,hd,hs,hm,ha,hb,hbs=>absurd hd aa
 | d+1,s,P,a,m,b,hd,hs,hm,ha,hb,hbs=>by
  have ih:=bU d
  have hP:Rel P P:=Rel.refl P
  refine cF func324 ntmps324 fun av bor w0=>?_
  refine bP (r:=postR s P) am (p:=0<s.n→s.p.isSome=true) (fun w h hn=>bF h hn) fun hp=>?_
  have hp':=hp aa
  by_cases hA:m-a=1
  · repeat' (first|refine aX (hq:=by omega) ?_|refine aE ?_|refine gs ?_|fail)
    refine ao (ι:=BinL P m b) (fun r=>⟨[(0,s.v),(1,.int .i64 (a:Nat)),(4,cmpF),(10,.int .i64 (r.i:Nat)),(11,.int .i64 (r.j:Nat))],[postR s P],fun _=>True⟩) (fun r=>r.j-r.i) ⟨⟨m,b,by omega,by omega,by omega⟩,fun _=>rfl⟩ (ai al (aj _) fun _ h=>h) fun r=>?_
    obtain ⟨⟨i,j,h1,h2,h3⟩,hso⟩:=r
    simp only at hso
    simp only
    repeat' (first|refine aL (hq:=by omega) ?_|refine sy_toU_g (hq:=by omega) ?_|refine cR ?_|refine sy_toI_g (hq:=by omega) ?_|refine gs ?_|(refine gp ?_ ?_<;>intro hx_ this)|fail)
    · have hlt:i<j:=by omega
      obtain ⟨x,hx⟩:∃ x,P[(i+j)/2]?=some x:=⟨_,Zb aa⟩
      obtain ⟨y,hy⟩:∃ y,P[a]?=some y:=⟨_,Zb aa⟩
      have hcm:=dj x y
      have hsx:Srt P→¬ cmpX x y<0:=fun hs=>hs a ((i+j)/2) y x aa hy hx
      generalize cmpX x y=z at *
      unfold cmpF
      (refine aq ⟨[0,1,2,3,5,6,7],[(4,⟨[],[(8,⟨[],[(9,⟨[10],[]⟩)]⟩)]⟩),(8,⟨[],[(4,⟨[],[(9,⟨[10],[]⟩)]⟩)]⟩)]⟩ [] (fun _=>True) (h:=?_))
      all_goals repeat' (first|(refine ag (hc:=hcm) ?_)|refine gd ?_|refine ax (hy:=by first|(apply ay (q:=((i+j)/2)*9);rfl;rfl;omega;omega;assumption;(rfl))|(apply ay (q:=(a)*9);rfl;rfl;omega;omega;assumption;(rfl))) ?_|refine aA ?_ (h':=?_)|exact aB|(refine ak (br (i:=(i+j)/2) (P:=P) rfl am aa hx) rfl rfl rfl ?_)|(refine ak (br (i:=a) (P:=P) rfl am aa hy) rfl rfl rfl ?_)|fail)
      all_goals
       repeat' (first|refine aL (q:=1) (hq:=by omega) ?_|refine gs ?_|(refine gp ?_ ?_<;>intro hx_ this)|fail)
       · exact ⟨(⟨⟨(i+j)/2+1,j,by omega,by omega,h3⟩,fun hs=>absurd (show z<0 by assumption) (hsx hs)⟩:BinL P m b),(by show j-((i+j)/2+1)<j-i;omega),ai al (aj _) fun _ h=>h⟩
       · exact ⟨(⟨⟨i,(i+j)/2,h1,by omega,by omega⟩,hso⟩:BinL P m b),(by show (i+j)/2-i<j-i;omega),ai al (aj _) fun _ h=>h⟩
    · refine ao (ι:=UpI P a) (fun r=>⟨[(0,s.v),(10,.int .i64 (i:Nat)),(13,.int .i64 (r.k:Nat))],[postR s r.Q],fun _=>True⟩) (fun r=>i-r.k) ⟨a,ZX _,P,hP⟩ (ai al (aj _) fun _ h=>h) fun r=>?_
      obtain ⟨k,h4,Q,hQ⟩:=r
      simp only
      have hl:=hQ.1.length_eq
      repeat' (first|refine aX (q:=1) (hq:=by omega) ?_|refine gs ?_|(refine gp ?_ ?_<;>intro hx_ this)|fail)
      · have hlt:k+1<i:=by omega
        obtain ⟨x,hx⟩:∃ x,Q[k]?=some x:=⟨_,Zb aa⟩
        obtain ⟨y,hy⟩:∃ y,Q[k+1]?=some y:=⟨_,Zb aa⟩
        (refine aq ⟨[0,1,2,3,4,5,6,7,8,10,11,12],[(9,⟨[],[(13,⟨[14],[(15,⟨[16],[(17,⟨[],[]⟩)]⟩)]⟩)]⟩),(13,⟨[],[(9,⟨[14],[(15,⟨[16],[(17,⟨[],[]⟩)]⟩)]⟩)]⟩)]⟩ [] (fun _=>True) (h:=?_))
        all_goals repeat' (first|refine gd ?_|refine ax (hy:=by first|(apply ay (q:=(k)*9);rfl;rfl;omega;omega;assumption;(rfl))|(apply ay (q:=(k+1)*9);rfl;rfl;omega;omega;assumption;(rfl))) ?_|refine aA ?_ (h':=?_)|exact aB|(refine ak (br (i:=k) (P:=Q) rfl am aa hx) rfl rfl rfl ?_)|(refine ak (br (i:=k+1) (P:=Q) rfl am aa hy) rfl rfl rfl ?_)|((refine bV (i:=k) (p:=y) rfl rfl aa (by first|omega|(simp only [Z9];omega)) (At.here _) rfl ar rfl ?_))|((refine bV (i:=k+1) (p:=x) rfl rfl aa (by (simp only [Z9];omega)) (At.here _) rfl ar rfl ?_))|fail)
        all_goals
         repeat' (first|refine aL (q:=1) (hq:=by omega) ?_|refine gs ?_|fail)
         exact ⟨(⟨k+1,by omega,(Q.set k y).set (k+1) x,hQ.swap hx hy (fun hs=>by have:=hso hs;omega)⟩:UpI P a),(by show i-(k+1)<i-k;omega),ai al (aj _) fun _ h=>h⟩
      · exact ab (aF rfl) ⟨rfl,Q,hQ,rfl⟩
  · by_cases hB:b-m=1
    · repeat' (first|refine aX (hq:=by omega) ?_|refine aE ?_|refine aG ?_|refine gs ?_|fail)
      refine ao (ι:=BinR P a m) (fun r=>⟨[(0,s.v),(2,.int .i64 (m:Nat)),(4,cmpF),(14,.int .i64 (r.i:Nat)),(15,.int .i64 (r.j:Nat))],[postR s P],fun _=>True⟩) (fun r=>r.j-r.i) ⟨⟨a,m,by omega,by omega,by omega⟩,fun _=>rfl⟩ (ai al (aj _) fun _ h=>h) fun r=>?_
      obtain ⟨⟨i,j,h1,h2,h3⟩,hso⟩:=r
      simp only at hso
      simp only
      repeat' (first|refine aL (hq:=by omega) ?_|refine sy_toU_g (hq:=by omega) ?_|refine cR ?_|refine sy_toI_g (hq:=by omega) ?_|refine gs ?_|(refine gp ?_ ?_<;>intro hx_ this)|fail)
      · have hlt:i<j:=by omega
        obtain ⟨x,hx⟩:∃ x,P[m]?=some x:=⟨_,Zb aa⟩
        obtain ⟨y,hy⟩:∃ y,P[(i+j)/2]?=some y:=⟨_,Zb aa⟩
        have hcm:=dj x y
        have hsx:Srt P→¬ cmpX x y<0:=fun hs=>hs ((i+j)/2) m y x aa hy hx
        generalize cmpX x y=z at *
        unfold cmpF
        (refine aq ⟨[0,1,2,3,5,6,7],[(4,⟨[],[(8,⟨[],[(9,⟨[10,11],[]⟩)]⟩)]⟩),(8,⟨[],[(4,⟨[],[(9,⟨[10,11],[]⟩)]⟩)]⟩)]⟩ [] (fun _=>True) (h:=?_))
        all_goals repeat' (first|(refine ag (hc:=hcm) ?_)|refine gd ?_|refine ax (hy:=by first|(apply ay (q:=(m)*9);rfl;rfl;omega;omega;assumption;(rfl))|(apply ay (q:=((i+j)/2)*9);rfl;rfl;omega;omega;assumption;(rfl))) ?_|refine aA ?_ (h':=?_)|exact aB|(refine ak (br (i:=m) (P:=P) rfl am aa hx) rfl rfl rfl ?_)|(refine ak (br (i:=(i+j)/2) (P:=P) rfl am aa hy) rfl rfl rfl ?_)|fail)
        all_goals
         repeat' (first|refine aL (q:=1) (hq:=by omega) ?_|refine gs ?_|(refine gp ?_ ?_<;>intro hx_ this)|fail)
         · exact ⟨(⟨⟨(i+j)/2+1,j,by omega,by omega,h3⟩,hso⟩:BinR P a m),(by show j-((i+j)/2+1)<j-i;omega),ai al (aj _) fun _ h=>h⟩
         · exact ⟨(⟨⟨i,(i+j)/2,h1,by omega,by omega⟩,fun hs=>absurd (show z<0 by (simp_all;done)) (hsx hs)⟩:BinR P a m),(by show (i+j)/2-i<j-i;omega),ai al (aj _) fun _ h=>h⟩
      · refine ao (ι:=DownI P i m) (fun r=>⟨[(0,s.v),(14,.int .i64 (i:Nat)),(17,.int .i64 (r.k:Nat))],[postR s r.Q],fun _=>True⟩) (fun r=>r.k) ⟨m,by omega,ZX _,P,hP⟩ (ai al (aj _) fun _ h=>h) fun r=>?_
        obtain ⟨k,h4,h5,Q,hQ⟩:=r
        simp only
        have hl:=hQ.1.length_eq
        repeat' (first|refine gs ?_|(refine gp ?_ ?_<;>intro hx_ this)|fail)
        · have hlt:i<k:=by omega
          obtain ⟨x,hx⟩:∃ x,Q[k]?=some x:=⟨_,Zb aa⟩
          obtain ⟨y,hy⟩:∃ y,Q[k-1]?=some y:=⟨_,Zb aa⟩
          (refine aq ⟨[0,1,2,3,4,5,6,7,8,10,11,12],[(9,⟨[],[(13,⟨[14],[(15,⟨[16],[(17,⟨[],[]⟩)]⟩)]⟩)]⟩),(13,⟨[],[(9,⟨[14],[(15,⟨[16],[(17,⟨[],[]⟩)]⟩)]⟩)]⟩)]⟩ [] (fun _=>True) (h:=?_))
          all_goals repeat' (first|refine gd ?_|refine ax (hy:=by first|(apply ay (q:=(k)*9);rfl;rfl;omega;omega;assumption;(rfl))|(apply ay (q:=(k-1)*9);rfl;rfl;omega;omega;assumption;(omega))) ?_|refine aA ?_ (h':=?_)|exact aB|(refine ak (br (i:=k) (P:=Q) rfl am aa hx) rfl rfl rfl ?_)|(refine ak (br (i:=k-1) (P:=Q) rfl am aa hy) rfl rfl rfl ?_)|((refine bV (i:=k) (p:=y) rfl rfl aa (by first|omega|(simp only [Z9];omega)) (At.here _) rfl ar rfl ?_))|((refine bV (i:=k-1) (p:=x) rfl rfl aa (by (simp only [Z9];omega)) (At.here _) rfl ar rfl ?_))|fail)
          all_goals
           repeat' (first|refine aX (q:=1) (hq:=by omega) ?_|refine gs ?_|fail)
           exact ⟨(⟨k-1,by omega,by omega,(Q.set k y).set (k-1) x,hQ.swap hx hy (fun hs=>by have:=hso hs;omega)⟩:DownI P i m),(by show k-1<k;omega),ai al (aj _) fun _ h=>h⟩
        · exact ab (aF rfl) ⟨rfl,Q,hQ,rfl⟩
    · obtain ⟨mid,hmid⟩:∃ mid,mid=(a+b)/2:=⟨_,rfl⟩
      have hm1:a<mid:=by omega
      have hm2:mid<b:=by omega
      have hm3:2*mid≤a+b:=by omega
      have hm4:a+b≤2*mid+1:=by omega
      by_cases hmm:mid<m
      all_goals
       repeat' (first|refine aG ?_|refine dN ?_|refine eB ?_|refine aX (q:=1) (hq:=by omega) ?_|refine aX (hq:=by omega) ?_|refine aL (hq:=by omega) ?_|refine sy_toU_g (hq:=by omega) ?_|refine cR ?_|refine sy_toI_g (hq:=by omega) ?_|refine gs ?_|fail)
       rw [←hmid]
       first
        | refine ao (ι:=MerO P a m b mid) (fun r=>⟨[(0,s.v),(1,.int .i64 (a:Nat)),(2,.int .i64 (m:Nat)),(3,.int .i64 (b:Nat)),(4,cmpF),(18,.int .i64 (mid:Nat)),(19,.int .i64 ((mid+m:Nat):Int)),(20,.int .i64 (r.i:Nat)),(21,.int .i64 (r.j:Nat)),(22,.int .i64 ((mid+m-1:Nat):Int))],[postR s P],fun _=>True⟩) (fun r=>r.j-r.i) ⟨⟨mid+m-b,mid,by omega,by omega,by omega⟩,fun _=>by rw [ZO (by assumption)]⟩ (ai al (aj _) fun _ h=>h) fun r=>?_
        | refine ao (ι:=MerO P a m b mid) (fun r=>⟨[(0,s.v),(1,.int .i64 (a:Nat)),(2,.int .i64 (m:Nat)),(3,.int .i64 (b:Nat)),(4,cmpF),(18,.int .i64 (mid:Nat)),(19,.int .i64 ((mid+m:Nat):Int)),(20,.int .i64 (r.i:Nat)),(21,.int .i64 (r.j:Nat)),(22,.int .i64 ((mid+m-1:Nat):Int))],[postR s P],fun _=>True⟩) (fun r=>r.j-r.i) ⟨⟨a,m,by omega,by omega,by omega⟩,fun _=>by rw [ZP (by assumption)]⟩ (ai al (aj _) fun _ h=>h) fun r=>?_
       obtain ⟨⟨i,j,h1,h2,h3⟩,hso⟩:=r
       simp only at hso
       simp only
       have hk1:a≤i:=by omega
       have hk2:j≤m:=by omega
       have hk3:i≤mid+m:=by omega
       by_cases hij:i<j
       · have hk4:(i+j)/2<j:=by omega
         have hk5:i≤(i+j)/2:=by omega
         have hk6:(i+j)/2≤mid+m-1:=by omega
         have hk7:mid+m-1-(i+j)/2<b:=by omega
         repeat' (first|refine sy_lssT_g ?_|refine aL (hq:=by omega) ?_|refine sy_toU_g (hq:=by omega) ?_|refine cR ?_|refine sy_toI_g (hq:=by omega) ?_|refine gs ?_|fail)
         obtain ⟨x,hx⟩:∃ x,P[mid+m-1-(i+j)/2]?=some x:=⟨_,Zb aa⟩
         obtain ⟨y,hy⟩:∃ y,P[(i+j)/2]?=some y:=⟨_,Zb aa⟩
         have hcm:=dj x y
         have hsx:Srt P→¬ cmpX x y<0:=fun hs=>hs ((i+j)/2) (mid+m-1-(i+j)/2) y x aa hy hx
         generalize cmpX x y=z at *
         unfold cmpF
         (refine aq ⟨[0,1,2,3,4,5,7,8,9],[(6,⟨[],[(10,⟨[],[(11,⟨[12,13],[]⟩)]⟩)]⟩),(10,⟨[],[(6,⟨[],[(11,⟨[12,13],[]⟩)]⟩)]⟩)]⟩ [] (fun _=>True) (h:=?_))
         all_goals repeat' (first|(refine ag (hc:=hcm) ?_)|refine gd ?_|refine ax (hy:=by first|(apply ay (q:=(mid+m-1-(i+j)/2)*9);rfl;rfl;omega;omega;assumption;(omega))|(apply ay (q:=((i+j)/2)*9);rfl;rfl;omega;omega;assumption;(rfl))) ?_|refine aA ?_ (h':=?_)|exact aB|(refine ak (br (i:=mid+m-1-(i+j)/2) (P:=P) rfl am aa hx) rfl rfl rfl ?_)|(refine ak (br (i:=(i+j)/2) (P:=P) rfl am aa hy) rfl rfl rfl ?_)|fail)
         all_goals
          repeat' (first|refine aL (q:=1) (hq:=by omega) ?_|refine gs ?_|(refine gp ?_ ?_<;>intro hx_ this)|fail)
          · exact ⟨(⟨⟨(i+j)/2+1,j,by omega,by omega,by omega⟩,hso⟩:MerO P a m b mid),(by show j-((i+j)/2+1)<j-i;omega),ai al (aj _) fun _ h=>h⟩
          · exact ⟨(⟨⟨i,(i+j)/2,by omega,by omega,by omega⟩,fun hs=>absurd (show z<0 by (simp_all;done)) (hsx hs)⟩:MerO P a m b mid),(by show (i+j)/2-i<j-i;omega),ai al (aj _) fun _ h=>h⟩
       · have hk8:mid+m-i≤b:=by omega
         have hnl:¬ (i:Int)<(j:Int):=by omega
         repeat' (first|refine sy_lssF_g (hab:=by first|exact hnl|omega) ?_|refine sy_lssT_g ?_|refine aX (hq:=by omega) ?_|refine gs ?_|(refine iS (P:=P) (hQ:=by assumption) (hno:=fun hs=>by have:=hso hs;split at this<;>omega) (hc:=fun Q hQ=>eJ s Q i m (mid+m-i) cmpF (hs.trans hQ.1.length_eq.symm) hm aa aa aa) (h:=fun Q2 hQ2=>?_))|(refine cq (P:=P) (hQ:=by assumption) (hc:=fun Q hQ=>ih s Q a i mid aa (hs.trans hQ.1.length_eq.symm) hm aa aa aa) (h:=fun Q2 hQ2=>?_))|(refine cq (P:=P) (hQ:=by assumption) (hc:=fun Q hQ=>ih s Q mid (mid+m-i) b aa (hs.trans hQ.1.length_eq.symm) hm aa aa aa) (h:=fun Q2 hQ2=>?_))|(refine gp ?_ ?_<;>intro hx_ this)|fail)
         all_goals
          refine aN (aF rfl) ⟨rfl,_,?_,rfl⟩
          assumption
end SrB
namespace SrB
structure StaI (P:List Xs) (n w:Nat) where
 a:Nat
 b:Nat
 h1:a≤n
 h2:b=a+w
 Q:List Xs
 hQ:Rel P Q
structure StaO (P:List Xs) (n:Nat) where
 z:Nat
 h1:1≤z
 h2:z≤2*n+20
 Q:List Xs
 hQ:Rel P Q
set_option maxRecDepth 20000 in
theorem eI (s:Xl) (P:List Xs) (hs:s.n=P.length) (hm:s.n≤1000000):Ct prog 320 #[s.v,.int .i64 (s.n:Nat),cmpF] [postR s P] (fun _=>True) (RelAt s P):=by
 have hP:Rel P P:=Rel.refl P
 refine cF func320 ntmps320 fun av bor w0=>?_
 repeat' (first|refine gs ?_|fail)
 refine ao (ι:=StaI P s.n 20) (fun r=>⟨[(0,s.v),(1,.int .i64 (s.n:Nat)),(2,cmpF),(6,.int .i64 20),(7,.int .i64 (r.a:Nat)),(8,.int .i64 (r.b:Nat))],[postR s r.Q],fun _=>True⟩) (fun r=>s.n-r.a) ⟨0,20,Z4 _,rfl,P,hP⟩ (ai al (aj _) fun _ h=>h) fun r=>?_
 obtain ⟨a,b,h1,h2,Q,hQ⟩:=r
 simp only
 repeat' (first|refine aL (q:=20) (hq:=by omega) ?_|refine gs ?_|(refine cq (P:=P) (hQ:=by assumption) (hc:=fun Q hQ=>cu s Q a b (hs.trans hQ.1.length_eq.symm) hm aa aa) (h:=fun Q2 hQ2=>?_))|(refine cq (P:=P) (hQ:=by assumption) (hc:=fun Q hQ=>cu s Q a s.n (hs.trans hQ.1.length_eq.symm) hm aa aa) (h:=fun Q2 hQ2=>?_))|(refine gp ?_ ?_<;>intro hx_ this)|fail)
 · exact ⟨(⟨b,b+20,by omega,rfl,Q2,hQ2⟩:StaI P s.n 20),(by show s.n-b<s.n-a;omega),ai al (aj _) fun _ h=>h⟩
 · refine ao (ι:=StaO P s.n) (fun r=>⟨[(0,s.v),(1,.int .i64 (s.n:Nat)),(2,cmpF),(6,.int .i64 (r.z:Nat))],[postR s r.Q],fun _=>True⟩) (fun r=>s.n-r.z) ⟨20,by omega,by omega,Q2,hQ2⟩ (ai al (aj _) fun _ h=>h) fun r=>?_
   clear h1 h2 hQ hQ2
   obtain ⟨z,h1,h2,Q,hQ⟩:=r
   simp only
   repeat' (first|refine dM (p:=2) (hq:=by omega) ?_|refine gs ?_|(refine gp ?_ ?_<;>intro hx_ this)|fail)
   · have hzn:z<s.n:=by omega
     refine ao (ι:=StaI P s.n (2*z)) (fun r=>⟨[(0,s.v),(1,.int .i64 (s.n:Nat)),(2,cmpF),(6,.int .i64 (z:Nat)),(7,.int .i64 (r.a:Nat)),(8,.int .i64 (r.b:Nat))],[postR s r.Q],fun _=>True⟩) (fun r=>s.n-r.a) ⟨0,2*z,Z4 _,(ZU _).symm,Q,hQ⟩ (ai al (aj _) fun _ h=>h) fun r=>?_
     obtain ⟨a,b,h3,h4,Q3,hQ3⟩:=r
     simp only
     repeat' (first|refine aL (hq:=by omega) ?_|refine dM (p:=2) (hq:=by omega) ?_|refine dM (q:=2) (hq:=by omega) ?_|refine gs ?_|(refine cq (P:=P) (hQ:=by assumption) (hc:=fun Q hQ=>bU (b-a) s Q a (a+z) b (ZX _) (hs.trans hQ.1.length_eq.symm) hm aa aa aa) (h:=fun Q2 hQ2=>?_))|(refine cq (P:=P) (hQ:=by assumption) (hc:=fun Q hQ=>bU (s.n-a) s Q a (a+z) s.n (ZX _) (hs.trans hQ.1.length_eq.symm) hm aa aa aa) (h:=fun Q2 hQ2=>?_))|(refine gp ?_ ?_<;>intro hx_ this)|fail)
     · exact ⟨(⟨b,b+2*z,by omega,rfl,Q2,hQ2⟩:StaI P s.n (2*z)),(by show s.n-b<s.n-a;omega),ai al (aj _) fun _ h=>h⟩
     all_goals
      refine ⟨(⟨z*2,by omega,by omega,_,?_⟩:StaO P s.n),(by show s.n-z*2<s.n-z;omega),ai al (aj _) fun _ h=>h⟩
      assumption
   · exact aN (aF rfl) ⟨rfl,Q,hQ,rfl⟩
theorem sortStable_ct (s:Xl) (P:List Xs) (hs:s.n=P.length) (hm:s.n≤1000000):Ct prog 314 #[s.v,cmpF] [postR s P] (fun _=>True) (RelAt s P):=by
 have hP:Rel P P:=Rel.refl P
 refine cF func314 ntmps314 fun av bor w0=>?_
 repeat' (first|refine gs ?_|(refine cq (P:=P) (hQ:=by assumption) (hc:=fun Q hQ=>eI s Q (hs.trans hQ.1.length_eq.symm) hm) (h:=fun Q2 hQ2=>?_))|fail)
 exact aN (aF rfl) ⟨rfl,Q2,hQ2,rfl⟩
end SrB
end Go.Proofs.YtaolfiikahlmkaaGreatDoor
namespace Go.Proofs.YtaolfiikahlmkaaGreatDoor
open Go Go.Proofs Sy Tryz
def fndOfB (dI:Xe→ByteArray) (it:Xe):Xs:=⟨0,dI it,it.ballot⟩
def selBB (au:ByteArray) (gn:Int) (rI:Xe→Bool) (it:Xe):Bool:=wantB au gn it&&rI it
def selFB (au:ByteArray) (gn:Int) (rI:Xe→Bool) (dI:Xe→ByteArray) (I:List Xe):List Xs:=(I.filter (selBB au gn rI)).map (fndOfB dI)
def selB2 (au:ByteArray) (gn:Int) (rI:Xe→Bool) (I:List Xe):List Xh:=(I.filter (selBB au gn rI)).map Xe.ballot
theorem CY (au:ByteArray) (gn:Int) (rI:Xe→Bool) (dI:Xe→ByteArray) (I:List Xe):(selFB au gn rI dI I).map Xs.a=selB2 au gn rI I:=by rw [selFB,selB2,Z0];rfl
structure PikIB (I:List Xe) (au:ByteArray) (gn:Int) (rI:Xe→Bool) (dI:Xe→ByteArray) where
 k:Nat
 hk:k≤I.length
 A:Option Addr
 c:Nat
 n:Nat
 hn:n=(selFB au gn rI dI (I.take k)).length
 xs:List Value
 hxs:xs=((selFB au gn rI dI (I.take k)).map Xs.cells).flatten
structure ValIB (Q:List Xs) where
 k:Nat
 hk:k≤Q.length
 A:Option Addr
 c:Nat
 xs:List Value
 hxs:xs=((Q.take k).map fun f=>f.a.cells).flatten
def wantVB (bW bG:Nat):Value:=.func (.func 298) #[] #[.pointer (some ⟨bW,0,none⟩),.pointer (some ⟨bG,0,none⟩)]
theorem xu (ks ki:Xl) (I:List Xe) (bW bG:Nat) (au:ByteArray) (gn:Int) (rI:Xe→Bool) (dI:Xe→ByteArray)
  (hR:∀ it∈I,Pu prog 73 #[it.v] (fun w=>it.at_ w) (.bool (rI it)))
  (hD:∀ it∈I,Pu prog 18 #[it.v] (fun w=>it.at_ w∧Xi w) (.string (dI it)))
  (hI:I.length≤1000) (hasc:SrB.Srt (selFB au gn rI dI I)) :
  Mk prog 297 #[.agg #[ks.v,ki.v],wantVB bW bG] (fun w=>(Items w ki I∧(CelD bW [.string au] w∧CelD bG [.int .i64 gn] w))∧Xi w)
   (fun u X'=>∃ s:Xl,u=s.v∧∀ w,X' w→Ballots w s (selB2 au gn rI I)):=by
 refine dE func297 ntmps297 fun av bor w0=>?_
 refine aR (p:=ki.n=I.length∧ki.n≤maxLen∧(0<I.length→ki.p.isSome=true)) (fun w h=>⟨h.1.1.len_,h.1.1.max_,h.1.1.some_⟩) fun ⟨hkn,hkm,hkp⟩=>?_
 simp only [maxLen] at hkm
 repeat' (first|refine gs ?_|refine gs1 fun _=>?_|fail)
 rename_i b2
 refine cD 329 9 ?_
 refine ao (ι:=PikIB I au gn rI dI) (fun i=>⟨[(1,wantVB bW bG),(5,.slice i.A i.n i.c),(15,ki.v),(16,.int .i64 (ki.n:Nat)),(17,.int .i64 (i.k:Nat))],[orow 329 9 (.slice i.A i.n i.c) i.n i.xs],fun w=>(Items w ki I∧(CelD bW [.string au] w∧CelD bG [.int .i64 gn] w))∧Xi w⟩) (fun i=>I.length-i.k) ⟨0,Z4 _,none,0,0,rfl,[],rfl⟩ (ai al (.cons_cons _ (Zu _)) fun _ h=>h) fun i=>?_
 obtain ⟨k,hk,A,c,n,hn,xs,hxs⟩:=i
 simp only
 repeat' (first|refine gs ?_|(refine gp ?_ ?_<;>intro hx_ this)|fail)
 · have hlt:k<I.length:=by omega
   have hkp':=hkp aa
   obtain ⟨it,hit⟩:∃ it,I[k]?=some it:=⟨_,Zb hlt⟩
   have him:=Z6 hit
   have hnl:n≤1000:=by
    rw [hn,selFB,ZF]
    exact ZY (Qa _ _) (by rw [Qi];omega)
   repeat' (first|refine gs ?_|refine gs1 fun _=>?_|(refine aD (q:=k*49) ?_)|(refine aM (cs:=it.cells) (hF:=fun w h=>h.1.1.get hit) ?_)|fail)
   rename_i b7
   have hri:=hR it him
   have hdi:=hD it him
   have hwa:=yE bW bG au gn it
   have htk:selFB au gn rI dI (I.take (k+1))=selFB au gn rI dI (I.take k)++(bif selBB au gn rI it then [fndOfB dI it] else []):=by
    rw [selFB,selFB,Qg,hit,Qv,ZW,Qu]
    congr 1
    cases hb:selBB au gn rI it with
    | true=>simp [hb]
    | false=>simp [hb]
   cases hwt:wantB au gn it with
   | false =>
    rw [hwt] at hwa
    have hno:selFB au gn rI dI (I.take (k+1))=selFB au gn rI dI (I.take k):=by rw [htk,selBB,hwt];exact ZJ _
    refine eV (args:=[it.v]) (all:=[it.v,.pointer (some ⟨bW,0,none⟩),.pointer (some ⟨bG,0,none⟩)]) (first:=#[]) (caps:=#[.pointer (some ⟨bW,0,none⟩),.pointer (some ⟨bG,0,none⟩)]) (hx:=rfl) (ha:=rfl) (hall:=rfl) (hc:=hwa) (hX:=fun w h=>h.1.2) (h:=?_)
    repeat' (first|refine gs ?_|refine gs1 fun _=>?_|fail)
    exact ⟨(⟨k+1,hlt,A,c,n,by rw [hno];exact hn,xs,by rw [hno];exact hxs⟩:PikIB I au gn rI dI),(by show I.length-(k+1)<I.length-k;omega),ai al (.cons _ (.cons _ (aj _))) fun _ h=>h⟩
   | true =>
    rw [hwt] at hwa
    cases hrt:rI it with
    | false =>
     rw [hrt] at hri
     have hno:selFB au gn rI dI (I.take (k+1))=selFB au gn rI dI (I.take k):=by rw [htk,selBB,hwt,hrt];exact ZJ _
     refine eV (args:=[it.v]) (all:=[it.v,.pointer (some ⟨bW,0,none⟩),.pointer (some ⟨bG,0,none⟩)]) (first:=#[]) (caps:=#[.pointer (some ⟨bW,0,none⟩),.pointer (some ⟨bG,0,none⟩)]) (hx:=rfl) (ha:=rfl) (hall:=rfl) (hc:=hwa) (hX:=fun w h=>h.1.2) (h:=?_)
     repeat' (first|(refine ag (hc:=hri) (hX:=fun w h=>h.1.1.2 it him) ?_)|refine gs ?_|refine gs1 fun _=>?_|fail)
     exact ⟨(⟨k+1,hlt,A,c,n,by rw [hno];exact hn,xs,by rw [hno];exact hxs⟩:PikIB I au gn rI dI),(by show I.length-(k+1)<I.length-k;omega),ai al (.cons _ (.cons _ (aj _))) fun _ h=>h⟩
    | true =>
     rw [hrt] at hri
     have hyes:selFB au gn rI dI (I.take (k+1))=selFB au gn rI dI (I.take k)++[fndOfB dI it]:=by rw [htk,selBB,hwt,hrt];rfl
     refine eV (args:=[it.v]) (all:=[it.v,.pointer (some ⟨bW,0,none⟩),.pointer (some ⟨bG,0,none⟩)]) (first:=#[]) (caps:=#[.pointer (some ⟨bW,0,none⟩),.pointer (some ⟨bG,0,none⟩)]) (hx:=rfl) (ha:=rfl) (hall:=rfl) (hc:=hwa) (hX:=fun w h=>h.1.2) (h:=?_)
     repeat' (first|(refine ag (hc:=hri) (hX:=fun w h=>h.1.1.2 it him) ?_)|refine gs ?_|refine gs1 fun _=>?_|fail)
     rename_i b8
     (refine aq ⟨[0,1,2,4],[(3,⟨[5],[(6,⟨[],[(7,⟨[8],[]⟩)]⟩)]⟩)]⟩ [cel b8 56 it.ballot.cells,cel b7 60 it.cells] (fun w=>(Items w ki I∧(CelD bW [.string au] w∧CelD bG [.int .i64 gn] w))∧Xi w) (h:=?_))
     all_goals repeat' (first|(refine ag (hc:=hdi) (hX:=fun w h=>⟨h.1.1.2 it him,h.2⟩) ?_)|refine gdz ?_|refine ax (hsub:=by exact aI) (hy:=by (apply dv (cs:=(fndOfB dI it).cells);rfl;rfl)) ?_|refine aA ?_ (h':=?_)|exact aB|refine cA (size:=9) (vs:=[.agg (fndOfB dI it).cells.toArray]) (css:=(fndOfB dI it).cells) (hsz:=by rfl) (hcs:=by rfl) fun _=>?_|(refine iF ?_;refine aJ (size:=9) (news:=(fndOfB dI it).cells) (q:=1) rfl rfl rfl rfl (fun _=>At.there _ (At.there _ (At.there _ (At.here _)))) (fun w G=>bA G am rfl rfl 1) aa (by simp only [maxLen];omega) rfl ?_ rfl ?_;(with_reducible rfl);intro A2 c2)|fail)
     all_goals
      repeat' (first|refine gs ?_|fail)
      exact ⟨(⟨k+1,hlt,A2,c2,n+1,by rw [hyes,ZA,←hn];rfl,xs++(fndOfB dI it).cells,by rw [hyes,hxs];simp⟩:PikIB I au gn rI dI),(by show I.length-(k+1)<I.length-k;omega),ai al (.cons _ (.cons _ (.cons _ (aj _)))) fun _ h=>h⟩
 have hkE:k=I.length:=by omega
 rw [hkE,Qh] at hn hxs
 obtain ⟨P,hP⟩:∃ P,selFB au gn rI dI I=P:=⟨_,rfl⟩
 rw [hP] at hn hxs
 have hPl:P.length≤I.length:=by rw [←hP,selFB,ZF];exact Qa _ _
 subst hxs
 refine bN (pre:=[SrB.postR ⟨A,n,c⟩ P]) (fr:=[]) (first:=#[]) (caps:=#[]) (hc:=SrB.sortStable_ct ⟨A,n,c⟩ P hn (by show n≤1000000;omega)) (hX:=fun _ _=>trivial) (h:=?_)
 rintro v R X' ⟨rfl,Q,hQ,rfl⟩
 have hQP:Q=P:=hQ.2 (by rw [←hP];exact hasc)
 subst hQP
 have hQl:Q.length=n:=hn.symm
 have hnI:n≤1000:=by omega
 refine cH (X':=fun w=>(Items w ki I∧(CelD bW [.string au] w∧CelD bG [.int .i64 gn] w))∧Xi w) (fun w h=>h.1) ?_
 repeat' (first|refine gs ?_|(refine iU (c:=n) (hm:=Nat.ble_eq_true_of_le aa) (hm2:=Nat.ble_eq_true_of_le aa) fun bv=>?_)|fail)
 refine bP (r:=SrB.postR ⟨A,n,c⟩ Q) aQ (p:=0<n→A.isSome=true) (fun w h h0=>bF h h0) fun hAp=>?_
 refine ao (ι:=ValIB Q) (fun i=>⟨[(11,.slice i.A i.k i.c),(47,.slice A n c),(48,.int .i64 (n:Nat)),(49,.int .i64 (i.k:Nat))],[orow 56 7 (.slice i.A i.k i.c) i.k i.xs,SrB.postR ⟨A,n,c⟩ Q],fun w=>(Items w ki I∧(CelD bW [.string au] w∧CelD bG [.int .i64 gn] w))∧Xi w⟩) (fun i=>Q.length-i.k) ⟨0,Z4 _,_,_,[],rfl⟩ (ai al (aj _) fun _ h=>h) fun i=>?_
 obtain ⟨k2,hk2,A2,c2,xs2,hxs2⟩:=i
 simp only
 repeat' (first|refine gs ?_|(refine gp ?_ ?_<;>intro hx_ this)|fail)
 · have hlt:k2<Q.length:=by omega
   have hAp':=hAp aa
   obtain ⟨f,hf⟩:∃ f,Q[k2]?=some f:=⟨_,Zb hlt⟩
   repeat' (first|refine cA (size:=7) (vs:=[f.a.v]) (css:=f.a.cells) (hsz:=by rfl) (hcs:=by rfl) fun _=>?_|refine gs ?_|refine gs1 fun _=>?_|(refine aD (q:=k2*9) ?_)|(refine ak (gb (size:=9) (m:=n) (i:=k2) (xs:=Q.map Xs.cells) (cs:=f.cells) rfl (.tail _ (.head _)) (by rw [ZF];exact hQl.symm) (SrB.cellsF Q) (by simp [hf])) rfl rfl rfl ?_)|(refine aC (vs:=f.a.cells) (hv:=rfl) ?_)|fail)
   refine aJ (size:=7) (news:=f.a.cells) (q:=1) rfl rfl rfl rfl (fun _=>At.there _ (At.there _ (At.here _))) (fun w G=>bA G am rfl rfl 1) aa (by simp only [maxLen];omega) rfl ?_ rfl ?_
   · (with_reducible rfl)
   intro A3 c3
   repeat' (first|refine gs ?_|fail)
   exact ⟨(⟨k2+1,hlt,A3,c3,xs2++f.a.cells,by rw [Qg,hf,hxs2];simp⟩:ValIB Q),(by show Q.length-(k2+1)<Q.length-k2;omega),ai al (.cons _ (.cons _ (aj _))) fun _ h=>h⟩
 have hk2E:k2=Q.length:=by omega
 rw [hk2E,Qh] at hxs2
 have hLp:Q.map Xs.a=selB2 au gn rI I:=by rw [←CY au gn rI dI I,hP]
 refine ab (ae rfl rfl) ⟨⟨A2,k2,c2⟩,rfl,fun w h=>?_⟩
 rw [←hLp]
 have hr:=h.2 (orow 56 7 (.slice A2 k2 c2) k2 xs2) (.head _)
 exact bm (xs:=(Q.map Xs.a).map Xh.cells) (by rw [Z0];rw [hxs2] at hr;exact hr) (by rw [ZF,ZF];exact hk2E) (qm _)
theorem j7 (ks ki:Xl) (I:List Xe) (au:ByteArray) (gn:Int) (rI:Xe→Bool) (dI:Xe→ByteArray)
  (hR:∀ it∈I,Pu prog 73 #[it.v] (fun w=>it.at_ w) (.bool (rI it)))
  (hD:∀ it∈I,Pu prog 18 #[it.v] (fun w=>it.at_ w∧Xi w) (.string (dI it)))
  (hI:I.length≤1000) (hasc:SrB.Srt (selFB au gn rI dI I)) :
  Mk prog 287 #[.agg #[ks.v,ki.v],.string au,.int .i64 gn] (fun w=>Items w ki I∧Xi w)
   (fun u X'=>∃ s:Xl,u=s.v∧∀ w,X' w→Ballots w s (selB2 au gn rI I)):=by
 refine dE func287 ntmps287 fun av bor w0=>?_
 repeat' (first|refine gs ?_|refine gs1 fun _=>?_|(refine ea ?_)|fail)
 rename_i b2 b3 b4
 refine bI ?_
 refine bI ?_
 refine cd (hc:=xu ks ki I b3 b4 au gn rI dI hR hD hI hasc) (hX:=fun w h=>⟨⟨h.1.1.1,fd h.2,fd h.1.2⟩,h.1.1.2⟩) fun v X1 h1=>?_
 obtain ⟨s,rfl,hw⟩:=h1
 repeat' (first|refine gs ?_|fail)
 exact ab (ae rfl rfl) ⟨s,rfl,fun w h=>hw w h.1.2⟩
def encBal (b:Xh):List Value:=[b.v]
structure BalX (ks ki:Xl) (I:List Xe) (bk ba bg:Nat) (au:ByteArray) (gn:Int) (w:World):Prop where
 i:Items w ki I
 g:Xi w
 k:CelD bk [ks.v,ki.v] w
 a:CelD ba [.string au] w
 n:CelD bg [.int .i64 gn] w
theorem uv (ks ki:Xl) (au:ByteArray) (gn:Int):Mk prog 254 #[.agg #[ks.v,ki.v],.string au,.int .i64 gn] (fun _=>True)
  fun u X'=>∃ bk ba bg,u=.func (.func 286) #[] #[.pointer (some ⟨bk,0,none⟩),.pointer (some ⟨ba,0,none⟩),.pointer (some ⟨bg,0,none⟩)]∧∀ w,X' w→CelD bk [ks.v,ki.v] w∧CelD ba [.string au] w∧CelD bg [.int .i64 gn] w:=by
 refine dE func254 ntmps254 fun av bor w0=>?_
 repeat' (first|refine gs ?_|refine gs1 fun _=>?_|(refine ea ?_)|fail)
 exact ab (ae rfl rfl) ⟨_,_,_,rfl,fun w h=>⟨fd (h.2 _ aQ),fd (h.2 _ aQ),fd (h.2 _ aQ)⟩⟩
structure BaI (L:List Xh) (Rs:List Xh→List Xm→Prop) where
 k:Nat
 hk:k≤L.length
 R:List Xm
 hR:Rs (L.take k) R
theorem sM (ks ki:Xl) (I:List Xe) (bk ba bg:Nat) (au:ByteArray) (gn:Int) (L:List Xh) (hL:L.length≤1000000)
  (hK:Mk prog 287 #[.agg #[ks.v,ki.v],.string au,.int .i64 gn] (fun w=>Items w ki I∧Xi w) (fun u X'=>∃ s:Xl,u=s.v∧∀ w,X' w→Ballots w s L)) :
  It prog 286 [.pointer (some ⟨bk,0,none⟩),.pointer (some ⟨ba,0,none⟩),.pointer (some ⟨bg,0,none⟩)] (BalX ks ki I bk ba bg au gn) encBal L:=by
 intro l X Rs hX hY R0 h0
 refine cF func286 ntmps286 fun av bor w0=>?_
 refine oV (st':=⟨[(1,.pointer (some ⟨bk,0,none⟩)),(2,.pointer (some ⟨ba,0,none⟩)),(3,.pointer (some ⟨bg,0,none⟩)),(0,.func (.yield l) #[] #[])],R0++[],X⟩) (by rw [ZJ];exact ai al (aj _) fun _ h=>h) ?_
 repeat' (first|(refine cd (hc:=hK) (hX:=fun w h=>⟨(hX w h).i,(hX w h).g⟩) fun v1 X1 h1=>?_;obtain ⟨s,rfl,hs⟩:=h1)|refine gs ?_|(refine uY (cs:=[ks.v,ki.v]) (hF:=fun w h=>(hX w h).k) (hl:=rfl) ?_)|(refine zM (v:=.string au) (hF:=fun w h=>(hX w h).a 0 _ rfl) ?_)|(refine zM (v:=.int .i64 gn) (hF:=fun w h=>(hX w h).n 0 _ rfl) ?_)|fail)
 refine aR (p:=s.n=L.length∧s.n≤maxLen∧(0<L.length→s.p.isSome=true)) (fun w h=>⟨by simpa using Xf.len (hs w h.2),ZY (Xf.cap (hs w h.2)) (Xf.max (hs w h.2)),fun h0=>(Xf.row (hs w h.2) 0 L[0].cells (by simp [Zb h0])).2.1⟩) fun ⟨hsn,hsm,hsp⟩=>?_
 simp only [maxLen] at hsm
 refine ao (ι:=BaI L Rs) (fun i=>⟨[(0,.func (.yield l) #[] #[]),(10,s.v),(11,.int .i64 (s.n:Nat)),(12,.int .i64 (i.k:Nat))],i.R++[],fun w=>X w∧X1 w⟩) (fun i=>L.length-i.k) ⟨0,Z4 _,R0,h0⟩ (ai al (aj _) fun _ h=>h) fun i=>?_
 obtain ⟨k,hk,R,hR⟩:=i
 simp only
 by_cases hlt:k<L.length
 · have hsp':=hsp aa
   obtain ⟨x,hx⟩:∃ x,L[k]?=some x:=⟨_,Zb hlt⟩
   have hrow:∀ w,X w∧X1 w→x.cells.length=7∧s.p.isSome=true∧∀ i u,x.cells[i]?=some u→CellAt w s.p (k*7+i) u:=fun w h=>Xf.row (hs w h.2) k x.cells (by simp [hx])
   have hsplit:L=L.take k++x::L.drop (k+1):=by
    have h1:=Qs k L
    rw [List.drop_eq_getElem_cons hlt] at h1
    rw [Zb hlt,ZM] at hx
    rw [hx] at h1
    exact h1.symm
   have htk:L.take (k+1)=L.take k++[x]:=by rw [Qg,hx,Qu]
   repeat' (first|apply QS|fail)
   apply QT
   repeat' (first|(refine bo ?_ (cb true rfl rfl (Zd aa)))|apply aH|apply QS|refine QW ?_|apply QV|apply QU|fail)
   apply QT
   repeat' (first|apply aH|apply QS|refine bc fun _=>?_|refine aP ?_|(refine aD (q:=k*7) ?_)|(refine aM (cs:=x.cells) (hF:=hrow) ?_)|fail)
   rename_i b6
   refine D9 ?_
   refine Fj (pre:=[_,_]) (rest:=[_,_]) rfl ?_
   refine aZ ?_
   refine be ?_
   refine cJ (l:=R++[cel b6 56 x.cells]) (by rw [ZJ];exact QR (l₁:=[_]) (l₂:=R)) ?_
   apply aH
   refine CU (pre:=R) (fr:=[cel b6 56 x.cells]) rfl rfl rfl rfl rfl (hY _ _ _ _ hsplit hR) (fun _ h=>h.1) fun v R' X' hv=>?_
   obtain ⟨rfl,hR'⟩:=hv
   refine zR rfl ?_
   repeat' (first|refine gs ?_|fail)
   exact ⟨(⟨k+1,hlt,R',by rw [htk];exact hR'⟩:BaI L Rs),(by show L.length-(k+1)<L.length-k;omega),ai al (by rw [ZJ];exact QE _ _) fun _ h=>h.1⟩
 · have hkE:k=L.length:=by omega
   repeat' (first|refine bo ?_ (cb false rfl rfl (Zc aa))|refine gs ?_|fail)
   refine aN (aF rfl) ?_
   rw [hkE,Qh] at hR
   simpa using hR
end Go.Proofs.YtaolfiikahlmkaaGreatDoor
namespace Go.Proofs.YtaolfiikahlmkaaGreatDoor
open Go Go.Proofs Sy Go.Shelf Go.Maps Go.Sort
theorem compS_c:CompC Tryz.prog 49 encStr [] Lib.compact where
 some_:=fun blk off cap ss w h1 h2 h3=>Any.slices_Compact_string Tryz.compS blk off cap ss w h1 h2 h3
 none_:=fun p cap w=>Any.slices_Compact_string_empty Tryz.compS p cap w
 len:=fun ss=>Lib.compact_length_le ss
end Go.Proofs.YtaolfiikahlmkaaGreatDoor
namespace Go.Proofs
open Go.Shelf
def Tryz.compI_ren:Go.Shelf.Ren:=⟨fun|20=>256|n=>n,fun|22=>22|3=>3|4=>4|0=>0|n=>n,fun|n=>n⟩
theorem Tryz.compI:Go.Proofs.Lays2.n20 Tryz.prog Tryz.compI_ren:={
 mixed:=by kernel_rfl
 f20:=Tryz.func256.trans (congrArg some (by kernel_rfl))
 t0:=Tryz.underlying0
 a0:=Tryz.isAgg0
 z0:=Tryz.sizeOf0
 v0:=Tryz.zeroValue0
 t3:=Tryz.underlying3
 a3:=Tryz.isAgg3
 z3:=Tryz.sizeOf3
 v3:=Tryz.zeroValue3
 t4:=Tryz.underlying4
 a4:=Tryz.isAgg4
 z4:=Tryz.sizeOf4
 v4:=Tryz.zeroValue4
 t22:=Tryz.underlying22
 a22:=Tryz.isAgg22
 z22:=Tryz.sizeOf22
 v22:=Tryz.zeroValue22
 i3:=by kernel_rfl }
end Go.Proofs
namespace Go.Proofs.YtaolfiikahlmkaaGreatDoor
open Go Go.Proofs Sy Go.Shelf Go.Maps Go.Sort Tryz
def encJ (n:Int):Value:=.int .i64 n
theorem sortI_c:SortC prog 255 encJ (fun ss=>ss.mergeSort (fun a b=>decide (a≤b))) where
 some_:=fun blk off cap ss w h1 h2 h3=>AnyM.slices_Sort_int Tryz.sortI blk off cap ss w h1 h2 h3
 none_:=fun p cap w=>AnyM.slices_Sort_int_none Tryz.sortI p cap w
 len:=fun ss=>List.length_mergeSort ss
theorem compI_c:CompC prog 256 encJ 0 Lib.compact where
 some_:=fun blk off cap ss w h1 h2 h3=>Any.slices_Compact_int Tryz.compI blk off cap ss w h1 h2 h3
 none_:=fun p cap w=>Any.slices_Compact_int_empty Tryz.compI p cap w
 len:=fun ss=>Lib.compact_length_le ss
end Go.Proofs.YtaolfiikahlmkaaGreatDoor
namespace Go.Proofs.YtaolfiikahlmkaaGreatDoor
open Go Go.Proofs Sy Tryz
def vpre (d:ByteArray) (l:List Xh):List Int:=(l.filter fun b=>seqB b.claim d).map Xh.server
def votV (d:ByteArray) (l:List Xh):List Int:=Lib.compact ((vpre d l).mergeSort (fun a b=>decide (a≤b)))
theorem E5 {d:ByteArray} {l:List Xh} {x:Xh} (h:seqB x.claim d=true):vpre d (l++[x])=vpre d l++[x.server]:=by simp [vpre,Qv,List.filter_cons,h]
theorem E6 {d:ByteArray} {l:List Xh} {x:Xh} (h:seqB x.claim d=false):vpre d (l++[x])=vpre d l:=by simp [vpre,Qv,List.filter_cons,h]
theorem uG (d:ByteArray) (l:List Xh):(vpre d l).length≤l.length:=by rw [vpre,ZF];exact Qa _ _
theorem vW (ks ki:Xl) (I:List Xe) (au:ByteArray) (gn:Int) (d:ByteArray) (L:List Xh) (hL:L.length≤1000000)
  (hK:Mk prog 287 #[.agg #[ks.v,ki.v],.string au,.int .i64 gn] (fun w=>Items w ki I∧Xi w) (fun u X'=>∃ s:Xl,u=s.v∧∀ w,X' w→Ballots w s L)) :
  Mk prog 191 #[.agg #[ks.v,ki.v],.string d,.string au,.int .i64 gn] (fun w=>Items w ki I∧Xi w) (fun u _=>∃ A c,u=.slice A (votV d L).length c):=by
 refine dE func191 ntmps191 fun av bor w0=>?_
 refine cD 3 1 ?_
 repeat' (first|(refine cd (hc:=uv ks ki au gn) (hX:=fun w h=>trivial) fun v1 X1 h1=>?_;obtain ⟨bk,ba,bg,rfl,hb⟩:=h1)|refine gs ?_|refine gs1 fun _=>?_|fail)
 rename_i b4 b5 b9
 refine BH (ps:=[15]) (xs:=L) (enc:=encBal) (X1:=BalX ks ki I bk ba bg au gn) rfl inferInstance (sM ks ki I bk ba bg au gn L hL hK) (fun w h=>⟨h.1.1,h.1.2,(hb w h.2).1,(hb w h.2).2.1,(hb w h.2).2.2⟩) (fun _=>rfl) rfl
  (fun pre loc1=>∃ A q,loc1=[cel b9 22 [.slice A (vpre d pre).length q],cel b5 9 [.string d],cel b4 25 [ks.v,ki.v],orow 3 1 (.slice A (vpre d pre).length q) (vpre d pre).length ((vpre d pre).map encJ)])
  ⟨none,0,rfl⟩ ?_ ?_
 · rintro lo pre x suf loc1 hsp ⟨A,q,rfl⟩ av bor w0
   have hpx:pre.length<L.length:=by rw [hsp];simp
   have hfl:=uG d pre
   repeat' (first|apply aH|refine Rd.QT (h:=?_)|refine bc fun _=>?_|refine aP ?_|fail)
   intro av bor w0
   cases hmv:seqB x.claim d with
   | true =>
    rw [E5 hmv]
    generalize vpre d pre=ys at *
    repeat' (first|refine bo ?_ (eL true rfl rfl hmv)|apply aH|apply Rd.QS|refine Rd.QT (h:=?_)|refine bC ?_|refine bQ ?_|refine eD fun _=>?_|refine bX ?_|refine Rd.QW (ht:=?_)|apply Rd.QU|(refine aJ (size:=1) (news:=[encJ x.server]) (q:=1) rfl rfl rfl rfl (fun _=>At.there _ (At.there _ (At.there _ (At.there _ (At.there _ (At.here _)))))) (fun w G=>bA G am rfl rfl 1) aa (by simp only [maxLen];omega) rfl ?_ rfl ?_;(with_reducible rfl);intro A3 c3)|fail)
    have e1:(ys++[x.server]).length=ys.length+1:=by simp
    have e2:(ys++[x.server]).map encJ=ys.map encJ++[encJ x.server]:=by simp
    rw [e1,e2]
    exact ⟨_,.cons _ (.cons _ (aj _)),A3,c3,rfl⟩
   | false =>
    rw [E6 hmv]
    generalize vpre d pre=ys at *
    repeat' (first|refine bo ?_ (eL false rfl rfl hmv)|apply aH|apply Rd.QS|refine Rd.QT (h:=?_)|refine bC ?_|refine bQ ?_|refine Rd.QX (hf:=?_)|apply Rd.QV|apply Rd.QU|fail)
    exact ⟨_,.cons _ (aj _),A,q,rfl⟩
 · rintro loc1 ⟨A,q,rfl⟩
   have hfl:=uG d L
   have hvo:votV d L=Lib.compact ((vpre d L).mergeSort (fun a b=>decide (a≤b))):=rfl
   rw [hvo]
   generalize vpre d L=ys at *
   repeat' (first|refine gs ?_|fail)
   refine g9 (hc:=sortI_c.ct (e:=3) (n:=ys.length) (ss:=ys) aa) (hX:=fun _ _=>trivial) ?_
   repeat' (first|refine gs ?_|fail)
   refine va (hc:=compI_c.ct) (hX:=fun _ _=>trivial) ?_
   rintro _ _ X2 ⟨A3,c3,rfl,rfl⟩
   repeat' (first|refine gs ?_|fail)
   exact ab (ae rfl rfl) ⟨A3,c3,rfl⟩
def ofClaimI (c:Xg):Xe:=⟨1,Xa.zero,c,Xh.zero,Xu.zero⟩
theorem gm (c:Xg):Pu prog 117 #[c.v] (fun _=>True) (ofClaimI c).v:=by
 refine aw func117 ntmps117 fun av bor w0=>?_
 repeat' (first|refine aK (cs:=(ofClaimI c).cells) (hf:=by rfl) ?_|refine gs ?_|refine gs1 fun _=>?_|fail)
 exact ab (cM rfl rfl aQ (by rfl)) rfl
theorem nJ (b:Nat) (h:BldH) (sa sk:Xl) (st:Eb) (pl:List (ByteArray×Value)) (ok:BldOk sa sk st pl) (hw:h.wn=false) (Y:World→Prop) :
  Ct prog 67 #[.pointer (some ⟨b,0,none⟩)] (bldR b h sa sk st pl) Y (fun u R _=>BldAt b h st (.bool false) u R):=by
 obtain ⟨ks,ki,id,fork,q1,q2,cl,wn⟩:=h
 simp only at hw
 subst hw
 refine eu (args:=[_]) _ func67 rfl ntmps67 rfl fun av bor w0=>?_
 unfold bldR
 repeat' (first|refine gs ?_|fail)
 (refine aq ⟨[0,1,2,3,4,5,6,7,8,9,10,11,12,13,14,15,16,17,18,19,20,21,22,23,24,25,26,27,28,29],[]⟩ [cel b 126 (bldC ⟨ks,ki,id,fork,q1,q2,cl,false⟩ sa sk st.prev (st.gen:Nat)),actR sa st.acts,keyR sk st.keys,mapr q2 pl] (fun w=>Y w) (h:=?_))
 all_goals repeat' (first|refine ax (hsub:=by exact aI) (hy:=by (apply nA (v:=.bool false);rfl;(repeat (exact am));rfl)) ?_|refine gdz ?_|fail)
 repeat' (first|refine gs ?_|fail)
 exact ab (ae rfl rfl) ⟨_,aj _,rfl,sa,sk,pl,ok,rfl⟩
structure SetI (l:List Xa) where
 k:Nat
 hk:k≤l.length
 hs:setI l l.length=setI l k
theorem nI (b:Nat) (h:BldH) (sa sk:Xl) (st:Eb) (pl:List (ByteArray×Value)) (ok:BldOk sa sk st pl) (W:El) (c0:Xg) (hwc:W.won st.gen=some c0) (hcl:h.cl=c0) (hwn:h.wn=true) (Y:World→Prop)
  (hl:st.acts.length≤1000000) (hl2:st.keys.length≤1000000) (hg:st.gen≤1000000)
  (hclm:∀ p:Int,Pu prog 116 #[.int .i64 p,c0.v] (fun w=>Y w∧Xi w) (.bool (W.clm p c0)))
  (hdg:Pu prog 18 #[(ofClaimI c0).v] (fun w=>Y w∧Xi w) (.string (W.dgC c0)))
  (hwon:Pu prog 115 #[.agg #[h.ks.v,h.ki.v],.string h.id,.int .i64 ((st.gen+1:Nat):Int)] (fun w=>Y w∧Xi w) (.tuple #[((W.won (st.gen+1)).getD Xg.zero).v,.bool (W.won (st.gen+1)).isSome])) :
  Ct prog 67 #[.pointer (some ⟨b,0,none⟩)] (bldR b h sa sk st pl) (fun w=>Y w∧Xi w)
   (fun u R _=>(∀ s,regS W st=some s→BldAt b (h.look (W.won (st.gen+1))) s (.bool true) u R)∧(regS W st=none→BldAt b h st (.bool false) u R)):=by
 obtain ⟨ks,ki,id,fork,q1,q2,c,wn⟩:=h
 simp only at hcl hwn
 subst hcl
 subst hwn
 have ok':=ok
 obtain ⟨hn,hk,hp⟩:=ok
 refine eu (args:=[_]) _ func67 rfl ntmps67 rfl fun av bor w0=>?_
 have hreg:regS W st=bif decide (c.base=(st.acts.length:Int))&&seqB c.prev st.prev then (match setI st.acts st.acts.length with
  | none=>none
  | some i=>bif W.clm (st.acts.getD i Xa.zero).m c then some ⟨st.acts,st.keys++[⟨(st.acts.length:Nat),c.pub,c.home⟩],W.dgC c,st.gen+1⟩ else none) else none:=by rw [regS,hwc];rfl
 generalize hgo:regS W st=go at *
 unfold bldR actR keyR
 repeat' (first|refine gs ?_|fail)
 cases hb:decide (c.base=(st.acts.length:Int)) with
 | false =>
  rw [hb] at hreg
  have hb':(!decide (c.base=(sa.n:Int)))=true:=by rw [hn,hb];rfl
  (refine aq ⟨[0,1,2,3,4,5,6,7,8,9,10,11,12,13,14,15,16,17,18,19,20,21,22,23,24,25,26,27,28,29],[]⟩ [cel b 126 (bldC ⟨ks,ki,id,fork,q1,q2,c,true⟩ sa sk st.prev (st.gen:Nat)),orow 46 20 (.slice sa.p sa.n sa.c) sa.n (st.acts.map Xa.cells).flatten,orow 133 3 (.slice sk.p sk.n sk.c) sk.n (st.keys.map Xq.cells).flatten,mapr q2 pl] (fun w=>Y w∧Xi w) (h:=?_))
  all_goals repeat' (first|refine ax (hsub:=by exact aI) (hy:=by first|(apply nA (v:=.bool true);rfl;(repeat (exact am));rfl)|(apply dS true;rfl;rfl;exact hb')) ?_|refine gdz ?_|fail)
  all_goals
   repeat' (first|refine gs ?_|fail)
   exact ab (ae rfl rfl) ⟨bldR b ⟨ks,ki,id,fork,q1,q2,c,true⟩ sa sk st pl,aj _,⟨fun s hs=>(by rw [hreg] at hs;cases hs),fun _=>⟨rfl,sa,sk,pl,ok',rfl⟩⟩⟩
 | true =>
 rw [hb] at hreg
 have hb':(!decide (c.base=(sa.n:Int)))=false:=by rw [hn,hb];rfl
 have hbe:c.base=(st.acts.length:Int):=bz hb
 cases hpv:seqB c.prev st.prev with
 | false =>
  rw [hpv] at hreg
  have hpv':(!seqB c.prev st.prev)=true:=by rw [hpv];rfl
  (refine aq ⟨[0,1,2,3,4,5,6,7,8,9,10,11,12,13,14,15,16,17,18,19,20,21,22,23,24,25,26,27,28,29],[]⟩ [cel b 126 (bldC ⟨ks,ki,id,fork,q1,q2,c,true⟩ sa sk st.prev (st.gen:Nat)),orow 46 20 (.slice sa.p sa.n sa.c) sa.n (st.acts.map Xa.cells).flatten,orow 133 3 (.slice sk.p sk.n sk.c) sk.n (st.keys.map Xq.cells).flatten,mapr q2 pl] (fun w=>Y w∧Xi w) (h:=?_))
  all_goals repeat' (first|refine ax (hsub:=by exact aI) (hy:=by first|(apply nA (v:=.bool true);rfl;(repeat (exact am));rfl)|(apply dS false;rfl;rfl;exact hb')|(apply uB true;rfl;rfl;exact hpv')) ?_|refine gdz ?_|fail)
  all_goals
   repeat' (first|refine gs ?_|fail)
   exact ab (ae rfl rfl) ⟨bldR b ⟨ks,ki,id,fork,q1,q2,c,true⟩ sa sk st pl,aj _,⟨fun s hs=>(by rw [hreg] at hs;cases hs),fun _=>⟨rfl,sa,sk,pl,ok',rfl⟩⟩⟩
 | true =>
 rw [hpv] at hreg
 have hpv':(!seqB c.prev st.prev)=false:=by rw [hpv];rfl
 (refine aq ⟨[0,1,2,3,4,5,6,7,8,9,10,11,12,13,14,15,16,17,18,19,20,21,22,23,24,25,26,27,28,29],[]⟩ [cel b 126 (bldC ⟨ks,ki,id,fork,q1,q2,c,true⟩ sa sk st.prev (st.gen:Nat)),orow 46 20 (.slice sa.p sa.n sa.c) sa.n (st.acts.map Xa.cells).flatten,orow 133 3 (.slice sk.p sk.n sk.c) sk.n (st.keys.map Xq.cells).flatten,mapr q2 pl] (fun w=>Y w∧Xi w) (h:=?_))
 all_goals repeat' (first|refine ax (hsub:=by exact aI) (hy:=by first|(apply nA (v:=.bool true);rfl;(repeat (exact am));rfl)|(apply dS false;rfl;rfl;exact hb')|(apply uB false;rfl;rfl;exact hpv')) ?_|refine gdz ?_|fail)
 repeat' (first|refine gs ?_|fail)
 refine ao (ι:=SetI st.acts) (fun i=>⟨[(0,.pointer (some ⟨b,0,none⟩)),(3,.pointer (some ⟨b,2,none⟩)),(4,.int .i64 ((i.k:Nat)-1))],[cel b 126 (bldC ⟨ks,ki,id,fork,q1,q2,c,true⟩ sa sk st.prev (st.gen:Nat)),orow 46 20 (.slice sa.p sa.n sa.c) sa.n (st.acts.map Xa.cells).flatten,orow 133 3 (.slice sk.p sk.n sk.c) sk.n (st.keys.map Xq.cells).flatten,mapr q2 pl],fun w=>Y w∧Xi w⟩) (fun i=>i.k) ⟨sa.n,by omega,by rw [hn]⟩ (ai al (aj _) fun _ h=>h) fun i=>?_
 obtain ⟨k,hk',hs⟩:=i
 simp only
 cases k with
 | zero =>
  have hset:setI st.acts st.acts.length=none:=hs
  rw [hset] at hreg
  simp only [Zh,Zg,Zf] at hreg
  repeat' (first|refine pB ?_|refine gs ?_|fail)
  (refine aq ⟨[0,1,2,3,4,5,6,7,8,9,10,11,12,13,14],[(15,⟨[16,17],[]⟩)]⟩ [cel b 126 (bldC ⟨ks,ki,id,fork,q1,q2,c,true⟩ sa sk st.prev (st.gen:Nat)),orow 46 20 (.slice sa.p sa.n sa.c) sa.n (st.acts.map Xa.cells).flatten,orow 133 3 (.slice sk.p sk.n sk.c) sk.n (st.keys.map Xq.cells).flatten,mapr q2 pl] (fun w=>Y w∧Xi w) (h:=?_))
  all_goals repeat' (first|refine ax (hsub:=by exact aI) (hy:=by (apply cb true;rfl;rfl;exact Zd aa)) ?_|refine gdz ?_|refine aA ?_ (h':=?_)|exact aB|fail)
  all_goals
   repeat' (first|refine gs ?_|fail)
   exact ab (ae rfl rfl) ⟨bldR b ⟨ks,ki,id,fork,q1,q2,c,true⟩ sa sk st pl,aj _,⟨fun s hs=>(by rw [hreg] at hs;cases hs),fun _=>⟨rfl,sa,sk,pl,ok',rfl⟩⟩⟩
 | succ k =>
  obtain ⟨a,ha⟩:∃ a,st.acts[k]?=some a:=⟨_,Zb aa⟩
  have haD:st.acts.getD k Xa.zero=a:=by rw [Zo,ha];rfl
  refine bP (r:=orow 46 20 (.slice sa.p sa.n sa.c) sa.n (st.acts.map Xa.cells).flatten) aQ (p:=sa.p.isSome=true) (fun w h=>bF h aa) fun hap=>?_
  have hm1:(sa.n:Nat)=(st.acts.map Xa.cells).length:=by rw [ZF];exact hn
  have hi1:(st.acts.map Xa.cells)[k]?=some a.cells:=by simp [ha]
  have hrow:orow 46 20 (.slice sa.p sa.n sa.c) sa.n (st.acts.map Xa.cells).flatten∈[cel b 126 (bldC ⟨ks,ki,id,fork,q1,q2,c,true⟩ sa sk st.prev (st.gen:Nat)),orow 46 20 (.slice sa.p sa.n sa.c) sa.n (st.acts.map Xa.cells).flatten,orow 133 3 (.slice sk.p sk.n sk.c) sk.n (st.keys.map Xq.cells).flatten,mapr q2 pl]:=.tail _ (.head _)
  by_cases hk19:a.kind=19
  · have hset:setI st.acts st.acts.length=some k:=by rw [hs,setI,haD,Zd hk19];rfl
    rw [hset] at hreg
    simp only [Zh,Zg,Zf,haD] at hreg
    have hcl:=hclm a.m
    repeat' (first|refine ak (eT true rfl rfl (Zd aa)) rfl rfl rfl ?_|refine eX (hab:=hk19) ?_|refine gs ?_|(refine aD (q:=k*20) ?_)|(refine dX ?_)|(refine ak (gc (i:=k) (j:=3) (cs:=a.cells) (u:=.int .i64 a.kind) rfl hrow hm1 (ew _) hi1 rfl) rfl rfl rfl ?_)|fail)
    cases hcm:W.clm a.m c with
    | false =>
     rw [hcm] at hcl hreg
     (refine aq ⟨[0,1,2,3,4,5,6,7,8,9,10,11,12,13,14],[(15,⟨[16,17],[]⟩)]⟩ [cel b 126 (bldC ⟨ks,ki,id,fork,q1,q2,c,true⟩ sa sk st.prev (st.gen:Nat)),orow 46 20 (.slice sa.p sa.n sa.c) sa.n (st.acts.map Xa.cells).flatten,orow 133 3 (.slice sk.p sk.n sk.c) sk.n (st.keys.map Xq.cells).flatten,mapr q2 pl] (fun w=>Y w∧Xi w) (h:=?_))
     all_goals repeat' (first|refine ax (hsub:=by exact aI) (hy:=by (apply cb false;rfl;rfl;exact Zc aa)) ?_|(refine ag (hc:=hcl) ?_)|refine gdz ?_|refine ax (hsub:=by exact aI) (hy:=by first|(apply ay (q:=k*20);rfl;rfl;omega;omega;assumption;omega)|(apply dt;rfl;assumption;rfl)|(apply gc (i:=k) (j:=17) (cs:=a.cells) (u:=.int .i64 a.m);rfl;exact hrow;exact hm1;exact ew _;exact hi1;rfl)|(apply cg (vs:=c.cells);rfl;exact .head _;rfl;rfl)) ?_|refine aA ?_ (h':=?_)|exact aB|fail)
     all_goals
      repeat' (first|refine gs ?_|fail)
      exact ab (ae rfl rfl) ⟨bldR b ⟨ks,ki,id,fork,q1,q2,c,true⟩ sa sk st pl,aj _,⟨fun s hs=>(by rw [hreg] at hs;cases hs),fun _=>⟨rfl,sa,sk,pl,ok',rfl⟩⟩⟩
    | true =>
     rw [hcm] at hcl hreg
     simp only [Zf] at hreg
     (refine aq ⟨[0,1,2,3,4,5,6,7,8,9,10,11,12,13,14],[(15,⟨[16,17],[]⟩)]⟩ [cel b 126 (bldC ⟨ks,ki,id,fork,q1,q2,c,true⟩ sa sk st.prev (st.gen:Nat)),orow 46 20 (.slice sa.p sa.n sa.c) sa.n (st.acts.map Xa.cells).flatten,orow 133 3 (.slice sk.p sk.n sk.c) sk.n (st.keys.map Xq.cells).flatten,mapr q2 pl] (fun w=>Y w∧Xi w) (h:=?_))
     all_goals repeat' (first|refine ax (hsub:=by exact aI) (hy:=by (apply cb false;rfl;rfl;exact Zc aa)) ?_|(refine ag (hc:=hcl) ?_)|refine gdz ?_|refine ax (hsub:=by exact aI) (hy:=by first|(apply ay (q:=k*20);rfl;rfl;omega;omega;assumption;omega)|(apply dt;rfl;assumption;rfl)|(apply gc (i:=k) (j:=17) (cs:=a.cells) (u:=.int .i64 a.m);rfl;exact hrow;exact hm1;exact ew _;exact hi1;rfl)|(apply cg (vs:=c.cells);rfl;exact .head _;rfl;rfl)) ?_|refine aA ?_ (h':=?_)|exact aB|fail)
     all_goals
      repeat' (first|refine gs ?_|fail)
      refine ll (ι:=Option Addr×Nat) (fun i=>⟨[(0,.pointer (some ⟨b,0,none⟩)),(3,.pointer (some ⟨b,2,none⟩))],[cel b 126 (bldC ⟨ks,ki,id,fork,q1,q2,c,true⟩ sa ⟨i.1,sk.n+1,i.2⟩ st.prev (st.gen:Nat)),orow 46 20 (.slice sa.p sa.n sa.c) sa.n (st.acts.map Xa.cells).flatten,orow 133 3 (.slice i.1 (sk.n+1) i.2) (sk.n+1) ((st.keys.map Xq.cells).flatten++(⟨((sa.n:Nat):Int),c.pub,c.home⟩:Xq).cells),mapr q2 pl],fun w=>Y w∧Xi w⟩) ?_ fun i=>?_
      · (refine aq ⟨[0,1,2,3,5,6,7,10,11,12,13,15,16,17,18],[(4,⟨[],[(8,⟨[9],[(14,⟨[],[(19,⟨[20],[(21,⟨[],[(22,⟨[23,24],[(25,⟨[],[]⟩)]⟩)]⟩)]⟩)]⟩),(19,⟨[],[(14,⟨[20],[(21,⟨[],[(22,⟨[23,24],[(25,⟨[],[]⟩)]⟩)]⟩)]⟩)]⟩)]⟩),(14,⟨[],[(8,⟨[9],[(19,⟨[20],[(21,⟨[],[(22,⟨[23,24],[(25,⟨[],[]⟩)]⟩)]⟩)]⟩)]⟩),(19,⟨[],[(8,⟨[9,20],[(21,⟨[],[(22,⟨[23,24],[(25,⟨[],[]⟩)]⟩)]⟩)]⟩)]⟩)]⟩),(19,⟨[],[(8,⟨[9],[(14,⟨[20],[(21,⟨[],[(22,⟨[23,24],[(25,⟨[],[]⟩)]⟩)]⟩)]⟩)]⟩),(14,⟨[],[(8,⟨[9,20],[(21,⟨[],[(22,⟨[23,24],[(25,⟨[],[]⟩)]⟩)]⟩)]⟩)]⟩)]⟩)]⟩),(8,⟨[9],[(4,⟨[],[(14,⟨[],[(19,⟨[20],[(21,⟨[],[(22,⟨[23,24],[(25,⟨[],[]⟩)]⟩)]⟩)]⟩)]⟩),(19,⟨[],[(14,⟨[20],[(21,⟨[],[(22,⟨[23,24],[(25,⟨[],[]⟩)]⟩)]⟩)]⟩)]⟩)]⟩),(14,⟨[],[(4,⟨[],[(19,⟨[20],[(21,⟨[],[(22,⟨[23,24],[(25,⟨[],[]⟩)]⟩)]⟩)]⟩)]⟩),(19,⟨[20],[(4,⟨[],[(21,⟨[],[(22,⟨[23,24],[(25,⟨[],[]⟩)]⟩)]⟩)]⟩),(21,⟨[],[(4,⟨[],[(22,⟨[23,24],[(25,⟨[],[]⟩)]⟩)]⟩)]⟩)]⟩)]⟩),(19,⟨[],[(4,⟨[],[(14,⟨[20],[(21,⟨[],[(22,⟨[23,24],[(25,⟨[],[]⟩)]⟩)]⟩)]⟩)]⟩),(14,⟨[20],[(4,⟨[],[(21,⟨[],[(22,⟨[23,24],[(25,⟨[],[]⟩)]⟩)]⟩)]⟩),(21,⟨[],[(4,⟨[],[(22,⟨[23,24],[(25,⟨[],[]⟩)]⟩)]⟩)]⟩)]⟩)]⟩)]⟩),(14,⟨[],[(4,⟨[],[(8,⟨[9],[(19,⟨[20],[(21,⟨[],[(22,⟨[23,24],[(25,⟨[],[]⟩)]⟩)]⟩)]⟩)]⟩),(19,⟨[],[(8,⟨[9,20],[(21,⟨[],[(22,⟨[23,24],[(25,⟨[],[]⟩)]⟩)]⟩)]⟩)]⟩)]⟩),(8,⟨[9],[(4,⟨[],[(19,⟨[20],[(21,⟨[],[(22,⟨[23,24],[(25,⟨[],[]⟩)]⟩)]⟩)]⟩)]⟩),(19,⟨[20],[(4,⟨[],[(21,⟨[],[(22,⟨[23,24],[(25,⟨[],[]⟩)]⟩)]⟩)]⟩),(21,⟨[],[(4,⟨[],[(22,⟨[23,24],[(25,⟨[],[]⟩)]⟩)]⟩)]⟩)]⟩)]⟩),(19,⟨[],[(4,⟨[],[(8,⟨[9,20],[(21,⟨[],[(22,⟨[23,24],[(25,⟨[],[]⟩)]⟩)]⟩)]⟩)]⟩),(8,⟨[9,20],[(4,⟨[],[(21,⟨[],[(22,⟨[23,24],[(25,⟨[],[]⟩)]⟩)]⟩)]⟩),(21,⟨[],[(4,⟨[],[(22,⟨[23,24],[(25,⟨[],[]⟩)]⟩)]⟩)]⟩)]⟩)]⟩)]⟩),(19,⟨[],[(4,⟨[],[(8,⟨[9],[(14,⟨[20],[(21,⟨[],[(22,⟨[23,24],[(25,⟨[],[]⟩)]⟩)]⟩)]⟩)]⟩),(14,⟨[],[(8,⟨[9,20],[(21,⟨[],[(22,⟨[23,24],[(25,⟨[],[]⟩)]⟩)]⟩)]⟩)]⟩)]⟩),(8,⟨[9],[(4,⟨[],[(14,⟨[20],[(21,⟨[],[(22,⟨[23,24],[(25,⟨[],[]⟩)]⟩)]⟩)]⟩)]⟩),(14,⟨[20],[(4,⟨[],[(21,⟨[],[(22,⟨[23,24],[(25,⟨[],[]⟩)]⟩)]⟩)]⟩),(21,⟨[],[(4,⟨[],[(22,⟨[23,24],[(25,⟨[],[]⟩)]⟩)]⟩)]⟩)]⟩)]⟩),(14,⟨[],[(4,⟨[],[(8,⟨[9,20],[(21,⟨[],[(22,⟨[23,24],[(25,⟨[],[]⟩)]⟩)]⟩)]⟩)]⟩),(8,⟨[9,20],[(4,⟨[],[(21,⟨[],[(22,⟨[23,24],[(25,⟨[],[]⟩)]⟩)]⟩)]⟩),(21,⟨[],[(4,⟨[],[(22,⟨[23,24],[(25,⟨[],[]⟩)]⟩)]⟩)]⟩)]⟩)]⟩)]⟩)]⟩ [] (fun _=>True) (h:=?_))
        all_goals repeat' (first|refine gd ?_|refine ax (hy:=by (apply dv (cs:=(⟨((sa.n:Nat):Int),c.pub,c.home⟩:Xq).cells);rfl;rfl)) ?_|refine aA ?_ (h':=?_)|exact aB|refine cA (size:=3) (vs:=[(⟨((sa.n:Nat):Int),c.pub,c.home⟩:Xq).v]) (css:=(⟨((sa.n:Nat):Int),c.pub,c.home⟩:Xq).cells) (hsz:=by rfl) (hcs:=by rfl) fun _=>?_|(refine iF ?_;refine aJ (size:=3) (news:=(⟨((sa.n:Nat):Int),c.pub,c.home⟩:Xq).cells) (q:=1) rfl rfl rfl rfl (fun _=>At.there _ (At.there _ (At.there _ (At.here _)))) (fun w G=>bA G am rfl rfl 1) aa (by simp only [maxLen];omega) rfl ?_ rfl ?_;(with_reducible rfl);intro A3 c3)|fail)
        all_goals exact ⟨(_,_),ai al (Z2 _ (aj _)) fun w h=>h⟩
      obtain ⟨A3,c3⟩:=i
      simp only
      have hlk:=vy b ⟨ks,ki,id,fork,q1,q2,c,true⟩ sa ⟨A3,sk.n+1,c3⟩ ⟨st.acts,st.keys++[(⟨((sa.n:Nat):Int),c.pub,c.home⟩:Xq)],W.dgC c,st.gen+1⟩ (W.won (st.gen+1)) (fun w=>Y w∧Xi w) hwon
      repeat' (first|(refine ag (hc:=gm c) ?_)|(refine ag (hc:=hdg) ?_)|refine gs ?_|(refine aC (vs:=c.cells) (hv:=rfl) ?_)|fail)
      refine bN (pre:=[bldCel b ⟨ks,ki,id,fork,q1,q2,c,true⟩ sa ⟨A3,sk.n+1,c3⟩ (⟨st.acts,st.keys++[(⟨((sa.n:Nat):Int),c.pub,c.home⟩:Xq)],W.dgC c,st.gen+1⟩:Eb)]) (fr:=[orow 46 20 (.slice sa.p sa.n sa.c) sa.n (st.acts.map Xa.cells).flatten,orow 133 3 (.slice A3 (sk.n+1) c3) (sk.n+1) ((st.keys.map Xq.cells).flatten++(⟨((sa.n:Nat):Int),c.pub,c.home⟩:Xq).cells),mapr q2 pl]) (first:=#[]) (caps:=#[]) (hc:=hlk) (hX:=fun _ h=>h) (h:=?_)
      rintro v R X' ⟨rfl,rfl⟩
      repeat' (first|refine gs ?_|fail)
      have hfk:((st.keys++[(⟨((sa.n:Nat):Int),c.pub,c.home⟩:Xq)]).map Xq.cells).flatten=(st.keys.map Xq.cells).flatten++(⟨((sa.n:Nat):Int),c.pub,c.home⟩:Xq).cells:=by simp
      rw [←hn] at hreg
      refine ab (ae rfl rfl) ⟨bldR b ((⟨ks,ki,id,fork,q1,q2,c,true⟩:BldH).look (W.won (st.gen+1))) sa ⟨A3,sk.n+1,c3⟩ (⟨st.acts,st.keys++[(⟨((sa.n:Nat):Int),c.pub,c.home⟩:Xq)],W.dgC c,st.gen+1⟩:Eb) pl,?_,⟨fun s hs=>?_,fun hs=>?_⟩⟩
      · unfold bldR actR keyR
        rw [hfk]
        exact aj _
      · rw [hreg,ZM] at hs
        subst hs
        exact ⟨rfl,sa,⟨A3,sk.n+1,c3⟩,pl,⟨hn,by rw [ZA,←hk];rfl,hp⟩,rfl⟩
      · rw [hreg] at hs
        cases hs
  · have hne:(!decide (a.kind=(19:Int)))=true:=by rw [Zc hk19];rfl
    repeat' (first|refine ak (eT true rfl rfl (Zd aa)) rfl rfl rfl ?_|refine bo ?_ (dS true rfl rfl hne)|refine gs ?_|(refine aD (q:=k*20) ?_)|(refine dX ?_)|(refine ak (gc (i:=k) (j:=3) (cs:=a.cells) (u:=.int .i64 a.kind) rfl hrow hm1 (ew _) hi1 rfl) rfl rfl rfl ?_)|fail)
    exact ⟨(⟨k,by omega,by rw [hs,setI,haD,Zc hk19];rfl⟩:SetI st.acts),Nat.lt_succ_self k,ai ⟨rfl,rfl,(by show some (Value.int IntKind.i64 (((k+1:Nat):Int)-1-1))=some (Value.int IntKind.i64 ((k:Int)-1));rw [show ((k+1:Nat):Int)-1-1=(k:Int)-1 from by omega]),trivial⟩ (aj _) fun _ h=>h⟩
def quoN (n:Nat):Nat:=if n=0 then 1 else n/3*2+n%3*2/3+1
theorem xo (n:Nat) (hn:n≤1000000):Pu prog 189 #[.int .i64 (n:Nat)] (fun _=>True) (.int .i64 (quoN n:Nat)):=by
 refine aw func189 ntmps189 fun av bor w0=>?_
 by_cases h0:n=0
 · subst h0
   repeat' (first|refine gs ?_|(refine gp ?_ ?_<;>intro hx_ this)|fail)
   · exact ab (ae rfl rfl) rfl
   · exact absurd this (by decide)
 · have q1:IntKind.i64.wrap ((n:Int).tdiv 3)=((n/3:Nat):Int):=IntWalk.i64_in _ (by show _≤((n/3:Nat):Int)∧((n/3:Nat):Int)≤_;omega)
   have q2:IntKind.i64.wrap (((n/3:Nat):Int)*2)=((n/3*2:Nat):Int):=IntWalk.i64_in _ aa
   have q3:(n:Int).tmod 3=((n%3:Nat):Int):=rfl
   have q4:IntKind.i64.wrap (((n%3:Nat):Int)*2)=((n%3*2:Nat):Int):=IntWalk.i64_in _ aa
   have q5:IntKind.i64.wrap (((n%3*2:Nat):Int).tdiv 3)=((n%3*2/3:Nat):Int):=IntWalk.i64_in _ (by show _≤((n%3*2/3:Nat):Int)∧((n%3*2/3:Nat):Int)≤_;omega)
   have hV:quoN n=n/3*2+n%3*2/3+1:=by rw [quoN,ZP h0]
   have b1:n/3*2≤2*n:=by omega
   have b2:n%3*2/3≤2:=by omega
   rw [hV]
   generalize n/3=x1 at *
   generalize n%3=x2 at *
   generalize x2*2/3=x3 at *
   repeat' (first|refine ak (nT rfl rfl (by decide) q1) rfl rfl rfl ?_|refine ak (nT rfl rfl (by decide) q5) rfl rfl rfl ?_|refine ak (qz rfl rfl q2) rfl rfl rfl ?_|refine ak (qz rfl rfl q4) rfl rfl rfl ?_|refine ak (qx rfl rfl (by decide) q3) rfl rfl rfl ?_|refine gs ?_|(refine gp ?_ ?_<;>intro hx_ this)|fail)
   all_goals first
    | (exfalso;omega)
    | exact ab (ae rfl rfl) (congrArg (Value.int .i64) aa)
def wonB (sv:Nat) (dC:Xg→ByteArray) (B:List Xh) (gn:Int) (c:Xg):Bool:=decide (c.gen=gn)&&decide (quoN sv≤(votV (dC c) B).length)
def wonO (sv:Nat) (C:List Xg) (dC:Xg→ByteArray) (B:List Xh) (gn:Int):Option Xg:=C.find? (wonB sv dC B gn)
structure WonI (C:List Xg) (p:Xg→Bool) where
 k:Nat
 hk:k≤C.length
 hs:C.find? p=(C.drop k).find? p
theorem E3 (ks ki:Xl) (L:List Int) (I:List Xe) (au:ByteArray) (gn:Int) (C:List Xg) (B:List Xh) (dC:Xg→ByteArray) (hB:B.length≤1000000) (hL:L.length≤1000000)
  (hC:Mk prog 190 #[.agg #[ks.v,ki.v],.string au] (fun w=>Items w ki I∧Xi w) (fun u X'=>∃ s:Xl,u=s.v∧∀ w,X' w→Claims w s C))
  (hK:Mk prog 287 #[.agg #[ks.v,ki.v],.string au,.int .i64 gn] (fun w=>Items w ki I∧Xi w) (fun u X'=>∃ s:Xl,u=s.v∧∀ w,X' w→Ballots w s B))
  (hD:∀ c∈C,Pu prog 18 #[(ofClaimI c).v] Xi (.string (dC c))) :
  Pu prog 115 #[.agg #[ks.v,ki.v],.string au,.int .i64 gn] (fun w=>(Ints w ks L∧Items w ki I)∧Xi w) (.tuple #[((wonO L.length C dC B gn).getD Xg.zero).v,.bool (wonO L.length C dC B gn).isSome]):=by
 refine aw func115 ntmps115 fun av bor w0=>?_
 refine aR (p:=ks.n=L.length) (fun w h=>h.1.1.len_) fun hkn=>?_
 have hqu:=xo ks.n aa
 rw [wonO]
 have hpd:∀ c,wonB L.length dC B gn c=(decide (c.gen=gn)&&decide (quoN ks.n≤(votV (dC c) B).length)):=fun c=>by rw [hkn];rfl
 generalize wonB L.length dC B gn=p at *
 generalize quoN ks.n=qn at *
 repeat' (first|(refine ag (hc:=hqu) ?_)|(refine cd (hc:=hC) (hX:=fun w h=>⟨h.1.2,h.2⟩) fun v1 X1 h1=>?_;obtain ⟨s,rfl,hw⟩:=h1)|refine gs ?_|refine gs1 fun _=>?_|fail)
 rename_i b3 b6
 refine aR (p:=s.n=C.length∧s.n≤maxLen∧(0<C.length→s.p.isSome=true)) (fun w h=>⟨by simpa using Xf.len (hw w h.2),ZY (Xf.cap (hw w h.2)) (Xf.max (hw w h.2)),fun h0=>(Xf.row (hw w h.2) 0 C[0].cells (by simp [Zb h0])).2.1⟩) fun ⟨hsn,hsm,hsp⟩=>?_
 simp only [maxLen] at hsm
 refine ao (ι:=WonI C p) (fun i=>⟨[(1,.string au),(2,.int .i64 gn),(3,.pointer (some ⟨b3,0,none⟩)),(6,.pointer (some ⟨b6,0,none⟩)),(8,.int .i64 (qn:Nat)),(18,s.v),(19,.int .i64 (s.n:Nat)),(20,.int .i64 (i.k:Nat))],[cel b6 54 Xg.zero.cells,cel b3 25 [ks.v,ki.v]],fun w=>((Ints w ks L∧Items w ki I)∧Xi w)∧X1 w⟩) (fun i=>C.length-i.k) ⟨0,Z4 _,rfl⟩ (ai al (aj _) fun _ h=>h) fun i=>?_
 obtain ⟨k,hk,hs⟩:=i
 simp only
 by_cases hlt:k<C.length
 · have hsp':=hsp aa
   obtain ⟨c,hc⟩:∃ c,C[k]?=some c:=⟨_,Zb hlt⟩
   have hcm:=Z6 hc
   have hdr:C.drop k=c::C.drop (k+1):=by
    rw [List.drop_eq_getElem_cons hlt]
    rw [Zb hlt,ZM] at hc
    rw [hc]
   have hrow:∀ w,((Ints w ks L∧Items w ki I)∧Xi w)∧X1 w→c.cells.length=9∧s.p.isSome=true∧∀ i u,c.cells[i]?=some u→CellAt w s.p (k*9+i) u:=fun w h=>Xf.row (hw w h.2) k c.cells (by simp [hc])
   have hvo:=vW ks ki I au gn (dC c) B hB hK
   have hdi:=hD c hcm
   have hpc:=hpd c
   generalize votV (dC c) B=V at *
   by_cases hg:c.gen=gn
   · rw [Zd hg,Zg] at hpc
     by_cases hq:qn≤V.length
     · have hF:C.find? p=some c:=by rw [hs,hdr,List.find?_cons,hpc,Zd hq]
       rw [hF]
       repeat' (first|refine bo ?_ (cb true rfl rfl (Zd aa))|refine bo ?_ (dS false rfl rfl (by simp [hg]))|refine bo ?_ (eT true rfl rfl (Zd aa))|(refine ag (hc:=gm c) ?_)|(refine ag (hc:=hdi) (hX:=fun w h=>h.1.2) ?_)|(refine cd (hc:=hvo) (hX:=fun w h=>⟨h.1.1.2,h.1.2⟩) fun v2 X2 h2=>?_;obtain ⟨A2,c2,rfl⟩:=h2)|refine gs ?_|refine gs1 fun _=>?_|(refine aD (q:=k*9) ?_)|(refine aM (cs:=c.cells) (hF:=hrow) ?_)|fail)
       all_goals first
        | exact ab (ek rfl rfl rfl aQ (by rfl)) rfl
     · have hF:C.find? p=(C.drop (k+1)).find? p:=by rw [hs,hdr,List.find?_cons,hpc,Zc hq]
       repeat' (first|refine bo ?_ (cb true rfl rfl (Zd aa))|refine bo ?_ (dS false rfl rfl (by simp [hg]))|refine bo ?_ (eT false rfl rfl (Zc aa))|(refine ag (hc:=gm c) ?_)|(refine ag (hc:=hdi) (hX:=fun w h=>h.1.2) ?_)|(refine cd (hc:=hvo) (hX:=fun w h=>⟨h.1.1.2,h.1.2⟩) fun v2 X2 h2=>?_;obtain ⟨A2,c2,rfl⟩:=h2)|refine gs ?_|refine gs1 fun _=>?_|(refine aD (q:=k*9) ?_)|(refine aM (cs:=c.cells) (hF:=hrow) ?_)|fail)
       all_goals first
        | exact ⟨(⟨k+1,hlt,hF⟩:WonI C p),(by show C.length-(k+1)<C.length-k;omega),ai al (.cons _ (aj _)) fun _ h=>h.1⟩
   · have hF:C.find? p=(C.drop (k+1)).find? p:=by rw [hs,hdr,List.find?_cons,hpc,Zc hg,Zj]
     repeat' (first|refine bo ?_ (cb true rfl rfl (Zd aa))|refine bo ?_ (dS true rfl rfl (by simp [hg]))|refine gs ?_|refine gs1 fun _=>?_|(refine aD (q:=k*9) ?_)|(refine aM (cs:=c.cells) (hF:=hrow) ?_)|fail)
     all_goals first
      | exact ⟨(⟨k+1,hlt,hF⟩:WonI C p),(by show C.length-(k+1)<C.length-k;omega),ai al (.cons _ (aj _)) fun _ h=>h⟩
 · have hF:C.find? p=none:=by rw [hs,Qw (by omega)];rfl
   rw [hF]
   repeat' (first|refine bo ?_ (cb false rfl rfl (Zc aa))|refine gs ?_|(refine aK (cs:=Xg.zero.cells) (hf:=by rfl) ?_)|fail)
   all_goals first
    | exact ab (ek rfl rfl rfl aQ (by rfl)) rfl
theorem cI {P:Program} {d:Nat} {xs ys:Array Value} {f:Field} {fs:List Field} {a b:Value} {r q:Bool} {w:World}
  (hn:f.name≠ "_") (ha:(part f.type xs f.offset).run P w=.ok a w) (hb:(part f.type ys f.offset).run P w=.ok b w)
  (hr:(Op.equalIn d f.type a b).run P w=.ok r w) (hq:(Op.eqFields d xs ys fs).run P w=.ok q w) :
  (Op.eqFields d xs ys (f::fs)).run P w=.ok (r&&q) w:=by
 rw [Op.eqFields,ZO hn]
 simp only [Sem.run_bind,ha,hb,hr,Result.andThen_ok]
 cases r<;>simp [hq]
theorem qd {P:Program} {d:Nat} {xs ys:Array Value} {w:World}:(Op.eqFields d xs ys []).run P w=.ok true w:=by simp [Op.eqFields]
theorem bH {P:Program} {t:TypeId} {cs:Array Value} {o:Nat} {v:Value} {w:World} [h1:Xw P t] (hx:cs[o]?=some v):(part t cs o).run P w=.ok v w:=by
 have hag:=(bO (Xw.out (P:=P) (t:=t)) w).1
 simp [part,hag,hx]
theorem dV {P:Program} {d:Nat} {t:TypeId} {k:IntKind} {a b:Int} {w:World} [Xt P t k]:(Op.equalIn (d+1) t (.int k a) (.int k b)).run P w=.ok (decide (a=b)) w:=by
 rw [run_equalIn_int (P:=P) w d t k k a b Xt.out]
 congr 1
theorem jA {P:Program} {d:Nat} {t:TypeId} {a b:ByteArray} {w:World} [X8 P t]:(Op.equalIn (d+1) t (.string a) (.string b)).run P w=.ok (seqB a b) w :=
 run_equalIn_string (P:=P) w d t a b X8.out
theorem qU:prog.underlying 44=some (.struct (prog.fieldsOf 44)):=by kernel_rfl
theorem tr:prog.stoodInHeld 44=false:=by kernel_rfl
theorem zT (w:World):(isAgg 44).run prog w=.ok true w:=by kernel_rfl
theorem wT (w:World):(Go.sizeOf 44).run prog w=.ok 2 w:=by kernel_rfl
theorem gO {cs:Array Value} {o:Nat} {w:World}:(part 44 cs o).run prog w=.ok (.agg (cs.extract o (o+2))) w:=by
 simp [part,zT,wT]
theorem nd {d:Nat} {a b c e:Int} {w:World}:(Op.equalIn (d+2) 44 (.agg #[.int .i64 a,.int .i64 b]) (.agg #[.int .i64 c,.int .i64 e])).run prog w=.ok (decide (a=c)&&(decide (b=e)&&true)) w:=by
 rw [run_equalIn_agg w (d+1) _ _ _ qU tr]
 have hf:(prog.fieldsOf 44).toList.map (fun f=>(f.name,f.type,f.offset))=[("E",3,0),("S",3,1)]:=by kernel_rfl
 generalize (prog.fieldsOf 44).toList=l at hf
 rcases l with _|⟨⟨n1,t1,o1,_⟩,_|⟨⟨n2,t2,o2,_⟩,_|⟨f3,l⟩⟩⟩
 case cons.cons.nil =>
  simp only [Z1,List.map_nil,List.cons.injEq,Prod.mk.injEq,and_true] at hf
  obtain ⟨⟨rfl,rfl,rfl⟩,rfl,rfl,rfl⟩:=hf
  exact cI (by dsimp only;decide) (bH rfl) (bH rfl) dV (cI (by dsimp only;decide) (bH rfl) (bH rfl) dV qd)
 all_goals (have:=congrArg List.length hf;simp at this)
def claimEq (a b:Xg):Bool:=seqB a.actor b.actor&&(decide (a.base=b.base)&&(seqB a.prev b.prev&&(decide (a.gen=b.gen)&&(decide (a.home=b.home)&&(decide (a.pub=b.pub)&&(decide (a.time=b.time)&&((decide (a.e=b.e)&&(decide (a.s=b.s)&&true))&&true)))))))
theorem nk:prog.underlying 54=some (.struct (prog.fieldsOf 54)):=by kernel_rfl
theorem nP:prog.stoodInHeld 54=false:=by kernel_rfl
theorem nQ:prog.eqGuardType prog.depth 54=false:=by kernel_rfl
theorem q8 (w:World) (a b:Xg):(Op.equalIn 10000 54 (.agg a.cells.toArray) (.agg b.cells.toArray)).run prog w=.ok (claimEq a b) w:=by
 rw [show (10000:Nat)=9999+1 from rfl,run_equalIn_agg w 9999 _ _ _ nk nP]
 have hf:(prog.fieldsOf 54).toList.map (fun f=>(f.name,f.type,f.offset))=[("Actor",9,0),("Base",3,1),("Prev",9,2),("Gen",3,3),("Home",3,4),("Public",3,5),("Time",3,6),("Sig",44,7)]:=by kernel_rfl
 generalize (prog.fieldsOf 54).toList=l at hf
 rcases l with _|⟨⟨n1,t1,o1,_⟩,_|⟨⟨n2,t2,o2,_⟩,_|⟨⟨n3,t3,o3,_⟩,_|⟨⟨n4,t4,o4,_⟩,_|⟨⟨n5,t5,o5,_⟩,_|⟨⟨n6,t6,o6,_⟩,_|⟨⟨n7,t7,o7,_⟩,_|⟨⟨n8,t8,o8,_⟩,_|⟨g,l⟩⟩⟩⟩⟩⟩⟩⟩⟩
 case cons.cons.cons.cons.cons.cons.cons.cons.nil =>
  simp only [Z1,List.map_nil,List.cons.injEq,Prod.mk.injEq,and_true] at hf
  obtain ⟨⟨rfl,rfl,rfl⟩,⟨rfl,rfl,rfl⟩,⟨rfl,rfl,rfl⟩,⟨rfl,rfl,rfl⟩,⟨rfl,rfl,rfl⟩,⟨rfl,rfl,rfl⟩,⟨rfl,rfl,rfl⟩,rfl,rfl,rfl⟩:=hf
  exact cI (by dsimp only;decide) (bH rfl) (bH rfl) jA (cI (by dsimp only;decide) (bH rfl) (bH rfl) dV (cI (by dsimp only;decide) (bH rfl) (bH rfl) jA (cI (by dsimp only;decide) (bH rfl) (bH rfl) dV (cI (by dsimp only;decide) (bH rfl) (bH rfl) dV (cI (by dsimp only;decide) (bH rfl) (bH rfl) dV (cI (by dsimp only;decide) (bH rfl) (bH rfl) dV (cI (by dsimp only;decide) gO gO nd (qd))))))))
 all_goals (have:=congrArg List.length hf;simp at this)
theorem nB {N:Nat} {av bor:List Nat} {w0:World} {st:St} {ty t2:TypeId} {x y:Operand} {a b:Xg} (hx:ev st.env x=some (.agg a.cells.toArray)) (hy:ev st.env y=some (.agg b.cells.toArray)) :
  Sy.Yields prog N av bor w0 st (.binOp .eql 54 x y t2) ty (.bool (claimEq a b)):=Sy.Yields.mk fun A w ok d pos af g=>by
 have h1:=run_eql_struct (P:=prog) w 54 a.cells.toArray b.cells.toArray
 rw [q8 w a b] at h1
 simp [execOp,ok.eval (st:=st) hx,ok.eval (st:=st) hy,run_eqGuard_agg _ _ _ _ _ _ _ nQ,h1]
def ballotEq (a b:Xh):Bool:=decide (a.server=b.server)&&(seqB a.actor b.actor&&(decide (a.gen=b.gen)&&(seqB a.claim b.claim&&(decide (a.time=b.time)&&((decide (a.e=b.e)&&(decide (a.s=b.s)&&true))&&true)))))
theorem kZ:prog.underlying 56=some (.struct (prog.fieldsOf 56)):=by kernel_rfl
theorem nu:prog.stoodInHeld 56=false:=by kernel_rfl
theorem nv:prog.eqGuardType prog.depth 56=false:=by kernel_rfl
theorem pM (w:World) (a b:Xh):(Op.equalIn 10000 56 (.agg a.cells.toArray) (.agg b.cells.toArray)).run prog w=.ok (ballotEq a b) w:=by
 rw [show (10000:Nat)=9999+1 from rfl,run_equalIn_agg w 9999 _ _ _ kZ nu]
 have hf:(prog.fieldsOf 56).toList.map (fun f=>(f.name,f.type,f.offset))=[("Server",3,0),("Actor",9,1),("Gen",3,2),("Claim",9,3),("Time",3,4),("Sig",44,5)]:=by kernel_rfl
 generalize (prog.fieldsOf 56).toList=l at hf
 rcases l with _|⟨⟨n1,t1,o1,_⟩,_|⟨⟨n2,t2,o2,_⟩,_|⟨⟨n3,t3,o3,_⟩,_|⟨⟨n4,t4,o4,_⟩,_|⟨⟨n5,t5,o5,_⟩,_|⟨⟨n6,t6,o6,_⟩,_|⟨g,l⟩⟩⟩⟩⟩⟩⟩
 case cons.cons.cons.cons.cons.cons.nil =>
  simp only [Z1,List.map_nil,List.cons.injEq,Prod.mk.injEq,and_true] at hf
  obtain ⟨⟨rfl,rfl,rfl⟩,⟨rfl,rfl,rfl⟩,⟨rfl,rfl,rfl⟩,⟨rfl,rfl,rfl⟩,⟨rfl,rfl,rfl⟩,rfl,rfl,rfl⟩:=hf
  exact cI (by dsimp only;decide) (bH rfl) (bH rfl) dV (cI (by dsimp only;decide) (bH rfl) (bH rfl) jA (cI (by dsimp only;decide) (bH rfl) (bH rfl) dV (cI (by dsimp only;decide) (bH rfl) (bH rfl) jA (cI (by dsimp only;decide) (bH rfl) (bH rfl) dV (cI (by dsimp only;decide) gO gO nd (qd))))))
 all_goals (have:=congrArg List.length hf;simp at this)
theorem ls {N:Nat} {av bor:List Nat} {w0:World} {st:St} {ty t2:TypeId} {x y:Operand} {a b:Xh} (hx:ev st.env x=some (.agg a.cells.toArray)) (hy:ev st.env y=some (.agg b.cells.toArray)) :
  Sy.Yields prog N av bor w0 st (.binOp .eql 56 x y t2) ty (.bool (ballotEq a b)):=Sy.Yields.mk fun A w ok d pos af g=>by
 have h1:=run_eql_struct (P:=prog) w 56 a.cells.toArray b.cells.toArray
 rw [pM w a b] at h1
 simp [execOp,ok.eval (st:=st) hx,ok.eval (st:=st) hy,run_eqGuard_agg _ _ _ _ _ _ _ nv,h1]
end Go.Proofs.YtaolfiikahlmkaaGreatDoor
