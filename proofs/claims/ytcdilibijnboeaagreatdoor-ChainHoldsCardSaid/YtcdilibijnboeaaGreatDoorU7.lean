/- Joined by program out of: ZmB ZnB Zh Zi Kc Si Zj Zv Ju. -/
import Derived.Test.YtcdilibijnboeaaGreatDoorU6
import Derived.Shelf.Slices.CompactS
import Derived.Lib.RowBridge
import Derived.Shelf.SlIter.Nil
import Derived.Shelf.SlIterI.Nil
import Derived.Shelf.SortM.Plain
import Derived.Shelf.SortM.SortNone
import Derived.Shelf.Slices.CompactI
import Derived.Test.YtcdilibijnboeaaGreatDoorProg
set_option linter.unusedVariables false
set_option linter.unusedSimpArgs false
namespace Go.Proofs.YtcdilibijnboeaaGreatDoor
open Go Go.Proofs Sy SrG
namespace SrB
structure InsI (P:List FndB) (a b:Nat) where
 k:Nat
 h1:a+1≤k
 h2:k≤b∨k=a+1
 Q:List FndB
 hQ:Rel P Q
structure InsJ (P:List FndB) (a k:Nat) where
 j:Nat
 h1:a≤j
 h2:j≤k
 Q:List FndB
 hQ:Rel P Q
set_option maxHeartbeats 4000000 in
theorem dp (s:SlV) (P:List FndB) (a b:Nat) (hs:s.n=P.length) (hm:s.n≤1000000) (ha:a≤s.n) (hb:b≤s.n) :
  Ct Tryz.prog 266 #[s.v,.int .i64 (a:Nat),.int .i64 (b:Nat),cmpF] [postR s P] (fun _=>True) (RelAt s P):=by
 refine cf (args:=[_,_,_,_]) _ Tryz.func266 rfl Tryz.ntmps266 rfl fun av bor w0=>?_
 refine cN (r:=postR s P) aI (p:=0<s.n→s.p.isSome=true) (fun w h hn=>cE h hn) fun hp=>?_
 repeat' (first|refine bp (q:=1) (hq:=by omega) ?_|apply ab|apply Qu|apply Qv|refine aj ?_|refine ad ?_|apply Qw|fail)
 refine aT (ι:=InsI P a b) (fun i=>⟨[(0,s.v),(1,.int .i64 (a:Nat)),(2,.int .i64 (b:Nat)),(3,cmpF),(8,.int .i64 (i.k:Nat))],[postR s i.Q],fun _=>True⟩) (fun i=>b-i.k) ⟨a+1,Qp _,.inr rfl,P,Rel.refl _⟩ (aw ⟨rfl,rfl,rfl,rfl,rfl,trivial⟩ (aE _) fun _ h=>h) fun i=>?_
 obtain ⟨k,h1,h2,Q,hQ⟩:=i
 simp only
 have hl:=hQ.1.length_eq
 repeat' (first|apply ab|apply Qu|apply Qv|refine aj ?_|refine ad ?_|refine bj ?_|apply Qx|apply Qw|apply aQ|(refine aG (ht:=?_) (hf:=?_);all_goals (intro hx_;first|have:=aP hx_|have:=aS hx_)))
 · have hkb:k<b:=by omega
   refine aT (ι:=InsJ P a k) (fun i=>⟨[(0,s.v),(1,.int .i64 (a:Nat)),(2,.int .i64 (b:Nat)),(3,cmpF),(8,.int .i64 (k:Nat)),(9,.int .i64 (i.j:Nat))],[postR s i.Q],fun _=>True⟩) (fun i=>i.j) ⟨k,by omega,Qp _,Q,hQ⟩ (aw ⟨rfl,rfl,rfl,rfl,rfl,rfl,trivial⟩ (aE _) fun _ h=>h) fun i=>?_
   obtain ⟨j,h3,h4,Q2,hQ2⟩:=i
   simp only
   have hl2:=hQ2.1.length_eq
   have hp':=hp ae
   by_cases hja:a<j
   · obtain ⟨x,hx⟩:∃ x,Q2[j]?=some x:=⟨_,Zm ae⟩
     obtain ⟨y,hy⟩:∃ y,Q2[j-1]?=some y:=⟨_,Zm ae⟩
     have hcm:=eC x y
     have hsx:Srt P→¬ cmpX x y<0:=fun hs=>hQ2.srt hs (j-1) j y x ae hy hx
     generalize cmpX x y=z at *
     apply Qu
     apply Qu
     unfold cmpF
     (refine aU [] (fun _=>True) ak ?_)
     all_goals refine aa 0 ?_<;>refine aa 1 ?_<;>(refine aa 2 (hy:=by (apply y_gtrT_g;rfl;rfl;omega)) ?_)<;>refine aa 3 ?_<;>refine aa 4 ?_<;>refine aa 5 ?_<;>refine aa 6 ?_<;>(refine aa 7 (hy:=by (apply aL (q:=j*9);rfl;rfl;omega;omega;assumption;(rfl))) ?_)<;>refine aa 9 ?_<;>refine aa 10 ?_<;>refine aa 11 ?_<;>(refine aa 12 (hy:=by (apply aL (q:=(j-1)*9);rfl;rfl;omega;omega;assumption;(omega))) ?_)<;>(refine bx 8 13 (h:=?_) (h':=?_);(focus (((refine am (bq (i:=j) (P:=Q2) rfl aI ae hx) rfl rfl rfl ?_);apply ab;refine ai ?_);all_goals ((refine ag 13 ?_;(refine am (bq (i:=j-1) (P:=Q2) rfl aI ae hy) rfl rfl rfl ?_);apply ab;refine ai ?_);all_goals (refine ag 14 ?_;(refine ao (hc:=hcm) (hX:=fun _ _=>trivial) ?_);apply ab;refine ai ?_);all_goals (refine aa 15 ?_);all_goals (refine aa 16 ?_);all_goals (refine ax ?_))));rotate_right;(focus (((refine am (bq (i:=j-1) (P:=Q2) rfl aI ae hy) rfl rfl rfl ?_);apply ab;refine ai ?_);all_goals ((refine ag 8 ?_;(refine am (bq (i:=j) (P:=Q2) rfl aI ae hx) rfl rfl rfl ?_);apply ab;refine ai ?_);all_goals (refine ag 14 ?_;(refine ao (hc:=hcm) (hX:=fun _ _=>trivial) ?_);apply ab;refine ai ?_);all_goals (refine aa 15 ?_);all_goals (refine aa 16 ?_);all_goals (refine ax ?_)))))
     all_goals
      repeat' (first|apply ab|apply Qu|apply Qv|refine aj ?_|refine ad ?_|refine be (h:=?_)|apply Qx|apply Qw|apply aQ|(refine aG (ht:=?_) (hf:=?_);all_goals (intro hx_;first|have:=aP hx_|have:=aS hx_)))
      · (refine aU [] (fun _=>True) ak ?_)
        all_goals refine aa 0 ?_<;>refine aa 1 ?_<;>refine aa 2 ?_<;>refine aa 3 ?_<;>refine aa 4 ?_<;>refine aa 5 ?_<;>refine aa 6 ?_<;>refine aa 7 ?_<;>(refine aa 8 (hy:=by (apply aL (q:=(j-1)*9);rfl;rfl;omega;omega;assumption;(omega))) ?_)<;>refine aa 10 ?_<;>refine aa 11 ?_<;>(refine aa 12 (hy:=by (apply aL (q:=j*9);rfl;rfl;omega;omega;assumption;(rfl))) ?_)<;>(refine bx 9 13 (h:=?_) (h':=?_);(focus (((refine am (bq (i:=j-1) (P:=Q2) rfl aI ae hy) rfl rfl rfl ?_);apply ab;refine ai ?_);all_goals ((refine ag 13 ?_;(refine am (bq (i:=j) (P:=Q2) rfl aI ae hx) rfl rfl rfl ?_);apply ab;refine ai ?_);all_goals (refine aa 14 (hy:=by (apply aL (q:=j*9);rfl;rfl;omega;omega;assumption;(rfl))) ?_);all_goals (refine ag 15 ?_;(refine bO (i:=j) (p:=y) rfl rfl ae ae (At.here _) rfl aB rfl ?_);apply ab;refine ai ?_);all_goals (refine aa 16 (hy:=by (apply aL (q:=(j-1)*9);rfl;rfl;omega;omega;assumption;(omega))) ?_);all_goals (refine ag 17 ?_;(refine bO (i:=j-1) (p:=x) rfl rfl ae (by (simp only [List.length_set];omega)) (At.here _) rfl aB rfl ?_);apply ab;refine ai ?_);all_goals (refine ax ?_))));rotate_right;(focus (((refine am (bq (i:=j) (P:=Q2) rfl aI ae hx) rfl rfl rfl ?_);apply ab;refine ai ?_);all_goals ((refine ag 9 ?_;(refine am (bq (i:=j-1) (P:=Q2) rfl aI ae hy) rfl rfl rfl ?_);apply ab;refine ai ?_);all_goals (refine aa 14 (hy:=by (apply aL (q:=j*9);rfl;rfl;omega;omega;assumption;(rfl))) ?_);all_goals (refine ag 15 ?_;(refine bO (i:=j) (p:=y) rfl rfl ae ae (At.here _) rfl aB rfl ?_);apply ab;refine ai ?_);all_goals (refine aa 16 (hy:=by (apply aL (q:=(j-1)*9);rfl;rfl;omega;omega;assumption;(omega))) ?_);all_goals (refine ag 17 ?_;(refine bO (i:=j-1) (p:=x) rfl rfl ae (by (simp only [List.length_set];omega)) (At.here _) rfl aB rfl ?_);apply ab;refine ai ?_);all_goals (refine ax ?_)))))
        all_goals
         repeat' (first|refine bE (q:=1) (hq:=by omega) ?_|apply ab|apply Qv|refine aj ?_|refine ad ?_|fail)
         exact ⟨(⟨j-1,by omega,by omega,(Q2.set j y).set (j-1) x,hQ2.swap hx hy (fun hs=>hsx hs (by assumption))⟩:InsJ P a k),(by show j-1<j;omega),aw ⟨rfl,rfl,rfl,rfl,rfl,rfl,trivial⟩ (aE _) fun _ h=>h⟩
      · repeat' (first|refine bp (q:=1) (hq:=by omega) ?_|fail)
        exact ⟨(⟨k+1,by omega,by omega,Q2,hQ2⟩:InsI P a b),(by show b-(k+1)<b-k;omega),aw ⟨rfl,rfl,rfl,rfl,rfl,trivial⟩ (aE _) fun _ h=>h⟩
   · apply Qu
     apply Qu
     unfold cmpF
     (refine aU [] (fun _=>True) ak ?_)
     all_goals refine aa 0 ?_<;>refine aa 1 ?_<;>(refine aa 2 (hy:=by (apply y_gtrF_g;rfl;rfl;omega)) ?_)<;>refine aa 3 ?_<;>refine aC 4 ?_<;>refine aC 5 ?_<;>refine aC 6 ?_<;>refine aC 7 ?_<;>refine aC 9 ?_<;>refine aC 10 ?_<;>refine aC 11 ?_<;>refine aC 12 ?_<;>(refine bx 8 13 (h:=?_) (h':=?_);(focus (((refine aK ?_);apply ab;refine ai ?_);all_goals ((refine ag 13 ?_;(refine aK ?_);apply ab;refine ai ?_);all_goals (refine ag 14 ?_;(refine aK ?_);apply ab;refine ai ?_);all_goals (refine aC 15 ?_);all_goals (refine aa 16 ?_);all_goals (refine ax ?_))));rotate_right;(focus (((refine aK ?_);apply ab;refine ai ?_);all_goals ((refine ag 8 ?_;(refine aK ?_);apply ab;refine ai ?_);all_goals (refine ag 14 ?_;(refine aK ?_);apply ab;refine ai ?_);all_goals (refine aC 15 ?_);all_goals (refine aa 16 ?_);all_goals (refine ax ?_)))))
     all_goals
      repeat' (first|refine bp (q:=1) (hq:=by omega) ?_|apply ab|apply Qv|refine aj ?_|refine ad ?_|refine Qz ?_|apply aQ|fail)
      exact ⟨(⟨k+1,by omega,by omega,Q2,hQ2⟩:InsI P a b),(by show b-(k+1)<b-k;omega),aw ⟨rfl,rfl,rfl,rfl,rfl,trivial⟩ (aE _) fun _ h=>h⟩
 · exact bY (bJ rfl) ⟨rfl,Q,hQ,rfl⟩
section
variable {N:Nat} {av bor:List Nat} {w0:World} {ops:Array Oper} {rest:List Oper} {k:St→Prop} {E:Env} {X:World→Prop} {d:Option Tmp} {ty:TypeId} {pos:String} {af:Array Edge} {g:Option (Nat×Bool)} {bb want:Bool}
theorem gj {x:Operand} {xs:List Operand} {ats:Array TypeId} {f:FuncId} {args:List Value} {s:SlV} {Q:List FndB}
  (hx:ev E x=some (.func (.func f) #[] #[]):=by rfl) (ha:evs E xs=some args:=by rfl) (hg:gdB ops E g=some (bb,want):=by rfl) (hb:bb=want:=by exact aB) (hd:inB N d=true:=by rfl) (hf:FnBody Tryz.prog f:=by infer_instance)
  (hc:Ct Tryz.prog f args.toArray [postR s Q] (fun _=>True) (RelAt s Q))
  (h:∀ Q':List FndB,Rel Q Q'→Sw Tryz.prog N av bor w0 ops rest ⟨putE E d (.tuple #[]),[postR s Q'],X⟩ k) :
  Sw Tryz.prog N av bor w0 ops (⟨d,.call ⟨.value x,xs.toArray,ats⟩,ty,pos,af,g⟩::rest) ⟨E,[postR s Q],X⟩ k :=
 cG (pre:=[postR s Q]) (fr:=[]) (first:=#[]) (caps:=#[]) (Post:=RelAt s Q) hx ha rfl hg hb hd hf (by simpa using hc) (fun _ _=>trivial) fun u R X' ⟨h1,Q',h2,h3⟩=>by
  subst h1
  subst h3
  refine ib (fun a w ok=>?_) (h Q' h2)
  exact ok.via fun M G=>G.imp fun _ h=>h.1
theorem cM {x:Operand} {xs:List Operand} {ats:Array TypeId} {f:FuncId} {args:List Value} {s:SlV} {P Q:List FndB} (hQ:Rel P Q)
  (hx:ev E x=some (.func (.func f) #[] #[]):=by rfl) (ha:evs E xs=some args:=by rfl) (hg:gdB ops E g=some (bb,want):=by rfl) (hb:bb=want:=by exact aB) (hd:inB N d=true:=by rfl) (hf:FnBody Tryz.prog f:=by infer_instance)
  (hc:∀ Q:List FndB,Rel P Q→Ct Tryz.prog f args.toArray [postR s Q] (fun _=>True) (RelAt s Q))
  (h:∀ Q':List FndB,Rel P Q'→Sw Tryz.prog N av bor w0 ops rest ⟨putE E d (.tuple #[]),[postR s Q'],X⟩ k) :
  Sw Tryz.prog N av bor w0 ops (⟨d,.call ⟨.value x,xs.toArray,ats⟩,ty,pos,af,g⟩::rest) ⟨E,[postR s Q],X⟩ k:=gj hx ha hg hb hd hf (hc Q hQ) fun Q' h1=>h Q' (hQ.trans h1)
theorem ic {x:Operand} {xs:List Operand} {ats:Array TypeId} {f:FuncId} {args:List Value} {s:SlV} {P Q:List FndB} (hQ:Rel P Q) (hno:Srt P→False)
  (hx:ev E x=some (.func (.func f) #[] #[]):=by rfl) (ha:evs E xs=some args:=by rfl) (hg:gdB ops E g=some (bb,want):=by rfl) (hb:bb=want:=by exact aB) (hd:inB N d=true:=by rfl) (hf:FnBody Tryz.prog f:=by infer_instance)
  (hc:∀ Q:List FndB,Rel P Q→Ct Tryz.prog f args.toArray [postR s Q] (fun _=>True) (PermAt s Q))
  (h:∀ Q':List FndB,Rel P Q'→Sw Tryz.prog N av bor w0 ops rest ⟨putE E d (.tuple #[]),[postR s Q'],X⟩ k) :
  Sw Tryz.prog N av bor w0 ops (⟨d,.call ⟨.value x,xs.toArray,ats⟩,ty,pos,af,g⟩::rest) ⟨E,[postR s Q],X⟩ k:=cT hx ha hg hb hd hf (hc Q hQ) fun Q' h1=>h Q' (hQ.perm h1 hno)
end
structure BinL (P:List FndB) (lo hi:Nat) extends BinI_g lo hi where
 hs:Srt P→i=lo
structure BinR (P:List FndB) (lo hi:Nat) extends BinI_g lo hi where
 hs:Srt P→j=hi
structure MerO (P:List FndB) (a m b mid:Nat) extends MerI_g a m b mid where
 hs:Srt P→j=(if mid<m then mid else m)
structure UpI (P:List FndB) (a:Nat) where
 k:Nat
 h1:a≤k
 Q:List FndB
 hQ:Rel P Q
structure DownI (P:List FndB) (i m:Nat) where
 k:Nat
 h1:i≤k
 h2:k≤m
 Q:List FndB
 hQ:Rel P Q
set_option maxRecDepth 20000 in
set_option maxHeartbeats 8000000 in
theorem cR:∀ (d:Nat) (s:SlV) (P:List FndB) (a m b:Nat),b-a≤d→s.n=P.length→s.n≤1000000→a<m→m<b→b≤s.n →
  Ct Tryz.prog 267 #[s.v,.int .i64 (a:Nat),.int .i64 (m:Nat),.int .i64 (b:Nat),cmpF] [postR s P] (fun _=>True) (RelAt s P)
 | 0,s,P,a,m,b,hd,hs,hm,ha,hb,hbs=>absurd hd ae
 | d+1,s,P,a,m,b,hd,hs,hm,ha,hb,hbs=>by
  have ih:=cR d
  have hP:Rel P P:=Rel.refl P
  refine cf (args:=[_,_,_,_,_]) _ Tryz.func267 rfl Tryz.ntmps267 rfl fun av bor w0=>?_
  refine cN (r:=postR s P) aI (p:=0<s.n→s.p.isSome=true) (fun w h hn=>cE h hn) fun hp=>?_
  have hp':=hp ae
  by_cases hA:m-a=1
  · repeat' (first|refine bE (hq:=by omega) ?_|refine bm (hab:=by omega) ?_|apply ab|apply Qu|apply Qv|refine aj ?_|refine ad ?_|refine Qy ?_|apply Qw|fail)
    refine aT (ι:=BinL P m b) (fun r=>⟨[(0,s.v),(1,.int .i64 (a:Nat)),(4,cmpF),(10,.int .i64 (r.i:Nat)),(11,.int .i64 (r.j:Nat))],[postR s P],fun _=>True⟩) (fun r=>r.j-r.i) ⟨⟨m,b,by omega,by omega,by omega⟩,fun _=>rfl⟩ (aw ⟨rfl,rfl,rfl,rfl,rfl,trivial⟩ (aE _) fun _ h=>h) fun r=>?_
    obtain ⟨⟨i,j,h1,h2,h3⟩,hso⟩:=r
    simp only at hso
    simp only
    repeat' (first|refine bp (hq:=by omega) ?_|refine sy_toU_g (hq:=by omega) ?_|refine di ?_|refine sy_toI_g (hq:=by omega) ?_|apply ab|apply Qu|apply Qv|refine aj ?_|refine ad ?_|refine bj ?_|apply Qx|apply Qw|apply aQ|(refine aG (ht:=?_) (hf:=?_);all_goals (intro hx_;first|have:=aP hx_|have:=aS hx_)))
    · have hlt:i<j:=by omega
      obtain ⟨x,hx⟩:∃ x,P[(i+j)/2]?=some x:=⟨_,Zm ae⟩
      obtain ⟨y,hy⟩:∃ y,P[a]?=some y:=⟨_,Zm ae⟩
      have hcm:=eC x y
      have hsx:Srt P→¬ cmpX x y<0:=fun hs=>hs a ((i+j)/2) y x ae hy hx
      generalize cmpX x y=z at *
      unfold cmpF
      (refine aU [] (fun _=>True) ak ?_)
      all_goals refine aa 0 ?_<;>refine aa 1 ?_<;>refine aa 2 ?_<;>(refine aa 3 (hy:=by (apply aL (q:=((i+j)/2)*9);rfl;rfl;omega;omega;assumption;(rfl))) ?_)<;>refine aa 5 ?_<;>refine aa 6 ?_<;>(refine aa 7 (hy:=by (apply aL (q:=(a)*9);rfl;rfl;omega;omega;assumption;(rfl))) ?_)<;>(refine bx 4 8 (h:=?_) (h':=?_);(focus (((refine am (bq (i:=(i+j)/2) (P:=P) rfl aI ae hx) rfl rfl rfl ?_);apply ab;refine ai ?_);all_goals ((refine ag 8 ?_;(refine am (bq (i:=a) (P:=P) rfl aI ae hy) rfl rfl rfl ?_);apply ab;refine ai ?_);all_goals (refine ag 9 ?_;(refine ao (hc:=hcm) (hX:=fun _ _=>trivial) ?_);apply ab;refine ai ?_);all_goals (refine aa 10 ?_);all_goals (refine ax ?_))));rotate_right;(focus (((refine am (bq (i:=a) (P:=P) rfl aI ae hy) rfl rfl rfl ?_);apply ab;refine ai ?_);all_goals ((refine ag 4 ?_;(refine am (bq (i:=(i+j)/2) (P:=P) rfl aI ae hx) rfl rfl rfl ?_);apply ab;refine ai ?_);all_goals (refine ag 9 ?_;(refine ao (hc:=hcm) (hX:=fun _ _=>trivial) ?_);apply ab;refine ai ?_);all_goals (refine aa 10 ?_);all_goals (refine ax ?_)))))
      all_goals
       repeat' (first|refine bp (q:=1) (hq:=by omega) ?_|apply ab|apply Qv|refine aj ?_|refine ad ?_|(refine aG (ht:=?_) (hf:=?_);all_goals (intro hx_;first|have:=aP hx_|have:=aS hx_)))
       · exact ⟨(⟨⟨(i+j)/2+1,j,by omega,by omega,h3⟩,fun hs=>absurd (show z<0 by assumption) (hsx hs)⟩:BinL P m b),(by show j-((i+j)/2+1)<j-i;omega),aw ⟨rfl,rfl,rfl,rfl,rfl,trivial⟩ (aE _) fun _ h=>h⟩
       · exact ⟨(⟨⟨i,(i+j)/2,h1,by omega,by omega⟩,hso⟩:BinL P m b),(by show (i+j)/2-i<j-i;omega),aw ⟨rfl,rfl,rfl,rfl,rfl,trivial⟩ (aE _) fun _ h=>h⟩
    · refine aT (ι:=UpI P a) (fun r=>⟨[(0,s.v),(10,.int .i64 (i:Nat)),(13,.int .i64 (r.k:Nat))],[postR s r.Q],fun _=>True⟩) (fun r=>i-r.k) ⟨a,Qp _,P,hP⟩ (aw ⟨rfl,rfl,rfl,trivial⟩ (aE _) fun _ h=>h) fun r=>?_
      obtain ⟨k,h4,Q,hQ⟩:=r
      simp only
      have hl:=hQ.1.length_eq
      repeat' (first|refine bE (q:=1) (hq:=by omega) ?_|apply ab|apply Qu|apply Qv|refine aj ?_|refine bj ?_|apply Qx|apply Qw|apply ar|apply aQ|(refine aG (ht:=?_) (hf:=?_);all_goals (intro hx_;first|have:=aP hx_|have:=aS hx_)))
      · have hlt:k+1<i:=by omega
        obtain ⟨x,hx⟩:∃ x,Q[k]?=some x:=⟨_,Zm ae⟩
        obtain ⟨y,hy⟩:∃ y,Q[k+1]?=some y:=⟨_,Zm ae⟩
        (refine aU [] (fun _=>True) ak ?_)
        all_goals refine aa 0 ?_<;>refine aa 1 ?_<;>refine aa 2 ?_<;>refine aa 3 ?_<;>refine aa 4 ?_<;>refine aa 5 ?_<;>refine aa 6 ?_<;>refine aa 7 ?_<;>(refine aa 8 (hy:=by (apply aL (q:=(k+1)*9);rfl;rfl;omega;omega;assumption;(rfl))) ?_)<;>refine aa 10 ?_<;>refine aa 11 ?_<;>(refine aa 12 (hy:=by (apply aL (q:=(k)*9);rfl;rfl;omega;omega;assumption;(rfl))) ?_)<;>(refine bx 9 13 (h:=?_) (h':=?_);(focus (((refine am (bq (i:=k+1) (P:=Q) rfl aI ae hy) rfl rfl rfl ?_);apply ab;refine ai ?_);all_goals ((refine ag 13 ?_;(refine am (bq (i:=k) (P:=Q) rfl aI ae hx) rfl rfl rfl ?_);apply ab;refine ai ?_);all_goals (refine aa 14 (hy:=by (apply aL (q:=(k)*9);rfl;rfl;omega;omega;assumption;(rfl))) ?_);all_goals (refine ag 15 ?_;(refine bO (i:=k) (p:=y) rfl rfl ae ae (At.here _) rfl aB rfl ?_);apply ab;refine ai ?_);all_goals (refine aa 16 (hy:=by (apply aL (q:=(k+1)*9);rfl;rfl;omega;omega;assumption;(rfl))) ?_);all_goals (refine ag 17 ?_;(refine bO (i:=k+1) (p:=x) rfl rfl ae (by (simp only [List.length_set];omega)) (At.here _) rfl aB rfl ?_);apply ab;refine ai ?_);all_goals (refine ax ?_))));rotate_right;(focus (((refine am (bq (i:=k) (P:=Q) rfl aI ae hx) rfl rfl rfl ?_);apply ab;refine ai ?_);all_goals ((refine ag 9 ?_;(refine am (bq (i:=k+1) (P:=Q) rfl aI ae hy) rfl rfl rfl ?_);apply ab;refine ai ?_);all_goals (refine aa 14 (hy:=by (apply aL (q:=(k)*9);rfl;rfl;omega;omega;assumption;(rfl))) ?_);all_goals (refine ag 15 ?_;(refine bO (i:=k) (p:=y) rfl rfl ae ae (At.here _) rfl aB rfl ?_);apply ab;refine ai ?_);all_goals (refine aa 16 (hy:=by (apply aL (q:=(k+1)*9);rfl;rfl;omega;omega;assumption;(rfl))) ?_);all_goals (refine ag 17 ?_;(refine bO (i:=k+1) (p:=x) rfl rfl ae (by (simp only [List.length_set];omega)) (At.here _) rfl aB rfl ?_);apply ab;refine ai ?_);all_goals (refine ax ?_)))))
        all_goals
         repeat' (first|refine bp (q:=1) (hq:=by omega) ?_|apply ab|apply Qv|refine aj ?_|refine ad ?_|fail)
         exact ⟨(⟨k+1,by omega,(Q.set k y).set (k+1) x,hQ.swap hx hy (fun hs=>by have:=hso hs;omega)⟩:UpI P a),(by show i-(k+1)<i-k;omega),aw ⟨rfl,rfl,rfl,trivial⟩ (aE _) fun _ h=>h⟩
      · exact al (bJ rfl) ⟨rfl,Q,hQ,rfl⟩
  · by_cases hB:b-m=1
    · repeat' (first|refine bE (hq:=by omega) ?_|refine bm (hab:=by omega) ?_|refine bt (hab:=by omega) ?_|apply ab|apply Qu|apply Qv|refine aj ?_|refine ad ?_|refine Qy ?_|refine Qz ?_|apply Qx|apply Qw|fail)
      refine aT (ι:=BinR P a m) (fun r=>⟨[(0,s.v),(2,.int .i64 (m:Nat)),(4,cmpF),(14,.int .i64 (r.i:Nat)),(15,.int .i64 (r.j:Nat))],[postR s P],fun _=>True⟩) (fun r=>r.j-r.i) ⟨⟨a,m,by omega,by omega,by omega⟩,fun _=>rfl⟩ (aw ⟨rfl,rfl,rfl,rfl,rfl,trivial⟩ (aE _) fun _ h=>h) fun r=>?_
      obtain ⟨⟨i,j,h1,h2,h3⟩,hso⟩:=r
      simp only at hso
      simp only
      repeat' (first|refine bp (hq:=by omega) ?_|refine sy_toU_g (hq:=by omega) ?_|refine di ?_|refine sy_toI_g (hq:=by omega) ?_|apply ab|apply Qu|apply Qv|refine aj ?_|refine ad ?_|refine bj ?_|apply Qx|apply Qw|apply aQ|(refine aG (ht:=?_) (hf:=?_);all_goals (intro hx_;first|have:=aP hx_|have:=aS hx_)))
      · have hlt:i<j:=by omega
        obtain ⟨x,hx⟩:∃ x,P[m]?=some x:=⟨_,Zm ae⟩
        obtain ⟨y,hy⟩:∃ y,P[(i+j)/2]?=some y:=⟨_,Zm ae⟩
        have hcm:=eC x y
        have hsx:Srt P→¬ cmpX x y<0:=fun hs=>hs ((i+j)/2) m y x ae hy hx
        generalize cmpX x y=z at *
        unfold cmpF
        (refine aU [] (fun _=>True) ak ?_)
        all_goals refine aa 0 ?_<;>refine aa 1 ?_<;>refine aa 2 ?_<;>(refine aa 3 (hy:=by (apply aL (q:=(m)*9);rfl;rfl;omega;omega;assumption;(rfl))) ?_)<;>refine aa 5 ?_<;>refine aa 6 ?_<;>(refine aa 7 (hy:=by (apply aL (q:=((i+j)/2)*9);rfl;rfl;omega;omega;assumption;(rfl))) ?_)<;>(refine bx 4 8 (h:=?_) (h':=?_);(focus (((refine am (bq (i:=m) (P:=P) rfl aI ae hx) rfl rfl rfl ?_);apply ab;refine ai ?_);all_goals ((refine ag 8 ?_;(refine am (bq (i:=(i+j)/2) (P:=P) rfl aI ae hy) rfl rfl rfl ?_);apply ab;refine ai ?_);all_goals (refine ag 9 ?_;(refine ao (hc:=hcm) (hX:=fun _ _=>trivial) ?_);apply ab;refine ai ?_);all_goals (refine aa 10 ?_);all_goals (refine aa 11 ?_);all_goals (refine ax ?_))));rotate_right;(focus (((refine am (bq (i:=(i+j)/2) (P:=P) rfl aI ae hy) rfl rfl rfl ?_);apply ab;refine ai ?_);all_goals ((refine ag 4 ?_;(refine am (bq (i:=m) (P:=P) rfl aI ae hx) rfl rfl rfl ?_);apply ab;refine ai ?_);all_goals (refine ag 9 ?_;(refine ao (hc:=hcm) (hX:=fun _ _=>trivial) ?_);apply ab;refine ai ?_);all_goals (refine aa 10 ?_);all_goals (refine aa 11 ?_);all_goals (refine ax ?_)))))
        all_goals
         repeat' (first|refine bp (q:=1) (hq:=by omega) ?_|apply ab|apply Qv|refine aj ?_|refine ad ?_|(refine aG (ht:=?_) (hf:=?_);all_goals (intro hx_;skip)))
         · exact ⟨(⟨⟨(i+j)/2+1,j,by omega,by omega,h3⟩,hso⟩:BinR P a m),(by show j-((i+j)/2+1)<j-i;omega),aw ⟨rfl,rfl,rfl,rfl,rfl,trivial⟩ (aE _) fun _ h=>h⟩
         · exact ⟨(⟨⟨i,(i+j)/2,h1,by omega,by omega⟩,fun hs=>absurd (show z<0 by (simp_all;done)) (hsx hs)⟩:BinR P a m),(by show (i+j)/2-i<j-i;omega),aw ⟨rfl,rfl,rfl,rfl,rfl,trivial⟩ (aE _) fun _ h=>h⟩
      · refine aT (ι:=DownI P i m) (fun r=>⟨[(0,s.v),(14,.int .i64 (i:Nat)),(17,.int .i64 (r.k:Nat))],[postR s r.Q],fun _=>True⟩) (fun r=>r.k) ⟨m,by omega,Qp _,P,hP⟩ (aw ⟨rfl,rfl,rfl,trivial⟩ (aE _) fun _ h=>h) fun r=>?_
        obtain ⟨k,h4,h5,Q,hQ⟩:=r
        simp only
        have hl:=hQ.1.length_eq
        repeat' (first|apply ab|apply Qu|apply Qv|refine aj ?_|refine cK ?_|apply Qx|apply Qw|apply ar|apply aQ|(refine aG (ht:=?_) (hf:=?_);all_goals (intro hx_;first|have:=aP hx_|have:=aS hx_)))
        · have hlt:i<k:=by omega
          obtain ⟨x,hx⟩:∃ x,Q[k]?=some x:=⟨_,Zm ae⟩
          obtain ⟨y,hy⟩:∃ y,Q[k-1]?=some y:=⟨_,Zm ae⟩
          (refine aU [] (fun _=>True) ak ?_)
          all_goals refine aa 0 ?_<;>refine aa 1 ?_<;>refine aa 2 ?_<;>refine aa 3 ?_<;>refine aa 4 ?_<;>refine aa 5 ?_<;>refine aa 6 ?_<;>refine aa 7 ?_<;>(refine aa 8 (hy:=by (apply aL (q:=(k-1)*9);rfl;rfl;omega;omega;assumption;(omega))) ?_)<;>refine aa 10 ?_<;>refine aa 11 ?_<;>(refine aa 12 (hy:=by (apply aL (q:=(k)*9);rfl;rfl;omega;omega;assumption;(rfl))) ?_)<;>(refine bx 9 13 (h:=?_) (h':=?_);(focus (((refine am (bq (i:=k-1) (P:=Q) rfl aI ae hy) rfl rfl rfl ?_);apply ab;refine ai ?_);all_goals ((refine ag 13 ?_;(refine am (bq (i:=k) (P:=Q) rfl aI ae hx) rfl rfl rfl ?_);apply ab;refine ai ?_);all_goals (refine aa 14 (hy:=by (apply aL (q:=(k)*9);rfl;rfl;omega;omega;assumption;(rfl))) ?_);all_goals (refine ag 15 ?_;(refine bO (i:=k) (p:=y) rfl rfl ae ae (At.here _) rfl aB rfl ?_);apply ab;refine ai ?_);all_goals (refine aa 16 (hy:=by (apply aL (q:=(k-1)*9);rfl;rfl;omega;omega;assumption;(omega))) ?_);all_goals (refine ag 17 ?_;(refine bO (i:=k-1) (p:=x) rfl rfl ae (by (simp only [List.length_set];omega)) (At.here _) rfl aB rfl ?_);apply ab;refine ai ?_);all_goals (refine ax ?_))));rotate_right;(focus (((refine am (bq (i:=k) (P:=Q) rfl aI ae hx) rfl rfl rfl ?_);apply ab;refine ai ?_);all_goals ((refine ag 9 ?_;(refine am (bq (i:=k-1) (P:=Q) rfl aI ae hy) rfl rfl rfl ?_);apply ab;refine ai ?_);all_goals (refine aa 14 (hy:=by (apply aL (q:=(k)*9);rfl;rfl;omega;omega;assumption;(rfl))) ?_);all_goals (refine ag 15 ?_;(refine bO (i:=k) (p:=y) rfl rfl ae ae (At.here _) rfl aB rfl ?_);apply ab;refine ai ?_);all_goals (refine aa 16 (hy:=by (apply aL (q:=(k-1)*9);rfl;rfl;omega;omega;assumption;(omega))) ?_);all_goals (refine ag 17 ?_;(refine bO (i:=k-1) (p:=x) rfl rfl ae (by (simp only [List.length_set];omega)) (At.here _) rfl aB rfl ?_);apply ab;refine ai ?_);all_goals (refine ax ?_)))))
          all_goals
           repeat' (first|refine bE (q:=1) (hq:=by omega) ?_|apply ab|apply Qv|refine aj ?_|refine ad ?_|fail)
           exact ⟨(⟨k-1,by omega,by omega,(Q.set k y).set (k-1) x,hQ.swap hx hy (fun hs=>by have:=hso hs;omega)⟩:DownI P i m),(by show k-1<k;omega),aw ⟨rfl,rfl,rfl,trivial⟩ (aE _) fun _ h=>h⟩
        · exact al (bJ rfl) ⟨rfl,Q,hQ,rfl⟩
    · obtain ⟨mid,hmid⟩:∃ mid,mid=(a+b)/2:=⟨_,rfl⟩
      have hm1:a<mid:=by omega
      have hm2:mid<b:=by omega
      have hm3:2*mid≤a+b:=by omega
      have hm4:a+b≤2*mid+1:=by omega
      by_cases hmm:mid<m
      all_goals
       repeat' (first|refine bt (hab:=by omega) ?_|refine jV (hab:=by omega) ?_|refine g9 (hab:=by omega) ?_|refine bE (q:=1) (hq:=by omega) ?_|refine bE (hq:=by omega) ?_|refine bp (hq:=by omega) ?_|refine sy_toU_g (hq:=by omega) ?_|refine di ?_|refine sy_toI_g (hq:=by omega) ?_|apply ab|apply Qu|apply Qv|refine aj ?_|refine ad ?_|refine Qy ?_|refine Qz ?_|apply Qx|apply Qw|fail)
       rw [←hmid]
       first
        | refine aT (ι:=MerO P a m b mid) (fun r=>⟨[(0,s.v),(1,.int .i64 (a:Nat)),(2,.int .i64 (m:Nat)),(3,.int .i64 (b:Nat)),(4,cmpF),(18,.int .i64 (mid:Nat)),(19,.int .i64 ((mid+m:Nat):Int)),(20,.int .i64 (r.i:Nat)),(21,.int .i64 (r.j:Nat)),(22,.int .i64 ((mid+m-1:Nat):Int))],[postR s P],fun _=>True⟩) (fun r=>r.j-r.i) ⟨⟨mid+m-b,mid,by omega,by omega,by omega⟩,fun _=>by rw [Qf (by assumption)]⟩ (aw ⟨rfl,rfl,rfl,rfl,rfl,rfl,rfl,rfl,rfl,rfl,trivial⟩ (aE _) fun _ h=>h) fun r=>?_
        | refine aT (ι:=MerO P a m b mid) (fun r=>⟨[(0,s.v),(1,.int .i64 (a:Nat)),(2,.int .i64 (m:Nat)),(3,.int .i64 (b:Nat)),(4,cmpF),(18,.int .i64 (mid:Nat)),(19,.int .i64 ((mid+m:Nat):Int)),(20,.int .i64 (r.i:Nat)),(21,.int .i64 (r.j:Nat)),(22,.int .i64 ((mid+m-1:Nat):Int))],[postR s P],fun _=>True⟩) (fun r=>r.j-r.i) ⟨⟨a,m,by omega,by omega,by omega⟩,fun _=>by rw [Qg (by assumption)]⟩ (aw ⟨rfl,rfl,rfl,rfl,rfl,rfl,rfl,rfl,rfl,rfl,trivial⟩ (aE _) fun _ h=>h) fun r=>?_
       obtain ⟨⟨i,j,h1,h2,h3⟩,hso⟩:=r
       simp only at hso
       simp only
       have hk1:a≤i:=by omega
       have hk2:j≤m:=by omega
       have hk3:i≤mid+m:=by omega
       by_cases hij:i<j
       · have hk4:(i+j)/2<j:=by omega
         have hk5:i≤(i+j)/2:=by omega
         have hk6:(i+j)/2≤mid+m-1:=by omega
         have hk7:mid+m-1-(i+j)/2<b:=by omega
         repeat' (first|refine sy_lssT_g (hab:=by omega) ?_|refine bp (hq:=by omega) ?_|refine sy_toU_g (hq:=by omega) ?_|refine di ?_|refine sy_toI_g (hq:=by omega) ?_|apply ab|apply Qu|apply Qv|refine aj ?_|refine ad ?_|refine Qy ?_|apply Qx|apply Qw|fail)
         obtain ⟨x,hx⟩:∃ x,P[mid+m-1-(i+j)/2]?=some x:=⟨_,Zm ae⟩
         obtain ⟨y,hy⟩:∃ y,P[(i+j)/2]?=some y:=⟨_,Zm ae⟩
         have hcm:=eC x y
         have hsx:Srt P→¬ cmpX x y<0:=fun hs=>hs ((i+j)/2) (mid+m-1-(i+j)/2) y x ae hy hx
         generalize cmpX x y=z at *
         unfold cmpF
         (refine aU [] (fun _=>True) ak ?_)
         all_goals refine aa 0 ?_<;>refine aa 1 ?_<;>refine aa 2 ?_<;>refine aa 3 ?_<;>refine aa 4 ?_<;>(refine aa 5 (hy:=by (apply aL (q:=(mid+m-1-(i+j)/2)*9);rfl;rfl;omega;omega;assumption;(omega))) ?_)<;>refine aa 7 ?_<;>refine aa 8 ?_<;>(refine aa 9 (hy:=by (apply aL (q:=((i+j)/2)*9);rfl;rfl;omega;omega;assumption;(rfl))) ?_)<;>(refine bx 6 10 (h:=?_) (h':=?_);(focus (((refine am (bq (i:=mid+m-1-(i+j)/2) (P:=P) rfl aI ae hx) rfl rfl rfl ?_);apply ab;refine ai ?_);all_goals ((refine ag 10 ?_;(refine am (bq (i:=(i+j)/2) (P:=P) rfl aI ae hy) rfl rfl rfl ?_);apply ab;refine ai ?_);all_goals (refine ag 11 ?_;(refine ao (hc:=hcm) (hX:=fun _ _=>trivial) ?_);apply ab;refine ai ?_);all_goals (refine aa 12 ?_);all_goals (refine aa 13 ?_);all_goals (refine ax ?_))));rotate_right;(focus (((refine am (bq (i:=(i+j)/2) (P:=P) rfl aI ae hy) rfl rfl rfl ?_);apply ab;refine ai ?_);all_goals ((refine ag 6 ?_;(refine am (bq (i:=mid+m-1-(i+j)/2) (P:=P) rfl aI ae hx) rfl rfl rfl ?_);apply ab;refine ai ?_);all_goals (refine ag 11 ?_;(refine ao (hc:=hcm) (hX:=fun _ _=>trivial) ?_);apply ab;refine ai ?_);all_goals (refine aa 12 ?_);all_goals (refine aa 13 ?_);all_goals (refine ax ?_)))))
         all_goals
          repeat' (first|refine bp (q:=1) (hq:=by omega) ?_|apply ab|apply Qv|refine aj ?_|refine ad ?_|(refine aG (ht:=?_) (hf:=?_);all_goals (intro hx_;skip)))
          · exact ⟨(⟨⟨(i+j)/2+1,j,by omega,by omega,by omega⟩,hso⟩:MerO P a m b mid),(by show j-((i+j)/2+1)<j-i;omega),aw ⟨rfl,rfl,rfl,rfl,rfl,rfl,rfl,rfl,rfl,rfl,trivial⟩ (aE _) fun _ h=>h⟩
          · exact ⟨(⟨⟨i,(i+j)/2,by omega,by omega,by omega⟩,fun hs=>absurd (show z<0 by (simp_all;done)) (hsx hs)⟩:MerO P a m b mid),(by show (i+j)/2-i<j-i;omega),aw ⟨rfl,rfl,rfl,rfl,rfl,rfl,rfl,rfl,rfl,rfl,trivial⟩ (aE _) fun _ h=>h⟩
       · have hk8:mid+m-i≤b:=by omega
         have hnl:¬ (i:Int)<(j:Int):=by omega
         repeat' (first|refine sy_lssF_g (hab:=by first|exact hnl|omega) ?_|refine sy_lssT_g (hab:=by omega) ?_|refine bE (hq:=by omega) ?_|apply ab|apply Qu|apply Qv|refine aj ?_|refine ad ?_|refine aD ?_|refine aF ?_|refine bj ?_|refine aK ?_|refine Qy ?_|refine Qz ?_|apply Qx|apply aQ|(refine ic (P:=P) (hQ:=by assumption) (hno:=fun hs=>by have:=hso hs;split at this<;>omega) (hc:=fun Q hQ=>fI s Q i m (mid+m-i) cmpF (hs.trans hQ.1.length_eq.symm) hm ae ae ae) (h:=fun Q2 hQ2=>?_))|(refine cM (P:=P) (hQ:=by assumption) (hc:=fun Q hQ=>ih s Q a i mid ae (hs.trans hQ.1.length_eq.symm) hm ae ae ae) (h:=fun Q2 hQ2=>?_))|(refine cM (P:=P) (hQ:=by assumption) (hc:=fun Q hQ=>ih s Q mid (mid+m-i) b ae (hs.trans hQ.1.length_eq.symm) hm ae ae ae) (h:=fun Q2 hQ2=>?_))|((fail_if_success (refine aZ ?_));refine aR (ht:=?_) (hf:=?_);all_goals (intro hx_;first|have:=aP hx_|have:=aS hx_))|(refine aG (ht:=?_) (hf:=?_);all_goals (intro hx_;first|have:=aP hx_|have:=aS hx_)))
         all_goals
          refine bY (bJ rfl) ⟨rfl,_,?_,rfl⟩
          assumption
end SrB
namespace SrB
structure StaI (P:List FndB) (n w:Nat) where
 a:Nat
 b:Nat
 h1:a≤n
 h2:b=a+w
 Q:List FndB
 hQ:Rel P Q
structure StaO (P:List FndB) (n:Nat) where
 z:Nat
 h1:1≤z
 h2:z≤2*n+20
 Q:List FndB
 hQ:Rel P Q
set_option maxRecDepth 20000 in
set_option maxHeartbeats 8000000 in
theorem fE (s:SlV) (P:List FndB) (hs:s.n=P.length) (hm:s.n≤1000000):Ct Tryz.prog 263 #[s.v,.int .i64 (s.n:Nat),cmpF] [postR s P] (fun _=>True) (RelAt s P):=by
 have hP:Rel P P:=Rel.refl P
 refine cf (args:=[_,_,_]) _ Tryz.func263 rfl Tryz.ntmps263 rfl fun av bor w0=>?_
 repeat' (first|apply ab|apply Qu|apply Qv|refine aj ?_|refine ad ?_|apply Qw|fail)
 refine aT (ι:=StaI P s.n 20) (fun r=>⟨[(0,s.v),(1,.int .i64 (s.n:Nat)),(2,cmpF),(6,.int .i64 20),(7,.int .i64 (r.a:Nat)),(8,.int .i64 (r.b:Nat))],[postR s r.Q],fun _=>True⟩) (fun r=>s.n-r.a) ⟨0,20,Nat.zero_le _,rfl,P,hP⟩ (aw ⟨rfl,rfl,rfl,rfl,rfl,rfl,trivial⟩ (aE _) fun _ h=>h) fun r=>?_
 obtain ⟨a,b,h1,h2,Q,hQ⟩:=r
 simp only
 repeat' (first|refine bp (q:=20) (hq:=by omega) ?_|apply ab|apply Qu|apply Qv|refine aj ?_|refine ad ?_|refine cB ?_|apply Qx|apply Qw|apply aQ|(refine cM (P:=P) (hQ:=by assumption) (hc:=fun Q hQ=>dp s Q a b (hs.trans hQ.1.length_eq.symm) hm ae ae) (h:=fun Q2 hQ2=>?_))|(refine cM (P:=P) (hQ:=by assumption) (hc:=fun Q hQ=>dp s Q a s.n (hs.trans hQ.1.length_eq.symm) hm ae ae) (h:=fun Q2 hQ2=>?_))|(refine aG (ht:=?_) (hf:=?_);all_goals (intro hx_;first|have:=aP hx_|have:=aS hx_)))
 · exact ⟨(⟨b,b+20,by omega,rfl,Q2,hQ2⟩:StaI P s.n 20),(by show s.n-b<s.n-a;omega),aw ⟨rfl,rfl,rfl,rfl,rfl,rfl,trivial⟩ (aE _) fun _ h=>h⟩
 · refine aT (ι:=StaO P s.n) (fun r=>⟨[(0,s.v),(1,.int .i64 (s.n:Nat)),(2,cmpF),(6,.int .i64 (r.z:Nat))],[postR s r.Q],fun _=>True⟩) (fun r=>s.n-r.z) ⟨20,by omega,by omega,Q2,hQ2⟩ (aw ⟨rfl,rfl,rfl,rfl,trivial⟩ (aE _) fun _ h=>h) fun r=>?_
   clear h1 h2 hQ hQ2
   obtain ⟨z,h1,h2,Q,hQ⟩:=r
   simp only
   repeat' (first|refine dZ (p:=2) (hq:=by omega) ?_|apply ab|apply Qu|apply Qv|refine aj ?_|refine ad ?_|refine bj ?_|apply Qx|apply Qw|apply aQ|(refine aG (ht:=?_) (hf:=?_);all_goals (intro hx_;first|have:=aP hx_|have:=aS hx_)))
   · have hzn:z<s.n:=by omega
     refine aT (ι:=StaI P s.n (2*z)) (fun r=>⟨[(0,s.v),(1,.int .i64 (s.n:Nat)),(2,cmpF),(6,.int .i64 (z:Nat)),(7,.int .i64 (r.a:Nat)),(8,.int .i64 (r.b:Nat))],[postR s r.Q],fun _=>True⟩) (fun r=>s.n-r.a) ⟨0,2*z,Nat.zero_le _,(Ql _).symm,Q,hQ⟩ (aw ⟨rfl,rfl,rfl,rfl,rfl,rfl,trivial⟩ (aE _) fun _ h=>h) fun r=>?_
     obtain ⟨a,b,h3,h4,Q3,hQ3⟩:=r
     simp only
     repeat' (first|refine bp (hq:=by omega) ?_|refine dZ (p:=2) (hq:=by omega) ?_|refine dZ (q:=2) (hq:=by omega) ?_|apply ab|apply Qu|apply Qv|refine aj ?_|refine ad ?_|refine bj ?_|refine cB ?_|apply Qx|apply Qw|apply aQ|(refine cM (P:=P) (hQ:=by assumption) (hc:=fun Q hQ=>cR (b-a) s Q a (a+z) b (Qp _) (hs.trans hQ.1.length_eq.symm) hm ae ae ae) (h:=fun Q2 hQ2=>?_))|(refine cM (P:=P) (hQ:=by assumption) (hc:=fun Q hQ=>cR (s.n-a) s Q a (a+z) s.n (Qp _) (hs.trans hQ.1.length_eq.symm) hm ae ae ae) (h:=fun Q2 hQ2=>?_))|(refine aG (ht:=?_) (hf:=?_);all_goals (intro hx_;first|have:=aP hx_|have:=aS hx_)))
     · exact ⟨(⟨b,b+2*z,by omega,rfl,Q2,hQ2⟩:StaI P s.n (2*z)),(by show s.n-b<s.n-a;omega),aw ⟨rfl,rfl,rfl,rfl,rfl,rfl,trivial⟩ (aE _) fun _ h=>h⟩
     all_goals
      refine ⟨(⟨z*2,by omega,by omega,_,?_⟩:StaO P s.n),(by show s.n-z*2<s.n-z;omega),aw ⟨rfl,rfl,rfl,rfl,trivial⟩ (aE _) fun _ h=>h⟩
      assumption
   · exact bY (bJ rfl) ⟨rfl,Q,hQ,rfl⟩
theorem sortStable_ct (s:SlV) (P:List FndB) (hs:s.n=P.length) (hm:s.n≤1000000):Ct Tryz.prog 251 #[s.v,cmpF] [postR s P] (fun _=>True) (RelAt s P):=by
 have hP:Rel P P:=Rel.refl P
 refine cf (args:=[_,_]) _ Tryz.func251 rfl Tryz.ntmps251 rfl fun av bor w0=>?_
 repeat' (first|apply ab|apply Qv|refine aj ?_|refine aY ?_|(refine cM (P:=P) (hQ:=by assumption) (hc:=fun Q hQ=>fE s Q (hs.trans hQ.1.length_eq.symm) hm) (h:=fun Q2 hQ2=>?_))|fail)
 exact bY (bJ rfl) ⟨rfl,Q2,hQ2,rfl⟩
end SrB
end Go.Proofs.YtcdilibijnboeaaGreatDoor
namespace Go.Proofs.YtcdilibijnboeaaGreatDoor
open Go Go.Proofs Sy
def fndOfB (dI:ItemD→ByteArray) (it:ItemD):FndB:=⟨0,dI it,it.ballot⟩
def selBB (au:ByteArray) (gn:Int) (rI:ItemD→Bool) (it:ItemD):Bool:=wantB au gn it&&rI it
def selFB (au:ByteArray) (gn:Int) (rI:ItemD→Bool) (dI:ItemD→ByteArray) (I:List ItemD):List FndB:=(I.filter (selBB au gn rI)).map (fndOfB dI)
def selB2 (au:ByteArray) (gn:Int) (rI:ItemD→Bool) (I:List ItemD):List BallotD:=(I.filter (selBB au gn rI)).map ItemD.ballot
theorem zw (au:ByteArray) (gn:Int) (rI:ItemD→Bool) (dI:ItemD→ByteArray) (I:List ItemD):(selFB au gn rI dI I).map FndB.a=selB2 au gn rI I:=by rw [selFB,selB2,Qs];rfl
structure PikIB (I:List ItemD) (au:ByteArray) (gn:Int) (rI:ItemD→Bool) (dI:ItemD→ByteArray) where
 k:Nat
 hk:k≤I.length
 A:Option Addr
 c:Nat
 n:Nat
 hn:n=(selFB au gn rI dI (I.take k)).length
 xs:List Value
 hxs:xs=((selFB au gn rI dI (I.take k)).map FndB.cells).flatten
structure ValIB (Q:List FndB) where
 k:Nat
 hk:k≤Q.length
 A:Option Addr
 c:Nat
 xs:List Value
 hxs:xs=((Q.take k).map fun f=>f.a.cells).flatten
def wantVB (bW bG:Nat):Value:=.func (.func 223) #[] #[.pointer (some ⟨bW,0,none⟩),.pointer (some ⟨bG,0,none⟩)]
set_option maxHeartbeats 16000000 in
theorem uL (ks ki:SlV) (I:List ItemD) (bW bG:Nat) (au:ByteArray) (gn:Int) (rI:ItemD→Bool) (dI:ItemD→ByteArray)
  (hR:∀ it∈I,Pu Tryz.prog 44 #[it.v] (fun w=>it.at_ w) (.bool (rI it)))
  (hD:∀ it∈I,Pu Tryz.prog 14 #[it.v] (fun w=>it.at_ w∧Glob w) (.string (dI it)))
  (hI:I.length≤1000) (hasc:SrB.Srt (selFB au gn rI dI I)) :
  Mk Tryz.prog 222 #[.agg #[ks.v,ki.v],wantVB bW bG] (fun w=>(Items w ki I∧(CelD bW [.string au] w∧CelD bG [.int .i64 gn] w))∧Glob w)
   (fun u X'=>∃ s:SlV,u=s.v∧∀ w,X' w→Ballots w s (selB2 au gn rI I)):=by
 refine cA (args:=[_,_]) _ Tryz.func222 rfl Tryz.ntmps222 rfl fun av bor w0=>?_
 refine bI (p:=ki.n=I.length∧ki.n≤maxLen∧(0<I.length→ki.p.isSome=true)) (fun w h=>⟨h.1.1.len_,h.1.1.max_,h.1.1.some_⟩) fun ⟨hkn,hkm,hkp⟩=>?_
 simp only [maxLen] at hkm
 repeat' (first|apply ab|apply Qu|apply Qv|refine aj ?_|refine ad ?_|refine aA ?_|refine az ?_|refine aY ?_|refine aN fun _=>?_|apply Qw|fail)
 rename_i b2
 refine cU 261 9 ?_
 refine aT (ι:=PikIB I au gn rI dI) (fun i=>⟨[(1,wantVB bW bG),(5,.slice i.A i.n i.c),(15,ki.v),(16,.int .i64 (ki.n:Nat)),(17,.int .i64 (i.k:Nat))],[orow 261 9 (.slice i.A i.n i.c) i.n i.xs],fun w=>(Items w ki I∧(CelD bW [.string au] w∧CelD bG [.int .i64 gn] w))∧Glob w⟩) (fun i=>I.length-i.k) ⟨0,Nat.zero_le _,none,0,0,rfl,[],rfl⟩ (aw ⟨rfl,rfl,rfl,rfl,rfl,trivial⟩ (.cons_cons _ (ZR _)) fun _ h=>h) fun i=>?_
 obtain ⟨k,hk,A,c,n,hn,xs,hxs⟩:=i
 simp only
 repeat' (first|apply ab|apply Qu|apply Qv|refine aj ?_|refine bj ?_|apply Qx|apply Qw|apply aQ|(refine aG (ht:=?_) (hf:=?_);all_goals (intro hx_;first|have:=aP hx_|have:=aS hx_)))
 · have hlt:k<I.length:=by omega
   have hkp':=hkp ae
   obtain ⟨it,hit⟩:∃ it,I[k]?=some it:=⟨_,Zm hlt⟩
   have him:=List.mem_of_getElem? hit
   have hnl:n≤1000:=by
    rw [hn,selFB,Z3]
    exact Qq (List.length_filter_le _ _) (by rw [List.length_take];omega)
   repeat' (first|apply ab|apply Qu|apply Qv|refine aj ?_|refine aH ?_|refine aM fun _=>?_|refine aJ ?_|(refine bu (q:=k*49) ?_)|(refine co (cs:=it.cells) (hF:=fun w h=>h.1.1.get hit) ?_)|fail)
   rename_i b7
   have hri:=hR it him
   have hdi:=hD it him
   have hwa:=vJ bW bG au gn it
   have htk:selFB au gn rI dI (I.take (k+1))=selFB au gn rI dI (I.take k)++(bif selBB au gn rI it then [fndOfB dI it] else []):=by
    rw [selFB,selFB,List.take_add_one,hit,List.filter_append,Qn,Option.toList_some]
    congr 1
    cases hb:selBB au gn rI it with
    | true=>simp [hb]
    | false=>simp [hb]
   cases hwt:wantB au gn it with
   | false =>
    rw [hwt] at hwa
    have hno:selFB au gn rI dI (I.take (k+1))=selFB au gn rI dI (I.take k):=by rw [htk,selBB,hwt];exact Z9 _
    refine eO (args:=[it.v]) (all:=[it.v,.pointer (some ⟨bW,0,none⟩),.pointer (some ⟨bG,0,none⟩)]) (first:=#[]) (caps:=#[.pointer (some ⟨bW,0,none⟩),.pointer (some ⟨bG,0,none⟩)]) (hx:=rfl) (ha:=rfl) (hall:=rfl) (hc:=hwa) (hX:=fun w h=>h.1.2) (h:=?_)
    repeat' (first|apply ab|apply Qu|apply Qv|refine aj ?_|refine ad ?_|refine aF ?_|refine bM ?_|refine be (h:=?_)|refine aK ?_|refine aM fun _=>?_|refine aJ ?_|refine Qz ?_|apply Qx|fail)
    exact ⟨(⟨k+1,hlt,A,c,n,by rw [hno];exact hn,xs,by rw [hno];exact hxs⟩:PikIB I au gn rI dI),(by show I.length-(k+1)<I.length-k;omega),aw ⟨rfl,rfl,rfl,rfl,rfl,trivial⟩ (.cons _ (.cons _ (aE _))) fun _ h=>h⟩
   | true =>
    rw [hwt] at hwa
    cases hrt:rI it with
    | false =>
     rw [hrt] at hri
     have hno:selFB au gn rI dI (I.take (k+1))=selFB au gn rI dI (I.take k):=by rw [htk,selBB,hwt,hrt];exact Z9 _
     refine eO (args:=[it.v]) (all:=[it.v,.pointer (some ⟨bW,0,none⟩),.pointer (some ⟨bG,0,none⟩)]) (first:=#[]) (caps:=#[.pointer (some ⟨bW,0,none⟩),.pointer (some ⟨bG,0,none⟩)]) (hx:=rfl) (ha:=rfl) (hall:=rfl) (hc:=hwa) (hX:=fun w h=>h.1.2) (h:=?_)
     repeat' (first|apply ab|apply Qu|apply Qv|refine aj ?_|refine ad ?_|refine aH ?_|refine aD ?_|refine bM ?_|refine be (h:=?_)|refine aM fun _=>?_|refine aJ ?_|refine Qz ?_|apply Qx|(refine ao (hc:=hri) (hX:=fun w h=>h.1.1.2 it him) ?_)|fail)
     exact ⟨(⟨k+1,hlt,A,c,n,by rw [hno];exact hn,xs,by rw [hno];exact hxs⟩:PikIB I au gn rI dI),(by show I.length-(k+1)<I.length-k;omega),aw ⟨rfl,rfl,rfl,rfl,rfl,trivial⟩ (.cons _ (.cons _ (aE _))) fun _ h=>h⟩
    | true =>
     rw [hrt] at hri
     have hyes:selFB au gn rI dI (I.take (k+1))=selFB au gn rI dI (I.take k)++[fndOfB dI it]:=by rw [htk,selBB,hwt,hrt];rfl
     refine eO (args:=[it.v]) (all:=[it.v,.pointer (some ⟨bW,0,none⟩),.pointer (some ⟨bG,0,none⟩)]) (first:=#[]) (caps:=#[.pointer (some ⟨bW,0,none⟩),.pointer (some ⟨bG,0,none⟩)]) (hx:=rfl) (ha:=rfl) (hall:=rfl) (hc:=hwa) (hX:=fun w h=>h.1.2) (h:=?_)
     repeat' (first|apply ab|apply Qu|apply Qv|refine aj ?_|refine ad ?_|refine aH ?_|refine aD ?_|refine bM ?_|refine aM fun _=>?_|refine aJ ?_|refine Qy ?_|(refine ao (hc:=hri) (hX:=fun w h=>h.1.1.2 it him) ?_)|fail)
     rename_i b8
     (refine aU [cel b8 53 it.ballot.cells,cel b7 57 it.cells] (fun w=>(Items w ki I∧(CelD bW [.string au] w∧CelD bG [.int .i64 gn] w))∧Glob w) ak ?_)
     all_goals refine aa 0 ?_<;>refine aa 1 ?_<;>refine aa 2 ?_<;>refine aa 4 ?_<;>(refine ag 3 ?_;(refine ao (hc:=hdi) (hX:=fun w h=>⟨h.1.1.2 it him,h.2⟩) ?_);apply ab;refine ai ?_)<;>(refine aa 5 (hy:=by (apply cd (cs:=(fndOfB dI it).cells);rfl;rfl)) ?_)<;>(refine ag 6 ?_;(refine bF (size:=9) (vs:=[.agg (fndOfB dI it).cells.toArray]) (css:=(fndOfB dI it).cells) (hsz:=by rfl) (hcs:=by rfl) fun _=>?_);apply ab;refine ai ?_)<;>(refine ag 7 ?_;(refine aV (size:=9) (news:=(fndOfB dI it).cells) (q:=1) rfl rfl rfl rfl (fun _=>At.there _ (At.there _ (At.there _ (At.here _)))) (fun w G=>bo G aI rfl rfl 1) ae (by simp only [maxLen];omega) rfl ?_ rfl ?_;(with_reducible rfl);intro A2 c2);apply ab;refine ai ?_)<;>refine aa 8 ?_<;>(refine ax ?_)
     all_goals
      repeat' (first|apply ab|apply Qv|refine aj ?_|refine be (h:=?_)|fail)
      exact ⟨(⟨k+1,hlt,A2,c2,n+1,by rw [hyes,ZX,←hn];rfl,xs++(fndOfB dI it).cells,by rw [hyes,hxs];simp⟩:PikIB I au gn rI dI),(by show I.length-(k+1)<I.length-k;omega),aw ⟨rfl,rfl,rfl,rfl,rfl,trivial⟩ (.cons _ (.cons _ (.cons _ (aE _)))) fun _ h=>h⟩
 have hkE:k=I.length:=by omega
 rw [hkE,List.take_length] at hn hxs
 obtain ⟨P,hP⟩:∃ P,selFB au gn rI dI I=P:=⟨_,rfl⟩
 rw [hP] at hn hxs
 have hPl:P.length≤I.length:=by rw [←hP,selFB,Z3];exact List.length_filter_le _ _
 subst hxs
 refine cG (pre:=[SrB.postR ⟨A,n,c⟩ P]) (fr:=[]) (first:=#[]) (caps:=#[]) (hc:=SrB.sortStable_ct ⟨A,n,c⟩ P hn (by show n≤1000000;omega)) (hX:=fun _ _=>trivial) (h:=?_)
 rintro v R X' ⟨rfl,Q,hQ,rfl⟩
 have hQP:Q=P:=hQ.2 (by rw [←hP];exact hasc)
 subst hQP
 have hQl:Q.length=n:=hn.symm
 have hnI:n≤1000:=by omega
 refine cS (X':=fun w=>(Items w ki I∧(CelD bW [.string au] w∧CelD bG [.int .i64 gn] w))∧Glob w) (fun w h=>h.1) ?_
 repeat' (first|apply ab|apply Qu|apply Qv|refine aj ?_|refine ad ?_|refine aY ?_|apply Qw|(refine ie (c:=n) (hm:=Nat.ble_eq_true_of_le ae) (hm2:=Nat.ble_eq_true_of_le ae) fun bv=>?_)|fail)
 refine cN (r:=SrB.postR ⟨A,n,c⟩ Q) bX (p:=0<n→A.isSome=true) (fun w h h0=>cE h h0) fun hAp=>?_
 refine aT (ι:=ValIB Q) (fun i=>⟨[(11,.slice i.A i.k i.c),(47,.slice A n c),(48,.int .i64 (n:Nat)),(49,.int .i64 (i.k:Nat))],[orow 53 7 (.slice i.A i.k i.c) i.k i.xs,SrB.postR ⟨A,n,c⟩ Q],fun w=>(Items w ki I∧(CelD bW [.string au] w∧CelD bG [.int .i64 gn] w))∧Glob w⟩) (fun i=>Q.length-i.k) ⟨0,Nat.zero_le _,_,_,[],rfl⟩ (aw ⟨rfl,rfl,rfl,rfl,trivial⟩ (aE _) fun _ h=>h) fun i=>?_
 obtain ⟨k2,hk2,A2,c2,xs2,hxs2⟩:=i
 simp only
 repeat' (first|apply ab|apply Qu|apply Qv|refine aj ?_|refine ad ?_|refine bj ?_|apply Qx|apply Qw|apply ar|apply aQ|(refine aG (ht:=?_) (hf:=?_);all_goals (intro hx_;first|have:=aP hx_|have:=aS hx_)))
 · have hlt:k2<Q.length:=by omega
   have hAp':=hAp ae
   obtain ⟨f,hf⟩:∃ f,Q[k2]?=some f:=⟨_,Zm hlt⟩
   repeat' (first|refine bF (size:=7) (vs:=[f.a.v]) (css:=f.a.cells) (hsz:=by rfl) (hcs:=by rfl) fun _=>?_|apply ab|apply Qv|refine aj ?_|refine aA ?_|refine aM fun _=>?_|refine aJ ?_|(refine bu (q:=k2*9) ?_)|(refine am (fQ (size:=9) (m:=n) (i:=k2) (xs:=Q.map FndB.cells) (cs:=f.cells) rfl (.tail _ (.head _)) (by rw [Z3];exact hQl.symm) (SrB.cellsF Q) (by simp [hf])) rfl rfl rfl ?_)|(refine aW (vs:=f.a.cells) (hv:=rfl) ?_)|fail)
   refine aV (size:=7) (news:=f.a.cells) (q:=1) rfl rfl rfl rfl (fun _=>At.there _ (At.there _ (At.here _))) (fun w G=>bo G aI rfl rfl 1) ae (by simp only [maxLen];omega) rfl ?_ rfl ?_
   · (with_reducible rfl)
   intro A3 c3
   repeat' (first|apply ab|apply Qv|refine aj ?_|refine ad ?_|refine be (h:=?_)|fail)
   exact ⟨(⟨k2+1,hlt,A3,c3,xs2++f.a.cells,by rw [List.take_add_one,hf,hxs2];simp⟩:ValIB Q),(by show Q.length-(k2+1)<Q.length-k2;omega),aw ⟨rfl,rfl,rfl,rfl,trivial⟩ (.cons _ (.cons _ (aE _))) fun _ h=>h⟩
 have hk2E:k2=Q.length:=by omega
 rw [hk2E,List.take_length] at hxs2
 have hLp:Q.map FndB.a=selB2 au gn rI I:=by rw [←zw au gn rI dI I,hP]
 refine al (aq rfl rfl) ⟨⟨A2,k2,c2⟩,rfl,fun w h=>?_⟩
 rw [←hLp]
 have hr:=h.2 (orow 53 7 (.slice A2 k2 c2) k2 xs2) (.head _)
 exact cj (xs:=(Q.map FndB.a).map BallotD.cells) (by rw [Qs];rw [hxs2] at hr;exact hr) (by rw [Z3,Z3];exact hk2E) (ot _)
theorem je (ks ki:SlV) (I:List ItemD) (au:ByteArray) (gn:Int) (rI:ItemD→Bool) (dI:ItemD→ByteArray)
  (hR:∀ it∈I,Pu Tryz.prog 44 #[it.v] (fun w=>it.at_ w) (.bool (rI it)))
  (hD:∀ it∈I,Pu Tryz.prog 14 #[it.v] (fun w=>it.at_ w∧Glob w) (.string (dI it)))
  (hI:I.length≤1000) (hasc:SrB.Srt (selFB au gn rI dI I)) :
  Mk Tryz.prog 194 #[.agg #[ks.v,ki.v],.string au,.int .i64 gn] (fun w=>Items w ki I∧Glob w)
   (fun u X'=>∃ s:SlV,u=s.v∧∀ w,X' w→Ballots w s (selB2 au gn rI I)):=by
 refine cA (args:=[_,_,_]) _ Tryz.func194 rfl Tryz.ntmps194 rfl fun av bor w0=>?_
 repeat' (first|apply ab|apply Qu|apply Qv|refine ad ?_|refine aH ?_|refine aN fun _=>?_|(refine dU ?_)|fail)
 rename_i b2 b3 b4
 refine cq ?_
 refine cq ?_
 refine dA (hc:=uL ks ki I b3 b4 au gn rI dI hR hD hI hasc) (hX:=fun w h=>⟨⟨h.1.1.1,eW h.2,eW h.1.2⟩,h.1.1.2⟩) fun v X1 h1=>?_
 obtain ⟨s,rfl,hw⟩:=h1
 repeat' (first|apply ab|refine ad ?_|apply ar|fail)
 exact al (aq rfl rfl) ⟨s,rfl,fun w h=>hw w h.1.2⟩
def encBal (b:BallotD):List Value:=[b.v]
structure BalX (ks ki:SlV) (I:List ItemD) (bk ba bg:Nat) (au:ByteArray) (gn:Int) (w:World):Prop where
 i:Items w ki I
 g:Glob w
 k:CelD bk [ks.v,ki.v] w
 a:CelD ba [.string au] w
 n:CelD bg [.int .i64 gn] w
theorem rz (ks ki:SlV) (au:ByteArray) (gn:Int):Mk Tryz.prog 136 #[.agg #[ks.v,ki.v],.string au,.int .i64 gn] (fun _=>True)
  fun u X'=>∃ bk ba bg,u=.func (.func 193) #[] #[.pointer (some ⟨bk,0,none⟩),.pointer (some ⟨ba,0,none⟩),.pointer (some ⟨bg,0,none⟩)]∧∀ w,X' w→CelD bk [ks.v,ki.v] w∧CelD ba [.string au] w∧CelD bg [.int .i64 gn] w:=by
 refine cA (args:=[_,_,_]) _ Tryz.func136 rfl Tryz.ntmps136 rfl fun av bor w0=>?_
 repeat' (first|apply ab|apply Qu|apply Qv|refine ad ?_|refine aN fun _=>?_|apply ar|(refine dU ?_)|fail)
 exact al (aq rfl rfl) ⟨_,_,_,rfl,fun w h=>⟨eW (h.2 _ bX),eW (h.2 _ bX),eW (h.2 _ bX)⟩⟩
structure BaI (L:List BallotD) (Rs:List BallotD→List Res→Prop) where
 k:Nat
 hk:k≤L.length
 R:List Res
 hR:Rs (L.take k) R
set_option maxHeartbeats 4000000 in
theorem qf (ks ki:SlV) (I:List ItemD) (bk ba bg:Nat) (au:ByteArray) (gn:Int) (L:List BallotD) (hL:L.length≤1000000)
  (hK:Mk Tryz.prog 194 #[.agg #[ks.v,ki.v],.string au,.int .i64 gn] (fun w=>Items w ki I∧Glob w) (fun u X'=>∃ s:SlV,u=s.v∧∀ w,X' w→Ballots w s L)) :
  It Tryz.prog 193 [.pointer (some ⟨bk,0,none⟩),.pointer (some ⟨ba,0,none⟩),.pointer (some ⟨bg,0,none⟩)] (BalX ks ki I bk ba bg au gn) encBal L:=by
 intro l X Rs hX hY R0 h0
 refine cf (args:=[_,_,_,_]) _ Tryz.func193 rfl Tryz.ntmps193 rfl fun av bor w0=>?_
 refine sY (st':=⟨[(1,.pointer (some ⟨bk,0,none⟩)),(2,.pointer (some ⟨ba,0,none⟩)),(3,.pointer (some ⟨bg,0,none⟩)),(0,.func (.yield l) #[] #[])],R0++[],X⟩) (by rw [Z9];exact aw ⟨rfl,rfl,rfl,rfl,trivial⟩ (aE _) fun _ h=>h) ?_
 repeat' (first|apply ab|apply Qu|apply Qv|refine aj ?_|refine aY ?_|apply Qw|(refine np (cs:=[ks.v,ki.v]) (hF:=fun w h=>(hX w h).k) (hl:=rfl) ?_)|(refine wR (v:=.string au) (hF:=fun w h=>(hX w h).a 0 _ rfl) ?_)|(refine wR (v:=.int .i64 gn) (hF:=fun w h=>(hX w h).n 0 _ rfl) ?_)|(refine dA (hc:=hK) (hX:=fun w h=>⟨(hX w h).i,(hX w h).g⟩) fun v1 X1 h1=>?_;obtain ⟨s,rfl,hs⟩:=h1)|fail)
 refine bI (p:=s.n=L.length∧s.n≤maxLen∧(0<L.length→s.p.isSome=true)) (fun w h=>⟨by simpa using RowsD.len (hs w h.2),Qq (RowsD.cap (hs w h.2)) (RowsD.max (hs w h.2)),fun h0=>(RowsD.row (hs w h.2) 0 L[0].cells (by simp [Zm h0])).2.1⟩) fun ⟨hsn,hsm,hsp⟩=>?_
 simp only [maxLen] at hsm
 refine aT (ι:=BaI L Rs) (fun i=>⟨[(0,.func (.yield l) #[] #[]),(10,s.v),(11,.int .i64 (s.n:Nat)),(12,.int .i64 (i.k:Nat))],i.R++[],fun w=>X w∧X1 w⟩) (fun i=>L.length-i.k) ⟨0,Nat.zero_le _,R0,h0⟩ (aw ⟨rfl,rfl,rfl,rfl,trivial⟩ (aE _) fun _ h=>h) fun i=>?_
 obtain ⟨k,hk,R,hR⟩:=i
 simp only
 by_cases hlt:k<L.length
 · have hsp':=hsp ae
   obtain ⟨x,hx⟩:∃ x,L[k]?=some x:=⟨_,Zm hlt⟩
   have hrow:∀ w,X w∧X1 w→x.cells.length=7∧s.p.isSome=true∧∀ i u,x.cells[i]?=some u→CellAt w s.p (k*7+i) u:=fun w h=>RowsD.row (hs w h.2) k x.cells (by simp [hx])
   have hsplit:L=L.take k++x::L.drop (k+1):=by
    have h1:=List.take_append_drop k L
    rw [List.drop_eq_getElem_cons hlt] at h1
    rw [Zm hlt,Qc] at hx
    rw [hx] at h1
    exact h1.symm
   have htk:L.take (k+1)=L.take k++[x]:=by rw [List.take_add_one,hx,Option.toList_some]
   repeat' (first|apply Qu|fail)
   apply Qv
   repeat' (first|(refine am (bK true rfl rfl (ZA ae)) rfl aB rfl ?_)|apply ab|apply Qu|refine Qy ?_|apply Qx|apply Qw|fail)
   apply Qv
   repeat' (first|apply ab|apply Qu|refine aM fun _=>?_|refine aJ ?_|(refine bu (q:=k*7) ?_)|(refine co (cs:=x.cells) (hF:=hrow) ?_)|fail)
   rename_i b6
   refine AR ?_
   refine BD (pre:=[_,_]) (rest:=[_,_]) rfl ?_
   refine aj ?_
   refine aH ?_
   refine dB (l:=R++[cel b6 53 x.cells]) (by rw [Z9];exact List.perm_append_comm (l₁:=[_]) (l₂:=R)) ?_
   apply ab
   refine zr (pre:=R) (fr:=[cel b6 53 x.cells]) rfl rfl rfl rfl rfl (hY _ _ _ _ hsplit hR) (fun _ h=>h.1) fun v R' X' hv=>?_
   obtain ⟨rfl,hR'⟩:=hv
   refine wU rfl ?_
   repeat' (first|apply ab|apply Qv|refine aj ?_|refine bN ?_|refine be (h:=?_)|refine Qz ?_|apply Qx|fail)
   exact ⟨(⟨k+1,hlt,R',by rw [htk];exact hR'⟩:BaI L Rs),(by show L.length-(k+1)<L.length-k;omega),aw ⟨rfl,rfl,rfl,rfl,trivial⟩ (by rw [Z9];exact List.sublist_append_left _ _) fun _ h=>h.1⟩
 · have hkE:k=L.length:=by omega
   repeat' (first|refine am (bK false rfl rfl (Zn ae)) rfl aB rfl ?_|apply ab|apply Qu|apply Qv|refine Qz ?_|apply aQ|fail)
   refine bY (bJ rfl) ?_
   rw [hkE,List.take_length] at hR
   simpa using hR
end Go.Proofs.YtcdilibijnboeaaGreatDoor
namespace Go.Proofs.YtcdilibijnboeaaGreatDoor
open Go Go.Proofs Sy Go.Shelf Go.Maps Go.Sort
theorem compS_c:CompC Tryz.prog 47 encStr [] Lib.compact where
 some_:=fun blk off cap ss w h1 h2 h3=>Any.slices_Compact_string Tryz.compS blk off cap ss w h1 h2 h3
 none_:=fun p cap w=>Any.slices_Compact_string_empty Tryz.compS p cap w
 len:=fun ss=>Lib.compact_length_le ss
end Go.Proofs.YtcdilibijnboeaaGreatDoor
namespace Go.Proofs
open Go.Shelf
def Tryz.compI_ren:Go.Shelf.Ren:=⟨fun|20=>138|n=>n,fun|22=>22|3=>3|4=>4|0=>0|n=>n,fun|n=>n⟩
theorem Tryz.compI:Go.Proofs.Lays2.n20 Tryz.prog Tryz.compI_ren:={
 mixed:=by kernel_rfl
 f20:=Tryz.func138.trans (congrArg some (by kernel_rfl))
 t0:=Tryz.underlying0
 a0:=Tryz.isAgg0
 z0:=Tryz.sizeOf0
 v0:=Tryz.zeroValue0
 t3:=Tryz.underlying3
 a3:=Tryz.isAgg3
 z3:=Tryz.sizeOf3
 v3:=Tryz.zeroValue3
 t4:=Tryz.underlying4
 a4:=Tryz.isAgg4
 z4:=Tryz.sizeOf4
 v4:=Tryz.zeroValue4
 t22:=Tryz.underlying22
 a22:=Tryz.isAgg22
 z22:=Tryz.sizeOf22
 v22:=Tryz.zeroValue22
 i3:=by kernel_rfl }
end Go.Proofs
namespace Go.Proofs.YtcdilibijnboeaaGreatDoor
open Go Go.Proofs Sy Go.Shelf Go.Maps Go.Sort
def encJ (n:Int):Value:=.int .i64 n
theorem sortI_c:SortC Tryz.prog 137 encJ (fun ss=>ss.mergeSort (fun a b=>decide (a≤b))) where
 some_:=fun blk off cap ss w h1 h2 h3=>AnyM.slices_Sort_int Tryz.sortI blk off cap ss w h1 h2 h3
 none_:=fun p cap w=>AnyM.slices_Sort_int_none Tryz.sortI p cap w
 len:=fun ss=>List.length_mergeSort ss
theorem compI_c:CompC Tryz.prog 138 encJ 0 Lib.compact where
 some_:=fun blk off cap ss w h1 h2 h3=>Any.slices_Compact_int Tryz.compI blk off cap ss w h1 h2 h3
 none_:=fun p cap w=>Any.slices_Compact_int_empty Tryz.compI p cap w
 len:=fun ss=>Lib.compact_length_le ss
end Go.Proofs.YtcdilibijnboeaaGreatDoor
namespace Go.Proofs.YtcdilibijnboeaaGreatDoor
open Go Go.Proofs Sy
def vpre (d:ByteArray) (l:List BallotD):List Int:=(l.filter fun b=>seqB b.claim d).map BallotD.server
def votV (d:ByteArray) (l:List BallotD):List Int:=Lib.compact ((vpre d l).mergeSort (fun a b=>decide (a≤b)))
theorem Bx {d:ByteArray} {l:List BallotD} {x:BallotD} (h:seqB x.claim d=true):vpre d (l++[x])=vpre d l++[x.server]:=by simp [vpre,List.filter_append,List.filter_cons,h]
theorem By {d:ByteArray} {l:List BallotD} {x:BallotD} (h:seqB x.claim d=false):vpre d (l++[x])=vpre d l:=by simp [vpre,List.filter_append,List.filter_cons,h]
theorem rP (d:ByteArray) (l:List BallotD):(vpre d l).length≤l.length:=by rw [vpre,Z3];exact List.length_filter_le _ _
set_option maxHeartbeats 4000000 in
theorem tp (ks ki:SlV) (I:List ItemD) (au:ByteArray) (gn:Int) (d:ByteArray) (L:List BallotD) (hL:L.length≤1000000)
  (hK:Mk Tryz.prog 194 #[.agg #[ks.v,ki.v],.string au,.int .i64 gn] (fun w=>Items w ki I∧Glob w) (fun u X'=>∃ s:SlV,u=s.v∧∀ w,X' w→Ballots w s L)) :
  Mk Tryz.prog 83 #[.agg #[ks.v,ki.v],.string d,.string au,.int .i64 gn] (fun w=>Items w ki I∧Glob w) (fun u _=>∃ A c,u=.slice A (votV d L).length c):=by
 refine cA (args:=[_,_,_,_]) _ Tryz.func83 rfl Tryz.ntmps83 rfl fun av bor w0=>?_
 refine cU 3 1 ?_
 repeat' (first|apply ab|apply Qu|apply Qv|refine aj ?_|refine ad ?_|refine aH ?_|refine aM fun _=>?_|refine aN fun _=>?_|apply Qw|(refine dA (hc:=rz ks ki au gn) (hX:=fun w h=>trivial) fun v1 X1 h1=>?_;obtain ⟨bk,ba,bg,rfl,hb⟩:=h1)|fail)
 rename_i b4 b5 b9
 refine yo (ps:=[15]) (xs:=L) (enc:=encBal) (X1:=BalX ks ki I bk ba bg au gn) rfl inferInstance (qf ks ki I bk ba bg au gn L hL hK) (fun w h=>⟨h.1.1,h.1.2,(hb w h.2).1,(hb w h.2).2.1,(hb w h.2).2.2⟩) (fun _=>rfl) rfl
  (fun pre loc1=>∃ A q,loc1=[cel b9 22 [.slice A (vpre d pre).length q],cel b5 9 [.string d],cel b4 25 [ks.v,ki.v],orow 3 1 (.slice A (vpre d pre).length q) (vpre d pre).length ((vpre d pre).map encJ)])
  ⟨none,0,rfl⟩ ?_ ?_
 · rintro lo pre x suf loc1 hsp ⟨A,q,rfl⟩ av bor w0
   have hpx:pre.length<L.length:=by rw [hsp];simp
   have hfl:=rP d pre
   repeat' (first|apply ab|refine Rd.Qv (h:=?_)|refine aM fun _=>?_|refine aJ ?_|fail)
   intro av bor w0
   cases hmv:seqB x.claim d with
   | true =>
    rw [Bx hmv]
    generalize vpre d pre=ys at *
    repeat' (first|refine am (dj true rfl rfl hmv) rfl aB rfl ?_|apply ab|apply Rd.Qu|refine Rd.Qv (h:=?_)|refine aA ?_|refine az ?_|refine bU fun _=>?_|refine bc ?_|refine Rd.Qy (ht:=?_)|apply Rd.Qw|(refine aV (size:=1) (news:=[encJ x.server]) (q:=1) rfl rfl rfl rfl (fun _=>At.there _ (At.there _ (At.there _ (At.there _ (At.there _ (At.here _)))))) (fun w G=>bo G aI rfl rfl 1) ae (by simp only [maxLen];omega) rfl ?_ rfl ?_;(with_reducible rfl);intro A3 c3)|fail)
    have e1:(ys++[x.server]).length=ys.length+1:=by simp
    have e2:(ys++[x.server]).map encJ=ys.map encJ++[encJ x.server]:=by simp
    rw [e1,e2]
    exact ⟨_,.cons _ (.cons _ (aE _)),A3,c3,rfl⟩
   | false =>
    rw [By hmv]
    generalize vpre d pre=ys at *
    repeat' (first|refine am (dj false rfl rfl hmv) rfl aB rfl ?_|apply ab|apply Rd.Qu|refine Rd.Qv (h:=?_)|refine aA ?_|refine az ?_|refine Rd.Qz (hf:=?_)|apply Rd.Qx|apply Rd.Qw|fail)
    exact ⟨_,.cons _ (aE _),A,q,rfl⟩
 · rintro loc1 ⟨A,q,rfl⟩
   have hfl:=rP d L
   have hvo:votV d L=Lib.compact ((vpre d L).mergeSort (fun a b=>decide (a≤b))):=rfl
   rw [hvo]
   generalize vpre d L=ys at *
   repeat' (first|apply Qu|apply Qv|refine az ?_|fail)
   refine nt (hc:=sortI_c.ct (e:=3) (n:=ys.length) (ss:=ys) ae) (hX:=fun _ _=>trivial) ?_
   repeat' (first|apply ab|apply Qu|apply Qv|refine az ?_|fail)
   refine sf (hc:=compI_c.ct) (hX:=fun _ _=>trivial) ?_
   rintro _ _ X2 ⟨A3,c3,rfl,rfl⟩
   repeat' (first|apply ab|refine ad ?_|apply ar|fail)
   exact al (aq rfl rfl) ⟨A3,c3,rfl⟩
def ofClaimI (c:ClaimD):ItemD:=⟨1,ActD.zero,c,BallotD.zero,DecD.zero⟩
theorem fg (c:ClaimD):Pu Tryz.prog 53 #[c.v] (fun _=>True) (ofClaimI c).v:=by
 refine ay (args:=[_]) _ Tryz.func53 rfl Tryz.ntmps53 rfl fun av bor w0=>?_
 repeat' (first|refine br (cs:=(ofClaimI c).cells) (hf:=by rfl) ?_|apply ab|apply Qu|apply Qv|refine aH ?_|refine aM fun _=>?_|refine aN fun _=>?_|refine aJ ?_|apply ar|fail)
 exact al (dm rfl rfl bX (by rfl)) rfl
theorem l8 (b:Nat) (h:BldH) (sa sk:SlV) (st:ChS) (pl:List (ByteArray×Value)) (ok:BldOk sa sk st pl) (hw:h.wn=false) (Y:World→Prop) :
  Ct Tryz.prog 34 #[.pointer (some ⟨b,0,none⟩)] (bldR b h sa sk st pl) Y (fun u R _=>BldAt b h st (.bool false) u R):=by
 obtain ⟨ks,ki,id,fork,q1,q2,cl,wn⟩:=h
 simp only at hw
 subst hw
 refine d7 (args:=[_]) _ Tryz.func34 rfl Tryz.ntmps34 rfl fun av bor w0=>?_
 unfold bldR
 repeat' (first|apply ab|apply Qu|apply Qv|refine aj ?_|refine ad ?_|refine cu ?_|refine aA ?_|fail)
 (refine aU [cel b 87 (bldC ⟨ks,ki,id,fork,q1,q2,cl,false⟩ sa sk st.prev (st.gen:Nat)),actR sa st.acts,keyR sk st.keys,mapr q2 pl] (fun w=>Y w) ak ?_)
 all_goals refine ap 0 ?_<;>refine ap 1 ?_<;>refine ap 2 ?_<;>(refine ap 3 (hy:=by (apply lV (v:=.bool false);rfl;(repeat (exact aI));rfl)) ?_)<;>refine ap 4 ?_<;>refine ap 5 ?_<;>refine bn 6 ?_<;>refine bn 7 ?_<;>refine bn 8 ?_<;>refine bn 9 ?_<;>refine bn 10 ?_<;>refine bn 11 ?_<;>refine bn 12 ?_<;>refine bn 13 ?_<;>refine bn 14 ?_<;>refine bn 15 ?_<;>refine bn 16 ?_<;>refine ap 17 ?_<;>refine ap 18 ?_<;>refine bn 19 ?_<;>refine bn 20 ?_<;>refine bn 21 ?_<;>refine bn 22 ?_<;>refine bn 23 ?_<;>refine bn 24 ?_<;>refine bn 25 ?_<;>refine bn 26 ?_<;>refine bn 27 ?_<;>refine bn 28 ?_<;>refine ap 29 ?_<;>(refine ax ?_)
 repeat' (first|apply ab|apply Qu|apply Qv|refine ad ?_|refine Qy ?_|apply ar|fail)
 exact al (aq rfl rfl) ⟨_,aE _,rfl,sa,sk,pl,ok,rfl⟩
structure SetI (l:List ActD) where
 k:Nat
 hk:k≤l.length
 hs:setI l l.length=setI l k
set_option maxHeartbeats 16000000 in
theorem l5 (b:Nat) (h:BldH) (sa sk:SlV) (st:ChS) (pl:List (ByteArray×Value)) (ok:BldOk sa sk st pl) (W:OfW) (c0:ClaimD) (hwc:W.won st.gen=some c0) (hcl:h.cl=c0) (hwn:h.wn=true) (Y:World→Prop)
  (hl:st.acts.length≤1000000) (hl2:st.keys.length≤1000000) (hg:st.gen≤1000000)
  (hclm:∀ p:Int,Pu Tryz.prog 52 #[.int .i64 p,c0.v] (fun w=>Y w∧Glob w) (.bool (W.clm p c0)))
  (hdg:Pu Tryz.prog 14 #[(ofClaimI c0).v] (fun w=>Y w∧Glob w) (.string (W.dgC c0)))
  (hwon:Pu Tryz.prog 51 #[.agg #[h.ks.v,h.ki.v],.string h.id,.int .i64 ((st.gen+1:Nat):Int)] (fun w=>Y w∧Glob w) (.tuple #[((W.won (st.gen+1)).getD ClaimD.zero).v,.bool (W.won (st.gen+1)).isSome])) :
  Ct Tryz.prog 34 #[.pointer (some ⟨b,0,none⟩)] (bldR b h sa sk st pl) (fun w=>Y w∧Glob w)
   (fun u R _=>(∀ s,regS W st=some s→BldAt b (h.look (W.won (st.gen+1))) s (.bool true) u R)∧(regS W st=none→BldAt b h st (.bool false) u R)):=by
 obtain ⟨ks,ki,id,fork,q1,q2,c,wn⟩:=h
 simp only at hcl hwn
 subst hcl
 subst hwn
 have ok':=ok
 obtain ⟨hn,hk,hp⟩:=ok
 refine d7 (args:=[_]) _ Tryz.func34 rfl Tryz.ntmps34 rfl fun av bor w0=>?_
 have hreg:regS W st=bif decide (c.base=(st.acts.length:Int))&&seqB c.prev st.prev then (match setI st.acts st.acts.length with
  | none=>none
  | some i=>bif W.clm (st.acts.getD i ActD.zero).m c then some ⟨st.acts,st.keys++[⟨(st.acts.length:Nat),c.pub,c.home⟩],W.dgC c,st.gen+1⟩ else none) else none:=by rw [regS,hwc];rfl
 generalize hgo:regS W st=go at *
 unfold bldR actR keyR
 repeat' (first|apply ab|apply Qu|apply Qv|refine aj ?_|refine ad ?_|refine cu ?_|refine aA ?_|fail)
 cases hb:decide (c.base=(st.acts.length:Int)) with
 | false =>
  rw [hb] at hreg
  have hb':(!decide (c.base=(sa.n:Int)))=true:=by rw [hn,hb];rfl
  (refine aU [cel b 87 (bldC ⟨ks,ki,id,fork,q1,q2,c,true⟩ sa sk st.prev (st.gen:Nat)),orow 46 20 (.slice sa.p sa.n sa.c) sa.n (st.acts.map ActD.cells).flatten,orow 35 3 (.slice sk.p sk.n sk.c) sk.n (st.keys.map KeyD.cells).flatten,mapr q2 pl] (fun w=>Y w∧Glob w) ak ?_)
  all_goals refine ap 0 ?_<;>refine ap 1 ?_<;>refine ap 2 ?_<;>(refine ap 3 (hy:=by (apply lV (v:=.bool true);rfl;(repeat (exact aI));rfl)) ?_)<;>refine ap 4 ?_<;>refine ap 5 ?_<;>refine ap 6 ?_<;>refine ap 7 ?_<;>refine ap 8 ?_<;>refine ap 9 ?_<;>refine ap 10 ?_<;>refine ap 11 ?_<;>refine ap 12 ?_<;>refine ap 13 ?_<;>refine ap 14 ?_<;>refine ap 15 ?_<;>(refine ap 16 (hy:=by (apply dQ true;rfl;rfl;exact hb')) ?_)<;>refine ap 17 ?_<;>refine ap 18 ?_<;>refine bn 19 ?_<;>refine bn 20 ?_<;>refine bn 21 ?_<;>refine bn 22 ?_<;>refine bn 23 ?_<;>refine bn 24 ?_<;>refine bn 25 ?_<;>refine bn 26 ?_<;>refine bn 27 ?_<;>refine bn 28 ?_<;>refine ap 29 ?_<;>(refine ax ?_)
  all_goals
   repeat' (first|apply ab|apply Qu|apply Qv|refine ad ?_|refine Qy ?_|apply ar|fail)
   exact al (aq rfl rfl) ⟨bldR b ⟨ks,ki,id,fork,q1,q2,c,true⟩ sa sk st pl,aE _,⟨fun s hs=>(by rw [hreg] at hs;cases hs),fun _=>⟨rfl,sa,sk,pl,ok',rfl⟩⟩⟩
 | true =>
 rw [hb] at hreg
 have hb':(!decide (c.base=(sa.n:Int)))=false:=by rw [hn,hb];rfl
 have hbe:c.base=(st.acts.length:Int):=aP hb
 cases hpv:seqB c.prev st.prev with
 | false =>
  rw [hpv] at hreg
  have hpv':(!seqB c.prev st.prev)=true:=by rw [hpv];rfl
  (refine aU [cel b 87 (bldC ⟨ks,ki,id,fork,q1,q2,c,true⟩ sa sk st.prev (st.gen:Nat)),orow 46 20 (.slice sa.p sa.n sa.c) sa.n (st.acts.map ActD.cells).flatten,orow 35 3 (.slice sk.p sk.n sk.c) sk.n (st.keys.map KeyD.cells).flatten,mapr q2 pl] (fun w=>Y w∧Glob w) ak ?_)
  all_goals refine ap 0 ?_<;>refine ap 1 ?_<;>refine ap 2 ?_<;>(refine ap 3 (hy:=by (apply lV (v:=.bool true);rfl;(repeat (exact aI));rfl)) ?_)<;>refine ap 4 ?_<;>refine ap 5 ?_<;>refine ap 6 ?_<;>refine ap 7 ?_<;>refine ap 8 ?_<;>refine ap 9 ?_<;>refine ap 10 ?_<;>refine ap 11 ?_<;>refine ap 12 ?_<;>refine ap 13 ?_<;>refine ap 14 ?_<;>refine ap 15 ?_<;>(refine ap 16 (hy:=by (apply dQ false;rfl;rfl;exact hb')) ?_)<;>refine ap 17 ?_<;>refine ap 18 ?_<;>refine ap 19 ?_<;>refine ap 20 ?_<;>refine ap 21 ?_<;>refine ap 22 ?_<;>refine ap 23 ?_<;>refine ap 24 ?_<;>refine ap 25 ?_<;>refine ap 26 ?_<;>refine ap 27 ?_<;>(refine ap 28 (hy:=by (apply eP true;rfl;rfl;exact hpv')) ?_)<;>refine ap 29 ?_<;>(refine ax ?_)
  all_goals
   repeat' (first|apply ab|apply Qu|apply Qv|refine ad ?_|refine Qy ?_|apply ar|fail)
   exact al (aq rfl rfl) ⟨bldR b ⟨ks,ki,id,fork,q1,q2,c,true⟩ sa sk st pl,aE _,⟨fun s hs=>(by rw [hreg] at hs;cases hs),fun _=>⟨rfl,sa,sk,pl,ok',rfl⟩⟩⟩
 | true =>
 rw [hpv] at hreg
 have hpv':(!seqB c.prev st.prev)=false:=by rw [hpv];rfl
 (refine aU [cel b 87 (bldC ⟨ks,ki,id,fork,q1,q2,c,true⟩ sa sk st.prev (st.gen:Nat)),orow 46 20 (.slice sa.p sa.n sa.c) sa.n (st.acts.map ActD.cells).flatten,orow 35 3 (.slice sk.p sk.n sk.c) sk.n (st.keys.map KeyD.cells).flatten,mapr q2 pl] (fun w=>Y w∧Glob w) ak ?_)
 all_goals refine ap 0 ?_<;>refine ap 1 ?_<;>refine ap 2 ?_<;>(refine ap 3 (hy:=by (apply lV (v:=.bool true);rfl;(repeat (exact aI));rfl)) ?_)<;>refine ap 4 ?_<;>refine ap 5 ?_<;>refine ap 6 ?_<;>refine ap 7 ?_<;>refine ap 8 ?_<;>refine ap 9 ?_<;>refine ap 10 ?_<;>refine ap 11 ?_<;>refine ap 12 ?_<;>refine ap 13 ?_<;>refine ap 14 ?_<;>refine ap 15 ?_<;>(refine ap 16 (hy:=by (apply dQ false;rfl;rfl;exact hb')) ?_)<;>refine ap 17 ?_<;>refine ap 18 ?_<;>refine ap 19 ?_<;>refine ap 20 ?_<;>refine ap 21 ?_<;>refine ap 22 ?_<;>refine ap 23 ?_<;>refine ap 24 ?_<;>refine ap 25 ?_<;>refine ap 26 ?_<;>refine ap 27 ?_<;>(refine ap 28 (hy:=by (apply eP false;rfl;rfl;exact hpv')) ?_)<;>refine ap 29 ?_<;>(refine ax ?_)
 repeat' (first|apply ab|apply Qu|apply Qv|refine aj ?_|refine ad ?_|refine cu ?_|refine aA ?_|refine az ?_|refine aY ?_|refine df (h:=?_)|refine Qz ?_|apply Qx|apply Qw|fail)
 refine aT (ι:=SetI st.acts) (fun i=>⟨[(0,.pointer (some ⟨b,0,none⟩)),(3,.pointer (some ⟨b,2,none⟩)),(4,.int .i64 ((i.k:Nat)-1))],[cel b 87 (bldC ⟨ks,ki,id,fork,q1,q2,c,true⟩ sa sk st.prev (st.gen:Nat)),orow 46 20 (.slice sa.p sa.n sa.c) sa.n (st.acts.map ActD.cells).flatten,orow 35 3 (.slice sk.p sk.n sk.c) sk.n (st.keys.map KeyD.cells).flatten,mapr q2 pl],fun w=>Y w∧Glob w⟩) (fun i=>i.k) ⟨sa.n,by omega,by rw [hn]⟩ (aw ⟨rfl,rfl,rfl,trivial⟩ (aE _) fun _ h=>h) fun i=>?_
 obtain ⟨k,hk',hs⟩:=i
 simp only
 cases k with
 | zero =>
  have hset:setI st.acts st.acts.length=none:=hs
  rw [hset] at hreg
  simp only [ZE,ZD,ZC] at hreg
  repeat' (first|refine zm (hab:=by omega) ?_|apply ab|apply Qu|apply Qv|refine aj ?_|refine aF ?_|refine aK ?_|refine Qz ?_|apply aQ|fail)
  (refine aU [cel b 87 (bldC ⟨ks,ki,id,fork,q1,q2,c,true⟩ sa sk st.prev (st.gen:Nat)),orow 46 20 (.slice sa.p sa.n sa.c) sa.n (st.acts.map ActD.cells).flatten,orow 35 3 (.slice sk.p sk.n sk.c) sk.n (st.keys.map KeyD.cells).flatten,mapr q2 pl] (fun w=>Y w∧Glob w) ak ?_)
  all_goals refine ap 0 ?_<;>(refine ap 1 (hy:=by (apply bK true;rfl;rfl;exact ZA ae)) ?_)<;>refine ap 2 ?_<;>refine bn 3 ?_<;>refine bn 4 ?_<;>refine bn 5 ?_<;>refine bn 6 ?_<;>refine bn 7 ?_<;>refine bn 8 ?_<;>refine bn 9 ?_<;>refine bn 10 ?_<;>refine bn 11 ?_<;>refine bn 12 ?_<;>refine bn 13 ?_<;>refine bn 14 ?_<;>(refine ag 15 ?_;(refine cb ?_);apply ab;refine dT ?_)<;>refine bn 16 ?_<;>refine ap 17 ?_<;>(refine ax ?_)
  all_goals
   repeat' (first|apply ab|apply Qu|apply Qv|refine ad ?_|refine Qy ?_|apply ar|fail)
   exact al (aq rfl rfl) ⟨bldR b ⟨ks,ki,id,fork,q1,q2,c,true⟩ sa sk st pl,aE _,⟨fun s hs=>(by rw [hreg] at hs;cases hs),fun _=>⟨rfl,sa,sk,pl,ok',rfl⟩⟩⟩
 | succ k =>
  obtain ⟨a,ha⟩:∃ a,st.acts[k]?=some a:=⟨_,Zm ae⟩
  have haD:st.acts.getD k ActD.zero=a:=by rw [ZL,ha];rfl
  refine cN (r:=orow 46 20 (.slice sa.p sa.n sa.c) sa.n (st.acts.map ActD.cells).flatten) bX (p:=sa.p.isSome=true) (fun w h=>cE h ae) fun hap=>?_
  have hm1:(sa.n:Nat)=(st.acts.map ActD.cells).length:=by rw [Z3];exact hn
  have hi1:(st.acts.map ActD.cells)[k]?=some a.cells:=by simp [ha]
  have hrow:orow 46 20 (.slice sa.p sa.n sa.c) sa.n (st.acts.map ActD.cells).flatten∈[cel b 87 (bldC ⟨ks,ki,id,fork,q1,q2,c,true⟩ sa sk st.prev (st.gen:Nat)),orow 46 20 (.slice sa.p sa.n sa.c) sa.n (st.acts.map ActD.cells).flatten,orow 35 3 (.slice sk.p sk.n sk.c) sk.n (st.keys.map KeyD.cells).flatten,mapr q2 pl]:=.tail _ (.head _)
  by_cases hk19:a.kind=19
  · have hset:setI st.acts st.acts.length=some k:=by rw [hs,setI,haD,ZA hk19];rfl
    rw [hset] at hreg
    simp only [ZE,ZD,ZC,haD] at hreg
    have hcl:=hclm a.m
    repeat' (first|refine am (fb true rfl rfl (ZA ae)) rfl rfl rfl ?_|refine eR (hab:=hk19) ?_|apply ab|apply Qu|apply Qv|refine aj ?_|refine cu ?_|refine aA ?_|refine az ?_|refine aD ?_|refine Qz ?_|apply aQ|(refine bu (q:=k*20) ?_)|(refine eA ?_)|(refine am (fR (i:=k) (j:=3) (cs:=a.cells) (u:=.int .i64 a.kind) rfl hrow hm1 (fN _) hi1 rfl) rfl rfl rfl ?_)|fail)
    cases hcm:W.clm a.m c with
    | false =>
     rw [hcm] at hcl hreg
     (refine aU [cel b 87 (bldC ⟨ks,ki,id,fork,q1,q2,c,true⟩ sa sk st.prev (st.gen:Nat)),orow 46 20 (.slice sa.p sa.n sa.c) sa.n (st.acts.map ActD.cells).flatten,orow 35 3 (.slice sk.p sk.n sk.c) sk.n (st.keys.map KeyD.cells).flatten,mapr q2 pl] (fun w=>Y w∧Glob w) ak ?_)
     all_goals refine ap 0 ?_<;>(refine ap 1 (hy:=by (apply bK false;rfl;rfl;exact Zn ae)) ?_)<;>refine ap 2 ?_<;>refine ap 3 ?_<;>refine ap 4 ?_<;>refine ap 5 ?_<;>refine ap 6 ?_<;>refine ap 7 ?_<;>(refine ap 8 (hy:=by (apply aL (q:=k*20);rfl;rfl;omega;omega;assumption;omega)) ?_)<;>(refine ap 9 (hy:=by (apply cV;rfl;assumption;rfl)) ?_)<;>(refine ap 10 (hy:=by (apply fR (i:=k) (j:=17) (cs:=a.cells) (u:=.int .i64 a.m);rfl;exact hrow;exact hm1;exact fN _;exact hi1;rfl)) ?_)<;>refine ap 11 ?_<;>refine ap 12 ?_<;>refine ap 13 ?_<;>(refine ap 14 (hy:=by (apply cF (vs:=c.cells);rfl;exact .head _;rfl;rfl)) ?_)<;>(refine ag 15 ?_;(refine ao (hc:=hcl) (hX:=fun w h=>h) ?_);apply ab;refine dT ?_)<;>refine ap 16 ?_<;>refine ap 17 ?_<;>(refine ax ?_)
     all_goals
      repeat' (first|apply ab|apply Qu|apply Qv|refine ad ?_|refine Qy ?_|apply ar|fail)
      exact al (aq rfl rfl) ⟨bldR b ⟨ks,ki,id,fork,q1,q2,c,true⟩ sa sk st pl,aE _,⟨fun s hs=>(by rw [hreg] at hs;cases hs),fun _=>⟨rfl,sa,sk,pl,ok',rfl⟩⟩⟩
    | true =>
     rw [hcm] at hcl hreg
     simp only [ZC] at hreg
     (refine aU [cel b 87 (bldC ⟨ks,ki,id,fork,q1,q2,c,true⟩ sa sk st.prev (st.gen:Nat)),orow 46 20 (.slice sa.p sa.n sa.c) sa.n (st.acts.map ActD.cells).flatten,orow 35 3 (.slice sk.p sk.n sk.c) sk.n (st.keys.map KeyD.cells).flatten,mapr q2 pl] (fun w=>Y w∧Glob w) ak ?_)
     all_goals refine ap 0 ?_<;>(refine ap 1 (hy:=by (apply bK false;rfl;rfl;exact Zn ae)) ?_)<;>refine ap 2 ?_<;>refine ap 3 ?_<;>refine ap 4 ?_<;>refine ap 5 ?_<;>refine ap 6 ?_<;>refine ap 7 ?_<;>(refine ap 8 (hy:=by (apply aL (q:=k*20);rfl;rfl;omega;omega;assumption;omega)) ?_)<;>(refine ap 9 (hy:=by (apply cV;rfl;assumption;rfl)) ?_)<;>(refine ap 10 (hy:=by (apply fR (i:=k) (j:=17) (cs:=a.cells) (u:=.int .i64 a.m);rfl;exact hrow;exact hm1;exact fN _;exact hi1;rfl)) ?_)<;>refine ap 11 ?_<;>refine ap 12 ?_<;>refine ap 13 ?_<;>(refine ap 14 (hy:=by (apply cF (vs:=c.cells);rfl;exact .head _;rfl;rfl)) ?_)<;>(refine ag 15 ?_;(refine ao (hc:=hcl) (hX:=fun w h=>h) ?_);apply ab;refine dT ?_)<;>refine ap 16 ?_<;>refine ap 17 ?_<;>(refine ax ?_)
     all_goals
      repeat' (first|apply Qu|refine Qz ?_|apply Qx|fail)
      refine iD (ι:=Option Addr×Nat) (fun i=>⟨[(0,.pointer (some ⟨b,0,none⟩)),(3,.pointer (some ⟨b,2,none⟩))],[cel b 87 (bldC ⟨ks,ki,id,fork,q1,q2,c,true⟩ sa ⟨i.1,sk.n+1,i.2⟩ st.prev (st.gen:Nat)),orow 46 20 (.slice sa.p sa.n sa.c) sa.n (st.acts.map ActD.cells).flatten,orow 35 3 (.slice i.1 (sk.n+1) i.2) (sk.n+1) ((st.keys.map KeyD.cells).flatten++(⟨((sa.n:Nat):Int),c.pub,c.home⟩:KeyD).cells),mapr q2 pl],fun w=>Y w∧Glob w⟩) ?_ fun i=>?_
      · (refine aU [] (fun _=>True) ak ?_)
        all_goals refine aa 0 ?_<;>refine aa 1 ?_<;>refine aa 2 ?_<;>refine aa 3 ?_<;>refine aa 5 ?_<;>refine aa 6 ?_<;>refine aa 7 ?_<;>refine aa 10 ?_<;>refine aa 11 ?_<;>refine aa 12 ?_<;>refine aa 13 ?_<;>refine aa 15 ?_<;>refine aa 16 ?_<;>refine aa 17 ?_<;>refine aa 18 ?_<;>(refine AX 4 8 14 19 (h:=?_) (h':=?_) (h'':=?_) (h3:=?_);(focus (((refine az ?_);apply ab;refine ai ?_);all_goals ((refine gC 8 14 19 (h:=?_) (h':=?_) (h'':=?_);(focus (((refine az ?_);apply ab;refine ai ?_);all_goals ((refine aa 9 ?_);all_goals (refine bx 14 19 (h:=?_) (h':=?_);(focus (((refine az ?_);apply ab;refine ai ?_);all_goals ((refine ag 19 ?_;(refine az ?_);apply ab;refine ai ?_);all_goals (refine aa 20 (hy:=by (apply cd (cs:=(⟨((sa.n:Nat):Int),c.pub,c.home⟩:KeyD).cells);rfl;rfl)) ?_);all_goals (refine ag 21 ?_;(refine bF (size:=3) (vs:=[(⟨((sa.n:Nat):Int),c.pub,c.home⟩:KeyD).v]) (css:=(⟨((sa.n:Nat):Int),c.pub,c.home⟩:KeyD).cells) (hsz:=by rfl) (hcs:=by rfl) fun _=>?_);apply ab;refine ai ?_);all_goals (refine ag 22 ?_;(refine aV (size:=3) (news:=(⟨((sa.n:Nat):Int),c.pub,c.home⟩:KeyD).cells) (q:=1) rfl rfl rfl rfl (fun _=>At.there _ (At.there _ (At.there _ (At.here _)))) (fun w G=>bo G aI rfl rfl 1) ae (by simp only [maxLen];omega) rfl ?_ rfl ?_;(with_reducible rfl);intro A3 c3);apply ab;refine ai ?_);all_goals (refine aa 23 ?_);all_goals (refine aa 24 ?_);all_goals (refine ag 25 ?_;(refine bc ?_);apply ab;refine ai ?_);all_goals (refine ax ?_))));rotate_right;(focus (((refine az ?_);apply ab;refine ai ?_);all_goals ((refine ag 14 ?_;(refine az ?_);apply ab;refine ai ?_);all_goals (refine aa 20 (hy:=by (apply cd (cs:=(⟨((sa.n:Nat):Int),c.pub,c.home⟩:KeyD).cells);rfl;rfl)) ?_);all_goals (refine ag 21 ?_;(refine bF (size:=3) (vs:=[(⟨((sa.n:Nat):Int),c.pub,c.home⟩:KeyD).v]) (css:=(⟨((sa.n:Nat):Int),c.pub,c.home⟩:KeyD).cells) (hsz:=by rfl) (hcs:=by rfl) fun _=>?_);apply ab;refine ai ?_);all_goals (refine ag 22 ?_;(refine aV (size:=3) (news:=(⟨((sa.n:Nat):Int),c.pub,c.home⟩:KeyD).cells) (q:=1) rfl rfl rfl rfl (fun _=>At.there _ (At.there _ (At.there _ (At.here _)))) (fun w G=>bo G aI rfl rfl 1) ae (by simp only [maxLen];omega) rfl ?_ rfl ?_;(with_reducible rfl);intro A3 c3);apply ab;refine ai ?_);all_goals (refine aa 23 ?_);all_goals (refine aa 24 ?_);all_goals (refine ag 25 ?_;(refine bc ?_);apply ab;refine ai ?_);all_goals (refine ax ?_))))))));rotate_right;(focus (((refine az ?_);apply ab;refine ai ?_);all_goals ((refine bx 8 14 (h:=?_) (h':=?_);(focus (((refine az ?_);apply ab;refine ai ?_);all_goals ((refine aa 9 ?_);all_goals (refine ag 14 ?_;(refine az ?_);apply ab;refine ai ?_);all_goals (refine aa 20 (hy:=by (apply cd (cs:=(⟨((sa.n:Nat):Int),c.pub,c.home⟩:KeyD).cells);rfl;rfl)) ?_);all_goals (refine ag 21 ?_;(refine bF (size:=3) (vs:=[(⟨((sa.n:Nat):Int),c.pub,c.home⟩:KeyD).v]) (css:=(⟨((sa.n:Nat):Int),c.pub,c.home⟩:KeyD).cells) (hsz:=by rfl) (hcs:=by rfl) fun _=>?_);apply ab;refine ai ?_);all_goals (refine ag 22 ?_;(refine aV (size:=3) (news:=(⟨((sa.n:Nat):Int),c.pub,c.home⟩:KeyD).cells) (q:=1) rfl rfl rfl rfl (fun _=>At.there _ (At.there _ (At.there _ (At.here _)))) (fun w G=>bo G aI rfl rfl 1) ae (by simp only [maxLen];omega) rfl ?_ rfl ?_;(with_reducible rfl);intro A3 c3);apply ab;refine ai ?_);all_goals (refine aa 23 ?_);all_goals (refine aa 24 ?_);all_goals (refine ag 25 ?_;(refine bc ?_);apply ab;refine ai ?_);all_goals (refine ax ?_))));rotate_right;(focus (((refine az ?_);apply ab;refine ai ?_);all_goals ((refine ag 8 ?_;(refine az ?_);apply ab;refine ai ?_);all_goals (refine aa 9 ?_);all_goals (refine aa 20 (hy:=by (apply cd (cs:=(⟨((sa.n:Nat):Int),c.pub,c.home⟩:KeyD).cells);rfl;rfl)) ?_);all_goals (refine ag 21 ?_;(refine bF (size:=3) (vs:=[(⟨((sa.n:Nat):Int),c.pub,c.home⟩:KeyD).v]) (css:=(⟨((sa.n:Nat):Int),c.pub,c.home⟩:KeyD).cells) (hsz:=by rfl) (hcs:=by rfl) fun _=>?_);apply ab;refine ai ?_);all_goals (refine ag 22 ?_;(refine aV (size:=3) (news:=(⟨((sa.n:Nat):Int),c.pub,c.home⟩:KeyD).cells) (q:=1) rfl rfl rfl rfl (fun _=>At.there _ (At.there _ (At.there _ (At.here _)))) (fun w G=>bo G aI rfl rfl 1) ae (by simp only [maxLen];omega) rfl ?_ rfl ?_;(with_reducible rfl);intro A3 c3);apply ab;refine ai ?_);all_goals (refine aa 23 ?_);all_goals (refine aa 24 ?_);all_goals (refine ag 25 ?_;(refine bc ?_);apply ab;refine ai ?_);all_goals (refine ax ?_))))))));rotate_right;(focus (((refine az ?_);apply ab;refine ai ?_);all_goals ((refine bx 8 19 (h:=?_) (h':=?_);(focus (((refine az ?_);apply ab;refine ai ?_);all_goals ((refine aa 9 ?_);all_goals (refine ag 19 ?_;(refine az ?_);apply ab;refine ai ?_);all_goals (refine aa 20 (hy:=by (apply cd (cs:=(⟨((sa.n:Nat):Int),c.pub,c.home⟩:KeyD).cells);rfl;rfl)) ?_);all_goals (refine ag 21 ?_;(refine bF (size:=3) (vs:=[(⟨((sa.n:Nat):Int),c.pub,c.home⟩:KeyD).v]) (css:=(⟨((sa.n:Nat):Int),c.pub,c.home⟩:KeyD).cells) (hsz:=by rfl) (hcs:=by rfl) fun _=>?_);apply ab;refine ai ?_);all_goals (refine ag 22 ?_;(refine aV (size:=3) (news:=(⟨((sa.n:Nat):Int),c.pub,c.home⟩:KeyD).cells) (q:=1) rfl rfl rfl rfl (fun _=>At.there _ (At.there _ (At.there _ (At.here _)))) (fun w G=>bo G aI rfl rfl 1) ae (by simp only [maxLen];omega) rfl ?_ rfl ?_;(with_reducible rfl);intro A3 c3);apply ab;refine ai ?_);all_goals (refine aa 23 ?_);all_goals (refine aa 24 ?_);all_goals (refine ag 25 ?_;(refine bc ?_);apply ab;refine ai ?_);all_goals (refine ax ?_))));rotate_right;(focus (((refine az ?_);apply ab;refine ai ?_);all_goals ((refine ag 8 ?_;(refine az ?_);apply ab;refine ai ?_);all_goals (refine aa 9 ?_);all_goals (refine aa 20 (hy:=by (apply cd (cs:=(⟨((sa.n:Nat):Int),c.pub,c.home⟩:KeyD).cells);rfl;rfl)) ?_);all_goals (refine ag 21 ?_;(refine bF (size:=3) (vs:=[(⟨((sa.n:Nat):Int),c.pub,c.home⟩:KeyD).v]) (css:=(⟨((sa.n:Nat):Int),c.pub,c.home⟩:KeyD).cells) (hsz:=by rfl) (hcs:=by rfl) fun _=>?_);apply ab;refine ai ?_);all_goals (refine ag 22 ?_;(refine aV (size:=3) (news:=(⟨((sa.n:Nat):Int),c.pub,c.home⟩:KeyD).cells) (q:=1) rfl rfl rfl rfl (fun _=>At.there _ (At.there _ (At.there _ (At.here _)))) (fun w G=>bo G aI rfl rfl 1) ae (by simp only [maxLen];omega) rfl ?_ rfl ?_;(with_reducible rfl);intro A3 c3);apply ab;refine ai ?_);all_goals (refine aa 23 ?_);all_goals (refine aa 24 ?_);all_goals (refine ag 25 ?_;(refine bc ?_);apply ab;refine ai ?_);all_goals (refine ax ?_))))))))))));rotate_right;(focus (((refine az ?_);apply ab;refine ai ?_);all_goals ((refine gC 4 8 14 (h:=?_) (h':=?_) (h'':=?_);(focus (((refine az ?_);apply ab;refine ai ?_);all_goals ((refine bx 8 14 (h:=?_) (h':=?_);(focus (((refine az ?_);apply ab;refine ai ?_);all_goals ((refine aa 9 ?_);all_goals (refine ag 14 ?_;(refine az ?_);apply ab;refine ai ?_);all_goals (refine aa 20 (hy:=by (apply cd (cs:=(⟨((sa.n:Nat):Int),c.pub,c.home⟩:KeyD).cells);rfl;rfl)) ?_);all_goals (refine ag 21 ?_;(refine bF (size:=3) (vs:=[(⟨((sa.n:Nat):Int),c.pub,c.home⟩:KeyD).v]) (css:=(⟨((sa.n:Nat):Int),c.pub,c.home⟩:KeyD).cells) (hsz:=by rfl) (hcs:=by rfl) fun _=>?_);apply ab;refine ai ?_);all_goals (refine ag 22 ?_;(refine aV (size:=3) (news:=(⟨((sa.n:Nat):Int),c.pub,c.home⟩:KeyD).cells) (q:=1) rfl rfl rfl rfl (fun _=>At.there _ (At.there _ (At.there _ (At.here _)))) (fun w G=>bo G aI rfl rfl 1) ae (by simp only [maxLen];omega) rfl ?_ rfl ?_;(with_reducible rfl);intro A3 c3);apply ab;refine ai ?_);all_goals (refine aa 23 ?_);all_goals (refine aa 24 ?_);all_goals (refine ag 25 ?_;(refine bc ?_);apply ab;refine ai ?_);all_goals (refine ax ?_))));rotate_right;(focus (((refine az ?_);apply ab;refine ai ?_);all_goals ((refine ag 8 ?_;(refine az ?_);apply ab;refine ai ?_);all_goals (refine aa 9 ?_);all_goals (refine aa 20 (hy:=by (apply cd (cs:=(⟨((sa.n:Nat):Int),c.pub,c.home⟩:KeyD).cells);rfl;rfl)) ?_);all_goals (refine ag 21 ?_;(refine bF (size:=3) (vs:=[(⟨((sa.n:Nat):Int),c.pub,c.home⟩:KeyD).v]) (css:=(⟨((sa.n:Nat):Int),c.pub,c.home⟩:KeyD).cells) (hsz:=by rfl) (hcs:=by rfl) fun _=>?_);apply ab;refine ai ?_);all_goals (refine ag 22 ?_;(refine aV (size:=3) (news:=(⟨((sa.n:Nat):Int),c.pub,c.home⟩:KeyD).cells) (q:=1) rfl rfl rfl rfl (fun _=>At.there _ (At.there _ (At.there _ (At.here _)))) (fun w G=>bo G aI rfl rfl 1) ae (by simp only [maxLen];omega) rfl ?_ rfl ?_;(with_reducible rfl);intro A3 c3);apply ab;refine ai ?_);all_goals (refine aa 23 ?_);all_goals (refine aa 24 ?_);all_goals (refine ag 25 ?_;(refine bc ?_);apply ab;refine ai ?_);all_goals (refine ax ?_))))))));rotate_right;(focus (((refine az ?_);apply ab;refine ai ?_);all_goals ((refine bx 4 8 (h:=?_) (h':=?_);(focus (((refine az ?_);apply ab;refine ai ?_);all_goals ((refine ag 8 ?_;(refine az ?_);apply ab;refine ai ?_);all_goals (refine aa 9 ?_);all_goals (refine aa 20 (hy:=by (apply cd (cs:=(⟨((sa.n:Nat):Int),c.pub,c.home⟩:KeyD).cells);rfl;rfl)) ?_);all_goals (refine ag 21 ?_;(refine bF (size:=3) (vs:=[(⟨((sa.n:Nat):Int),c.pub,c.home⟩:KeyD).v]) (css:=(⟨((sa.n:Nat):Int),c.pub,c.home⟩:KeyD).cells) (hsz:=by rfl) (hcs:=by rfl) fun _=>?_);apply ab;refine ai ?_);all_goals (refine ag 22 ?_;(refine aV (size:=3) (news:=(⟨((sa.n:Nat):Int),c.pub,c.home⟩:KeyD).cells) (q:=1) rfl rfl rfl rfl (fun _=>At.there _ (At.there _ (At.there _ (At.here _)))) (fun w G=>bo G aI rfl rfl 1) ae (by simp only [maxLen];omega) rfl ?_ rfl ?_;(with_reducible rfl);intro A3 c3);apply ab;refine ai ?_);all_goals (refine aa 23 ?_);all_goals (refine aa 24 ?_);all_goals (refine ag 25 ?_;(refine bc ?_);apply ab;refine ai ?_);all_goals (refine ax ?_))));rotate_right;(focus (((refine az ?_);apply ab;refine ai ?_);all_goals ((refine aa 9 ?_);all_goals (refine aa 20 (hy:=by (apply cd (cs:=(⟨((sa.n:Nat):Int),c.pub,c.home⟩:KeyD).cells);rfl;rfl)) ?_);all_goals (refine bx 4 21 (h:=?_) (h':=?_);(focus (((refine az ?_);apply ab;refine ai ?_);all_goals ((refine ag 21 ?_;(refine bF (size:=3) (vs:=[(⟨((sa.n:Nat):Int),c.pub,c.home⟩:KeyD).v]) (css:=(⟨((sa.n:Nat):Int),c.pub,c.home⟩:KeyD).cells) (hsz:=by rfl) (hcs:=by rfl) fun _=>?_);apply ab;refine ai ?_);all_goals (refine ag 22 ?_;(refine aV (size:=3) (news:=(⟨((sa.n:Nat):Int),c.pub,c.home⟩:KeyD).cells) (q:=1) rfl rfl rfl rfl (fun _=>At.there _ (At.there _ (At.there _ (At.here _)))) (fun w G=>bo G aI rfl rfl 1) ae (by simp only [maxLen];omega) rfl ?_ rfl ?_;(with_reducible rfl);intro A3 c3);apply ab;refine ai ?_);all_goals (refine aa 23 ?_);all_goals (refine aa 24 ?_);all_goals (refine ag 25 ?_;(refine bc ?_);apply ab;refine ai ?_);all_goals (refine ax ?_))));rotate_right;(focus (((refine bF (size:=3) (vs:=[(⟨((sa.n:Nat):Int),c.pub,c.home⟩:KeyD).v]) (css:=(⟨((sa.n:Nat):Int),c.pub,c.home⟩:KeyD).cells) (hsz:=by rfl) (hcs:=by rfl) fun _=>?_);apply ab;refine ai ?_);all_goals ((refine ag 4 ?_;(refine az ?_);apply ab;refine ai ?_);all_goals (refine ag 22 ?_;(refine aV (size:=3) (news:=(⟨((sa.n:Nat):Int),c.pub,c.home⟩:KeyD).cells) (q:=1) rfl rfl rfl rfl (fun _=>At.there _ (At.there _ (At.there _ (At.here _)))) (fun w G=>bo G aI rfl rfl 1) ae (by simp only [maxLen];omega) rfl ?_ rfl ?_;(with_reducible rfl);intro A3 c3);apply ab;refine ai ?_);all_goals (refine aa 23 ?_);all_goals (refine aa 24 ?_);all_goals (refine ag 25 ?_;(refine bc ?_);apply ab;refine ai ?_);all_goals (refine ax ?_))))))))))));rotate_right;(focus (((refine az ?_);apply ab;refine ai ?_);all_goals ((refine aa 9 ?_);all_goals (refine bx 4 14 (h:=?_) (h':=?_);(focus (((refine az ?_);apply ab;refine ai ?_);all_goals ((refine ag 14 ?_;(refine az ?_);apply ab;refine ai ?_);all_goals (refine aa 20 (hy:=by (apply cd (cs:=(⟨((sa.n:Nat):Int),c.pub,c.home⟩:KeyD).cells);rfl;rfl)) ?_);all_goals (refine ag 21 ?_;(refine bF (size:=3) (vs:=[(⟨((sa.n:Nat):Int),c.pub,c.home⟩:KeyD).v]) (css:=(⟨((sa.n:Nat):Int),c.pub,c.home⟩:KeyD).cells) (hsz:=by rfl) (hcs:=by rfl) fun _=>?_);apply ab;refine ai ?_);all_goals (refine ag 22 ?_;(refine aV (size:=3) (news:=(⟨((sa.n:Nat):Int),c.pub,c.home⟩:KeyD).cells) (q:=1) rfl rfl rfl rfl (fun _=>At.there _ (At.there _ (At.there _ (At.here _)))) (fun w G=>bo G aI rfl rfl 1) ae (by simp only [maxLen];omega) rfl ?_ rfl ?_;(with_reducible rfl);intro A3 c3);apply ab;refine ai ?_);all_goals (refine aa 23 ?_);all_goals (refine aa 24 ?_);all_goals (refine ag 25 ?_;(refine bc ?_);apply ab;refine ai ?_);all_goals (refine ax ?_))));rotate_right;(focus (((refine az ?_);apply ab;refine ai ?_);all_goals ((refine aa 20 (hy:=by (apply cd (cs:=(⟨((sa.n:Nat):Int),c.pub,c.home⟩:KeyD).cells);rfl;rfl)) ?_);all_goals (refine bx 4 21 (h:=?_) (h':=?_);(focus (((refine az ?_);apply ab;refine ai ?_);all_goals ((refine ag 21 ?_;(refine bF (size:=3) (vs:=[(⟨((sa.n:Nat):Int),c.pub,c.home⟩:KeyD).v]) (css:=(⟨((sa.n:Nat):Int),c.pub,c.home⟩:KeyD).cells) (hsz:=by rfl) (hcs:=by rfl) fun _=>?_);apply ab;refine ai ?_);all_goals (refine ag 22 ?_;(refine aV (size:=3) (news:=(⟨((sa.n:Nat):Int),c.pub,c.home⟩:KeyD).cells) (q:=1) rfl rfl rfl rfl (fun _=>At.there _ (At.there _ (At.there _ (At.here _)))) (fun w G=>bo G aI rfl rfl 1) ae (by simp only [maxLen];omega) rfl ?_ rfl ?_;(with_reducible rfl);intro A3 c3);apply ab;refine ai ?_);all_goals (refine aa 23 ?_);all_goals (refine aa 24 ?_);all_goals (refine ag 25 ?_;(refine bc ?_);apply ab;refine ai ?_);all_goals (refine ax ?_))));rotate_right;(focus (((refine bF (size:=3) (vs:=[(⟨((sa.n:Nat):Int),c.pub,c.home⟩:KeyD).v]) (css:=(⟨((sa.n:Nat):Int),c.pub,c.home⟩:KeyD).cells) (hsz:=by rfl) (hcs:=by rfl) fun _=>?_);apply ab;refine ai ?_);all_goals ((refine ag 4 ?_;(refine az ?_);apply ab;refine ai ?_);all_goals (refine ag 22 ?_;(refine aV (size:=3) (news:=(⟨((sa.n:Nat):Int),c.pub,c.home⟩:KeyD).cells) (q:=1) rfl rfl rfl rfl (fun _=>At.there _ (At.there _ (At.there _ (At.here _)))) (fun w G=>bo G aI rfl rfl 1) ae (by simp only [maxLen];omega) rfl ?_ rfl ?_;(with_reducible rfl);intro A3 c3);apply ab;refine ai ?_);all_goals (refine aa 23 ?_);all_goals (refine aa 24 ?_);all_goals (refine ag 25 ?_;(refine bc ?_);apply ab;refine ai ?_);all_goals (refine ax ?_))))))))))))))));rotate_right;(focus (((refine az ?_);apply ab;refine ai ?_);all_goals ((refine gC 4 8 19 (h:=?_) (h':=?_) (h'':=?_);(focus (((refine az ?_);apply ab;refine ai ?_);all_goals ((refine bx 8 19 (h:=?_) (h':=?_);(focus (((refine az ?_);apply ab;refine ai ?_);all_goals ((refine aa 9 ?_);all_goals (refine ag 19 ?_;(refine az ?_);apply ab;refine ai ?_);all_goals (refine aa 20 (hy:=by (apply cd (cs:=(⟨((sa.n:Nat):Int),c.pub,c.home⟩:KeyD).cells);rfl;rfl)) ?_);all_goals (refine ag 21 ?_;(refine bF (size:=3) (vs:=[(⟨((sa.n:Nat):Int),c.pub,c.home⟩:KeyD).v]) (css:=(⟨((sa.n:Nat):Int),c.pub,c.home⟩:KeyD).cells) (hsz:=by rfl) (hcs:=by rfl) fun _=>?_);apply ab;refine ai ?_);all_goals (refine ag 22 ?_;(refine aV (size:=3) (news:=(⟨((sa.n:Nat):Int),c.pub,c.home⟩:KeyD).cells) (q:=1) rfl rfl rfl rfl (fun _=>At.there _ (At.there _ (At.there _ (At.here _)))) (fun w G=>bo G aI rfl rfl 1) ae (by simp only [maxLen];omega) rfl ?_ rfl ?_;(with_reducible rfl);intro A3 c3);apply ab;refine ai ?_);all_goals (refine aa 23 ?_);all_goals (refine aa 24 ?_);all_goals (refine ag 25 ?_;(refine bc ?_);apply ab;refine ai ?_);all_goals (refine ax ?_))));rotate_right;(focus (((refine az ?_);apply ab;refine ai ?_);all_goals ((refine ag 8 ?_;(refine az ?_);apply ab;refine ai ?_);all_goals (refine aa 9 ?_);all_goals (refine aa 20 (hy:=by (apply cd (cs:=(⟨((sa.n:Nat):Int),c.pub,c.home⟩:KeyD).cells);rfl;rfl)) ?_);all_goals (refine ag 21 ?_;(refine bF (size:=3) (vs:=[(⟨((sa.n:Nat):Int),c.pub,c.home⟩:KeyD).v]) (css:=(⟨((sa.n:Nat):Int),c.pub,c.home⟩:KeyD).cells) (hsz:=by rfl) (hcs:=by rfl) fun _=>?_);apply ab;refine ai ?_);all_goals (refine ag 22 ?_;(refine aV (size:=3) (news:=(⟨((sa.n:Nat):Int),c.pub,c.home⟩:KeyD).cells) (q:=1) rfl rfl rfl rfl (fun _=>At.there _ (At.there _ (At.there _ (At.here _)))) (fun w G=>bo G aI rfl rfl 1) ae (by simp only [maxLen];omega) rfl ?_ rfl ?_;(with_reducible rfl);intro A3 c3);apply ab;refine ai ?_);all_goals (refine aa 23 ?_);all_goals (refine aa 24 ?_);all_goals (refine ag 25 ?_;(refine bc ?_);apply ab;refine ai ?_);all_goals (refine ax ?_))))))));rotate_right;(focus (((refine az ?_);apply ab;refine ai ?_);all_goals ((refine bx 4 8 (h:=?_) (h':=?_);(focus (((refine az ?_);apply ab;refine ai ?_);all_goals ((refine ag 8 ?_;(refine az ?_);apply ab;refine ai ?_);all_goals (refine aa 9 ?_);all_goals (refine aa 20 (hy:=by (apply cd (cs:=(⟨((sa.n:Nat):Int),c.pub,c.home⟩:KeyD).cells);rfl;rfl)) ?_);all_goals (refine ag 21 ?_;(refine bF (size:=3) (vs:=[(⟨((sa.n:Nat):Int),c.pub,c.home⟩:KeyD).v]) (css:=(⟨((sa.n:Nat):Int),c.pub,c.home⟩:KeyD).cells) (hsz:=by rfl) (hcs:=by rfl) fun _=>?_);apply ab;refine ai ?_);all_goals (refine ag 22 ?_;(refine aV (size:=3) (news:=(⟨((sa.n:Nat):Int),c.pub,c.home⟩:KeyD).cells) (q:=1) rfl rfl rfl rfl (fun _=>At.there _ (At.there _ (At.there _ (At.here _)))) (fun w G=>bo G aI rfl rfl 1) ae (by simp only [maxLen];omega) rfl ?_ rfl ?_;(with_reducible rfl);intro A3 c3);apply ab;refine ai ?_);all_goals (refine aa 23 ?_);all_goals (refine aa 24 ?_);all_goals (refine ag 25 ?_;(refine bc ?_);apply ab;refine ai ?_);all_goals (refine ax ?_))));rotate_right;(focus (((refine az ?_);apply ab;refine ai ?_);all_goals ((refine aa 9 ?_);all_goals (refine aa 20 (hy:=by (apply cd (cs:=(⟨((sa.n:Nat):Int),c.pub,c.home⟩:KeyD).cells);rfl;rfl)) ?_);all_goals (refine bx 4 21 (h:=?_) (h':=?_);(focus (((refine az ?_);apply ab;refine ai ?_);all_goals ((refine ag 21 ?_;(refine bF (size:=3) (vs:=[(⟨((sa.n:Nat):Int),c.pub,c.home⟩:KeyD).v]) (css:=(⟨((sa.n:Nat):Int),c.pub,c.home⟩:KeyD).cells) (hsz:=by rfl) (hcs:=by rfl) fun _=>?_);apply ab;refine ai ?_);all_goals (refine ag 22 ?_;(refine aV (size:=3) (news:=(⟨((sa.n:Nat):Int),c.pub,c.home⟩:KeyD).cells) (q:=1) rfl rfl rfl rfl (fun _=>At.there _ (At.there _ (At.there _ (At.here _)))) (fun w G=>bo G aI rfl rfl 1) ae (by simp only [maxLen];omega) rfl ?_ rfl ?_;(with_reducible rfl);intro A3 c3);apply ab;refine ai ?_);all_goals (refine aa 23 ?_);all_goals (refine aa 24 ?_);all_goals (refine ag 25 ?_;(refine bc ?_);apply ab;refine ai ?_);all_goals (refine ax ?_))));rotate_right;(focus (((refine bF (size:=3) (vs:=[(⟨((sa.n:Nat):Int),c.pub,c.home⟩:KeyD).v]) (css:=(⟨((sa.n:Nat):Int),c.pub,c.home⟩:KeyD).cells) (hsz:=by rfl) (hcs:=by rfl) fun _=>?_);apply ab;refine ai ?_);all_goals ((refine ag 4 ?_;(refine az ?_);apply ab;refine ai ?_);all_goals (refine ag 22 ?_;(refine aV (size:=3) (news:=(⟨((sa.n:Nat):Int),c.pub,c.home⟩:KeyD).cells) (q:=1) rfl rfl rfl rfl (fun _=>At.there _ (At.there _ (At.there _ (At.here _)))) (fun w G=>bo G aI rfl rfl 1) ae (by simp only [maxLen];omega) rfl ?_ rfl ?_;(with_reducible rfl);intro A3 c3);apply ab;refine ai ?_);all_goals (refine aa 23 ?_);all_goals (refine aa 24 ?_);all_goals (refine ag 25 ?_;(refine bc ?_);apply ab;refine ai ?_);all_goals (refine ax ?_))))))))))));rotate_right;(focus (((refine az ?_);apply ab;refine ai ?_);all_goals ((refine aa 9 ?_);all_goals (refine bx 4 19 (h:=?_) (h':=?_);(focus (((refine az ?_);apply ab;refine ai ?_);all_goals ((refine ag 19 ?_;(refine az ?_);apply ab;refine ai ?_);all_goals (refine aa 20 (hy:=by (apply cd (cs:=(⟨((sa.n:Nat):Int),c.pub,c.home⟩:KeyD).cells);rfl;rfl)) ?_);all_goals (refine ag 21 ?_;(refine bF (size:=3) (vs:=[(⟨((sa.n:Nat):Int),c.pub,c.home⟩:KeyD).v]) (css:=(⟨((sa.n:Nat):Int),c.pub,c.home⟩:KeyD).cells) (hsz:=by rfl) (hcs:=by rfl) fun _=>?_);apply ab;refine ai ?_);all_goals (refine ag 22 ?_;(refine aV (size:=3) (news:=(⟨((sa.n:Nat):Int),c.pub,c.home⟩:KeyD).cells) (q:=1) rfl rfl rfl rfl (fun _=>At.there _ (At.there _ (At.there _ (At.here _)))) (fun w G=>bo G aI rfl rfl 1) ae (by simp only [maxLen];omega) rfl ?_ rfl ?_;(with_reducible rfl);intro A3 c3);apply ab;refine ai ?_);all_goals (refine aa 23 ?_);all_goals (refine aa 24 ?_);all_goals (refine ag 25 ?_;(refine bc ?_);apply ab;refine ai ?_);all_goals (refine ax ?_))));rotate_right;(focus (((refine az ?_);apply ab;refine ai ?_);all_goals ((refine aa 20 (hy:=by (apply cd (cs:=(⟨((sa.n:Nat):Int),c.pub,c.home⟩:KeyD).cells);rfl;rfl)) ?_);all_goals (refine bx 4 21 (h:=?_) (h':=?_);(focus (((refine az ?_);apply ab;refine ai ?_);all_goals ((refine ag 21 ?_;(refine bF (size:=3) (vs:=[(⟨((sa.n:Nat):Int),c.pub,c.home⟩:KeyD).v]) (css:=(⟨((sa.n:Nat):Int),c.pub,c.home⟩:KeyD).cells) (hsz:=by rfl) (hcs:=by rfl) fun _=>?_);apply ab;refine ai ?_);all_goals (refine ag 22 ?_;(refine aV (size:=3) (news:=(⟨((sa.n:Nat):Int),c.pub,c.home⟩:KeyD).cells) (q:=1) rfl rfl rfl rfl (fun _=>At.there _ (At.there _ (At.there _ (At.here _)))) (fun w G=>bo G aI rfl rfl 1) ae (by simp only [maxLen];omega) rfl ?_ rfl ?_;(with_reducible rfl);intro A3 c3);apply ab;refine ai ?_);all_goals (refine aa 23 ?_);all_goals (refine aa 24 ?_);all_goals (refine ag 25 ?_;(refine bc ?_);apply ab;refine ai ?_);all_goals (refine ax ?_))));rotate_right;(focus (((refine bF (size:=3) (vs:=[(⟨((sa.n:Nat):Int),c.pub,c.home⟩:KeyD).v]) (css:=(⟨((sa.n:Nat):Int),c.pub,c.home⟩:KeyD).cells) (hsz:=by rfl) (hcs:=by rfl) fun _=>?_);apply ab;refine ai ?_);all_goals ((refine ag 4 ?_;(refine az ?_);apply ab;refine ai ?_);all_goals (refine ag 22 ?_;(refine aV (size:=3) (news:=(⟨((sa.n:Nat):Int),c.pub,c.home⟩:KeyD).cells) (q:=1) rfl rfl rfl rfl (fun _=>At.there _ (At.there _ (At.there _ (At.here _)))) (fun w G=>bo G aI rfl rfl 1) ae (by simp only [maxLen];omega) rfl ?_ rfl ?_;(with_reducible rfl);intro A3 c3);apply ab;refine ai ?_);all_goals (refine aa 23 ?_);all_goals (refine aa 24 ?_);all_goals (refine ag 25 ?_;(refine bc ?_);apply ab;refine ai ?_);all_goals (refine ax ?_))))))))))))))));rotate_right;(focus (((refine az ?_);apply ab;refine ai ?_);all_goals ((refine aa 9 ?_);all_goals (refine gC 4 14 19 (h:=?_) (h':=?_) (h'':=?_);(focus (((refine az ?_);apply ab;refine ai ?_);all_goals ((refine bx 14 19 (h:=?_) (h':=?_);(focus (((refine az ?_);apply ab;refine ai ?_);all_goals ((refine ag 19 ?_;(refine az ?_);apply ab;refine ai ?_);all_goals (refine aa 20 (hy:=by (apply cd (cs:=(⟨((sa.n:Nat):Int),c.pub,c.home⟩:KeyD).cells);rfl;rfl)) ?_);all_goals (refine ag 21 ?_;(refine bF (size:=3) (vs:=[(⟨((sa.n:Nat):Int),c.pub,c.home⟩:KeyD).v]) (css:=(⟨((sa.n:Nat):Int),c.pub,c.home⟩:KeyD).cells) (hsz:=by rfl) (hcs:=by rfl) fun _=>?_);apply ab;refine ai ?_);all_goals (refine ag 22 ?_;(refine aV (size:=3) (news:=(⟨((sa.n:Nat):Int),c.pub,c.home⟩:KeyD).cells) (q:=1) rfl rfl rfl rfl (fun _=>At.there _ (At.there _ (At.there _ (At.here _)))) (fun w G=>bo G aI rfl rfl 1) ae (by simp only [maxLen];omega) rfl ?_ rfl ?_;(with_reducible rfl);intro A3 c3);apply ab;refine ai ?_);all_goals (refine aa 23 ?_);all_goals (refine aa 24 ?_);all_goals (refine ag 25 ?_;(refine bc ?_);apply ab;refine ai ?_);all_goals (refine ax ?_))));rotate_right;(focus (((refine az ?_);apply ab;refine ai ?_);all_goals ((refine ag 14 ?_;(refine az ?_);apply ab;refine ai ?_);all_goals (refine aa 20 (hy:=by (apply cd (cs:=(⟨((sa.n:Nat):Int),c.pub,c.home⟩:KeyD).cells);rfl;rfl)) ?_);all_goals (refine ag 21 ?_;(refine bF (size:=3) (vs:=[(⟨((sa.n:Nat):Int),c.pub,c.home⟩:KeyD).v]) (css:=(⟨((sa.n:Nat):Int),c.pub,c.home⟩:KeyD).cells) (hsz:=by rfl) (hcs:=by rfl) fun _=>?_);apply ab;refine ai ?_);all_goals (refine ag 22 ?_;(refine aV (size:=3) (news:=(⟨((sa.n:Nat):Int),c.pub,c.home⟩:KeyD).cells) (q:=1) rfl rfl rfl rfl (fun _=>At.there _ (At.there _ (At.there _ (At.here _)))) (fun w G=>bo G aI rfl rfl 1) ae (by simp only [maxLen];omega) rfl ?_ rfl ?_;(with_reducible rfl);intro A3 c3);apply ab;refine ai ?_);all_goals (refine aa 23 ?_);all_goals (refine aa 24 ?_);all_goals (refine ag 25 ?_;(refine bc ?_);apply ab;refine ai ?_);all_goals (refine ax ?_))))))));rotate_right;(focus (((refine az ?_);apply ab;refine ai ?_);all_goals ((refine bx 4 14 (h:=?_) (h':=?_);(focus (((refine az ?_);apply ab;refine ai ?_);all_goals ((refine ag 14 ?_;(refine az ?_);apply ab;refine ai ?_);all_goals (refine aa 20 (hy:=by (apply cd (cs:=(⟨((sa.n:Nat):Int),c.pub,c.home⟩:KeyD).cells);rfl;rfl)) ?_);all_goals (refine ag 21 ?_;(refine bF (size:=3) (vs:=[(⟨((sa.n:Nat):Int),c.pub,c.home⟩:KeyD).v]) (css:=(⟨((sa.n:Nat):Int),c.pub,c.home⟩:KeyD).cells) (hsz:=by rfl) (hcs:=by rfl) fun _=>?_);apply ab;refine ai ?_);all_goals (refine ag 22 ?_;(refine aV (size:=3) (news:=(⟨((sa.n:Nat):Int),c.pub,c.home⟩:KeyD).cells) (q:=1) rfl rfl rfl rfl (fun _=>At.there _ (At.there _ (At.there _ (At.here _)))) (fun w G=>bo G aI rfl rfl 1) ae (by simp only [maxLen];omega) rfl ?_ rfl ?_;(with_reducible rfl);intro A3 c3);apply ab;refine ai ?_);all_goals (refine aa 23 ?_);all_goals (refine aa 24 ?_);all_goals (refine ag 25 ?_;(refine bc ?_);apply ab;refine ai ?_);all_goals (refine ax ?_))));rotate_right;(focus (((refine az ?_);apply ab;refine ai ?_);all_goals ((refine aa 20 (hy:=by (apply cd (cs:=(⟨((sa.n:Nat):Int),c.pub,c.home⟩:KeyD).cells);rfl;rfl)) ?_);all_goals (refine bx 4 21 (h:=?_) (h':=?_);(focus (((refine az ?_);apply ab;refine ai ?_);all_goals ((refine ag 21 ?_;(refine bF (size:=3) (vs:=[(⟨((sa.n:Nat):Int),c.pub,c.home⟩:KeyD).v]) (css:=(⟨((sa.n:Nat):Int),c.pub,c.home⟩:KeyD).cells) (hsz:=by rfl) (hcs:=by rfl) fun _=>?_);apply ab;refine ai ?_);all_goals (refine ag 22 ?_;(refine aV (size:=3) (news:=(⟨((sa.n:Nat):Int),c.pub,c.home⟩:KeyD).cells) (q:=1) rfl rfl rfl rfl (fun _=>At.there _ (At.there _ (At.there _ (At.here _)))) (fun w G=>bo G aI rfl rfl 1) ae (by simp only [maxLen];omega) rfl ?_ rfl ?_;(with_reducible rfl);intro A3 c3);apply ab;refine ai ?_);all_goals (refine aa 23 ?_);all_goals (refine aa 24 ?_);all_goals (refine ag 25 ?_;(refine bc ?_);apply ab;refine ai ?_);all_goals (refine ax ?_))));rotate_right;(focus (((refine bF (size:=3) (vs:=[(⟨((sa.n:Nat):Int),c.pub,c.home⟩:KeyD).v]) (css:=(⟨((sa.n:Nat):Int),c.pub,c.home⟩:KeyD).cells) (hsz:=by rfl) (hcs:=by rfl) fun _=>?_);apply ab;refine ai ?_);all_goals ((refine ag 4 ?_;(refine az ?_);apply ab;refine ai ?_);all_goals (refine ag 22 ?_;(refine aV (size:=3) (news:=(⟨((sa.n:Nat):Int),c.pub,c.home⟩:KeyD).cells) (q:=1) rfl rfl rfl rfl (fun _=>At.there _ (At.there _ (At.there _ (At.here _)))) (fun w G=>bo G aI rfl rfl 1) ae (by simp only [maxLen];omega) rfl ?_ rfl ?_;(with_reducible rfl);intro A3 c3);apply ab;refine ai ?_);all_goals (refine aa 23 ?_);all_goals (refine aa 24 ?_);all_goals (refine ag 25 ?_;(refine bc ?_);apply ab;refine ai ?_);all_goals (refine ax ?_))))))))))));rotate_right;(focus (((refine az ?_);apply ab;refine ai ?_);all_goals ((refine bx 4 19 (h:=?_) (h':=?_);(focus (((refine az ?_);apply ab;refine ai ?_);all_goals ((refine ag 19 ?_;(refine az ?_);apply ab;refine ai ?_);all_goals (refine aa 20 (hy:=by (apply cd (cs:=(⟨((sa.n:Nat):Int),c.pub,c.home⟩:KeyD).cells);rfl;rfl)) ?_);all_goals (refine ag 21 ?_;(refine bF (size:=3) (vs:=[(⟨((sa.n:Nat):Int),c.pub,c.home⟩:KeyD).v]) (css:=(⟨((sa.n:Nat):Int),c.pub,c.home⟩:KeyD).cells) (hsz:=by rfl) (hcs:=by rfl) fun _=>?_);apply ab;refine ai ?_);all_goals (refine ag 22 ?_;(refine aV (size:=3) (news:=(⟨((sa.n:Nat):Int),c.pub,c.home⟩:KeyD).cells) (q:=1) rfl rfl rfl rfl (fun _=>At.there _ (At.there _ (At.there _ (At.here _)))) (fun w G=>bo G aI rfl rfl 1) ae (by simp only [maxLen];omega) rfl ?_ rfl ?_;(with_reducible rfl);intro A3 c3);apply ab;refine ai ?_);all_goals (refine aa 23 ?_);all_goals (refine aa 24 ?_);all_goals (refine ag 25 ?_;(refine bc ?_);apply ab;refine ai ?_);all_goals (refine ax ?_))));rotate_right;(focus (((refine az ?_);apply ab;refine ai ?_);all_goals ((refine aa 20 (hy:=by (apply cd (cs:=(⟨((sa.n:Nat):Int),c.pub,c.home⟩:KeyD).cells);rfl;rfl)) ?_);all_goals (refine bx 4 21 (h:=?_) (h':=?_);(focus (((refine az ?_);apply ab;refine ai ?_);all_goals ((refine ag 21 ?_;(refine bF (size:=3) (vs:=[(⟨((sa.n:Nat):Int),c.pub,c.home⟩:KeyD).v]) (css:=(⟨((sa.n:Nat):Int),c.pub,c.home⟩:KeyD).cells) (hsz:=by rfl) (hcs:=by rfl) fun _=>?_);apply ab;refine ai ?_);all_goals (refine ag 22 ?_;(refine aV (size:=3) (news:=(⟨((sa.n:Nat):Int),c.pub,c.home⟩:KeyD).cells) (q:=1) rfl rfl rfl rfl (fun _=>At.there _ (At.there _ (At.there _ (At.here _)))) (fun w G=>bo G aI rfl rfl 1) ae (by simp only [maxLen];omega) rfl ?_ rfl ?_;(with_reducible rfl);intro A3 c3);apply ab;refine ai ?_);all_goals (refine aa 23 ?_);all_goals (refine aa 24 ?_);all_goals (refine ag 25 ?_;(refine bc ?_);apply ab;refine ai ?_);all_goals (refine ax ?_))));rotate_right;(focus (((refine bF (size:=3) (vs:=[(⟨((sa.n:Nat):Int),c.pub,c.home⟩:KeyD).v]) (css:=(⟨((sa.n:Nat):Int),c.pub,c.home⟩:KeyD).cells) (hsz:=by rfl) (hcs:=by rfl) fun _=>?_);apply ab;refine ai ?_);all_goals ((refine ag 4 ?_;(refine az ?_);apply ab;refine ai ?_);all_goals (refine ag 22 ?_;(refine aV (size:=3) (news:=(⟨((sa.n:Nat):Int),c.pub,c.home⟩:KeyD).cells) (q:=1) rfl rfl rfl rfl (fun _=>At.there _ (At.there _ (At.there _ (At.here _)))) (fun w G=>bo G aI rfl rfl 1) ae (by simp only [maxLen];omega) rfl ?_ rfl ?_;(with_reducible rfl);intro A3 c3);apply ab;refine ai ?_);all_goals (refine aa 23 ?_);all_goals (refine aa 24 ?_);all_goals (refine ag 25 ?_;(refine bc ?_);apply ab;refine ai ?_);all_goals (refine ax ?_)))))))))))))))))
        all_goals exact ⟨(_,_),aw ⟨rfl,rfl,trivial⟩ (List.Sublist.cons _ (aE _)) fun w h=>h⟩
      obtain ⟨A3,c3⟩:=i
      simp only
      have hlk:=sK b ⟨ks,ki,id,fork,q1,q2,c,true⟩ sa ⟨A3,sk.n+1,c3⟩ ⟨st.acts,st.keys++[(⟨((sa.n:Nat):Int),c.pub,c.home⟩:KeyD)],W.dgC c,st.gen+1⟩ (W.won (st.gen+1)) (fun w=>Y w∧Glob w) hwon
      repeat' (first|apply ab|apply Qu|apply Qv|refine aj ?_|refine cu ?_|refine aA ?_|refine az ?_|refine be (h:=?_)|refine bc ?_|(refine aW (vs:=c.cells) (hv:=rfl) ?_)|(refine ao (hc:=fg c) (hX:=fun _ _=>trivial) ?_)|(refine ao (hc:=hdg) (hX:=fun _ h=>h) ?_)|fail)
      refine cG (pre:=[bldCel b ⟨ks,ki,id,fork,q1,q2,c,true⟩ sa ⟨A3,sk.n+1,c3⟩ (⟨st.acts,st.keys++[(⟨((sa.n:Nat):Int),c.pub,c.home⟩:KeyD)],W.dgC c,st.gen+1⟩:ChS)]) (fr:=[orow 46 20 (.slice sa.p sa.n sa.c) sa.n (st.acts.map ActD.cells).flatten,orow 35 3 (.slice A3 (sk.n+1) c3) (sk.n+1) ((st.keys.map KeyD.cells).flatten++(⟨((sa.n:Nat):Int),c.pub,c.home⟩:KeyD).cells),mapr q2 pl]) (first:=#[]) (caps:=#[]) (hc:=hlk) (hX:=fun _ h=>h) (h:=?_)
      rintro v R X' ⟨rfl,rfl⟩
      repeat' (first|apply ab|apply Qu|apply Qv|refine ad ?_|apply ar|fail)
      have hfk:((st.keys++[(⟨((sa.n:Nat):Int),c.pub,c.home⟩:KeyD)]).map KeyD.cells).flatten=(st.keys.map KeyD.cells).flatten++(⟨((sa.n:Nat):Int),c.pub,c.home⟩:KeyD).cells:=by simp
      rw [←hn] at hreg
      refine al (aq rfl rfl) ⟨bldR b ((⟨ks,ki,id,fork,q1,q2,c,true⟩:BldH).look (W.won (st.gen+1))) sa ⟨A3,sk.n+1,c3⟩ (⟨st.acts,st.keys++[(⟨((sa.n:Nat):Int),c.pub,c.home⟩:KeyD)],W.dgC c,st.gen+1⟩:ChS) pl,?_,⟨fun s hs=>?_,fun hs=>?_⟩⟩
      · unfold bldR actR keyR
        rw [hfk]
        exact aE _
      · rw [hreg,Qc] at hs
        subst hs
        exact ⟨rfl,sa,⟨A3,sk.n+1,c3⟩,pl,⟨hn,by rw [ZX,←hk];rfl,hp⟩,rfl⟩
      · rw [hreg] at hs
        cases hs
  · have hne:(!decide (a.kind=(19:Int)))=true:=by rw [Zn hk19];rfl
    repeat' (first|refine am (fb true rfl rfl (ZA ae)) rfl rfl rfl ?_|refine am (dQ true rfl rfl hne) rfl aB rfl ?_|apply ab|apply Qu|apply Qv|refine aj ?_|refine ad ?_|refine cu ?_|refine aA ?_|refine az ?_|refine aD ?_|refine df (h:=?_)|refine Qy ?_|apply Qx|apply Qw|(refine bu (q:=k*20) ?_)|(refine eA ?_)|(refine am (fR (i:=k) (j:=3) (cs:=a.cells) (u:=.int .i64 a.kind) rfl hrow hm1 (fN _) hi1 rfl) rfl rfl rfl ?_)|fail)
    exact ⟨(⟨k,by omega,by rw [hs,setI,haD,Zn hk19];rfl⟩:SetI st.acts),Nat.lt_succ_self k,aw ⟨rfl,rfl,(by show some (Value.int IntKind.i64 (((k+1:Nat):Int)-1-1))=some (Value.int IntKind.i64 ((k:Int)-1));rw [show ((k+1:Nat):Int)-1-1=(k:Int)-1 from by omega]),trivial⟩ (aE _) fun _ h=>h⟩
end Go.Proofs.YtcdilibijnboeaaGreatDoor
