/- Joined. -/
import Derived.Test.YtggionfjlgfihaaGreatDoorI0
import Derived.Test.YtggionfjlgfihaaGreatDoorI1
import Derived.Test.YtggionfjlgfihaaGreatDoorI46
import Derived.Test.YtggionfjlgfihaaGreatDoorI32
import Derived.Test.YtggionfjlgfihaaGreatDoorI44
import Derived.Test.YtggionfjlgfihaaGreatDoorI11
import Derived.Test.YtggionfjlgfihaaGreatDoorI48
import Derived.Test.YtggionfjlgfihaaGreatDoorI14
import Derived.Test.YtggionfjlgfihaaGreatDoorI35
import Derived.Test.YtggionfjlgfihaaGreatDoorI38
set_option linter.unusedVariables false
set_option linter.unusedSimpArgs false
set_option maxHeartbeats 16000000
namespace Go.Proofs.YtggionfjlgfihaaGreatDoor
open Go Go.Proofs Sy
theorem m9 {P:Program} {N:Nat} {av bor:List Nat} {w0:World} {st:St} {ty:TypeId} {x y:Operand} {t t2:TypeId} {p q:Nat} (r:Nat) (hx:ev st.env x=some (.int .i64 (p:Nat))) (hy:ev st.env y=some (.int .i64 (q:Nat))) (hr:p=r+q) (hp:p<1000000):Sy.Yields P N av bor w0 st (.binOp .sub t x y t2) ty (.int .i64 ((r:Nat):Int)) :=
 oA hx hy (by rw [show ((p:Int)-(q:Int))=((r:Nat):Int) from by omega];exact IntWalk.i64_in _ aa)
structure PoI (n:Nat) where
 k:Nat
 hk:k≤n
 sa:Xj
 sb:Xj
 I:List Xb
 J:List Xb
 hI:KnR [] I
 hJ:KnR [] J
 lI:I.length≤k
 lJ:J.length≤k
structure PoK (I J:List Xb) where
 k:Nat
 hk:k≤I.length
 h:∀ (j:Nat) (x y:Xb),j<k→I[j]?=some x→J[j]?=some y→itemEq x y=true
structure PoN (n:Nat) where
 k:Nat
 hk:k≤n
set_option maxRecDepth 20000 in
theorem nO (sl:Xj) (IL:List Xb) (hS:∀ i∈IL,i.Str) (hdn:∀ i∈IL,i.dec.to.n=i.dec.toL.length) :
  Pu Tryz.prog 3 #[sl.v] (fun w=>Items w sl IL∧Xf w) (.bool true):=by
 refine ar Tryz.func3 Tryz.ntmps3 fun av bor w0=>?_
 refine aH (p:=sl.n=IL.length∧sl.n≤maxLen∧(0<IL.length→sl.p.isSome=true)) (fun w h=>⟨h.1.len_,h.1.max_,h.1.some_⟩) fun ⟨hsn,hsm,hsp⟩=>?_
 simp only [maxLen] at hsm
 have hsml:=qJ
 by_cases h15:IL.length≤15
 case neg =>
  repeat' (first|refine aO ?_ (ng true rfl rfl (decide_eq_true aa))|(refine ag (hc:=hsml) ?_)|refine gs ?_|refine gs1 fun _=>?_|(refine gp ?_ ?_<;>intro hx_ this)|fail)
  all_goals first
   | exact ab (ai rfl rfl) rfl
 have hnew:=zf ⟨none,0,0⟩ [] (by show 0≤1000000;omega)
 repeat' (first|refine aO ?_ (ng false rfl rfl (decide_eq_false aa))|(refine ag (hc:=hsml) ?_)|(refine bm (hc:=hnew) (hX:=fun w h=>aJ w 1) fun v X2 h2=>?_;obtain ⟨t2,rfl,hw2⟩:=h2)|refine gs ?_|refine gs1 fun _=>?_|(refine gp ?_ ?_<;>intro hx_ this)|fail)
 rename_i X1 t1 hw1 b4 b5
 refine am (ι:=PoI IL.length) (fun i=>⟨[(0,sl.v),(3,.bool true),(4,.pointer (some ⟨b4,0,none⟩)),(5,.pointer (some ⟨b5,0,none⟩)),(6,.int .i64 (i.k:Nat))],[cel b5 26 [t2.v,i.sb.v],cel b4 26 [t1.v,i.sa.v]],fun w=>((Items w sl IL∧Xf w)∧(Ints w t1 []∧Ints w t2 []))∧(Items w i.sa i.I∧Items w i.sb i.J)⟩) (fun i=>IL.length-i.k) ⟨0,Nat.zero_le _,⟨none,0,0⟩,⟨none,0,0⟩,[],[],sG,sG,Nat.le_refl _,Nat.le_refl _⟩ (ae al (aj _) fun w h=>⟨⟨h.1.1,hw1 w h.1.2,hw2 w h.2⟩,⟨aJ w 49,fun i hi=>absurd hi (by simp)⟩,⟨aJ w 49,fun i hi=>absurd hi (by simp)⟩⟩) fun i=>?_
 obtain ⟨k,hk,sa,sb,I,J,hI,hJ,lI,lJ⟩:=i
 simp only
 by_cases hlt:k<IL.length
 case pos =>
  have hsp':=hsp aa
  obtain ⟨x,hx⟩:∃ x,IL[k]?=some x:=⟨_,List.getElem?_eq_getElem hlt⟩
  obtain ⟨y,hy⟩:∃ y,IL[sl.n-1-k]?=some y:=⟨_,List.getElem?_eq_getElem aa⟩
  have hxm:=List.mem_of_getElem? hx
  have hym:=List.mem_of_getElem? hy
  have hax:=tv t1 sa hI x (hS x hxm).rng (hdn x hxm)
  have hay:=tv t2 sb hJ y (hS y hym).rng (hdn y hym)
  have nI:=pK hI (hS x hxm) (hdn x hxm) aa
  have nJ:=pK hJ (hS y hym) (hdn y hym) aa
  have mI:=m6 [] I x
  have mJ:=m6 [] J y
  repeat' (first|refine aO ?_ (bj true rfl rfl (decide_eq_true aa))|refine gs ?_|refine gs1 fun _=>?_|(refine gp ?_ ?_<;>intro hx_ this)|fail)
  (refine ao ⟨[1,2,3,4],[(0,⟨[],[(5,⟨[6,7,8],[(9,⟨[],[]⟩)]⟩)]⟩)]⟩ [] (fun w=>((Items w sl IL∧Xf w)∧(Ints w t1 []∧Ints w t2 []))∧(Items w sa I∧Items w sb J)) (h:=?_))
  all_goals repeat' (first|((refine bm (hc:=hax) (hX:=fun w h=>⟨⟨⟨h.1.2.1,h.2.1⟩,h.1.1.1.2 x hxm⟩,h.1.1.2⟩) fun v X3 h3=>?_;obtain ⟨s3,rfl,hw3⟩:=h3))|refine gdz ?_|refine ax (hsub:=by exact aF) (hy:=by first|(apply aG (q:=k*49);rfl;rfl;omega;omega;assumption;omega)|(apply dN (cs:=x.cells);rfl;exact fun w h=>h.1.1.1.get hx)) ?_|refine ay ?_ (h':=?_)|exact az|(refine aB ?_)|refine gs1 fun _=>?_|(refine gq ?_ ?_<;>intro hx_ this)|fail)
  all_goals
   (refine ao ⟨[1,2,3,4,5,6,7,8],[(0,⟨[],[(9,⟨[10,11,12],[(13,⟨[],[]⟩)]⟩)]⟩)]⟩ [] (fun w=>(((Items w sl IL∧Xf w)∧(Ints w t1 []∧Ints w t2 []))∧(Items w sa I∧Items w sb J))∧X3 w) (h:=?_))
   all_goals repeat' (first|refine ax (hsub:=by exact aF) (hy:=by first|(apply m9 (p:=sl.n) (q:=1) (sl.n-1);rfl;rfl;omega;omega)|(apply m9 (p:=sl.n-1) (q:=k) (sl.n-1-k);rfl;rfl;omega;omega)) ?_|((refine bm (hc:=hay) (hX:=fun w h=>⟨⟨⟨h.1.1.2.2,h.1.2.2⟩,h.1.1.1.1.2 y hym⟩,h.1.1.1.2⟩) fun v X4 h4=>?_;obtain ⟨s4,rfl,hw4⟩:=h4))|refine gdz ?_|refine ax (hsub:=by exact aF) (hy:=by first|(apply aG (q:=(sl.n-1-k)*49);rfl;rfl;omega;omega;assumption;omega)|(apply dN (cs:=y.cells);rfl;exact fun w h=>h.1.1.1.1.get hy)) ?_|refine ay ?_ (h':=?_)|exact az|(refine aB ?_)|refine gs1 fun _=>?_|(refine gq ?_ ?_<;>intro hx_ this)|fail)
   all_goals
    repeat' (first|refine gs ?_|refine gs1 fun _=>?_|(refine gp ?_ ?_<;>intro hx_ this)|fail)
    first
     | exact ⟨(⟨k+1,hlt,s3,s4,addK [] I x,addK [] J y,nI,nJ,by omega,by omega⟩:PoI IL.length),(by show IL.length-(k+1)<IL.length-k;omega),ae al (aj _) fun w h=>⟨h.1.1.1,hw3 w ⟨h.1.1.2.1,h.1.2⟩,hw4 w ⟨h.1.1.2.2,h.2⟩⟩⟩
 have hkI:I.length≤15:=by omega
 have hkJ:J.length≤15:=by omega
 repeat' (first|refine aO ?_ (bj false rfl rfl (decide_eq_false aa))|refine gs ?_|refine gs1 fun _=>?_|(refine gp ?_ ?_<;>intro hx_ this)|fail)
 clear lI lJ hlt hk hS hdn hnew
 refine aH (p:=(sa.n=I.length∧sa.n≤maxLen∧(0<I.length→sa.p.isSome=true))∧(sb.n=J.length∧sb.n≤maxLen∧(0<J.length→sb.p.isSome=true))) (fun w h=>⟨⟨h.2.1.len_,h.2.1.max_,h.2.1.some_⟩,h.2.2.len_,h.2.2.max_,h.2.2.some_⟩) fun ⟨⟨han,ham,hap⟩,hbn,hbm,hbp⟩=>?_
 simp only [maxLen] at ham hbm
 have hda:=gy t1 sa I hI.rng hI.dn aa
 have hdb:=gy t2 sb J hJ.rng hJ.dn aa
 obtain ⟨q,hq⟩:∃ q,seqB (digK I) (digK J)=q:=⟨_,rfl⟩
 generalize digK I=dI at *
 generalize digK J=dJ at *
 cases q with
 | false =>
  (refine ao ⟨[0,2],[(1,⟨[],[(3,⟨[4,5,6,7,8,9,10,11,12,13],[]⟩)]⟩)]⟩ [cel b5 26 [t2.v,sb.v],cel b4 26 [t1.v,sa.v]] (fun w=>((Items w sl IL∧Xf w)∧(Ints w t1 []∧Ints w t2 []))∧(Items w sa I∧Items w sb J)) (h:=?_))
  all_goals repeat' (first|refine ax (hsub:=by exact aF) (hy:=by first|(apply fx true;rfl;rfl;rw [hq];rfl)) ?_|(refine ag (hc:=hda) (hX:=fun w h=>⟨⟨h.1.2.1,h.2.1⟩,h.1.1.2⟩) ?_)|(refine ag (hc:=hdb) (hX:=fun w h=>⟨⟨h.1.2.2,h.2.2⟩,h.1.1.2⟩) ?_)|refine gdz ?_|refine ay ?_ (h':=?_)|exact az|refine gs1 fun _=>?_|(refine gq ?_ ?_<;>intro hx_ this)|fail)
  all_goals
   repeat' (first|refine gs ?_|refine gs1 fun _=>?_|(refine gp ?_ ?_<;>intro hx_ this)|fail)
   first
    | exact ab (ai rfl rfl) rfl
 | true =>
 by_cases hl:I.length=J.length
 case neg =>
  (refine ao ⟨[0,2],[(1,⟨[],[(3,⟨[4,5,6,7,8,9,10,11,12,13],[]⟩)]⟩)]⟩ [cel b5 26 [t2.v,sb.v],cel b4 26 [t1.v,sa.v]] (fun w=>((Items w sl IL∧Xf w)∧(Ints w t1 []∧Ints w t2 []))∧(Items w sa I∧Items w sb J)) (h:=?_))
  all_goals repeat' (first|refine ax (hsub:=by exact aF) (hy:=by first|(apply fx false;rfl;rfl;rw [hq];rfl)|(apply dd true;rfl;rfl;rw [decide_eq_false (by omega)];rfl)) ?_|(refine ag (hc:=hda) (hX:=fun w h=>⟨⟨h.1.2.1,h.2.1⟩,h.1.1.2⟩) ?_)|(refine ag (hc:=hdb) (hX:=fun w h=>⟨⟨h.1.2.2,h.2.2⟩,h.1.1.2⟩) ?_)|refine gdz ?_|refine ay ?_ (h':=?_)|exact az|refine gs1 fun _=>?_|(refine gq ?_ ?_<;>intro hx_ this)|fail)
  all_goals
   repeat' (first|refine gs ?_|refine gs1 fun _=>?_|(refine gp ?_ ?_<;>intro hx_ this)|fail)
   first
    | exact ab (ai rfl rfl) rfl
 (refine ao ⟨[0,2],[(1,⟨[],[(3,⟨[4,5,6,7,8,9,10,11,12,13],[]⟩)]⟩)]⟩ [cel b5 26 [t2.v,sb.v],cel b4 26 [t1.v,sa.v]] (fun w=>((Items w sl IL∧Xf w)∧(Ints w t1 []∧Ints w t2 []))∧(Items w sa I∧Items w sb J)) (h:=?_))
 all_goals repeat' (first|refine ax (hsub:=by exact aF) (hy:=by first|(apply fx false;rfl;rfl;rw [hq];rfl)|(apply dd false;rfl;rfl;rw [decide_eq_true (by omega)];rfl)) ?_|(refine ag (hc:=hda) (hX:=fun w h=>⟨⟨h.1.2.1,h.2.1⟩,h.1.1.2⟩) ?_)|(refine ag (hc:=hdb) (hX:=fun w h=>⟨⟨h.1.2.2,h.2.2⟩,h.1.1.2⟩) ?_)|refine gdz ?_|refine ay ?_ (h':=?_)|exact az|refine gs1 fun _=>?_|(refine gq ?_ ?_<;>intro hx_ this)|fail)
 all_goals
  clear hda hdb hq
  repeat' (first|refine gs ?_|refine gs1 fun _=>?_|(refine gp ?_ ?_<;>intro hx_ this)|fail)
  refine am (ι:=PoK I J) (fun i=>⟨[(3,.bool true),(4,.pointer (some ⟨b4,0,none⟩)),(5,.pointer (some ⟨b5,0,none⟩)),(7,.int .i64 (i.k:Nat))],[cel b5 26 [t2.v,sb.v],cel b4 26 [t1.v,sa.v]],fun w=>((Items w sl IL∧Xf w)∧(Ints w t1 []∧Ints w t2 []))∧(Items w sa I∧Items w sb J)⟩) (fun i=>I.length-i.k) ⟨0,Nat.zero_le _,fun j x y h=>absurd h (Nat.not_lt_zero _)⟩ (ae al (aj _) fun _ h=>h) fun i=>?_
  obtain ⟨k,hk,hsame⟩:=i
  simp only
  by_cases hlt:k<I.length
  case pos =>
   have hap':=hap aa
   have hbp':=hbp aa
   obtain ⟨x,hx⟩:∃ x,I[k]?=some x:=⟨_,List.getElem?_eq_getElem hlt⟩
   obtain ⟨y,hy⟩:∃ y,J[k]?=some y:=⟨_,List.getElem?_eq_getElem aa⟩
   have hxm:=List.mem_of_getElem? hx
   have hym:=List.mem_of_getElem? hy
   have hie:=uD x y
   obtain ⟨r,hr⟩:∃ r,itemEq x y=r:=⟨_,rfl⟩
   rw [hr] at hie
   cases r with
   | false =>
    repeat' (first|refine aO ?_ (bj true rfl rfl (decide_eq_true aa))|refine gs ?_|refine gs1 fun _=>?_|(refine gp ?_ ?_<;>intro hx_ this)|fail)
    (refine ao ⟨[0,1,2,3,4,5,6,7,8,9],[(10,⟨[11],[]⟩)]⟩ [cel b5 26 [t2.v,sb.v],cel b4 26 [t1.v,sa.v]] (fun w=>((Items w sl IL∧Xf w)∧(Ints w t1 []∧Ints w t2 []))∧(Items w sa I∧Items w sb J)) (h:=?_))
    all_goals repeat' (first|refine ax (hsub:=by exact aF) (hy:=by first|(apply g7 true;rfl;rfl)) ?_|(refine ag (hc:=hie) (hX:=fun w h=>⟨h.2.1.2 x hxm,h.2.2.2 y hym⟩) ?_)|refine gdz ?_|refine ax (hsub:=by exact aF) (hy:=by first|(apply aG (q:=k*49);rfl;rfl;omega;omega;assumption;omega)|(apply dN (cs:=x.cells);rfl;exact fun w h=>h.2.1.get hx)|(apply dN (cs:=y.cells);rfl;exact fun w h=>h.2.2.get hy)) ?_|refine ay ?_ (h':=?_)|exact az|refine gs1 fun _=>?_|(refine gq ?_ ?_<;>intro hx_ this)|fail)
    all_goals
     repeat' (first|refine gs ?_|refine gs1 fun _=>?_|(refine gp ?_ ?_<;>intro hx_ this)|fail)
     first
      | exact ab (ai rfl rfl) rfl
   | true =>
    repeat' (first|refine aO ?_ (bj true rfl rfl (decide_eq_true aa))|refine gs ?_|refine gs1 fun _=>?_|(refine gp ?_ ?_<;>intro hx_ this)|fail)
    (refine ao ⟨[0,1,2,3,4,5,6,7,8,9],[(10,⟨[11],[]⟩)]⟩ [cel b5 26 [t2.v,sb.v],cel b4 26 [t1.v,sa.v]] (fun w=>((Items w sl IL∧Xf w)∧(Ints w t1 []∧Ints w t2 []))∧(Items w sa I∧Items w sb J)) (h:=?_))
    all_goals repeat' (first|refine ax (hsub:=by exact aF) (hy:=by first|(apply g7 false;rfl;rfl)) ?_|(refine ag (hc:=hie) (hX:=fun w h=>⟨h.2.1.2 x hxm,h.2.2.2 y hym⟩) ?_)|refine gdz ?_|refine ax (hsub:=by exact aF) (hy:=by first|(apply aG (q:=k*49);rfl;rfl;omega;omega;assumption;omega)|(apply dN (cs:=x.cells);rfl;exact fun w h=>h.2.1.get hx)|(apply dN (cs:=y.cells);rfl;exact fun w h=>h.2.2.get hy)) ?_|refine ay ?_ (h':=?_)|exact az|refine gs1 fun _=>?_|(refine gq ?_ ?_<;>intro hx_ this)|fail)
    all_goals
     repeat' (first|refine gs ?_|refine gs1 fun _=>?_|(refine gp ?_ ?_<;>intro hx_ this)|fail)
     first
      | exact ⟨(⟨k+1,hlt,fun j x' y' hj hx' hy'=>by
        by_cases e:j=k
        · subst e
          rw [hx] at hx'
          rw [hy] at hy'
          cases hx'
          cases hy'
          exact hr
        · exact hsame j x' y' aa hx' hy'⟩:PoK I J),(by show I.length-(k+1)<I.length-k;omega),ae al (aj _) fun _ h=>h⟩
  have hcan:=qO hI hJ hl fun j x y hx hy=>hsame j x y (by have:=(List.getElem?_eq_some_iff.1 hx).1;omega) hx hy
  clear hsame
  repeat' (first|refine aO ?_ (bj false rfl rfl (decide_eq_false aa))|(refine bm (hc:=tr t1 sa hI) (hX:=fun w h=>⟨⟨h.1.2.1,h.2.1⟩,h.1.1.2⟩) fun v X5 h5=>?_;obtain ⟨s8,la,hA1,rfl,hw5⟩:=h5)|refine gs ?_|refine gs1 fun _=>?_|(refine gp ?_ ?_<;>intro hx_ this)|fail)
  have hUq:=iZ hI hA1
  have hla:=ql hA1
  have hoa:=ox s8 la (fun c hc=>(eJ hI hA1 hc).1) (fun c hc=>by have:=(eJ hI hA1 hc).2;omega) aa (by have:=pg hI hA1;omega)
  have hqb:=tr t2 sb hJ
  (refine ao ⟨[0,2],[(1,⟨[],[(3,⟨[],[(4,⟨[5,6],[]⟩)]⟩)]⟩)]⟩ [cel b5 26 [t2.v,sb.v],cel b4 26 [t1.v,sa.v]] (fun w=>(((Items w sl IL∧Xf w)∧(Ints w t1 []∧Ints w t2 []))∧(Items w sa I∧Items w sb J))∧X5 w) (h:=?_))
  all_goals repeat' (first|((refine bm (hc:=hoa) (hX:=fun w h=>⟨hw5 w h.2,h.1.1.1.2⟩) fun v X6 h6=>?_;obtain ⟨s9,P,rfl,hP,hP19,oP,hw6⟩:=h6))|((refine bm (hc:=hqb) (hX:=fun w h=>⟨⟨h.1.1.1.2.2,h.1.1.2.2⟩,h.1.1.1.1.2⟩) fun v X7 h7=>?_;obtain ⟨s10,lb,hB1,rfl,hw7⟩:=h7;have hlb:=ql hB1;have hob:=ox s10 lb (fun c hc=>(eJ hJ hB1 hc).1) (fun c hc=>by have:=(eJ hJ hB1 hc).2;omega) aa (by have:=pg hJ hB1;omega)))|((refine bm (hc:=hob) (hX:=fun w h=>⟨hw7 w h.2,h.1.1.1.1.1.2⟩) fun v X8 h8=>?_;obtain ⟨s11,Q,rfl,hQ,hQ19,oQ,hw8⟩:=h8))|refine gdz ?_|refine ay ?_ (h':=?_)|exact az|refine gs1 fun _=>?_|(refine gq ?_ ?_<;>intro hx_ this)|fail)
  all_goals
   have hPQ:=AG hUq hP (by rw [qW hI hJ hcan hA1 hB1];exact hQ) oP oQ
   have hsa:=nF s9 s11 P Q hPQ
   have hnd:(P.map Xc.id).Nodup:=by
    have h1:=(hP.map Xc.id).nodup_iff.2 (jH hUq)
    rw [zJ] at h1
    exact h1
   refine aH (p:=s9.n=P.length∧s9.n≤maxLen∧(0<P.length→s9.p.isSome=true)) (fun w h=>⟨by simpa using Xe.len (hw6 w h.1.1.2).1,Nat.le_trans (Xe.cap (hw6 w h.1.1.2).1) (Xe.max (hw6 w h.1.1.2).1),fun h0=>(Xe.row (hw6 w h.1.1.2).1 0 P[0].cells (by simp [List.getElem?_eq_getElem h0])).2.1⟩) fun ⟨hpn,hpmx,hpp⟩=>?_
   simp only [maxLen] at hpmx
   repeat' (first|refine aO ?_ (g7 false rfl rfl)|(refine ag (hc:=hsa) (hX:=fun w h=>⟨hw6 w h.1.1.2,hw8 w h.2⟩) ?_)|refine gs ?_|refine gs1 fun _=>?_|(refine gp ?_ ?_<;>intro hx_ this)|fail)
   clear hsa hob hqb hoa
   refine am (ι:=PoN P.length) (fun i=>⟨[(3,.bool true),(4,.pointer (some ⟨b4,0,none⟩)),(8,s8.v),(9,s9.v),(11,.int .i64 (i.k:Nat))],[cel b4 26 [t1.v,sa.v]],fun w=>((Ints w t1 []∧Items w sa I)∧Xf w)∧(Chains w s8 la∧(Xe w 11 s9 (P.map Xc.cells)∧Behind w P))⟩) (fun i=>P.length-i.k) ⟨0,Nat.zero_le _⟩ (ae al (.cons _ (aj _)) fun w h=>⟨⟨⟨h.1.1.1.1.1.2.1,h.1.1.1.1.2.1⟩,h.1.1.1.1.1.1.2⟩,hw5 w h.1.1.1.2,hw6 w h.1.1.2⟩) fun i=>?_
   obtain ⟨k,hk2⟩:=i
   simp only
   by_cases hlt2:k<P.length
   case pos =>
    have hpp':=hpp aa
    obtain ⟨p,hp⟩:∃ p,P[k]?=some p:=⟨_,List.getElem?_eq_getElem hlt2⟩
    have hpm:=List.mem_of_getElem? hp
    obtain ⟨hfp,kx,x0,hx0,hd0,hno,hau,hne⟩:=qX hI hA1 hP hpm
    have hrow:∀ w,(((Ints w t1 []∧Items w sa I)∧Xf w)∧(Chains w s8 la∧(Xe w 11 s9 (P.map Xc.cells)∧Behind w P)))→p.cells.length=11∧s9.p.isSome=true∧∀ (j:Nat) (u:Value),p.cells[j]?=some u→CellAt w s9.p (k*11+j) u:=fun w h=>Xe.row h.2.2.1 k p.cells (by rw [List.getElem?_map,hp];rfl)
    have hfi:Mk Tryz.prog 12 #[s8.v,.string p.id] (fun w=>Chains w s8 la∧Xf w) (fun u X=>∃ p':Xc,u=.tuple #[p'.v,.bool true]∧p'.can=p.can∧∀ w,X w→Strs w p'.to p'.toL∧Ints w p'.ed p'.edL) :=
     ef (pV s8 la p.id (fun c hc=>(eJ hI hA1 hc).1) (fun c hc=>by have:=(eJ hI hA1 hc).2;omega)) fun u X ⟨p',h1,h2,h3⟩=>⟨p',by rw [h1,hfp];rfl,by rw [h2,hfp];rfl,h3⟩
    have hkf:=nW t1 sa I hI.rng hI.dn aa p.id hne kx x0 hx0 hd0 hno
    repeat' (first|refine aO ?_ (bj true rfl rfl (decide_eq_true aa))|(refine bm (hc:=hfi) (hX:=fun w h=>⟨h.2.1,h.1.2⟩) fun v X9 h9=>?_;obtain ⟨p',rfl,hpc,hwp⟩:=h9)|refine gs ?_|refine gs1 fun _=>?_|(refine aE (q:=k*11) ?_)|(refine dA ?_)|(refine cg (q:=k*11) (u:=.string p.id) (hF:=fun w h=>(hrow w h).2.2 0 _ rfl) ?_)|(refine gp ?_ ?_<;>intro hx_ this)|fail)
    rename_i b12
    have hsm:=mr p' p hpc
    (refine ao ⟨[0,1,2,3,4,5],[(6,⟨[7,8,9],[(10,⟨[],[(11,⟨[12],[]⟩)]⟩)]⟩),(10,⟨[],[(6,⟨[7,8,9],[(11,⟨[12],[]⟩)]⟩)]⟩)]⟩ [cel b12 54 p'.cells,cel b4 26 [t1.v,sa.v]] (fun w=>(((Ints w t1 []∧Items w sa I)∧Xf w)∧(Chains w s8 la∧(Xe w 11 s9 (P.map Xc.cells)∧Behind w P)))∧X9 w) (h:=?_))
    all_goals repeat' (first|(refine ag (hc:=hkf) (hX:=fun w h=>⟨h.1.1.1.2,h.1.1.2⟩) ?_)|refine gdz ?_|refine ax (hsub:=by exact aF) (hy:=by first|(apply aG (q:=k*11);rfl;rfl;omega;omega;assumption;omega)|(apply cN;rfl;assumption;rfl)|(apply de (q:=k*11) (u:=.string p.id);rfl;exact fun w h=>(hrow w h.1).2.2 0 _ rfl)) ?_|refine ay ?_ (h':=?_)|exact az|refine gs1 fun _=>?_|(refine gq ?_ ?_<;>intro hx_ this)|fail)
    all_goals
     rename_i b14
     repeat' (first|refine gs ?_|refine gs1 fun _=>?_|(refine gp ?_ ?_<;>intro hx_ this)|fail)
     by_cases hk0:k=0
     case pos =>
      (refine ao ⟨[0,1,2,3,4,5,6,7],[(8,⟨[9,10,11,12,13,14,15,16,17,18,19,20,21,22,23,24,25,26,27,28,29,30,31,32,33,34,35,36,37,38,39,40,41,42,43],[]⟩)]⟩ [cel b14 45 x0.cells,cel b12 54 p'.cells] (fun w=>(((Ints w t1 []∧Items w sa I)∧Xf w)∧(Chains w s8 la∧(Xe w 11 s9 (P.map Xc.cells)∧Behind w P)))∧X9 w) (h:=?_))
      all_goals repeat' (first|refine ax (hsub:=by exact aF) (hy:=by first|(apply g7 false;rfl;rfl)|(apply fx false;rfl;rfl;rw [hau,be];rfl)|(apply ng false;rfl;rfl;exact decide_eq_false aa)) ?_|(refine ag (hc:=hsm) (hX:=fun w h=>⟨hwp w h.2,h.1.2.2.2 p hpm⟩) ?_)|refine gdz ?_|refine ax (hsub:=by exact aF) (hy:=by first|(apply aG (q:=k*11);rfl;rfl;omega;omega;assumption;omega)|(apply dN (cs:=p.cells);rfl;exact fun w h=>hrow w h.1;done)|(apply cN;rfl;assumption;rfl)|(apply de (q:=k*11+1) (u:=.string p.author);rfl;exact fun w h=>(hrow w h.1).2.2 1 _ rfl)|(apply de (q:=k*11) (u:=.string p.id);rfl;exact fun w h=>(hrow w h.1).2.2 0 _ rfl)) ?_|refine ay ?_ (h':=?_)|exact az|refine gs1 fun _=>?_|(refine gq ?_ ?_<;>intro hx_ this)|fail)
      all_goals
       repeat' (first|refine gs ?_|refine gs1 fun _=>?_|(refine gp ?_ ?_<;>intro hx_ this)|fail)
       first
        | exact ⟨(⟨k+1,hlt2⟩:PoN P.length),(by show P.length-(k+1)<P.length-k;omega),ae al (.cons _ (.cons _ (aj _))) fun w h=>h.1⟩
     obtain ⟨p0,hp0⟩:∃ p0,P[k-1]?=some p0:=⟨_,List.getElem?_eq_getElem aa⟩
     have hlt3:=qY oP hnd aa hp0 hp
     have hrow0:∀ w,(((Ints w t1 []∧Items w sa I)∧Xf w)∧(Chains w s8 la∧(Xe w 11 s9 (P.map Xc.cells)∧Behind w P)))→p0.cells.length=11∧s9.p.isSome=true∧∀ (j:Nat) (u:Value),p0.cells[j]?=some u→CellAt w s9.p ((k-1)*11+j) u:=fun w h=>Xe.row h.2.2.1 (k-1) p0.cells (by rw [List.getElem?_map,hp0];rfl)
     (refine ao ⟨[0,1,2,3,4,5,6,7],[(8,⟨[9,10,11,12,13,14,15,16,17,18,19,20,21,22,23,24,25,26,27,28,29,30,31,32,33,34,35,36,37,38,39,40,41,42,43],[]⟩)]⟩ [cel b14 45 x0.cells,cel b12 54 p'.cells] (fun w=>(((Ints w t1 []∧Items w sa I)∧Xf w)∧(Chains w s8 la∧(Xe w 11 s9 (P.map Xc.cells)∧Behind w P)))∧X9 w) (h:=?_))
     all_goals repeat' (first|refine ax (hsub:=by exact aF) (hy:=by first|(apply g7 false;rfl;rfl)|(apply fx false;rfl;rfl;rw [hau,be];rfl)|(apply ng true;rfl;rfl;exact decide_eq_true aa)|(apply m9 (p:=k) (q:=1) (k-1);rfl;rfl;omega;omega)|(apply yp;rfl;rfl;exact hlt3)) ?_|(refine ag (hc:=hsm) (hX:=fun w h=>⟨hwp w h.2,h.1.2.2.2 p hpm⟩) ?_)|refine gdz ?_|refine ax (hsub:=by exact aF) (hy:=by first|(apply aG (q:=k*11);rfl;rfl;omega;omega;assumption;omega)|(apply dN (cs:=p.cells);rfl;exact fun w h=>hrow w h.1;done)|(apply cN;rfl;assumption;rfl)|(apply de (q:=k*11+1) (u:=.string p.author);rfl;exact fun w h=>(hrow w h.1).2.2 1 _ rfl)|(apply de (q:=k*11) (u:=.string p.id);rfl;exact fun w h=>(hrow w h.1).2.2 0 _ rfl)|(apply aG (q:=(k-1)*11);rfl;rfl;omega;omega;assumption;omega)|(apply de (q:=(k-1)*11) (u:=.string p0.id);rfl;exact fun w h=>(hrow0 w h.1).2.2 0 _ rfl)) ?_|refine ay ?_ (h':=?_)|exact az|refine gs1 fun _=>?_|(refine gq ?_ ?_<;>intro hx_ this)|fail)
     all_goals
      repeat' (first|refine gs ?_|refine gs1 fun _=>?_|(refine gp ?_ ?_<;>intro hx_ this)|fail)
      first
       | exact ⟨(⟨k+1,hlt2⟩:PoN P.length),(by show P.length-(k+1)<P.length-k;omega),ae al (.cons _ (.cons _ (aj _))) fun w h=>h.1⟩
   repeat' (first|refine aO ?_ (bj false rfl rfl (decide_eq_false aa))|refine gs ?_|refine gs1 fun _=>?_|(refine gp ?_ ?_<;>intro hx_ this)|fail)
   all_goals first
    | exact ab (ai rfl rfl) rfl
end Go.Proofs.YtggionfjlgfihaaGreatDoor
