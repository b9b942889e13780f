/- Joined. -/
import Derived.Test.YtgffbiobmamobaaGreatDoorI0
import Derived.Test.YtgffbiobmamobaaGreatDoorI1
import Derived.Test.YtgffbiobmamobaaGreatDoorI2
import Derived.Test.YtgffbiobmamobaaGreatDoorI40
import Derived.Test.YtgffbiobmamobaaGreatDoorI9
import Derived.Test.YtgffbiobmamobaaGreatDoorI28
set_option linter.unusedVariables false
set_option linter.unusedSimpArgs false
set_option maxHeartbeats 16000000
namespace Go.Proofs.YtgffbiobmamobaaGreatDoor
open Go Go.Proofs Sy
structure HeI (C:List Xa) where
 k:Nat
 hk:k≤C.length
 I:List Xb
 hI:I.map Xb.can=addActs srvL [] (((C.take k).flatMap Xa.actsL).map Xc.can)
 inv:Xy srvL I (k*11) 0
 ki:Xi
structure HeJ (C:List Xa) (k:Nat) (cd:Xa) where
 j:Nat
 hj:j≤cd.actsL.length
 I:List Xb
 hI:I.map Xb.can=addActs srvL [] ((((C.take k).flatMap Xa.actsL)++cd.actsL.take j).map Xc.can)
 inv:Xy srvL I (k*11+j) 0
 ki:Xi
structure HeO (pst:List ByteArray) (I0:List Xb) (O:List Xk) where
 k:Nat
 hk:k≤O.length
 I:List Xb
 D:List Xf
 G:List ByteArray
 hT:(⟨I.map Xb.can,D.map Xf.can,G⟩:OrdT)=ordX srvL pst I0 O k
 inv:Xy srvL I (44+k) k
 hD:D.length≤k
 hG:G.length=D.length
 hGs:∀ x∈G,x.size≤1000000
 ki:Xi
 A:Option Addr
 n:Nat
 hn:n=D.length
 c:Nat
 xs:List Value
 hxs:xs=(D.map Xf.cells).flatten
 B:Option Addr
 m:Nat
 hm:m=G.length
 dd:Nat
 ys:List Value
 hys:ys=G.map encB
structure HeP (d0:Xz) (Q:List Xp) where
 k:Nat
 hk:k≤Q.length
 d:Xz
 hd:d.can=(Q.take k).foldl (pleadV srvL) d0
 ok:CrtOk srvL d (52+k) 8 (11+k)
 ch:CrtH
def HeldAt (W:List Xo) (O:List Xk) (Q:List Xp) (u:Value) (X:World→Prop):Prop:=∃ (ch:CrtH) (d:Xz) (pst:List ByteArray),u=ch.v∧(d.can=heldV pst W O Q∧CrtOk srvL d 62 8 21)∧∀ w,X w→X7 srvL ch d w
theorem yW:Xy srvL [] 0 0:=⟨⟨(show 2≤20 by decide),Nat.zero_le _,(fun i hi=>(List.not_mem_nil hi).elim),(fun i hi=>(List.not_mem_nil hi).elim),(fun i hi=>(List.not_mem_nil hi).elim),(fun i hi=>(List.not_mem_nil hi).elim),List.Pairwise.nil⟩,(fun i hi=>(List.not_mem_nil hi).elim),(fun i hi=>(List.not_mem_nil hi).elim),(fun i hi=>(List.not_mem_nil hi).elim),List.nodup_nil,Nat.le_refl _,Nat.le_refl _⟩
theorem tJ (w:World):Items w ⟨none,0,0⟩ []:=⟨aN w 49,fun i hi=>(List.not_mem_nil hi).elim⟩
theorem tO (l:List Xo):(goldV l).1.length=4:=by
 have h:∀ (l:List Xo) (st:List Xa×List ByteArray),(l.foldl goldS st).1.length=st.1.length:=fun l=>by
  induction l with
  | nil=>intro st;rfl
  | cons w l ih =>
   intro st
   rw [List.foldl_cons,ih,goldS]
   cases goldB st.1 st.2 w with
   | true=>rw [cond_true,List.length_set]
   | false=>rfl
 rw [goldV,h,List.length_map,List.length_range]
theorem wL (C:List Xa):(C.map Xa.can).flatMap Xa.actsL=(C.flatMap Xa.actsL).map Xc.can:=by
 rw [List.flatMap_map,List.map_flatMap]
 rfl
theorem yl {w:World} {b e:Nat} {p0 p1:Int} (h:(cel b e [.int .i64 p0,.int .i64 p1]).F w):Ints w ⟨some ⟨b,0,none⟩,2,2⟩ [p0,p1] :=
 aU h rfl (by decide) fun r hr=>by
  obtain ⟨y,_,rfl⟩:=List.mem_map.1 hr
  rfl
set_option maxRecDepth 20000 in
theorem r3 (h:CaseH) (W:List Xo) (O:List Xk) (Q:List Xp) (hok:CaseOk W O Q) :
  Mk Tryz.prog 6 #[h.v] (X9 h W O Q) (HeldAt W O Q):=by
 refine bS Tryz.func6 Tryz.ntmps6 fun av bor w0=>?_
 have hwl:=hok.wl
 have hol:=hok.ol
 have hql:=hok.ql
 have hk0:Pu Tryz.prog 15 #[.int .i64 0] Xg (keyS 0).v:=cj 0 (by decide)
 have hk1:Pu Tryz.prog 15 #[.int .i64 1] Xg (keyS 1).v:=cj 1 (by decide)
 obtain ⟨K0,hK0⟩:∃ K,keyS 0=K:=⟨_,rfl⟩
 obtain ⟨K1,hK1⟩:∃ K,keyS 1=K:=⟨_,rfl⟩
 have hsv:srvL=[K0.p,K1.p]:=by rw [srvL,hK0,hK1]
 rw [hK0] at hk0
 rw [hK1] at hk1
 have hnw:=fun s:Xi=>yO s [K0.p,K1.p] (show 2≤1000000 by decide)
 have hgo:=yY h.sw W ac hok.wr
 refine aD (p:=(h.so.n=O.length∧(0<O.length→h.so.p.isSome=true))∧h.sp.n=Q.length∧(0<Q.length→h.sp.p.isSome=true)) (fun w x=>⟨⟨by simpa using Xe.len x.od,fun h0=>(Xe.row x.od 0 (O[0]).cells (by simp [h0])).2.1⟩,by simpa using Xe.len x.pl,fun h0=>(Xe.row x.pl 0 (Q[0]).cells (by simp [h0])).2.1⟩) fun ⟨⟨hon,hop⟩,hpn,hpp⟩=>?_
 apply cw_seq
 apply cw_reg
 repeat' (first|apply ba|apply cw_seq|refine bA ?_|refine aW ?_|refine bM ?_|refine cg ?_|refine aQ ?_|refine cU ?_|refine bz ?_|refine bL ?_|refine aO ?_|refine bN (h:=?_)|refine bc fun _=>?_|refine bX fun _=>?_|refine bG fun _=>?_|refine bD ?_|refine aR ?_|refine cw_cond_t ?_|refine cw_cond_f ?_|apply cw_skip|apply cw_block|apply cw_ret|apply cw_exit|refine bC ?_|refine bx ?_|(refine cw_cond (ht:=?_) (hf:=?_);all_goals (intro hx_;first|have:=bm hx_|have:=bT hx_|skip)))
 rename_i b1 b2
 refine ej (ι:={ j:Nat×Xi×Xi×List Xa // j.2.2.2.map Xa.can=heldC W∧∀ c∈j.2.2.2,Xx c.actsL∧c.actsL.length≤W.length+1 }) (fun j=>⟨[(1,.pointer (some ⟨b1,0,none⟩)),(2,.pointer (some ⟨b2,0,none⟩)),(3,.pointer (some ⟨j.1.1,0,none⟩))],[cel j.1.1 37 [j.1.2.1.v,.slice none 0 0,j.1.2.2.1.v,.slice none 0 0,.slice none 0 0,.slice none 0 0],cel b2 37 [.slice none 0 0,.slice none 0 0,.slice none 0 0,.slice none 0 0,.slice none 0 0,.slice none 0 0],cel b1 26 h.cells],fun w=>(X9 h W O Q w∧Ints w j.1.2.1 srvL)∧Chains w j.1.2.2.1 j.1.2.2.2⟩) ?_ fun j=>?_
 · (refine ao ⟨[6,7],[(0,⟨[1],[(2,⟨[3],[(4,⟨[],[(5,⟨[],[(8,⟨[9],[(10,⟨[],[(11,⟨[],[]⟩)]⟩)]⟩),(10,⟨[],[(8,⟨[9],[(11,⟨[],[]⟩)]⟩)]⟩)]⟩),(10,⟨[],[(5,⟨[],[(8,⟨[9],[(11,⟨[],[]⟩)]⟩)]⟩)]⟩)]⟩),(10,⟨[],[(4,⟨[],[(5,⟨[],[(8,⟨[9],[(11,⟨[],[]⟩)]⟩)]⟩)]⟩)]⟩)]⟩),(10,⟨[],[(2,⟨[3],[(4,⟨[],[(5,⟨[],[(8,⟨[9],[(11,⟨[],[]⟩)]⟩)]⟩)]⟩)]⟩)]⟩)]⟩),(10,⟨[],[(0,⟨[1],[(2,⟨[3],[(4,⟨[],[(5,⟨[],[(8,⟨[9],[(11,⟨[],[]⟩)]⟩)]⟩)]⟩)]⟩)]⟩)]⟩)]⟩ [cel b1 26 h.cells] (X9 h W O Q) (h:=?_))
   all_goals repeat' (first|(refine ag (hc:=hk0) (hX:=fun _ x=>x.glob) ?_)|(refine ag (hc:=hk1) (hX:=fun _ x=>x.glob) ?_)|((refine aT (hc:=hnw ⟨some ⟨bq,0,none⟩,2,2⟩) (hX:=fun w x=>yl x.2) fun v1 X1 h1=>?_;obtain ⟨t,rfl,hw1⟩:=h1))|((refine aT (hc:=hgo) (hX:=fun w x=>⟨x.1.1.wi,x.1.1.glob⟩) fun v2 X2 h2=>?_;obtain ⟨C0,s0,hC0,hCb,rfl,hw2⟩:=h2))|refine gdz ?_|refine aJ (hsub:=by exact aP) (hy:=by first|(apply j5;rfl)|(apply cT (cs:=[t.v,.slice none 0 0,s0.v,.slice none 0 0,.slice none 0 0,.slice none 0 0]);rfl;rfl)) ?_|refine aF ?_ (h':=?_)|exact aG|((refine bG (len:=2) (vs:=[.int .i64 K0.p,.int .i64 K1.p]) fun bq=>?_;refine bO ?_))|refine gs1 fun _=>?_|(refine gq ?_ ?_<;>intro hx_ this)|fail)
   all_goals
    first
     | exact ⟨⟨(_,t,s0,C0),hC0,hCb⟩,ak an (al _) fun w x=>⟨⟨x.1.1.1,by rw [hsv];exact hw1 w x.1.2⟩,hw2 w x.2⟩⟩
 obtain ⟨⟨b3,t,sc,C⟩,hC,hCb⟩:=j
 simp only at hC hCb ⊢
 have hC4:C.length=4:=by
  have h1:=congrArg List.length hC
  rw [List.length_map,heldC,tO] at h1
  exact h1
 refine aD (p:=sc.n=C.length∧sc.n≤maxLen∧(0<C.length→sc.p.isSome=true)) (fun w x=>⟨x.2.len_,x.2.max_,x.2.some_⟩) fun ⟨hcn,hcm,hcp⟩=>?_
 simp only [maxLen] at hcm
 have hcp':=hcp ac
 repeat' (first|refine gs ?_|refine gs1 fun _=>?_|(refine gp ?_ ?_<;>intro hx_ this)|fail)
 refine az (ι:=HeI C) (fun i=>⟨[(1,.pointer (some ⟨b1,0,none⟩)),(2,.pointer (some ⟨b2,0,none⟩)),(3,.pointer (some ⟨b3,0,none⟩)),(4,.int .i64 (i.k:Nat))],[cel b3 37 [t.v,i.ki.v,sc.v,.slice none 0 0,.slice none 0 0,.slice none 0 0],cel b2 37 [.slice none 0 0,.slice none 0 0,.slice none 0 0,.slice none 0 0,.slice none 0 0,.slice none 0 0],cel b1 26 h.cells],fun w=>((X9 h W O Q w∧Ints w t srvL)∧Chains w sc C)∧Items w i.ki i.I⟩) (fun i=>C.length-i.k) ⟨0,Nat.zero_le _,[],rfl,yW,⟨none,0,0⟩⟩ (ak an (al _) fun w x=>⟨x,tJ w⟩) fun i=>?_
 obtain ⟨k,hk,I,hI,hinv,ki⟩:=i
 simp only
 by_cases hlt:k<C.length
 · obtain ⟨cd,hcd⟩:∃ cd,C[k]?=some cd:=⟨_,List.getElem?_eq_getElem hlt⟩
   have hcdm:=List.mem_of_getElem? hcd
   obtain ⟨hca,hcl⟩:=hCb cd hcdm
   refine aD (p:=cd.acts.n=cd.actsL.length∧cd.acts.n≤maxLen∧(0<cd.actsL.length→cd.acts.p.isSome=true)) (fun w x=>⟨(x.1.2.2 cd hcdm).len_,(x.1.2.2 cd hcdm).max_,(x.1.2.2 cd hcdm).some_⟩) fun ⟨han,ham,hap⟩=>?_
   simp only [maxLen] at ham
   repeat' (first|refine aw ?_ (be true rfl rfl (decide_eq_true (show (k:Int)<(sc.n:Nat) by omega)))|refine gs ?_|refine gs1 fun _=>?_|(refine gp ?_ ?_<;>intro hx_ this)|fail)
   refine az (ι:=HeJ C k cd) (fun i=>⟨[(1,.pointer (some ⟨b1,0,none⟩)),(2,.pointer (some ⟨b2,0,none⟩)),(3,.pointer (some ⟨b3,0,none⟩)),(4,.int .i64 (k:Nat)),(5,.int .i64 (i.j:Nat))],[cel b3 37 [t.v,i.ki.v,sc.v,.slice none 0 0,.slice none 0 0,.slice none 0 0],cel b2 37 [.slice none 0 0,.slice none 0 0,.slice none 0 0,.slice none 0 0,.slice none 0 0,.slice none 0 0],cel b1 26 h.cells],fun w=>((X9 h W O Q w∧Ints w t srvL)∧Chains w sc C)∧Items w i.ki i.I⟩) (fun i=>cd.actsL.length-i.j) ⟨0,Nat.zero_le _,I,by rw [List.take_zero,List.append_nil];exact hI,hinv,ki⟩ (ak an (al _) fun w x=>x) fun i=>?_
   obtain ⟨j,hj,I,hI,hinv,ki⟩:=i
   simp only
   by_cases hjl:j<cd.actsL.length
   · have hap':=hap ac
     obtain ⟨a,ha⟩:∃ a,cd.actsL[j]?=some a:=⟨_,List.getElem?_eq_getElem hjl⟩
     have ham2:=List.mem_of_getElem? ha
     have hra:=hca.rng a ham2
     have hsa:=hca.sm a ham2
     have hof:=l3 a hra hsa
     repeat' (first|refine aw ?_ (be true rfl rfl (decide_eq_true (show (j:Int)<(cd.acts.n:Nat) by omega)))|refine gs ?_|refine gs1 fun _=>?_|(refine aA (q:=k*6) ?_)|(refine dQ ?_)|(refine bE (q:=k*6+1) (u:=cd.acts.v) (hF:=fun w x=>(x.1.2.get hcd).2.2 1 _ rfl) ?_)|(refine gp ?_ ?_<;>intro hx_ this)|fail)
     have hNx:∀ s1 s2:Xi,s1.n=a.to.n→s2.n=a.wraps.n→(addK srvL I (ofActI (a.re s1 s2))).map Xb.can=addActs srvL [] ((((C.take k).flatMap Xa.actsL)++cd.actsL.take (j+1)).map Xc.can)∧Xy srvL (addK srvL I (ofActI (a.re s1 s2))) (k*11+(j+1)) 0:=fun s1 s2 e1 e2=>by
      constructor
      · rw [List.take_add_one,ha,Option.toList_some,←List.append_assoc,List.map_append,List.map_cons,List.map_nil,nM,←hI,lx (cf hinv) (it:=ofActI (a.re s1 s2)) rfl,kJ,lp a e1 e2]
      · exact hinv.add ac (it:=ofActI (a.re s1 s2)) (jS hra e1 e2) (vC hsa e1 e2) rfl (Nat.zero_le _) (fun h7=>absurd (show false=true from h7) (by decide))
     (refine ao ⟨[0,2,4,8],[(1,⟨[],[(3,⟨[5,6,7,9,10],[(11,⟨[],[(12,⟨[13,14,15,16],[(17,⟨[],[]⟩)]⟩)]⟩)]⟩)]⟩),(3,⟨[5,6,7,9,10],[(1,⟨[],[(11,⟨[],[(12,⟨[13,14,15,16],[(17,⟨[],[]⟩)]⟩)]⟩)]⟩),(11,⟨[],[(1,⟨[],[(12,⟨[13,14,15,16],[(17,⟨[],[]⟩)]⟩)]⟩)]⟩)]⟩)]⟩ [] (fun w=>((X9 h W O Q w∧Ints w t srvL)∧Chains w sc C)∧Items w ki I) (h:=?_))
     all_goals repeat' (first|((refine aT (hc:=hof) (hX:=fun w x=>(x.1.2.2 cd hcdm).2 a ham2) fun v1 X1 h1=>?_;obtain ⟨s1,s2,rfl,e1,e2,hw1⟩:=h1))|((refine aT (hc:=nL t ki hinv.knr (ofActI (a.re s1 s2)) (jS hra e1 e2) rfl) (hX:=fun w x=>⟨⟨⟨x.1.1.1.2,x.1.2⟩,hw1 w x.2,aN w 1⟩,x.1.1.1.1.glob⟩) fun v3 X3 h3=>?_;obtain ⟨s3,rfl,hw3⟩:=h3))|refine gdz ?_|refine aJ (hsub:=by exact aP) (hy:=by first|(apply bk (q:=k*6);rfl;rfl;omega;omega;assumption;(first|rfl|omega))|(apply bk (q:=j*20);rfl;rfl;omega;omega;assumption;(first|rfl|omega))|(apply eR;rfl;assumption;rfl)|(apply ez (q:=k*6+1) (u:=cd.acts.v);rfl;exact fun w x=>(x.1.2.get hcd).2.2 1 _ rfl)|(apply f7 (q:=j*20) (cs:=a.cells);rfl;exact fun w x=>(x.1.2.2 cd hcdm).get ha)) ?_|refine aF ?_ (h':=?_)|exact aG|(refine aE (vs:=[t.v,ki.v]) (hv:=rfl) ?_)|(refine aZ [t.v,s3.v,sc.v,.slice none 0 0,.slice none 0 0,.slice none 0 0] (h:=?_))|refine gs1 fun _=>?_|(refine gq ?_ ?_<;>intro hx_ this)|fail)
     all_goals
      repeat' (first|refine gs ?_|refine gs1 fun _=>?_|(refine gp ?_ ?_<;>intro hx_ this)|fail)
      obtain ⟨hI2,hinv2⟩:=hNx s1 s2 e1 e2
      first
       | exact ⟨(⟨j+1,hjl,addK srvL I (ofActI (a.re s1 s2)),hI2,hinv2,s3⟩:HeJ C k cd),(by show cd.actsL.length-(j+1)<cd.actsL.length-j;omega),ak an (al _) fun w x=>⟨x.1.1.1,hw3 w ⟨x.1.1.2,x.2⟩⟩⟩
   · have hje:j=cd.actsL.length:=by omega
     rw [hje,List.take_length] at hI
     have hI2:I.map Xb.can=addActs srvL [] (((C.take (k+1)).flatMap Xa.actsL).map Xc.can):=by
      rw [hI,List.take_add_one,hcd,Option.toList_some,List.flatMap_append,List.flatMap_cons,List.flatMap_nil,List.append_nil]
     repeat' (first|refine aw ?_ (be false rfl rfl (decide_eq_false (show ¬ (j:Int)<(cd.acts.n:Nat) by omega)))|refine gs ?_|refine gs1 fun _=>?_|(refine aA (q:=k*6) ?_)|(refine dQ ?_)|(refine bE (q:=k*6+1) (u:=cd.acts.v) (hF:=fun w x=>(x.1.2.get hcd).2.2 1 _ rfl) ?_)|(refine gp ?_ ?_<;>intro hx_ this)|fail)
     all_goals first
      | exact ⟨(⟨k+1,hlt,I,hI2,hinv.more ac (Nat.le_refl _),ki⟩:HeI C),(by show C.length-(k+1)<C.length-k;omega),ak an (al _) fun w x=>x⟩
 · have hke:k=C.length:=by omega
   rw [hke,List.take_length] at hI
   have hall:=zr sc C (fun c hc=>(hCb c hc).1) (fun c hc=>by have:=(hCb c hc).2;omega) ac
   repeat' (first|refine aw ?_ (be false rfl rfl (decide_eq_false (show ¬ (k:Int)<(sc.n:Nat) by omega)))|(refine aT (hc:=hall) (hX:=fun w x=>⟨x.1.2,x.1.1.1.glob⟩) fun v1 X1 h1=>?_;obtain ⟨sp,P,rfl,hPp,hPl,hPw⟩:=h1)|refine gs ?_|refine gs1 fun _=>?_|(refine gp ?_ ?_<;>intro hx_ this)|fail)
   obtain ⟨pst,hpst⟩:∃ pst,P.map Xd.id=pst:=⟨_,rfl⟩
   have hPids:=tn hPp
   have hT0:(⟨I.map Xb.can,[],[]⟩:OrdT)=ordX srvL pst (heldI W) O 0:=by
    rw [hI,ordX,heldI,←hC,wL]
   refine bQ 42 12 ?_
   refine bQ 9 1 ?_
   refine az (ι:=HeO pst (heldI W) O) (fun i=>⟨[(1,.pointer (some ⟨b1,0,none⟩)),(2,.pointer (some ⟨b2,0,none⟩)),(3,.pointer (some ⟨b3,0,none⟩)),(6,sp.v),(7,.int .i64 (i.k:Nat))],[orow 9 1 (.slice i.B i.m i.dd) i.m i.ys,orow 42 12 (.slice i.A i.n i.c) i.n i.xs,cel b3 37 [t.v,i.ki.v,sc.v,.slice i.A i.n i.c,.slice i.B i.m i.dd,.slice none 0 0],cel b2 37 [.slice none 0 0,.slice none 0 0,.slice none 0 0,.slice none 0 0,.slice none 0 0,.slice none 0 0],cel b1 26 h.cells],fun w=>((((X9 h W O Q w∧Ints w t srvL)∧Chains w sc C)∧Items w i.ki i.I)∧Xe w 11 sp (P.map Xd.cells))∧∀ d∈i.D,d.at_ w⟩) (fun i=>O.length-i.k)
    ⟨0,Nat.zero_le _,I,[],[],hT0,hinv.more ac (Nat.le_refl _),Nat.zero_le _,rfl,(fun x hx=>(List.not_mem_nil hx).elim),ki,none,0,rfl,0,[],rfl,none,0,rfl,0,[],rfl⟩ (ak an (al _) fun w x=>⟨⟨x.1,hPw w x.2⟩,fun d hd=>(List.not_mem_nil hd).elim⟩) fun i=>?_
   clear hinv hI hT0
   obtain ⟨k,hk,I,D,G,hT,hinv,hD,hG,hGs,ki,A,n,hn,c,xs,hxs,B,m,hm,dd,ys,hys⟩:=i
   simp only
   subst hn hxs hm hys
   by_cases hlt:k<O.length
   · have hop':=hop ac
     obtain ⟨o,ho⟩:∃ o,O[k]?=some o:=⟨_,List.getElem?_eq_getElem hlt⟩
     have hom:=List.mem_of_getElem? ho
     have hdc:=pc o k ac (hok.or_ o hom) sp P hPl hPids G hGs B G.length dd rfl ac
     rw [hpst] at hdc
     have hfit:=xC o k pst G
     have hsml:=qS o k pst G
     have hnum:=xB o k pst G
     have hcan:=canG o k pst G
     have hNx:ordX srvL pst (heldI W) O (k+1)=ordS srvL pst (ordX srvL pst (heldI W) O k) o k:=by rw [ordX,ho]
     rw [←hT,ordS] at hNx
     simp only at hNx
     obtain ⟨dG,hdG⟩:∃ dG,decG o k pst G=dG:=⟨_,rfl⟩
     rw [hdG] at hdc hfit hsml hnum hcan hNx
     repeat' (first|refine aw ?_ (be true rfl rfl (decide_eq_true (show (k:Int)<(h.so.n:Nat) by omega)))|refine gs ?_|refine gs1 fun _=>?_|(refine gp ?_ ?_<;>intro hx_ this)|fail)
     refine ej (ι:={ j:Nat×Xi // j.2.n=dG.to.n }) (fun j=>⟨[(1,.pointer (some ⟨b1,0,none⟩)),(2,.pointer (some ⟨b2,0,none⟩)),(3,.pointer (some ⟨b3,0,none⟩)),(6,sp.v),(7,.int .i64 (k:Nat)),(8,.pointer (some ⟨j.1.1,0,none⟩))],[cel j.1.1 42 (dG.re j.1.2).cells,orow 9 1 (.slice B G.length dd) G.length (G.map encB),orow 42 12 (.slice A D.length c) D.length (D.map Xf.cells).flatten,cel b3 37 [t.v,ki.v,sc.v,.slice A D.length c,.slice B G.length dd,.slice none 0 0],cel b2 37 [.slice none 0 0,.slice none 0 0,.slice none 0 0,.slice none 0 0,.slice none 0 0,.slice none 0 0],cel b1 26 h.cells],fun w=>(((((X9 h W O Q w∧Ints w t srvL)∧Chains w sc C)∧Items w ki I)∧Xe w 11 sp (P.map Xd.cells))∧∀ d∈D,d.at_ w)∧(dG.re j.1.2).at_ w⟩) ?_ fun j=>?_
     · (refine ao ⟨[0,1,2,3,4,5,6,7,8],[(9,⟨[],[(10,⟨[],[(11,⟨[],[]⟩)]⟩)]⟩),(10,⟨[],[(9,⟨[],[(11,⟨[],[]⟩)]⟩)]⟩)]⟩ [cel b3 37 [t.v,ki.v,sc.v,.slice A D.length c,.slice B G.length dd,.slice none 0 0],cel b1 26 h.cells] (fun w=>((((X9 h W O Q w∧Ints w t srvL)∧Chains w sc C)∧Items w ki I)∧Xe w 11 sp (P.map Xd.cells))∧∀ d∈D,d.at_ w) (h:=?_))
       all_goals repeat' (first|((refine ru (hc:=hdc) (hA:=by (repeat (first|exact At.here _|apply At.there))) (hX:=fun w x=>⟨x.1.2,x.1.1.1.1.1.glob⟩) fun v1 R1 X1 h1=>?_;obtain ⟨rfl,s1,hs1,rfl,hw1⟩:=h1))|refine gdz ?_|refine aJ (hsub:=by exact aP) (hy:=by first|(apply bk (q:=k*8);rfl;rfl;omega;omega;assumption;(first|rfl|omega))|(apply f7 (q:=k*8) (cs:=o.cells);rfl;exact fun w x=>Xe.row x.1.1.1.1.1.od k o.cells (by simp [ho]))) ?_|refine aF ?_ (h':=?_)|exact aG|refine gs1 fun _=>?_|(refine gq ?_ ?_<;>intro hx_ this)|fail)
       all_goals
        first
         | exact ⟨⟨(_,s1),hs1⟩,ak an (.cons_cons _ (.cons_cons _ (.cons _ (al _)))) fun w x=>⟨x.1,hw1 w x.2⟩⟩
         | exact ⟨⟨(_,s1),hs1⟩,yL an (.cons_cons _ (.cons_cons _ (.cons _ (al _)))) fun w x=>⟨x.1,hw1 w x.2⟩⟩
     obtain ⟨⟨b8,s1⟩,hs1⟩:=j
     simp only at hs1 ⊢
     have hf1:(dG.re s1).Fit:=f5 hfit hs1
     have hod:=eY (dG.re s1) hf1 (by show s1.n*16≤_;omega)
     obtain ⟨ca,hca⟩:∃ ca,canAdd srvL (I.map Xb.can) (ofDecI dG)=ca:=⟨_,rfl⟩
     rw [hca] at hNx
     have hitc:∀ s2:Xi,s2.n=dG.to.n→(ofDecI (dG.re s2)).can=ofDecI dG:=fun s2 h2=>by rw [qm,gQ,hcan]
     have hitf:∀ s2:Xi,s2.n=dG.to.n→(ofDecI (dG.re s2)).dec.Fit:=fun s2 h2=>f5 hfit h2
     have hcaE:∀ s2:Xi,s2.n=dG.to.n→canAdd srvL I (ofDecI (dG.re s2))=ca:=fun s2 h2=>by
      rw [←lr (cf hinv) (hitf s2 h2),hitc s2 h2,hca]
     have hdgE:∀ s2:Xi,s2.n=dG.to.n→digIt (ofDecI (dG.re s2))=digIt (ofDecI dG):=fun s2 h2=>by
      rw [←ff (f5 hfit h2),gQ,hcan]
     apply cw_seq
     refine ej (ι:={ j:Nat×Xi×Xi // j.2.1.n=dG.to.n }) (fun j=>⟨[(1,.pointer (some ⟨b1,0,none⟩)),(2,.pointer (some ⟨b2,0,none⟩)),(3,.pointer (some ⟨b3,0,none⟩)),(6,sp.v),(7,.int .i64 (k:Nat)),(8,.pointer (some ⟨b8,0,none⟩)),(9,.pointer (some ⟨j.1.1,0,none⟩)),(10,.bool ca)],[cel j.1.1 32 [t.v,j.1.2.2.v],cel b8 42 (dG.re s1).cells,orow 9 1 (.slice B G.length dd) G.length (G.map encB),orow 42 12 (.slice A D.length c) D.length (D.map Xf.cells).flatten,cel b3 37 [t.v,ki.v,sc.v,.slice A D.length c,.slice B G.length dd,.slice none 0 0],cel b2 37 [.slice none 0 0,.slice none 0 0,.slice none 0 0,.slice none 0 0,.slice none 0 0,.slice none 0 0],cel b1 26 h.cells],fun w=>((((((X9 h W O Q w∧Ints w t srvL)∧Chains w sc C)∧Items w ki I)∧Xe w 11 sp (P.map Xd.cells))∧∀ d∈D,d.at_ w)∧(dG.re s1).at_ w)∧Items w j.1.2.2 (addK srvL I (ofDecI (dG.re j.1.2.1)))⟩) ?_ fun j=>?_
     · (refine ao ⟨[0,2],[(1,⟨[],[(3,⟨[],[(4,⟨[5,6,7],[(8,⟨[],[(9,⟨[10],[]⟩)]⟩)]⟩),(8,⟨[],[(4,⟨[5,6,7],[(9,⟨[10],[]⟩)]⟩)]⟩)]⟩),(8,⟨[],[(3,⟨[],[(4,⟨[5,6,7],[(9,⟨[10],[]⟩)]⟩)]⟩)]⟩)]⟩),(3,⟨[],[(1,⟨[],[(4,⟨[5,6,7],[(8,⟨[],[(9,⟨[10],[]⟩)]⟩)]⟩),(8,⟨[],[(4,⟨[5,6,7],[(9,⟨[10],[]⟩)]⟩)]⟩)]⟩),(8,⟨[],[(1,⟨[],[(4,⟨[5,6,7],[(9,⟨[10],[]⟩)]⟩)]⟩)]⟩)]⟩),(8,⟨[],[(1,⟨[],[(3,⟨[],[(4,⟨[5,6,7],[(9,⟨[10],[]⟩)]⟩)]⟩)]⟩),(3,⟨[],[(1,⟨[],[(4,⟨[5,6,7],[(9,⟨[10],[]⟩)]⟩)]⟩)]⟩)]⟩)]⟩ [cel b8 42 (dG.re s1).cells] (fun _=>True) (h:=?_))
       all_goals repeat' (first|((refine aT (hc:=hod) (hX:=fun w x=>x.2) fun v1 X1 h1=>?_;obtain ⟨s2,hs2,rfl,hw1⟩:=h1))|((refine aT (hc:=nL t ki hinv.knr (ofDecI (dG.re s2)) fC (hitf s2 (hs2.trans hs1))) (hX:=fun w x=>⟨⟨⟨x.1.1.1.1.1.1.2,x.1.1.1.1.2⟩,hw1 w x.2⟩,x.1.1.1.1.1.1.1.glob⟩) fun v3 X3 h3=>?_;obtain ⟨s3,rfl,hw3⟩:=h3;rw [hcaE s2 (hs2.trans hs1)]))|refine gdz ?_|refine aF ?_ (h':=?_)|exact aG|(refine aE (vs:=[t.v,ki.v]) (hv:=rfl) ?_)|refine gs1 fun _=>?_|(refine gq ?_ ?_<;>intro hx_ this)|fail)
       all_goals
        first
         | exact ⟨⟨(_,s2,s3),hs2.trans hs1⟩,ak an (al _) fun w x=>⟨x.1.1,hw3 w ⟨x.1.1.1.1.1.2,x.2⟩⟩⟩
     obtain ⟨⟨b9,s2,s3⟩,hs2⟩:=j
     simp only at hs2 ⊢
     cases ca with
     | false =>
      rw [cond_false] at hNx
      repeat' (first|refine gs ?_|refine gs1 fun _=>?_|(refine gp ?_ ?_<;>intro hx_ this)|fail)
      all_goals first
       | exact ⟨(⟨k+1,hlt,I,D,G,hNx.symm,hinv.more ac ac,by omega,hG,hGs,ki,A,_,rfl,c,_,rfl,B,_,rfl,dd,_,rfl⟩:HeO pst (heldI W) O),(by show O.length-(k+1)<O.length-k;omega),ak an (.cons _ (.cons _ (al _))) fun w x=>x.1.1⟩
     | true =>
      rw [cond_true] at hNx
      have hI2:(addK srvL I (ofDecI (dG.re s2))).map Xb.can=addK srvL (I.map Xb.can) (ofDecI dG):=by
       rw [lx (cf hinv) (hitf s2 hs2),hitc s2 hs2]
      have hT2:(⟨(addK srvL I (ofDecI (dG.re s2))).map Xb.can,(D++[dG.re s1]).map Xf.can,G++[digIt (ofDecI dG)]⟩:OrdT)=ordX srvL pst (heldI W) O (k+1):=by
       rw [hNx,hI2,List.map_append,List.map_cons,List.map_nil,gQ,hcan]
      have hinv2:Xy srvL (addK srvL I (ofDecI (dG.re s2))) (44+(k+1)) (k+1) :=
       hinv.add ac (it:=ofDecI (dG.re s2)) fC rx (hitf s2 hs2) (by show s2.n≤100;omega) (fun _=>hnum)
      have hdi:∀ s4:Xi,s4.n=dG.to.n→Pu Tryz.prog 22 #[(ofDecI (dG.re s4)).v] (fun w=>(ofDecI (dG.re s4)).at_ w∧Xg w) (.string (digIt (ofDecI dG))):=fun s4 h4=>by
       rw [←hdgE s4 h4]
       exact bw (ofDecI (dG.re s4)) fC (hitf s4 h4)
      have hdgs:=nz (ofDecI dG)
      generalize digIt (ofDecI dG)=dg at *
      repeat' (first|refine bH (size:=12) (vs:=[(dG.re s1).v]) (css:=(dG.re s1).cells) (hsz:=by rfl) (hcs:=by rfl) fun _=>?_|refine gs ?_|refine gs1 fun _=>?_|(refine aZ [t.v,s3.v,sc.v,.slice A D.length c,.slice B G.length dd,.slice none 0 0] (h:=?_))|(refine gp ?_ ?_<;>intro hx_ this)|fail)
      refine aH (size:=12) (news:=(dG.re s1).cells) (q:=1) rfl rfl rfl rfl (fun _=>At.there _ (At.there _ (At.there _ (At.there _ (At.here _))))) (fun w G=>bu G ay rfl rfl 1) ac (by simp only [maxLen];omega) rfl ?_ rfl ?_
      · (first|with_reducible rfl|with_reducible assumption|with_reducible exact Bool.not_false|with_reducible exact Bool.not_true)
      intro A3 c3
      repeat' (first|refine gs ?_|refine gs1 fun _=>?_|(refine gp ?_ ?_<;>intro hx_ this)|fail)
      (refine ao ⟨[0,2],[(1,⟨[],[(3,⟨[],[(4,⟨[],[(5,⟨[],[(6,⟨[7],[(8,⟨[],[]⟩)]⟩)]⟩)]⟩)]⟩)]⟩),(3,⟨[],[(1,⟨[],[(4,⟨[],[(5,⟨[],[(6,⟨[7],[(8,⟨[],[]⟩)]⟩)]⟩)]⟩)]⟩),(4,⟨[],[(1,⟨[],[(5,⟨[],[(6,⟨[7],[(8,⟨[],[]⟩)]⟩)]⟩)]⟩),(5,⟨[],[(1,⟨[],[(6,⟨[7],[(8,⟨[],[]⟩)]⟩)]⟩)]⟩)]⟩)]⟩)]⟩ [cel b8 42 (dG.re s1).cells] (fun _=>True) (h:=?_))
      all_goals repeat' (first|((refine aT (hc:=hod) (hX:=fun w x=>x.1.2) fun v4 X4 h4=>?_;obtain ⟨s4,hs4,rfl,hw4⟩:=h4))|(refine ag (hc:=hdi s4 (hs4.trans hs1)) (hX:=fun w x=>⟨hw4 w x.2,x.1.1.1.1.1.1.1.1.glob⟩) ?_)|refine gdz ?_|refine aF ?_ (h':=?_)|exact aG|refine bH (size:=1) (vs:=[.string dg]) (css:=[.string dg]) (hsz:=by rfl) (hcs:=by rfl) fun _=>?_|(refine fI ?_;refine aH (size:=1) (news:=[.string dg]) (q:=1) rfl rfl rfl rfl (fun _=>by (repeat (first|exact At.here _|apply At.there))) (fun w G=>bu G aC rfl rfl 1) ac (by simp only [maxLen];omega) rfl ?_ rfl ?_;(first|with_reducible rfl|with_reducible assumption|with_reducible exact Bool.not_false|with_reducible exact Bool.not_true);intro A4 c4)|refine gs1 fun _=>?_|(refine gq ?_ ?_<;>intro hx_ this)|fail)
      all_goals
       repeat' (first|refine gs ?_|refine gs1 fun _=>?_|(refine gp ?_ ?_<;>intro hx_ this)|fail)
       exact ⟨(⟨k+1,hlt,addK srvL I (ofDecI (dG.re s2)),D++[dG.re s1],G++[dg],hT2,hinv2,by rw [List.length_append];exact Nat.succ_le_succ hD,by rw [List.length_append,List.length_append,hG];rfl,(fun x hx=>by
         rcases List.mem_append.1 hx with hx|hx
         · exact hGs x hx
         · rw [List.mem_singleton] at hx
           subst hx
           omega),s3,A3,D.length+1,by rw [List.length_append];rfl,c3,(D.map Xf.cells).flatten++(dG.re s1).cells,by simp,A4,G.length+1,by rw [List.length_append];rfl,c4,G.map encB++[.string dg],by rw [List.map_append];rfl⟩:HeO pst (heldI W) O),(by show O.length-(k+1)<O.length-k;omega),ak an (by repeat (first|exact al _|with_reducible apply List.Sublist.cons_cons|apply List.Sublist.cons)) fun w x=>⟨⟨⟨x.1.1.1.1.1.1,x.1.2⟩,x.1.1.1.1.2⟩,fun d hd=>by
         rcases List.mem_append.1 hd with hd|hd
         · exact x.1.1.1.2 d hd
         · rw [List.mem_singleton] at hd
           subst hd
           exact x.1.1.2⟩⟩
   · have hke:k=O.length:=by omega
     subst hke
     have hT3:(⟨I,C,D,G,[]⟩:Xz).can=heldT pst W O:=by
      rw [heldT,heldO,←hT,←hC]
      rfl
     have hok0:CrtOk srvL ⟨I,C,D,G,[]⟩ (52+0) 8 (11+0):=⟨hinv.more ac ac,hC4,fun c hc=>⟨(hCb c hc).1,by have:=(hCb c hc).2;omega⟩,Nat.zero_le _,hG,by show D.length≤1000;omega⟩
     repeat' (first|refine aw ?_ (be false rfl rfl (decide_eq_false (show ¬ (O.length:Int)<(h.so.n:Nat) by omega)))|refine gs ?_|refine gs1 fun _=>?_|(refine gp ?_ ?_<;>intro hx_ this)|fail)
     refine iG (st':=⟨[(1,.pointer (some ⟨b1,0,none⟩)),(2,.pointer (some ⟨b2,0,none⟩)),(3,.pointer (some ⟨b3,0,none⟩)),(11,.int .i64 (0:Nat))],[orow 42 12 (.slice A D.length c) D.length (D.map Xf.cells).flatten,cel b3 37 [t.v,ki.v,sc.v,.slice A D.length c,.slice B G.length dd,.slice none 0 0],cel b2 37 [.slice none 0 0,.slice none 0 0,.slice none 0 0,.slice none 0 0,.slice none 0 0,.slice none 0 0],cel b1 26 h.cells],fun w=>(((((X9 h W O Q w∧Ints w t srvL)∧Chains w sc C)∧Items w ki I)∧Xe w 11 sp (P.map Xd.cells))∧∀ d∈D,d.at_ w)∧Strs w ⟨B,G.length,dd⟩ G⟩) (fm (r:=orow 9 1 (.slice B G.length dd) G.length (G.map encB)) ⟨rfl,rfl,rfl,rfl,trivial⟩ (al _) fun w x hr=>⟨x,dr hr rfl⟩) ?_
     refine iG (st':=⟨[(1,.pointer (some ⟨b1,0,none⟩)),(2,.pointer (some ⟨b2,0,none⟩)),(3,.pointer (some ⟨b3,0,none⟩)),(11,.int .i64 (0:Nat))],[cel b3 37 [t.v,ki.v,sc.v,.slice A D.length c,.slice B G.length dd,.slice none 0 0],cel b2 37 [.slice none 0 0,.slice none 0 0,.slice none 0 0,.slice none 0 0,.slice none 0 0,.slice none 0 0],cel b1 26 h.cells],fun w=>X9 h W O Q w∧X7 srvL ⟨t,ki,sc,⟨A,D.length,c⟩,⟨B,G.length,dd⟩,⟨none,0,0⟩⟩ ⟨I,C,D,G,[]⟩ w⟩) (fm (r:=orow 42 12 (.slice A D.length c) D.length (D.map Xf.cells).flatten) ⟨rfl,rfl,rfl,rfl,trivial⟩ (al _) fun w x hr=>⟨x.1.1.1.1.1.1,⟨x.1.1.1.1.1.2,x.1.1.1.2,x.1.1.1.1.2,⟨aM hr (by rw [List.length_map]) (dm _),x.1.2⟩,x.2,aN w 1,x.1.1.1.1.1.1.glob⟩⟩) ?_
     refine az (ι:=HeP (heldT pst W O) Q) (fun i=>⟨[(1,.pointer (some ⟨b1,0,none⟩)),(2,.pointer (some ⟨b2,0,none⟩)),(3,.pointer (some ⟨b3,0,none⟩)),(11,.int .i64 (i.k:Nat))],[cel b3 37 i.ch.cells,cel b2 37 [.slice none 0 0,.slice none 0 0,.slice none 0 0,.slice none 0 0,.slice none 0 0,.slice none 0 0],cel b1 26 h.cells],fun w=>X9 h W O Q w∧X7 srvL i.ch i.d w⟩) (fun i=>Q.length-i.k) ⟨0,Nat.zero_le _,⟨I,C,D,G,[]⟩,hT3,hok0,⟨t,ki,sc,⟨A,D.length,c⟩,⟨B,G.length,dd⟩,⟨none,0,0⟩⟩⟩ (ak an (al _) fun w x=>x) fun i=>?_
     obtain ⟨k,hk,d,hd,hokd,ch⟩:=i
     simp only
     by_cases hlt:k<Q.length
     · have hpp':=hpp ac
       obtain ⟨p,hp⟩:∃ p,Q[k]?=some p:=⟨_,List.getElem?_eq_getElem hlt⟩
       have hpl:=qe srvL ch d p (52+k) 8 (11+k) hokd ac ac
       have hdx:(Q.take (k+1)).foldl (pleadV srvL) (heldT pst W O)=pleadV srvL d.can p:=by
        rw [List.take_add_one,hp,Option.toList_some,List.foldl_append,←hd]
        rfl
       repeat' (first|refine aw ?_ (be true rfl rfl (decide_eq_true (show (k:Int)<(h.sp.n:Nat) by omega)))|refine gs ?_|refine gs1 fun _=>?_|(refine gp ?_ ?_<;>intro hx_ this)|fail)
       (refine ao ⟨[1,2,3,4,5],[(0,⟨[],[(6,⟨[],[(7,⟨[],[]⟩)]⟩)]⟩)]⟩ [cel b1 26 h.cells] (fun w=>X9 h W O Q w∧X7 srvL ch d w) (h:=?_))
       all_goals repeat' (first|((refine aT (hc:=hpl) (hX:=fun w x=>x.2) fun v1 X1 h1=>?_;obtain ⟨ch2,d2,rfl,⟨hd2,hok2⟩,hw2⟩:=h1))|refine gdz ?_|refine aJ (hsub:=by exact aP) (hy:=by first|(apply bk (q:=k*4);rfl;rfl;omega;omega;assumption;(first|rfl|omega))|(apply f7 (q:=k*4) (cs:=p.cells);rfl;exact fun w x=>Xe.row x.1.pl k p.cells (by simp [hp]))) ?_|refine aF ?_ (h':=?_)|exact aG|refine gs1 fun _=>?_|(refine gq ?_ ?_<;>intro hx_ this)|fail)
       all_goals
        repeat' (first|refine gs ?_|refine gs1 fun _=>?_|(refine gp ?_ ?_<;>intro hx_ this)|fail)
        first
         | exact ⟨(⟨k+1,hlt,d2,hd2.trans hdx.symm,hok2,ch2⟩:HeP (heldT pst W O) Q),(by show Q.length-(k+1)<Q.length-k;omega),ak an (al _) fun w x=>⟨x.1.1,hw2 w x.2⟩⟩
     · have hke:k=Q.length:=by omega
       subst hke
       rw [List.take_length] at hd
       repeat' (first|refine aw ?_ (be false rfl rfl (decide_eq_false (show ¬ (Q.length:Int)<(h.sp.n:Nat) by omega)))|refine gs ?_|refine gs1 fun _=>?_|(refine gp ?_ ?_<;>intro hx_ this)|fail)
       all_goals first
        | exact ae (aI rfl rfl aC (by rfl)) ⟨ch,d,pst,rfl,⟨hd,hokd.more ac (Nat.le_refl _) ac⟩,fun w x=>x.1.2⟩
end Go.Proofs.YtgffbiobmamobaaGreatDoor
