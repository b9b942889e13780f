/- Joined. -/
import Derived.Test.YtgffbiobmamobaaGreatDoorI0
import Derived.Test.YtgffbiobmamobaaGreatDoorI1
import Derived.Test.YtgffbiobmamobaaGreatDoorI26
import Derived.Test.YtgffbiobmamobaaGreatDoorI28
set_option linter.unusedVariables false
set_option linter.unusedSimpArgs false
set_option maxHeartbeats 16000000
namespace Go.Proofs.YtgffbiobmamobaaGreatDoor
open Go Go.Proofs Sy
theorem qL (c:Xa) (w:Xo) (ks:List ByteArray):draftGV c.can w ks=draftGV c w ks:=rfl
theorem lg (c:Xa) (w:Xo) (ks:List ByteArray) (hn:c.acts.n≤9223372036854775807) (hd:w.do_<9223372036854775808) (ht:w.time<9223372036854775808):(draftGV c w ks).Rng:=by
 have z:(0:Int)<9223372036854775808:=by decide
 have hn':((c.acts.n:Nat):Int)<9223372036854775808:=by omega
 exact ⟨⟨hn',hd,ht,z,z,z,z,z,z⟩,fun w hw=>(List.not_mem_nil hw).elim,rfl,rfl⟩
theorem mo (c:Xa) (w:Xo) (ks:List ByteArray):(draftGV c w ks).Sm:=by
 refine ⟨by show 0*16≤_;omega,by show 0*64≤_;omega,?_⟩
 show (tgtG w).size≤maxLen
 rw [tgtG]
 cases decide (7≤w.do_)&&decide (w.do_≤11) with
 | true=>exact qu _
 | false=>exact (show 0≤maxLen by decide)
theorem um (c:Xa) (w:Xo) (ks:List ByteArray) (v:World):(draftGV c w ks).at_ v:=⟨aN v 1,aN v 5⟩
def goldA (cs:List Xa) (ks:List ByteArray) (w:Xo):Xc :=
 actSignV (keyA (pickV w.by_ (4:Nat)).toNat) (draftGV (cs.getD (pickV w.by_ (4:Nat)).toNat Xa.zero) w ks)
def goldB (cs:List Xa) (ks:List ByteArray) (w:Xo):Bool :=
 fitsV (cs.getD (pickV w.by_ (4:Nat)).toNat Xa.zero) (goldA cs ks w) (idxV (cs.getD (pickV w.by_ (4:Nat)).toNat Xa.zero).actsL (goldA cs ks w).object)
def goldS (st:List Xa×List ByteArray) (w:Xo):List Xa×List ByteArray :=
 bif goldB st.1 st.2 w then (st.1.set (pickV w.by_ (4:Nat)).toNat (moreV (st.1.getD (pickV w.by_ (4:Nat)).toNat Xa.zero) (goldA st.1 st.2 w)),st.2++[digV (goldA st.1 st.2 w)]) else st
def goldV (l:List Xo):List Xa×List ByteArray:=l.foldl goldS ((List.range 4).map beginC,[])
def goldN (l:List Xo) (n:Nat):List Xa×List ByteArray:=goldV (l.take n)
theorem kV (l:List Xo) {n:Nat} {x:Xo} (h:l[n]?=some x):goldN l (n+1)=goldS (goldN l n) x:=by
 rw [goldN,goldN,goldV,goldV,List.take_add_one,h,Option.toList_some,List.foldl_append]
 rfl
structure GoldI (l:List Xo) where
 k:Nat
 hk:k≤l.length
 L:List Xa
 ks:List ByteArray
 hT:(L.map Xa.can,ks)=goldN l k
 hl:L.length=4
 hkl:ks.length≤k
 hb:∀ c∈L,Xx c.actsL∧c.actsL.length≤k+1
 xs:List Value
 hxs:xs=(L.map Xa.cells).flatten
 n:Nat
 hn:n=ks.length
 ys:List Value
 hys:ys=ks.map encB
 A:Option Addr
 c:Nat
 B:Option Addr
 d:Nat
set_option maxRecDepth 20000 in
theorem yY (s:Xi) (l:List Xo) (hlen:l.length≤1000) (htm:∀ x∈l,x.do_<9223372036854775808∧x.time<9223372036854775808):Mk Tryz.prog 16 #[s.v] (fun w=>Wishes w s l∧Xg w)
  (fun u X'=>∃ (L:List Xa) (s1:Xi),L.map Xa.can=(goldV l).1∧(∀ c∈L,Xx c.actsL∧c.actsL.length≤l.length+1)∧u=s1.v∧∀ w,X' w→Chains w s1 L):=by
 refine bS Tryz.func16 Tryz.ntmps16 fun av bor w0=>?_
 refine aD (p:=s.n=l.length∧s.n≤maxLen∧(0<l.length→s.p.isSome=true)) (fun w h=>⟨by simpa using Xe.len h.1,Nat.le_trans (Xe.cap h.1) (Xe.max h.1),fun h0=>(Xe.row h.1 0 (l[0]).cells (by simp [h0])).2.1⟩) fun ⟨hsl,hsm,hp⟩=>?_
 refine bQ 9 1 ?_
 repeat' (first|refine gs ?_|refine gs1 fun _=>?_|fail)
 refine vw (hc:=xL) (hX:=fun w h=>h.2) ?_
 rintro _ _ X1 ⟨L0,A0,c0,hL0,hb0,rfl,rfl,hX0⟩
 repeat' (first|refine gs ?_|refine gs1 fun _=>?_|fail)
 refine az (ι:=GoldI l) (fun i=>⟨[(0,s.v),(3,.slice i.A 4 i.c),(4,.slice i.B i.n i.d),(5,.int .i64 (i.k:Nat))],[orow 65 6 (.slice i.A 4 i.c) 4 i.xs,orow 9 1 (.slice i.B i.n i.d) i.n i.ys],fun w=>(Wishes w s l∧Xg w)∧∀ c∈i.L,c.at_ w⟩) (fun i=>l.length-i.k)
  ⟨0,Nat.zero_le _,L0,[],by rw [hL0];rfl,by have:=congrArg List.length hL0;simpa using this,Nat.le_refl _,(fun c hc=>hb0 c hc),_,rfl,0,rfl,[],rfl,A0,c0,none,0⟩ (ak an (al _) fun w h=>⟨h.1,(hX0 w h.2).2⟩) fun i=>?_
 obtain ⟨k,hk,L,ks,hT,hl4,hkl,hbL,xs,hxs,n,hn,ys,hys,A,c,B,d⟩:=i
 simp only
 subst hxs hn hys
 refine cY (r:=orow 65 6 (.slice A 4 c) 4 (L.map Xa.cells).flatten) ay (fun w h=>cG h (by decide)) fun hA=>?_
 repeat' (first|refine gs ?_|refine gs1 fun _=>?_|(refine gp ?_ ?_<;>intro hx_ this)|fail)
 · have hlt:k<l.length:=by omega
   have hp':=hp ac
   obtain ⟨x,hx⟩:∃ x,l[k]?=some x:=⟨_,List.getElem?_eq_getElem hlt⟩
   obtain ⟨p,hp4,hpv⟩:=aK x.by_ 4 (by decide)
   have hpk:=aV x.by_ 4 (by decide) (by decide)
   rw [hpv] at hpk
   obtain ⟨cd,hcd⟩:∃ cd,L[p]?=some cd:=⟨_,List.getElem?_eq_getElem ac⟩
   have hky:=nd p ac
   have hxr:=htm x (List.mem_of_getElem? hx)
   have hgd:(L.map Xa.can).getD (pickV x.by_ (4:Nat)).toNat Xa.zero=cd.can:=by
    rw [hpv,Int.toNat_natCast,List.getD_eq_getElem?_getD,List.getElem?_map,hcd]
    rfl
   have hTA:goldA (L.map Xa.can) ks x=actSignV (keyA p) (draftGV cd x ks):=by
    rw [goldA,hgd,qL,hpv,Int.toNat_natCast]
   have hTB:∀ {v:Bool},fitsV cd (actSignV (keyA p) (draftGV cd x ks)) (idxV cd.actsL (actSignV (keyA p) (draftGV cd x ks)).object)=v→goldB (L.map Xa.can) ks x=v:=fun {v} h=>by
    rw [goldB,hgd,hTA,md]
    show fitsV cd _ (idxV (cd.actsL.map Xc.can) _)=v
    rw [oJ]
    exact h
   have hdr:=ui cd x ⟨B,ks.length,d⟩ ks
   repeat' (first|(refine ag (hc:=hpk) ?_)|refine gs ?_|refine gs1 fun _=>?_|(refine aA (q:=k*6) ?_)|(refine dQ ?_)|(refine bE (q:=k*6) (u:=.int .i64 x.by_) (hF:=fun w h=>(Xe.row h.1.1 k x.cells (by simp [hx])).2.2 0 _ rfl) ?_)|(refine gp ?_ ?_<;>intro hx_ this)|fail)
   have hcm:=List.mem_of_getElem? hcd
   refine aD (p:=cd.acts.n≤maxLen) (fun w h=>Acts.max_ (h.2 cd hcm)) fun hcn=>?_
   simp only [maxLen] at hcn
   have hdo:=hxr.1
   have hsg:=ii (keyA p) (draftGV cd x ks) (lg cd x ks ac hdo hxr.2) (mo cd x ks)
   have hat:=um cd x ks
   have hsr:(actSignV (keyA p) (draftGV cd x ks)).Rng:=kz (lg cd x ks ac hdo hxr.2)
   have hss:(actSignV (keyA p) (draftGV cd x ks)).Sm:=mM (mo cd x ks)
   generalize draftGV cd x ks=dw at *
   refine ej (ι:={ j:Nat×Xi×Xi // j.2.1.n=(actSignV (keyA p) dw).to.n∧j.2.2.n=(actSignV (keyA p) dw).wraps.n }) (fun j=>⟨[(0,s.v),(3,.slice A 4 c),(4,.slice B ks.length d),(5,.int .i64 (k:Nat)),(6,.int .i64 (p:Nat)),(7,.pointer (some ⟨j.1.1,0,none⟩))],[cel j.1.1 72 ((actSignV (keyA p) dw).re j.1.2.1 j.1.2.2).cells,orow 65 6 (.slice A 4 c) 4 (L.map Xa.cells).flatten,orow 9 1 (.slice B ks.length d) ks.length (ks.map encB)],fun w=>((Wishes w s l∧Xg w)∧∀ c∈L,c.at_ w)∧((actSignV (keyA p) dw).re j.1.2.1 j.1.2.2).at_ w⟩) ?_ fun j=>?_
   · (refine ao ⟨[0,2,3,4,5,6,7,8,9,10],[(1,⟨[],[(11,⟨[],[(12,⟨[],[(13,⟨[],[(14,⟨[],[]⟩)]⟩)]⟩),(13,⟨[],[(12,⟨[],[(14,⟨[],[]⟩)]⟩)]⟩)]⟩),(13,⟨[],[(11,⟨[],[(12,⟨[],[(14,⟨[],[]⟩)]⟩)]⟩)]⟩)]⟩),(13,⟨[],[(1,⟨[],[(11,⟨[],[(12,⟨[],[(14,⟨[],[]⟩)]⟩)]⟩)]⟩)]⟩)]⟩ [orow 65 6 (.slice A 4 c) 4 (L.map Xa.cells).flatten,orow 9 1 (.slice B ks.length d) ks.length (ks.map encB)] (fun w=>(Wishes w s l∧Xg w)∧∀ c∈L,c.at_ w) (h:=?_))
     all_goals repeat' (first|(refine ag (hc:=hky) (hX:=fun _ h=>h.1.2) ?_)|(refine kn (hc:=hdr) (hX:=fun w h hr=>⟨dr (hr (orow 9 1 (.slice B ks.length d) ks.length (ks.map encB)) aC) rfl,h.1.2⟩) ?_)|((refine aT (hc:=hsg) (hX:=fun w h=>⟨hat w,h.1.2⟩) fun v2 X2 h2=>?_;obtain ⟨s1,s2,rfl,e1,e2,hat2⟩:=h2))|refine gdz ?_|refine aJ (hsub:=by exact aP) (hy:=by first|(apply bk (q:=p*6);rfl;rfl;omega;omega;assumption;(first|rfl|omega))|(apply bk (q:=k*6);rfl;rfl;omega;omega;assumption;(first|rfl|omega))|(apply eP (xs:=L.map Xa.cells) (cs:=cd.cells) (i:=p);rfl;exact ay;(simp [hl4]);exact cells6 L;(simp [hcd]))|(apply f7 (q:=k*6) (cs:=x.cells);rfl;exact fun w h=>Xe.row h.1.1 k x.cells (by simp [hx]))) ?_|refine aF ?_ (h':=?_)|exact aG|refine gs1 fun _=>?_|(refine gq ?_ ?_<;>intro hx_ this)|fail)
     all_goals exact ⟨⟨(_,s1,s2),e1,e2⟩,ak an (al _) fun w h=>⟨h.1,hat2 w h.2⟩⟩
   obtain ⟨⟨b,s1,s2⟩,e1,e2⟩:=j
   simp only at e1 e2 ⊢
   have hfi:=mu cd (hbL cd hcm).1 ((actSignV (keyA p) dw).re s1 s2)
   rw [oP cd (actSignV (keyA p) dw) _ e1 e2,show ((actSignV (keyA p) dw).re s1 s2).object=(actSignV (keyA p) dw).object from rfl] at hfi
   generalize hAv:(actSignV (keyA p) dw).re s1 s2=a at *
   cases hF:fitsV cd (actSignV (keyA p) dw) (idxV cd.actsL (actSignV (keyA p) dw).object) with
   | false =>
    rw [hF] at hfi
    apply cw_seq
    (refine ao ⟨[0,1,2,3,4],[(5,⟨[],[]⟩)]⟩ [cel b 72 a.cells,orow 65 6 (.slice A 4 c) 4 (L.map Xa.cells).flatten,orow 9 1 (.slice B ks.length d) ks.length (ks.map encB)] (fun w=>((Wishes w s l∧Xg w)∧∀ c∈L,c.at_ w)∧a.at_ w) (h:=?_))
    all_goals repeat' (first|(refine ag (hc:=hfi) (hX:=fun w h=>⟨⟨h.1.2 cd hcm,h.1.1.2⟩,h.2⟩) ?_)|refine gdz ?_|refine aJ (hsub:=by exact aP) (hy:=by first|(apply bk (q:=p*6);rfl;rfl;omega;omega;assumption;(first|rfl|omega))|(apply eP (xs:=L.map Xa.cells) (cs:=cd.cells) (i:=p);rfl;exact List.mem_cons_of_mem _ ay;(simp [hl4]);exact cells6 L;(simp [hcd]))) ?_|refine aF ?_ (h':=?_)|exact aG|refine gs1 fun _=>?_|(refine gq ?_ ?_<;>intro hx_ this)|fail)
    all_goals
     repeat' (first|refine gs ?_|refine gs1 fun _=>?_|(refine gp ?_ ?_<;>intro hx_ this)|fail)
     exact ⟨(⟨k+1,hlt,L,ks,by rw [kV l hx,←hT,goldS,hTB hF];rfl,hl4,Nat.le_succ_of_le hkl,(fun c hc=>⟨(hbL c hc).1,Nat.le_succ_of_le (hbL c hc).2⟩),_,rfl,_,rfl,_,rfl,A,c,B,d⟩:GoldI l),(by show l.length-(k+1)<l.length-k;omega),ak an (List.Sublist.cons _ (al _)) fun w h=>h.1⟩
   | true =>
    rw [hF] at hfi
    have hra:a.Rng:=by rw [←hAv];exact qb hsr e1 e2
    have hsa:a.Sm:=by rw [←hAv];exact vD hss e1 e2
    have hlo:=l8 cd a hra hsa (by have:=(hbL cd hcm).2;omega)
    have hdi:=fq a hra hsa
    have hda:digV a=digV (actSignV (keyA p) dw):=by rw [←hAv];exact g9 e1 e2
    have hN:∀ s3:Xi,s3.n=cd.acts.n+1→((L.set p (cd.more s3 a)).map Xa.can,ks++[digV a])=goldN l (k+1):=fun s3 h3=>by
     rw [kV l hx,←hT,goldS]
     simp only
     rw [hTB hF,cond_true,hgd,hTA,hpv,Int.toNat_natCast,rz,oA hAv e1 e2 h3,hda]
     rfl
    have hBn:∀ s3:Xi,∀ c∈L.set p (cd.more s3 a),Xx c.actsL∧c.actsL.length≤k+1+1:=fun s3 c hc=>by
     rcases List.mem_or_eq_of_mem_set hc with hc|rfl
     · exact ⟨(hbL c hc).1,Nat.le_succ_of_le (hbL c hc).2⟩
     · have hb1:=hbL cd hcm
       refine ⟨⟨fun y hy=>?_,fun y hy=>?_⟩,?_⟩
       · rcases List.mem_append.1 hy with hy|hy
         · exact hb1.1.rng y hy
         · rw [List.mem_singleton] at hy
           subst hy
           exact hra
       · rcases List.mem_append.1 hy with hy|hy
         · exact hb1.1.sm y hy
         · rw [List.mem_singleton] at hy
           subst hy
           exact hsa
       · show (cd.actsL++[a]).length≤_
         rw [List.length_append]
         have:=hb1.2
         simp only [List.length_cons,List.length_nil]
         omega
    apply cw_seq
    (refine ao ⟨[0,1,2,3,4],[(5,⟨[],[]⟩)]⟩ [cel b 72 a.cells,orow 65 6 (.slice A 4 c) 4 (L.map Xa.cells).flatten,orow 9 1 (.slice B ks.length d) ks.length (ks.map encB)] (fun w=>((Wishes w s l∧Xg w)∧∀ c∈L,c.at_ w)∧a.at_ w) (h:=?_))
    all_goals repeat' (first|(refine ag (hc:=hfi) (hX:=fun w h=>⟨⟨h.1.2 cd hcm,h.1.1.2⟩,h.2⟩) ?_)|refine gdz ?_|refine aJ (hsub:=by exact aP) (hy:=by first|(apply bk (q:=p*6);rfl;rfl;omega;omega;assumption;(first|rfl|omega))|(apply eP (xs:=L.map Xa.cells) (cs:=cd.cells) (i:=p);rfl;exact List.mem_cons_of_mem _ ay;(simp [hl4]);exact cells6 L;(simp [hcd]))) ?_|refine aF ?_ (h':=?_)|exact aG|refine gs1 fun _=>?_|(refine gq ?_ ?_<;>intro hx_ this)|fail)
    all_goals
     repeat' (first|refine gs ?_|refine gs1 fun _=>?_|(refine gp ?_ ?_<;>intro hx_ this)|fail)
     (refine ao ⟨[0,1,2,3,4],[(5,⟨[],[(6,⟨[],[(7,⟨[8],[(9,⟨[],[]⟩)]⟩)]⟩)]⟩),(6,⟨[],[(5,⟨[],[(7,⟨[8],[(9,⟨[],[]⟩)]⟩)]⟩)]⟩)]⟩ [] (fun _=>True) (h:=?_))
     all_goals repeat' (first|((refine aT (hc:=hlo) (hX:=fun w h=>⟨⟨h.1.2 cd hcm,h.2⟩,h.1.1.2⟩) fun v3 X3 h3=>?_;obtain ⟨s3,rfl,e3,hat3⟩:=h3))|refine gd ?_|refine aJ (hy:=by first|(apply bk (q:=p*6);rfl;rfl;omega;omega;assumption;(first|rfl|omega))) ?_|refine aF ?_ (h':=?_)|exact aG|(refine am (eP (xs:=L.map Xa.cells) (cs:=cd.cells) (i:=p) rfl aC (by simp [hl4]) (cells6 L) (by simp [hcd])) rfl rfl rfl ?_)|(refine mL (i:=p) (size:=6) (vs:=(cd.more s3 a).cells) ai rfl rfl rfl rfl rfl ac rfl (by (repeat (first|exact At.here _|apply At.there))) rfl ax rfl ?_)|refine gs1 fun _=>?_|(refine gq ?_ ?_<;>intro hx_ this)|fail)
     all_goals
      repeat' (first|(refine ag (hc:=hdi) (hX:=fun w h=>⟨h.1.2,h.1.1.1.2⟩) ?_)|refine gs ?_|refine gs1 fun _=>?_|(refine bG (len:=1) (vs:=[.string (digV a)]) fun _=>?_)|(refine gp ?_ ?_<;>intro hx_ this)|fail)
      refine aH (size:=1) (news:=[encB (digV a)]) (q:=1) rfl rfl rfl rfl (fun _=>At.there _ (At.there _ (At.there _ (At.here _)))) (fun w G=>bu G ay rfl rfl 1) ac (by simp only [maxLen];omega) rfl ?_ rfl ?_
      · (first|with_reducible rfl|with_reducible assumption|with_reducible exact Bool.not_false|with_reducible exact Bool.not_true)
      intro A2 c2
      repeat' (first|refine gs ?_|refine gs1 fun _=>?_|(refine gp ?_ ?_<;>intro hx_ this)|fail)
      exact ⟨(⟨k+1,hlt,L.set p (cd.more s3 a),ks++[digV a],hN s3 e3,by rw [List.length_set];exact hl4,by rw [List.length_append];exact Nat.succ_le_succ hkl,hBn s3,_,gy L p _ ac,ks.length+1,by rw [List.length_append];rfl,ks.map encB++[encB (digV a)],by rw [List.map_append];rfl,A,c,A2,c2⟩:GoldI l),(by show l.length-(k+1)<l.length-k;omega),ak an (List.Sublist.cons _ (List.Sublist.cons _ (al _))) fun w h=>⟨h.1.1.1,fun c hc=>(List.mem_or_eq_of_mem_set hc).elim (h.1.1.2 c) (fun e=>e▸hat3 w h.2)⟩⟩
 · have hkE:k=l.length:=by omega
   subst hkE
   exact ae (aj rfl rfl) ⟨L,⟨A,4,c⟩,by have h:=congrArg Prod.fst hT;rw [goldN,List.take_length] at h;exact h,hbL,rfl,fun w h=>⟨aM (h.2 (orow 65 6 (.slice A 4 c) 4 (L.map Xa.cells).flatten) (.head _)) (by simp [hl4]) (cells6 L),h.1.2⟩⟩
end Go.Proofs.YtgffbiobmamobaaGreatDoor
