/- Joined. -/
import Derived.Test.YtaolfiikahlmkaaGreatDoorZ14
import Derived.Test.YtaolfiikahlmkaaGreatDoorCards
import Derived.Test.YtaolfiikahlmkaaGreatDoorTie
import Derived.WalkKit
import Derived.ProofKit
import Derived.Deep.DeepHandedRow
import Derived.Lib.LaidTab
set_option linter.unusedVariables false
set_option linter.unusedSimpArgs false
set_option maxHeartbeats 16000000
namespace Go.Proofs.YtaolfiikahlmkaaGreatDoor
open Go Go.Proofs Sy
theorem ux {k:KyD} {c:ChainD} {x:ActD} (hx:x.Rng) (hc:c.acts.n≤1000):(sgA k c x).Rng :=
 Bj ⟨⟨by show (c.acts.n:Int)<_;omega,hx.ints.2.1,by show (1:Int)<_;decide,hx.ints.2.2.2⟩,hx.wints,hx.to_len,hx.wraps_len⟩
theorem AZ {k:KyD} {c:ChainD} {x:ActD} (hs:x.Sm):(sgA k c x).Sm:=DG ⟨hs.to,hs.wraps,hs.target⟩
theorem tO (L:List Int) (I:List ItemD) (it:ItemD):(addK L I it).length≤I.length+1:=by
 rw [addK]
 cases canAdd L I it with
 | false=>exact Nat.le_succ _
 | true =>
  have:=(lg digIt it I).length_eq
  rw [ZB] at this
  exact Nat.le_of_eq this
theorem nk {L:List Int} {I:List ItemD} (h:KnR L I) {au:ByteArray} {c n:ChainD} {kl kl':List KeyD} (q:QK L I au c kl) (h0:0<c.actsL.length) (hcn:c.acts.n=c.actsL.length) (hnn:n.acts.n=n.actsL.length) {k:KyD} {x:ActD} {s3 s4:SlV}
  (e3:s3.n=(sgA k c x).to.n) (e4:s4.n=(sgA k c x).wraps.n) (q':QK L (addK L I (ofActI ((sgA k c x).re s3 s4))) c.id n kl') (hl:(n.acts.n:Int)=(c.acts.n:Int)+1) :
  SignD L I c n k { x with time:=1 } (sgA k c x)∧QK L (addK L I (ofActI ((sgA k c x).re s3 s4))) au n kl':=by
 rw [g8 q] at q'
 exact ⟨(up h q h0 hcn e3 e4 q' aa).1,q'⟩
theorem SignD.kind {L:List Int} {I:List ItemD} {c n:ChainD} {k:KyD} {x b:ActD} (h:SignD L I c n k x b):b.kind=x.kind:=by rw [h.sig];rfl
theorem SignD.target {L:List Int} {I:List ItemD} {c n:ChainD} {k:KyD} {x b:ActD} (h:SignD L I c n k x b):b.target=x.target:=by rw [h.sig];rfl
end Go.Proofs.YtaolfiikahlmkaaGreatDoor
namespace Go.Proofs.YtaolfiikahlmkaaGreatDoor
open Go Go.Proofs Sy
section
variable {P:Program} {N:Nat} {av bor:List Nat} {w0:World}
theorem Cy {K:Exit→St→Prop} {ι:Type} (M:ι→St) {x y z:Code} {st:St} (h1:Cw P N av bor w0 x st (thn (fun s=>Cw P N av bor w0 y s (thn (fun s=>∃ i,∀ a w,Ok N av bor w0 s a w→Ok N av bor w0 (M i) a w) K)) (thn (fun s=>∃ i,∀ a w,Ok N av bor w0 s a w→Ok N av bor w0 (M i) a w) K))) (h2:∀ i,Cw P N av bor w0 z (M i) K) :
  Cw P N av bor w0 x st (thn (fun s=>Cw P N av bor w0 y s (thn (fun s=>Cw P N av bor w0 z s K) K)) (thn (fun s=>Cw P N av bor w0 z s K) K)):=qS (fun e s h=>by
 cases e with
 | normal=>exact fX M h h2
 | _=>exact h) h1
end
end Go.Proofs.YtaolfiikahlmkaaGreatDoor
namespace Go.Proofs.YtaolfiikahlmkaaGreatDoor
open Go Go.Proofs Sy
theorem A6 {a:ActD} (hr:a.Rng) (h:rightB a=true) (ht:a.target.size≤maxLen):a.Sm:=by
 simp only [rightB,Zp] at h
 have hB:=iM hr h.2
 have h1:=hB.to.len
 have h2:=hB.wraps.len
 have h3:=hr.to_len
 have h4:=hr.wraps_len
 exact ⟨by omega,by omega,ht⟩
theorem zm {a:ActD} (h:actZ a=true):a.to.n=0∧a.wraps.n=0:=by
 simp only [actZ,Zp,Zw] at h
 omega
theorem DH {i:ItemD} (hs:i.Str) (h:rightIt i=true):i.act.Sm:=by
 rw [rightIt,Zp] at h
 obtain ⟨h1,h2⟩:=h
 have ht:=hs.act.target
 by_cases h0:i.kind=0
 · rw [rightK2,Zd h0,Zf] at h1
   exact A6 hs.rng h1 ht
 · have hz:actZ i.act=true:=by
    rw [rightK2,Zc h0,Ze] at h1
    rw [restI,Zc h0,Ze] at h2
    by_cases k1:i.kind=1
    · rw [Zd k1,Zf,sameIZ,Zp,Zp] at h2
      exact h2.2.1
    · rw [Zc k1,Ze] at h1 h2
      by_cases k2:i.kind=2
      · rw [Zd k2,Zf,sameIZ,Zp,Zp] at h2
        exact h2.2.1
      · rw [Zc k2,Ze] at h1 h2
        by_cases k3:i.kind=3
        · rw [Zd k3,Zf,sameIZ,Zp,Zp] at h2
          exact h2.2.1
        · rw [Zc k3,Ze] at h1
          cases h1
   obtain ⟨e1,e2⟩:=zm hz
   exact ⟨by omega,by omega,ht⟩
theorem pG {L:List Int} {I:List ItemD} (h:rightKn L I=true) (hl:I.length≤100) (hs:∀ i∈I,i.Str) (hd:∀ i∈I,i.dec.to.n=i.dec.toL.length):KnR L I :=
 Gg h hl (fun i hi=>(hs i hi).rng) (fun i hi=>DH (hs i hi) (by
  have h1:=iq h i hi
  rw [signedIt,Zp] at h1
  exact h1.1)) hd
def chM (so:SlV) (lo:List ActD):ChainD:=⟨⟨#[]⟩,so,⟨none,0,0⟩,⟨#[]⟩,0,false,lo⟩
def blkZ (t:ByteArray):ActD:={ ActD.zero with kind:=10,target:=t }
theorem wK (w:World) (d:ByteArray):(blkZ d).at_ w:=⟨aY w 1,aY w 5⟩
theorem dJ (d:ByteArray):(blkZ d).Rng:=⟨by simp only [blkZ,ActD.zero];omega,fun w hw=>(Qk hw).elim,rfl,rfl⟩
theorem wJ {d:ByteArray} (h:d.size≤maxLen):(blkZ d).Sm:=⟨by show 0*16≤_;decide,by show 0*64≤_;decide,h⟩
theorem np {c:ChainD} (h:shortV c=true) {a:ActD} (ha:a∈c.actsL):a.to.n≤8:=by
 simp only [shortV,Zp,Zw] at h
 obtain ⟨k,hk⟩:=QO.1 ha
 have h2:=allBk h.2 (QJ.1 hk).1
 simp only [shortBad,Zo,hk,Qe,Ql,Qd] at h2
 omega
theorem qJ {c d:ChainD} {b:ActD} (h:More c d b) (hc:∀ x∈c.actsL,x.toL.length≤8) (hb:b.toL.length≤8):∀ x∈d.actsL,x.toL.length≤8:=fun x hx=>by
 have h1:x.can∈c.actsL.map ActD.can++[b.can]:=by rw [←h.acts];exact List.mem_map_of_mem hx
 rcases Qy.1 h1 with h2|h2
 · obtain ⟨y,hy,e⟩:=QI.1 h2
   have e2:y.toL=x.toL:=(congrArg ActD.toL e :)
   rw [←e2]
   exact hc y hy
 · have e2:x.toL=b.toL:=(congrArg ActD.toL (Z5.1 h2) :)
   rw [e2]
   exact hb
theorem tv {L:List Int} {I:List ItemD} (h:KnR L I) {au:ByteArray} {c n:ChainD} {kl kl':List KeyD} (q:QK L I au c kl) {k:KyD} {x:ActD} (hx:x.kind≠0) {s3 s4:SlV}
  (e3:s3.n=(sgA k c x).to.n) (e4:s4.n=(sgA k c x).wraps.n) (q':QK L (addK L I (ofActI ((sgA k c x).re s3 s4))) au n kl') (hl:n.actsL.length=c.actsL.length+1):0<c.actsL.length:=by
 rcases Nat.eq_zero_or_pos c.actsL.length with h0|h0
 · cases ha:canAdd L I (ofActI ((sgA k c x).re s3 s4)) with
   | false =>
    rw [addK,ha] at q'
    have:=congrArg List.length (Bq rfl (Qn _) q q').1.acts
    simp at this
    omega
   | true =>
    obtain ⟨g1,g2,g3,g4⟩:=pW (x:={ x with time:=1 }) q e3 e4 ha
    have h1:=Bp (it:=ofActI ((sgA k c x).re s3 s4)) rfl (show (sgA k c x).kind≠0 by rw [sgA,g3];exact hx) q (List.length_eq_zero_iff.1 h0) q'
    rw [h1] at hl
    simp at hl
 · exact h0
structure BlkI (d:ChainD) (n:Nat) where
 k:Nat
 hk:k≤n
 S:SlV
 M:List ActD
 Lx:List ActD
 hL:Lx=d.actsL++M
 hS:S.n=Lx.length
 hM:M.length≤k
 h6:∀ a∈M,a.kind≠6
 ok:∀ a∈M,a.Rng∧a.Sm∧a.to.n≤8
structure BlkR where
 A:Option Addr
 c:Nat
set_option maxRecDepth 20000 in
theorem nF (ks ki:SlV) (L:List Int) (I:List ItemD) (hs:∀ i∈I,i.Str) (hd:∀ i∈I,i.dec.to.n=i.dec.toL.length) (id:ByteArray) (k:KyD) (r:ByteArray) (hrs:r.size≤maxLen) (sm:SlV) (MO:List ActD) (hmr:∀ a∈MO,a.Rng) (hmt:∀ a∈MO,a.target.size≤maxLen) :
  Pu Tryz.prog 6 #[.agg #[ks.v,ki.v],.string id,k.v,.string r,sm.v] (fun w=>((Ints w ks L∧Items w ki I)∧Glob w)∧Acts w sm MO) (.bool true):=by
 have hrt:=jQ ks ki L I hs hd
 have hsh2:=nq (chM sm MO)
 refine ak (args:=[_,_,_,_,_]) _ Tryz.func6 rfl Tryz.ntmps6 rfl fun av bor w0=>?_
 refine aM (p:=ki.n=I.length∧sm.n=MO.length∧sm.n≤maxLen∧(0<MO.length→sm.p.isSome=true)) (fun w h=>⟨h.1.1.2.len_,by have:=RowsD.len h.2.1;simpa using this,ZY (RowsD.cap h.2.1) (RowsD.max h.2.1),fun h0=>(RowsD.row h.2.1 0 MO[0].cells (by simp [Zb h0])).2.1⟩) fun ⟨hkin,hsmn,hsmx,hsmp⟩=>?_
 simp only [maxLen] at hsmx
 obtain ⟨SB,hSB⟩:∃ x,shortV (chM sm MO)=x:=⟨_,rfl⟩
 obtain ⟨RB,hRB⟩:∃ x,rightKn L I=x:=⟨_,rfl⟩
 rw [hSB] at hsh2
 rw [hRB] at hrt
 by_cases hall:¬ (¬ 30<(ki.n:Int)∧SB=true∧RB=true)
 · by_cases hbig:30<(ki.n:Int)<;>cases SB<;>cases RB
   all_goals first
    | (refine absurd ⟨?_,?_,?_⟩ hall<;>first|assumption|rfl|fail)
    | (repeat' (first|refine eY (hab:=by omega) ?_|refine fP (hab:=by omega) ?_|(refine ab (hc:=nj) (hX:=fun w h=>h.1.2) ?_)|(refine ab (hc:=hsh2) (hX:=fun w h=>⟨h.2,h.1.2⟩) ?_)|(refine ab (hc:=hrt) (hX:=fun w h=>h.1.1) ?_)|refine gs ?_|refine gs1 fun _=>?_|(refine aF (cs:=(chM sm MO).cells) (hf:=by rfl) ?_)|(refine aw ?_)|(refine gp ?_ ?_<;>intro hx_ this)|fail))
   all_goals first
    | exact ad (ag rfl rfl) rfl
 obtain ⟨hbig,rfl,rfl⟩:=Classical.not_not.1 hall
 obtain ⟨hMok,hMl⟩:=zk (c:=chM sm MO) hmr hmt hSB
 have hMl:MO.length≤24:=hMl
 have hMto:∀ a∈MO,a.to.n≤8:=fun a ha=>np (c:=chM sm MO) hSB ha
 have hMok:ActsOk MO:=hMok
 have hK:=pG hRB aa hs hd
 repeat' (first|refine eY (hab:=by omega) ?_|(refine ab (hc:=nj) (hX:=fun w h=>h.1.2) ?_)|(refine ab (hc:=hsh2) (hX:=fun w h=>⟨h.2,h.1.2⟩) ?_)|(refine ab (hc:=hrt) (hX:=fun w h=>h.1.1) ?_)|(refine bS (hc:=jX ks ki hK id) (hX:=fun w h=>h.1) fun v X1 h1=>?_;obtain ⟨c,kl,hQ,rfl,hw1⟩:=h1)|refine gs ?_|refine gs1 fun _=>?_|(refine aF (cs:=(chM sm MO).cells) (hf:=by rfl) ?_)|(refine aw ?_)|(refine gp ?_ ?_<;>intro hx_ this)|fail)
 rename_i b5 b7 b12
 have hsh:=nq c
 obtain ⟨SC,hSC⟩:∃ x,shortV c=x:=⟨_,rfl⟩
 rw [hSC] at hsh
 by_cases hall2:¬ (SC=true∧seqB r id=false)
 · cases SC<;>cases hri:seqB r id
   all_goals first
    | (refine absurd ⟨?_,?_⟩ hall2<;>first|assumption|rfl|fail)
    | (repeat' (first|refine ai (dA _ rfl rfl hri) rfl am rfl ?_|(refine ab (hc:=hsh) (hX:=fun w h=>⟨(hw1 w h.2).1,h.1.1.2⟩) ?_)|refine gs ?_|refine gs1 fun _=>?_|(refine aw ?_)|(refine gp ?_ ?_<;>intro hx_ this)|fail))
   all_goals first
    | exact ad (ag rfl rfl) rfl
 obtain ⟨rfl,hri⟩:=Classical.not_not.1 hall2
 have G:=fS hK hQ
 have hG1:=G.len
 have hcto:∀ a∈c.actsL,a.to.n≤8:=fun a ha=>np hSC ha
 have hxS:(blkZ r).Sm:=wJ hrs
 refine jG (p:=c.acts.n=c.actsL.length) (fun w h=>(hw1 w h.2).1.len_) fun hcn=>?_
 repeat' (first|refine ai (dA _ rfl rfl hri) rfl am rfl ?_|(refine ab (hc:=hsh) (hX:=fun w h=>⟨(hw1 w h.2).1,h.1.1.2⟩) ?_)|(refine ab (hc:=ot c 10 1) (hX:=fun _ _=>trivial) ?_)|refine gs ?_|refine gs1 fun _=>?_|(refine aw ?_)|(refine gp ?_ ?_<;>intro hx_ this)|fail)
 rename_i b13
 have hx1R:(draftX c { blkZ r with time:=1 }).Rng:=⟨⟨by show (c.acts.n:Int)<_;omega,(dJ r).ints.2.1,by show (1:Int)<_;decide,(dJ r).ints.2.2.2⟩,(dJ r).wints,(dJ r).to_len,(dJ r).wraps_len⟩
 have hx1S:(draftX c { blkZ r with time:=1 }).Sm:=⟨hxS.to,hxS.wraps,hxS.target⟩
 have hbR:=ux (k:=k) (c:=c) (dJ r) aa
 have hbS:=AZ (k:=k) (c:=c) hxS
 have hsg:Mk Tryz.prog 36 #[k.v,(draftX c { blkZ r with time:=1 }).v] (fun w=>(draftX c { blkZ r with time:=1 }).at_ w∧Glob w) (ActTo (sgA k c (blkZ r))):=jx k (draftX c { blkZ r with time:=1 }) hx1R hx1S
 obtain ⟨b,hb⟩:∃ b,sgA k c (blkZ r)=b:=⟨_,rfl⟩
 rw [hb] at hbR hbS hsg
 refine gD (st':=⟨[(1,.string id),(3,.string r),(4,sm.v),(5,.pointer (some ⟨b5,0,none⟩)),(7,.pointer (some ⟨b7,0,none⟩)),(11,.bool true),(12,.pointer (some ⟨b12,0,none⟩)),(13,.pointer (some ⟨b13,0,none⟩))],[cel b13 46 (draftX c { blkZ r with time:=1 }).cells,cel b12 35 c.cells,cel b7 27 k.v.cells.toList,cel b5 25 [ks.v,ki.v]],fun w=>(((Ints w ks L∧Items w ki I)∧c.at_ w)∧Acts w sm MO)∧Glob w⟩) (aj qZq9 (al _) fun w h=>⟨⟨⟨h.1.1.1,(hw1 w h.2).1⟩,h.1.2⟩,h.1.1.2⟩) ?_
 repeat apply QQ
 refine fX (ι:=AddW L I ki b) (fun m=>⟨[(1,.string id),(3,.string r),(4,sm.v),(11,.bool true),(12,.pointer (some ⟨b12,0,none⟩)),(14,.pointer (some ⟨m.bk,0,none⟩))],[cel m.bk 25 [ks.v,m.s.v],cel b12 35 c.cells],fun w=>((((Ints w ks L∧Items w ki I)∧c.at_ w)∧Acts w sm MO)∧Glob w)∧m.Y w⟩) ?_ fun m=>?_
 · (refine aq ⟨[0,1,2],[(3,⟨[],[(4,⟨[],[(5,⟨[6,7,8],[(9,⟨[],[(10,⟨[11],[]⟩)]⟩)]⟩),(9,⟨[],[(5,⟨[6,7,8],[(10,⟨[11],[]⟩)]⟩)]⟩)]⟩),(9,⟨[],[(4,⟨[],[(5,⟨[6,7,8],[(10,⟨[11],[]⟩)]⟩)]⟩)]⟩)]⟩),(9,⟨[],[(3,⟨[],[(4,⟨[],[(5,⟨[6,7,8],[(10,⟨[11],[]⟩)]⟩)]⟩)]⟩)]⟩)]⟩ [cel b13 46 (draftX c { blkZ r with time:=1 }).cells,cel b7 27 k.v.cells.toList,cel b5 25 [ks.v,ki.v]] (fun w=>(((Ints w ks L∧Items w ki I)∧c.at_ w)∧Acts w sm MO)∧Glob w) (h:=?_))
   all_goals repeat' (first|((refine bS (hc:=hsg) (hX:=fun w h=>⟨wK w r,h.2⟩) fun v X2 h2=>?_;obtain ⟨s1,s2,rfl,e1,e2,hw2⟩:=h2))|((refine bS (hc:=kJ (b.re s1 s2) (fw hbR e1 e2) (kz hbS e1 e2)) (hX:=fun w h=>hw2 w h.2) fun v X3 h3=>?_;obtain ⟨s3,s4,rfl,e3,e4,hw3⟩:=h3;refine cD (X':=fun w=>((((Ints w ks L∧Items w ki I)∧c.at_ w)∧Acts w sm MO)∧Glob w)∧X3 w) (fun w h=>⟨h.1.1,h.2⟩) ?_))|((refine bS (hc:=rj ks ki hK (ofActI (b.re s3 s4)) (fw hbR (e3.trans e1) (e4.trans e2)) rfl) (hX:=fun w h=>⟨⟨h.1.1.1.1,hw3 w h.2,aY w 1⟩,h.1.2⟩) fun v X4 h4=>?_;obtain ⟨s,rfl,hw4⟩:=h4))|refine gdz ?_|refine az ?_ (h':=?_)|exact aA|refine gs1 fun _=>?_|(refine gq ?_ ?_<;>intro hx_ this)|fail)
   all_goals first
    | exact ⟨(⟨s3,s4,s,_,fun w=>X3 w∧X4 w,e3.trans e1,e4.trans e2,fun w h=>hw4 w ⟨h.1,h.2.2⟩⟩:AddW L I ki b),aj qZq9 (.cons_cons _ (.cons _ (.cons_cons _ (.cons _ (.cons _ (Zu _)))))) fun w h=>⟨h.1.1,h.1.2,h.2⟩⟩
 obtain ⟨s3,s4,s,bk,Y,e3,e4,hwI⟩:=m
 simp only
 have hK':KnR L (addK L I (ofActI (b.re s3 s4))):=nU hK (fw hbR e3 e4) (kz hbS e3 e4) rfl aa
 apply QQ
 apply QR
 repeat' (first|apply bq|apply QQ|refine aX ?_|refine aD ?_|refine bC ?_|refine bU ?_|refine aE ?_|refine aH ?_|refine aI ?_|refine dv ?_|refine bF ?_|refine bN ?_|refine bA ?_|refine bM ?_|refine bj ?_|refine bw ?_|refine be ?_|refine bE ?_|refine bY ?_|refine co (h:=?_)|refine aT ?_|refine aU ?_|refine aS ?_|refine aR fun _=>?_|refine bH fun _=>?_|refine cR fun _=>?_|refine bx ?_|refine aJ ?_|refine QU ?_|refine QV ?_|apply QT|apply QS|apply cw_ret|apply cw_exit|refine sy_beql (h:=?_)|refine br ?_|refine bc ?_|refine aZ ?_|(refine bS (hc:=jX ks s hK' id) (hX:=fun w h=>⟨⟨h.1.1.1.1.1,hwI w ⟨h.1.1.1.1.2,h.2⟩⟩,h.1.2⟩) fun v X5 h5=>?_;obtain ⟨d,kl',hQ',rfl,hw5⟩:=h5)|((fail_if_success (refine bI ?_));refine aW (ht:=?_) (hf:=?_);all_goals (intro hx_;first|have:=aG hx_|have:=aQ hx_|skip))|(refine cw_cond (ht:=?_) (hf:=?_);all_goals (intro hx_;first|have:=aG hx_|have:=aQ hx_|skip)))
 rename_i b16
 refine aM (p:=d.acts.n=d.actsL.length) (fun w h=>(hw5 w h.2).1.len_) fun hdn=>?_
 refine QR (h:=?_)
 repeat' (first|apply bq|apply QQ|refine aX ?_|refine aD ?_|refine bC ?_|refine bU ?_|refine aE ?_|refine aH ?_|refine aI ?_|refine dv ?_|refine bF ?_|refine bN ?_|refine bA ?_|refine bM ?_|refine bj ?_|refine bw ?_|refine be ?_|refine bE ?_|refine bY ?_|refine co (h:=?_)|refine aT ?_|refine aU ?_|refine aS ?_|refine aR fun _=>?_|refine bH fun _=>?_|refine cR fun _=>?_|refine bx ?_|refine aJ ?_|refine QU ?_|refine QV ?_|apply QT|apply QS|apply cw_ret|apply cw_exit|refine sy_beql (h:=?_)|refine br ?_|refine bc ?_|refine aZ ?_|((fail_if_success (refine bI ?_));refine aW (ht:=?_) (hf:=?_);all_goals (intro hx_;first|have:=aG hx_|have:=aQ hx_|skip))|(refine cw_cond (ht:=?_) (hf:=?_);all_goals (intro hx_;first|have:=aG hx_|have:=aQ hx_|skip)))
 refine QR (h:=?_)
 by_cases hone:¬ (d.acts.n:Int)=(c.acts.n:Int)+1
 · repeat' (first|refine ai (dp true rfl rfl (by rw [Zc hone];rfl)) rfl am rfl ?_|refine gs ?_|refine gs1 fun _=>?_|(refine gp ?_ ?_<;>intro hx_ this)|fail)
   all_goals first
    | exact ad (ag rfl rfl) rfl
 have hone:(d.acts.n:Int)=(c.acts.n:Int)+1:=Classical.not_not.1 hone
 have h0:0<c.actsL.length:=by
  subst hb
  exact tv hK hQ (x:=blkZ r) (show (10:Int)≠0 by decide) e3 e4 hQ' aa
 have hSD:SignD L I c d k { blkZ r with time:=1 } b:=by
  subst hb
  exact (nk hK hQ h0 hcn hdn e3 e4 (by rw [g8 hQ];exact hQ') hone).1
 have hbk:b.kind=10:=hSD.kind
 have hbto:b.toL=[]:=by rw [hSD.sig];rfl
 have hM:More c d b:=⟨(g8 hQ').trans (g8 hQ).symm,hSD.acts⟩
 have G2:=fS hK' hQ'
 have hG2:=G2.len
 have hdto:∀ x∈d.actsL,x.to.n≤8:=fun x hx=>by
  rw [(G2.ok.rng x hx).to_len]
  exact qJ hM (fun y hy=>by rw [←(G.ok.rng y hy).to_len];exact hcto y hy) (by rw [hbto];exact Z4 _) x hx
 have hrc:r≠c.id:=by rw [g8 hQ];exact seqB_ne.1 hri
 have htgt:b.target=r:=hSD.target
 clear hSD hsg hbR hbS hwI
 repeat' (first|refine ai (dp false rfl rfl (by rw [Zd hone];rfl)) rfl am rfl ?_|apply bq|apply QQ|refine aX ?_|refine aD ?_|refine bC ?_|refine bU ?_|refine aE ?_|refine aH ?_|refine aI ?_|refine dv ?_|refine bF ?_|refine bN ?_|refine bA ?_|refine bM ?_|refine bj ?_|refine bw ?_|refine be ?_|refine bE ?_|refine bY ?_|refine co (h:=?_)|refine aT ?_|refine aU ?_|refine aS ?_|refine aR fun _=>?_|refine bH fun _=>?_|refine cR fun _=>?_|refine bx ?_|refine aJ ?_|refine QU ?_|refine QV ?_|apply QT|apply QS|apply cw_ret|apply cw_exit|refine sy_beql (h:=?_)|refine br ?_|refine bc ?_|refine aZ ?_|((fail_if_success (refine bI ?_));refine aW (ht:=?_) (hf:=?_);all_goals (intro hx_;first|have:=aG hx_|have:=aQ hx_|skip))|(refine cw_cond (ht:=?_) (hf:=?_);all_goals (intro hx_;first|have:=aG hx_|have:=aQ hx_|skip)))
 refine QR (h:=?_)
 repeat' (first|apply bq|apply QQ|refine aX ?_|refine aD ?_|refine bC ?_|refine bU ?_|refine aE ?_|refine aH ?_|refine aI ?_|refine dv ?_|refine bF ?_|refine bN ?_|refine bA ?_|refine bM ?_|refine bj ?_|refine bw ?_|refine be ?_|refine bE ?_|refine bY ?_|refine co (h:=?_)|refine aT ?_|refine aU ?_|refine aS ?_|refine aR fun _=>?_|refine bH fun _=>?_|refine cR fun _=>?_|refine bx ?_|refine aJ ?_|refine QU ?_|refine QV ?_|apply QT|apply QS|apply cw_ret|apply cw_exit|refine sy_beql (h:=?_)|refine br ?_|refine bc ?_|refine aZ ?_|((fail_if_success (refine bI ?_));refine aW (ht:=?_) (hf:=?_);all_goals (intro hx_;first|have:=aG hx_|have:=aQ hx_|skip))|(refine cw_cond (ht:=?_) (hf:=?_);all_goals (intro hx_;first|have:=aG hx_|have:=aQ hx_|skip)))
 refine ar (ι:=BlkI d MO.length) (fun i=>⟨[(1,.string id),(3,.string r),(4,sm.v),(11,.bool true),(12,.pointer (some ⟨b12,0,none⟩)),(16,.pointer (some ⟨b16,0,none⟩)),(17,.int .i64 (c.acts.n:Nat)),(18,.int .i64 (i.k:Nat))],[cel b16 35 (d.with i.S i.Lx).cells,cel b12 35 c.cells],fun w=>((Glob w∧Acts w sm MO)∧c.at_ w)∧(d.with i.S i.Lx).at_ w⟩) (fun i=>MO.length-i.k) ⟨0,Z4 _,d.acts,[],d.actsL,(ZJ _).symm,hdn,Z4 _,fun a h=>(Qk h).elim,fun a h=>(Qk h).elim⟩ (aj qZq9 (.cons_cons _ (.cons _ (al _))) fun w h=>⟨⟨⟨h.1.1.2,h.1.1.1.2⟩,h.1.1.1.1.2⟩,(hw5 w h.2).1⟩) fun i=>?_
 obtain ⟨kk,hkk,S,M,Lx,hL,hS,hMk,h6,hok⟩:=i
 simp only
 have hLl:Lx.length=d.actsL.length+M.length:=by rw [hL,ZA]
 by_cases hlt:kk<MO.length
 · have hsmp':=hsmp aa
   obtain ⟨x,hx⟩:∃ x,MO[kk]?=some x:=⟨_,Zb hlt⟩
   have hxm:=Z6 hx
   by_cases hx6:x.kind=6
   · repeat' (first|refine ai (cf true rfl rfl (Zd aa)) rfl am rfl ?_|refine aO (q:=kk*20) ?_|refine ca (cs:=x.cells) (hF:=fun w h=>Acts.get h.1.1.2 hx) ?_|refine ai (dS true rfl rfl (Zd hx6)) rfl am rfl ?_|refine gs ?_|refine gs1 fun _=>?_|(refine gp ?_ ?_<;>intro hx_ this)|fail)
     all_goals first
      | exact ⟨(⟨kk+1,hlt,S,M,Lx,hL,hS,Nat.le_succ_of_le hMk,h6,hok⟩:BlkI d MO.length),(by show MO.length-(kk+1)<MO.length-kk;omega),aj qZq9 (.cons _ (al _)) fun _ h=>h⟩
   · repeat' (first|refine ai (cf true rfl rfl (Zd aa)) rfl am rfl ?_|refine aO (q:=kk*20) ?_|refine ca (cs:=x.cells) (hF:=fun w h=>Acts.get h.1.1.2 hx) ?_|refine ai (dS false rfl rfl (Zc hx6)) rfl am rfl ?_|refine gs ?_|refine gs1 fun _=>?_|(refine gp ?_ ?_<;>intro hx_ this)|fail)
     rename_i b19
     obtain ⟨y,hy⟩:∃ y:ActD,{ x with author:=id,seq:=(S.n:Int) }=y:=⟨_,rfl⟩
     have hyk:y.kind≠6:=by rw [←hy];exact hx6
     have hyR:y.Rng:=by
      have h:=hMok.rng x hxm
      rw [←hy]
      exact ⟨⟨by show (S.n:Int)<_;omega,h.ints.2⟩,h.wints,h.to_len,h.wraps_len⟩
     have hyS:y.Sm:=by
      have h:=hMok.sm x hxm
      rw [←hy]
      exact ⟨h.to,h.wraps,h.target⟩
     have hyt:y.to.n≤8:=by rw [←hy];exact hMto x hxm
     have hyat:∀ w,Acts w sm MO→y.at_ w:=fun w h=>by rw [←hy];exact h.2 x hxm
     refine gD (st':=⟨[(1,.string id),(3,.string r),(4,sm.v),(11,.bool true),(12,.pointer (some ⟨b12,0,none⟩)),(16,.pointer (some ⟨b16,0,none⟩)),(17,.int .i64 (c.acts.n:Nat)),(18,.int .i64 (kk:Nat)),(19,.pointer (some ⟨b19,0,none⟩))],[cel b19 46 y.cells,cel b16 35 (d.with S Lx).cells,cel b12 35 c.cells],fun w=>((Glob w∧Acts w sm MO)∧c.at_ w)∧(d.with S Lx).at_ w⟩) (aj qZq9 (by rw [←hy];exact al _) fun w h=>h) ?_
     repeat apply QQ
     (refine aq ⟨[1,4],[(0,⟨[],[(2,⟨[],[(3,⟨[],[(5,⟨[],[(6,⟨[7],[(8,⟨[],[]⟩)]⟩)]⟩)]⟩),(5,⟨[],[(3,⟨[],[(6,⟨[7],[(8,⟨[],[]⟩)]⟩)]⟩)]⟩)]⟩),(5,⟨[],[(2,⟨[],[(3,⟨[],[(6,⟨[7],[(8,⟨[],[]⟩)]⟩)]⟩)]⟩)]⟩)]⟩),(2,⟨[],[(0,⟨[],[(3,⟨[],[(5,⟨[],[(6,⟨[7],[(8,⟨[],[]⟩)]⟩)]⟩)]⟩),(5,⟨[],[(3,⟨[],[(6,⟨[7],[(8,⟨[],[]⟩)]⟩)]⟩)]⟩)]⟩),(5,⟨[],[(0,⟨[],[(3,⟨[],[(6,⟨[7],[(8,⟨[],[]⟩)]⟩)]⟩)]⟩)]⟩)]⟩),(5,⟨[],[(0,⟨[],[(2,⟨[],[(3,⟨[],[(6,⟨[7],[(8,⟨[],[]⟩)]⟩)]⟩)]⟩)]⟩),(2,⟨[],[(0,⟨[],[(3,⟨[],[(6,⟨[7],[(8,⟨[],[]⟩)]⟩)]⟩)]⟩)]⟩)]⟩)]⟩ [cel b19 46 y.cells] (fun w=>((Glob w∧Acts w sm MO)∧c.at_ w)∧(d.with S Lx).at_ w) (h:=?_))
     all_goals repeat' (first|refine gdz ?_|refine az ?_ (h':=?_)|exact aA|refine me fun _=>?_|refine du (vs:=[.agg y.cells.toArray]) (css:=y.cells) (hsz:=by rfl) (hcs:=by rfl) fun _=>?_|(refine ia ?_;refine aN (size:=20) (news:=(Lx.map ActD.cells).flatten) (q:=S.n) rfl rfl rfl rfl (fun _=>by (repeat (first|exact At.here _|apply At.there))) (fun w G=>gw G.keep.now.2.1 (vc _)) aa (by simp only [maxLen];omega) rfl ?_ rfl ?_;(first|with_reducible rfl|with_reducible assumption|with_reducible exact Zl|with_reducible exact Zn);intro A2 c2)|(refine ia ?_;refine aN (size:=20) (news:=y.cells) (q:=1) rfl rfl rfl rfl (fun _=>by (repeat (first|exact At.here _|apply At.there))) (fun w G=>bX G bz rfl rfl 1) aa (by simp only [maxLen];omega) rfl ?_ rfl ?_;(first|with_reducible rfl|with_reducible assumption|with_reducible exact Zl|with_reducible exact Zn);intro A2 c2)|refine gs1 fun _=>?_|(refine gq ?_ ?_<;>intro hx_ this)|fail)
     all_goals
      first
       | refine gD (st':=⟨[(1,.string id),(3,.string r),(4,sm.v),(11,.bool true),(12,.pointer (some ⟨b12,0,none⟩)),(16,.pointer (some ⟨b16,0,none⟩)),(17,.int .i64 (c.acts.n:Nat)),(18,.int .i64 (kk:Nat))],[orow 46 20 (.slice A2 (0+S.n+1) c2) (0+S.n+1) ([]++(Lx.map ActD.cells).flatten++y.cells),cel b16 35 [.string d.id,.slice A2 (0+S.n+1) c2,d.keys.v,.string d.prev,.int .i64 d.gen,.bool d.fork],cel b12 35 c.cells],fun w=>((Glob w∧Acts w sm MO)∧c.at_ w)∧(d.with S Lx).at_ w⟩) (aj qZq9 (.cons _ (.cons_cons _ (.cons _ (.cons_cons _ (.cons_cons _ (Zu _)))))) fun _ h=>h) ?_
       | refine gD (st':=⟨[(1,.string id),(3,.string r),(4,sm.v),(11,.bool true),(12,.pointer (some ⟨b12,0,none⟩)),(16,.pointer (some ⟨b16,0,none⟩)),(17,.int .i64 (c.acts.n:Nat)),(18,.int .i64 (kk:Nat))],[orow 46 20 (.slice A2 (0+S.n+1) c2) (0+S.n+1) ([]++(Lx.map ActD.cells).flatten++y.cells),cel b16 35 [.string d.id,.slice A2 (0+S.n+1) c2,d.keys.v,.string d.prev,.int .i64 d.gen,.bool d.fork],cel b12 35 c.cells],fun w=>((Glob w∧Acts w sm MO)∧c.at_ w)∧(d.with S Lx).at_ w⟩) (aj qZq9 (.cons_cons _ (.cons _ (.cons _ (.cons_cons _ (.cons_cons _ (Zu _)))))) fun _ h=>h) ?_
      have hfl:([]++(Lx.map ActD.cells).flatten++y.cells)=((Lx++[y]).map ActD.cells).flatten:=by simp
      rw [hfl,ZU]
      have hlen:S.n+1=(Lx++[y]).length:=by rw [ZA,hS];rfl
      refine EV ?_
      refine GC (X':=fun w=>((Glob w∧Acts w sm MO)∧c.at_ w)∧(d.with ⟨A2,S.n+1,c2⟩ (Lx++[y])).at_ w) (fun w h=>⟨h.1.1,eP h.2 hlen fun a ha=>by
       rcases Qy.1 ha with h1|h1
       · exact h.1.2.2 a h1
       · rw [Z5.1 h1];exact hyat w h.1.1.1.2⟩) ?_
      repeat' (first|refine gs ?_|refine gs1 fun _=>?_|(refine gp ?_ ?_<;>intro hx_ this)|fail)
      all_goals first
       | exact ⟨(⟨kk+1,hlt,⟨A2,S.n+1,c2⟩,M++[y],Lx++[y],by rw [hL,ZC],hlen,by rw [ZA];exact Nat.succ_le_succ hMk,fun a ha=>by
         rcases Qy.1 ha with h1|h1
         · exact h6 a h1
         · rw [Z5.1 h1];exact hyk,fun a ha=>by
         rcases Qy.1 ha with h1|h1
         · exact hok a h1
         · rw [Z5.1 h1];exact ⟨hyR,hyS,hyt⟩⟩:BlkI d MO.length),(by show MO.length-(kk+1)<MO.length-kk;omega),aj qZq9 (al _) fun _ h=>h⟩
 · have hT:Tail d (d.with S Lx) M:=⟨rfl,hL,h6⟩
   have heok:ActsOk (d.with S Lx).actsL:=by
    show ActsOk Lx
    rw [hL]
    exact ⟨fun a ha=>by
     rcases Qy.1 ha with h|h
     · exact G2.ok.rng a h
     · exact (hok a h).1,fun a ha=>by
     rcases Qy.1 ha with h|h
     · exact G2.ok.sm a h
     · exact (hok a h).2.1⟩
   have heto:∀ a∈(d.with S Lx).actsL,a.to.n≤1000000:=fun a ha=>by
    have ha:a∈Lx:=ha
    rw [hL] at ha
    rcases Qy.1 ha with h|h
    · exact ZY (hdto a h) (by decide)
    · exact ZY (hok a h).2.2 (by decide)
   have hLx:Lx.length≤1000:=by omega
   have hmayE:=fun i:Int=>iA (d.with S Lx) heok (by show Lx.length≤_;omega) heto i r
   have hmayC:=fun i:Int=>iA c G.ok aa (fun a ha=>ZY (hcto a ha) (by decide)) i r
   have hlaw:=yn hM hbk htgt hrc hT
   refine aM (p:=S.n≤maxLen∧(0<Lx.length→S.p.isSome=true)) (fun w h=>⟨h.2.max_,h.2.some_⟩) fun ⟨hSx,hSp⟩=>?_
   simp only [maxLen] at hSx
   have hwn:(d.with S Lx).acts.n=Lx.length:=hS
   repeat' (first|refine ai (cf false rfl rfl (Zc aa)) rfl am rfl ?_|refine gs ?_|refine gs1 fun _=>?_|(refine gp ?_ ?_<;>intro hx_ this)|fail)
   refine ar (ι:=Kth Lx.length) (fun i=>⟨[(1,.string id),(3,.string r),(11,.bool true),(12,.pointer (some ⟨b12,0,none⟩)),(16,.pointer (some ⟨b16,0,none⟩)),(17,.int .i64 (c.acts.n:Nat)),(20,.int .i64 (i.k:Nat))],[cel b16 35 (d.with S Lx).cells,cel b12 35 c.cells],fun w=>(Glob w∧c.at_ w)∧(d.with S Lx).at_ w⟩) (fun i=>Lx.length-i.k) ⟨0,Z4 _⟩ (aj qZq9 (al _) fun w h=>⟨⟨h.1.1.1,h.1.2⟩,h.2⟩) fun i=>?_
   obtain ⟨j,hj⟩:=i
   simp only
   by_cases hjl:j<Lx.length
   · have hSp':(d.with S Lx).acts.p.isSome=true:=hSp aa
     obtain ⟨h1,h2⟩:=hlaw j
     have hcn':(c.acts.n:Int)=c.actsL.length:=by omega
     by_cases hjc:j<c.actsL.length
     · have hE:=hmayE (j:Nat)
       have hC:=hmayC (j:Nat)
       rw [h1 hjc] at hE
       obtain ⟨MB,hMB⟩:∃ x,mayV c (j:Nat) r=x:=⟨_,rfl⟩
       rw [hMB] at hE hC
       repeat' (first|refine ai (cf true rfl rfl (Zd aa)) rfl am rfl ?_|refine eY (hab:=by omega) ?_|refine Dz false (hr:=by cases MB<;>rfl) (h:=?_)|(refine ab (hc:=hE) (hX:=fun w h=>⟨h.2,h.1.1⟩) ?_)|(refine ab (hc:=hC) (hX:=fun w h=>⟨h.1.2,h.1.1⟩) ?_)|refine gs ?_|refine gs1 fun _=>?_|(refine aw ?_)|(refine gp ?_ ?_<;>intro hx_ this)|fail)
       all_goals first
        | exact ⟨(⟨j+1,hjl⟩:Kth Lx.length),(by show Lx.length-(j+1)<Lx.length-j;omega),aj qZq9 (al _) fun _ h=>h⟩
     · by_cases hje:j=c.actsL.length
       · have hE:=hmayE (j:Nat)
         obtain ⟨MB,hMB⟩:∃ x,mayV (d.with S Lx) (j:Nat) r=x:=⟨_,rfl⟩
         rw [hMB] at hE
         repeat' (first|refine ai (cf true rfl rfl (Zd aa)) rfl am rfl ?_|refine ai (cf false rfl rfl (Zc aa)) rfl am rfl ?_|refine eY (hab:=by omega) ?_|(refine ab (hc:=hE) (hX:=fun w h=>⟨h.2,h.1.1⟩) ?_)|refine gs ?_|refine gs1 fun _=>?_|(refine aw ?_)|(refine gp ?_ ?_<;>intro hx_ this)|fail)
         all_goals first
          | exact ⟨(⟨j+1,hjl⟩:Kth Lx.length),(by show Lx.length-(j+1)<Lx.length-j;omega),aj qZq9 (al _) fun _ h=>h⟩
       · have hE:=hmayE (j:Nat)
         obtain ⟨y,hy⟩:∃ y,Lx[j]?=some y:=⟨_,Zb hjl⟩
         have hpub:mayV (d.with S Lx) (j:Nat) r=true→y.scope=0:=fun hm=>by
          have h3:=h2 aa hjl hm
          rw [pubV,show (d.with S Lx).actsL[((j:Nat):Int).toNat]?=some y from hy] at h3
          exact aG h3
         have hyS:∀ w,(Glob w∧c.at_ w)∧(d.with S Lx).at_ w→CellAt w (d.with S Lx).acts.p (j*20+7) (.int .i64 y.scope):=fun w h=>(Acts.get h.2 hy).2.2 7 _ rfl
         obtain ⟨MB,hMB⟩:∃ x,mayV (d.with S Lx) (j:Nat) r=x:=⟨_,rfl⟩
         rw [hMB] at hE hpub
         cases MB with
         | false =>
          repeat' (first|refine ai (cf true rfl rfl (Zd aa)) rfl am rfl ?_|refine ai (cf false rfl rfl (Zc aa)) rfl am rfl ?_|refine fP (hab:=by omega) ?_|(refine ab (hc:=hE) (hX:=fun w h=>⟨h.2,h.1.1⟩) ?_)|refine gs ?_|refine gs1 fun _=>?_|(refine aw ?_)|(refine gp ?_ ?_<;>intro hx_ this)|fail)
          all_goals first
           | exact ⟨(⟨j+1,hjl⟩:Kth Lx.length),(by show Lx.length-(j+1)<Lx.length-j;omega),aj qZq9 (al _) fun _ h=>h⟩
         | true =>
          have hp0:=hpub rfl
          repeat' (first|refine ai (cf true rfl rfl (Zd aa)) rfl am rfl ?_|refine ai (cf false rfl rfl (Zc aa)) rfl am rfl ?_|refine fP (hab:=by omega) ?_|refine ai (dp false rfl rfl (by rw [Zd hp0];rfl)) rfl am rfl ?_|(refine ab (hc:=hE) (hX:=fun w h=>⟨h.2,h.1.1⟩) ?_)|refine gs ?_|refine gs1 fun _=>?_|(refine aw ?_)|(refine aO (q:=j*20) ?_)|(refine fQ ?_)|(refine cU (q:=j*20+7) (u:=.int .i64 y.scope) (hF:=hyS) ?_)|(refine gp ?_ ?_<;>intro hx_ this)|fail)
          all_goals first
           | exact ⟨(⟨j+1,hjl⟩:Kth Lx.length),(by show Lx.length-(j+1)<Lx.length-j;omega),aj qZq9 (al _) fun _ h=>h⟩
   · repeat' (first|refine ai (cf false rfl rfl (Zc aa)) rfl am rfl ?_|refine gs ?_|refine gs1 fun _=>?_|(refine gp ?_ ?_<;>intro hx_ this)|fail)
     all_goals first
      | exact ad (ag rfl rfl) rfl
end Go.Proofs.YtaolfiikahlmkaaGreatDoor
namespace Go.Proofs.YtaolfiikahlmkaaGreatDoor
open Go Go.Proofs Sy Go.RowKit Go.Deep Go.ChangeShapes
section
variable {H:Type} {enc:TypeId×Value→H} {P:Program} {w:World} {base:Nat} {spare:Nat→Bool} {held:Bool}
theorem sJ {fuel:Nat} {cs:List Value} {x:DataW H×List MemPlace} (h:DataW.trod enc Tryz.prog w base spare held fuel 27 cs=some x):∃ k:KyD,cs=k.cells:=by
 have hl:=gi Tryz.underlying27 (k:=2) ae h
 obtain ⟨n0,y0,h0⟩:=bm (i:=0) (off:=0) (k:=1) (t':=3) Tryz.underlying27 h rfl rfl rfl ae
 obtain ⟨n1,y1,h1⟩:=bm (i:=1) (off:=1) (k:=1) (t':=3) Tryz.underlying27 h rfl rfl rfl ae
 match cs,hl with
 | [c0,c1],_ =>
  obtain ⟨s0,e0,b0⟩:=bD h0
  obtain ⟨s1,e1,b1⟩:=bD h1
  simp at e0 e1
  exact ⟨⟨s0,s1⟩,by rw [e0,e1];rfl⟩
end
end Go.Proofs.YtaolfiikahlmkaaGreatDoor
namespace Go.Proofs.YtaolfiikahlmkaaGreatDoor
open Go Go.Proofs Sy Go.RowKit Go.Deep Go.ChangeShapes Go.WideShapes
theorem laidOut:laidOutB Tryz.prog=true:=by kernel_rfl
theorem ga {H:Type} {enc:TypeId×Value→H} {P:Program} (hl:laidOutB P=true) {W W':World} {sp:Nat→Bool}:∀ (ts:List TypeId) (vs:List Value) (ds:List (DataW H)) (ps:List MemPlace),(∀ t∈ts,P.readableRec t=true∧t<P.types.size) →
  DataW.TrodAll enc P W 0 (fun _=>true) true ts vs ds ps→(∀ p∈ps,W.sameAt W' p)→(∀ p∈ps,sp p.block=true)→DataW.TrodAll enc P W' 0 sp true ts vs ds ps
 | [],vs,ds,ps,_,h,_,_=>by
  obtain ⟨rfl,rfl,rfl⟩:=trodAll_nil h
  exact trodAll_mk0
 | t::ts,vs,ds,ps,ht,h,hs,hp=>by
  obtain ⟨v,vs',d,ds',p,q,rfl,rfl,rfl,h1,h2⟩:=trodAll_cons h
  exact trodAll_cons_mk (WideElems.Trod_stays hl (ht t ax).1 (ht t ax).2 h1 (fun x hx=>hs x (QB _ hx)) (fun x hx=>hp x (QB _ hx)))
   (ga hl ts vs' ds' q (fun u hu=>ht u (Zv _ hu)) h2 (fun x hx=>hs x (Qt _ hx)) (fun x hx=>hp x (Qt _ hx)))
theorem yO {X:World→Prop} {w:World} (hX:X w) (hk:∀ w':World,(∀ k,k<w.heap.size→w'.heap[k]?=w.heap[k]?)→X w'):Gam [] (fps []) w [] X w :=
 ⟨Fr.refl _ _,fun k hk=>by simp at hk,by simp [fps],fun k hk=>by simp [fps] at hk,fun r hr=>by simp at hr,⟨fun k=>k<w.heap.size,fun k hk=>⟨hk,by simp [fps]⟩,hk⟩⟩
theorem lO {P:Program} {f:FuncId} {args:Array Value} {X:World→Prop} {v:Value} {w:World} (h:Pu P f args X v) (hX:X w) (hk:∀ w':World,(∀ k,k<w.heap.size→w'.heap[k]?=w.heap[k]?)→X w') :
  Calls P f args w fun e w'=>e=.returned v∧Below w.heap.size w w':=by
 unfold Pu at h
 exact (Ct.run h w [] (yO hX hk)).mono fun e w' ⟨u,R,X',he,⟨hu,hR⟩,G⟩=>⟨by rw [he,hu],G.fr.below⟩
theorem laidK:Rows.laid_agora_sum_constants (H:=Unit)=Lib.tabData .u32 kC:=by kernel_rfl
theorem laidI:Rows.laid_agora_sum_initial (H:=Unit)=Lib.tabData .u32 iniC:=by kernel_rfl
theorem ox {W:World} {name:String} {zs:List Int} {g:Nat} (h:Lib.TabIs Tryz.prog W name .u32 zs) (hg:Tryz.prog.globalNamed name=some g):CellsAt g (u32s zs) W:=fun j v hj=>by
 have hj':j<zs.length:=by have:=(QJ.1 hj).1;simpa [u32s] using this
 rw [h.cell hg j hj']
 simp only [u32s,Z7,Zb hj',Option.map_some,ZM] at hj
 rw [Zo,Zb hj',←hj]
 rfl
theorem wA {W:World} (h:laidMet Tryz.prog [("agora/sum.constants",Rows.laid_agora_sum_constants),("agora/sum.initial",Rows.laid_agora_sum_initial)] W):Glob W:=by
 rw [laidK,laidI] at h
 have h1:=Lib.tabIs_of_head (g:=1) (t:=234) (e:=167) (n:=64) ae ae Tryz.underlying234 Tryz.underlying167 ae ae h
 obtain ⟨ps,⟨g',t',cs,fuel,p,q,hg',ht',hvar,hd,hrest,hpq⟩,_⟩:=h
 obtain ⟨g2,t2,cs2,fuel2,p2,q2,hg2,ht2,hvar2,hd2,_,_⟩:=hrest
 have h2:Lib.TabIs Tryz.prog W "agora/sum.initial" .u32 iniC:=by
  have e1:Tryz.prog.globalNamed "agora/sum.initial"=some 0:=by kernel_rfl
  have e2:(Tryz.prog.globals[0]?).map (·.type)=some 168:=by kernel_rfl
  obtain rfl:=Option.some.inj (e1.symm.trans hg2)
  obtain rfl:=Option.some.inj (e2.symm.trans ht2)
  unfold Lib.TabIs
  rw [hvar2,←Lib.cells_of_tab Tryz.underlying168 Tryz.underlying167 ae ae hd2]
 exact ⟨ox h2 ae,ox h1 ae⟩
def layRow (l:List Value):Obj→Obj
 | .cells _ t frozen=>.cells l.toArray t frozen
 | o=>o
noncomputable def laidWorld (os:Os):World :=
 { World.holding Tryz.prog os ⟨#[],#[],[]⟩ with heap:=((World.holding Tryz.prog os ⟨#[],#[],[]⟩).heap.modify 0 (layRow (u32s iniC))).modify 1 (layRow (u32s kC)) }
end Go.Proofs.YtaolfiikahlmkaaGreatDoor
