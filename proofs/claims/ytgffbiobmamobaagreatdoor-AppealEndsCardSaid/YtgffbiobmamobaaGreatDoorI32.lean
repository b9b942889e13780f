/- Joined. -/
import Derived.Test.YtgffbiobmamobaaGreatDoorI0
import Derived.Test.YtgffbiobmamobaaGreatDoorI29
import Derived.Test.YtgffbiobmamobaaGreatDoorI21
import Derived.Test.YtgffbiobmamobaaGreatDoorI31
import Derived.Test.YtgffbiobmamobaaGreatDoorI14
set_option linter.unusedVariables false
set_option linter.unusedSimpArgs false
set_option maxHeartbeats 16000000
namespace Go.Proofs.YtgffbiobmamobaaGreatDoor
open Go Go.Proofs Sy
def Xb.can (i:Xb):Xb:={ i with act:=i.act.can,dec:=i.dec.can }
theorem ux {d:Xf} (h:d.Fit):decR d.can=decR d:=by
 simp only [decR,termsB,plainD,Xf.can,Xf.re,←show d.to.n=d.toL.length from h]
 rfl
theorem mr {d:Xf} (h:d.Fit):decZ d.can=decZ d:=by
 simp only [decZ,Xf.can,Xf.re,←show d.to.n=d.toL.length from h]
theorem mv (a:Xc):actZ a.can=actZ a:=rfl
theorem ku (k:Int) (a:Xc) (c:Xm) (b:Xj) {d:Xf} (h:d.Fit):sameIZ ⟨k,a.can,c,b,d.can⟩=sameIZ ⟨k,a,c,b,d⟩:=by
 unfold sameIZ
 simp only
 rw [mv,mr h]
theorem vR (k:Int) (a:Xc) (c:Xm) (b:Xj) {d:Xf} (h:d.Fit):sameIZ ⟨k,a,c,b,d.can⟩=sameIZ ⟨k,a,c,b,d⟩:=by
 unfold sameIZ
 simp only
 rw [mr h]
theorem vS (k:Int) (a:Xc) (c:Xm) (b:Xj) (d:Xf):sameIZ ⟨k,a.can,c,b,d⟩=sameIZ ⟨k,a,c,b,d⟩:=by
 unfold sameIZ
 simp only
 rw [mv]
theorem tk {i:Xb} (h:i.dec.Fit):sameIZ (restI i.can)=sameIZ (restI i):=by
 have e:restI i.can=bif decide (i.kind=0) then ⟨0,Xc.zero,i.claim,i.ballot,i.dec.can⟩ else bif decide (i.kind=1) then ⟨0,i.act.can,Xm.zero,i.ballot,i.dec.can⟩ else bif decide (i.kind=2) then ⟨0,i.act.can,i.claim,Xj.zero,i.dec.can⟩ else bif decide (i.kind=3) then ⟨0,i.act.can,i.claim,i.ballot,Xf.zero⟩ else ⟨0,i.act.can,i.claim,i.ballot,i.dec.can⟩:=rfl
 rw [e,restI]
 cases decide (i.kind=0) with
 | true=>exact vR _ _ _ _ h
 | false =>
  rw [cond_false,cond_false]
  cases decide (i.kind=1) with
  | true=>exact ku _ _ _ _ h
  | false =>
   rw [cond_false,cond_false]
   cases decide (i.kind=2) with
   | true=>exact ku _ _ _ _ h
   | false =>
    rw [cond_false,cond_false]
    cases decide (i.kind=3) with
    | true=>exact vS _ _ _ _ _
    | false=>exact ku _ _ _ _ h
theorem gn {i:Xb} (h:i.dec.Fit):rightIt i.can=rightIt i:=by
 have e1:rightB i.act.can=rightB i.act:=kA rfl rfl
 have e2:=ux h
 have e:rightK2 i.can=bif decide (i.kind=0) then rightB i.act.can else bif decide (i.kind=1) then claimR i.claim else bif decide (i.kind=2) then ballotR i.ballot else bif decide (i.kind=3) then decR i.dec.can else false:=rfl
 rw [rightIt,rightIt,tk h,e,e1,e2,rightK2]
theorem qY {i:Xb} (h:i.dec.Fit):bodyIt i.can=bodyIt i:=rfl
theorem fK {i:Xb} (h:i.dec.Fit):digIt i.can=digIt i:=by
 rw [digIt,digIt,bytesIt,bytesIt,gn h,qY h]
 rfl
theorem mP {L:List Int} {i:Xb} (h:i.dec.Fit):signedIt L i.can=signedIt L i:=by
 rw [signedIt,signedIt,gn h]
 rfl
theorem sF (d:ByteArray):∀ I:List Xb,(∀ i∈I,i.dec.Fit)→((I.map Xb.can).any fun x=>seqB (digIt x) d)=I.any fun x=>seqB (digIt x) d
 | [],_=>rfl
 | i::I,h=>by
  rw [List.map_cons,List.any_cons,List.any_cons,sF d I fun x hx=>h x (List.mem_cons_of_mem _ hx),fK (h i ay)]
theorem oR (d:ByteArray):∀ I:List Xb,(∀ i∈I,i.dec.Fit)→((I.map Xb.can).findIdx? fun x=>gtB (digIt x) d)=I.findIdx? fun x=>gtB (digIt x) d
 | [],_=>rfl
 | i::I,h=>by
  rw [List.map_cons,List.findIdx?_cons,List.findIdx?_cons,oR d I fun x hx=>h x (List.mem_cons_of_mem _ hx),fK (h i ay)]
theorem lr {L:List Int} {I:List Xb} {it:Xb} (hI:∀ i∈I,i.dec.Fit) (h:it.dec.Fit):canAdd L (I.map Xb.can) it.can=canAdd L I it:=by
 rw [canAdd,canAdd,mP h,fK h,sF _ I hI]
theorem ig (dI:Xb→ByteArray) (d:ByteArray) (I:List Xb):addAt dI d I I.length=(I.findIdx? fun x=>gtB (dI x) d).getD I.length:=by rw [addAt,List.take_length]
theorem lx {L:List Int} {I:List Xb} {it:Xb} (hI:∀ i∈I,i.dec.Fit) (h:it.dec.Fit):(addK L I it).map Xb.can=addK L (I.map Xb.can) it.can:=by
 rw [addK,addK,lr hI h]
 cases canAdd L I it with
 | false=>rfl
 | true =>
  rw [cond_true,cond_true,addV,addV,fK h,ig,ig,oR _ _ hI,List.length_map,List.map_append,List.map_cons,List.map_take,List.map_drop]
def isDec (i:Xb):Bool:=decide (i.kind=3)
structure Xy (L:List Int) (I:List Xb) (m n:Nat):Prop where
 knr:KnR L I
 sig:∀ i∈I,signedIt L i=true
 big:∀ i∈I,i.dec.to.n≤100
 low:∀ i∈I,isDec i=true→i.dec.number<(n:Int)
 num:((I.filter isDec).map fun i=>i.dec.number).Nodup
 cnt:(I.filter isDec).length≤n
 len:I.length≤m
theorem Xy.more {L:List Int} {I:List Xb} {m n m' n':Nat} (h:Xy L I m n) (hm:m≤m') (hn:n≤n'):Xy L I m' n' :=
 ⟨h.knr,h.sig,h.big,fun i hi h1=>by have:=h.low i hi h1;omega,h.num,Nat.le_trans h.cnt hn,Nat.le_trans h.len hm⟩
theorem xU (L:List Int) (I:List Xb) (it:Xb):(addK L I it).length≤I.length+1:=by
 rw [addK]
 cases canAdd L I it with
 | false=>exact Nat.le_succ _
 | true =>
  have hp:=jl digIt it I
  show (addV digIt it I).length≤_
  rw [hp.length_eq,List.length_cons]
  exact Nat.le_refl _
theorem Xy.add {L:List Int} {I:List Xb} {m n:Nat} (h:Xy L I m n) (hm:m<100) {it:Xb} (hit:it.act.Rng) (hsm:it.act.Sm) (hdn:it.dec.to.n=it.dec.toL.length) (hb:it.dec.to.n≤100) (hk:isDec it=true→it.dec.number=(n:Int)) :
  Xy L (addK L I it) (m+1) (n+(bif isDec it then 1 else 0)):=by
 have hl:=h.len
 have hkn:=wx h.knr hit hsm hdn ac
 have hal:=xU L I it
 rw [addK] at hkn hal ⊢
 cases hc:canAdd L I it with
 | false=>rw [cond_false];exact h.more ac ac
 | true =>
  rw [hc,cond_true] at hkn hal
  rw [cond_true]
  obtain ⟨h1,h2,h3⟩:=lq hc
  have hp:=jl digIt it I
  have hmem:∀ i∈addV digIt it I,i=it∨i∈I:=fun i hi=>List.mem_cons.1 (hp.subset hi)
  have hpf:=hp.filter isDec
  refine ⟨hkn,fun i hi=>?_,fun i hi=>?_,fun i hi h5=>?_,?_,?_,by omega⟩
  · rcases hmem i hi with rfl|hi
    · exact h1
    · exact h.sig i hi
  · rcases hmem i hi with rfl|hi
    · exact hb
    · exact h.big i hi
  · rcases hmem i hi with rfl|hi
    · rw [hk h5,h5,cond_true];omega
    · have:=h.low i hi h5
      omega
  · refine (hpf.map fun i=>i.dec.number).nodup_iff.2 ?_
    cases hd:isDec it with
    | false=>rw [List.filter_cons_of_neg (by rw [hd];decide)];exact h.num
    | true =>
     rw [List.filter_cons_of_pos hd,List.map_cons,List.nodup_cons]
     refine ⟨fun hm2=>?_,h.num⟩
     obtain ⟨x,hx,e⟩:=List.mem_map.1 hm2
     have hx':=List.mem_filter.1 hx
     have:=h.low x hx'.1 hx'.2
     have e':x.dec.number=it.dec.number:=e
     rw [hk hd] at e'
     omega
  · rw [hpf.length_eq]
    have:=h.cnt
    cases hd:isDec it with
    | false=>rw [List.filter_cons_of_neg (by rw [hd];decide)];exact this
    | true=>rw [List.filter_cons_of_pos hd,List.length_cons,cond_true];omega
theorem Xy.dec {L:List Int} {I:List Xb} {m n:Nat} (h:Xy L I m n) (hn:n≤19):Ec L I:=by
 have hs:∀ sv,(I.filter (selBD sv rightIt)).Sublist (I.filter isDec):=fun sv=>by
  rw [show I.filter (selBD sv rightIt)=(I.filter isDec).filter (selBD sv rightIt) from by
   rw [List.filter_filter]
   refine List.filter_congr fun x _=>?_
   cases h1:selBD sv rightIt x with
   | false=>rfl
   | true =>
    rw [selBD,Bool.and_eq_true,wantD,Bool.and_eq_true] at h1
    exact h1.1.1.symm]
  exact List.filter_sublist
 refine ⟨h.knr.rng,h.knr.dn,fun i hi=>by have:=h.big i hi;omega,h.sig,by have:=h.knr.len;omega,fun sv=>?_,fun sv=>?_⟩
 · rw [selD,List.length_map]
   have:=(hs sv).length_le
   have:=h.cnt
   omega
 · rw [selD,List.map_map]
   exact ((hs sv).map fun i=>i.dec.number).nodup h.num
theorem cf {L:List Int} {I:List Xb} {m n:Nat} (h:Xy L I m n):∀ i∈I,i.dec.Fit:=h.knr.dn
end Go.Proofs.YtgffbiobmamobaaGreatDoor
