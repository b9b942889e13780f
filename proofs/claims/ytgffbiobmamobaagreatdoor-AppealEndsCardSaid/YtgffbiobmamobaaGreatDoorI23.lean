/- Joined. -/
import Derived.Test.YtgffbiobmamobaaGreatDoorI0
import Derived.Test.YtgffbiobmamobaaGreatDoorI22
import Derived.Test.YtgffbiobmamobaaGreatDoorI21
set_option linter.unusedVariables false
set_option linter.unusedSimpArgs false
set_option maxHeartbeats 16000000
namespace Go.Proofs.YtgffbiobmamobaaGreatDoor
open Go Go.Proofs Sy
def findK (I:List Xb) (d:ByteArray):Option Xb:=bif seqB d ⟨#[]⟩ then none else I.find? fun x=>seqB (digIt x) d
def itemO (o:Option Xb):Value:=.tuple #[(o.getD Xb.zero).v,.bool o.isSome]
structure FnnI (n:Nat) where
 k:Nat
 hk:k≤n
theorem oU (ks ki:Xi) (I:List Xb) (hr:∀ i∈I,i.act.Rng) (hd:∀ i∈I,i.dec.to.n=i.dec.toL.length) (hI:I.length≤1000) (d:ByteArray) :
  Pu Tryz.prog 24 #[.agg #[ks.v,ki.v],.string d] (fun w=>Items w ki I∧Xg w) (itemO (findK I d)):=by
 cases hn:seqB d ⟨#[]⟩ with
 | true =>
  rw [findK,hn]
  refine aq Tryz.func24 Tryz.ntmps24 fun av bor w0=>?_
  repeat' (first|refine aw ?_ (cS true rfl rfl hn)|refine aL (cs:=Xb.zero.cells) (hf:=by rfl) ?_|refine gs ?_|refine gs1 fun _=>?_|(refine gp ?_ ?_<;>intro hx_ this)|fail)
  exact ae (cB rfl rfl rfl aC (by rfl)) rfl
 | false =>
  rw [findK,hn,cond_false]
  cases hf:I.find? fun x=>seqB (digIt x) d with
  | some x0 =>
   obtain ⟨h1,p,hp,h2,h3⟩:=List.find?_eq_some_iff_getElem.1 hf
   refine m9 ks ki I hr hd hI d hn p x0 (by rw [List.getElem?_eq_getElem hp,h2]) (seqB_iff.1 h1) fun j y hj hy=>?_
   have h4:=h3 j hj
   have h5:I[j]=y:=(List.getElem?_eq_some_iff.1 hy).2
   rw [h5] at h4
   simpa using h4
  | none =>
   have hno:=List.find?_eq_none.1 hf
   refine aq Tryz.func24 Tryz.ntmps24 fun av bor w0=>?_
   have hD:=fun x (hx:x∈I)=>bw x (hr x hx) (hd x hx)
   refine aD (p:=ki.n=I.length∧ki.n≤maxLen∧(0<I.length→ki.p.isSome=true)) (fun w h=>⟨h.1.len_,h.1.max_,h.1.some_⟩) fun ⟨hkn,hkm,hkp⟩=>?_
   simp only [maxLen] at hkm
   clear hr hd
   repeat' (first|refine aw ?_ (cS false rfl rfl hn)|refine gs ?_|refine gs1 fun _=>?_|(refine gp ?_ ?_<;>intro hx_ this)|fail)
   rename_i b2 b4
   refine az (ι:=FnnI I.length) (fun i=>⟨[(1,.string d),(2,.pointer (some ⟨b2,0,none⟩)),(4,.pointer (some ⟨b4,0,none⟩)),(5,.bool false),(12,ki.v),(13,.int .i64 (ki.n:Nat)),(14,.int .i64 (i.k:Nat))],[cel b4 78 Xb.zero.cells,cel b2 32 [ks.v,ki.v]],fun w=>Items w ki I∧Xg w⟩) (fun i=>I.length-i.k) ⟨0,Nat.zero_le _⟩ (ak an (al _) fun _ h=>h) fun i=>?_
   obtain ⟨k,hk⟩:=i
   simp only
   by_cases hlt:k<I.length
   · obtain ⟨x,hx⟩:∃ x,I[k]?=some x:=⟨_,List.getElem?_eq_getElem hlt⟩
     have hkp':=hkp ac
     have hxm:=List.mem_of_getElem? hx
     have hDx:=hD x hxm
     have hne:seqB (digIt x) d=false:=by simpa using hno x hxm
     repeat' (first|refine aw ?_ (be true rfl rfl (decide_eq_true ac))|refine aw ?_ (cS false rfl rfl hne)|(refine ag (hc:=hDx) (hX:=fun w h=>⟨h.1.2 x hxm,h.2⟩) ?_)|refine gs ?_|refine gs1 fun _=>?_|(refine aA (q:=k*49) ?_)|(refine aY (cs:=x.cells) (hF:=fun w h=>h.1.get hx) ?_)|(refine gp ?_ ?_<;>intro hx_ this)|fail)
     all_goals first
      | exact ⟨(⟨k+1,by omega⟩:FnnI I.length),(by show I.length-(k+1)<I.length-k;omega),ak an (.cons _ (al _)) fun _ h=>h⟩
   · repeat' (first|refine aw ?_ (be false rfl rfl (decide_eq_false ac))|refine aL (cs:=Xb.zero.cells) (hf:=by rfl) ?_|refine gs ?_|refine gs1 fun _=>?_|(refine gp ?_ ?_<;>intro hx_ this)|fail)
     exact ae (cB rfl rfl rfl aC (by rfl)) rfl
def overV (cs:List Xa) (d:Xf) (dg:ByteArray) (M:List ByteArray) (q:Int):Bool:=!decide (M.length=0)&&(appealsV cs d dg).any fun ap=>decide (q≤(votesV cs M ap).2)
theorem ou (cs:List Xa) (d:Xf) (dg:ByteArray) (M:List ByteArray) (q:Int):overV cs d.can dg M q=overV cs d dg M q:=rfl
structure OvrI (l:List ByteArray) (p:ByteArray→Bool) where
 k:Nat
 hk:k≤l.length
 hno:(l.take k).any p=false
theorem rF (s sM:Xi) (cs:List Xa) (d:Xf) (dg:ByteArray) (M:List ByteArray) (q:Int) (hc:Ek cs):Pu Tryz.prog 26 #[s.v,d.v,.string dg,sM.v,.int .i64 q] (fun w=>(Chains w s cs∧Xg w)∧Strs w sM M) (.bool (overV cs d dg M q)):=by
 refine aq Tryz.func26 Tryz.ntmps26 fun av bor w0=>?_
 refine aD (p:=sM.n=M.length) (fun w h=>h.2.len_) fun hMn=>?_
 by_cases h0:M.length=0
 · rw [overV,decide_eq_true h0]
   repeat' (first|refine aw ?_ (bg true rfl rfl (decide_eq_true ac))|refine gs ?_|refine gs1 fun _=>?_|(refine gp ?_ ?_<;>intro hx_ this)|fail)
   all_goals exact ae (aj rfl rfl) rfl
 · rw [overV,decide_eq_false h0,Bool.not_false,Bool.true_and]
   have hap:=lw s cs d dg hc
   generalize appealsV cs d dg=l at *
   repeat' (first|refine aw ?_ (bg false rfl rfl (decide_eq_false ac))|(refine aT (hc:=hap) fun v1 X1 h1=>?_;obtain ⟨s1,rfl,hw1⟩:=h1)|refine gs ?_|refine gs1 fun _=>?_|(refine gp ?_ ?_<;>intro hx_ this)|fail)
   rename_i b6
   refine aD (p:=s1.n=l.length∧s1.n≤maxLen∧(0<l.length→s1.p.isSome=true)) (fun w h=>⟨(hw1 w h.2).len_,Nat.le_trans (Xe.cap (hw1 w h.2)) (Xe.max (hw1 w h.2)),(hw1 w h.2).some_⟩) fun ⟨hln,hlm,hlp⟩=>?_
   simp only [maxLen] at hlm
   obtain ⟨p,hp⟩:∃ p:ByteArray→Bool,p=fun ap=>decide (q≤(votesV cs M ap).2):=⟨_,rfl⟩
   rw [←hp]
   refine az (ι:=OvrI l p) (fun i=>⟨[(0,s.v),(3,sM.v),(4,.int .i64 q),(21,s1.v),(22,.int .i64 (s1.n:Nat)),(23,.int .i64 (i.k:Nat))],[],fun w=>((Chains w s cs∧Xg w)∧Strs w sM M)∧X1 w⟩) (fun i=>l.length-i.k) ⟨0,Nat.zero_le _,rfl⟩ (ak an (List.nil_sublist _) fun _ h=>h) fun i=>?_
   obtain ⟨k,hk,hno⟩:=i
   simp only
   by_cases hlt:k<l.length
   · have hlp':=hlp ac
     obtain ⟨x,hx⟩:∃ x,l[k]?=some x:=⟨_,List.getElem?_eq_getElem hlt⟩
     have hvo:=nO s sM cs M x
     have hnx:(l.take (k+1)).any p=((l.take k).any p||p x):=by
      rw [List.take_add_one,hx,List.any_append]
      simp
     have hpx:p x=decide (q≤(votesV cs M x).2):=by rw [hp]
     generalize votesV cs M x=st at *
     cases hb:p x with
     | true =>
      have hany:l.any p=true:=List.any_eq_true.2 ⟨x,List.mem_of_getElem? hx,hb⟩
      rw [hb] at hpx
      rw [hany]
      repeat' (first|refine aw ?_ (j4 true rfl rfl hpx.symm)|(refine ag (hc:=hvo) (hX:=fun w h=>⟨h.1.1.1,h.1.2⟩) ?_)|refine gs ?_|refine gs1 fun _=>?_|(refine aA (q:=k) ?_)|(refine bE (q:=k) (u:=.string x) (hF:=fun w h=>(hw1 w h.2).at_ hx) ?_)|(refine gp ?_ ?_<;>intro hx_ this)|fail)
      all_goals first
       | (exfalso;omega)
       | exact ae (aj rfl rfl) rfl
     | false =>
      rw [hb] at hpx
      rw [hb,hno] at hnx
      repeat' (first|refine aw ?_ (j4 false rfl rfl hpx.symm)|(refine ag (hc:=hvo) (hX:=fun w h=>⟨h.1.1.1,h.1.2⟩) ?_)|refine gs ?_|refine gs1 fun _=>?_|(refine aA (q:=k) ?_)|(refine bE (q:=k) (u:=.string x) (hF:=fun w h=>(hw1 w h.2).at_ hx) ?_)|(refine gp ?_ ?_<;>intro hx_ this)|fail)
      all_goals first
       | (exfalso;omega)
       | exact ⟨(⟨k+1,hlt,hnx⟩:OvrI l p),(by show l.length-(k+1)<l.length-k;omega),ak an (List.nil_sublist _) fun _ h=>h⟩
   · rw [List.take_of_length_le (by omega)] at hno
     rw [hno]
     repeat' (first|refine gs ?_|refine gs1 fun _=>?_|(refine gp ?_ ?_<;>intro hx_ this)|fail)
     · exfalso;omega
     exact ae (aj rfl rfl) rfl
end Go.Proofs.YtgffbiobmamobaaGreatDoor
