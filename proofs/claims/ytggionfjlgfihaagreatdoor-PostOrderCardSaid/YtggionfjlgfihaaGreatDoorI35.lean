/- Joined. -/
import Derived.Test.YtggionfjlgfihaaGreatDoorI0
import Derived.Test.YtggionfjlgfihaaGreatDoorI21
import Derived.Test.YtggionfjlgfihaaGreatDoorI16
import Derived.Test.YtggionfjlgfihaaGreatDoorI18
import Derived.Test.YtggionfjlgfihaaGreatDoorI32
import Derived.Test.YtggionfjlgfihaaGreatDoorI34
set_option linter.unusedVariables false
set_option linter.unusedSimpArgs false
set_option maxHeartbeats 16000000
namespace Go.Proofs.YtggionfjlgfihaaGreatDoor
open Go Go.Proofs Sy
structure KnR (L:List Int) (I:List Xb):Prop where
 sv:L.length≤20
 len:I.length≤100
 rng:∀ i∈I,i.act.Rng
 sm:∀ i∈I,i.act.Sm
 dn:∀ i∈I,i.dec.to.n=i.dec.toL.length
 right:∀ i∈I,rightIt i=true
 asc:Asc (I.map digIt)
theorem tb {P:Program} {f:FuncId} {args:Array Value} {pre:List Xk} {X X':World→Prop} {Post:Value→List Xk→(World→Prop)→Prop} (h:Ct P f args pre X Post) (hx:∀ w,X' w→X w):Ct P f args pre X' Post :=
 Ct.mk fun w av G=>h.run w av (G.imp hx)
theorem nN {P:Program} {f:FuncId} {args:Array Value} {X X':World→Prop} {v:Value} (h:Pu P f args X v) (hx:∀ w,X' w→X w):Pu P f args X' v:=by
 unfold Pu at *
 exact tb h hx
theorem zo {P:Program} {f:FuncId} {args:Array Value} {X X':World→Prop} {Φ:Value→(World→Prop)→Prop} (h:Mk P f args X Φ) (hx:∀ w,X' w→X w):Mk P f args X' Φ:=by
 unfold Mk at *
 exact tb h hx
theorem vo:Xa.zero.Rng:=⟨by decide,fun w hw=>(List.not_mem_nil hw).elim,rfl,rfl⟩
theorem tc {x y:ByteArray} (h:ltB x y=true):¬ SrG.cmp2 0 0 y x<0:=by
 have h1:ltB y x=false:=by
  cases hh:ltB y x with
  | false=>rfl
  | true =>
   have:=fj h hh
   rw [fN] at this
   cases this
 have h2:Op.bytesLess y.toList x.toList=false:=h1
 rw [SrG.cmp2,SrG.cmpI_self]
 show ¬ SrG.cmpB_g y x<0
 rw [SrG.cmpB_g,h2]
 cases seqB y x<;>decide
theorem kp {l:List ByteArray} (h:Asc l) {i j:Nat} {x y:ByteArray} (hij:i<j) (hi:l[i]?=some x) (hj:l[j]?=some y):ltB x y=true:=by
 obtain ⟨h1,rfl⟩:=List.getElem?_eq_some_iff.1 hi
 obtain ⟨h2,rfl⟩:=List.getElem?_eq_some_iff.1 hj
 exact List.pairwise_iff_getElem.1 h i j h1 h2 hij
theorem ko {l m:List ByteArray} (h:Asc l) (hs:m.Sublist l):Asc m:=List.Pairwise.sublist hs h
theorem srtC {L:List Int} {I:List Xb} (h:KnR L I) (au:ByteArray):SrC.Srt (selFC au rightIt digIt I):=by
 have ha:Asc ((selFC au rightIt digIt I).map Xn.dg):=by
  rw [selFC,List.map_map]
  exact ko h.asc (List.filter_sublist.map digIt)
 have hr:∀ x∈selFC au rightIt digIt I,x.rank=0:=fun x hx=>by
  rw [selFC] at hx
  obtain ⟨i,_,rfl⟩:=List.mem_map.1 hx
  rfl
 intro i j x y hij hi hj
 rw [SrC.cmpX,hr x (List.mem_of_getElem? hi),hr y (List.mem_of_getElem? hj)]
 exact tc (kp ha hij (by rw [List.getElem?_map,hi];rfl) (by rw [List.getElem?_map,hj];rfl))
theorem srtB {L:List Int} {I:List Xb} (h:KnR L I) (au:ByteArray) (gn:Int):SrB.Srt (selFB au gn rightIt digIt I):=by
 have ha:Asc ((selFB au gn rightIt digIt I).map Xp.dg):=by
  rw [selFB,List.map_map]
  exact ko h.asc (List.filter_sublist.map digIt)
 have hr:∀ x∈selFB au gn rightIt digIt I,x.rank=0:=fun x hx=>by
  rw [selFB] at hx
  obtain ⟨i,_,rfl⟩:=List.mem_map.1 hx
  rfl
 intro i j x y hij hi hj
 rw [SrB.cmpX,hr x (List.mem_of_getElem? hi),hr y (List.mem_of_getElem? hj)]
 exact tc (kp ha hij (by rw [List.getElem?_map,hi];rfl) (by rw [List.getElem?_map,hj];rfl))
def claimsV (I:List Xb) (au:ByteArray):List Xg:=selC au rightIt I
def dgCl (c:Xg):ByteArray:=digIt (ofClaimI c)
def wonK (sv:Nat) (I:List Xb) (au:ByteArray) (gn:Int):Option Xg:=wonO sv (claimsV I au) dgCl (selB2 au gn rightIt I) gn
theorem kE {sv:Nat} {I:List Xb} {au:ByteArray} {gn:Int} {c:Xg} (h:wonK sv I au gn=some c):c∈claimsV I au∧c.gen=gn:=by
 have h1:=List.find?_some h
 rw [wonB,Bool.and_eq_true,decide_eq_true_eq] at h1
 exact ⟨List.mem_of_find?_eq_some h,h1.1⟩
theorem om {I:List Xb} {au:ByteArray} {c:Xg} (h:c∈claimsV I au):claimR c=true:=by
 rw [claimsV,selC] at h
 obtain ⟨i,hi,rfl⟩:=List.mem_map.1 h
 have h1:=(List.mem_filter.1 hi).2
 rw [selBC,Bool.and_eq_true,wantC,Bool.and_eq_true,decide_eq_true_eq] at h1
 rcases dT h1.2 with h2|h2|h2|h2
 · rw [h1.1.1] at h2;exact absurd h2.1 (by decide)
 · exact h2.2
 · rw [h1.1.1] at h2;exact absurd h2.1 (by decide)
 · rw [h1.1.1] at h2;exact absurd h2.1 (by decide)
def lnone (f:Nat→Option Xg):Nat→Nat→Nat
 | 0,g=>g
 | n+1,g=>match f g with
  | none=>g
  | some _=>lnone f n (g+1)
theorem ll (f:Nat→Option Xg):∀ n g i,g≤i→i<lnone f n g→(f i).isSome=true
 | 0,g,i,h1,h2=>by rw [lnone] at h2;omega
 | n+1,g,i,h1,h2=>by
  rw [lnone] at h2
  cases hf:f g with
  | none=>rw [hf] at h2;simp only at h2;omega
  | some c =>
   rw [hf] at h2
   simp only at h2
   rcases Nat.lt_or_eq_of_le h1 with h3|rfl
   · exact ll f n (g+1) i h3 h2
   · rw [hf];rfl
theorem lk (f:Nat→Option Xg):∀ n g,lnone f n g<g+n→f (lnone f n g)=none
 | 0,g,h=>by rw [lnone] at h;omega
 | n+1,g,h=>by
  rw [lnone] at h ⊢
  cases hf:f g with
  | none=>exact hf
  | some c =>
   rw [hf] at h
   simp only at h ⊢
   exact lk f n (g+1) aa
def genB (sv:Nat) (I:List Xb) (au:ByteArray):Nat:=lnone (fun g=>wonK sv I au (g:Nat)) ((claimsV I au).length+1) 0
theorem oa (sv:Nat) (I:List Xb) (au:ByteArray):genB sv I au≤(claimsV I au).length:=by
 have h:=jj (n:=genB sv I au) (l:=(claimsV I au).map Xg.gen) fun i hi=>by
  have h1:=ll (fun g=>wonK sv I au (g:Nat)) _ 0 i (Nat.zero_le _) hi
  cases hw:wonK sv I au (i:Nat) with
  | none=>rw [hw] at h1;cases h1
  | some c =>
   obtain ⟨h2,h3⟩:=kE hw
   exact List.mem_map.2 ⟨c,h2,h3⟩
 simpa using h
theorem uN (sv:Nat) (I:List Xb) (au:ByteArray):wonK sv I au (genB sv I au:Nat)=none :=
 lk (fun g=>wonK sv I au (g:Nat)) ((claimsV I au).length+1) 0 (by have:=oa sv I au;rw [genB] at this;omega)
def OfWK (sv:Nat) (I:List Xb) (au:ByteArray):Ee:=⟨[],au,fun g=>bif decide (g<genB sv I au) then wonK sv I au (g:Nat) else none,sgnC,dgCl,verV,genB sv I au⟩
theorem An {sv:Nat} {I:List Xb} {au:ByteArray} {g:Nat} (hg:g≤genB sv I au):(OfWK sv I au).won g=wonK sv I au (g:Nat):=by
 show (bif decide (g<genB sv I au) then _ else _)=_
 rcases Nat.lt_or_eq_of_le hg with h|rfl
 · rw [decide_eq_true h,cond_true]
 · rw [decide_eq_false (Nat.lt_irrefl _),cond_false,uN]
theorem ip {sv:Nat} {I:List Xb} {au:ByteArray} {g:Nat} {c:Xg} (h:(OfWK sv I au).won g=some c):g<genB sv I au∧wonK sv I au (g:Nat)=some c:=by
 change (bif decide (g<genB sv I au) then wonK sv I au (g:Nat) else none)=some c at h
 cases hd:decide (g<genB sv I au) with
 | true=>rw [hd] at h;exact ⟨cI hd,h⟩
 | false=>rw [hd] at h;cases h
theorem xd (hso:∀ n,n≤1000000→SortA n) (ks ki:Xj) {L:List Int} {I:List Xb} (h:KnR L I) (au:ByteArray) :
  OfHyp ks ki (OfWK L.length I au) (fun A=>A.Perm (selA au rightIt I)) (fun w=>Ints w ks L∧Items w ki I):=by
 have hR:∀ it∈I,Pu Tryz.prog 23 #[it.v] (fun w=>it.at_ w) (.bool (rightIt it)):=fun it hi=>cW it
 have hD:∀ it∈I,Pu Tryz.prog 19 #[it.v] (fun w=>it.at_ w∧Xf w) (.string (digIt it)):=fun it hi=>cb it (h.rng it hi) (h.dn it hi)
 have hI:I.length≤1000:=Nat.le_trans h.len (by decide)
 have hcl:(claimsV I au).length≤I.length:=by rw [claimsV,selC,List.length_map];exact List.length_filter_le _ _
 have hgl:=oa L.length I au
 have hlen:=h.len
 have hdc:∀ c∈claimsV I au,Pu Tryz.prog 19 #[(ofClaimI c).v] Xf (.string (dgCl c)):=fun c hc =>
  nN (cb (ofClaimI c) vo rfl) fun w hw=>⟨⟨⟨aJ w 1,aJ w 5⟩,aJ w 1⟩,hw⟩
 have hmem:∀ A:List Xa,A.Perm (selA au rightIt I)→∀ a∈A,∃ i∈I,i.act=a:=fun A hA a ha=>by
  have h1:=hA.subset ha
  rw [selA] at h1
  obtain ⟨i,hi,e⟩:=List.mem_map.1 h1
  exact ⟨i,(List.mem_filter.1 hi).1,e⟩
 exact {
  acts:=zo (iN ks ki I au rightIt digIt hR hD hI (hso _ aa)) fun w hw=>⟨hw.1.2,hw.2⟩
  ok:=fun A hA=>⟨⟨fun a ha=>by obtain ⟨i,hi,rfl⟩:=hmem A hA a ha;exact h.rng i hi,fun a ha=>by obtain ⟨i,hi,rfl⟩:=hmem A hA a ha;exact h.sm i hi⟩,by
   rw [hA.length_eq,selA,List.length_map]
   have:=List.length_filter_le (selB au rightIt) I
   omega⟩
  bB:=by show genB L.length I au≤_;omega
  won:=fun g hg=>by
   rw [An hg]
   exact Am ks ki L I au (g:Nat) (claimsV I au) (selB2 au (g:Nat) rightIt I) dgCl (by rw [selB2,List.length_map];have:=List.length_filter_le (selBB au (g:Nat) rightIt) I;omega) (by have:=h.sv;omega)
    (j3 ks ki I au rightIt digIt hR hD hI (srtC h au)) (jl ks ki I au (g:Nat) rightIt digIt hR hD hI (srtB h au _)) hdc
  bnd:=fun g c hw=>(ip hw).1
  clm:=fun g c hw p=>nN (rG p c (om (kE (ip hw).2).1)) fun w hw=>hw.2
  dg:=fun g c hw=>nN (hdc c (kE (ip hw).2).1) fun w hw=>hw.2
  ver:=fun A hA a ha p=>by
   obtain ⟨i,hi,rfl⟩:=hmem A hA a ha
   exact iW p i.act (h.rng i hi) }
theorem AH (hso:∀ n,n≤1000000→SortA n) (ks ki:Xj) {L:List Int} {I:List Xb} (h:KnR L I) (au:ByteArray) :
  Mk Tryz.prog 32 #[.agg #[ks.v,ki.v],.string au] (fun w=>(Ints w ks L∧Items w ki I)∧Xf w) (OfAt19 (OfWK L.length I au) fun A=>A.Perm (selA au rightIt I)) :=
 sr ks ki (OfWK L.length I au) _ _ (xd hso ks ki h au)
theorem wg {a:Xa} (hr:a.Rng) (h:rightB a=true) (ht:a.target.size≤maxLen):a.Sm:=by
 simp only [rightB,Bool.and_eq_true] at h
 have hB:=jW hr h.2
 have h1:=hB.to.len
 have h2:=hB.wraps.len
 have h3:=hr.to_len
 have h4:=hr.wraps_len
 exact ⟨by omega,by omega,ht⟩
theorem vm {a:Xa} (h:actZ a=true):a.to.n=0∧a.wraps.n=0:=by
 simp only [actZ,Bool.and_eq_true,decide_eq_true_eq] at h
 omega
theorem yJ {i:Xb} (hs:i.Str) (h:rightIt i=true):i.act.Sm:=by
 rw [rightIt,Bool.and_eq_true] at h
 obtain ⟨h1,h2⟩:=h
 have ht:=hs.act.target
 by_cases h0:i.kind=0
 · rw [rightK2,decide_eq_true h0,cond_true] at h1
   exact wg hs.rng h1 ht
 · have hz:actZ i.act=true:=by
    rw [rightK2,decide_eq_false h0,cond_false] at h1
    rw [restI,decide_eq_false h0,cond_false] at h2
    by_cases k1:i.kind=1
    · rw [decide_eq_true k1,cond_true,sameIZ,Bool.and_eq_true,Bool.and_eq_true] at h2
      exact h2.2.1
    · rw [decide_eq_false k1,cond_false] at h1 h2
      by_cases k2:i.kind=2
      · rw [decide_eq_true k2,cond_true,sameIZ,Bool.and_eq_true,Bool.and_eq_true] at h2
        exact h2.2.1
      · rw [decide_eq_false k2,cond_false] at h1 h2
        by_cases k3:i.kind=3
        · rw [decide_eq_true k3,cond_true,sameIZ,Bool.and_eq_true,Bool.and_eq_true] at h2
          exact h2.2.1
        · rw [decide_eq_false k3,cond_false] at h1
          cases h1
   obtain ⟨e1,e2⟩:=vm hz
   exact ⟨by omega,by omega,ht⟩
end Go.Proofs.YtggionfjlgfihaaGreatDoor
