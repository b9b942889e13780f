/- Joined by program out of: Lm S0 S4 Yq Po. -/
import Derived.Test.YtoefdofbekihdaaGreatDoorV14
import Derived.Test.YtoefdofbekihdaaGreatDoorCards
import Derived.Test.YtoefdofbekihdaaGreatDoorTie
import Derived.WalkKit
import Derived.ProofKit
import Derived.Deep.DeepHandedRow
import Derived.Lib.LaidTab
set_option linter.unusedVariables false
set_option linter.unusedSimpArgs false
set_option maxHeartbeats 16000000
namespace Go.Proofs.YtoefdofbekihdaaGreatDoor
open Go Go.Proofs Sy
def fewBad (l:List ChainD) (k:Nat):Bool:=!shortV (l.getD k ChainD.zero)
def fewV (l:List ChainD):Bool:=decide (l.length≤6)&&allB l.length (fewBad l)
set_option maxHeartbeats 1000000 in
theorem Bc (s:SlV) (l:List ChainD):Pu Tryz.prog 10 #[s.v] (fun w=>Chains w s l) (.bool (fewV l)):=by
  refine ak (args:=[_]) _ Tryz.func10 rfl Tryz.ntmps10 rfl fun av bor w0=>?_
  refine aK (p:=s.n=l.length∧s.n≤maxLen∧(0<l.length→s.p.isSome=true)) (fun w h=>⟨h.len_,h.max_,h.some_⟩) fun ⟨hl,hm,hp⟩=>?_
  simp only [maxLen] at hm
  repeat' (first|refine gs ?_|refine gs1 fun _=>?_|(refine gp ?_ ?_<;>intro hx_ this)|fail)
  · apply ad;apply ag;rfl;rfl
    rw [fewV,Zn aa,ZG]
  refine ap (ι:=Upto l.length (fewBad l)) (fun i=>⟨[(0,s.v),(3,.int .i64 i.k)],[],fun w=>Chains w s l⟩) (fun i=>l.length-i.k) (Upto.zero _ _) (aj ⟨rfl,rfl,trivial⟩ (al _) fun _ h=>h) fun i=>?_
  have hik:=i.hk
  repeat' (first|refine gs ?_|refine gs1 fun _=>?_|(refine gp ?_ ?_<;>intro hx_ this)|fail)
  · have hlt:i.k<l.length:=by omega
    have hp':=hp aa
    obtain ⟨c,hc⟩:∃ c,l[i.k]?=some c:=⟨_,Zm hlt⟩
    have hcm:=List.mem_of_getElem? hc
    have hfb:fewBad l i.k=!shortV c:=by simp only [fewBad,ZL,hc,Option.getD_some]
    refine ii (p:=c.acts.n=c.actsL.length∧c.acts.n≤maxLen∧(0<c.actsL.length→c.acts.p.isSome=true)) (fun w h=>⟨(h.2 c hcm).len_,(h.2 c hcm).max_,(h.2 c hcm).some_⟩) fun ⟨hl2,hm2,hp2⟩=>?_
    simp only [maxLen] at hm2
    repeat' (first|refine gs ?_|refine gs1 fun _=>?_|(refine aI (q:=i.k*6) ?_)|(refine gj ?_)|(refine dt (q:=i.k*6+1) (u:=c.acts.v) (hF:=fun w h=>(Chains.get h hc).2.2 1 _ rfl) ?_)|(refine gp ?_ ?_<;>intro hx_ this)|fail)
    · apply ad;apply ag;rfl;rfl
      rw [fewV,cN hlt (by rw [hfb,shortV,Zn (by omega)];rfl),ZH]
    refine ap (ι:=Upto c.actsL.length (shortBad c.actsL)) (fun j=>⟨[(0,s.v),(3,.int .i64 i.k),(4,.int .i64 j.k)],[],fun w=>Chains w s l⟩) (fun j=>c.actsL.length-j.k) (Upto.zero _ _) (aj ⟨rfl,rfl,rfl,trivial⟩ (al _) fun _ h=>h) fun j=>?_
    have hjk:=j.hk
    repeat' (first|refine gs ?_|refine gs1 fun _=>?_|(refine aI (q:=i.k*6) ?_)|(refine gj ?_)|(refine dt (q:=i.k*6+1) (u:=c.acts.v) (hF:=fun w h=>(Chains.get h hc).2.2 1 _ rfl) ?_)|(refine gp ?_ ?_<;>intro hx_ this)|fail)
    · have hjl:j.k<c.actsL.length:=by omega
      have hp3:=hp2 aa
      obtain ⟨x,hx⟩:∃ x,c.actsL[j.k]?=some x:=⟨_,Zm hjl⟩
      have hB:shortBad c.actsL j.k=(decide (8<x.to.n)||decide (8<x.wraps.n)||decide (600<x.text.size)||decide (600<x.body.data.size)):=by simp only [shortBad,ZL,hx,Option.getD_some]
      repeat' (first|refine gs ?_|refine gs1 fun _=>?_|(refine aI (q:=j.k*20) ?_)|(refine bQ (cs:=x.cells) (hF:=fun w h=>Acts.get (h.2 c hcm) hx) ?_)|(refine gp ?_ ?_<;>intro hx_ this)|fail)
      all_goals first
        | (apply ad;apply ag;rfl;rfl
           have hb:shortBad c.actsL j.k=true:=by
             rw [hB];simp only [Bool.or_eq_true,ZT];simp only [ZT,decide_eq_false_iff_not] at *;omega
           rw [fewV,cN hlt (by rw [hfb,shortV,cN hjl hb,ZH];rfl),ZH])
        | (have hb:shortBad c.actsL j.k=false:=by
             rw [hB];simp only [Bool.or_eq_false_iff,decide_eq_false_iff_not];simp only [ZT,decide_eq_false_iff_not] at *;omega
           exact ⟨j.next hjl hb,(by show c.actsL.length-(j.k+1)<c.actsL.length-j.k;omega),aj ⟨rfl,rfl,rfl,trivial⟩ (List.Sublist.cons _ (al _)) fun _ h=>h⟩)
    · have hsv:shortV c=true:=by rw [shortV,j.all aa,ZA (by omega)];rfl
      exact ⟨i.next hlt (by rw [hfb,hsv];rfl),(by show l.length-(i.k+1)<l.length-i.k;omega),aj ⟨rfl,rfl,trivial⟩ (al _) fun _ h=>h⟩
  · apply ad;apply ag;rfl;rfl
    rw [fewV,i.all aa,ZA (by omega)]
    rfl
def spamS:ByteArray:=⟨#[115,112,97,109]⟩
def botS:ByteArray:=⟨#[98,111,116]⟩
def xS:ByteArray:=⟨#[120]⟩
def lxP1:ActD:={ ActD.zero with kind:=23,target:=idB,text:=spamS,n:=9 }
def lxP2:ActD:={ ActD.zero with kind:=23,target:=idB,text:=botS,n:=9 }
def lxP3:ActD:={ ActD.zero with kind:=23,target:=idA,text:=xS,n:=5 }
def lxL:List ActD:=[lxP1,lxP2,lxP3]
def chainX (b:Nat):ChainD:=⟨idA,⟨some ⟨b,0,none⟩,3,3⟩,⟨none,0,0⟩,⟨#[]⟩,0,false,lxL⟩
def lx0:ListD:=⟨idB,botS,idA,9⟩
theorem pF {P:ActD→Prop} (h1:P lxP1) (h2:P lxP2) (h3:P lxP3):∀ a∈lxL,P a:=by
 intro a ha
 simp only [lxL,Z8,List.not_mem_nil,or_false] at ha
 rcases ha with rfl|rfl|rfl
 · exact h1
 · exact h2
 · exact h3
theorem E6:ActsOk lxL:=⟨pF ⟨by decide,fun w hw=>absurd hw (by show ¬ w∈[];simp),rfl,rfl⟩ ⟨by decide,fun w hw=>absurd hw (by show ¬ w∈[];simp),rfl,rfl⟩ ⟨by decide,fun w hw=>absurd hw (by show ¬ w∈[];simp),rfl,rfl⟩,
 pF ⟨by decide,by decide,by decide⟩ ⟨by decide,by decide,by decide⟩ ⟨by decide,by decide,by decide⟩⟩
theorem xM {b:Nat} {w:World} (hc:(cel b 50 (lxL.map ActD.cells).flatten).F w):(chainX b).at_ w :=
 ⟨aO hc rfl (by decide) (fu lxL),pF ⟨aW w 1,aW w 5⟩ ⟨aW w 1,aW w 5⟩ ⟨aW w 1,aW w 5⟩⟩
theorem chains1 {b b2:Nat} {w:World} (hc:(cel b 50 (lxL.map ActD.cells).flatten).F w) (h2:(cel b2 36 (chainX b).cells).F w):Chains w ⟨some ⟨b2,0,none⟩,1,1⟩ [chainX b] :=
 ⟨aO (xs:=[(chainX b).cells]) h2 rfl (by decide) (by intro r hr;rw [List.mem_singleton.1 hr];rfl),fun c h=>by rw [List.mem_singleton.1 h];exact xM hc⟩
theorem chainsNil (w:World):Chains w ⟨none,0,0⟩ []:=⟨aW w 6,fun c h=>by cases h⟩
set_option maxHeartbeats 1000000 in
theorem sX:Pu Tryz.prog 6 #[] Glob (.bool true):=by
 refine ak (args:=[]) _ Tryz.func6 rfl Tryz.ntmps6 rfl fun av bor w0=>?_
 repeat' (first|refine aC (cs:=lxP1.cells) (hf:=by rfl) ?_|refine aC (cs:=lxP2.cells) (hf:=by rfl) ?_|refine aC (cs:=lxP3.cells) (hf:=by rfl) ?_|(refine cT (size:=20) (vs:=[.agg lxP1.cells.toArray,.agg lxP2.cells.toArray,.agg lxP3.cells.toArray]) (css:=(lxL.map ActD.cells).flatten) (hsz:=by rfl) (hcs:=by rfl) fun bR=>?_;refine bp ?_)|refine aC (cs:=(chainX bR).cells) (hf:=by rfl) ?_|(refine cT (size:=6) (vs:=[(chainX bR).v]) (css:=(chainX bR).cells) (hsz:=by rfl) (hcs:=by rfl) fun bC=>?_;refine bp ?_)|(refine du (len:=1) (vs:=[encB idA]) fun bK=>?_;refine bp ?_)|refine gs ?_|refine gs1 fun _=>?_|(refine gp ?_ ?_<;>intro hx_ this)|fail)
 have ho:=rr ⟨some ⟨bC,0,none⟩,1,1⟩ [chainX bR] ⟨some ⟨bK,0,none⟩,1,1⟩ [idA] 5 (fun c h=>by rw [List.mem_singleton.1 h];exact E6) (fun c h=>by rw [List.mem_singleton.1 h];show 3≤1000;decide) (by decide)
 rw [show ofV [chainX bR] [idA] 5=[lx0] from by kernel_rfl] at ho
 refine cB (hc:=ho) (hX:=fun w h=>⟨chains1 h.1.1.2 h.1.2,kj (l:=[idA]) h.2 (by decide),h.1.1.1⟩) fun v4 X4 h4=>?_
 obtain ⟨s4,rfl,hs4⟩:=h4
 have hA:=j2 s4 [lx0] idB
 rw [show hasP (hasL [lx0] idB)=.tuple #[lx0.v,.bool true] from by kernel_rfl] at hA
 have hB:=j2 s4 [lx0] idA
 rw [show hasP (hasL [lx0] idA)=.tuple #[ListD.zero.v,.bool false] from by kernel_rfl] at hB
 have hC:=j2 ⟨none,0,0⟩ [] idB
 rw [show hasP (hasL [] idB)=.tuple #[ListD.zero.v,.bool false] from by kernel_rfl] at hC
 repeat' (first|(refine ab (hc:=hA) (hX:=fun w h=>hs4 w h.2) ?_)|(refine ab (hc:=hB) (hX:=fun w h=>hs4 w h.2) ?_)|(refine ab (hc:=hC) (hX:=fun w h=>aW w 4) ?_)|refine gs ?_|refine gs1 fun _=>?_|(refine gp ?_ ?_<;>intro hx_ this)|fail)
 rename_i b5 b7 b9
 refine tW (X':=fun w=>Glob w∧Lists w s4 [lx0]) (fun w h=>⟨h.1.1.1.1,hs4 w h.2⟩) ?_
 refine aK (fun w h=>Lists.know w h.2) fun ⟨hn4,hm4,hp4⟩=>?_
 have hp4':=hp4 (by decide)
 have hn4':s4.n=1:=hn4
 have heq:eqLD lx0 lx0=true:=eqLD_iff.2 rfl
 have hsa:∀ r:SlV,Pu Tryz.prog 16 #[s4.v,r.v] (fun w=>Lists w s4 [lx0]∧Lists w r [lx0]) (.bool true):=fun r=>by
  have:=nW s4 r [lx0] [lx0]
  rw [oD] at this
  exact this
 have hof:∀ r:SlV,Mk Tryz.prog 11 #[(⟨none,0,0⟩:SlV).v,r.v,.int .i64 0] (fun w=>Chains w ⟨none,0,0⟩ []∧Strs w r [idA]∧Glob w) (fun u X=>∃ S:SlV,u=S.v∧∀ w,X w→Lists w S []):=fun r=>by
  have:=rr ⟨none,0,0⟩ [] r [idA] 0 (fun c h=>by cases h) (fun c h=>by cases h) (by decide)
  rw [show ofV [] [idA] 0=[] from by kernel_rfl] at this
  exact this
 (refine aq ⟨[0],[(1,⟨[],[(2,⟨[3,4,5,6,7,8,9],[(10,⟨[],[(11,⟨[12,13,14,15,16,17,18,19,20,21,22,23,24,25,26,27,28,29,30,31],[]⟩)]⟩)]⟩)]⟩)]⟩ [cel b5 52 lx0.cells] (fun w=>Glob w∧Lists w s4 [lx0]) (h:=?_))
 all_goals repeat' (first|(refine cB (hc:=hof ⟨some ⟨bq,0,none⟩,1,1⟩) (hX:=fun w h=>⟨chainsNil w,kj (l:=[idA]) h.2 (by decide),h.1.1⟩) fun v5 X5 h5=>?_;obtain ⟨s5,rfl,hs5⟩:=h5;refine ii (p:=decide ((s5.n:Int)=0)=true) (fun w h=>by have:=(hs5 w h.2).len_;rw [this];rfl) fun hn5=>?_)|(refine ab (hc:=hsa ⟨some ⟨bl,0,none⟩,1,1⟩) (hX:=fun w h=>⟨h.1.1.1.2,aO (xs:=[lx0.cells]) h.2 rfl (by decide) (by intro r hr;rw [List.mem_singleton.1 hr];rfl)⟩) ?_)|refine gd ?_|refine ax (hy:=by first|(apply eR (cs:=lx0.cells);rfl;rfl)|(apply aB (q:=0);rfl;rfl;omega;omega;assumption;rfl)|(apply ef (cs:=lx0.cells);rfl;exact fun w h=>Lists.get (i:=0) h.2 rfl)|(apply Ew lx0 lx0;rfl;rfl)) ?_|refine az ?_ (h':=?_)|exact aA|(refine du (len:=1) (vs:=[encB idA]) fun bq=>?_;refine bp ?_)|(refine cT (size:=4) (vs:=[.agg lx0.cells.toArray]) (css:=lx0.cells) (hsz:=by rfl) (hcs:=by rfl) fun bl=>?_;refine bp ?_)|refine gs1 fun _=>?_|(refine gq ?_ ?_<;>intro hx_ this)|fail)
 all_goals
  apply cw_ret
  apply ad;apply ag;rfl;rfl
  rfl
theorem zL {a:ActD} (hr:a.Rng) (h:rightB a=true) (ht:a.target.size≤maxLen):a.Sm:=by
 simp only [rightB,ZM] at h
 have hB:=kJ hr h.2
 have h1:=hB.to.len
 have h2:=hB.wraps.len
 have h3:=hr.to_len
 have h4:=hr.wraps_len
 exact ⟨by omega,by omega,ht⟩
theorem xZ {a:ActD} (h:actZ a=true):a.to.n=0∧a.wraps.n=0:=by
 simp only [actZ,ZM,ZT] at h
 omega
theorem CC {i:ItemD} (hs:i.Str) (h:rightIt i=true):i.act.Sm:=by
 rw [rightIt,ZM] at h
 obtain ⟨h1,h2⟩:=h
 have ht:=hs.act.target
 by_cases h0:i.kind=0
 · rw [rightK2,ZA h0,ZC] at h1
   exact zL hs.rng h1 ht
 · have hz:actZ i.act=true:=by
    rw [rightK2,Zn h0,ZB] at h1
    rw [restI,Zn h0,ZB] at h2
    by_cases k1:i.kind=1
    · rw [ZA k1,ZC,sameIZ,ZM,ZM] at h2
      exact h2.2.1
    · rw [Zn k1,ZB] at h1 h2
      by_cases k2:i.kind=2
      · rw [ZA k2,ZC,sameIZ,ZM,ZM] at h2
        exact h2.2.1
      · rw [Zn k2,ZB] at h1 h2
        by_cases k3:i.kind=3
        · rw [ZA k3,ZC,sameIZ,ZM,ZM] at h2
          exact h2.2.1
        · rw [Zn k3,ZB] at h1
          cases h1
   obtain ⟨e1,e2⟩:=xZ hz
   exact ⟨by omega,by omega,ht⟩
theorem xp {L:List Int} {I:List ItemD} (h:rightKn L I=true) (hl:I.length≤100) (hs:∀ i∈I,i.Str) (hd:∀ i∈I,i.dec.to.n=i.dec.toL.length):KnR L I :=
 E8 h hl (fun i hi=>(hs i hi).rng) (fun i hi=>CC (hs i hi) (by
  have h1:=gO h i hi
  rw [signedIt,ZM] at h1
  exact h1.1)) hd
def listX (actor reason:ByteArray) (until_:Int):ActD:={ ActD.zero with kind:=23,target:=actor,text:=reason,n:=until_ }
theorem AK (w:World) (a r:ByteArray) (n:Int):(listX a r n).at_ w:=⟨aW w 1,aW w 5⟩
def undX (d:ByteArray):ActD:={ ActD.zero with kind:=6,object:=d }
theorem B1 (w:World) (d:ByteArray):(undX d).at_ w:=⟨aW w 1,aW w 5⟩
structure UndW (L:List Int) (I2:List ItemD) (n:ChainD) (k:KyD) (D:ByteArray) where
 s8:SlV
 s9:SlV
 sN:SlV
 m:ChainD
 kl2:List KeyD
 b34:Nat
 e5:s8.n=(sgA k n (undX D)).to.n
 e6:s9.n=(sgA k n (undX D)).wraps.n
 hQ3:QK L (addK L I2 (ofActI ((sgA k n (undX D)).re s8 s9))) n.id m kl2
 hm:m.acts.n=m.actsL.length
set_option maxRecDepth 20000 in
set_option maxHeartbeats 16000000 in
theorem mJ (ks ki:SlV) (L:List Int) (I:List ItemD) (hs:∀ i∈I,i.Str) (hd:∀ i∈I,i.dec.to.n=i.dec.toL.length) (id:ByteArray) (k:KyD) (actor reason:ByteArray) (until_ now:Int) (so:SlV) (others:List ByteArray)
  (hac:actor.size≤maxLen) (hun:until_<9223372036854775808) :
  Pu Tryz.prog 3 #[.agg #[ks.v,ki.v],.string id,k.v,.string actor,.string reason,.int .i64 until_,.int .i64 now,so.v] (fun w=>((Ints w ks L∧Items w ki I)∧Strs w so others)∧Glob w) (.bool true):=by
 have hsm:=sX
 have hrt:=pq ks ki L I hs hd
 refine ak (args:=[_,_,_,_,_,_,_,_]) _ Tryz.func3 rfl Tryz.ntmps3 rfl fun av bor w0=>?_
 refine aK (p:=ki.n=I.length∧so.n=others.length) (fun w h=>⟨h.1.1.2.len_,h.1.2.len_⟩) fun ⟨hkin,hson⟩=>?_
 by_cases hbig:30<(ki.n:Int)∨7<(so.n:Int)∨600<(reason.size:Int)
 · cases hR:rightKn L I
   all_goals
    rw [hR] at hrt
    repeat' (first|(refine ab (hc:=hsm) (hX:=fun w h=>h.2) ?_)|(refine ab (hc:=hrt) (hX:=fun w h=>h.1.1) ?_)|refine gs ?_|refine gs1 fun _=>?_|(refine aw ?_)|(refine gp ?_ ?_<;>intro hx_ this)|fail)
    all_goals first
     | exact ad (ag rfl rfl) rfl
     | (exfalso;omega)
 cases hR:rightKn L I with
 | false =>
  rw [hR] at hrt
  repeat' (first|refine ie (hab:=by omega) ?_|(refine ab (hc:=hsm) (hX:=fun w h=>h.2) ?_)|(refine ab (hc:=hrt) (hX:=fun w h=>h.1.1) ?_)|refine gs ?_|refine gs1 fun _=>?_|(refine aw ?_)|(refine gp ?_ ?_<;>intro hx_ this)|fail)
  all_goals first
   | exact ad (ag rfl rfl) rfl
 | true =>
  rw [hR] at hrt
  have hK:=xp hR aa hs hd
  have hsrc:∀ w,Strs w so others→Src Tryz.prog w 1 so.v so.n (others.map encB):=fun w h=>by
   have h1:=fQ (P:=Tryz.prog) h (fun cs hcs=>by simp only [strs,List.mem_map] at hcs;obtain ⟨x,_,rfl⟩:=hcs;rfl)
   rwa [←jM] at h1
  repeat' (first|refine ie (hab:=by omega) ?_|(refine ab (hc:=hsm) (hX:=fun w h=>h.2) ?_)|(refine ab (hc:=hrt) (hX:=fun w h=>h.1.1) ?_)|(refine cB (hc:=qe ks ki hK) (hX:=fun w h=>⟨h.1.1,h.2⟩) fun v X1 h1=>?_;obtain ⟨s1,l1,hA1,rfl,hw1⟩:=h1)|refine gs ?_|refine gs1 fun _=>?_|(refine aw ?_)|(refine gp ?_ ?_<;>intro hx_ this)|fail)
  rename_i b8 b10
  have hfi:=vu s1 l1 id
  have hfe:=Bc s1 l1
  cases hfc:findC l1 id with
  | none =>
   rw [hfc] at hfi
   replace hfi:Pu Tryz.prog 9 #[s1.v,.string id] (fun w=>Chains w s1 l1) (.tuple #[ChainD.zero.v,.bool false]):=hfi
   cases hfB:fewV l1
   all_goals
    rw [hfB] at hfe
    repeat' (first|(refine ab (hc:=hfi) (hX:=fun w h=>hw1 w h.2) ?_)|(refine ab (hc:=hfe) (hX:=fun w h=>hw1 w h.2) ?_)|refine gs ?_|refine gs1 fun _=>?_|(refine aw ?_)|(refine gp ?_ ?_<;>intro hx_ this)|fail)
    all_goals first
     | exact ad (ag rfl rfl) rfl
  | some c =>
   rw [hfc] at hfi
   replace hfi:Pu Tryz.prog 9 #[s1.v,.string id] (fun w=>Chains w s1 l1) (.tuple #[c.v,.bool true]):=hfi
   cases hfB:fewV l1 with
   | false =>
    rw [hfB] at hfe
    repeat' (first|(refine ab (hc:=hfi) (hX:=fun w h=>hw1 w h.2) ?_)|(refine ab (hc:=hfe) (hX:=fun w h=>hw1 w h.2) ?_)|refine gs ?_|refine gs1 fun _=>?_|(refine aw ?_)|(refine gp ?_ ?_<;>intro hx_ this)|fail)
    all_goals first
     | exact ad (ag rfl rfl) rfl
   | true =>
    rw [hfB] at hfe
    obtain ⟨kl,hQ,h0,hau⟩:=xU hA1 hfc
    have hok1:=lf hK hA1
    have G:=gD hK hQ
    have hcm:=List.mem_of_find?_eq_some hfc
    refine ii (p:=c.acts.n=c.actsL.length) (fun w h=>((hw1 w h.2).2 c hcm).len_) fun hcn=>?_
    repeat' (first|refine k7 fun _=>?_|(refine ab (hc:=hfi) (hX:=fun w h=>hw1 w h.2) ?_)|(refine ab (hc:=hfe) (hX:=fun w h=>hw1 w h.2) ?_)|(refine aG (size:=1) (z:=.string ⟨#[]⟩) (m:=0) (news:=others.map encB) (q:=so.n) rfl rfl rfl rfl (fun _=>At.here _) (fun w G=>hsrc w G.keep.now.1.1.2) aa (by simp only [maxLen];omega) rfl ?_ rfl ?_;(first|with_reducible rfl|with_reducible assumption|with_reducible exact ZI|with_reducible exact ZK);intro A2 c2)|(refine aG (size:=1) (z:=.string ⟨#[]⟩) (m:=0+so.n) (news:=[encB id]) (q:=1) rfl rfl rfl rfl (fun _=>At.there _ (At.here _)) (fun w G=>bL G ar rfl rfl 1) aa (by simp only [maxLen];omega) rfl ?_ rfl ?_;(first|with_reducible rfl|with_reducible assumption|with_reducible exact ZI|with_reducible exact ZK);intro A3 c3)|refine gs ?_|refine gs1 fun _=>?_|(refine aw ?_)|(refine gp ?_ ?_<;>intro hx_ this)|fail)
    rename_i b19 bz bi
    have hkn:0+so.n+1=(others++[id]).length:=by rw [ZX,hson];simp
    have hst:∀ w,(orow 9 1 (.slice A3 (0+so.n+1) c3) (0+so.n+1) ([]++others.map encB++[encB id])).F w→Strs w ⟨A3,0+so.n+1,c3⟩ (others++[id]):=fun w h=>gl (l:=others++[id]) (by rw [Qn];exact h) hkn
    refine da (List.Perm.swap _ _ _) ?_
    refine bp ?_
    have hKl:(others++[id]).length≤1000:=by omega
    have hKm:id∈others++[id]:=List.mem_append_right _ (List.mem_singleton.2 rfl)
    generalize others++[id]=KS at *
    refine cB (hc:=rr s1 l1 ⟨A3,0+so.n+1,c3⟩ KS now (fun c hc=>(hok1 c hc).1) (fun c hc=>Qr (hok1 c hc).2 (by decide)) hKl) (hX:=fun w h=>⟨hw1 w h.1.2,hst w h.2,h.1.1.2⟩) fun v X2 h2=>?_
    obtain ⟨s2,rfl,hw2⟩:=h2
    refine cv (X':=fun w=>((((Ints w ks L∧Items w ki I)∧Glob w)∧Chains w s1 l1)∧Strs w ⟨A3,0+so.n+1,c3⟩ KS)∧Lists w s2 (ofV l1 KS now)) (fun w h=>⟨⟨⟨⟨h.1.1.1.1.1,h.1.1.1.2⟩,hw1 w h.1.1.2⟩,hst w h.1.2⟩,hw2 w h.2⟩) ?_
    have hxR:(listX actor reason until_).Rng:=⟨by simp only [listX,ActD.zero];omega,fun w hw=>(List.not_mem_nil hw).elim,rfl,rfl⟩
    have hxS:(listX actor reason until_).Sm:=⟨by show 0*16≤_;decide,by show 0*64≤_;decide,hac⟩
    have hG1:=G.len
    repeat' (first|(refine cB (hc:=kn ks ki hK aa c aa k (listX actor reason until_) hxR hxS) (hX:=fun w h=>⟨⟨⟨h.1.1.1.1,h.1.1.2.2 c hcm⟩,AK w _ _ _⟩,h.1.1.1.2⟩) fun v X3 h3=>?_;obtain ⟨s3,s4,s5,n,kl',e3,e4,hQ',rfl,hw3⟩:=h3)|refine gs ?_|refine gs1 fun _=>?_|(refine aw ?_)|(refine aC (cs:=(listX actor reason until_).cells) (hf:=by rfl) ?_)|(refine gp ?_ ?_<;>intro hx_ this)|fail)
    · exact ad (ag rfl rfl) rfl
    rename_i b23 b24
    have hone:(n.acts.n:Int)=(c.acts.n:Int)+1:=by
     cases hdd:decide ((n.acts.n:Int)=(c.acts.n:Int)+1) with
     | true=>exact aN hdd
     | false=>rw [hdd] at hx_;exact absurd hx_ (by decide)
    refine ii (p:=n.acts.n=n.actsL.length) (fun w h=>(hw3 w ⟨h.1.1.1.1.1.2,h.2⟩).2.len_) fun hnn=>?_
    obtain ⟨hS,hQ2⟩:=qD hK hQ h0 hcn hnn e3 e4 hQ' hone
    clear hQ'
    have hbR:=zY (k:=k) (c:=c) hxR aa
    have hbS:=D6 (k:=k) (c:=c) hxS
    have hK2:KnR L (addK L I (ofActI ((sgA k c (listX actor reason until_)).re s3 s4))):=mK hK (iX hbR e3 e4) (pa hbS e3 e4) rfl aa
    have hl2:=BO L I (ofActI ((sgA k c (listX actor reason until_)).re s3 s4))
    generalize sgA k c (listX actor reason until_)=b at *
    obtain ⟨I2,hI2⟩:∃ I2,addK L I (ofActI (b.re s3 s4))=I2:=⟨_,rfl⟩
    rw [hI2] at hK2 hl2 hQ2 hw3
    have G2:=gD hK2 hQ2
    have hok2:=fun {l} (h:AllK L I2 l)=>lf hK2 h
    repeat' (first|(refine cB (hc:=qe ks s5 hK2) (hX:=fun w h=>⟨⟨h.1.1.1.1.1.1,(hw3 w ⟨h.1.1.1.1.1.2,h.2⟩).1⟩,h.1.1.1.1.2⟩) fun v X4 h4=>?_;obtain ⟨s6,l2,hA2,rfl,hw4⟩:=h4;refine cv (X':=fun w=>((((((Ints w ks L∧Items w ki I)∧Glob w)∧Chains w s1 l1)∧Strs w ⟨A3,0+so.n+1,c3⟩ KS)∧Lists w s2 (ofV l1 KS now))∧Items w s5 I2∧n.at_ w)∧Chains w s6 l2) (fun w h=>⟨⟨h.1.1,hw3 w ⟨h.1.1.1.1.1.1.2,h.1.2⟩⟩,hw4 w h.2⟩) ?_)|refine gs ?_|refine gs1 fun _=>?_|(refine gp ?_ ?_<;>intro hx_ this)|fail)
    refine cB (hc:=rr s6 l2 ⟨A3,0+so.n+1,c3⟩ KS now (fun c hc=>(hok2 hA2 c hc).1) (fun c hc=>Qr (hok2 hA2 c hc).2 (by decide)) hKl) (hX:=fun w h=>⟨h.2,h.1.1.1.2,h.1.1.1.1.1.2⟩) fun v X5 h5=>?_
    obtain ⟨s7,rfl,hw5⟩:=h5
    refine cv (X':=fun w=>((((((Ints w ks L∧Items w ki I)∧Glob w)∧Chains w s1 l1)∧Strs w ⟨A3,0+so.n+1,c3⟩ KS)∧Lists w s2 (ofV l1 KS now))∧Items w s5 I2∧n.at_ w)∧Lists w s7 (ofV l2 KS now)) (fun w h=>⟨h.1.1,hw5 w h.2⟩) ?_
    repeat' (first|apply bM|apply Qw|refine bt ?_|refine aL ?_|refine cd ?_|refine cD ?_|refine aM ?_|refine aU ?_|refine aV ?_|refine ma ?_|refine cu ?_|refine bX ?_|refine cE ?_|refine bU ?_|refine bI ?_|refine ci ?_|refine mc ?_|refine dJ (h:=?_)|refine bn ?_|refine bo ?_|refine bj ?_|refine bc fun _=>?_|refine cj fun _=>?_|refine du fun _=>?_|refine bT ?_|refine aS ?_|refine QA ?_|refine QB ?_|apply Qz|apply Qy|apply cw_ret|apply cw_exit|refine bS ?_|refine bx ?_|refine bw ?_|((fail_if_success (refine cw ?_));refine br (ht:=?_) (hf:=?_);all_goals (intro hx_;first|have:=aN hx_|have:=aZ hx_|skip))|(refine cw_cond (ht:=?_) (hf:=?_);all_goals (intro hx_;first|have:=aN hx_|have:=aZ hx_|skip)))
    have hQ2':QK L (addK L I (ofActI (b.re s3 s4))) id n kl':=by rw [hI2];exact hQ2
    obtain ⟨hOM,hn0⟩:=tI (l1:=l1) (l2:=l2) (KS:=KS) hK hQ h0 hau hS hQ2' hA1 (by rw [hI2];exact hA2) rfl hKm
    have hfirst:(hasL (ofV l2 KS now) actor).isSome=((hasL (ofV l1 KS now) actor).isSome||decide (now<until_))∧∀ x,hasL (ofV l2 KS now) actor=some x→until_≤x.until_∧((hasL (ofV l1 KS now) actor).getD ListD.zero).until_≤x.until_:=hOM.first hn0
    have hothers:∀ x,x∈ofV l2 KS now→x.actor≠actor→hasL (ofV l1 KS now) x.actor=some x:=fun x h1 h2=>hOM.others h1 h2
    have hz0:ListD.zero.until_=0:=rfl
    have hn0':0≤until_:=hn0
    have hha1:=j2 s2 (ofV l1 KS now) actor
    have hha2:=j2 s7 (ofV l2 KS now) actor
    have hhas:=fun x=>j2 s2 (ofV l1 KS now) x
    have hasc2:∀ x,x∈ofV l2 KS now→x∈ofV l2 KS now:=fun _ h=>h
    generalize hM1:ofV l1 KS now=M1 at *
    obtain ⟨M2,hM2⟩:∃ M2,ofV l2 KS now=M2:=⟨_,rfl⟩
    rw [hM2] at hfirst hothers hha2 hasc2 ⊢
    refine Br (ι:=Unit) (fun _=>⟨[(3,.string actor),(6,.int .i64 now),(17,.bool true),(21,.slice A3 (0+so.n+1) c3),(22,s2.v),(26,s7.v),(10,.pointer (some ⟨b10,0,none⟩)),(19,.pointer (some ⟨b19,0,none⟩)),(23,.pointer (some ⟨b23,0,none⟩)),(24,.pointer (some ⟨b24,0,none⟩))],[cel b24 36 n.cells,cel b23 25 [ks.v,s5.v],cel b19 36 c.cells,cel b10 27 k.v.cells.toList],fun w=>((((((Ints w ks L∧Items w ki I)∧Glob w)∧Chains w s1 l1)∧Strs w ⟨A3,0+so.n+1,c3⟩ KS)∧Lists w s2 M1)∧Items w s5 I2∧n.at_ w)∧Lists w s7 M2⟩) ?_ fun _=>?_
    · cases hW:hasL M1 actor
      all_goals
       rw [hW] at hha1 hfirst
       cases hY:hasL M2 actor
       all_goals
        rw [hY] at hha2 hfirst
        by_cases hu:now<until_
        all_goals first
         | (exfalso;revert hfirst;simp [hu];done)
         | skip
      all_goals
       have hf2:=hfirst.2
       first
        | replace hf2:=hf2 _ rfl
        | skip
       simp only [Option.getD_some,Option.getD_none] at hf2
       simp only [hasP,Option.getD_none,Option.getD_some,Option.isSome_none,Option.isSome_some] at hha1 hha2
       repeat' (first|refine kZ (hab:=by omega) ?_|refine ie (hab:=by omega) ?_|refine Cv false (hr:=by rfl) (h:=?_)|refine sR (hab:=by omega) ?_|(refine ab (hc:=hha1) (hX:=fun w h=>h.1.1.2) ?_)|(refine ab (hc:=hha2) (hX:=fun w h=>h.2) ?_)|refine gs ?_|refine gs1 fun _=>?_|(refine gp ?_ ?_<;>intro hx_ this)|fail)
      all_goals first
       | exact ⟨(),aj ⟨rfl,rfl,rfl,rfl,rfl,rfl,rfl,rfl,rfl,rfl,trivial⟩ (.cons _ (.cons _ (.cons_cons _ (.cons_cons _ (.cons _ (.cons_cons _ (.cons_cons _ (ZR _)))))))) fun _ h=>h⟩
    repeat' (first|refine gs ?_|refine gs1 fun _=>?_|(refine gp ?_ ?_<;>intro hx_ this)|fail)
    refine aK (fun w h=>Lists.know w h.2) fun ⟨hn7,hm7,hp7⟩=>?_
    simp only [maxLen] at hm7
    refine ap (ι:=Kth M2.length) (fun i=>⟨[(3,.string actor),(6,.int .i64 now),(17,.bool true),(21,.slice A3 (0+so.n+1) c3),(22,s2.v),(26,s7.v),(10,.pointer (some ⟨b10,0,none⟩)),(19,.pointer (some ⟨b19,0,none⟩)),(23,.pointer (some ⟨b23,0,none⟩)),(24,.pointer (some ⟨b24,0,none⟩)),(31,.int .i64 i.k)],[cel b24 36 n.cells,cel b23 25 [ks.v,s5.v],cel b19 36 c.cells,cel b10 27 k.v.cells.toList],fun w=>((((((Ints w ks L∧Items w ki I)∧Glob w)∧Chains w s1 l1)∧Strs w ⟨A3,0+so.n+1,c3⟩ KS)∧Lists w s2 M1)∧Items w s5 I2∧n.at_ w)∧Lists w s7 M2⟩) (fun i=>M2.length-i.k) ⟨0,Nat.zero_le _⟩ (aj ⟨rfl,rfl,rfl,rfl,rfl,rfl,rfl,rfl,rfl,rfl,rfl,trivial⟩ (al _) fun _ h=>h) fun i=>?_
    have hik:=i.hk
    by_cases hlt:i.k<M2.length
    · have hp7':=hp7 aa
      obtain ⟨x,hx⟩:∃ x,M2[i.k]?=some x:=⟨_,Zm hlt⟩
      have hxm:=List.mem_of_getElem? hx
      have hh:=hhas x.actor
      have hy0:∀ w,Lists w s7 M2→CellAt w s7.p (i.k*4) (.string x.actor):=fun w h=>(Lists.get h hx).2.2 0 _ rfl
      have hxx:(!eqLD x x)=false:=by rw [eqLD_iff.2 rfl];rfl
      cases hxa:seqB x.actor actor with
      | true =>
       repeat' (first|refine ai (cg true rfl rfl (ZA aa)) rfl am rfl ?_|refine aI (q:=i.k*4) ?_|refine gj ?_|refine dt (q:=i.k*4) (u:=.string x.actor) (hF:=fun w h=>hy0 w h.2) ?_|(refine ab (hc:=hh) (hX:=fun w h=>h.1.1.2) ?_)|refine gs ?_|refine gs1 fun _=>?_|(refine gp ?_ ?_<;>intro hx_ this)|fail)
       rename_i b32
       (refine aq ⟨[0,1,2,3,4,5,6,7,8,9,10,11,12,13,14,15,16,17,18],[]⟩ [] (fun w=>((((((Ints w ks L∧Items w ki I)∧Glob w)∧Chains w s1 l1)∧Strs w ⟨A3,0+so.n+1,c3⟩ KS)∧Lists w s2 M1)∧Items w s5 I2∧n.at_ w)∧Lists w s7 M2) (h:=?_))
       all_goals repeat' (first|refine ax (hsub:=by exact aD) (hy:=by first|(apply kW false;rfl;rfl;(rw [hxa];rfl))) ?_|refine gdz ?_|refine ax (hsub:=by exact aD) (hy:=by first|(apply aB (q:=i.k*4);rfl;rfl;omega;omega;assumption;omega)|(apply gH;rfl;assumption;rfl)|(apply eJ (t:=9) (q:=i.k*4) (u:=.string x.actor);rfl;exact fun w h=>hy0 w h.2)) ?_|refine az ?_ (h':=?_)|exact aA|refine gs1 fun _=>?_|(refine gq ?_ ?_<;>intro hx_ this)|fail)
       all_goals
        repeat' (first|refine gs ?_|refine gs1 fun _=>?_|(refine gp ?_ ?_<;>intro hx_ this)|fail)
        all_goals first
         | exact ⟨(⟨i.k+1,by omega⟩:Kth M2.length),(by show M2.length-(i.k+1)<M2.length-i.k;omega),aj ⟨rfl,rfl,rfl,rfl,rfl,rfl,rfl,rfl,rfl,rfl,rfl,trivial⟩ (.cons _ (al _)) fun _ h=>h⟩
      | false =>
       have hx':=hothers x hxm fun e=>by rw [e,cW] at hxa;cases hxa
       rw [hx'] at hh
       simp only [hasP,Option.getD_some,Option.isSome_some] at hh
       repeat' (first|refine ai (cg true rfl rfl (ZA aa)) rfl am rfl ?_|refine aI (q:=i.k*4) ?_|refine gj ?_|refine dt (q:=i.k*4) (u:=.string x.actor) (hF:=fun w h=>hy0 w h.2) ?_|(refine ab (hc:=hh) (hX:=fun w h=>h.1.1.2) ?_)|refine gs ?_|refine gs1 fun _=>?_|(refine gp ?_ ?_<;>intro hx_ this)|fail)
       rename_i b32
       (refine aq ⟨[0,1,2,3,4,5,6,7,8,9,10,11,12,13,14,15,16,17,18],[]⟩ [cel b32 52 x.cells] (fun w=>((((((Ints w ks L∧Items w ki I)∧Glob w)∧Chains w s1 l1)∧Strs w ⟨A3,0+so.n+1,c3⟩ KS)∧Lists w s2 M1)∧Items w s5 I2∧n.at_ w)∧Lists w s7 M2) (h:=?_))
       all_goals repeat' (first|refine ax (hsub:=by exact aD) (hy:=by first|(apply kW true;rfl;rfl;(rw [hxa];rfl))) ?_|refine gdz ?_|refine ax (hsub:=by exact aD) (hy:=by first|(apply aB (q:=i.k*4);rfl;rfl;omega;omega;assumption;omega)|(apply gH;rfl;assumption;rfl)|(apply eJ (t:=9) (q:=i.k*4) (u:=.string x.actor);rfl;exact fun w h=>hy0 w h.2)|(apply ef (cs:=x.cells);rfl;exact fun w h=>Lists.get h.2 hx)|(apply ut x x;rfl;rfl)) ?_|refine az ?_ (h':=?_)|exact aA|refine gs1 fun _=>?_|(refine gq ?_ ?_<;>intro hx_ this)|fail)
       all_goals
        repeat' (first|refine gs ?_|refine gs1 fun _=>?_|(refine gp ?_ ?_<;>intro hx_ this)|fail)
        all_goals first
         | exact ⟨(⟨i.k+1,by omega⟩:Kth M2.length),(by show M2.length-(i.k+1)<M2.length-i.k;omega),aj ⟨rfl,rfl,rfl,rfl,rfl,rfl,rfl,rfl,rfl,rfl,rfl,trivial⟩ (.cons _ (al _)) fun _ h=>h⟩
    · have hk:i.k=M2.length:=by omega
      repeat' (first|refine ai (cg false rfl rfl (Zn aa)) rfl am rfl ?_|refine gs ?_|refine gs1 fun _=>?_|(refine gp ?_ ?_<;>intro hx_ this)|fail)
      have hn100:=G2.len
      have hcn1:c.acts.n<n.actsL.length:=by omega
      obtain ⟨z,hz⟩:∃ z,n.actsL[c.acts.n]?=some z:=⟨_,Zm hcn1⟩
      have hzm:=List.mem_of_getElem? hz
      have hzr:=G2.ok.rng z hzm
      have hzs:=G2.ok.sm z hzm
      obtain ⟨D,hD⟩:∃ D,digV z=D:=⟨_,rfl⟩
      have hyR:(undX D).Rng:=⟨by simp only [undX,ActD.zero];omega,fun w hw=>(List.not_mem_nil hw).elim,rfl,rfl⟩
      have hyS:(undX D).Sm:=⟨by show 0*16≤_;decide,by show 0*64≤_;decide,by show (0:Nat)≤_;decide⟩
      refine aK (p:=n.acts.p.isSome=true) (fun w h=>h.1.2.2.some_ aa) fun hnp=>?_
      have hof:=mA z hzr hzs
      have hsi:=kn ks s5 hK2 aa n aa k (undX D) hyR hyS
      refine im (ι:=UndW L I2 n k D) (fun u=>⟨[(6,.int .i64 now),(17,.bool true),(21,.slice A3 (0+so.n+1) c3),(22,s2.v),(34,.pointer (some ⟨u.b34,0,none⟩)),(36,.bool (decide ((u.m.acts.n:Int)=(n.acts.n:Int)+1)))],[cel u.b34 25 [ks.v,u.sN.v]],fun w=>(((Ints w ks L∧Items w u.sN (addK L I2 (ofActI ((sgA k n (undX D)).re u.s8 u.s9))))∧Glob w)∧Strs w ⟨A3,0+so.n+1,c3⟩ KS)∧Lists w s2 M1⟩) ?_ fun u=>?_
      · (refine aq ⟨[0,1,2,3,4,5,6,7,8,9],[(10,⟨[],[(11,⟨[12],[(13,⟨[14,15,16,17],[(18,⟨[],[(19,⟨[],[(20,⟨[],[(21,⟨[22],[]⟩)]⟩)]⟩)]⟩),(19,⟨[],[(18,⟨[],[(20,⟨[],[(21,⟨[22],[]⟩)]⟩)]⟩)]⟩)]⟩),(18,⟨[],[(13,⟨[14,15,16,17],[(19,⟨[],[(20,⟨[],[(21,⟨[22],[]⟩)]⟩)]⟩)]⟩),(19,⟨[],[(13,⟨[14,15,16,17],[(20,⟨[],[(21,⟨[22],[]⟩)]⟩)]⟩)]⟩)]⟩),(19,⟨[],[(13,⟨[14,15,16,17],[(18,⟨[],[(20,⟨[],[(21,⟨[22],[]⟩)]⟩)]⟩)]⟩),(18,⟨[],[(13,⟨[14,15,16,17],[(20,⟨[],[(21,⟨[22],[]⟩)]⟩)]⟩)]⟩)]⟩)]⟩),(18,⟨[],[(11,⟨[12],[(13,⟨[14,15,16,17],[(19,⟨[],[(20,⟨[],[(21,⟨[22],[]⟩)]⟩)]⟩)]⟩),(19,⟨[],[(13,⟨[14,15,16,17],[(20,⟨[],[(21,⟨[22],[]⟩)]⟩)]⟩)]⟩)]⟩),(19,⟨[],[(11,⟨[12],[(13,⟨[14,15,16,17],[(20,⟨[],[(21,⟨[22],[]⟩)]⟩)]⟩)]⟩)]⟩)]⟩),(19,⟨[],[(11,⟨[12],[(13,⟨[14,15,16,17],[(18,⟨[],[(20,⟨[],[(21,⟨[22],[]⟩)]⟩)]⟩)]⟩),(18,⟨[],[(13,⟨[14,15,16,17],[(20,⟨[],[(21,⟨[22],[]⟩)]⟩)]⟩)]⟩)]⟩),(18,⟨[],[(11,⟨[12],[(13,⟨[14,15,16,17],[(20,⟨[],[(21,⟨[22],[]⟩)]⟩)]⟩)]⟩)]⟩)]⟩)]⟩),(18,⟨[],[(10,⟨[],[(11,⟨[12],[(13,⟨[14,15,16,17],[(19,⟨[],[(20,⟨[],[(21,⟨[22],[]⟩)]⟩)]⟩)]⟩),(19,⟨[],[(13,⟨[14,15,16,17],[(20,⟨[],[(21,⟨[22],[]⟩)]⟩)]⟩)]⟩)]⟩),(19,⟨[],[(11,⟨[12],[(13,⟨[14,15,16,17],[(20,⟨[],[(21,⟨[22],[]⟩)]⟩)]⟩)]⟩)]⟩)]⟩),(19,⟨[],[(10,⟨[],[(11,⟨[12],[(13,⟨[14,15,16,17],[(20,⟨[],[(21,⟨[22],[]⟩)]⟩)]⟩)]⟩)]⟩)]⟩)]⟩),(19,⟨[],[(10,⟨[],[(11,⟨[12],[(13,⟨[14,15,16,17],[(18,⟨[],[(20,⟨[],[(21,⟨[22],[]⟩)]⟩)]⟩)]⟩),(18,⟨[],[(13,⟨[14,15,16,17],[(20,⟨[],[(21,⟨[22],[]⟩)]⟩)]⟩)]⟩)]⟩),(18,⟨[],[(11,⟨[12],[(13,⟨[14,15,16,17],[(20,⟨[],[(21,⟨[22],[]⟩)]⟩)]⟩)]⟩)]⟩)]⟩),(18,⟨[],[(10,⟨[],[(11,⟨[12],[(13,⟨[14,15,16,17],[(20,⟨[],[(21,⟨[22],[]⟩)]⟩)]⟩)]⟩)]⟩)]⟩)]⟩)]⟩ [cel b24 36 n.cells,cel b23 25 [ks.v,s5.v],cel b19 36 c.cells,cel b10 27 k.v.cells.toList] (fun w=>((((((Ints w ks L∧Items w ki I)∧Glob w)∧Chains w s1 l1)∧Strs w ⟨A3,0+so.n+1,c3⟩ KS)∧Lists w s2 M1)∧Items w s5 I2∧n.at_ w)∧Lists w s7 M2) (h:=?_))
        all_goals repeat' (first|((refine cB (hc:=hof) (hX:=fun w h=>h.1.2.2.2 z hzm) fun v X6 h6=>?_;obtain ⟨z',rfl,hdz,hzr',hzat⟩:=h6;have hdg:=j8 z' hzr';rw [hdz,hD] at hdg))|(refine ab (hc:=hdg) (hX:=fun w h=>⟨hzat w h.2,h.1.1.1.1.1.1.2⟩) ?_)|((refine cB (hc:=hsi) (hX:=fun w h=>⟨⟨⟨⟨h.1.1.1.1.1.1.1.1,h.1.1.2.1⟩,h.1.1.2.2⟩,B1 w D⟩,h.1.1.1.1.1.1.2⟩) fun v X7 h7=>?_;obtain ⟨s8,s9,sN,m,kl2,e5,e6,hQ3,rfl,hw7⟩:=h7;refine ii (p:=m.acts.n=m.actsL.length) (fun w h=>(hw7 w ⟨h.1.1.1.2.1,h.2⟩).2.len_) fun hmm=>?_))|refine gdz ?_|refine ax (hsub:=by exact aD) (hy:=by first|(apply aB (q:=c.acts.n*20);rfl;rfl;omega;omega;assumption;omega)|(apply ef (cs:=z.cells);rfl;exact fun w h=>Acts.get h.1.2.2 hz)|(apply eR (cs:=(undX D).cells);rfl;rfl)) ?_|refine az ?_ (h':=?_)|exact aA|refine gs1 fun _=>?_|(refine gq ?_ ?_<;>intro hx_ this)|fail)
        all_goals first
         | exact ⟨(⟨s8,s9,sN,m,kl2,_,e5,e6,hQ3,hmm⟩:UndW L I2 n k D),aj ⟨rfl,rfl,rfl,rfl,rfl,rfl,trivial⟩ (List.singleton_sublist.2 aQ) fun w h=>⟨⟨⟨⟨h.1.1.1.1.1.1.1.1.1,(hw7 w ⟨h.1.1.1.2.1,h.2⟩).1⟩,h.1.1.1.1.1.1.1.2⟩,h.1.1.1.1.1.2⟩,h.1.1.1.1.2⟩⟩
      obtain ⟨s8,s9,sN,m,kl2,b34,e5,e6,hQ3,hmm⟩:=u
      simp only
      repeat' (first|refine gs ?_|refine gs1 fun _=>?_|(refine gp ?_ ?_<;>intro hx_ this)|fail)
      · exact ad (ag rfl rfl) rfl
      have htwo:(m.acts.n:Int)=(n.acts.n:Int)+1:=by
       cases hdd:decide ((m.acts.n:Int)=(n.acts.n:Int)+1) with
       | true=>exact aN hdd
       | false=>rw [hdd] at hx_;exact absurd hx_ (by decide)
      obtain ⟨hT,hQ4⟩:=qD hK2 hQ2 aa hnn hmm e5 e6 hQ3 htwo
      have hK3:=mK hK2 (it:=ofActI ((sgA k n (undX D)).re s8 s9)) (iX (zY (k:=k) (c:=n) hyR aa) e5 e6) (pa (D6 (k:=k) (c:=n) hyS) e5 e6) rfl aa
      repeat' (first|(refine cB (hc:=qe ks sN hK3) (hX:=fun w h=>h.1.1) fun v X8 h8=>?_;obtain ⟨s10,l3,hA3,rfl,hw10⟩:=h8)|refine gs ?_|refine gs1 fun _=>?_|(refine gp ?_ ?_<;>intro hx_ this)|fail)
      have hfin:ofV l3 KS now=M1:=(AC (fun k _=>pG hK hK2 hQ h0 hau hS hI2 hQ2 hT hQ4 hA1 hA2 hA3 rfl rfl (by rw [←hcn];exact hz) hD.symm k) now).trans hM1
      have hof3:=rr s10 l3 ⟨A3,0+so.n+1,c3⟩ KS now (fun c hc=>(lf hK3 hA3 c hc).1) (fun c hc=>Qr (lf hK3 hA3 c hc).2 (by decide)) hKl
      rw [hfin] at hof3
      have hsame:=fun S=>nW S s2 M1 M1
      simp only [oD] at hsame
      repeat' (first|(refine cB (hc:=hof3) (hX:=fun w h=>⟨hw10 w h.2,h.1.1.2,h.1.1.1.2⟩) fun v X9 h9=>?_;obtain ⟨s11,rfl,hw11⟩:=h9)|(refine ab (hc:=hsame s11) (hX:=fun w h=>⟨hw11 w h.2,h.1.1.2⟩) ?_)|refine gs ?_|refine gs1 fun _=>?_|(refine gp ?_ ?_<;>intro hx_ this)|fail)
      all_goals first
       | exact ad (ag rfl rfl) rfl
end Go.Proofs.YtoefdofbekihdaaGreatDoor
set_option maxHeartbeats 16000000
namespace Go.Proofs.YtoefdofbekihdaaGreatDoor
open Go Go.Proofs Sy Go.RowKit Go.Deep Go.ChangeShapes
section
variable {H:Type} {enc:TypeId×Value→H} {P:Program} {w:World} {base:Nat} {spare:Nat→Bool} {held:Bool}
theorem Ai {fuel:Nat} {cs:List Value} {x:DataW H×List MemPlace} (h:DataW.trod enc Tryz.prog w base spare held fuel 27 cs=some x):∃ k:KyD,cs=k.cells:=by
 have hl:=fK Tryz.underlying27 (k:=2) ae h
 obtain ⟨n0,y0,h0⟩:=aJ (i:=0) (off:=0) (k:=1) (t':=3) Tryz.underlying27 h rfl rfl rfl ae
 obtain ⟨n1,y1,h1⟩:=aJ (i:=1) (off:=1) (k:=1) (t':=3) Tryz.underlying27 h rfl rfl rfl ae
 match cs,hl with
 | [c0,c1],_ =>
  obtain ⟨s0,e0,b0⟩:=aY h0
  obtain ⟨s1,e1,b1⟩:=aY h1
  simp at e0 e1
  exact ⟨⟨s0,s1⟩,by rw [e0,e1];rfl⟩
end
end Go.Proofs.YtoefdofbekihdaaGreatDoor
set_option maxHeartbeats 16000000
namespace Go.Proofs.YtoefdofbekihdaaGreatDoor
open Go Go.Proofs Sy Go.RowKit Go.Deep Go.ChangeShapes Go.WideShapes
theorem laidOut:laidOutB Tryz.prog=true:=by kernel_rfl
theorem iq {H:Type} {enc:TypeId×Value→H} {P:Program} (hl:laidOutB P=true) {W W':World} {sp:Nat→Bool}:∀ (ts:List TypeId) (vs:List Value) (ds:List (DataW H)) (ps:List MemPlace),(∀ t∈ts,P.readableRec t=true∧t<P.types.size) →
  DataW.TrodAll enc P W 0 (fun _=>true) true ts vs ds ps→(∀ p∈ps,W.sameAt W' p)→(∀ p∈ps,sp p.block=true)→DataW.TrodAll enc P W' 0 sp true ts vs ds ps
 | [],vs,ds,ps,_,h,_,_=>by
  obtain ⟨rfl,rfl,rfl⟩:=trodAll_nil h
  exact trodAll_mk0
 | t::ts,vs,ds,ps,ht,h,hs,hp=>by
  obtain ⟨v,vs',d,ds',p,q,rfl,rfl,rfl,h1,h2⟩:=trodAll_cons h
  exact trodAll_cons_mk (WideElems.Trod_stays hl (ht t ar).1 (ht t ar).2 h1 (fun x hx=>hs x (List.mem_append_left _ hx)) (fun x hx=>hp x (List.mem_append_left _ hx)))
   (iq hl ts vs' ds' q (fun u hu=>ht u (ZS _ hu)) h2 (fun x hx=>hs x (List.mem_append_right _ hx)) (fun x hx=>hp x (List.mem_append_right _ hx)))
theorem xA {X:World→Prop} {w:World} (hX:X w) (hk:∀ w':World,(∀ k,k<w.heap.size→w'.heap[k]?=w.heap[k]?)→X w'):Gam [] (fps []) w [] X w :=
 ⟨Fr.refl _ _,fun k hk=>by simp at hk,by simp [fps],fun k hk=>by simp [fps] at hk,fun r hr=>by simp at hr,⟨fun k=>k<w.heap.size,fun k hk=>⟨hk,by simp [fps]⟩,hk⟩⟩
theorem si {P:Program} {f:FuncId} {args:Array Value} {X:World→Prop} {v:Value} {w:World} (h:Pu P f args X v) (hX:X w) (hk:∀ w':World,(∀ k,k<w.heap.size→w'.heap[k]?=w.heap[k]?)→X w') :
  Calls P f args w fun e w'=>e=.returned v∧Below w.heap.size w w':=by
 unfold Pu at h
 exact (Ct.run h w [] (xA hX hk)).mono fun e w' ⟨u,R,X',he,⟨hu,hR⟩,G⟩=>⟨by rw [he,hu],G.fr.below⟩
theorem laidK:Rows.laid_agora_sum_constants (H:=Unit)=Lib.tabData .u32 kC:=by kernel_rfl
theorem laidI:Rows.laid_agora_sum_initial (H:=Unit)=Lib.tabData .u32 iniC:=by kernel_rfl
theorem m9 {W:World} {name:String} {zs:List Int} {g:Nat} (h:Lib.TabIs Tryz.prog W name .u32 zs) (hg:Tryz.prog.globalNamed name=some g):CellsAt g (u32s zs) W:=fun j v hj=>by
 have hj':j<zs.length:=by have:=(List.getElem?_eq_some_iff.1 hj).1;simpa [u32s] using this
 rw [h.cell hg j hj']
 simp only [u32s,List.getElem?_map,Zm hj',Option.map_some,Qc] at hj
 rw [ZL,Zm hj',←hj]
 rfl
theorem Dn {W:World} (h:laidMet Tryz.prog [("agora/sum.constants",Rows.laid_agora_sum_constants),("agora/sum.initial",Rows.laid_agora_sum_initial)] W):Glob W:=by
 rw [laidK,laidI] at h
 have h1:=Lib.tabIs_of_head (g:=1) (t:=202) (e:=145) (n:=64) ae ae Tryz.underlying202 Tryz.underlying145 ae ae h
 obtain ⟨ps,⟨g',t',cs,fuel,p,q,hg',ht',hvar,hd,hrest,hpq⟩,_⟩:=h
 obtain ⟨g2,t2,cs2,fuel2,p2,q2,hg2,ht2,hvar2,hd2,_,_⟩:=hrest
 have h2:Lib.TabIs Tryz.prog W "agora/sum.initial" .u32 iniC:=by
  have e1:Tryz.prog.globalNamed "agora/sum.initial"=some 0:=by kernel_rfl
  have e2:(Tryz.prog.globals[0]?).map (·.type)=some 146:=by kernel_rfl
  obtain rfl:=Option.some.inj (e1.symm.trans hg2)
  obtain rfl:=Option.some.inj (e2.symm.trans ht2)
  unfold Lib.TabIs
  rw [hvar2,←Lib.cells_of_tab Tryz.underlying146 Tryz.underlying145 ae ae hd2]
 exact ⟨m9 h2 ae,m9 h1 ae⟩
def layRow (l:List Value):Obj→Obj
 | .cells _ t frozen=>.cells l.toArray t frozen
 | o=>o
noncomputable def laidWorld (os:Os):World :=
 { World.holding Tryz.prog os ⟨#[],#[],[]⟩ with heap:=((World.holding Tryz.prog os ⟨#[],#[],[]⟩).heap.modify 0 (layRow (u32s iniC))).modify 1 (layRow (u32s kC)) }
end Go.Proofs.YtoefdofbekihdaaGreatDoor
