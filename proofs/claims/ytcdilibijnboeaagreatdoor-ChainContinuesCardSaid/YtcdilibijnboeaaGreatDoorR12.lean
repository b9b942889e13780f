/- Joined by program out of: Zx ZlA ZmA ZnA Zy Zt Ne Zu Tk Tm Tn Ya Yb Yd. -/
import Derived.Test.YtcdilibijnboeaaGreatDoorR11
set_option linter.unusedVariables false
set_option linter.unusedSimpArgs false
namespace Go.Proofs.YtcdilibijnboeaaGreatDoor
open Go Go.Proofs Sy
structure KnR (L:List Int) (I:List ItemD):Prop where
 sv:L.length≤20
 len:I.length≤100
 rng:∀ i∈I,i.act.Rng
 sm:∀ i∈I,i.act.Sm
 dn:∀ i∈I,i.dec.to.n=i.dec.toL.length
 right:∀ i∈I,rightIt i=true
 asc:Asc (I.map digIt)
theorem uo {P:Program} {f:FuncId} {args:Array Value} {pre:List Res} {X X':World→Prop} {Post:Value→List Res→(World→Prop)→Prop} (h:Ct P f args pre X Post) (hx:∀ w,X' w→X w):Ct P f args pre X' Post :=
 Ct.mk fun w av G=>h.run w av (G.imp hx)
theorem oL {P:Program} {f:FuncId} {args:Array Value} {X X':World→Prop} {v:Value} (h:Pu P f args X v) (hx:∀ w,X' w→X w):Pu P f args X' v:=by
 unfold Pu at *
 exact uo h hx
theorem Bx {P:Program} {f:FuncId} {args:Array Value} {X X':World→Prop} {Φ:Value→(World→Prop)→Prop} (h:Mk P f args X Φ) (hx:∀ w,X' w→X w):Mk P f args X' Φ:=by
 unfold Mk at *
 exact uo h hx
theorem wC:ActD.zero.Rng:=⟨by decide,fun w hw=>(List.not_mem_nil hw).elim,rfl,rfl⟩
theorem up {x y:ByteArray} (h:ltB x y=true):¬ SrG.cmp2 0 0 y x<0:=by
 have h1:ltB y x=false:=by
  cases hh:ltB y x with
  | false=>rfl
  | true =>
   have:=fY h hh
   rw [gm] at this
   cases this
 have h2:Op.bytesLess y.toList x.toList=false:=h1
 rw [SrG.cmp2,SrG.cmpI_self]
 show ¬ SrG.cmpB_g y x<0
 rw [SrG.cmpB_g,h2]
 cases seqB y x<;>decide
theorem kK {l:List ByteArray} (h:Asc l) {i j:Nat} {x y:ByteArray} (hij:i<j) (hi:l[i]?=some x) (hj:l[j]?=some y):ltB x y=true:=by
 obtain ⟨h1,rfl⟩:=List.getElem?_eq_some_iff.1 hi
 obtain ⟨h2,rfl⟩:=List.getElem?_eq_some_iff.1 hj
 exact List.pairwise_iff_getElem.1 h i j h1 h2 hij
theorem kJ {l m:List ByteArray} (h:Asc l) (hs:m.Sublist l):Asc m:=List.Pairwise.sublist hs h
theorem srtC {L:List Int} {I:List ItemD} (h:KnR L I) (au:ByteArray):SrC.Srt (selFC au rightIt digIt I):=by
 have ha:Asc ((selFC au rightIt digIt I).map FndC.dg):=by
  rw [selFC,Qs]
  exact kJ h.asc (List.filter_sublist.map digIt)
 have hr:∀ x∈selFC au rightIt digIt I,x.rank=0:=fun x hx=>by
  rw [selFC] at hx
  obtain ⟨i,_,rfl⟩:=List.mem_map.1 hx
  rfl
 intro i j x y hij hi hj
 rw [SrC.cmpX,hr x (List.mem_of_getElem? hi),hr y (List.mem_of_getElem? hj)]
 exact up (kK ha hij (by rw [List.getElem?_map,hi];rfl) (by rw [List.getElem?_map,hj];rfl))
theorem srtB {L:List Int} {I:List ItemD} (h:KnR L I) (au:ByteArray) (gn:Int):SrB.Srt (selFB au gn rightIt digIt I):=by
 have ha:Asc ((selFB au gn rightIt digIt I).map FndB.dg):=by
  rw [selFB,Qs]
  exact kJ h.asc (List.filter_sublist.map digIt)
 have hr:∀ x∈selFB au gn rightIt digIt I,x.rank=0:=fun x hx=>by
  rw [selFB] at hx
  obtain ⟨i,_,rfl⟩:=List.mem_map.1 hx
  rfl
 intro i j x y hij hi hj
 rw [SrB.cmpX,hr x (List.mem_of_getElem? hi),hr y (List.mem_of_getElem? hj)]
 exact up (kK ha hij (by rw [List.getElem?_map,hi];rfl) (by rw [List.getElem?_map,hj];rfl))
def claimsV (I:List ItemD) (au:ByteArray):List ClaimD:=selC au rightIt I
def dgCl (c:ClaimD):ByteArray:=digIt (ofClaimI c)
def wonK (sv:Nat) (I:List ItemD) (au:ByteArray) (gn:Int):Option ClaimD:=wonO sv (claimsV I au) dgCl (selB2 au gn rightIt I) gn
theorem fN {sv:Nat} {I:List ItemD} {au:ByteArray} {gn:Int} {c:ClaimD} (h:wonK sv I au gn=some c):c∈claimsV I au∧c.gen=gn:=by
 have h1:=List.find?_some h
 rw [wonB,ZM,ZT] at h1
 exact ⟨List.mem_of_find?_eq_some h,h1.1⟩
theorem pb {I:List ItemD} {au:ByteArray} {c:ClaimD} (h:c∈claimsV I au):claimR c=true:=by
 rw [claimsV,selC] at h
 obtain ⟨i,hi,rfl⟩:=List.mem_map.1 h
 have h1:=(List.mem_filter.1 hi).2
 rw [selBC,ZM,wantC,ZM,ZT] at h1
 rcases dr h1.2 with h2|h2|h2|h2
 · rw [h1.1.1] at h2;exact absurd h2.1 (by decide)
 · exact h2.2
 · rw [h1.1.1] at h2;exact absurd h2.1 (by decide)
 · rw [h1.1.1] at h2;exact absurd h2.1 (by decide)
def lnone (f:Nat→Option ClaimD):Nat→Nat→Nat
 | 0,g=>g
 | n+1,g=>match f g with
  | none=>g
  | some _=>lnone f n (g+1)
theorem ma (f:Nat→Option ClaimD):∀ n g i,g≤i→i<lnone f n g→(f i).isSome=true
 | 0,g,i,h1,h2=>by rw [lnone] at h2;omega
 | n+1,g,i,h1,h2=>by
  rw [lnone] at h2
  cases hf:f g with
  | none=>rw [hf] at h2;simp only at h2;omega
  | some c =>
   rw [hf] at h2
   simp only at h2
   rcases Nat.lt_or_eq_of_le h1 with h3|rfl
   · exact ma f n (g+1) i h3 h2
   · rw [hf];rfl
theorem l8 (f:Nat→Option ClaimD):∀ n g,lnone f n g<g+n→f (lnone f n g)=none
 | 0,g,h=>by rw [lnone] at h;omega
 | n+1,g,h=>by
  rw [lnone] at h ⊢
  cases hf:f g with
  | none=>exact hf
  | some c =>
   rw [hf] at h
   simp only at h ⊢
   exact l8 f n (g+1) ae
def genB (sv:Nat) (I:List ItemD) (au:ByteArray):Nat:=lnone (fun g=>wonK sv I au (g:Nat)) ((claimsV I au).length+1) 0
theorem oZ (sv:Nat) (I:List ItemD) (au:ByteArray):genB sv I au≤(claimsV I au).length:=by
 have h:=jE (n:=genB sv I au) (l:=(claimsV I au).map ClaimD.gen) fun i hi=>by
  have h1:=ma (fun g=>wonK sv I au (g:Nat)) _ 0 i (Nat.zero_le _) hi
  cases hw:wonK sv I au (i:Nat) with
  | none=>rw [hw] at h1;cases h1
  | some c =>
   obtain ⟨h2,h3⟩:=fN hw
   exact List.mem_map.2 ⟨c,h2,h3⟩
 simpa using h
theorem v8 (sv:Nat) (I:List ItemD) (au:ByteArray):wonK sv I au (genB sv I au:Nat)=none :=
 l8 (fun g=>wonK sv I au (g:Nat)) ((claimsV I au).length+1) 0 (by have:=oZ sv I au;rw [genB] at this;omega)
def OfWK (sv:Nat) (I:List ItemD) (au:ByteArray):OfW:=⟨[],au,fun g=>bif decide (g<genB sv I au) then wonK sv I au (g:Nat) else none,sgnC,dgCl,verV,genB sv I au⟩
theorem CP {sv:Nat} {I:List ItemD} {au:ByteArray} {g:Nat} (hg:g≤genB sv I au):(OfWK sv I au).won g=wonK sv I au (g:Nat):=by
 show (bif decide (g<genB sv I au) then _ else _)=_
 rcases Nat.lt_or_eq_of_le hg with h|rfl
 · rw [ZA h,ZC]
 · rw [Zn (Nat.lt_irrefl _),ZB,v8]
theorem eS {sv:Nat} {I:List ItemD} {au:ByteArray} {g:Nat} {c:ClaimD} (h:(OfWK sv I au).won g=some c):g<genB sv I au∧wonK sv I au (g:Nat)=some c:=by
 change (bif decide (g<genB sv I au) then wonK sv I au (g:Nat) else none)=some c at h
 cases hd:decide (g<genB sv I au) with
 | true=>rw [hd] at h;exact ⟨aO hd,h⟩
 | false=>rw [hd] at h;cases h
theorem yR (hso:∀ n,n≤1000000→SortA n) (ks ki:SlV) {L:List Int} {I:List ItemD} (h:KnR L I) (au:ByteArray) :
  OfHyp ks ki (OfWK L.length I au) (fun A=>A.Perm (selA au rightIt I)) (fun w=>Ints w ks L∧Items w ki I):=by
 have hR:∀ it∈I,Pu Tryz.prog 44 #[it.v] (fun w=>it.at_ w) (.bool (rightIt it)):=fun it hi=>dQ it
 have hD:∀ it∈I,Pu Tryz.prog 14 #[it.v] (fun w=>it.at_ w∧Glob w) (.string (digIt it)):=fun it hi=>dF it (h.rng it hi) (h.dn it hi)
 have hI:I.length≤1000:=Qq h.len (by decide)
 have hcl:(claimsV I au).length≤I.length:=by rw [claimsV,selC,Z3];exact List.length_filter_le _ _
 have hgl:=oZ L.length I au
 have hlen:=h.len
 have hdc:∀ c∈claimsV I au,Pu Tryz.prog 14 #[(ofClaimI c).v] Glob (.string (dgCl c)):=fun c hc =>
  oL (dF (ofClaimI c) wC rfl) fun w hw=>⟨⟨⟨bZ w 1,bZ w 5⟩,bZ w 1⟩,hw⟩
 have hmem:∀ A:List ActD,A.Perm (selA au rightIt I)→∀ a∈A,∃ i∈I,i.act=a:=fun A hA a ha=>by
  have h1:=hA.subset ha
  rw [selA] at h1
  obtain ⟨i,hi,e⟩:=List.mem_map.1 h1
  exact ⟨i,(List.mem_filter.1 hi).1,e⟩
 exact {
  acts:=Bx (oV ks ki I au rightIt digIt hR hD hI (hso _ ae)) fun w hw=>⟨hw.1.2,hw.2⟩
  ok:=fun A hA=>⟨⟨fun a ha=>by obtain ⟨i,hi,rfl⟩:=hmem A hA a ha;exact h.rng i hi,fun a ha=>by obtain ⟨i,hi,rfl⟩:=hmem A hA a ha;exact h.sm i hi⟩,by
   rw [hA.length_eq,selA,Z3]
   have:=List.length_filter_le (selB au rightIt) I
   omega⟩
  bB:=by show genB L.length I au≤_;omega
  won:=fun g hg=>by
   rw [CP hg]
   exact CO ks ki L I au (g:Nat) (claimsV I au) (selB2 au (g:Nat) rightIt I) dgCl (by rw [selB2,Z3];have:=List.length_filter_le (selBB au (g:Nat) rightIt) I;omega) (by have:=h.sv;omega)
    (ky ks ki I au rightIt digIt hR hD hI (srtC h au)) (jH ks ki I au (g:Nat) rightIt digIt hR hD hI (srtB h au _)) hdc
  bnd:=fun g c hw=>(eS hw).1
  clm:=fun g c hw p=>oL (sG p c (pb (fN (eS hw).2).1)) fun w hw=>hw.2
  dg:=fun g c hw=>oL (hdc c (fN (eS hw).2).1) fun w hw=>hw.2
  ver:=fun A hA a ha p=>by
   obtain ⟨i,hi,rfl⟩:=hmem A hA a ha
   exact pt p i.act (h.rng i hi) }
theorem Dg (hso:∀ n,n≤1000000→SortA n) (ks ki:SlV) {L:List Int} {I:List ItemD} (h:KnR L I) (au:ByteArray) :
  Mk Tryz.prog 9 #[.agg #[ks.v,ki.v],.string au] (fun w=>(Ints w ks L∧Items w ki I)∧Glob w) (OfAt19 (OfWK L.length I au) fun A=>A.Perm (selA au rightIt I)) :=
 Bn ks ki (OfWK L.length I au) _ _ (yR hso ks ki h au)
end Go.Proofs.YtcdilibijnboeaaGreatDoor
namespace Go.Proofs.YtcdilibijnboeaaGreatDoor
open Go Go.Proofs Sy SrG
namespace SrA
def p22 (i:Nat):Nat:=i*22
theorem cG (i:Nat):p22 i=i*22:=rfl
attribute [irreducible] p22
structure FndX where
 rank:Int
 dg:ByteArray
 r:List Value
 hr:r.length=20
 h1:r.all (·.oneCell')=true
def FndX.cells (f:FndX):List Value:=.int .i64 f.rank::.string f.dg::f.r
theorem FndX.len (f:FndX):f.cells.length=22:=by simp [FndX.cells,f.hr]
theorem FndX.one (f:FndX):f.cells.all (·.oneCell')=true:=by rw [FndX.cells,List.all_cons,List.all_cons,f.h1];rfl
theorem cellsF (P:List FndX):∀ r∈P.map FndX.cells,r.length=22:=fun r hr=>by
 obtain ⟨c,_,rfl⟩:=List.mem_map.1 hr
 exact c.len
abbrev postR (s:SlV) (P:List FndX):Res:=orow 159 22 (.slice s.p s.n s.c) s.n (P.map FndX.cells).flatten
theorem cV:∀ (L:List FndX) (p:Nat) (x:FndX),p<L.length→(L.map FndX.cells).flatten.take (p*22)++x.cells++(L.map FndX.cells).flatten.drop (p*22+22)=((L.set p x).map FndX.cells).flatten
 | [],p,x,h=>absurd h (by simp)
 | c::L,0,x,h=>by
  have h6:c.cells.length=22:=c.len
  rw [List.set_cons_zero,Qt,Qt,List.flatten_cons,List.flatten_cons,Nat.zero_mul,Ql,List.take_zero,Qb,List.drop_append,h6,List.drop_of_length_le (by omega)]
  rfl
 | c::L,p+1,x,h=>by
  have h6:c.cells.length=22:=c.len
  have ih:=cV L p x (by simpa using h)
  rw [List.set_cons_succ,Qt,Qt,List.flatten_cons,List.flatten_cons,←ih,List.take_append,List.drop_append,h6,List.take_of_length_le ae,List.drop_of_length_le ae,
   show (p+1)*22-22=p*22 from by omega,show (p+1)*22+22-22=p*22+22 from by omega,Qb,ZZ,ZZ,ZZ]
theorem d8 {P:List FndX} {i j:Nat} {x y:FndX} (hi:P[i]?=some x) (hj:P[j]?=some y):((P.set i y).set j x).Perm P:=by
 obtain ⟨h1,rfl⟩:=List.getElem?_eq_some_iff.1 hi
 obtain ⟨h2,rfl⟩:=List.getElem?_eq_some_iff.1 hj
 exact List.set_set_perm h1 h2
section
variable {N:Nat} {av bor:List Nat} {w0:World} {st:St} {ty:TypeId} {x y:Operand} {E:Env} {loc:List Res} {X:World→Prop} {ops:Array Oper} {kk:St→Prop} {pos:String} {af:Array Edge} {g:Option (Nat×Bool)} {rest:List Oper} {bb want:Bool}
theorem br {A:Option Addr} {m c i:Nat} {P:List FndX} {p:FndX} (hx:ev st.env x=some (elP A (p22 i))) (hm:orow 159 22 (.slice A m c) m (P.map FndX.cells).flatten∈st.loc) (hn:m=P.length) (hi:P[i]?=some p) :
  Sy.Yields Tryz.prog N av bor w0 st (.load 159 x) ty (.agg p.cells.toArray):=gb (xs:=P.map FndX.cells) (cs:=p.cells) (cG i▸hx) hm (by simp [hn]) (cellsF P) (by simp [hi])
theorem bT {d:Option Tmp} {loc':List Res} {A:Option Addr} {m c i:Nat} {P:List FndX} {p:FndX} (hx:ev E x=some (elP A (p22 i)):=by rfl) (hy:ev E y=some (.agg p.cells.toArray):=by rfl) (hi:i<m:=by omega) (hn:m=P.length)
  (hA:At (orow 159 22 (.slice A m c) m (P.map FndX.cells).flatten) (orow 159 22 (.slice A m c) m ((P.set i p).map FndX.cells).flatten) loc loc':=by (repeat (first|exact At.here _|apply At.there))) (hg:gdB ops E g=some (bb,want):=by rfl) (hb:bb=want:=by exact aE) (hd:inB N d=true:=by rfl)
  (h:Sw Tryz.prog N av bor w0 ops rest ⟨putE E d undef,loc',X⟩ kk):Sw Tryz.prog N av bor w0 ops (⟨d,.store 159 x y,ty,pos,af,g⟩::rest) ⟨E,loc,X⟩ kk :=
 oo (i:=i) (size:=22) (vs:=p.cells) al (cG i▸hx) hy rfl p.one p.len hi (cV P i p ae) hA hg hb hd h
end
def PermAt (s:SlV) (P:List FndX) (u:Value) (R:List Res) (X:World→Prop):Prop:=u=.tuple #[]∧∃ Q:List FndX,Q.Perm P∧R=[postR s Q]
structure PermI (P:List FndX) (n:Nat) where
 k:Nat
 hk:k≤n
 Q:List FndX
 hQ:Q.Perm P
set_option maxHeartbeats 4000000 in
theorem cQ (s:SlV) (P:List FndX) (a b n:Nat) (fv:Value) (hs:s.n=P.length) (hm:s.n≤1000000) (ha:a+n≤s.n) (hb:b+n≤s.n) :
  Ct Tryz.prog 257 #[s.v,.int .i64 (a:Nat),.int .i64 (b:Nat),.int .i64 (n:Nat),fv] [postR s P] (fun _=>True) (PermAt s P):=by
 refine cj (args:=[_,_,_,_,_]) _ Tryz.func257 rfl Tryz.ntmps257 rfl fun av bor w0=>?_
 refine cS (r:=postR s P) aJ (p:=0<s.n→s.p.isSome=true) (fun w h hn=>cI h hn) fun hp=>?_
 repeat' (first|apply ab|apply Qu|apply Qv|refine ad ?_|apply Qw|fail)
 refine aT (ι:=PermI P n) (fun i=>⟨[(0,s.v),(1,.int .i64 (a:Nat)),(2,.int .i64 (b:Nat)),(3,.int .i64 (n:Nat)),(10,.int .i64 (i.k:Nat))],[postR s i.Q],fun _=>True⟩) (fun i=>n-i.k) ⟨0,Nat.zero_le _,P,List.Perm.refl _⟩ (ax ⟨rfl,rfl,rfl,rfl,rfl,trivial⟩ (aG _) fun _ h=>h) fun i=>?_
 obtain ⟨k,hk,Q,hQ⟩:=i
 simp only
 have hl:=hQ.length_eq
 repeat' (first|apply ab|apply Qu|apply Qv|refine aj ?_|refine bj ?_|apply Qx|apply Qw|apply aS|(refine aF (ht:=?_) (hf:=?_);all_goals (intro hx_;first|have:=aO hx_|have:=aQ hx_)))
 · have hlt:k<n:=by omega
   have hp':=hp ae
   obtain ⟨x,hx⟩:∃ x,Q[a+k]?=some x:=⟨_,Zm ae⟩
   obtain ⟨y,hy⟩:∃ y,Q[b+k]?=some y:=⟨_,Zm ae⟩
   (refine aU [] (fun _=>True) al ?_)
   all_goals refine aa 0 ?_<;>refine aa 1 ?_<;>refine aa 2 ?_<;>refine aa 3 ?_<;>refine aa 4 ?_<;>refine aa 5 ?_<;>refine aa 6 ?_<;>refine aa 7 ?_<;>refine aa 8 ?_<;>refine aa 9 ?_<;>refine aa 10 ?_<;>refine aa 11 ?_<;>(refine aa 12 (hy:=by (apply aN (q:=p22 (b+k));rfl;rfl;omega;omega;assumption;(rw [cG];omega))) ?_)<;>refine aa 14 ?_<;>refine aa 15 ?_<;>refine aa 16 ?_<;>refine aa 17 ?_<;>(refine aa 18 (hy:=by (apply aN (q:=p22 (a+k));rfl;rfl;omega;omega;assumption;(rw [cG];omega))) ?_)<;>(refine bw 13 19 (h:=?_) (h':=?_);(focus (((refine am (br (i:=b+k) (P:=Q) rfl aJ ae hy) rfl rfl rfl ?_);apply ab;refine ai ?_);all_goals ((refine ag 19 ?_;(refine am (br (i:=a+k) (P:=Q) rfl aJ ae hx) rfl rfl rfl ?_);apply ab;refine ai ?_);all_goals (refine aa 20 (hy:=by (apply aN (q:=p22 (a+k));rfl;rfl;omega;omega;assumption;(rw [cG];omega))) ?_);all_goals (refine ag 21 ?_;(refine bT (i:=a+k) (p:=y) rfl rfl ae ae (At.here _) rfl aE rfl ?_);apply ab;refine ai ?_);all_goals (refine aa 22 (hy:=by (apply aN (q:=p22 (b+k));rfl;rfl;omega;omega;assumption;(rw [cG];omega))) ?_);all_goals (refine ag 23 ?_;(refine bT (i:=b+k) (p:=x) rfl rfl ae (by (simp only [List.length_set];omega)) (At.here _) rfl aE rfl ?_);apply ab;refine ai ?_);all_goals (refine aw ?_))));rotate_right;(focus (((refine am (br (i:=a+k) (P:=Q) rfl aJ ae hx) rfl rfl rfl ?_);apply ab;refine ai ?_);all_goals ((refine ag 13 ?_;(refine am (br (i:=b+k) (P:=Q) rfl aJ ae hy) rfl rfl rfl ?_);apply ab;refine ai ?_);all_goals (refine aa 20 (hy:=by (apply aN (q:=p22 (a+k));rfl;rfl;omega;omega;assumption;(rw [cG];omega))) ?_);all_goals (refine ag 21 ?_;(refine bT (i:=a+k) (p:=y) rfl rfl ae ae (At.here _) rfl aE rfl ?_);apply ab;refine ai ?_);all_goals (refine aa 22 (hy:=by (apply aN (q:=p22 (b+k));rfl;rfl;omega;omega;assumption;(rw [cG];omega))) ?_);all_goals (refine ag 23 ?_;(refine bT (i:=b+k) (p:=x) rfl rfl ae (by (simp only [List.length_set];omega)) (At.here _) rfl aE rfl ?_);apply ab;refine ai ?_);all_goals (refine aw ?_)))))
   all_goals
    repeat' (first|apply ab|apply Qv|refine aj ?_|refine ad ?_|refine be (h:=?_)|fail)
    exact ⟨(⟨k+1,hlt,(Q.set (a+k) y).set (b+k) x,(d8 hx hy).trans hQ⟩:PermI P n),(by show n-(k+1)<n-k;omega),ax ⟨rfl,rfl,rfl,rfl,rfl,trivial⟩ (aG _) fun _ h=>h⟩
 · exact ca (bP rfl) ⟨rfl,Q,hQ,rfl⟩
section
variable {N:Nat} {av bor:List Nat} {w0:World} {ops:Array Oper} {rest:List Oper} {k:St→Prop} {E:Env} {X:World→Prop} {d:Option Tmp} {ty:TypeId} {pos:String} {af:Array Edge} {g:Option (Nat×Bool)} {bb want:Bool}
theorem cX {x:Operand} {xs:List Operand} {ats:Array TypeId} {f:FuncId} {args:List Value} {s:SlV} {Q:List FndX}
  (hx:ev E x=some (.func (.func f) #[] #[]):=by rfl) (ha:evs E xs=some args:=by rfl) (hg:gdB ops E g=some (bb,want):=by rfl) (hb:bb=want:=by exact aE) (hd:inB N d=true:=by rfl) (hf:FnBody Tryz.prog f:=by infer_instance)
  (hc:Ct Tryz.prog f args.toArray [postR s Q] (fun _=>True) (PermAt s Q))
  (h:∀ Q':List FndX,Q'.Perm Q→Sw Tryz.prog N av bor w0 ops rest ⟨putE E d (.tuple #[]),[postR s Q'],X⟩ k) :
  Sw Tryz.prog N av bor w0 ops (⟨d,.call ⟨.value x,xs.toArray,ats⟩,ty,pos,af,g⟩::rest) ⟨E,[postR s Q],X⟩ k :=
 cC (pre:=[postR s Q]) (fr:=[]) (first:=#[]) (caps:=#[]) (Post:=PermAt s Q) hx ha rfl hg hb hd hf (by simpa using hc) (fun _ _=>trivial) fun u R X' ⟨h1,Q',h2,h3⟩=>by
  subst h1
  subst h3
  refine iB (fun a w ok=>?_) (h Q' h2)
  exact ok.via fun M G=>G.imp fun _ h=>h.1
end
structure RotI (P:List FndX) (p q:Nat) where
 i:Nat
 j:Nat
 h1:1≤i
 h2:i≤p
 h3:1≤j
 h4:j≤q
 Q:List FndX
 hQ:Q.Perm P
set_option maxHeartbeats 4000000 in
theorem fS (s:SlV) (P:List FndX) (a m b:Nat) (fv:Value) (hs:s.n=P.length) (hm:s.n≤1000000) (ha:a<m) (hb:m<b) (hbs:b≤s.n) :
  Ct Tryz.prog 234 #[s.v,.int .i64 (a:Nat),.int .i64 (m:Nat),.int .i64 (b:Nat),fv] [postR s P] (fun _=>True) (PermAt s P):=by
 refine cj (args:=[_,_,_,_,_]) _ Tryz.func234 rfl Tryz.ntmps234 rfl fun av bor w0=>?_
 repeat' (first|refine bJ (hq:=by omega) ?_|apply ab|apply Qu|apply Qv|refine aj ?_|refine ad ?_|apply Qw|fail)
 refine aT (ι:=RotI P (m-a) (b-m)) (fun r=>⟨[(0,s.v),(2,.int .i64 (m:Nat)),(4,fv),(10,.int .i64 (r.i:Nat)),(11,.int .i64 (r.j:Nat))],[postR s r.Q],fun _=>True⟩) (fun r=>r.i+r.j) ⟨m-a,b-m,by omega,by omega,by omega,by omega,P,List.Perm.refl _⟩ (ax ⟨rfl,rfl,rfl,rfl,rfl,trivial⟩ (aG _) fun _ h=>h) fun r=>?_
 obtain ⟨i,j,h1,h2,h3,h4,Q,hQ⟩:=r
 simp only
 have hl:=hQ.length_eq
 by_cases hij:i=j
 · repeat' (first|refine dJ (hab:=by omega) ?_|refine bJ (hq:=by omega) ?_|apply ab|apply Qu|apply Qv|refine aj ?_|refine Qz ?_|apply aS|(refine cX (hc:=cQ s Q (m-i) m i fv ae hm ae ae) (h:=fun Q2 hQ2=>?_))|fail)
   exact ca (bP rfl) ⟨rfl,Q2,hQ2.trans hQ,rfl⟩
 · repeat' (first|refine bJ (hq:=by omega) ?_|refine bq (hq:=by omega) ?_|apply ab|apply Qu|apply Qv|refine aj ?_|refine ad ?_|refine df ?_|refine cF ?_|apply Qx|apply Qw|apply aS|(refine cX (hc:=cQ s Q (m-i) m j fv ae hm ae ae) (h:=fun Q2 hQ2=>?_))|(refine cX (hc:=cQ s Q (m-i) (m+j-i) i fv ae hm ae ae) (h:=fun Q2 hQ2=>?_))|(refine aF (ht:=?_) (hf:=?_);all_goals (intro hx_;first|have:=aO hx_|have:=aQ hx_|skip)))
   · exact ⟨(⟨i-j,j,by omega,by omega,h3,h4,Q2,hQ2.trans hQ⟩:RotI P (m-a) (b-m)),(by show i-j+j<i+j;omega),ax ⟨rfl,rfl,rfl,rfl,rfl,trivial⟩ (aG _) fun _ h=>h⟩
   · exact ⟨(⟨i,j-i,h1,h2,by omega,by omega,Q2,hQ2.trans hQ⟩:RotI P (m-a) (b-m)),(by show i+(j-i)<i+j;omega),ax ⟨rfl,rfl,rfl,rfl,rfl,trivial⟩ (aG _) fun _ h=>h⟩
   · have h9:(i:Int)=(j:Int):=by simpa using hx_
     exact absurd (show i=j by omega) hij
def cmpX (x y:FndX):Int:=cmp2 x.rank y.rank x.dg y.dg
theorem eM (x y:FndX):Pu Tryz.prog 96 #[.agg x.cells.toArray,.agg y.cells.toArray] (fun _=>True) (.int .i64 (cmpX x y)):=by
 refine ay (args:=[_,_]) _ Tryz.func96 rfl Tryz.ntmps96 rfl fun av bor w0=>?_
 have h1:=gO x.rank y.rank
 have h2:=gw x.dg y.dg
 rw [cmpX,cmp2]
 generalize cmpI x.rank y.rank=k at *
 generalize SrG.cmpB_g x.dg y.dg=l at *
 have h3:=fun s=>r4 s k l
 repeat' (first|apply ab|apply Qu|apply Qv|refine ad ?_|refine aK fun _=>?_|fail)
 rename_i b2 b3
 (refine aU [cel b3 159 y.cells,cel b2 159 x.cells] (fun _=>True) al ?_)
 all_goals refine aa 0 ?_<;>refine aa 1 ?_<;>refine aa 2 ?_<;>refine aa 3 ?_<;>refine aa 5 ?_<;>refine aa 6 ?_<;>refine aa 7 ?_<;>refine aa 8 ?_<;>(refine ag 4 ?_;(refine ao (hc:=h1) (hX:=fun _ _=>trivial) ?_);apply ab;refine ai ?_)<;>(refine ag 9 ?_;(refine ao (hc:=h2) (hX:=fun _ _=>trivial) ?_);apply ab;refine ai ?_)<;>(refine ag 10 ?_;(refine bX (len:=2) (vs:=[.int .i64 k,.int .i64 l]) fun bs=>?_;refine cu ?_);apply ab;refine ai ?_)<;>(refine ag 11 ?_;(refine ao (hc:=h3 ⟨some ⟨bs,0,none⟩,2,2⟩) (hX:=fun w h=>bO (xs:=[[.int .i64 k],[.int .i64 l]]) h.2 rfl (by decide) (by simp)) ?_);apply ab;refine ai ?_)<;>refine aa 12 ?_<;>(refine aw ?_)
 all_goals
  repeat' (first|apply ar|fail)
  exact ak (ap rfl rfl) rfl
def cmpF:Value:=.func (.func 96) #[] #[]
def Srt (P:List FndX):Prop:=∀ (i j:Nat) (x y:FndX),i<j→P[i]?=some x→P[j]?=some y→¬ cmpX y x<0
def Rel (P Q:List FndX):Prop:=Q.Perm P∧(Srt P→Q=P)
theorem Rel.refl (P:List FndX):Rel P P:=⟨List.Perm.refl _,fun _=>rfl⟩
theorem Rel.trans {P Q R:List FndX} (h:Rel P Q) (k:Rel Q R):Rel P R:=⟨k.1.trans h.1,fun hs=>by rw [k.2 (h.2 hs▸hs),h.2 hs]⟩
theorem Rel.swap {P Q:List FndX} (h:Rel P Q) {i j:Nat} {x y:FndX} (hi:Q[i]?=some x) (hj:Q[j]?=some y) (hno:Srt P→False):Rel P ((Q.set i y).set j x):=⟨(d8 hi hj).trans h.1,fun hs=>(hno hs).elim⟩
theorem Rel.srt {P Q:List FndX} (h:Rel P Q) (hs:Srt P):Srt Q:=by rw [h.2 hs];exact hs
theorem Rel.perm {P Q Q':List FndX} (h:Rel P Q) (k:Q'.Perm Q) (hno:Srt P→False):Rel P Q':=⟨k.trans h.1,fun hs=>(hno hs).elim⟩
def RelAt (s:SlV) (P:List FndX) (u:Value) (R:List Res) (X:World→Prop):Prop:=u=.tuple #[]∧∃ Q:List FndX,Rel P Q∧R=[postR s Q]
end SrA
namespace SrA
structure InsI (P:List FndX) (a b:Nat) where
 k:Nat
 h1:a+1≤k
 h2:k≤b∨k=a+1
 Q:List FndX
 hQ:Rel P Q
structure InsJ (P:List FndX) (a k:Nat) where
 j:Nat
 h1:a≤j
 h2:j≤k
 Q:List FndX
 hQ:Rel P Q
set_option maxHeartbeats 60000000 in
theorem du (s:SlV) (P:List FndX) (a b:Nat) (hs:s.n=P.length) (hm:s.n≤1000000) (ha:a≤s.n) (hb:b≤s.n) :
  Ct Tryz.prog 202 #[s.v,.int .i64 (a:Nat),.int .i64 (b:Nat),cmpF] [postR s P] (fun _=>True) (RelAt s P):=by
 refine cj (args:=[_,_,_,_]) _ Tryz.func202 rfl Tryz.ntmps202 rfl fun av bor w0=>?_
 refine cS (r:=postR s P) aJ (p:=0<s.n→s.p.isSome=true) (fun w h hn=>cI h hn) fun hp=>?_
 repeat' (first|refine bq (q:=1) (hq:=by omega) ?_|apply ab|apply Qu|apply Qv|refine aj ?_|refine ad ?_|apply Qw|fail)
 refine aT (ι:=InsI P a b) (fun i=>⟨[(0,s.v),(1,.int .i64 (a:Nat)),(2,.int .i64 (b:Nat)),(3,cmpF),(8,.int .i64 (i.k:Nat))],[postR s i.Q],fun _=>True⟩) (fun i=>b-i.k) ⟨a+1,Qp _,.inr rfl,P,Rel.refl _⟩ (ax ⟨rfl,rfl,rfl,rfl,rfl,trivial⟩ (aG _) fun _ h=>h) fun i=>?_
 obtain ⟨k,h1,h2,Q,hQ⟩:=i
 simp only
 have hl:=hQ.1.length_eq
 repeat' (first|apply ab|apply Qu|apply Qv|refine aj ?_|refine ad ?_|refine bj ?_|apply Qx|apply Qw|apply aS|(refine aF (ht:=?_) (hf:=?_);all_goals (intro hx_;first|have:=aO hx_|have:=aQ hx_)))
 · have hkb:k<b:=by omega
   refine aT (ι:=InsJ P a k) (fun i=>⟨[(0,s.v),(1,.int .i64 (a:Nat)),(2,.int .i64 (b:Nat)),(3,cmpF),(8,.int .i64 (k:Nat)),(9,.int .i64 (i.j:Nat))],[postR s i.Q],fun _=>True⟩) (fun i=>i.j) ⟨k,by omega,Qp _,Q,hQ⟩ (ax ⟨rfl,rfl,rfl,rfl,rfl,rfl,trivial⟩ (aG _) fun _ h=>h) fun i=>?_
   obtain ⟨j,h3,h4,Q2,hQ2⟩:=i
   simp only
   have hl2:=hQ2.1.length_eq
   have hp':=hp ae
   by_cases hja:a<j
   · obtain ⟨x,hx⟩:∃ x,Q2[j]?=some x:=⟨_,Zm ae⟩
     obtain ⟨y,hy⟩:∃ y,Q2[j-1]?=some y:=⟨_,Zm ae⟩
     have hcm:=eM x y
     have hsx:Srt P→¬ cmpX x y<0:=fun hs=>hQ2.srt hs (j-1) j y x ae hy hx
     generalize cmpX x y=z at *
     apply Qu
     apply Qu
     unfold cmpF
     (refine aU [] (fun _=>True) al ?_)
     all_goals refine aa 0 ?_<;>refine aa 1 ?_<;>(refine aa 2 (hy:=by (apply y_gtrT_g;rfl;rfl;omega)) ?_)<;>refine aa 3 ?_<;>refine aa 4 ?_<;>refine aa 5 ?_<;>refine aa 6 ?_<;>(refine aa 7 (hy:=by (apply aN (q:=p22 (j));rfl;rfl;omega;omega;assumption;(rw [cG];omega))) ?_)<;>refine aa 9 ?_<;>refine aa 10 ?_<;>refine aa 11 ?_<;>(refine aa 12 (hy:=by (apply aN (q:=p22 (j-1));rfl;rfl;omega;omega;assumption;(rw [cG];omega))) ?_)<;>(refine bw 8 13 (h:=?_) (h':=?_);(focus (((refine am (br (i:=j) (P:=Q2) rfl aJ ae hx) rfl rfl rfl ?_);apply ab;refine ai ?_);all_goals ((refine ag 13 ?_;(refine am (br (i:=j-1) (P:=Q2) rfl aJ ae hy) rfl rfl rfl ?_);apply ab;refine ai ?_);all_goals (refine ag 14 ?_;(refine ao (hc:=hcm) (hX:=fun _ _=>trivial) ?_);apply ab;refine ai ?_);all_goals (refine aa 15 ?_);all_goals (refine aa 16 ?_);all_goals (refine aw ?_))));rotate_right;(focus (((refine am (br (i:=j-1) (P:=Q2) rfl aJ ae hy) rfl rfl rfl ?_);apply ab;refine ai ?_);all_goals ((refine ag 8 ?_;(refine am (br (i:=j) (P:=Q2) rfl aJ ae hx) rfl rfl rfl ?_);apply ab;refine ai ?_);all_goals (refine ag 14 ?_;(refine ao (hc:=hcm) (hX:=fun _ _=>trivial) ?_);apply ab;refine ai ?_);all_goals (refine aa 15 ?_);all_goals (refine aa 16 ?_);all_goals (refine aw ?_)))))
     all_goals
      repeat' (first|apply ab|apply Qu|apply Qv|refine aj ?_|refine ad ?_|refine be (h:=?_)|apply Qx|apply Qw|apply aS|(refine aF (ht:=?_) (hf:=?_);all_goals (intro hx_;first|have:=aO hx_|have:=aQ hx_)))
      · (refine aU [] (fun _=>True) al ?_)
        all_goals refine aa 0 ?_<;>refine aa 1 ?_<;>refine aa 2 ?_<;>refine aa 3 ?_<;>refine aa 4 ?_<;>refine aa 5 ?_<;>refine aa 6 ?_<;>refine aa 7 ?_<;>(refine aa 8 (hy:=by (apply aN (q:=p22 (j-1));rfl;rfl;omega;omega;assumption;(rw [cG];omega))) ?_)<;>refine aa 10 ?_<;>refine aa 11 ?_<;>(refine aa 12 (hy:=by (apply aN (q:=p22 (j));rfl;rfl;omega;omega;assumption;(rw [cG];omega))) ?_)<;>(refine bw 9 13 (h:=?_) (h':=?_);(focus (((refine am (br (i:=j-1) (P:=Q2) rfl aJ ae hy) rfl rfl rfl ?_);apply ab;refine ai ?_);all_goals ((refine ag 13 ?_;(refine am (br (i:=j) (P:=Q2) rfl aJ ae hx) rfl rfl rfl ?_);apply ab;refine ai ?_);all_goals (refine aa 14 (hy:=by (apply aN (q:=p22 (j));rfl;rfl;omega;omega;assumption;(rw [cG];omega))) ?_);all_goals (refine ag 15 ?_;(refine bT (i:=j) (p:=y) rfl rfl ae ae (At.here _) rfl aE rfl ?_);apply ab;refine ai ?_);all_goals (refine aa 16 (hy:=by (apply aN (q:=p22 (j-1));rfl;rfl;omega;omega;assumption;(rw [cG];omega))) ?_);all_goals (refine ag 17 ?_;(refine bT (i:=j-1) (p:=x) rfl rfl ae (by (simp only [List.length_set];omega)) (At.here _) rfl aE rfl ?_);apply ab;refine ai ?_);all_goals (refine aw ?_))));rotate_right;(focus (((refine am (br (i:=j) (P:=Q2) rfl aJ ae hx) rfl rfl rfl ?_);apply ab;refine ai ?_);all_goals ((refine ag 9 ?_;(refine am (br (i:=j-1) (P:=Q2) rfl aJ ae hy) rfl rfl rfl ?_);apply ab;refine ai ?_);all_goals (refine aa 14 (hy:=by (apply aN (q:=p22 (j));rfl;rfl;omega;omega;assumption;(rw [cG];omega))) ?_);all_goals (refine ag 15 ?_;(refine bT (i:=j) (p:=y) rfl rfl ae ae (At.here _) rfl aE rfl ?_);apply ab;refine ai ?_);all_goals (refine aa 16 (hy:=by (apply aN (q:=p22 (j-1));rfl;rfl;omega;omega;assumption;(rw [cG];omega))) ?_);all_goals (refine ag 17 ?_;(refine bT (i:=j-1) (p:=x) rfl rfl ae (by (simp only [List.length_set];omega)) (At.here _) rfl aE rfl ?_);apply ab;refine ai ?_);all_goals (refine aw ?_)))))
        all_goals
         repeat' (first|refine bJ (q:=1) (hq:=by omega) ?_|apply ab|apply Qv|refine aj ?_|refine ad ?_|fail)
         exact ⟨(⟨j-1,by omega,by omega,(Q2.set j y).set (j-1) x,hQ2.swap hx hy (fun hs=>hsx hs (by assumption))⟩:InsJ P a k),(by show j-1<j;omega),ax ⟨rfl,rfl,rfl,rfl,rfl,rfl,trivial⟩ (aG _) fun _ h=>h⟩
      · repeat' (first|refine bq (q:=1) (hq:=by omega) ?_|fail)
        exact ⟨(⟨k+1,by omega,by omega,Q2,hQ2⟩:InsI P a b),(by show b-(k+1)<b-k;omega),ax ⟨rfl,rfl,rfl,rfl,rfl,trivial⟩ (aG _) fun _ h=>h⟩
   · apply Qu
     apply Qu
     unfold cmpF
     (refine aU [] (fun _=>True) al ?_)
     all_goals refine aa 0 ?_<;>refine aa 1 ?_<;>(refine aa 2 (hy:=by (apply y_gtrF_g;rfl;rfl;omega)) ?_)<;>refine aa 3 ?_<;>refine aM 4 ?_<;>refine aM 5 ?_<;>refine aM 6 ?_<;>refine aM 7 ?_<;>refine aM 9 ?_<;>refine aM 10 ?_<;>refine aM 11 ?_<;>refine aM 12 ?_<;>(refine bw 8 13 (h:=?_) (h':=?_);(focus (((refine aL ?_);apply ab;refine ai ?_);all_goals ((refine ag 13 ?_;(refine aL ?_);apply ab;refine ai ?_);all_goals (refine ag 14 ?_;(refine aL ?_);apply ab;refine ai ?_);all_goals (refine aM 15 ?_);all_goals (refine aa 16 ?_);all_goals (refine aw ?_))));rotate_right;(focus (((refine aL ?_);apply ab;refine ai ?_);all_goals ((refine ag 8 ?_;(refine aL ?_);apply ab;refine ai ?_);all_goals (refine ag 14 ?_;(refine aL ?_);apply ab;refine ai ?_);all_goals (refine aM 15 ?_);all_goals (refine aa 16 ?_);all_goals (refine aw ?_)))))
     all_goals
      repeat' (first|refine bq (q:=1) (hq:=by omega) ?_|apply ab|apply Qv|refine aj ?_|refine ad ?_|refine Qz ?_|apply aS|fail)
      exact ⟨(⟨k+1,by omega,by omega,Q2,hQ2⟩:InsI P a b),(by show b-(k+1)<b-k;omega),ax ⟨rfl,rfl,rfl,rfl,rfl,trivial⟩ (aG _) fun _ h=>h⟩
 · exact ca (bP rfl) ⟨rfl,Q,hQ,rfl⟩
section
variable {N:Nat} {av bor:List Nat} {w0:World} {ops:Array Oper} {rest:List Oper} {k:St→Prop} {E:Env} {X:World→Prop} {d:Option Tmp} {ty:TypeId} {pos:String} {af:Array Edge} {g:Option (Nat×Bool)} {bb want:Bool}
theorem gA {x:Operand} {xs:List Operand} {ats:Array TypeId} {f:FuncId} {args:List Value} {s:SlV} {Q:List FndX}
  (hx:ev E x=some (.func (.func f) #[] #[]):=by rfl) (ha:evs E xs=some args:=by rfl) (hg:gdB ops E g=some (bb,want):=by rfl) (hb:bb=want:=by exact aE) (hd:inB N d=true:=by rfl) (hf:FnBody Tryz.prog f:=by infer_instance)
  (hc:Ct Tryz.prog f args.toArray [postR s Q] (fun _=>True) (RelAt s Q))
  (h:∀ Q':List FndX,Rel Q Q'→Sw Tryz.prog N av bor w0 ops rest ⟨putE E d (.tuple #[]),[postR s Q'],X⟩ k) :
  Sw Tryz.prog N av bor w0 ops (⟨d,.call ⟨.value x,xs.toArray,ats⟩,ty,pos,af,g⟩::rest) ⟨E,[postR s Q],X⟩ k :=
 cC (pre:=[postR s Q]) (fr:=[]) (first:=#[]) (caps:=#[]) (Post:=RelAt s Q) hx ha rfl hg hb hd hf (by simpa using hc) (fun _ _=>trivial) fun u R X' ⟨h1,Q',h2,h3⟩=>by
  subst h1
  subst h3
  refine iB (fun a w ok=>?_) (h Q' h2)
  exact ok.via fun M G=>G.imp fun _ h=>h.1
theorem cR {x:Operand} {xs:List Operand} {ats:Array TypeId} {f:FuncId} {args:List Value} {s:SlV} {P Q:List FndX} (hQ:Rel P Q)
  (hx:ev E x=some (.func (.func f) #[] #[]):=by rfl) (ha:evs E xs=some args:=by rfl) (hg:gdB ops E g=some (bb,want):=by rfl) (hb:bb=want:=by exact aE) (hd:inB N d=true:=by rfl) (hf:FnBody Tryz.prog f:=by infer_instance)
  (hc:∀ Q:List FndX,Rel P Q→Ct Tryz.prog f args.toArray [postR s Q] (fun _=>True) (RelAt s Q))
  (h:∀ Q':List FndX,Rel P Q'→Sw Tryz.prog N av bor w0 ops rest ⟨putE E d (.tuple #[]),[postR s Q'],X⟩ k) :
  Sw Tryz.prog N av bor w0 ops (⟨d,.call ⟨.value x,xs.toArray,ats⟩,ty,pos,af,g⟩::rest) ⟨E,[postR s Q],X⟩ k:=gA hx ha hg hb hd hf (hc Q hQ) fun Q' h1=>h Q' (hQ.trans h1)
theorem iC {x:Operand} {xs:List Operand} {ats:Array TypeId} {f:FuncId} {args:List Value} {s:SlV} {P Q:List FndX} (hQ:Rel P Q) (hno:Srt P→False)
  (hx:ev E x=some (.func (.func f) #[] #[]):=by rfl) (ha:evs E xs=some args:=by rfl) (hg:gdB ops E g=some (bb,want):=by rfl) (hb:bb=want:=by exact aE) (hd:inB N d=true:=by rfl) (hf:FnBody Tryz.prog f:=by infer_instance)
  (hc:∀ Q:List FndX,Rel P Q→Ct Tryz.prog f args.toArray [postR s Q] (fun _=>True) (PermAt s Q))
  (h:∀ Q':List FndX,Rel P Q'→Sw Tryz.prog N av bor w0 ops rest ⟨putE E d (.tuple #[]),[postR s Q'],X⟩ k) :
  Sw Tryz.prog N av bor w0 ops (⟨d,.call ⟨.value x,xs.toArray,ats⟩,ty,pos,af,g⟩::rest) ⟨E,[postR s Q],X⟩ k:=cX hx ha hg hb hd hf (hc Q hQ) fun Q' h1=>h Q' (hQ.perm h1 hno)
end
structure BinL (P:List FndX) (lo hi:Nat) extends BinI_g lo hi where
 hs:Srt P→i=lo
structure BinR (P:List FndX) (lo hi:Nat) extends BinI_g lo hi where
 hs:Srt P→j=hi
structure MerO (P:List FndX) (a m b mid:Nat) extends MerI_g a m b mid where
 hs:Srt P→j=(if mid<m then mid else m)
structure UpI (P:List FndX) (a:Nat) where
 k:Nat
 h1:a≤k
 Q:List FndX
 hQ:Rel P Q
structure DownI (P:List FndX) (i m:Nat) where
 k:Nat
 h1:i≤k
 h2:k≤m
 Q:List FndX
 hQ:Rel P Q
set_option maxRecDepth 20000 in
set_option maxHeartbeats 60000000 in
theorem cW:∀ (d:Nat) (s:SlV) (P:List FndX) (a m b:Nat),b-a≤d→s.n=P.length→s.n≤1000000→a<m→m<b→b≤s.n →
  Ct Tryz.prog 203 #[s.v,.int .i64 (a:Nat),.int .i64 (m:Nat),.int .i64 (b:Nat),cmpF] [postR s P] (fun _=>True) (RelAt s P)
 | 0,s,P,a,m,b,hd,hs,hm,ha,hb,hbs=>absurd hd ae
 | d+1,s,P,a,m,b,hd,hs,hm,ha,hb,hbs=>by
  have ih:=cW d
  have hP:Rel P P:=Rel.refl P
  refine cj (args:=[_,_,_,_,_]) _ Tryz.func203 rfl Tryz.ntmps203 rfl fun av bor w0=>?_
  refine cS (r:=postR s P) aJ (p:=0<s.n→s.p.isSome=true) (fun w h hn=>cI h hn) fun hp=>?_
  have hp':=hp ae
  by_cases hA:m-a=1
  · repeat' (first|refine bJ (hq:=by omega) ?_|refine bn (hab:=by omega) ?_|apply ab|apply Qu|apply Qv|refine aj ?_|refine ad ?_|refine Qy ?_|apply Qw|fail)
    refine aT (ι:=BinL P m b) (fun r=>⟨[(0,s.v),(1,.int .i64 (a:Nat)),(4,cmpF),(10,.int .i64 (r.i:Nat)),(11,.int .i64 (r.j:Nat))],[postR s P],fun _=>True⟩) (fun r=>r.j-r.i) ⟨⟨m,b,by omega,by omega,by omega⟩,fun _=>rfl⟩ (ax ⟨rfl,rfl,rfl,rfl,rfl,trivial⟩ (aG _) fun _ h=>h) fun r=>?_
    obtain ⟨⟨i,j,h1,h2,h3⟩,hso⟩:=r
    simp only at hso
    simp only
    repeat' (first|refine bq (hq:=by omega) ?_|refine sy_toU_g (hq:=by omega) ?_|refine dl ?_|refine sy_toI_g (hq:=by omega) ?_|apply ab|apply Qu|apply Qv|refine aj ?_|refine ad ?_|refine bj ?_|apply Qx|apply Qw|apply aS|(refine aF (ht:=?_) (hf:=?_);all_goals (intro hx_;first|have:=aO hx_|have:=aQ hx_)))
    · have hlt:i<j:=by omega
      obtain ⟨x,hx⟩:∃ x,P[(i+j)/2]?=some x:=⟨_,Zm ae⟩
      obtain ⟨y,hy⟩:∃ y,P[a]?=some y:=⟨_,Zm ae⟩
      have hcm:=eM x y
      have hsx:Srt P→¬ cmpX x y<0:=fun hs=>hs a ((i+j)/2) y x ae hy hx
      generalize cmpX x y=z at *
      unfold cmpF
      (refine aU [] (fun _=>True) al ?_)
      all_goals refine aa 0 ?_<;>refine aa 1 ?_<;>refine aa 2 ?_<;>(refine aa 3 (hy:=by (apply aN (q:=p22 (((i+j)/2)));rfl;rfl;omega;omega;assumption;(rw [cG];omega))) ?_)<;>refine aa 5 ?_<;>refine aa 6 ?_<;>(refine aa 7 (hy:=by (apply aN (q:=p22 (a));rfl;rfl;omega;omega;assumption;(rw [cG];omega))) ?_)<;>(refine bw 4 8 (h:=?_) (h':=?_);(focus (((refine am (br (i:=(i+j)/2) (P:=P) rfl aJ ae hx) rfl rfl rfl ?_);apply ab;refine ai ?_);all_goals ((refine ag 8 ?_;(refine am (br (i:=a) (P:=P) rfl aJ ae hy) rfl rfl rfl ?_);apply ab;refine ai ?_);all_goals (refine ag 9 ?_;(refine ao (hc:=hcm) (hX:=fun _ _=>trivial) ?_);apply ab;refine ai ?_);all_goals (refine aa 10 ?_);all_goals (refine aw ?_))));rotate_right;(focus (((refine am (br (i:=a) (P:=P) rfl aJ ae hy) rfl rfl rfl ?_);apply ab;refine ai ?_);all_goals ((refine ag 4 ?_;(refine am (br (i:=(i+j)/2) (P:=P) rfl aJ ae hx) rfl rfl rfl ?_);apply ab;refine ai ?_);all_goals (refine ag 9 ?_;(refine ao (hc:=hcm) (hX:=fun _ _=>trivial) ?_);apply ab;refine ai ?_);all_goals (refine aa 10 ?_);all_goals (refine aw ?_)))))
      all_goals
       repeat' (first|refine bq (q:=1) (hq:=by omega) ?_|apply ab|apply Qv|refine aj ?_|refine ad ?_|(refine aF (ht:=?_) (hf:=?_);all_goals (intro hx_;first|have:=aO hx_|have:=aQ hx_)))
       · exact ⟨(⟨⟨(i+j)/2+1,j,by omega,by omega,h3⟩,fun hs=>absurd (show z<0 by assumption) (hsx hs)⟩:BinL P m b),(by show j-((i+j)/2+1)<j-i;omega),ax ⟨rfl,rfl,rfl,rfl,rfl,trivial⟩ (aG _) fun _ h=>h⟩
       · exact ⟨(⟨⟨i,(i+j)/2,h1,by omega,by omega⟩,hso⟩:BinL P m b),(by show (i+j)/2-i<j-i;omega),ax ⟨rfl,rfl,rfl,rfl,rfl,trivial⟩ (aG _) fun _ h=>h⟩
    · refine aT (ι:=UpI P a) (fun r=>⟨[(0,s.v),(10,.int .i64 (i:Nat)),(13,.int .i64 (r.k:Nat))],[postR s r.Q],fun _=>True⟩) (fun r=>i-r.k) ⟨a,Qp _,P,hP⟩ (ax ⟨rfl,rfl,rfl,trivial⟩ (aG _) fun _ h=>h) fun r=>?_
      obtain ⟨k,h4,Q,hQ⟩:=r
      simp only
      have hl:=hQ.1.length_eq
      repeat' (first|refine bJ (q:=1) (hq:=by omega) ?_|apply ab|apply Qu|apply Qv|refine aj ?_|refine bj ?_|apply Qx|apply Qw|apply ar|apply aS|(refine aF (ht:=?_) (hf:=?_);all_goals (intro hx_;first|have:=aO hx_|have:=aQ hx_)))
      · have hlt:k+1<i:=by omega
        obtain ⟨x,hx⟩:∃ x,Q[k]?=some x:=⟨_,Zm ae⟩
        obtain ⟨y,hy⟩:∃ y,Q[k+1]?=some y:=⟨_,Zm ae⟩
        (refine aU [] (fun _=>True) al ?_)
        all_goals refine aa 0 ?_<;>refine aa 1 ?_<;>refine aa 2 ?_<;>refine aa 3 ?_<;>refine aa 4 ?_<;>refine aa 5 ?_<;>refine aa 6 ?_<;>refine aa 7 ?_<;>(refine aa 8 (hy:=by (apply aN (q:=p22 (k+1));rfl;rfl;omega;omega;assumption;(rw [cG];omega))) ?_)<;>refine aa 10 ?_<;>refine aa 11 ?_<;>(refine aa 12 (hy:=by (apply aN (q:=p22 (k));rfl;rfl;omega;omega;assumption;(rw [cG];omega))) ?_)<;>(refine bw 9 13 (h:=?_) (h':=?_);(focus (((refine am (br (i:=k+1) (P:=Q) rfl aJ ae hy) rfl rfl rfl ?_);apply ab;refine ai ?_);all_goals ((refine ag 13 ?_;(refine am (br (i:=k) (P:=Q) rfl aJ ae hx) rfl rfl rfl ?_);apply ab;refine ai ?_);all_goals (refine aa 14 (hy:=by (apply aN (q:=p22 (k));rfl;rfl;omega;omega;assumption;(rw [cG];omega))) ?_);all_goals (refine ag 15 ?_;(refine bT (i:=k) (p:=y) rfl rfl ae ae (At.here _) rfl aE rfl ?_);apply ab;refine ai ?_);all_goals (refine aa 16 (hy:=by (apply aN (q:=p22 (k+1));rfl;rfl;omega;omega;assumption;(rw [cG];omega))) ?_);all_goals (refine ag 17 ?_;(refine bT (i:=k+1) (p:=x) rfl rfl ae (by (simp only [List.length_set];omega)) (At.here _) rfl aE rfl ?_);apply ab;refine ai ?_);all_goals (refine aw ?_))));rotate_right;(focus (((refine am (br (i:=k) (P:=Q) rfl aJ ae hx) rfl rfl rfl ?_);apply ab;refine ai ?_);all_goals ((refine ag 9 ?_;(refine am (br (i:=k+1) (P:=Q) rfl aJ ae hy) rfl rfl rfl ?_);apply ab;refine ai ?_);all_goals (refine aa 14 (hy:=by (apply aN (q:=p22 (k));rfl;rfl;omega;omega;assumption;(rw [cG];omega))) ?_);all_goals (refine ag 15 ?_;(refine bT (i:=k) (p:=y) rfl rfl ae ae (At.here _) rfl aE rfl ?_);apply ab;refine ai ?_);all_goals (refine aa 16 (hy:=by (apply aN (q:=p22 (k+1));rfl;rfl;omega;omega;assumption;(rw [cG];omega))) ?_);all_goals (refine ag 17 ?_;(refine bT (i:=k+1) (p:=x) rfl rfl ae (by (simp only [List.length_set];omega)) (At.here _) rfl aE rfl ?_);apply ab;refine ai ?_);all_goals (refine aw ?_)))))
        all_goals
         repeat' (first|refine bq (q:=1) (hq:=by omega) ?_|apply ab|apply Qv|refine aj ?_|refine ad ?_|fail)
         exact ⟨(⟨k+1,by omega,(Q.set k y).set (k+1) x,hQ.swap hx hy (fun hs=>by have:=hso hs;omega)⟩:UpI P a),(by show i-(k+1)<i-k;omega),ax ⟨rfl,rfl,rfl,trivial⟩ (aG _) fun _ h=>h⟩
      · exact ak (bP rfl) ⟨rfl,Q,hQ,rfl⟩
  · by_cases hB:b-m=1
    · repeat' (first|refine bJ (hq:=by omega) ?_|refine bn (hab:=by omega) ?_|refine bt (hab:=by omega) ?_|apply ab|apply Qu|apply Qv|refine aj ?_|refine ad ?_|refine Qy ?_|refine Qz ?_|apply Qx|apply Qw|fail)
      refine aT (ι:=BinR P a m) (fun r=>⟨[(0,s.v),(2,.int .i64 (m:Nat)),(4,cmpF),(14,.int .i64 (r.i:Nat)),(15,.int .i64 (r.j:Nat))],[postR s P],fun _=>True⟩) (fun r=>r.j-r.i) ⟨⟨a,m,by omega,by omega,by omega⟩,fun _=>rfl⟩ (ax ⟨rfl,rfl,rfl,rfl,rfl,trivial⟩ (aG _) fun _ h=>h) fun r=>?_
      obtain ⟨⟨i,j,h1,h2,h3⟩,hso⟩:=r
      simp only at hso
      simp only
      repeat' (first|refine bq (hq:=by omega) ?_|refine sy_toU_g (hq:=by omega) ?_|refine dl ?_|refine sy_toI_g (hq:=by omega) ?_|apply ab|apply Qu|apply Qv|refine aj ?_|refine ad ?_|refine bj ?_|apply Qx|apply Qw|apply aS|(refine aF (ht:=?_) (hf:=?_);all_goals (intro hx_;first|have:=aO hx_|have:=aQ hx_)))
      · have hlt:i<j:=by omega
        obtain ⟨x,hx⟩:∃ x,P[m]?=some x:=⟨_,Zm ae⟩
        obtain ⟨y,hy⟩:∃ y,P[(i+j)/2]?=some y:=⟨_,Zm ae⟩
        have hcm:=eM x y
        have hsx:Srt P→¬ cmpX x y<0:=fun hs=>hs ((i+j)/2) m y x ae hy hx
        generalize cmpX x y=z at *
        unfold cmpF
        (refine aU [] (fun _=>True) al ?_)
        all_goals refine aa 0 ?_<;>refine aa 1 ?_<;>refine aa 2 ?_<;>(refine aa 3 (hy:=by (apply aN (q:=p22 (m));rfl;rfl;omega;omega;assumption;(rw [cG];omega))) ?_)<;>refine aa 5 ?_<;>refine aa 6 ?_<;>(refine aa 7 (hy:=by (apply aN (q:=p22 (((i+j)/2)));rfl;rfl;omega;omega;assumption;(rw [cG];omega))) ?_)<;>(refine bw 4 8 (h:=?_) (h':=?_);(focus (((refine am (br (i:=m) (P:=P) rfl aJ ae hx) rfl rfl rfl ?_);apply ab;refine ai ?_);all_goals ((refine ag 8 ?_;(refine am (br (i:=(i+j)/2) (P:=P) rfl aJ ae hy) rfl rfl rfl ?_);apply ab;refine ai ?_);all_goals (refine ag 9 ?_;(refine ao (hc:=hcm) (hX:=fun _ _=>trivial) ?_);apply ab;refine ai ?_);all_goals (refine aa 10 ?_);all_goals (refine aa 11 ?_);all_goals (refine aw ?_))));rotate_right;(focus (((refine am (br (i:=(i+j)/2) (P:=P) rfl aJ ae hy) rfl rfl rfl ?_);apply ab;refine ai ?_);all_goals ((refine ag 4 ?_;(refine am (br (i:=m) (P:=P) rfl aJ ae hx) rfl rfl rfl ?_);apply ab;refine ai ?_);all_goals (refine ag 9 ?_;(refine ao (hc:=hcm) (hX:=fun _ _=>trivial) ?_);apply ab;refine ai ?_);all_goals (refine aa 10 ?_);all_goals (refine aa 11 ?_);all_goals (refine aw ?_)))))
        all_goals
         repeat' (first|refine bq (q:=1) (hq:=by omega) ?_|apply ab|apply Qv|refine aj ?_|refine ad ?_|(refine aF (ht:=?_) (hf:=?_);all_goals (intro hx_;skip)))
         · exact ⟨(⟨⟨(i+j)/2+1,j,by omega,by omega,h3⟩,hso⟩:BinR P a m),(by show j-((i+j)/2+1)<j-i;omega),ax ⟨rfl,rfl,rfl,rfl,rfl,trivial⟩ (aG _) fun _ h=>h⟩
         · exact ⟨(⟨⟨i,(i+j)/2,h1,by omega,by omega⟩,fun hs=>absurd (show z<0 by (simp_all;done)) (hsx hs)⟩:BinR P a m),(by show (i+j)/2-i<j-i;omega),ax ⟨rfl,rfl,rfl,rfl,rfl,trivial⟩ (aG _) fun _ h=>h⟩
      · refine aT (ι:=DownI P i m) (fun r=>⟨[(0,s.v),(14,.int .i64 (i:Nat)),(17,.int .i64 (r.k:Nat))],[postR s r.Q],fun _=>True⟩) (fun r=>r.k) ⟨m,by omega,Qp _,P,hP⟩ (ax ⟨rfl,rfl,rfl,trivial⟩ (aG _) fun _ h=>h) fun r=>?_
        obtain ⟨k,h4,h5,Q,hQ⟩:=r
        simp only
        have hl:=hQ.1.length_eq
        repeat' (first|apply ab|apply Qu|apply Qv|refine aj ?_|refine cF ?_|apply Qx|apply Qw|apply ar|apply aS|(refine aF (ht:=?_) (hf:=?_);all_goals (intro hx_;first|have:=aO hx_|have:=aQ hx_)))
        · have hlt:i<k:=by omega
          obtain ⟨x,hx⟩:∃ x,Q[k]?=some x:=⟨_,Zm ae⟩
          obtain ⟨y,hy⟩:∃ y,Q[k-1]?=some y:=⟨_,Zm ae⟩
          (refine aU [] (fun _=>True) al ?_)
          all_goals refine aa 0 ?_<;>refine aa 1 ?_<;>refine aa 2 ?_<;>refine aa 3 ?_<;>refine aa 4 ?_<;>refine aa 5 ?_<;>refine aa 6 ?_<;>refine aa 7 ?_<;>(refine aa 8 (hy:=by (apply aN (q:=p22 (k-1));rfl;rfl;omega;omega;assumption;(rw [cG];omega))) ?_)<;>refine aa 10 ?_<;>refine aa 11 ?_<;>(refine aa 12 (hy:=by (apply aN (q:=p22 (k));rfl;rfl;omega;omega;assumption;(rw [cG];omega))) ?_)<;>(refine bw 9 13 (h:=?_) (h':=?_);(focus (((refine am (br (i:=k-1) (P:=Q) rfl aJ ae hy) rfl rfl rfl ?_);apply ab;refine ai ?_);all_goals ((refine ag 13 ?_;(refine am (br (i:=k) (P:=Q) rfl aJ ae hx) rfl rfl rfl ?_);apply ab;refine ai ?_);all_goals (refine aa 14 (hy:=by (apply aN (q:=p22 (k));rfl;rfl;omega;omega;assumption;(rw [cG];omega))) ?_);all_goals (refine ag 15 ?_;(refine bT (i:=k) (p:=y) rfl rfl ae ae (At.here _) rfl aE rfl ?_);apply ab;refine ai ?_);all_goals (refine aa 16 (hy:=by (apply aN (q:=p22 (k-1));rfl;rfl;omega;omega;assumption;(rw [cG];omega))) ?_);all_goals (refine ag 17 ?_;(refine bT (i:=k-1) (p:=x) rfl rfl ae (by (simp only [List.length_set];omega)) (At.here _) rfl aE rfl ?_);apply ab;refine ai ?_);all_goals (refine aw ?_))));rotate_right;(focus (((refine am (br (i:=k) (P:=Q) rfl aJ ae hx) rfl rfl rfl ?_);apply ab;refine ai ?_);all_goals ((refine ag 9 ?_;(refine am (br (i:=k-1) (P:=Q) rfl aJ ae hy) rfl rfl rfl ?_);apply ab;refine ai ?_);all_goals (refine aa 14 (hy:=by (apply aN (q:=p22 (k));rfl;rfl;omega;omega;assumption;(rw [cG];omega))) ?_);all_goals (refine ag 15 ?_;(refine bT (i:=k) (p:=y) rfl rfl ae ae (At.here _) rfl aE rfl ?_);apply ab;refine ai ?_);all_goals (refine aa 16 (hy:=by (apply aN (q:=p22 (k-1));rfl;rfl;omega;omega;assumption;(rw [cG];omega))) ?_);all_goals (refine ag 17 ?_;(refine bT (i:=k-1) (p:=x) rfl rfl ae (by (simp only [List.length_set];omega)) (At.here _) rfl aE rfl ?_);apply ab;refine ai ?_);all_goals (refine aw ?_)))))
          all_goals
           repeat' (first|refine bJ (q:=1) (hq:=by omega) ?_|apply ab|apply Qv|refine aj ?_|refine ad ?_|fail)
           exact ⟨(⟨k-1,by omega,by omega,(Q.set k y).set (k-1) x,hQ.swap hx hy (fun hs=>by have:=hso hs;omega)⟩:DownI P i m),(by show k-1<k;omega),ax ⟨rfl,rfl,rfl,trivial⟩ (aG _) fun _ h=>h⟩
        · exact ak (bP rfl) ⟨rfl,Q,hQ,rfl⟩
    · obtain ⟨mid,hmid⟩:∃ mid,mid=(a+b)/2:=⟨_,rfl⟩
      have hm1:a<mid:=by omega
      have hm2:mid<b:=by omega
      have hm3:2*mid≤a+b:=by omega
      have hm4:a+b≤2*mid+1:=by omega
      by_cases hmm:mid<m
      all_goals
       repeat' (first|refine bt (hab:=by omega) ?_|refine oj (hab:=by omega) ?_|refine iA (hab:=by omega) ?_|refine bJ (q:=1) (hq:=by omega) ?_|refine bJ (hq:=by omega) ?_|refine bq (hq:=by omega) ?_|refine sy_toU_g (hq:=by omega) ?_|refine dl ?_|refine sy_toI_g (hq:=by omega) ?_|apply ab|apply Qu|apply Qv|refine aj ?_|refine ad ?_|refine Qy ?_|refine Qz ?_|apply Qx|apply Qw|fail)
       rw [←hmid]
       first
        | refine aT (ι:=MerO P a m b mid) (fun r=>⟨[(0,s.v),(1,.int .i64 (a:Nat)),(2,.int .i64 (m:Nat)),(3,.int .i64 (b:Nat)),(4,cmpF),(18,.int .i64 (mid:Nat)),(19,.int .i64 ((mid+m:Nat):Int)),(20,.int .i64 (r.i:Nat)),(21,.int .i64 (r.j:Nat)),(22,.int .i64 ((mid+m-1:Nat):Int))],[postR s P],fun _=>True⟩) (fun r=>r.j-r.i) ⟨⟨mid+m-b,mid,by omega,by omega,by omega⟩,fun _=>by rw [Qf (by assumption)]⟩ (ax ⟨rfl,rfl,rfl,rfl,rfl,rfl,rfl,rfl,rfl,rfl,trivial⟩ (aG _) fun _ h=>h) fun r=>?_
        | refine aT (ι:=MerO P a m b mid) (fun r=>⟨[(0,s.v),(1,.int .i64 (a:Nat)),(2,.int .i64 (m:Nat)),(3,.int .i64 (b:Nat)),(4,cmpF),(18,.int .i64 (mid:Nat)),(19,.int .i64 ((mid+m:Nat):Int)),(20,.int .i64 (r.i:Nat)),(21,.int .i64 (r.j:Nat)),(22,.int .i64 ((mid+m-1:Nat):Int))],[postR s P],fun _=>True⟩) (fun r=>r.j-r.i) ⟨⟨a,m,by omega,by omega,by omega⟩,fun _=>by rw [Qg (by assumption)]⟩ (ax ⟨rfl,rfl,rfl,rfl,rfl,rfl,rfl,rfl,rfl,rfl,trivial⟩ (aG _) fun _ h=>h) fun r=>?_
       obtain ⟨⟨i,j,h1,h2,h3⟩,hso⟩:=r
       simp only at hso
       simp only
       have hk1:a≤i:=by omega
       have hk2:j≤m:=by omega
       have hk3:i≤mid+m:=by omega
       by_cases hij:i<j
       · have hk4:(i+j)/2<j:=by omega
         have hk5:i≤(i+j)/2:=by omega
         have hk6:(i+j)/2≤mid+m-1:=by omega
         have hk7:mid+m-1-(i+j)/2<b:=by omega
         repeat' (first|refine sy_lssT_g (hab:=by omega) ?_|refine bq (hq:=by omega) ?_|refine sy_toU_g (hq:=by omega) ?_|refine dl ?_|refine sy_toI_g (hq:=by omega) ?_|apply ab|apply Qu|apply Qv|refine aj ?_|refine ad ?_|refine Qy ?_|apply Qx|apply Qw|fail)
         obtain ⟨x,hx⟩:∃ x,P[mid+m-1-(i+j)/2]?=some x:=⟨_,Zm ae⟩
         obtain ⟨y,hy⟩:∃ y,P[(i+j)/2]?=some y:=⟨_,Zm ae⟩
         have hcm:=eM x y
         have hsx:Srt P→¬ cmpX x y<0:=fun hs=>hs ((i+j)/2) (mid+m-1-(i+j)/2) y x ae hy hx
         generalize cmpX x y=z at *
         unfold cmpF
         (refine aU [] (fun _=>True) al ?_)
         all_goals refine aa 0 ?_<;>refine aa 1 ?_<;>refine aa 2 ?_<;>refine aa 3 ?_<;>refine aa 4 ?_<;>(refine aa 5 (hy:=by (apply aN (q:=p22 ((mid+m-1-(i+j)/2)));rfl;rfl;omega;omega;assumption;(rw [cG];omega))) ?_)<;>refine aa 7 ?_<;>refine aa 8 ?_<;>(refine aa 9 (hy:=by (apply aN (q:=p22 (((i+j)/2)));rfl;rfl;omega;omega;assumption;(rw [cG];omega))) ?_)<;>(refine bw 6 10 (h:=?_) (h':=?_);(focus (((refine am (br (i:=mid+m-1-(i+j)/2) (P:=P) rfl aJ ae hx) rfl rfl rfl ?_);apply ab;refine ai ?_);all_goals ((refine ag 10 ?_;(refine am (br (i:=(i+j)/2) (P:=P) rfl aJ ae hy) rfl rfl rfl ?_);apply ab;refine ai ?_);all_goals (refine ag 11 ?_;(refine ao (hc:=hcm) (hX:=fun _ _=>trivial) ?_);apply ab;refine ai ?_);all_goals (refine aa 12 ?_);all_goals (refine aa 13 ?_);all_goals (refine aw ?_))));rotate_right;(focus (((refine am (br (i:=(i+j)/2) (P:=P) rfl aJ ae hy) rfl rfl rfl ?_);apply ab;refine ai ?_);all_goals ((refine ag 6 ?_;(refine am (br (i:=mid+m-1-(i+j)/2) (P:=P) rfl aJ ae hx) rfl rfl rfl ?_);apply ab;refine ai ?_);all_goals (refine ag 11 ?_;(refine ao (hc:=hcm) (hX:=fun _ _=>trivial) ?_);apply ab;refine ai ?_);all_goals (refine aa 12 ?_);all_goals (refine aa 13 ?_);all_goals (refine aw ?_)))))
         all_goals
          repeat' (first|refine bq (q:=1) (hq:=by omega) ?_|apply ab|apply Qv|refine aj ?_|refine ad ?_|(refine aF (ht:=?_) (hf:=?_);all_goals (intro hx_;skip)))
          · exact ⟨(⟨⟨(i+j)/2+1,j,by omega,by omega,by omega⟩,hso⟩:MerO P a m b mid),(by show j-((i+j)/2+1)<j-i;omega),ax ⟨rfl,rfl,rfl,rfl,rfl,rfl,rfl,rfl,rfl,rfl,trivial⟩ (aG _) fun _ h=>h⟩
          · exact ⟨(⟨⟨i,(i+j)/2,by omega,by omega,by omega⟩,fun hs=>absurd (show z<0 by (simp_all;done)) (hsx hs)⟩:MerO P a m b mid),(by show (i+j)/2-i<j-i;omega),ax ⟨rfl,rfl,rfl,rfl,rfl,rfl,rfl,rfl,rfl,rfl,trivial⟩ (aG _) fun _ h=>h⟩
       · have hk8:mid+m-i≤b:=by omega
         have hnl:¬ (i:Int)<(j:Int):=by omega
         repeat' (first|refine sy_lssF_g (hab:=by first|exact hnl|omega) ?_|refine sy_lssT_g (hab:=by omega) ?_|refine bJ (hq:=by omega) ?_|apply ab|apply Qu|apply Qv|refine aj ?_|refine ad ?_|refine aB ?_|refine aC ?_|refine bj ?_|refine aL ?_|refine Qy ?_|refine Qz ?_|apply Qx|apply aS|(refine iC (P:=P) (hQ:=by assumption) (hno:=fun hs=>by have:=hso hs;split at this<;>omega) (hc:=fun Q hQ=>fS s Q i m (mid+m-i) cmpF (hs.trans hQ.1.length_eq.symm) hm ae ae ae) (h:=fun Q2 hQ2=>?_))|(refine cR (P:=P) (hQ:=by assumption) (hc:=fun Q hQ=>ih s Q a i mid ae (hs.trans hQ.1.length_eq.symm) hm ae ae ae) (h:=fun Q2 hQ2=>?_))|(refine cR (P:=P) (hQ:=by assumption) (hc:=fun Q hQ=>ih s Q mid (mid+m-i) b ae (hs.trans hQ.1.length_eq.symm) hm ae ae ae) (h:=fun Q2 hQ2=>?_))|((fail_if_success (refine aZ ?_));refine aP (ht:=?_) (hf:=?_);all_goals (intro hx_;first|have:=aO hx_|have:=aQ hx_))|(refine aF (ht:=?_) (hf:=?_);all_goals (intro hx_;first|have:=aO hx_|have:=aQ hx_)))
         all_goals
          refine ca (bP rfl) ⟨rfl,_,?_,rfl⟩
          assumption
end SrA
namespace SrA
structure StaI (P:List FndX) (n w:Nat) where
 a:Nat
 b:Nat
 h1:a≤n
 h2:b=a+w
 Q:List FndX
 hQ:Rel P Q
structure StaO (P:List FndX) (n:Nat) where
 z:Nat
 h1:1≤z
 h2:z≤2*n+20
 Q:List FndX
 hQ:Rel P Q
set_option maxRecDepth 20000 in
set_option maxHeartbeats 8000000 in
theorem fP (s:SlV) (P:List FndX) (hs:s.n=P.length) (hm:s.n≤1000000):Ct Tryz.prog 161 #[s.v,.int .i64 (s.n:Nat),cmpF] [postR s P] (fun _=>True) (RelAt s P):=by
 have hP:Rel P P:=Rel.refl P
 refine cj (args:=[_,_,_]) _ Tryz.func161 rfl Tryz.ntmps161 rfl fun av bor w0=>?_
 repeat' (first|apply ab|apply Qu|apply Qv|refine aj ?_|refine ad ?_|apply Qw|fail)
 refine aT (ι:=StaI P s.n 20) (fun r=>⟨[(0,s.v),(1,.int .i64 (s.n:Nat)),(2,cmpF),(6,.int .i64 20),(7,.int .i64 (r.a:Nat)),(8,.int .i64 (r.b:Nat))],[postR s r.Q],fun _=>True⟩) (fun r=>s.n-r.a) ⟨0,20,Nat.zero_le _,rfl,P,hP⟩ (ax ⟨rfl,rfl,rfl,rfl,rfl,rfl,trivial⟩ (aG _) fun _ h=>h) fun r=>?_
 obtain ⟨a,b,h1,h2,Q,hQ⟩:=r
 simp only
 repeat' (first|refine bq (q:=20) (hq:=by omega) ?_|apply ab|apply Qu|apply Qv|refine aj ?_|refine ad ?_|refine cB ?_|apply Qx|apply Qw|apply aS|(refine cR (P:=P) (hQ:=by assumption) (hc:=fun Q hQ=>du s Q a b (hs.trans hQ.1.length_eq.symm) hm ae ae) (h:=fun Q2 hQ2=>?_))|(refine cR (P:=P) (hQ:=by assumption) (hc:=fun Q hQ=>du s Q a s.n (hs.trans hQ.1.length_eq.symm) hm ae ae) (h:=fun Q2 hQ2=>?_))|(refine aF (ht:=?_) (hf:=?_);all_goals (intro hx_;first|have:=aO hx_|have:=aQ hx_)))
 · exact ⟨(⟨b,b+20,by omega,rfl,Q2,hQ2⟩:StaI P s.n 20),(by show s.n-b<s.n-a;omega),ax ⟨rfl,rfl,rfl,rfl,rfl,rfl,trivial⟩ (aG _) fun _ h=>h⟩
 · refine aT (ι:=StaO P s.n) (fun r=>⟨[(0,s.v),(1,.int .i64 (s.n:Nat)),(2,cmpF),(6,.int .i64 (r.z:Nat))],[postR s r.Q],fun _=>True⟩) (fun r=>s.n-r.z) ⟨20,by omega,by omega,Q2,hQ2⟩ (ax ⟨rfl,rfl,rfl,rfl,trivial⟩ (aG _) fun _ h=>h) fun r=>?_
   clear h1 h2 hQ hQ2
   obtain ⟨z,h1,h2,Q,hQ⟩:=r
   simp only
   repeat' (first|refine d7 (p:=2) (hq:=by omega) ?_|apply ab|apply Qu|apply Qv|refine aj ?_|refine ad ?_|refine bj ?_|apply Qx|apply Qw|apply aS|(refine aF (ht:=?_) (hf:=?_);all_goals (intro hx_;first|have:=aO hx_|have:=aQ hx_)))
   · have hzn:z<s.n:=by omega
     refine aT (ι:=StaI P s.n (2*z)) (fun r=>⟨[(0,s.v),(1,.int .i64 (s.n:Nat)),(2,cmpF),(6,.int .i64 (z:Nat)),(7,.int .i64 (r.a:Nat)),(8,.int .i64 (r.b:Nat))],[postR s r.Q],fun _=>True⟩) (fun r=>s.n-r.a) ⟨0,2*z,Nat.zero_le _,(Ql _).symm,Q,hQ⟩ (ax ⟨rfl,rfl,rfl,rfl,rfl,rfl,trivial⟩ (aG _) fun _ h=>h) fun r=>?_
     obtain ⟨a,b,h3,h4,Q3,hQ3⟩:=r
     simp only
     repeat' (first|refine bq (hq:=by omega) ?_|refine d7 (p:=2) (hq:=by omega) ?_|refine d7 (q:=2) (hq:=by omega) ?_|apply ab|apply Qu|apply Qv|refine aj ?_|refine ad ?_|refine bj ?_|refine cB ?_|apply Qx|apply Qw|apply aS|(refine cR (P:=P) (hQ:=by assumption) (hc:=fun Q hQ=>cW (b-a) s Q a (a+z) b (Qp _) (hs.trans hQ.1.length_eq.symm) hm ae ae ae) (h:=fun Q2 hQ2=>?_))|(refine cR (P:=P) (hQ:=by assumption) (hc:=fun Q hQ=>cW (s.n-a) s Q a (a+z) s.n (Qp _) (hs.trans hQ.1.length_eq.symm) hm ae ae ae) (h:=fun Q2 hQ2=>?_))|(refine aF (ht:=?_) (hf:=?_);all_goals (intro hx_;first|have:=aO hx_|have:=aQ hx_)))
     · exact ⟨(⟨b,b+2*z,by omega,rfl,Q2,hQ2⟩:StaI P s.n (2*z)),(by show s.n-b<s.n-a;omega),ax ⟨rfl,rfl,rfl,rfl,rfl,rfl,trivial⟩ (aG _) fun _ h=>h⟩
     all_goals
      refine ⟨(⟨z*2,by omega,by omega,_,?_⟩:StaO P s.n),(by show s.n-z*2<s.n-z;omega),ax ⟨rfl,rfl,rfl,rfl,trivial⟩ (aG _) fun _ h=>h⟩
      assumption
   · exact ca (bP rfl) ⟨rfl,Q,hQ,rfl⟩
theorem sortStable_ct (s:SlV) (P:List FndX) (hs:s.n=P.length) (hm:s.n≤1000000):Ct Tryz.prog 95 #[s.v,cmpF] [postR s P] (fun _=>True) (RelAt s P):=by
 have hP:Rel P P:=Rel.refl P
 refine cj (args:=[_,_]) _ Tryz.func95 rfl Tryz.ntmps95 rfl fun av bor w0=>?_
 repeat' (first|apply ab|apply Qv|refine aj ?_|refine aW ?_|(refine cR (P:=P) (hQ:=by assumption) (hc:=fun Q hQ=>fP s Q (hs.trans hQ.1.length_eq.symm) hm) (h:=fun Q2 hQ2=>?_))|fail)
 exact ca (bP rfl) ⟨rfl,Q2,hQ2,rfl⟩
end SrA
end Go.Proofs.YtcdilibijnboeaaGreatDoor
namespace Go.Proofs.YtcdilibijnboeaaGreatDoor
open Go Go.Proofs Sy
theorem yz {α β:Type} {f:α→β} {P:List α} {Q:List β} (h:Q.Perm (P.map f)):∃ Q':List α,Q'.Perm P∧Q'.map f=Q:=by
 generalize e:P.map f=R at h
 induction h generalizing P with
 | nil =>
  cases P with
  | nil=>exact ⟨[],List.Perm.refl _,rfl⟩
  | cons a P=>cases e
 | cons x h ih =>
  cases P with
  | nil=>cases e
  | cons a P =>
   rw [Qt,List.cons.injEq] at e
   obtain ⟨Q',h1,h2⟩:=ih e.2
   exact ⟨a::Q',h1.cons a,by rw [Qt,h2,e.1]⟩
 | swap x y l =>
  cases P with
  | nil=>cases e
  | cons a P =>
   cases P with
   | nil=>cases e
   | cons b P =>
    rw [Qt,Qt,List.cons.injEq,List.cons.injEq] at e
    exact ⟨b::a::P,List.Perm.swap _ _ _,by rw [Qt,Qt,e.1,e.2.1,e.2.2]⟩
 | trans h1 h2 ih1 ih2 =>
  obtain ⟨Q2,p2,e2⟩:=ih2 e
  obtain ⟨Q1,p1,e1⟩:=ih1 e2
  exact ⟨Q1,p1.trans p2,e1⟩
def fndX (f:FndA):SrA.FndX:=⟨f.rank,f.dg,f.a.cells,rfl,rfl⟩
theorem mo (P:List FndA):(P.map fndX).map SrA.FndX.cells=P.map FndA.cells:=by rw [Qs];rfl
theorem vn (n:Nat) (hn:n≤1000000):SortA n:=fun s P hs hl=>by
 have h:=SrA.sortStable_ct s (P.map fndX) (by rw [Z3];exact hs) ae
 have e:SrA.postR s (P.map fndX)=fndR s P:=by
  show orow _ 22 _ _ ((P.map fndX).map SrA.FndX.cells).flatten=orow _ 22 _ _ (P.map FndA.cells).flatten
  rw [mo]
 rw [e] at h
 refine h.mono fun u R X' ⟨h1,Q,h2,h3⟩=>?_
 obtain ⟨Q',p,rfl⟩:=yz h2.1
 refine ⟨h1,Q',p,?_⟩
 rw [h3]
 show [orow _ 22 _ _ ((Q'.map fndX).map SrA.FndX.cells).flatten]=[orow _ 22 _ _ (Q'.map FndA.cells).flatten]
 rw [mo]
def cutK (kl:List KeyD) (q:Nat):List KeyD:=kl.filter fun k=>decide (k.from_≤(q:Int))
def movN (l:List ActD):Nat:=(l.filter fun a=>decide (a.kind=18)).length
def cutG (kl:List KeyD) (l:List ActD) (q:Nat):Int:=if ((cutK kl q).length:Int)-1-(movN (l.take q):Nat)<0 then 0 else ((cutK kl q).length:Int)-1-(movN (l.take q):Nat)
theorem zE (kl:List KeyD) (q:Nat):(cutK kl q).length≤kl.length:=List.length_filter_le _ _
theorem Bw (l:List ActD):movN l≤l.length:=List.length_filter_le _ _
def cutD (c:ChainD) (kl:List KeyD) (q:Nat) (p:ByteArray) (sk:SlV):ChainD:=⟨c.id,⟨c.acts.p,q,q⟩,sk,p,cutG kl c.actsL q,false,c.actsL.take q⟩
structure CutJ (kl:List KeyD) (q:Nat) where
 k:Nat
 hk:k≤kl.length
 n:Nat
 hn:n=(cutK (kl.take k) q).length
 A:Option Addr
 c:Nat
 xs:List Value
 hxs:xs=((cutK (kl.take k) q).map KeyD.cells).flatten
structure GenJ (l:List ActD) (q n:Nat) where
 k:Nat
 hk:k≤q
 g:Int
 hg:g=(n:Int)-1-(movN (l.take k):Nat)
set_option maxHeartbeats 4000000 in
theorem Ca (c:ChainD) (kl:List KeyD) (hcl:c.actsL.length≤1000000) (hkl1:kl.length≤1000000) (q:Nat) (hq0:0<q) (x:ActD) (hx:c.actsL[q]?=some x) :
  Mk Tryz.prog 10 #[c.v,.int .i64 (q:Nat)] (fun w=>c.at_ w∧Keyz w c.keys kl)
   (fun u X'=>∃ sk:SlV,u=(cutD c kl q x.prev sk).v∧∀ w,X' w→(cutD c kl q x.prev sk).at_ w∧Keyz w sk (cutK kl q)):=by
 refine cf (args:=[_,_]) _ Tryz.func10 rfl Tryz.ntmps10 rfl fun av bor w0=>?_
 refine bK (p:=(c.acts.n=c.actsL.length∧c.acts.n≤maxLen∧(0<c.actsL.length→c.acts.p.isSome=true)∧c.acts.n≤c.acts.c)∧c.keys.n=kl.length∧c.keys.n≤maxLen∧(0<kl.length→c.keys.p.isSome=true)) (fun w h=>⟨⟨h.1.len_,h.1.max_,h.1.some_,h.1.cap_⟩,Keyz.know w h.2⟩) fun ⟨⟨hl,hm,hp,hcap⟩,hkl,hkm,hkp⟩=>?_
 simp only [maxLen] at hm hkm
 have hqlt:q<c.actsL.length:=(List.getElem?_eq_some_iff.1 hx).1
 have hp':=hp ae
 have hcx:∀ w,c.at_ w∧Keyz w c.keys kl→CellAt w c.acts.p (q*20+2) (.string x.prev):=fun w h=>(Acts.get h.1 hx).2.2 2 _ rfl
 repeat' (first|refine am (bQ false rfl rfl (Zn ae)) rfl aE rfl ?_|refine am (gd false rfl rfl (Zn ae)) rfl aE rfl ?_|apply ab|apply Qu|apply Qv|refine aj ?_|refine az ?_|refine aA ?_|refine aW ?_|refine aI fun _=>?_|refine aK fun _=>?_|refine Qz ?_|apply Qx|fail)
 rename_i b2 b4
 (refine aU [cel b4 31 ChainD.zero.cells,cel b2 31 c.v.cells.toList] (fun w=>c.at_ w∧Keyz w c.keys kl) al ?_)
 all_goals refine aq 0 ?_<;>refine aq 1 ?_<;>refine aq 2 ?_<;>refine aq 3 ?_<;>refine aq 4 ?_<;>refine aq 5 ?_<;>(refine aq 6 (hy:=by (apply CE;rfl;rfl;rfl;omega;omega;omega)) ?_)<;>refine aq 7 ?_<;>refine aq 8 ?_<;>refine aq 9 ?_<;>(refine aq 10 (hy:=by (apply aN (q:=q*20);rfl;rfl;omega;omega;assumption;omega)) ?_)<;>(refine aq 11 (hy:=by (apply fI;rfl;assumption;rfl)) ?_)<;>(refine aq 12 (hy:=by (apply dT (q:=q*20+2) (u:=.string x.prev);rfl;exact hcx)) ?_)<;>(refine aq 13 (hy:=by (apply ci (cs:=[.string c.id,.slice c.acts.p q q,.slice none 0 0,.string x.prev,.int .i64 0,.bool false]);rfl;rfl)) ?_)<;>(refine ag 14 ?_;(refine aI fun _=>?_);apply ab;refine dV ?_)<;>(refine ag 15 ?_;(refine aH ?_);apply ab;refine dV ?_)<;>(refine aw ?_)
 rename_i b5
 have hn20:(q:Int).toNat=q:=rfl
 refine cY 35 3 ?_
 repeat' (first|apply ab|apply Qu|apply Qv|refine aj ?_|refine az ?_|refine aA ?_|refine aW ?_|apply Qw|fail)
 refine aT (ι:=CutJ kl q) (fun i=>⟨[(1,.int .i64 (q:Nat)),(4,.pointer (some ⟨b4,0,none⟩)),(5,.pointer (some ⟨b5,0,none⟩)),(36,c.keys.v),(37,.int .i64 c.keys.n),(38,.int .i64 i.k)],
  [orow 35 3 (.slice i.A i.n i.c) i.n i.xs,cel b5 31 [.string c.id,.slice c.acts.p q q,.slice i.A i.n i.c,.string x.prev,.int .i64 0,.bool false],cel b4 31 ChainD.zero.cells],fun w=>c.at_ w∧Keyz w c.keys kl⟩) (fun i=>kl.length-i.k) ⟨0,Nat.zero_le _,0,rfl,none,0,[],rfl⟩
  (ax ⟨rfl,rfl,rfl,rfl,rfl,rfl,trivial⟩ (List.Sublist.cons_cons _ (List.Sublist.cons_cons _ (List.Sublist.cons_cons _ (ZR _)))) fun _ h=>h) fun i=>?_
 obtain ⟨k,hk,n,hnE,A,cp,xs,hxs⟩:=i
 simp only
 have hnl:n≤k:=by
  have h1:=zE (kl.take k) q
  rw [List.length_take] at h1
  omega
 repeat' (first|apply ab|apply Qu|apply Qv|refine aj ?_|refine az ?_|refine aA ?_|refine bj ?_|refine aW ?_|refine cL (h:=?_)|refine bc ?_|apply Qx|apply Qw|apply aS|(refine aF (ht:=?_) (hf:=?_);all_goals (intro hx_;first|have:=aO hx_|have:=aQ hx_)))
 · have hlt:k<kl.length:=by omega
   have hkp':=hkp ae
   obtain ⟨y,hy⟩:∃ y,kl[k]?=some y:=⟨_,Zm hlt⟩
   have htk:cutK (kl.take (k+1)) q=cutK (kl.take k) q++bif decide (y.from_≤(q:Int)) then [y] else []:=by
    rw [cutK,cutK,List.take_add_one,hy,List.filter_append,Option.toList_some]
    congr 1
   repeat' (first|refine bH (size:=3) (vs:=[KeyD.v y]) (css:=y.cells) (hsz:=by rfl) (hcs:=by rfl) fun _=>?_|apply ab|apply Qu|apply Qv|refine aj ?_|refine az ?_|refine aA ?_|refine aD ?_|refine cB ?_|refine be (h:=?_)|refine aI fun _=>?_|refine bc ?_|refine aH ?_|apply Qx|(refine bz (q:=k*3) ?_)|(refine cq (cs:=y.cells) (hF:=fun w h=>Keyz.get h.2 hy) ?_)|(refine aV (size:=3) (news:=y.cells) (q:=1) rfl rfl rfl rfl (fun _=>At.there _ (At.there _ (At.here _))) (fun w G=>bo G aJ rfl rfl 1) ae (by simp only [maxLen];omega) rfl ?_ rfl ?_;(with_reducible rfl);intro A3 c3)|(refine aF (ht:=?_) (hf:=?_);all_goals (intro hx_;first|have:=aO hx_|have:=aQ hx_)))
   · have e:cutK (kl.take (k+1)) q=cutK (kl.take k) q++[y]:=by rw [htk,ZA (by assumption)];rfl
     exact ⟨(⟨k+1,hlt,n+1,by rw [e,ZX,←hnE];rfl,A3,c3,xs++y.cells,by rw [e,hxs];simp⟩:CutJ kl q),(by show kl.length-(k+1)<kl.length-k;omega),ax ⟨rfl,rfl,rfl,rfl,rfl,rfl,trivial⟩ (List.Sublist.cons _ (List.Sublist.cons _ (aG _))) fun _ h=>h⟩
   · have e:cutK (kl.take (k+1)) q=cutK (kl.take k) q:=by rw [htk,Zn (by assumption)];exact Z9 _
     exact ⟨(⟨k+1,hlt,n,by rw [e,←hnE],A,cp,xs,by rw [e,hxs]⟩:CutJ kl q),(by show kl.length-(k+1)<kl.length-k;omega),ax ⟨rfl,rfl,rfl,rfl,rfl,rfl,trivial⟩ (List.Sublist.cons _ (aG _)) fun _ h=>h⟩
 · have hkE:k=kl.length:=by omega
   rw [hkE,List.take_length] at hnE hxs
   refine aT (ι:=GenJ c.actsL q n) (fun j=>⟨[(4,.pointer (some ⟨b4,0,none⟩)),(5,.pointer (some ⟨b5,0,none⟩)),(59,.slice c.acts.p q q),(60,.int .i64 (q:Nat)),(61,.int .i64 j.k)],
    [orow 35 3 (.slice A n cp) n xs,cel b5 31 [.string c.id,.slice c.acts.p q q,.slice A n cp,.string x.prev,.int .i64 j.g,.bool false],cel b4 31 ChainD.zero.cells],fun w=>c.at_ w∧Keyz w c.keys kl⟩) (fun j=>q-j.k) ⟨0,Nat.zero_le _,(n:Int)-1,by simp [movN]⟩
    (ax ⟨rfl,rfl,rfl,rfl,rfl,trivial⟩ (aG _) fun _ h=>h) fun j=>?_
   obtain ⟨k2,hk2,g,hg⟩:=j
   simp only
   have hmv:movN (c.actsL.take k2)≤k2:=by
    have:=Bw (c.actsL.take k2)
    rw [List.length_take] at this
    omega
   repeat' (first|apply ab|apply Qu|apply Qv|refine az ?_|refine aA ?_|refine aD ?_|refine bj ?_|refine bc ?_|refine aH ?_|apply Qx|apply Qw|apply ar|apply aS|refine CW ?_|(refine aF (ht:=?_) (hf:=?_);all_goals (intro hx_;first|have:=aO hx_|have:=aQ hx_)))
   · have hjl:k2<q:=by omega
     obtain ⟨y,hy⟩:∃ y,c.actsL[k2]?=some y:=⟨_,Zm ae⟩
     have hst:movN (c.actsL.take (k2+1))=movN (c.actsL.take k2)+bif decide (y.kind=18) then 1 else 0:=by
      rw [movN,movN,List.take_add_one,hy,List.filter_append,Option.toList_some,ZX]
      congr 1
      cases hb:decide (y.kind=18) with
      | true=>simp [hb]
      | false=>simp [hb]
     repeat' (first|apply ab|apply Qu|apply Qv|refine aj ?_|refine az ?_|refine aA ?_|refine bM ?_|refine be (h:=?_)|refine cL (h:=?_)|refine aI fun _=>?_|refine bc ?_|refine aH ?_|apply Qx|(refine bz (q:=k2*20) ?_)|(refine cq (cs:=y.cells) (hF:=fun w h=>Acts.get h.1 hy) ?_)|(refine aF (ht:=?_) (hf:=?_);all_goals (intro hx_;first|have:=aO hx_|have:=aQ hx_)))
     · have e:movN (c.actsL.take (k2+1))=movN (c.actsL.take k2)+1:=by rw [hst,ZA (by assumption)];rfl
       exact ⟨(⟨k2+1,hjl,g-1,by rw [e];omega⟩:GenJ c.actsL q n),(by show q-(k2+1)<q-k2;omega),ax ⟨rfl,rfl,rfl,rfl,rfl,trivial⟩ (List.Sublist.cons _ (aG _)) fun _ h=>h⟩
     · have e:movN (c.actsL.take (k2+1))=movN (c.actsL.take k2):=by rw [hst,Zn (by assumption)];rfl
       exact ⟨(⟨k2+1,hjl,g,by rw [e];exact hg⟩:GenJ c.actsL q n),(by show q-(k2+1)<q-k2;omega),ax ⟨rfl,rfl,rfl,rfl,rfl,trivial⟩ (List.Sublist.cons _ (aG _)) fun _ h=>h⟩
   · have hk2E:k2=q:=by omega
     subst hk2E
     have hgE:(if g<0 then 0 else g)=cutG kl c.actsL k2:=by rw [cutG,←hnE,←hg]
     subst hxs
     refine ak (cJ rfl rfl bL (by rfl)) ⟨⟨A,n,cp⟩,by rw [cutD,←hgE];rfl,fun w h=>?_⟩
     have h1:=RowsD.take (n:=k2) h.1.1.1 (by simp;omega)
     rw [←List.map_take] at h1
     refine ⟨⟨⟨h1.len,Qp _,by simp only [maxLen];show k2≤_;omega,h1.row⟩,fun a ha=>h.1.1.2 a (List.mem_of_mem_take ha)⟩,?_⟩
     exact cg (xs:=(cutK kl k2).map KeyD.cells) (h.2 _ bL) (by rw [Z3];exact hnE) fun r hr=>by
      obtain ⟨z,_,rfl⟩:=List.mem_map.1 hr
      rfl
def keyF (kl:List KeyD) (i:Int):Nat→Option KeyD
 | 0=>none
 | j+1=>bif decide ((kl.getD j KeyD.zero).from_≤i) then some (kl.getD j KeyD.zero) else keyF kl i j
def keyV (n:Nat) (kl:List KeyD) (i:Int):Option KeyD:=bif decide (i<0)||decide ((n:Int)<i) then none else keyF kl i kl.length
def keyOP (o:Option KeyD):Value:=.tuple #[(o.getD KeyD.zero).v,.bool o.isSome]
structure KeyI (kl:List KeyD) (i:Int) where
 k:Nat
 hk:k≤kl.length
 hs:keyF kl i kl.length=keyF kl i k
set_option maxHeartbeats 8000000 in
theorem ko (c:ChainD) (kl:List KeyD) (i:Int):Pu Tryz.prog 11 #[c.v,.int .i64 i] (fun w=>c.at_ w∧Keyz w c.keys kl) (keyOP (keyV c.acts.n kl i)):=by
 refine ay (args:=[_,_]) _ Tryz.func11 rfl Tryz.ntmps11 rfl fun av bor w0=>?_
 refine bK (p:=c.keys.n=kl.length∧c.keys.n≤maxLen∧(0<kl.length→c.keys.p.isSome=true)) (fun w h=>Keyz.know w h.2) fun ⟨hkn,hkm,hkp⟩=>?_
 simp only [maxLen] at hkm
 cases hb:(decide (i<0)||decide ((c.acts.n:Int)<i)) with
 | true =>
  rw [show keyV c.acts.n kl i=none from by rw [keyV,hb];rfl]
  repeat' (first|apply ab|apply Qu|apply Qv|refine aj ?_|refine ad ?_|refine az ?_|refine aA ?_|refine aB ?_|refine aC ?_|refine bj ?_|refine cF ?_|refine aW ?_|refine cL (h:=?_)|refine bC ?_|refine aI fun _=>?_|refine aK fun _=>?_|refine aH ?_|refine Qy ?_|apply Qx|apply Qw|apply ar|(refine bm (cs:=KeyD.zero.cells) (hf:=by rfl) ?_)|((fail_if_success (refine aZ ?_));refine aP (ht:=?_) (hf:=?_);all_goals (intro hx_;first|have:=aO hx_|have:=aQ hx_))|(refine aF (ht:=?_) (hf:=?_);all_goals (intro hx_;first|have:=aO hx_|have:=aQ hx_)))
  all_goals first
   | exact ak (dc rfl rfl rfl bL (by rfl)) rfl
   | (exfalso;simp_all;done)
 | false =>
  have hb':=hb
  simp only [Bool.or_eq_false_iff,decide_eq_false_iff_not] at hb'
  obtain ⟨h0,h1⟩:=hb'
  rw [show keyV c.acts.n kl i=keyF kl i kl.length from by rw [keyV,hb];rfl]
  repeat' (first|refine am (bQ false rfl rfl (Zn h0)) rfl aE rfl ?_|refine iA (hab:=h1) ?_|apply ab|apply Qu|apply Qv|refine aj ?_|refine ad ?_|refine az ?_|refine aA ?_|refine aC ?_|refine aW ?_|refine cL (h:=?_)|refine aI fun _=>?_|refine aK fun _=>?_|refine Qz ?_|apply Qx|apply Qw|fail)
  rename_i b2 b4
  refine aT (ι:=KeyI kl i) (fun j=>⟨[(1,.int .i64 i),(2,.pointer (some ⟨b2,0,none⟩)),(4,.pointer (some ⟨b4,0,none⟩)),(6,.int .i64 ((j.k:Nat)-1))],[cel b4 35 KeyD.zero.cells,cel b2 31 c.cells],fun w=>c.at_ w∧Keyz w c.keys kl⟩) (fun j=>j.k) ⟨c.keys.n,by omega,by rw [hkn]⟩ (ax ⟨rfl,rfl,rfl,rfl,trivial⟩ (aG _) fun _ h=>h) fun j=>?_
  obtain ⟨k,hk,hs⟩:=j
  simp only
  cases k with
  | zero =>
   rw [hs]
   clear hs
   repeat' (first|refine am (gd false rfl rfl (Zn ae)) rfl aE rfl ?_|apply ab|apply Qu|apply Qv|refine aj ?_|refine ad ?_|refine aH ?_|refine Qz ?_|apply ar|apply aS|(refine bm (cs:=KeyD.zero.cells) (hf:=by rfl) ?_)|fail)
   exact ak (dc rfl rfl rfl bL (by rfl)) rfl
  | succ k =>
   obtain ⟨y,hy⟩:∃ y,kl[k]?=some y:=⟨_,Zm ae⟩
   have hyD:kl.getD k KeyD.zero=y:=by rw [ZL,hy];rfl
   have hkp':=hkp ae
   cases hle:decide (y.from_≤i) with
   | true =>
    rw [hs,show keyF kl i (k+1)=some y from by rw [keyF,hyD,hle];rfl]
    clear hs
    have hle':=aO hle
    repeat' (first|refine am (gd true rfl rfl (ZA ae)) rfl aE rfl ?_|refine eH (q:=k*3) (u:=.int .i64 y.from_) (hF:=fun w h=>(Keyz.get h.2 hy).2.2 0 _ rfl) ?_|apply ab|apply Qu|apply Qv|refine aj ?_|refine ad ?_|refine az ?_|refine aA ?_|refine cB ?_|refine aH ?_|refine Qy ?_|apply Qx|apply Qw|apply ar|(refine bz (q:=k*3) ?_)|(refine gX ?_)|(refine cq (cs:=y.cells) (hF:=fun w h=>Keyz.get h.2 hy) ?_)|fail)
    all_goals first
     | exact ak (dc rfl rfl rfl bL (by rfl)) rfl
     | (exfalso;omega)
   | false =>
    have hs2:keyF kl i kl.length=keyF kl i k:=by rw [hs,keyF,hyD,hle];rfl
    repeat' (first|refine am (gd true rfl rfl (ZA ae)) rfl aE rfl ?_|refine eH (q:=k*3) (u:=.int .i64 y.from_) (hF:=fun w h=>(Keyz.get h.2 hy).2.2 0 _ rfl) ?_|apply ab|apply Qu|apply Qv|refine aj ?_|refine ad ?_|refine az ?_|refine aA ?_|refine cB ?_|refine cL (h:=?_)|refine Qy ?_|refine Qz ?_|apply Qx|apply Qw|(refine bz (q:=k*3) ?_)|(refine gX ?_)|fail)
    all_goals first
     | exact ⟨(⟨k,by omega,hs2⟩:KeyI kl i),Nat.lt_succ_self k,ax ⟨rfl,rfl,rfl,(by show some (Value.int IntKind.i64 (((k+1:Nat):Int)-1-1))=some (Value.int IntKind.i64 ((k:Int)-1));rw [show ((k+1:Nat):Int)-1-1=(k:Int)-1 from by omega]),trivial⟩ (aG _) fun _ h=>h⟩
     | (exfalso;exact absurd (by assumption) (aQ hle))
theorem jK {c c':ChainD} {a:ActD} {pl:Option Nat} (h1:c.id=c'.id) (h2:c.acts.n=c'.acts.n) (h3:c.prev=c'.prev) (h4:c.actsL=c'.actsL):fitsV c a pl=fitsV c' a pl:=by
 have e:∀ p,atK c pl p=atK c' pl p:=fun p=>by
  cases pl with
  | none=>rfl
  | some j=>show p (c.actsL.getD j ActD.zero).kind=p (c'.actsL.getD j ActD.zero).kind;rw [h4]
 rw [fitsV,fitsV,h1,h2,h3,e,e]
theorem fo {W:OfW} {st s:ChS} (h:regS W st=some s):∃ c i,W.won st.gen=some c∧c.base=(st.acts.length:Int)∧c.prev=st.prev∧setI st.acts st.acts.length=some i∧W.clm (st.acts.getD i ActD.zero).m c=true∧s=⟨st.acts,st.keys++[⟨(st.acts.length:Nat),c.pub,c.home⟩],W.dgC c,st.gen+1⟩:=by
 rw [regS] at h
 cases hw:W.won st.gen with
 | none=>rw [hw] at h;cases h
 | some c =>
  rw [hw] at h
  simp only at h
  cases hb:decide (c.base=(st.acts.length:Int))&&seqB c.prev st.prev with
  | false=>rw [hb] at h;cases h
  | true =>
   rw [hb] at h
   rw [ZM,ZT,seqB_iff] at hb
   cases hs:setI st.acts st.acts.length with
   | none=>rw [hs] at h;cases h
   | some i =>
    rw [hs] at h
    simp only [ZC] at h
    cases hc:W.clm (st.acts.getD i ActD.zero).m c with
    | false=>rw [hc] at h;cases h
    | true =>
     rw [hc,ZC,Qc] at h
     exact ⟨c,i,rfl,hb.1,hb.2,rfl,hc,h.symm⟩
theorem eA {W:OfW} {st s:ChS} (h:stepS W st=some s):regS W st=some s∨regS W st=none∧∃ a,candL W st=[a]∧s=addS st a:=by
 rw [stepS] at h
 cases hr:regS W st with
 | some s'=>rw [hr] at h;exact .inl h
 | none =>
  rw [hr] at h
  cases ho:oneA (candL W st) with
  | none=>rw [ho] at h;cases h
  | some a =>
   rw [ho,Option.map_some,Qc] at h
   exact .inr ⟨rfl,a,fX ho,h.symm⟩
theorem kG {W:OfW} {P:ChS→Prop} (hst:∀ st s,P st→stepS W st=some s→P s):∀ (n:Nat) (st:ChS),P st→P (runS W n st)
 | 0,st,h=>h
 | n+1,st,h=>by
  cases hs:stepS W st with
  | none=>rw [fw hs];exact h
  | some s=>rw [eJ hs];exact kG hst n s (hst st s h hs)
theorem na {α:Type} (l:List α) (a:α) (i:Nat) (h:i≤l.length):(l++[a]).take i=l.take i:=by
 rw [List.take_append,show i-l.length=0 from by omega,List.take_zero,Z9]
theorem qK {α:Type} {l:List α} {a x:α} {i:Nat} (h:(l++[a])[i]?=some x):l[i]?=some x∧i<l.length∨i=l.length∧x=a:=by
 rcases Nat.lt_trichotomy i l.length with hi|rfl|hi
 · rw [Z4 hi] at h
   exact .inl ⟨h,hi⟩
 · rw [Qm (Qp _),Nat.sub_self] at h
   exact .inr ⟨rfl,(Option.some.inj h).symm⟩
 · rw [Qm ae,List.getElem?_singleton,Qg (by omega)] at h
   cases h
structure ChFit (W:OfW) (st:ChS):Prop where
 mem:∀ a∈st.acts,a∈W.L
 seq:∀ (i:Nat) (x:ActD),st.acts[i]?=some x→x.seq=(i:Int)
 fit:∀ (i:Nat) (x:ActD),st.acts[i]?=some x→1≤i→fitsV ((⟨st.acts.take i,[],x.prev,0⟩:ChS).ch W.id) x (idxV (st.acts.take i) x.object)=true
 key0:∃ k r,st.keys=k::r∧k.from_=0
theorem zr {W:OfW} {st s:ChS} (h:ChFit W st) (hs:stepS W st=some s):ChFit W s:=by
 obtain ⟨k,r,hk,hk0⟩:=h.key0
 rcases eA hs with h1|⟨h1,a,h2,rfl⟩
 · obtain ⟨c,i,e1,e2,e3,e4,e5,rfl⟩:=fo h1
   exact ⟨h.mem,h.seq,h.fit,k,r++[_],by rw [hk];rfl,hk0⟩
 · have ha:a∈candL W st:=by rw [h2];exact List.mem_singleton.2 rfl
   obtain ⟨m1,m2,m3⟩:=ji ha
   have hp:a.prev=st.prev:=by
    rw [candL,List.mem_filter,List.mem_filter,posB,ZM,seqB_iff] at ha
    exact ha.1.2.2
   refine ⟨fun x hx=>?_,fun i x hx=>?_,fun i x hx h0=>?_,?_⟩
   · rcases List.mem_append.1 (show x∈st.acts++[a] from hx) with hx|hx
     · exact h.mem x hx
     · rw [List.mem_singleton.1 hx];exact m1
   · rcases qK (show (st.acts++[a])[i]?=some x from hx) with ⟨h3,_⟩|⟨rfl,rfl⟩
     · exact h.seq i x h3
     · exact m2
   · rcases qK (show (st.acts++[a])[i]?=some x from hx) with ⟨h3,h4⟩|⟨rfl,rfl⟩
     · have:=h.fit i x h3 h0
       rw [show (addS st a).acts.take i=st.acts.take i from na _ _ _ (by omega)]
       exact this
     · rw [show (addS st x).acts.take st.acts.length=st.acts from by rw [show (addS st x).acts=st.acts++[x] from rfl,na _ _ _ (Qp _),List.take_length]]
       rw [candB,ZM] at m3
       rw [←m3.1]
       exact jK rfl rfl hp rfl
   · show ∃ k r,(bif decide (a.kind=18) then st.keys++[_] else st.keys)=k::r∧k.from_=0
     cases decide (a.kind=18) with
     | true=>exact ⟨k,r++[_],by rw [hk];rfl,hk0⟩
     | false=>exact ⟨k,r,hk,hk0⟩
theorem sJ {W:OfW} {a:ActD} (ha:a∈firstL W):begS a=⟨[a],[⟨0,a.n,a.m⟩],digV a,0⟩∧a∈W.L∧a.seq=0∧a.prev=⟨#[]⟩∧a.kind=0∧idV a.n=W.id∧W.ver a.n a=true:=by
 rw [firstL,List.mem_filter,List.mem_filter] at ha
 have h2:=ha.1.2
 simp only [posB,ZM,ZT,seqB_iff] at h2
 have h3:=ha.2
 simp only [firstB,ZM,ZT,seqB_iff] at h3
 exact ⟨by rw [begS,addS,h3.1.1];rfl,ha.1.1,h2.1,h2.2,h3.1.1,h3.1.2,h3.2⟩
theorem Cd {W:OfW} {a:ActD} (ha:a∈firstL W):ChFit W (begS a):=by
 obtain ⟨e,h1,h2,h3,h4,h5,h6⟩:=sJ ha
 rw [e]
 refine ⟨fun x hx=>by rw [List.mem_singleton.1 hx];exact h1,fun i x hx=>?_,fun i x hx h0=>?_,_,[],rfl,rfl⟩
 · rw [List.getElem?_singleton] at hx
   split at hx
   · rename_i hi
     subst hi
     rw [←Option.some.inj hx,h2];rfl
   · cases hx
 · rw [List.getElem?_singleton,Qg (by omega)] at hx
   cases hx
theorem BZ {W:OfW} {a:ActD} (ha:a∈firstL W):ChFit W (finS W a):=kG (P:=ChFit W) (fun st s h hs=>zr h hs) _ _ (Cd ha)
section
variable {P:Program} {N:Nat} {av bor:List Nat} {w0:World} {ty:TypeId}
end
section
variable {N:Nat} {av bor:List Nat} {w0:World} {st:St} {ty:TypeId} {x:Operand}
end
def seedB (i:Nat):ByteArray:=⟨#[97,99,116,111,114,32]⟩++ofInts [(i:Int)]
def keyA (i:Nat):KyD:=keyOf (seedB i)
def idA21 (i:Nat):ByteArray:=idV (keyA i).p
def ChainD.more (c:ChainD) (s:SlV) (a:ActD):ChainD:={ c with acts:=s,actsL:=c.actsL++[a],prev:=digV a }
theorem yq:ActD.zero.Rng:=⟨by decide,fun w hw=>(List.not_mem_nil hw).elim,rfl,rfl⟩
theorem AO:ActD.zero.Sm:=⟨by decide,by decide,by decide⟩
theorem yr {k:KyD} {a:ActD} (h:a.Rng):(actSignV k a).Rng:=by
 rw [actSignV]
 cases rightB (a.sig SgD.zero)&&rightK k with
 | false=>exact yq
 | true=>exact tC h (nd _ _).1 (nd _ _).2
theorem AP {k:KyD} {a:ActD} (h:a.Sm):(actSignV k a).Sm:=by
 rw [actSignV]
 cases rightB (a.sig SgD.zero)&&rightK k with
 | false=>exact AO
 | true=>exact ⟨h.to,h.wraps,h.target⟩
def ActD.can (a:ActD):ActD:=a.re ⟨none,a.to.n,0⟩ ⟨none,a.wraps.n,0⟩
theorem zL (a:ActD) {s1 s2:SlV} (h1:s1.n=a.to.n) (h2:s2.n=a.wraps.n):(a.re s1 s2).can=a.can:=by
 show a.re ⟨none,s1.n,0⟩ ⟨none,s2.n,0⟩=a.re ⟨none,a.to.n,0⟩ ⟨none,a.wraps.n,0⟩
 rw [h1,h2]
def ChainD.can (c:ChainD):ChainD:={ c with acts:=⟨none,c.acts.n,0⟩,keys:=⟨none,c.keys.n,0⟩,actsL:=c.actsL.map ActD.can }
def actorB:ByteArray:=⟨#[97,99,116,111,114]⟩
def idC (i:Nat):ChainD:={ ChainD.zero with id:=idA21 i }
def draftB (i:Nat):ActD:={ draftV (idC i) 0 0 with text:=actorB,n:=(keyA i).p }
def actB (i:Nat):ActD:=actSignV (keyA i) (draftB i)
def beginC (i:Nat):ChainD:={ idC i with acts:=⟨none,1,0⟩,keys:=⟨none,1,0⟩,prev:=digV (actB i),actsL:=[(actB i).can] }
section
variable {N:Nat} {av bor:List Nat} {w0:World} {E:Env} {loc:List Res} {X:World→Prop}
end
structure BegI where
 k:Nat
 hk:k≤4
 L:List ChainD
 hL:L.map ChainD.can=(List.range k).map beginC
 xs:List Value
 hxs:xs=(L.map ChainD.cells).flatten
 hb:∀ c∈L,ActsOk c.actsL∧c.actsL.length≤1
 A:Option Addr
 c:Nat
theorem yk (w:World):(isAgg 41).run Tryz.prog w=.ok true w:=by kernel_rfl
theorem vv (w:World):(Go.sizeOf 41).run Tryz.prog w=.ok 3 w:=by kernel_rfl
theorem qr {cs:Array Value} {o:Nat} {w:World}:(part 41 cs o).run Tryz.prog w=.ok (.agg (cs.extract o (o+3))) w:=by
 simp [part,yk,vv]
theorem zx {d:Nat} {a b c a' b' c':ByteArray} {w:World}:(Op.equalIn (d+2) 41 (.agg #[.string a,.string b,.string c]) (.agg #[.string a',.string b',.string c'])).run Tryz.prog w=.ok (seqB a a'&&(seqB b b'&&(seqB c c'&&true))) w:=by
 rw [run_equalIn_agg w (d+1) _ _ _ mC nS]
 have hf:(Tryz.prog.fieldsOf 41).toList.map (fun f=>(f.name,f.type,f.offset))=[("Nonce",9,0),("Data",9,1),("Tag",9,2)]:=by kernel_rfl
 generalize (Tryz.prog.fieldsOf 41).toList=l at hf
 rcases l with _|⟨⟨n1,t1,o1,_⟩,_|⟨⟨n2,t2,o2,_⟩,_|⟨⟨n3,t3,o3,_⟩,_|⟨f4,l⟩⟩⟩⟩
 case cons.cons.cons.nil =>
  simp only [Qt,List.map_nil,List.cons.injEq,Prod.mk.injEq,and_true] at hf
  obtain ⟨⟨rfl,rfl,rfl⟩,⟨rfl,rfl,rfl⟩,rfl,rfl,rfl⟩:=hf
  exact cr (by dsimp only;decide) (bx rfl) (bx rfl) fy (cr (by dsimp only;decide) (bx rfl) (bx rfl) fy (cr (by dsimp only;decide) (bx rfl) (bx rfl) fy g8))
 all_goals (have:=congrArg List.length hf;simp at this)
def wrapEq (a b:WrapD):Bool:=decide (a.to=b.to)&&(decide (a.eph=b.eph)&&((seqB a.box.nonce b.box.nonce&&(seqB a.box.data b.box.data&&(seqB a.box.tag b.box.tag&&true)))&&true))
theorem pB (a:WrapD):wrapEq a a=true:=by simp [wrapEq,bN]
theorem mJ:Tryz.prog.underlying 97=some (.struct (Tryz.prog.fieldsOf 97)):=by kernel_rfl
theorem oa:Tryz.prog.stoodInHeld 97=false:=by kernel_rfl
theorem oc:Tryz.prog.eqGuardType Tryz.prog.depth 97=false:=by kernel_rfl
theorem rK (w:World) (a b:WrapD):(Op.equalIn 10000 97 (.agg a.cells.toArray) (.agg b.cells.toArray)).run Tryz.prog w=.ok (wrapEq a b) w:=by
 rw [show (10000:Nat)=9999+1 from rfl,run_equalIn_agg w 9999 _ _ _ mJ oa]
 have hf:(Tryz.prog.fieldsOf 97).toList.map (fun f=>(f.name,f.type,f.offset))=[("To",3,0),("Eph",3,1),("Box",41,2)]:=by kernel_rfl
 generalize (Tryz.prog.fieldsOf 97).toList=l at hf
 rcases l with _|⟨⟨n1,t1,o1,_⟩,_|⟨⟨n2,t2,o2,_⟩,_|⟨⟨n3,t3,o3,_⟩,_|⟨f4,l⟩⟩⟩⟩
 case cons.cons.cons.nil =>
  simp only [Qt,List.map_nil,List.cons.injEq,Prod.mk.injEq,and_true] at hf
  obtain ⟨⟨rfl,rfl,rfl⟩,⟨rfl,rfl,rfl⟩,rfl,rfl,rfl⟩:=hf
  exact cr (by dsimp only;decide) (bx rfl) (bx rfl) di (cr (by dsimp only;decide) (bx rfl) (bx rfl) di (cr (by dsimp only;decide) qr qr zx g8))
 all_goals (have:=congrArg List.length hf;simp at this)
theorem iv {N:Nat} {av bor:List Nat} {w0:World} {st:St} {ty t2:TypeId} {x y:Operand} {a b:WrapD} (hx:ev st.env x=some (.agg a.cells.toArray)) (hy:ev st.env y=some (.agg b.cells.toArray)) :
  Sy.Yields Tryz.prog N av bor w0 st (.binOp .neq 97 x y t2) ty (.bool (!wrapEq a b)):=Sy.Yields.mk fun A w ok d pos af g=>by
 have h1:=run_neq_struct (P:=Tryz.prog) w 97 a.cells.toArray b.cells.toArray
 rw [rK w a b] at h1
 simp [execOp,ok.eval (st:=st) hx,ok.eval (st:=st) hy,run_eqGuard_agg _ _ _ _ _ _ _ oc,h1]
theorem pu {N:Nat} {av bor:List Nat} {w0:World} {st:St} {ty t2:TypeId} {x y:Operand} {a:WrapD} (hx:ev st.env x=some (.agg a.cells.toArray)) (hy:ev st.env y=some (.agg a.cells.toArray)) :
  Sy.Yields Tryz.prog N av bor w0 st (.binOp .neq 97 x y t2) ty (.bool false):=by
 have h:=iv (N:=N) (av:=av) (bor:=bor) (w0:=w0) (ty:=ty) (t2:=t2) hx hy
 rw [pB] at h
 exact h
theorem m6 {N:Nat} {av bor:List Nat} {w0:World} {E:Env} {loc:List Res} {X:World→Prop} {ty t2:TypeId} {x y:Operand} {a b:BoxD} (hx:ev E x=some a.v) (hy:ev E y=some b.v) (h:boxEq a b=true) :
  Sy.Yields Tryz.prog N av bor w0 ⟨E,loc,X⟩ (.binOp .eql 41 x y t2) ty (.bool true):=h▸sY hx hy
theorem m5 {N:Nat} {av bor:List Nat} {w0:World} {E:Env} {loc:List Res} {X:World→Prop} {ty t2:TypeId} {x y:Operand} {a b c d:Int} (hx:ev E x=some (.agg #[.int .i64 a,.int .i64 b])) (hy:ev E y=some (.agg #[.int .i64 c,.int .i64 d])) (h:(decide (a=c)&&decide (b=d))=true) :
  Sy.Yields Tryz.prog N av bor w0 ⟨E,loc,X⟩ (.binOp .eql 44 x y t2) ty (.bool true):=h▸sT hx hy
theorem mD (a:BoxD):boxEq a a=true:=by simp [boxEq,bN]
theorem nw {a b:ActD} (h:b.can=a.can):b=a.re b.to b.wraps∧b.to.n=a.to.n∧b.wraps.n=a.wraps.n:=by
 obtain ⟨a1,a2,a3,a4,a5,a6,a7,a8,a9,a10,a11,a12,a13,a14,a15,a16,a17,a18,a19,a20⟩:=a
 obtain ⟨b1,b2,b3,b4,b5,b6,b7,b8,b9,b10,b11,b12,b13,b14,b15,b16,b17,b18,b19,b20⟩:=b
 simp only [ActD.can,ActD.re,ActD.mk.injEq,SlV.mk.injEq] at h
 simp only [ActD.re,ActD.mk.injEq,true_and,and_true]
 obtain ⟨rfl,rfl,rfl,rfl,rfl,rfl,rfl,rfl,rfl,⟨_,h1,_⟩,rfl,rfl,rfl,⟨_,h2,_⟩,rfl,rfl,rfl,rfl,rfl,rfl⟩:=h
 exact ⟨by simp,h1,h2⟩
set_option maxRecDepth 20000 in
set_option maxHeartbeats 8000000 in
theorem vw (a b:ActD) (hb:b.can=a.can) (hr:a.Rng):Pu Tryz.prog 42 #[a.v,b.v] (fun w=>a.at_ w∧b.at_ w) (.bool true):=by
 obtain ⟨hE,n1,n2⟩:=nw hb
 have l1:=hr.to_len
 have l2:=hr.wraps_len
 refine oK (X:=fun w=>(Strs w a.to a.toL∧Wraps w a.wraps a.wrapsL)∧Strs w b.to a.toL∧Wraps w b.wraps a.wrapsL) ?_ fun w h=>⟨h.1,by have h2:=h.2.1;rw [hE] at h2;exact h2,by have h2:=h.2.2;rw [hE] at h2;exact h2⟩
 have f1:seqB a.author b.author=true:=by rw [hE];exact bN _
 have f2:a.seq=b.seq:=by rw [hE];rfl
 have f3:seqB a.prev b.prev=true:=by rw [hE];exact bN _
 have f4:a.kind=b.kind:=by rw [hE];rfl
 have f5:a.time=b.time:=by rw [hE];rfl
 have f6:seqB a.object b.object=true:=by rw [hE];exact bN _
 have f7:seqB a.target b.target=true:=by rw [hE];exact bN _
 have f8:a.scope=b.scope:=by rw [hE];rfl
 have f9:seqB a.group b.group=true:=by rw [hE];exact bN _
 have f10:seqB a.text b.text=true:=by rw [hE];exact bN _
 have f11:boxEq a.body b.body=true:=by rw [hE];exact mD _
 have f12:a.epoch=b.epoch:=by rw [hE];rfl
 have f13:a.n=b.n:=by rw [hE];rfl
 have f14:a.m=b.m:=by rw [hE];rfl
 have f15:(decide (a.e=b.e)&&decide (a.s=b.s))=true:=by rw [hE];simp [ActD.re]
 clear hE hb hr
 refine ay (args:=[_,_]) _ Tryz.func42 rfl Tryz.ntmps42 rfl fun av bor w0=>?_
 refine bK (p:=(a.to.n≤maxLen∧(0<a.toL.length→a.to.p.isSome=true)∧(0<a.toL.length→b.to.p.isSome=true))∧(a.wraps.n≤maxLen∧(0<a.wrapsL.length→a.wraps.p.isSome=true)∧(0<a.wrapsL.length→b.wraps.p.isSome=true))) (fun w h=>⟨⟨Qq (RowsD.cap h.1.1) (RowsD.max h.1.1),h.1.1.some_,h.2.1.some_⟩,Qq (RowsD.cap h.1.2) (RowsD.max h.1.2),h.1.2.some_,h.2.2.some_⟩) fun ⟨⟨m1,p1,q1⟩,m2,p2,q2⟩=>?_
 simp only [maxLen] at m1 m2
 repeat' (first|refine dJ (hab:=by omega) ?_|apply ab|apply Qu|apply Qv|refine aj ?_|refine ad ?_|refine az ?_|refine aA ?_|refine aC ?_|refine aW ?_|refine aK fun _=>?_|refine Qz ?_|apply Qx|apply Qw|fail)
 rename_i b2 b3
 refine aT (ι:=Kth a.toL.length) (fun i=>⟨[(2,.pointer (some ⟨b2,0,none⟩)),(3,.pointer (some ⟨b3,0,none⟩)),(5,.int .i64 i.k)],[cel b3 46 b.cells,cel b2 46 a.cells],fun w=>(Strs w a.to a.toL∧Wraps w a.wraps a.wrapsL)∧Strs w b.to a.toL∧Wraps w b.wraps a.wrapsL⟩) (fun i=>a.toL.length-i.k) ⟨0,Nat.zero_le _⟩ (ax ⟨rfl,rfl,rfl,trivial⟩ (aG _) fun _ h=>h) fun i=>?_
 obtain ⟨k,hk⟩:=i
 simp only
 by_cases hlt:k<a.toL.length
 · have p1':=p1 ae
   have q1':=q1 ae
   repeat' (first|refine am (bQ true rfl rfl (ZA ae)) rfl aE rfl ?_|apply ab|apply Qu|apply Qv|refine aj ?_|refine az ?_|refine aA ?_|refine aW ?_|refine Qy ?_|apply Qx|apply Qw|fail)
   (refine aU [cel b3 46 b.cells,cel b2 46 a.cells] (fun w=>(Strs w a.to a.toL∧Wraps w a.wraps a.wrapsL)∧Strs w b.to a.toL∧Wraps w b.wraps a.wrapsL) al ?_)
   all_goals refine aa 0 ?_<;>refine aa 1 ?_<;>refine aa 2 ?_<;>(refine aa 3 (hy:=by (apply aN (q:=k);rfl;rfl;omega;omega;assumption;omega)) ?_)<;>(refine aa 4 (hy:=by (apply dT;rfl;exact fun w h=>Strs.get h.1.1 hlt)) ?_)<;>refine aa 5 ?_<;>refine aa 6 ?_<;>refine aa 7 ?_<;>(refine aa 8 (hy:=by (apply aN (q:=k);rfl;rfl;omega;omega;assumption;omega)) ?_)<;>(refine aa 9 (hy:=by (apply dT;rfl;exact fun w h=>Strs.get h.2.1 hlt)) ?_)<;>(refine aa 10 (hy:=by (apply kB false;rfl;rfl;exact (by rw [bN];rfl))) ?_)<;>(refine aw ?_)
   all_goals
    repeat' (first|apply ab|apply Qv|refine aj ?_|refine ad ?_|refine be (h:=?_)|refine Qz ?_|apply Qx|fail)
    exact ⟨(⟨k+1,hlt⟩:Kth a.toL.length),(by show a.toL.length-(k+1)<a.toL.length-k;omega),ax ⟨rfl,rfl,rfl,trivial⟩ (aG _) fun _ h=>h⟩
 · repeat' (first|refine am (bQ false rfl rfl (Zn ae)) rfl aE rfl ?_|apply ab|apply Qu|apply Qv|refine aj ?_|refine ad ?_|refine az ?_|refine aA ?_|refine aW ?_|refine Qz ?_|apply Qw|apply aS|fail)
   refine aT (ι:=Kth a.wrapsL.length) (fun i=>⟨[(2,.pointer (some ⟨b2,0,none⟩)),(3,.pointer (some ⟨b3,0,none⟩)),(6,.int .i64 i.k)],[cel b3 46 b.cells,cel b2 46 a.cells],fun w=>(Strs w a.to a.toL∧Wraps w a.wraps a.wrapsL)∧Strs w b.to a.toL∧Wraps w b.wraps a.wrapsL⟩) (fun i=>a.wrapsL.length-i.k) ⟨0,Nat.zero_le _⟩ (ax ⟨rfl,rfl,rfl,trivial⟩ (aG _) fun _ h=>h) fun i=>?_
   obtain ⟨k,hk⟩:=i
   simp only
   by_cases hlt:k<a.wrapsL.length
   · have p2':=p2 ae
     have q2':=q2 ae
     obtain ⟨x,hx⟩:∃ x,a.wrapsL[k]?=some x:=⟨_,Zm hlt⟩
     repeat' (first|refine am (bQ true rfl rfl (ZA ae)) rfl aE rfl ?_|apply ab|apply Qu|apply Qv|refine aj ?_|refine az ?_|refine aA ?_|refine aW ?_|refine Qy ?_|apply Qx|apply Qw|fail)
     (refine aU [cel b3 46 b.cells,cel b2 46 a.cells] (fun w=>(Strs w a.to a.toL∧Wraps w a.wraps a.wrapsL)∧Strs w b.to a.toL∧Wraps w b.wraps a.wrapsL) al ?_)
     all_goals refine aa 0 ?_<;>refine aa 1 ?_<;>refine aa 2 ?_<;>(refine aa 3 (hy:=by (apply aN (q:=k*5);rfl;rfl;omega;omega;assumption;omega)) ?_)<;>(refine aa 4 (hy:=by (apply cZ (cs:=x.cells);rfl;exact fun w h=>Wraps.get h.1.2 hx)) ?_)<;>refine aa 5 ?_<;>refine aa 6 ?_<;>refine aa 7 ?_<;>(refine aa 8 (hy:=by (apply aN (q:=k*5);rfl;rfl;omega;omega;assumption;omega)) ?_)<;>(refine aa 9 (hy:=by (apply cZ (cs:=x.cells);rfl;exact fun w h=>Wraps.get h.2.2 hx)) ?_)<;>(refine aa 10 (hy:=by (apply pu (a:=x);rfl;rfl)) ?_)<;>(refine aw ?_)
     all_goals
      repeat' (first|apply ab|apply Qv|refine aj ?_|refine ad ?_|refine be (h:=?_)|refine Qz ?_|apply Qx|fail)
      exact ⟨(⟨k+1,hlt⟩:Kth a.wrapsL.length),(by show a.wrapsL.length-(k+1)<a.wrapsL.length-k;omega),ax ⟨rfl,rfl,rfl,trivial⟩ (aG _) fun _ h=>h⟩
   · repeat' (first|refine am (bQ false rfl rfl (Zn ae)) rfl aE rfl ?_|refine am (dm true rfl rfl (by assumption)) rfl aE rfl ?_|refine bn (hab:=by assumption) ?_|apply ab|apply Qu|apply Qv|refine aj ?_|refine ad ?_|refine az ?_|refine aA ?_|refine aB ?_|refine aW ?_|refine Qz ?_|apply ar|apply aS|(refine am (m6 (a:=a.body) (b:=b.body) rfl rfl (by assumption)) rfl aE rfl ?_)|(refine am (m5 (a:=a.e) (b:=a.s) (c:=b.e) (d:=b.s) rfl rfl (by assumption)) rfl aE rfl ?_)|(refine aX ?_)|fail)
     all_goals first
      | exact ak (ap rfl rfl) rfl
theorem sj (a:KeyD):keyEq a a=true:=by simp [keyEq]
theorem wH {N:Nat} {av bor:List Nat} {w0:World} {st:St} {ty t2:TypeId} {x y:Operand} {a:KeyD} (hx:ev st.env x=some (.agg a.cells.toArray)) (hy:ev st.env y=some (.agg a.cells.toArray)) :
  Sy.Yields Tryz.prog N av bor w0 st (.binOp .neq 35 x y t2) ty (.bool false):=by
 have h:=jV (N:=N) (av:=av) (bor:=bor) (w0:=w0) (ty:=ty) (t2:=t2) hx hy
 rw [sj] at h
 exact h
structure SameC (a b:ChainD):Prop where
 id:a.id=b.id
 prev:a.prev=b.prev
 gen:a.gen=b.gen
 fork:a.fork=b.fork
 acts:b.actsL.map ActD.can=a.actsL.map ActD.can
set_option maxRecDepth 20000 in
set_option maxHeartbeats 8000000 in
theorem jw (a b:ChainD) (kl:List KeyD) (h:SameC a b) (hr:∀ x∈a.actsL,x.Rng) :
  Pu Tryz.prog 16 #[a.v,b.v] (fun w=>(a.at_ w∧Keyz w a.keys kl)∧b.at_ w∧Keyz w b.keys kl) (.bool true):=by
 obtain ⟨hid,hprev,hgen,hfork,hacts⟩:=h
 have hlen:b.actsL.length=a.actsL.length:=by simpa using congrArg List.length hacts
 refine ay (args:=[_,_]) _ Tryz.func16 rfl Tryz.ntmps16 rfl fun av bor w0=>?_
 refine bK (p:=((a.acts.n=a.actsL.length∧a.acts.n≤maxLen∧(0<a.actsL.length→a.acts.p.isSome=true))∧a.keys.n=kl.length∧a.keys.n≤maxLen∧(0<kl.length→a.keys.p.isSome=true))∧(b.acts.n=b.actsL.length∧b.acts.n≤maxLen∧(0<b.actsL.length→b.acts.p.isSome=true))∧b.keys.n=kl.length∧b.keys.n≤maxLen∧(0<kl.length→b.keys.p.isSome=true)) (fun w h=>⟨⟨⟨h.1.1.len_,h.1.1.max_,h.1.1.some_⟩,Keyz.know w h.1.2⟩,⟨h.2.1.len_,h.2.1.max_,h.2.1.some_⟩,Keyz.know w h.2.2⟩) fun ⟨⟨⟨n1,m1,p1⟩,n2,m2,p2⟩,⟨n3,m3,p3⟩,n4,m4,p4⟩=>?_
 simp only [maxLen] at m1 m2 m3 m4
 have f1:seqB a.id b.id=true:=by rw [hid];exact bN _
 have f2:seqB a.prev b.prev=true:=by rw [hprev];exact bN _
 have f3:decide (a.fork=b.fork)=true:=ZA hfork
 repeat' (first|refine dJ (hab:=by omega) ?_|apply ab|apply Qu|apply Qv|refine aj ?_|refine ad ?_|refine az ?_|refine aA ?_|refine aC ?_|refine aW ?_|refine aK fun _=>?_|refine Qz ?_|apply Qx|apply Qw|fail)
 rename_i b2 b3
 refine aT (ι:=Kth a.actsL.length) (fun i=>⟨[(2,.pointer (some ⟨b2,0,none⟩)),(3,.pointer (some ⟨b3,0,none⟩)),(5,.int .i64 i.k)],[cel b3 31 b.cells,cel b2 31 a.cells],fun w=>(a.at_ w∧Keyz w a.keys kl)∧b.at_ w∧Keyz w b.keys kl⟩) (fun i=>a.actsL.length-i.k) ⟨0,Nat.zero_le _⟩ (ax ⟨rfl,rfl,rfl,trivial⟩ (aG _) fun _ h=>h) fun i=>?_
 obtain ⟨k,hk⟩:=i
 simp only
 by_cases hlt:k<a.actsL.length
 · have p1':=p1 ae
   have p3':=p3 ae
   obtain ⟨x,hx⟩:∃ x,a.actsL[k]?=some x:=⟨_,Zm hlt⟩
   obtain ⟨y,hy⟩:∃ y,b.actsL[k]?=some y:=⟨_,Zm ae⟩
   have hxm:=List.mem_of_getElem? hx
   have hym:=List.mem_of_getElem? hy
   have hxy:y.can=x.can:=by
    have:=congrArg (fun l=>l[k]?) hacts
    simpa [hx,hy] using this
   have hsa:=vw x y hxy (hr x hxm)
   repeat' (first|refine am (bQ true rfl rfl (ZA ae)) rfl aE rfl ?_|apply ab|apply Qu|apply Qv|refine aj ?_|refine az ?_|refine aA ?_|refine aW ?_|refine Qy ?_|apply Qx|apply Qw|fail)
   (refine aU [cel b3 31 b.cells,cel b2 31 a.cells] (fun w=>(a.at_ w∧Keyz w a.keys kl)∧b.at_ w∧Keyz w b.keys kl) al ?_)
   all_goals refine aa 0 ?_<;>refine aa 1 ?_<;>refine aa 2 ?_<;>(refine aa 3 (hy:=by (apply aN (q:=k*20);rfl;rfl;omega;omega;assumption;omega)) ?_)<;>(refine aa 4 (hy:=by (apply cZ (cs:=x.cells);rfl;exact (fun w h=>Acts.get h.1.1 hx))) ?_)<;>refine aa 5 ?_<;>refine aa 6 ?_<;>refine aa 7 ?_<;>(refine aa 8 (hy:=by (apply aN (q:=k*20);rfl;rfl;omega;omega;assumption;omega)) ?_)<;>(refine aa 9 (hy:=by (apply cZ (cs:=y.cells);rfl;exact (fun w h=>Acts.get h.2.1 hy))) ?_)<;>(refine ag 10 ?_;(refine ao (hc:=hsa) (hX:=fun w h=>⟨h.1.1.2 x hxm,h.2.1.2 y hym⟩) ?_);apply ab;refine ai ?_)<;>refine aa 11 ?_<;>(refine aw ?_)
   all_goals
    repeat' (first|apply ab|apply Qu|apply Qv|refine aj ?_|refine ad ?_|refine bu ?_|refine be (h:=?_)|refine Qz ?_|apply Qx|fail)
    exact ⟨(⟨k+1,hlt⟩:Kth a.actsL.length),(by show a.actsL.length-(k+1)<a.actsL.length-k;omega),ax ⟨rfl,rfl,rfl,trivial⟩ (aG _) fun _ h=>h⟩
 · repeat' (first|refine am (bQ false rfl rfl (Zn ae)) rfl aE rfl ?_|apply ab|apply Qu|apply Qv|refine aj ?_|refine ad ?_|refine az ?_|refine aA ?_|refine aW ?_|refine Qz ?_|apply Qw|apply aS|fail)
   refine aT (ι:=Kth kl.length) (fun i=>⟨[(2,.pointer (some ⟨b2,0,none⟩)),(3,.pointer (some ⟨b3,0,none⟩)),(7,.int .i64 i.k)],[cel b3 31 b.cells,cel b2 31 a.cells],fun w=>(a.at_ w∧Keyz w a.keys kl)∧b.at_ w∧Keyz w b.keys kl⟩) (fun i=>kl.length-i.k) ⟨0,Nat.zero_le _⟩ (ax ⟨rfl,rfl,rfl,trivial⟩ (aG _) fun _ h=>h) fun i=>?_
   obtain ⟨k,hk⟩:=i
   simp only
   by_cases hlt:k<kl.length
   · have p2':=p2 ae
     have p4':=p4 ae
     obtain ⟨x,hx⟩:∃ x,kl[k]?=some x:=⟨_,Zm hlt⟩
     repeat' (first|refine am (bQ true rfl rfl (ZA ae)) rfl aE rfl ?_|apply ab|apply Qu|apply Qv|refine aj ?_|refine az ?_|refine aA ?_|refine aW ?_|refine Qy ?_|apply Qx|apply Qw|fail)
     (refine aU [cel b3 31 b.cells,cel b2 31 a.cells] (fun w=>(a.at_ w∧Keyz w a.keys kl)∧b.at_ w∧Keyz w b.keys kl) al ?_)
     all_goals refine aa 0 ?_<;>refine aa 1 ?_<;>refine aa 2 ?_<;>(refine aa 3 (hy:=by (apply aN (q:=k*3);rfl;rfl;omega;omega;assumption;omega)) ?_)<;>(refine aa 4 (hy:=by (apply cZ (cs:=x.cells);rfl;exact fun w h=>Keyz.get h.1.2 hx)) ?_)<;>refine aa 5 ?_<;>refine aa 6 ?_<;>refine aa 7 ?_<;>(refine aa 8 (hy:=by (apply aN (q:=k*3);rfl;rfl;omega;omega;assumption;omega)) ?_)<;>(refine aa 9 (hy:=by (apply cZ (cs:=x.cells);rfl;exact fun w h=>Keyz.get h.2.2 hx)) ?_)<;>(refine aa 10 (hy:=by (apply wH (a:=x);rfl;rfl)) ?_)<;>(refine aw ?_)
     all_goals
      repeat' (first|apply ab|apply Qv|refine aj ?_|refine ad ?_|refine be (h:=?_)|refine Qz ?_|apply Qx|fail)
      exact ⟨(⟨k+1,hlt⟩:Kth kl.length),(by show kl.length-(k+1)<kl.length-k;omega),ax ⟨rfl,rfl,rfl,trivial⟩ (aG _) fun _ h=>h⟩
   · repeat' (first|refine am (bQ false rfl rfl (Zn ae)) rfl aE rfl ?_|refine am (dm true rfl rfl (by assumption)) rfl aE rfl ?_|refine bn (hab:=by assumption) ?_|apply ab|apply Qu|apply Qv|refine aj ?_|refine ad ?_|refine az ?_|refine aA ?_|refine aB ?_|refine aW ?_|refine Qz ?_|apply ar|apply aS|refine tr ?_|fail)
     all_goals first
      | exact ak (ap rfl rfl) (by show Value.bool (a.fork==b.fork)=_;rw [hfork,ZW])
theorem zG (l:List ByteArray):(compB l).length≤l.length:=by
 rw [compB,Z3]
 exact Qq (Lib.compact_length_le _) (by rw [Z3];exact Qp _)
def authI (I:List ItemD):List ByteArray:=(I.filter fun i=>decide (i.kind=0)).map fun i=>i.act.author
theorem sL (I:List ItemD) {k:Nat} {x:ItemD} (h:I[k]?=some x):authI (I.take (k+1))=authI (I.take k)++(bif decide (x.kind=0) then [x.act.author] else []):=by
 rw [authI,authI,List.take_add_one,h,Option.toList_some,List.filter_append,Qn]
 congr 1
 cases hb:decide (x.kind=0) with
 | true=>simp [hb]
 | false=>simp [hb]
theorem jT (I:List ItemD):(authI I).length≤I.length:=by rw [authI,Z3];exact List.length_filter_le _ _
inductive All2 {α β:Type} (R:α→β→Prop):List α→List β→Prop
 | nil:All2 R [] []
 | cons {a:α} {b:β} {l:List α} {m:List β}:R a b→All2 R l m→All2 R (a::l) (b::m)
theorem All2.snoc {α β:Type} {R:α→β→Prop} {l:List α} {m:List β} (h:All2 R l m) {a:α} {b:β} (r:R a b):All2 R (l++[a]) (m++[b]):=by
 induction h with
 | nil=>exact .cons r .nil
 | cons h1 _ ih=>exact .cons h1 ih
theorem All2.len {α β:Type} {R:α→β→Prop} {l:List α} {m:List β} (h:All2 R l m):l.length=m.length:=by
 induction h with
 | nil=>rfl
 | cons _ _ ih=>rw [ZY,ZY,ih]
theorem All2.right {α β:Type} {R:α→β→Prop} {l:List α} {m:List β} (h:All2 R l m):∀ b∈m,∃ a∈l,R a b:=by
 induction h with
 | nil=>exact fun b hb=>absurd hb (by simp)
 | cons h1 _ ih =>
  intro b hb
  rcases List.mem_cons.1 hb with rfl|hb
  · exact ⟨_,aJ,h1⟩
  · obtain ⟨a,ha,r⟩:=ih b hb
    exact ⟨a,ZS _ ha,r⟩
abbrev ChK:=ChainD×List KeyD
def neK (p:ChK):Bool:=decide (0<p.1.actsL.length)
def OfQ (Q:ByteArray→ChainD→List KeyD→Prop) (au:ByteArray) (u:Value) (X:World→Prop):Prop:=∃ (c:ChainD) (kl:List KeyD),Q au c kl∧u=c.v∧∀ w,X w→c.at_ w∧Keyz w c.keys kl
def AllAt (Q:ByteArray→ChainD→List KeyD→Prop) (ids:List ByteArray) (u:Value) (X:World→Prop):Prop :=
 ∃ (s:SlV) (M:List ChK),All2 (fun id p=>Q id p.1 p.2) ids M∧u=s.v∧∀ w,X w→Chains w s ((M.filter neK).map Prod.fst)∧∀ p∈M,Keyz w p.1.keys p.2
structure IdsI (I:List ItemD) where
 k:Nat
 hk:k≤I.length
 A:Option Addr
 c:Nat
 n:Nat
 hn:n=(authI (I.take k)).length
 xs:List Value
 hxs:xs=(authI (I.take k)).map encB
structure ChsI (Q:ByteArray→ChainD→List KeyD→Prop) (ids:List ByteArray) where
 k:Nat
 hk:k≤ids.length
 M:List ChK
 hM:All2 (fun id p=>Q id p.1 p.2) (ids.take k) M
 A:Option Addr
 c:Nat
 n:Nat
 hn:n=(M.filter neK).length
 xs:List Value
 hxs:xs=(((M.filter neK).map Prod.fst).map ChainD.cells).flatten
set_option maxHeartbeats 8000000 in
theorem zQ (Q:ByteArray→ChainD→List KeyD→Prop) (ks ki:SlV) (L:List Int) (I:List ItemD) (hI:I.length≤1000)
  (hof:∀ au,Mk Tryz.prog 9 #[.agg #[ks.v,ki.v],.string au] (fun w=>(Ints w ks L∧Items w ki I)∧Glob w) (OfQ Q au)) :
  Mk Tryz.prog 19 #[.agg #[ks.v,ki.v]] (fun w=>(Ints w ks L∧Items w ki I)∧Glob w) (AllAt Q (compB (sortB (authI I)))):=by
 refine cf (args:=[_]) _ Tryz.func19 rfl Tryz.ntmps19 rfl fun av bor w0=>?_
 refine bK (p:=ki.n=I.length∧ki.n≤maxLen∧(0<I.length→ki.p.isSome=true)) (fun w h=>⟨h.1.2.len_,h.1.2.max_,h.1.2.some_⟩) fun ⟨hin,him,hip⟩=>?_
 simp only [maxLen] at him
 refine cY 9 1 ?_
 refine cY 31 6 ?_
 repeat' (first|apply ab|apply Qu|apply Qv|refine aj ?_|refine ad ?_|refine az ?_|refine aA ?_|refine aW ?_|refine aK fun _=>?_|apply Qw|fail)
 rename_i b1
 refine aT (ι:=IdsI I) (fun i=>⟨[(1,.pointer (some ⟨b1,0,none⟩)),(3,.slice i.A i.n i.c),(11,ki.v),(12,.int .i64 (ki.n:Nat)),(13,.int .i64 (i.k:Nat))],
  [cel b1 25 [ks.v,ki.v],orow 31 6 (.slice none 0 0) 0 [],orow 9 1 (.slice i.A i.n i.c) i.n i.xs],fun w=>(Ints w ks L∧Items w ki I)∧Glob w⟩) (fun i=>I.length-i.k) ⟨0,Nat.zero_le _,none,0,0,rfl,[],rfl⟩ (ax ⟨rfl,rfl,rfl,rfl,rfl,trivial⟩ (aG _) fun _ h=>h) fun i=>?_
 obtain ⟨k,hk,A,cp,n,hn,xs,hxs⟩:=i
 simp only
 by_cases hlt:k<I.length
 · have hip':=hip ae
   obtain ⟨x,hx⟩:∃ x,I[k]?=some x:=⟨_,Zm hlt⟩
   have hs:=sL I hx
   have hnb:n≤1000:=by have h1:=jT (I.take k);rw [List.length_take] at h1;omega
   by_cases h0:x.kind=0
   · rw [ZA h0,ZC] at hs
     repeat' (first|refine am (bQ true rfl rfl (ZA ae)) rfl aE rfl ?_|refine bn (hab:=h0) ?_|apply ab|apply Qu|apply Qv|refine aj ?_|refine ad ?_|refine az ?_|refine aA ?_|refine be (h:=?_)|refine aI fun _=>?_|refine bX fun _=>?_|refine aH ?_|refine Qy ?_|apply Qx|apply Qw|(refine bz (q:=k*49) ?_)|(refine cq (cs:=x.cells) (hF:=fun w h=>Items.get h.1.2 hx) ?_)|(refine aV (size:=1) (z:=.string ⟨#[]⟩) (news:=[encB x.act.author]) (q:=1) rfl rfl rfl rfl (fun _=>At.there _ (At.there _ (At.there _ (At.there _ (At.here _))))) (fun w G=>bo G aJ rfl rfl 1) ae (by simp only [maxLen];omega) rfl ?_ rfl ?_;(with_reducible rfl);intro A2 c2)|fail)
     exact ⟨(⟨k+1,hlt,A2,c2,n+1,by rw [hs,ZX,←hn];rfl,xs++[encB x.act.author],by rw [hs,Qn,←hxs];rfl⟩:IdsI I),(by show I.length-(k+1)<I.length-k;omega),ax ⟨rfl,rfl,rfl,rfl,rfl,trivial⟩ (.cons _ (.cons _ (aG _))) fun _ h=>h⟩
   · rw [Zn h0,ZB,Z9] at hs
     repeat' (first|refine am (bQ true rfl rfl (ZA ae)) rfl aE rfl ?_|refine bt (hab:=h0) ?_|apply ab|apply Qu|apply Qv|refine aj ?_|refine az ?_|refine aA ?_|refine be (h:=?_)|refine aI fun _=>?_|refine aH ?_|refine Qy ?_|refine Qz ?_|apply Qx|apply Qw|(refine bz (q:=k*49) ?_)|(refine cq (cs:=x.cells) (hF:=fun w h=>Items.get h.1.2 hx) ?_)|fail)
     exact ⟨(⟨k+1,hlt,A,cp,n,by rw [hs];exact hn,xs,by rw [hs];exact hxs⟩:IdsI I),(by show I.length-(k+1)<I.length-k;omega),ax ⟨rfl,rfl,rfl,rfl,rfl,trivial⟩ (.cons _ (aG _)) fun _ h=>h⟩
 have hkE:k=I.length:=by omega
 rw [hkE,List.take_length] at hn hxs
 subst hxs
 have hnb:n≤1000000000:=by have h1:=jT I;omega
 repeat' (first|refine am (bQ false rfl rfl (Zn ae)) rfl aE rfl ?_|apply ab|apply Qu|apply Qv|refine aj ?_|refine ad ?_|refine aW ?_|refine Qz ?_|apply Qw|apply aS|(refine on (hc:=ye hnb) (hX:=fun _ _=>trivial) ?_)|(refine tv (hc:=zH) (hX:=fun _ _=>trivial) ?_;rintro _ _ X2 ⟨A3,c3,rfl,rfl⟩;refine cu ?_)|fail)
 have hB:(compB (sortB (authI I))).length≤1000:=by
  have h1:=zG (sortB (authI I))
  have h2:=vm (authI I)
  have h3:=jT I
  omega
 generalize hids:compB (sortB (authI I))=ids at *
 clear hids hlt hk hnb hn
 refine aT (ι:=ChsI Q ids) (fun i=>⟨[(1,.pointer (some ⟨b1,0,none⟩)),(6,.slice i.A i.n i.c),(30,.slice A3 ids.length c3),(31,.int .i64 (ids.length:Nat)),(32,.int .i64 (i.k:Nat))],
  [cel b1 25 [ks.v,ki.v],orow 31 6 (.slice i.A i.n i.c) i.n i.xs],fun w=>(((Ints w ks L∧Items w ki I)∧Glob w)∧Strs w ⟨A3,ids.length,c3⟩ ids)∧∀ p∈i.M,p.1.at_ w∧Keyz w p.1.keys p.2⟩) (fun i=>ids.length-i.k) ⟨0,Nat.zero_le _,[],.nil,none,0,0,rfl,[],rfl⟩ ?_ fun i=>?_
 · exact ax ⟨rfl,rfl,rfl,rfl,rfl,trivial⟩ (.cons_cons _ (.cons_cons _ (ZR _))) fun w h=>⟨⟨h.1.1,ov h.2 rfl⟩,fun p hp=>absurd hp (by simp)⟩
 obtain ⟨k,hk,M,hM,A4,c4,n4,hn4,xs,hxs⟩:=i
 simp only
 have hMl:M.length=k:=by have:=hM.len;rw [List.length_take] at this;omega
 have hn4b:n4≤1000:=by have:=List.length_filter_le neK M;omega
 by_cases hlt:k<ids.length
 · refine bK (p:=A3.isSome=true) (fun w h=>h.1.2.some_ ae) fun hA3=>?_
   have hget:ids[k]?=some (ids.getD k .empty):=by rw [ZL,Zm hlt];rfl
   have hlt':=hlt
   generalize hxe:ids.getD k .empty=x at *
   repeat' (first|refine am (bQ true rfl rfl (ZA ae)) rfl aE rfl ?_|apply ab|apply Qu|apply Qv|refine aj ?_|refine ad ?_|refine az ?_|refine aA ?_|refine aD ?_|refine cF ?_|refine aW ?_|refine be (h:=?_)|refine aI fun _=>?_|refine aH ?_|refine Qy ?_|apply Qx|apply Qw|(refine bz (q:=k) ?_)|(refine eH (u:=.string x) (hF:=fun w h=>hxe▸Strs.get h.1.2 hlt') ?_)|(refine cM (hc:=hof x) (hX:=fun w h=>h.1.1) fun v X5 h5=>?_;obtain ⟨c,kl,hQ,rfl,hw5⟩:=h5;refine iD (p:=c.acts.n=c.actsL.length) (fun w h=>(hw5 w h.2).1.len_) fun hcn=>?_)|(refine bH (size:=6) (vs:=[c.v]) (css:=c.cells) (hsz:=by rfl) (hcs:=by rfl) fun _=>?_)|(refine aV (size:=6) (news:=c.cells) (q:=1) rfl rfl rfl rfl (fun _=>At.there _ (At.there _ (At.there _ (At.here _)))) (fun w G=>bo G aJ rfl rfl 1) ae (by simp only [maxLen];omega) rfl ?_ rfl ?_;(with_reducible rfl);intro A2 c2)|(refine aF (ht:=?_) (hf:=?_);all_goals (intro hx_;first|have:=aO hx_|have:=aQ hx_)))
   all_goals
    have hM2:All2 (fun id p=>Q id p.1 p.2) (ids.take (k+1)) (M++[(c,kl)]):=by
     rw [List.take_add_one,hget]
     exact hM.snoc hQ
    have hX2:∀ w,((((((Ints w ks L∧Items w ki I)∧Glob w)∧Strs w ⟨A3,ids.length,c3⟩ ids)∧∀ p∈M,p.1.at_ w∧Keyz w p.1.keys p.2)∧X5 w))→(((Ints w ks L∧Items w ki I)∧Glob w)∧Strs w ⟨A3,ids.length,c3⟩ ids)∧∀ p∈M++[(c,kl)],p.1.at_ w∧Keyz w p.1.keys p.2:=fun w h=>⟨h.1.1,fun p hp=>by
     rcases List.mem_append.1 hp with hp|hp
     · exact h.1.2 p hp
     · rw [List.mem_singleton.1 hp];exact hw5 w h.2⟩
   · have hf:(M++[(c,kl)]).filter neK=M.filter neK++[(c,kl)]:=by
      rw [List.filter_append]
      have:neK (c,kl)=true:=ZA (by show 0<c.actsL.length;omega)
      simp [this]
     exact ⟨(⟨k+1,hlt,M++[(c,kl)],hM2,A2,c2,n4+1,by rw [hf,ZX,←hn4];rfl,xs++c.cells,by rw [hf,hxs];simp⟩:ChsI Q ids),(by show ids.length-(k+1)<ids.length-k;omega),ax ⟨rfl,rfl,rfl,rfl,rfl,trivial⟩ (.cons _ (.cons _ (aG _))) hX2⟩
   · have hf:(M++[(c,kl)]).filter neK=M.filter neK:=by
      rw [List.filter_append]
      have:neK (c,kl)=false:=Zn (by show ¬ 0<c.actsL.length;omega)
      simp [this]
     exact ⟨(⟨k+1,hlt,M++[(c,kl)],hM2,A4,c4,n4,by rw [hf];exact hn4,xs,by rw [hf];exact hxs⟩:ChsI Q ids),(by show ids.length-(k+1)<ids.length-k;omega),ax ⟨rfl,rfl,rfl,rfl,rfl,trivial⟩ (.cons _ (aG _)) hX2⟩
 · have hkE:k=ids.length:=by omega
   rw [hkE,List.take_length] at hM
   subst hxs
   repeat' (first|refine am (bQ false rfl rfl (Zn ae)) rfl aE rfl ?_|apply ab|apply Qu|apply Qv|refine aj ?_|refine ad ?_|refine Qz ?_|apply ar|apply aS|fail)
   refine ak (ap rfl rfl) ⟨⟨A4,n4,c4⟩,M,hM,rfl,fun w h=>⟨⟨?_,fun c hc=>?_⟩,fun p hp=>(h.1.2 p hp).2⟩⟩
   · exact cg (xs:=((M.filter neK).map Prod.fst).map ChainD.cells) (h.2 _ (.tail _ (.head _))) (by rw [Z3,Z3];exact hn4) fun r hr=>by
      obtain ⟨z,_,rfl⟩:=List.mem_map.1 hr
      rfl
   · obtain ⟨p,hp,rfl⟩:=List.mem_map.1 hc
     exact (h.1.2 p (List.mem_filter.1 hp).1).1
end Go.Proofs.YtcdilibijnboeaaGreatDoor
