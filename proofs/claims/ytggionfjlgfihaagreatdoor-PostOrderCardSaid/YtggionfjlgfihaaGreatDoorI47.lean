/- Joined. -/
import Derived.Test.YtggionfjlgfihaaGreatDoorI0
import Derived.Test.YtggionfjlgfihaaGreatDoorI34
import Derived.Test.YtggionfjlgfihaaGreatDoorI39
import Derived.Test.YtggionfjlgfihaaGreatDoorI14
import Derived.Test.YtggionfjlgfihaaGreatDoorI12
import Derived.Test.YtggionfjlgfihaaGreatDoorI7
import Derived.Test.YtggionfjlgfihaaGreatDoorI1
set_option linter.unusedVariables false
set_option linter.unusedSimpArgs false
set_option maxHeartbeats 16000000
namespace Go.Proofs.YtggionfjlgfihaaGreatDoor
open Go Go.Proofs Sy
theorem ef {P:Program} {f:FuncId} {args:Array Value} {X:World→Prop} {Φ Ψ:Value→(World→Prop)→Prop} (h:Mk P f args X Φ) (hp:∀ u X',Φ u X'→Ψ u X'):Mk P f args X Ψ:=by
 unfold Mk at *
 exact Ct.mono h fun v R X' ⟨a,b⟩=>⟨hp _ _ a,b⟩
def rI0 (it:Xb):Bool:=rightB it.act
def dI0 (it:Xb):ByteArray:=digV it.act
theorem rightI0 (a:Xa):Pu Tryz.prog 23 #[(ofActI a).v] (fun w=>(ofActI a).at_ w) (.bool (rI0 (ofActI a))):=nM (eD a) fun w h=>h.1
theorem digI0 (a:Xa) (hr:a.Rng):Pu Tryz.prog 19 #[(ofActI a).v] (fun w=>(ofActI a).at_ w∧Xf w) (.string (dI0 (ofActI a))):=nM (fq a hr) fun w h=>⟨h.1.1,h.2⟩
def oneW (id:ByteArray):Ee:=⟨[],id,fun _=>none,fun _ _=>false,fun _=>⟨#[]⟩,verV,0⟩
structure BegOk (a:Xa):Prop where
 rng:a.Rng
 sm:a.Sm
 right:rightB a=true
 kind:a.kind=0
 seq:a.seq=0
 prev:a.prev=⟨#[]⟩
 id:idV a.n=a.author
 ver:verV a.n a=true
theorem oneHyp (ki:Xj) (a:Xa) (h:BegOk a):OfHyp ⟨none,0,0⟩ ki (oneW a.author) (fun L=>L=[a]) (fun w=>Items w ki [ofActI a]) where
 acts:=by
  have hm:=iN ⟨none,0,0⟩ ki [ofActI a] a.author rI0 dI0 (fun it hit=>by rw [List.mem_singleton.1 hit];exact rightI0 a) (fun it hit=>by rw [List.mem_singleton.1 hit];exact digI0 a h.rng) (show (1:Nat)≤1000 by decide) tV
  refine ef hm fun u X' hu=>?_
  obtain ⟨s,L,h1,h2,h3⟩:=hu
  have hsel:selA a.author rI0 [ofActI a]=[a]:=by
   have:selB a.author rI0 (ofActI a)=true:=by
    show ((decide ((0:Int)=0)&&seqB a.author a.author)&&rightB a)=true
    rw [be,h.right]
    rfl
   rw [selA,List.filter_cons,if_pos this,List.filter_nil]
   rfl
  rw [hsel] at h2
  exact ⟨s,L,h1,List.perm_singleton.1 h2,h3⟩
 ok:=fun L hL=>by
  subst hL
  exact ⟨⟨fun x hx=>by rw [List.mem_singleton.1 hx];exact h.rng,fun x hx=>by rw [List.mem_singleton.1 hx];exact h.sm⟩,show (1:Nat)≤100000 by decide⟩
 bB:=Nat.zero_le _
 won:=fun g _=>by
  have hno:selC a.author rI0 [ofActI a]=[]:=by
   have:selBC a.author rI0 (ofActI a)=false:=rfl
   rw [selC,List.filter_cons,this]
   rfl
  exact qv ki [ofActI a] a.author (g:Nat) rI0 dI0 (fun it hit=>by rw [List.mem_singleton.1 hit];exact rightI0 a) (fun it hit=>by rw [List.mem_singleton.1 hit];exact digI0 a h.rng) (show (1:Nat)≤1000 by decide) tU hno
 bnd:=fun g c hc=>by cases hc
 clm:=fun g c hc=>by cases hc
 dg:=fun g c hc=>by cases hc
 ver:=fun L hL x hx p=>by
  subst hL
  rw [List.mem_singleton.1 hx]
  exact iW p a h.rng
theorem xc (ki:Xj) (a:Xa) (h:BegOk a):Mk Tryz.prog 32 #[.agg #[.slice none 0 0,ki.v],.string a.author] (fun w=>Items w ki [ofActI a]∧Xf w)
  (fun u X'=>∃ sa sk:Xj,u=(⟨a.author,sa,sk,digV a,0,false,[a]⟩:Xd).v∧∀ w,X' w→Acts w sa [a]∧Keyz w sk [⟨0,a.n,a.m⟩]):=by
 refine ef (sr ⟨none,0,0⟩ ki (oneW a.author) _ _ (oneHyp ki a h)) fun u X' hu=>?_
 obtain ⟨L,sa,sk,st,fork,hL,hres,h1,h2⟩:=hu
 subst hL
 have hpos:posB 0 ⟨#[]⟩ a=true:=by rw [posB,h.seq,h.prev,be];rfl
 have hfirst:firstB ((oneW a.author).at [a]) a=true:=by
  show (decide (a.kind=0)&&seqB (idV a.n) a.author&&verV a.n a)=true
  rw [h.kind,h.id,be,h.ver]
  rfl
 have hfl:firstL ((oneW a.author).at [a])=[a]:=by
  show ([a].filter (posB 0 ⟨#[]⟩)).filter _=[a]
  simp [hpos,hfirst]
 have hbeg:begS a=⟨[a],[⟨0,a.n,a.m⟩],digV a,0⟩:=by
  rw [begS,addS,h.kind]
  rfl
 have hcand:candL ((oneW a.author).at [a]) (begS a)=[]:=by
  have:posB 1 (digV a) a=false:=by rw [posB,h.seq];rfl
  rw [candL,hbeg]
  show ([a].filter (posB 1 (digV a))).filter _=[]
  simp [this]
 have hstep:stepS ((oneW a.author).at [a]) (begS a)=none:=by
  have hr:regS ((oneW a.author).at [a]) (begS a)=none:=rfl
  rw [stepS,hr,hcand]
  rfl
 have hfin:finS ((oneW a.author).at [a]) a=begS a:=kQ hstep _
 rw [OfRes,hfl] at hres
 obtain ⟨e1,e2⟩:=(show st=finS ((oneW a.author).at [a]) a∧fork=decide (1<(candL ((oneW a.author).at [a]) (finS ((oneW a.author).at [a]) a)).length) from hres)
 rw [hfin] at e1 e2
 rw [hcand] at e2
 subst e1
 subst e2
 refine ⟨sa,sk,?_,fun w hw=>?_⟩
 · rw [h1,hbeg]
   rfl
 · have:=h2 w hw
   rw [hbeg] at this
   exact this
theorem BegOk.re {a:Xa} (h:BegOk a) {s1 s2:Xj} (h1:s1.n=a.to.n) (h2:s2.n=a.wraps.n):BegOk (a.re s1 s2) :=
 ⟨eV h.rng h1 h2,ia h.sm h1 h2,(ew h1 h2).trans h.right,h.kind,h.seq,h.prev,h.id,(vM _ h1 h2).trans h.ver⟩
theorem za:nkU0.Rng:=⟨by decide +kernel,fun w hw=>(List.not_mem_nil hw).elim,rfl,rfl⟩
theorem AK:nkU0.Sm:=⟨by decide,by decide,by decide⟩
theorem sz:nkA0.Rng:=⟨by decide +kernel,fun w hw=>(List.not_mem_nil hw).elim,rfl,rfl⟩
theorem xk:nkA0.Sm:=⟨by decide,by decide,by decide⟩
theorem nk_beg:BegOk nkA0:=⟨sz,xk,xg,rfl,rfl,rfl,zT,AJ⟩
theorem qT {P:Program} {fn:Func} {N t u ty ty2 n n2:Nat} {s:St} {b b2 T T2:Nat} {cs cs2:List Value} [hI:Xs P ty n] [hI2:Xs P ty2 n2] (hr:fn.results=#[.cell t ty,.cell u ty2]) (h:Sy.look s.env t=some (.pointer (some ⟨b,0,none⟩))) (h':Sy.look s.env u=some (.pointer (some ⟨b2,0,none⟩))) (hm:cel b T cs∈s.loc) (hn:cs.length=n) (hm2:cel b2 T2 cs2∈s.loc) (hn2:cs2.length=n2) :
  Res1 P fn N s (.tuple #[.agg cs.toArray,.agg cs2.toArray]):=fun av bor w0 a w ok=>by
 obtain ⟨D,h1,h2,h3⟩:=ck hI.out
 obtain ⟨D2,g1,g2,g3⟩:=ck hI2.out
 have ht:=ok.env t _ h
 have hu:=ok.env u _ h'
 have l1:(loadVar ty ⟨b,0,none⟩).run P w=.ok (.agg cs.toArray) w:=by
  cases D<;>simp at h2
  · exact run_loadVar_row w b T ty cs.toArray (0,0) _ (dX ok hm) h1 rfl (by rw [h3];simp [hn])
  · exact run_loadVar_row w b T ty cs.toArray (0,0) _ (dX ok hm) h1 rfl (by rw [h3];simp [hn])
 have l2:(loadVar ty2 ⟨b2,0,none⟩).run P w=.ok (.agg cs2.toArray) w:=by
  cases D2<;>simp at g2
  · exact run_loadVar_row w b2 T2 ty2 cs2.toArray (0,0) _ (dX ok hm2) g1 rfl (by rw [g3];simp [hn2])
  · exact run_loadVar_row w b2 T2 ty2 cs2.toArray (0,0) _ (dX ok hm2) g1 rfl (by rw [g3];simp [hn2])
 simp [results,hr,ht,hu,asAddr,l1,l2]
def ownsB (k:El) (c:Xd) (kl:List Xl):Bool:=(keyV c.acts.n kl (c.acts.n:Int)).isSome&&rightK k&&decide (k.p=((keyV c.acts.n kl (c.acts.n:Int)).getD Xl.zero).public_)
theorem yT (k:El) (c:Xd) (kl:List Xl):Pu Tryz.prog 46 #[k.v,c.v] (fun w=>c.at_ w∧Keyz w c.keys kl) (.bool (ownsB k c kl)):=by
 refine ar Tryz.func46 Tryz.ntmps46 fun av bor w0=>?_
 have hk:=qe c kl (c.acts.n:Int)
 have hr:=fF k
 unfold ownsB
 unfold keyOP at hk
 generalize keyV c.acts.n kl (c.acts.n:Int)=o at *
 generalize hs:o.isSome=s at hk
 generalize o.getD Xl.zero=y at *
 generalize rightK k=r at *
 cases s<;>cases r
 all_goals
  repeat' (first|(refine ag (hc:=hk) ?_)|(refine ag (hc:=hr) ?_)|refine gs ?_|refine gs1 fun _=>?_|(refine gp ?_ ?_<;>intro hx_ this)|fail)
  exact ab (ai rfl rfl) rfl
theorem qu (kd:Int):Pu Tryz.prog 45 #[.int .i64 kd] (fun _=>True) (.bool (postK kd||decide (kd=14))):=by
 refine ar Tryz.func45 Tryz.ntmps45 fun av bor w0=>?_
 have hp:=eO kd
 generalize postK kd=q at *
 cases q
 all_goals
  repeat' (first|(refine ag (hc:=hp) ?_)|refine gs ?_|(refine gp ?_ ?_<;>intro hx_ this)|fail)
  exact ab (ai rfl rfl) rfl
def pubD (c:Xd) (a:Xa) (text:ByteArray) (s:Xj):Xa:={ draftV c a.kind a.time with object:=a.object,scope:=a.scope,group:=a.group,to:=s,text:=text }
def PostAt26 (k:El) (c:Xd) (a:Xa) (text:ByteArray) (u:Value) (X:World→Prop):Prop:=∃ s s1 s2:Xj,s.n=0∧s1.n=(actSignV k (pubD c a text s)).to.n∧s2.n=(actSignV k (pubD c a text s)).wraps.n∧u=.tuple #[((actSignV k (pubD c a text s)).re s1 s2).v,.int .i64 0]∧∀ w,X w→((actSignV k (pubD c a text s)).re s1 s2).at_ w
set_option maxRecDepth 20000 in
theorem kY (k:El) (c:Xd) (kl:List Xl) (a:Xa) (text:ByteArray) (hc:Xt c.actsL) (hkd:(postK a.kind||decide (a.kind=14))=true) (hsc:a.scope=0) (hto:a.to=⟨none,0,0⟩) (htl:a.toL=[]) (hown:ownsB k c kl=true)
  (hrt:∀ s:Xj,s.n=0→rightB (pubD c a text s)=true) (hft:∀ s:Xj,s.n=0→fitsV c (pubD c a text s) (idxV c.actsL a.object)=true) (hrg:∀ s:Xj,s.n=0→(pubD c a text s).Rng∧(pubD c a text s).Sm) :
  Mk Tryz.prog 17 #[k.v,c.v,a.v,.string text] (fun w=>((c.at_ w∧Keyz w c.keys kl)∧a.at_ w)∧Xf w) (PostAt26 k c a text):=by
 refine cC Tryz.func17 Tryz.ntmps17 fun av bor w0=>?_
 have hwr:=qu a.kind
 rw [hkd] at hwr
 have how:=yT k c kl
 rw [hown] at how
 have hdr:=xU c a.kind a.time
 have hcl:=eH a.to (strs []) (by rw [hto];decide) (jc _)
 have hg1:¬ a.scope<0:=by omega
 have hg2:¬ (3:Int)<a.scope:=by omega
 repeat' (first|refine aO ?_ (bj false rfl rfl (decide_eq_false hg1))|refine iu (hab:=hg2) ?_|refine bp (hab:=hsc) ?_|(refine ag (hc:=hwr) ?_)|(refine ag (hc:=how) (hX:=fun _ h=>h.1.1) ?_)|(refine ag (hc:=hdr) ?_)|(refine bm (hc:=hcl) (hX:=fun w h=>by have h1:=h.1.2.1;rw [htl] at h1;exact h1) fun v1 X1 h1=>?_;obtain ⟨s,rfl,hn1,hw1⟩:=h1)|refine gs ?_|refine gs1 fun _=>?_|(refine gp ?_ ?_<;>intro hx_ this)|fail)
 have hn0:s.n=0:=hn1
 obtain ⟨p,hp⟩:∃ p,pubD c a text s=p:=⟨_,rfl⟩
 have hri:=cM p
 rw [show rightB p=true from by rw [←hp];exact hrt s hn0] at hri
 have hpo:p.object=a.object:=by rw [←hp];rfl
 have hfi:=vb c hc p
 rw [hpo,show fitsV c p (idxV c.actsL a.object)=true from by rw [←hp];exact hft s hn0] at hfi
 obtain ⟨hpr,hps⟩:=hrg s hn0
 rw [hp] at hpr hps
 have hsi:=lR k p hpr hps
 have hpat:∀ w,X1 w→p.at_ w:=fun w h=>by
  rw [←hp]
  exact ⟨hw1 w h,aJ w 5⟩
 have hpv:(.agg ((((((draftV c a.kind a.time).cells.set 5 (Value.string a.object)).set 7 (Value.int IntKind.i64 a.scope)).set 8 (Value.string a.group)).set 9 s.v).set 10 (Value.string text)).toArray)=p.v:=by rw [←hp];rfl
 rw [hpv]
 have hcs:((((((draftV c a.kind a.time).cells.set 5 (Value.string a.object)).set 7 (Value.int IntKind.i64 a.scope)).set 8 (Value.string a.group)).set 9 s.v).set 10 (Value.string text))=p.cells:=by rw [←hp];rfl
 rw [hcs]
 repeat' (first|(refine ag (hc:=hri) (hX:=fun w h=>hpat w h.2) ?_)|(refine ag (hc:=hfi) (hX:=fun w h=>⟨⟨h.1.1.1.1,h.1.2⟩,hpat w h.2⟩) ?_)|(refine bm (hc:=hsi) (hX:=fun w h=>⟨hpat w h.2,h.1.2⟩) fun v2 X2 h2=>?_;obtain ⟨s1,s2,rfl,hn2,hn3,hat⟩:=h2)|refine gs ?_|refine gs1 fun _=>?_|(refine gp ?_ ?_<;>intro hx_ this)|fail)
 subst hp
 exact ab (bC rfl rfl rfl aL (by rfl)) ⟨s,s1,s2,hn0,hn2,hn3,rfl,fun w h=>hat w h.1.2⟩
theorem itemsNil (w:World):Items w ⟨none,0,0⟩ []:=⟨aJ w 49,fun i h=>by cases h⟩
def begC (sa sk:Xj) (x:Xa):Xd:=⟨nkI,sa,sk,nkD0,0,false,[x]⟩
def BegunAt (u:Value) (X:World→Prop):Prop:=∃ (ks sa sk s1 s2:Xj),s1.n=0∧s2.n=0∧u=.tuple #[.agg #[.slice none 0 0,ks.v],(begC sa sk (nkA0.re s1 s2)).v]∧∀ w,X w→Acts w sa [nkA0.re s1 s2]∧Keyz w sk [⟨0,nkK.p,0⟩]
theorem x7:Mk Tryz.prog 16 #[nkK.v] Xf BegunAt:=by
 refine cC Tryz.func16 Tryz.ntmps16 fun av bor w0=>?_
 have hid:Pu Tryz.prog 43 #[.int .i64 nkK.p] Xf (.string nkI):=by
  have h:=eQ nkK.p (by decide +kernel)
  rw [show idV nkK.p=nkI from zT] at h
  exact h
 have hsg:=lR nkK nkU0 za AK
 rw [Bk] at hsg
 repeat' (first|refine aM (cs:=nkU0.cells) (hf:=by rfl) ?_|(refine ag (hc:=hid) ?_)|(refine bm (hc:=hsg) (hX:=fun w h=>⟨⟨aJ w 1,aJ w 5⟩,h⟩) fun v1 X1 h1=>?_;obtain ⟨s1,s2,rfl,hn1,hn2,hat⟩:=h1)|refine gs ?_|refine gs1 fun _=>?_|(refine gp ?_ ?_<;>intro hx_ this)|fail)
 rename_i b1 b2 b3 b5
 obtain ⟨x,hx⟩:∃ x,nkA0.re s1 s2=x:=⟨_,rfl⟩
 have hxb:BegOk x:=by rw [←hx];exact nk_beg.re hn1 hn2
 have hxa:x.author=nkI:=by rw [←hx];rfl
 rw [hx] at hat ⊢
 have hof:=mD x hxb.rng hxb.sm
 have hadd:∀ s3 s4:Xj,s3.n=x.to.n→s4.n=x.wraps.n→Mk Tryz.prog 6 #[.agg #[.slice none 0 0,.slice none 0 0],(ofActI (x.re s3 s4)).v] (fun w=>(Items w ⟨none,0,0⟩ []∧(ofActI (x.re s3 s4)).at_ w)∧Xf w)
   (fun u X'=>∃ s:Xj,u=.tuple #[.agg #[.slice none 0 0,s.v],.bool true]∧∀ w,X' w→Items w s [ofActI (x.re s3 s4)]):=fun s3 s4 h3 h4=>by
  have hb:=hxb.re h3 h4
  have hri:=rightI0 (x.re s3 s4)
  rw [show rI0 (ofActI (x.re s3 s4))=true from hb.right] at hri
  exact A7 ⟨none,0,0⟩ ⟨none,0,0⟩ [] (ofActI (x.re s3 s4)) rI0 dI0 hri (qK _ _ hb.right) (digI0 _ hb.rng) (fun y hy=>by cases hy) (by decide) (fun y hy=>by cases hy)
 have hone:∀ s3 s4 s:Xj,s3.n=x.to.n→s4.n=x.wraps.n→Mk Tryz.prog 32 #[.agg #[.slice none 0 0,s.v],.string nkI] (fun w=>Items w s [ofActI (x.re s3 s4)]∧Xf w)
   (fun u X'=>∃ sa sk:Xj,u=(⟨nkI,sa,sk,digV (x.re s3 s4),0,false,[x.re s3 s4]⟩:Xd).v∧∀ w,X' w→Acts w sa [x.re s3 s4]∧Keyz w sk [⟨0,(x.re s3 s4).n,(x.re s3 s4).m⟩]):=fun s3 s4 s h3 h4=>by
  have h:=xc s (x.re s3 s4) (hxb.re h3 h4)
  rw [show (x.re s3 s4).author=nkI from hxa] at h
  exact h
 (refine ao ⟨[1],[(0,⟨[],[(2,⟨[],[(3,⟨[4,5,6],[(7,⟨[],[(8,⟨[9],[]⟩)]⟩)]⟩),(7,⟨[],[(3,⟨[4,5,6],[(8,⟨[9],[]⟩)]⟩)]⟩)]⟩),(7,⟨[],[(2,⟨[],[(3,⟨[4,5,6],[(8,⟨[9],[]⟩)]⟩)]⟩)]⟩)]⟩),(7,⟨[],[(0,⟨[],[(2,⟨[],[(3,⟨[4,5,6],[(8,⟨[9],[]⟩)]⟩)]⟩)]⟩)]⟩)]⟩ [cel b5 37 x.cells] (fun w=>Xf w∧X1 w) (h:=?_))
 all_goals repeat' (first|(refine ag (hc:=zg) ?_)|((refine bm (hc:=hof) (hX:=fun w h=>hat w h.2) fun v2 X2 h2=>?_;obtain ⟨s3,s4,rfl,hn3,hn4,hat2⟩:=h2))|((refine bm (hc:=hadd s3 s4 hn3 hn4) (hX:=fun w h=>⟨⟨itemsNil w,hat2 w h.2,aJ w 1⟩,h.1.1⟩) fun v3 X3 h3=>?_;obtain ⟨s,rfl,hit⟩:=h3))|refine gdz ?_|refine ay ?_ (h':=?_)|exact az|refine gs1 fun _=>?_|(refine gq ?_ ?_<;>intro hx_ this)|fail)
 all_goals
  rename_i b6
  apply cw_seq
  (refine ao ⟨[0,1,2],[(3,⟨[],[(4,⟨[],[(5,⟨[],[]⟩)]⟩)]⟩)]⟩ [cel b6 26 [.slice none 0 0,s.v]] (fun w=>((Xf w∧X1 w)∧X2 w)∧X3 w) (h:=?_))
  all_goals repeat' (first|((refine bm (hc:=hone s3 s4 s hn3 hn4) (hX:=fun w h=>⟨hit w h.2,h.1.1.1⟩) fun v4 X4 h4=>?_;obtain ⟨sa,sk,rfl,hch⟩:=h4))|refine gdz ?_|refine ay ?_ (h':=?_)|exact az|refine gs1 fun _=>?_|(refine gq ?_ ?_<;>intro hx_ this)|fail)
  all_goals
   repeat' (first|refine gs ?_|refine gs1 fun _=>?_|(refine gp ?_ ?_<;>intro hx_ this)|fail)
   subst hx
   have hdg:digV ((nkA0.re s1 s2).re s3 s4)=nkD0:=(gB hn3 hn4).trans ((gB hn1 hn2).trans zS)
   rw [hdg]
   refine ab (qT rfl rfl rfl aL (by rfl) aL (by rfl)) ⟨s,sa,sk,s3,s4,hn3.trans hn1,hn4.trans hn2,rfl,fun w h=>hch w h.1.2⟩
def extC (c:Xd) (sa:Xj) (a:Xa):Xd:=⟨c.id,sa,c.keys,digV a,c.gen,c.fork,c.actsL++[a]⟩
def ExtAt (c:Xd) (a:Xa) (u:Value) (X:World→Prop):Prop:=∃ sa:Xj,u=(extC c sa a).v∧∀ w,X w→(extC c sa a).at_ w
theorem jS (c:Xd) (a:Xa) (hr:a.Rng) (hs:a.Sm) (hl:c.actsL.length≤100000):Mk Tryz.prog 18 #[c.v,a.v] (fun w=>(c.at_ w∧a.at_ w)∧Xf w) (ExtAt c a):=by
 refine cC Tryz.func18 Tryz.ntmps18 fun av bor w0=>?_
 refine aH (p:=c.acts.n=c.actsL.length∧c.acts.n≤maxLen) (fun w h=>⟨h.1.1.len_,h.1.1.max_⟩) fun ⟨hn,hm⟩=>?_
 simp only [maxLen] at hm
 have hsrc:∀ w,((c.at_ w∧a.at_ w)∧Xf w)→Src Tryz.prog w 20 c.acts.v c.acts.n (c.actsL.map Xa.cells).flatten:=fun w h=>eL h.1.1.1 (rJ _)
 repeat' (first|refine gs ?_|refine gs1 fun _=>?_|(refine gp ?_ ?_<;>intro hx_ this)|fail)
 rename_i b2 b3 b4
 refine gW (ι:=Option Addr×Nat) (fun i=>⟨[(2,.pointer (some ⟨b2,0,none⟩)),(3,.pointer (some ⟨b3,0,none⟩)),(4,.pointer (some ⟨b4,0,none⟩))],[orow 37 20 (.slice i.1 (0+c.acts.n+1) i.2) (0+c.acts.n+1) ([]++(c.actsL.map Xa.cells).flatten++a.cells),cel b4 67 (chZ ⟨#[]⟩),cel b3 37 a.cells,cel b2 67 [.string c.id,.slice i.1 (0+c.acts.n+1) i.2,c.keys.v,.string c.prev,.int .i64 c.gen,.bool c.fork]],fun w=>(c.at_ w∧a.at_ w)∧Xf w⟩) ?_ fun i=>?_
 · (refine ao ⟨[1,4],[(0,⟨[],[(2,⟨[],[(3,⟨[],[(5,⟨[],[(6,⟨[7],[(8,⟨[],[]⟩)]⟩)]⟩)]⟩),(5,⟨[],[(3,⟨[],[(6,⟨[7],[(8,⟨[],[]⟩)]⟩)]⟩)]⟩)]⟩),(5,⟨[],[(2,⟨[],[(3,⟨[],[(6,⟨[7],[(8,⟨[],[]⟩)]⟩)]⟩)]⟩)]⟩)]⟩),(2,⟨[],[(0,⟨[],[(3,⟨[],[(5,⟨[],[(6,⟨[7],[(8,⟨[],[]⟩)]⟩)]⟩)]⟩),(5,⟨[],[(3,⟨[],[(6,⟨[7],[(8,⟨[],[]⟩)]⟩)]⟩)]⟩)]⟩),(5,⟨[],[(0,⟨[],[(3,⟨[],[(6,⟨[7],[(8,⟨[],[]⟩)]⟩)]⟩)]⟩)]⟩)]⟩),(5,⟨[],[(0,⟨[],[(2,⟨[],[(3,⟨[],[(6,⟨[7],[(8,⟨[],[]⟩)]⟩)]⟩)]⟩)]⟩),(2,⟨[],[(0,⟨[],[(3,⟨[],[(6,⟨[7],[(8,⟨[],[]⟩)]⟩)]⟩)]⟩)]⟩)]⟩)]⟩ [cel b3 37 a.cells] (fun w=>(c.at_ w∧a.at_ w)∧Xf w) (h:=?_))
   all_goals repeat' (first|refine gdz ?_|refine ay ?_ (h':=?_)|exact az|refine ka fun _=>?_|refine bL (size:=20) (vs:=[a.v]) (css:=a.cells) (hsz:=by rfl) (hcs:=by rfl) fun _=>?_|(refine fU ?_;refine aC (size:=20) (news:=(c.actsL.map Xa.cells).flatten) (q:=c.acts.n) rfl rfl rfl rfl (fun _=>At.here _) (fun w G=>hsrc w G.keep.now) aa (by simp only [maxLen];omega) rfl ?_ rfl ?_;(first|with_reducible rfl|with_reducible assumption|with_reducible exact Bool.not_false|with_reducible exact Bool.not_true);intro A2 c2)|(refine fU ?_;refine aC (size:=20) (news:=(c.actsL.map Xa.cells).flatten) (q:=c.acts.n) rfl rfl rfl rfl (fun _=>At.there _ (At.here _)) (fun w G=>hsrc w G.keep.now) aa (by simp only [maxLen];omega) rfl ?_ rfl ?_;(first|with_reducible rfl|with_reducible assumption|with_reducible exact Bool.not_false|with_reducible exact Bool.not_true);intro A2 c2)|(refine fU ?_;refine aC (size:=20) (news:=a.cells) (q:=1) rfl rfl rfl rfl (fun _=>At.here _) (fun w G=>aU G (.tail _ (.head _)) rfl rfl 1) aa (by simp only [maxLen];omega) rfl ?_ rfl ?_;(first|with_reducible rfl|with_reducible assumption|with_reducible exact Bool.not_false|with_reducible exact Bool.not_true);intro A3 c3)|(refine fU ?_;refine aC (size:=20) (news:=a.cells) (q:=1) rfl rfl rfl rfl (fun _=>At.there _ (At.here _)) (fun w G=>aU G (.head _) rfl rfl 1) aa (by simp only [maxLen];omega) rfl ?_ rfl ?_;(first|with_reducible rfl|with_reducible assumption|with_reducible exact Bool.not_false|with_reducible exact Bool.not_true);intro A3 c3)|refine gs1 fun _=>?_|(refine gq ?_ ?_<;>intro hx_ this)|fail)
   all_goals exact ⟨(A3,c3),ae al (by first|exact .cons _ (aj _)|exact .cons_cons _ (.cons _ (aj _))) fun w h=>h⟩
 obtain ⟨A3,c3⟩:=i
 simp only
 repeat' (first|refine gs ?_|refine gs1 fun _=>?_|fail)
 refine bm (hc:=iI a hr hs) (hX:=fun w h=>h.1.2) fun v1 X1 h1=>?_
 obtain ⟨x',rfl,hdig,hr',hat⟩:=h1
 refine ag (hc:=fq x' hr') (hX:=fun w h=>⟨hat w h.2,h.1.2⟩) ?_
 rw [hdig]
 repeat' (first|refine gs ?_|refine gs1 fun _=>?_|(refine gp ?_ ?_<;>intro hx_ this)|fail)
 refine ab (bx rfl rfl aL (by rfl)) ⟨⟨A3,0+c.acts.n+1,c3⟩,rfl,fun w h=>?_⟩
 have hrow:=h.2 (orow 37 20 (.slice A3 (0+c.acts.n+1) c3) (0+c.acts.n+1) ([]++(c.actsL.map Xa.cells).flatten++a.cells)) aL
 refine dZ (e:=37) (l:=c.actsL++[a]) (by rw [show ((c.actsL++[a]).map Xa.cells).flatten=[]++(c.actsL.map Xa.cells).flatten++a.cells from by simp];exact hrow) (by rw [List.length_append,List.length_singleton];show 0+c.acts.n+1=_;omega) fun x hx=>?_
 rcases List.mem_append.1 hx with hx|hx
 · exact h.1.1.1.1.2 x hx
 · rw [List.mem_singleton.1 hx]
   exact h.1.1.1.2
end Go.Proofs.YtggionfjlgfihaaGreatDoor
