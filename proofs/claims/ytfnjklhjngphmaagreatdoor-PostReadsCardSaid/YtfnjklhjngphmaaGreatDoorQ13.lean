/- Joined by program out of: Nf Ng Nc Nd Sw Sz Pi Np Ns Nh Vm Ow Ur Vn Po. -/
import Derived.Test.YtfnjklhjngphmaaGreatDoorQ12
import Derived.Test.YtfnjklhjngphmaaGreatDoorCards
import Derived.Test.YtfnjklhjngphmaaGreatDoorTie
import Derived.WalkKit
import Derived.ProofKit
import Derived.Deep.DeepHandedRow
import Derived.Lib.LaidTab
set_option linter.unusedVariables false
set_option linter.unusedSimpArgs false
namespace Go.Proofs.YtfnjklhjngphmaaGreatDoor
open Go Go.Proofs Sy
def ownsB (k:KyD) (c:ChainD) (kl:List KeyD):Bool:=(keyV c.acts.n kl (c.acts.n:Int)).isSome&&rightK k&&decide (k.p=((keyV c.acts.n kl (c.acts.n:Int)).getD KeyD.zero).public_)
theorem AC (k:KyD) (c:ChainD) (kl:List KeyD):Pu Tryz.prog 124 #[k.v,c.v] (fun w=>c.at_ w∧Keyz w c.keys kl) (.bool (ownsB k c kl)):=by
 refine aN (args:=[_,_]) _ Tryz.func124 rfl Tryz.ntmps124 rfl fun av bor w0=>?_
 have hk:=p6 c kl (c.acts.n:Int)
 have hr:=fU k
 unfold ownsB
 unfold keyOP at hk
 generalize keyV c.acts.n kl (c.acts.n:Int)=o at *
 generalize hs:o.isSome=s at hk
 generalize o.getD KeyD.zero=y at *
 generalize rightK k=r at *
 cases s<;>cases r
 all_goals
  repeat' (first|apply ab|apply aj|apply ai|refine ae ?_|refine ac ?_|refine aM ?_|refine aL ?_|refine aG ?_|refine aJ ?_|refine aH ?_|refine bR ?_|refine bg ?_|refine bC ?_|refine aW ?_|refine aP fun _=>?_|refine aT fun _=>?_|refine aK ?_|apply aA|(refine aC (hc:=hk) (hX:=fun _ h=>h) ?_)|(refine aC (hc:=hr) (hX:=fun _ _=>trivial) ?_)|fail)
  exact aq (aB rfl rfl) rfl
theorem qn (kd:Int):Pu Tryz.prog 123 #[.int .i64 kd] (fun _=>True) (.bool (postK kd||decide (kd=14))):=by
 refine aN (args:=[_]) _ Tryz.func123 rfl Tryz.ntmps123 rfl fun av bor w0=>?_
 have hp:=eX kd
 generalize postK kd=q at *
 cases q
 all_goals
  repeat' (first|apply ab|apply aj|apply ai|refine ae ?_|refine ac ?_|refine aJ ?_|refine aH ?_|refine bR ?_|refine bI ?_|apply aA|(refine aC (hc:=hp) (hX:=fun _ _=>trivial) ?_)|fail)
  exact aq (aB rfl rfl) rfl
def pubD (c:ChainD) (a:ActD) (text:ByteArray) (s:SlV):ActD:={ draftV c a.kind a.time with object:=a.object,scope:=a.scope,group:=a.group,to:=s,text:=text }
def PostAt26 (k:KyD) (c:ChainD) (a:ActD) (text:ByteArray) (u:Value) (X:World→Prop):Prop:=∃ s s1 s2:SlV,s.n=0∧s1.n=(actSignV k (pubD c a text s)).to.n∧s2.n=(actSignV k (pubD c a text s)).wraps.n∧u=.tuple #[((actSignV k (pubD c a text s)).re s1 s2).v,.int .i64 0]∧∀ w,X w→((actSignV k (pubD c a text s)).re s1 s2).at_ w
set_option maxRecDepth 20000 in
set_option maxHeartbeats 16000000 in
theorem lC (k:KyD) (c:ChainD) (kl:List KeyD) (a:ActD) (text:ByteArray) (hc:ActsOk c.actsL) (hkd:(postK a.kind||decide (a.kind=14))=true) (hsc:a.scope=0) (hto:a.to=⟨none,0,0⟩) (htl:a.toL=[]) (hown:ownsB k c kl=true)
  (hrt:∀ s:SlV,s.n=0→rightB (pubD c a text s)=true) (hft:∀ s:SlV,s.n=0→fitsV c (pubD c a text s) (idxV c.actsL a.object)=true) (hrg:∀ s:SlV,s.n=0→(pubD c a text s).Rng∧(pubD c a text s).Sm) :
  Mk Tryz.prog 75 #[k.v,c.v,a.v,.string text] (fun w=>((c.at_ w∧Keyz w c.keys kl)∧a.at_ w)∧Glob w) (PostAt26 k c a text):=by
 refine bL (args:=[_,_,_,_]) _ Tryz.func75 rfl Tryz.ntmps75 rfl fun av bor w0=>?_
 have hwr:=qn a.kind
 rw [hkd] at hwr
 have how:=AC k c kl
 rw [hown] at how
 have hdr:=yO c a.kind a.time
 have hcl:=eR a.to (strs []) (by rw [hto];decide) (jb _)
 have hg1:¬ a.scope<0:=by omega
 have hg2:¬ (3:Int)<a.scope:=by omega
 repeat' (first|refine ax (bK false rfl rfl (decide_eq_false hg1)) rfl aR rfl ?_|refine nH (hab:=hg2) ?_|refine bM (hab:=hsc) ?_|apply ab|apply aj|apply ai|refine ae ?_|refine ac ?_|refine aM ?_|refine aL ?_|refine aG ?_|refine aH ?_|refine bE ?_|refine aP fun _=>?_|refine aT fun _=>?_|refine br ?_|refine aK ?_|refine aE ?_|refine aD ?_|apply ay|(refine aC (hc:=hwr) (hX:=fun _ _=>trivial) ?_)|(refine aC (hc:=how) (hX:=fun _ h=>h.1.1) ?_)|(refine aC (hc:=hdr) (hX:=fun _ _=>trivial) ?_)|(refine bN (hc:=hcl) (hX:=fun w h=>by have h1:=h.1.2.1;rw [htl] at h1;exact h1) fun v1 X1 h1=>?_;obtain ⟨s,rfl,hn1,hw1⟩:=h1)|fail)
 have hn0:s.n=0:=hn1
 obtain ⟨p,hp⟩:∃ p,pubD c a text s=p:=⟨_,rfl⟩
 have hri:=dO p
 rw [show rightB p=true from by rw [←hp];exact hrt s hn0] at hri
 have hpo:p.object=a.object:=by rw [←hp];rfl
 have hfi:=vt c hc p
 rw [hpo,show fitsV c p (idxV c.actsL a.object)=true from by rw [←hp];exact hft s hn0] at hfi
 obtain ⟨hpr,hps⟩:=hrg s hn0
 rw [hp] at hpr hps
 have hsi:=l5 k p hpr hps
 have hpat:∀ w,X1 w→p.at_ w:=fun w h=>by
  rw [←hp]
  exact ⟨hw1 w h,bz w 5⟩
 have hpv:(.agg ((((((draftV c a.kind a.time).cells.set 5 (Value.string a.object)).set 7 (Value.int IntKind.i64 a.scope)).set 8 (Value.string a.group)).set 9 s.v).set 10 (Value.string text)).toArray)=p.v:=by rw [←hp];rfl
 rw [hpv]
 have hcs:((((((draftV c a.kind a.time).cells.set 5 (Value.string a.object)).set 7 (Value.int IntKind.i64 a.scope)).set 8 (Value.string a.group)).set 9 s.v).set 10 (Value.string text))=p.cells:=by rw [←hp];rfl
 rw [hcs]
 repeat' (first|apply ab|apply aj|apply ai|refine ac ?_|refine aG ?_|refine bE ?_|refine aK ?_|refine aD ?_|apply ay|apply aA|(refine aC (hc:=hri) (hX:=fun w h=>hpat w h.2) ?_)|(refine aC (hc:=hfi) (hX:=fun w h=>⟨⟨h.1.1.1.1,h.1.2⟩,hpat w h.2⟩) ?_)|(refine bN (hc:=hsi) (hX:=fun w h=>⟨hpat w h.2,h.1.2⟩) fun v2 X2 h2=>?_;obtain ⟨s1,s2,rfl,hn2,hn3,hat⟩:=h2)|fail)
 subst hp
 exact aq (cN rfl rfl rfl bF (by rfl)) ⟨s,s1,s2,hn0,hn2,hn3,rfl,fun w h=>hat w h.1.2⟩
theorem itemsNil (w:World):Items w ⟨none,0,0⟩ []:=⟨bz w 49,fun i h=>by cases h⟩
def begC (sa sk:SlV) (x:ActD):ChainD:=⟨nkI,sa,sk,nkD0,0,false,[x]⟩
def BegunAt (u:Value) (X:World→Prop):Prop:=∃ (ks sa sk s1 s2:SlV),s1.n=0∧s2.n=0∧u=.tuple #[.agg #[.slice none 0 0,ks.v],(begC sa sk (nkA0.re s1 s2)).v]∧∀ w,X w→Acts w sa [nkA0.re s1 s2]∧Keyz w sk [⟨0,nkK.p,0⟩]
set_option maxHeartbeats 8000000 in
theorem yU:Mk Tryz.prog 74 #[nkK.v] Glob BegunAt:=by
 refine bL (args:=[_]) _ Tryz.func74 rfl Tryz.ntmps74 rfl fun av bor w0=>?_
 have hid:Pu Tryz.prog 23 #[.int .i64 nkK.p] Glob (.string nkI):=by
  have h:=gd nkK.p (by decide +kernel)
  rw [show idV nkK.p=nkI from BP] at h
  exact h
 have hsg:=l5 nkK nkU0 AM Cp
 rw [C8] at hsg
 repeat' (first|refine bV (cs:=nkU0.cells) (hf:=by rfl) ?_|apply ab|apply aj|apply ai|refine ae ?_|refine ac ?_|refine aM ?_|refine aL ?_|refine aG ?_|refine aP fun _=>?_|refine aT fun _=>?_|refine aK ?_|(refine aC (hc:=hid) (hX:=fun w h=>h) ?_)|(refine bN (hc:=hsg) (hX:=fun w h=>⟨⟨bz w 1,bz w 5⟩,h⟩) fun v1 X1 h1=>?_;obtain ⟨s1,s2,rfl,hn1,hn2,hat⟩:=h1)|fail)
 rename_i b1 b2 b3 b5
 obtain ⟨x,hx⟩:∃ x,nkA0.re s1 s2=x:=⟨_,rfl⟩
 have hxb:BegOk x:=by rw [←hx];exact nk_beg.re hn1 hn2
 have hxa:x.author=nkI:=by rw [←hx];rfl
 rw [hx] at hat ⊢
 have hof:=mV x hxb.rng hxb.sm
 have hadd:∀ s3 s4:SlV,s3.n=x.to.n→s4.n=x.wraps.n→Mk Tryz.prog 19 #[.agg #[.slice none 0 0,.slice none 0 0],(ofActI (x.re s3 s4)).v] (fun w=>(Items w ⟨none,0,0⟩ []∧(ofActI (x.re s3 s4)).at_ w)∧Glob w)
   (fun u X'=>∃ s:SlV,u=.tuple #[.agg #[.slice none 0 0,s.v],.bool true]∧∀ w,X' w→Items w s [ofActI (x.re s3 s4)]):=fun s3 s4 h3 h4=>by
  have hb:=hxb.re h3 h4
  have hri:=rightI0 (x.re s3 s4)
  rw [show rI0 (ofActI (x.re s3 s4))=true from hb.right] at hri
  exact CS ⟨none,0,0⟩ ⟨none,0,0⟩ [] (ofActI (x.re s3 s4)) rI0 dI0 hri (qw _ _ hb.right) (digI0 _ hb.rng) (fun y hy=>by cases hy) (by decide) (fun y hy=>by cases hy)
 have hone:∀ s3 s4 s:SlV,s3.n=x.to.n→s4.n=x.wraps.n→Mk Tryz.prog 10 #[.agg #[.slice none 0 0,s.v],.string nkI] (fun w=>Items w s [ofActI (x.re s3 s4)]∧Glob w)
   (fun u X'=>∃ sa sk:SlV,u=(⟨nkI,sa,sk,digV (x.re s3 s4),0,false,[x.re s3 s4]⟩:ChainD).v∧∀ w,X' w→Acts w sa [x.re s3 s4]∧Keyz w sk [⟨0,(x.re s3 s4).n,(x.re s3 s4).m⟩]):=fun s3 s4 s h3 h4=>by
  have h:=ya s (x.re s3 s4) (hxb.re h3 h4)
  rw [show (x.re s3 s4).author=nkI from hxa] at h
  exact h
 (refine bo [cel b5 46 x.cells] (fun w=>Glob w∧X1 w) ar ?_)
 all_goals refine aa 1 ?_
 all_goals (refine bS 0 7 (h:=?_) (h':=?_);(focus (((refine aC (hc:=sU) (hX:=fun _ _=>trivial) ?_);apply ab;refine ak ?_);all_goals ((refine bS 2 7 (h:=?_) (h':=?_);(focus (((refine bN (hc:=hof) (hX:=fun w h=>hat w h.2) fun v2 X2 h2=>?_;obtain ⟨s3,s4,rfl,hn3,hn4,hat2⟩:=h2);apply ab;refine ak ?_);all_goals ((refine bS 3 7 (h:=?_) (h':=?_);(focus (((refine bN (hc:=hadd s3 s4 hn3 hn4) (hX:=fun w h=>⟨⟨itemsNil w,hat2 w h.2,bz w 1⟩,h.1.1⟩) fun v3 X3 h3=>?_;obtain ⟨s,rfl,hit⟩:=h3);apply ab;refine ak ?_);all_goals ((refine aa 4 ?_);all_goals (refine aa 5 ?_);all_goals (refine aa 6 ?_);all_goals (refine ao 7 ?_;(refine aP fun _=>?_);apply ab;refine ak ?_);all_goals (refine ao 8 ?_;(refine aK ?_);apply ab;refine ak ?_);all_goals (refine aa 9 ?_);all_goals (refine aI ?_))));rotate_right;(focus (((refine aP fun _=>?_);apply ab;refine ak ?_);all_goals ((refine ao 3 ?_;(refine bN (hc:=hadd s3 s4 hn3 hn4) (hX:=fun w h=>⟨⟨itemsNil w,hat2 w h.2,bz w 1⟩,h.1.1⟩) fun v3 X3 h3=>?_;obtain ⟨s,rfl,hit⟩:=h3);apply ab;refine ak ?_);all_goals (refine aa 4 ?_);all_goals (refine aa 5 ?_);all_goals (refine aa 6 ?_);all_goals (refine ao 8 ?_;(refine aK ?_);apply ab;refine ak ?_);all_goals (refine aa 9 ?_);all_goals (refine aI ?_))))))));rotate_right;(focus (((refine aP fun _=>?_);apply ab;refine ak ?_);all_goals ((refine ao 2 ?_;(refine bN (hc:=hof) (hX:=fun w h=>hat w h.2) fun v2 X2 h2=>?_;obtain ⟨s3,s4,rfl,hn3,hn4,hat2⟩:=h2);apply ab;refine ak ?_);all_goals (refine ao 3 ?_;(refine bN (hc:=hadd s3 s4 hn3 hn4) (hX:=fun w h=>⟨⟨itemsNil w,hat2 w h.2,bz w 1⟩,h.1.1⟩) fun v3 X3 h3=>?_;obtain ⟨s,rfl,hit⟩:=h3);apply ab;refine ak ?_);all_goals (refine aa 4 ?_);all_goals (refine aa 5 ?_);all_goals (refine aa 6 ?_);all_goals (refine ao 8 ?_;(refine aK ?_);apply ab;refine ak ?_);all_goals (refine aa 9 ?_);all_goals (refine aI ?_))))))));rotate_right;(focus (((refine aP fun _=>?_);apply ab;refine ak ?_);all_goals ((refine ao 0 ?_;(refine aC (hc:=sU) (hX:=fun _ _=>trivial) ?_);apply ab;refine ak ?_);all_goals (refine ao 2 ?_;(refine bN (hc:=hof) (hX:=fun w h=>hat w h.2) fun v2 X2 h2=>?_;obtain ⟨s3,s4,rfl,hn3,hn4,hat2⟩:=h2);apply ab;refine ak ?_);all_goals (refine ao 3 ?_;(refine bN (hc:=hadd s3 s4 hn3 hn4) (hX:=fun w h=>⟨⟨itemsNil w,hat2 w h.2,bz w 1⟩,h.1.1⟩) fun v3 X3 h3=>?_;obtain ⟨s,rfl,hit⟩:=h3);apply ab;refine ak ?_);all_goals (refine aa 4 ?_);all_goals (refine aa 5 ?_);all_goals (refine aa 6 ?_);all_goals (refine ao 8 ?_;(refine aK ?_);apply ab;refine ak ?_);all_goals (refine aa 9 ?_);all_goals (refine aI ?_)))))
 all_goals
  rename_i b6
  apply aj
  (refine bo [cel b6 25 [.slice none 0 0,s.v]] (fun w=>((Glob w∧X1 w)∧X2 w)∧X3 w) ar ?_)
  all_goals refine aa 0 ?_
  all_goals refine aa 1 ?_
  all_goals refine aa 2 ?_
  all_goals (refine ao 3 ?_;(refine bN (hc:=hone s3 s4 s hn3 hn4) (hX:=fun w h=>⟨hit w h.2,h.1.1.1⟩) fun v4 X4 h4=>?_;obtain ⟨sa,sk,rfl,hch⟩:=h4);apply ab;refine ak ?_)
  all_goals (refine ao 4 ?_;(refine aK ?_);apply ab;refine ak ?_)
  all_goals (refine ao 5 ?_;(refine aK ?_);apply ab;refine ak ?_)
  all_goals (refine aI ?_)
  all_goals
   repeat' (first|apply aA|fail)
   subst hx
   have hdg:digV ((nkA0.re s1 s2).re s3 s4)=nkD0:=(jq hn3 hn4).trans ((jq hn1 hn2).trans BO)
   rw [hdg]
   refine aq (qE rfl rfl rfl bF (by rfl) bF (by rfl)) ⟨s,sa,sk,s3,s4,hn3.trans hn1,hn4.trans hn2,rfl,fun w h=>hch w h.1.2⟩
def extC (c:ChainD) (sa:SlV) (a:ActD):ChainD:=⟨c.id,sa,c.keys,digV a,c.gen,c.fork,c.actsL++[a]⟩
def ExtAt (c:ChainD) (a:ActD) (u:Value) (X:World→Prop):Prop:=∃ sa:SlV,u=(extC c sa a).v∧∀ w,X w→(extC c sa a).at_ w
set_option maxHeartbeats 8000000 in
theorem jU (c:ChainD) (a:ActD) (hr:a.Rng) (hs:a.Sm) (hl:c.actsL.length≤100000):Mk Tryz.prog 76 #[c.v,a.v] (fun w=>(c.at_ w∧a.at_ w)∧Glob w) (ExtAt c a):=by
 refine bL (args:=[_,_]) _ Tryz.func76 rfl Tryz.ntmps76 rfl fun av bor w0=>?_
 refine bt (p:=c.acts.n=c.actsL.length∧c.acts.n≤maxLen) (fun w h=>⟨h.1.1.len_,h.1.1.max_⟩) fun ⟨hn,hm⟩=>?_
 simp only [maxLen] at hm
 have hsrc:∀ w,((c.at_ w∧a.at_ w)∧Glob w)→Src Tryz.prog w 20 c.acts.v c.acts.n (c.actsL.map ActD.cells).flatten:=fun w h=>dJ h.1.1.1 (ru _)
 repeat' (first|apply ab|apply aj|apply ai|refine aP fun _=>?_|refine aT fun _=>?_|fail)
 rename_i b2 b3 b4
 refine ez (ι:=Option Addr×Nat) (fun i=>⟨[(2,.pointer (some ⟨b2,0,none⟩)),(3,.pointer (some ⟨b3,0,none⟩)),(4,.pointer (some ⟨b4,0,none⟩))],[orow 46 20 (.slice i.1 (0+c.acts.n+1) i.2) (0+c.acts.n+1) ([]++(c.actsL.map ActD.cells).flatten++a.cells),cel b4 31 (chZ ⟨#[]⟩),cel b3 46 a.cells,cel b2 31 [.string c.id,.slice i.1 (0+c.acts.n+1) i.2,c.keys.v,.string c.prev,.int .i64 c.gen,.bool c.fork]],fun w=>(c.at_ w∧a.at_ w)∧Glob w⟩) ?_ fun i=>?_
 · (refine bo [cel b3 46 a.cells] (fun w=>(c.at_ w∧a.at_ w)∧Glob w) ar ?_)
   all_goals refine aa 1 ?_
   all_goals refine aa 4 ?_
   all_goals (refine fI 0 2 5 (h:=?_) (h':=?_) (h'':=?_);(focus (((refine dY fun _=>?_);apply ab;refine ak ?_);all_goals ((refine bS 2 5 (h:=?_) (h':=?_);(focus (((refine aL ?_);apply ab;refine ak ?_);all_goals ((refine bS 3 5 (h:=?_) (h':=?_);(focus (((refine aS (size:=20) (news:=(c.actsL.map ActD.cells).flatten) (q:=c.acts.n) rfl rfl rfl rfl (fun _=>At.here _) (fun w G=>hsrc w G.keep.now) ag (by simp only [maxLen];omega) rfl ?_ rfl ?_;(with_reducible rfl);intro A2 c2);apply ab;refine ak ?_);all_goals ((refine ao 5 ?_;(refine bH (size:=20) (vs:=[a.v]) (css:=a.cells) (hsz:=by rfl) (hcs:=by rfl) fun _=>?_);apply ab;refine ak ?_);all_goals (refine ao 6 ?_;(refine aS (size:=20) (news:=a.cells) (q:=1) rfl rfl rfl rfl (fun _=>At.there _ (At.here _)) (fun w G=>bq G (.head _) rfl rfl 1) ag (by simp only [maxLen];omega) rfl ?_ rfl ?_;(with_reducible rfl);intro A3 c3);apply ab;refine ak ?_);all_goals (refine aa 7 ?_);all_goals (refine ao 8 ?_;(refine br ?_);apply ab;refine ak ?_);all_goals (refine aI ?_))));rotate_right;(focus (((refine bH (size:=20) (vs:=[a.v]) (css:=a.cells) (hsz:=by rfl) (hcs:=by rfl) fun _=>?_);apply ab;refine ak ?_);all_goals ((refine ao 3 ?_;(refine aS (size:=20) (news:=(c.actsL.map ActD.cells).flatten) (q:=c.acts.n) rfl rfl rfl rfl (fun _=>At.there _ (At.here _)) (fun w G=>hsrc w G.keep.now) ag (by simp only [maxLen];omega) rfl ?_ rfl ?_;(with_reducible rfl);intro A2 c2);apply ab;refine ak ?_);all_goals (refine ao 6 ?_;(refine aS (size:=20) (news:=a.cells) (q:=1) rfl rfl rfl rfl (fun _=>At.there _ (At.here _)) (fun w G=>bq G (.head _) rfl rfl 1) ag (by simp only [maxLen];omega) rfl ?_ rfl ?_;(with_reducible rfl);intro A3 c3);apply ab;refine ak ?_);all_goals (refine aa 7 ?_);all_goals (refine ao 8 ?_;(refine br ?_);apply ab;refine ak ?_);all_goals (refine aI ?_))))))));rotate_right;(focus (((refine bH (size:=20) (vs:=[a.v]) (css:=a.cells) (hsz:=by rfl) (hcs:=by rfl) fun _=>?_);apply ab;refine ak ?_);all_goals ((refine ao 2 ?_;(refine aL ?_);apply ab;refine ak ?_);all_goals (refine ao 3 ?_;(refine aS (size:=20) (news:=(c.actsL.map ActD.cells).flatten) (q:=c.acts.n) rfl rfl rfl rfl (fun _=>At.there _ (At.here _)) (fun w G=>hsrc w G.keep.now) ag (by simp only [maxLen];omega) rfl ?_ rfl ?_;(with_reducible rfl);intro A2 c2);apply ab;refine ak ?_);all_goals (refine ao 6 ?_;(refine aS (size:=20) (news:=a.cells) (q:=1) rfl rfl rfl rfl (fun _=>At.there _ (At.here _)) (fun w G=>bq G (.head _) rfl rfl 1) ag (by simp only [maxLen];omega) rfl ?_ rfl ?_;(with_reducible rfl);intro A3 c3);apply ab;refine ak ?_);all_goals (refine aa 7 ?_);all_goals (refine ao 8 ?_;(refine br ?_);apply ab;refine ak ?_);all_goals (refine aI ?_))))))));rotate_right;(focus (((refine bH (size:=20) (vs:=[a.v]) (css:=a.cells) (hsz:=by rfl) (hcs:=by rfl) fun _=>?_);apply ab;refine ak ?_);all_goals ((refine bS 0 2 (h:=?_) (h':=?_);(focus (((refine dY fun _=>?_);apply ab;refine ak ?_);all_goals ((refine ao 2 ?_;(refine aL ?_);apply ab;refine ak ?_);all_goals (refine ao 3 ?_;(refine aS (size:=20) (news:=(c.actsL.map ActD.cells).flatten) (q:=c.acts.n) rfl rfl rfl rfl (fun _=>At.here _) (fun w G=>hsrc w G.keep.now) ag (by simp only [maxLen];omega) rfl ?_ rfl ?_;(with_reducible rfl);intro A2 c2);apply ab;refine ak ?_);all_goals (refine ao 6 ?_;(refine aS (size:=20) (news:=a.cells) (q:=1) rfl rfl rfl rfl (fun _=>At.here _) (fun w G=>bq G (.tail _ (.head _)) rfl rfl 1) ag (by simp only [maxLen];omega) rfl ?_ rfl ?_;(with_reducible rfl);intro A3 c3);apply ab;refine ak ?_);all_goals (refine aa 7 ?_);all_goals (refine ao 8 ?_;(refine br ?_);apply ab;refine ak ?_);all_goals (refine aI ?_))));rotate_right;(focus (((refine aL ?_);apply ab;refine ak ?_);all_goals ((refine ao 0 ?_;(refine dY fun _=>?_);apply ab;refine ak ?_);all_goals (refine ao 3 ?_;(refine aS (size:=20) (news:=(c.actsL.map ActD.cells).flatten) (q:=c.acts.n) rfl rfl rfl rfl (fun _=>At.here _) (fun w G=>hsrc w G.keep.now) ag (by simp only [maxLen];omega) rfl ?_ rfl ?_;(with_reducible rfl);intro A2 c2);apply ab;refine ak ?_);all_goals (refine ao 6 ?_;(refine aS (size:=20) (news:=a.cells) (q:=1) rfl rfl rfl rfl (fun _=>At.here _) (fun w G=>bq G (.tail _ (.head _)) rfl rfl 1) ag (by simp only [maxLen];omega) rfl ?_ rfl ?_;(with_reducible rfl);intro A3 c3);apply ab;refine ak ?_);all_goals (refine aa 7 ?_);all_goals (refine ao 8 ?_;(refine br ?_);apply ab;refine ak ?_);all_goals (refine aI ?_))))))));rotate_right;(focus (((refine aL ?_);apply ab;refine ak ?_);all_goals ((refine bS 0 5 (h:=?_) (h':=?_);(focus (((refine dY fun _=>?_);apply ab;refine ak ?_);all_goals ((refine bS 3 5 (h:=?_) (h':=?_);(focus (((refine aS (size:=20) (news:=(c.actsL.map ActD.cells).flatten) (q:=c.acts.n) rfl rfl rfl rfl (fun _=>At.here _) (fun w G=>hsrc w G.keep.now) ag (by simp only [maxLen];omega) rfl ?_ rfl ?_;(with_reducible rfl);intro A2 c2);apply ab;refine ak ?_);all_goals ((refine ao 5 ?_;(refine bH (size:=20) (vs:=[a.v]) (css:=a.cells) (hsz:=by rfl) (hcs:=by rfl) fun _=>?_);apply ab;refine ak ?_);all_goals (refine ao 6 ?_;(refine aS (size:=20) (news:=a.cells) (q:=1) rfl rfl rfl rfl (fun _=>At.there _ (At.here _)) (fun w G=>bq G (.head _) rfl rfl 1) ag (by simp only [maxLen];omega) rfl ?_ rfl ?_;(with_reducible rfl);intro A3 c3);apply ab;refine ak ?_);all_goals (refine aa 7 ?_);all_goals (refine ao 8 ?_;(refine br ?_);apply ab;refine ak ?_);all_goals (refine aI ?_))));rotate_right;(focus (((refine bH (size:=20) (vs:=[a.v]) (css:=a.cells) (hsz:=by rfl) (hcs:=by rfl) fun _=>?_);apply ab;refine ak ?_);all_goals ((refine ao 3 ?_;(refine aS (size:=20) (news:=(c.actsL.map ActD.cells).flatten) (q:=c.acts.n) rfl rfl rfl rfl (fun _=>At.there _ (At.here _)) (fun w G=>hsrc w G.keep.now) ag (by simp only [maxLen];omega) rfl ?_ rfl ?_;(with_reducible rfl);intro A2 c2);apply ab;refine ak ?_);all_goals (refine ao 6 ?_;(refine aS (size:=20) (news:=a.cells) (q:=1) rfl rfl rfl rfl (fun _=>At.there _ (At.here _)) (fun w G=>bq G (.head _) rfl rfl 1) ag (by simp only [maxLen];omega) rfl ?_ rfl ?_;(with_reducible rfl);intro A3 c3);apply ab;refine ak ?_);all_goals (refine aa 7 ?_);all_goals (refine ao 8 ?_;(refine br ?_);apply ab;refine ak ?_);all_goals (refine aI ?_))))))));rotate_right;(focus (((refine bH (size:=20) (vs:=[a.v]) (css:=a.cells) (hsz:=by rfl) (hcs:=by rfl) fun _=>?_);apply ab;refine ak ?_);all_goals ((refine ao 0 ?_;(refine dY fun _=>?_);apply ab;refine ak ?_);all_goals (refine ao 3 ?_;(refine aS (size:=20) (news:=(c.actsL.map ActD.cells).flatten) (q:=c.acts.n) rfl rfl rfl rfl (fun _=>At.here _) (fun w G=>hsrc w G.keep.now) ag (by simp only [maxLen];omega) rfl ?_ rfl ?_;(with_reducible rfl);intro A2 c2);apply ab;refine ak ?_);all_goals (refine ao 6 ?_;(refine aS (size:=20) (news:=a.cells) (q:=1) rfl rfl rfl rfl (fun _=>At.here _) (fun w G=>bq G (.tail _ (.head _)) rfl rfl 1) ag (by simp only [maxLen];omega) rfl ?_ rfl ?_;(with_reducible rfl);intro A3 c3);apply ab;refine ak ?_);all_goals (refine aa 7 ?_);all_goals (refine ao 8 ?_;(refine br ?_);apply ab;refine ak ?_);all_goals (refine aI ?_)))))))))
   all_goals exact ⟨(A3,c3),aF ⟨rfl,rfl,rfl,trivial⟩ (by first|exact .cons _ (aQ _)|exact .cons_cons _ (.cons _ (aQ _))) fun w h=>h⟩
 obtain ⟨A3,c3⟩:=i
 simp only
 repeat' (first|apply aj|apply ai|refine aG ?_|fail)
 refine bN (hc:=iz a hr hs) (hX:=fun w h=>h.1.2) fun v1 X1 h1=>?_
 obtain ⟨x',rfl,hdig,hr',hat⟩:=h1
 refine aC (hc:=fE x' hr') (hX:=fun w h=>⟨hat w h.2,h.1.2⟩) ?_
 rw [hdig]
 repeat' (first|apply ab|apply aj|apply ai|refine aM ?_|refine aG ?_|refine br ?_|refine aK ?_|apply aA|fail)
 refine aq (bT rfl rfl bF (by rfl)) ⟨⟨A3,0+c.acts.n+1,c3⟩,rfl,fun w h=>?_⟩
 have hrow:=h.2 (orow 46 20 (.slice A3 (0+c.acts.n+1) c3) (0+c.acts.n+1) ([]++(c.actsL.map ActD.cells).flatten++a.cells)) bF
 refine eg (e:=46) (l:=c.actsL++[a]) (by rw [show ((c.actsL++[a]).map ActD.cells).flatten=[]++(c.actsL.map ActD.cells).flatten++a.cells from by simp];exact hrow) (by rw [List.length_append,List.length_singleton];show 0+c.acts.n+1=_;omega) fun x hx=>?_
 rcases List.mem_append.1 hx with hx|hx
 · exact h.1.1.1.1.2 x hx
 · rw [List.mem_singleton.1 hx]
   exact h.1.1.1.2
theorem shr1 (x:Nat):shrV .u64 (x:Int) 1=((x/2:Nat):Int):=by
 show (x:Int).fdiv (2 ^ (min (1:Int).toNat 64))=_
 rw [show (2:Int) ^ (min (1:Int).toNat 64)=((2:Nat):Int) from rfl,←Int.ofNat_fdiv]
section
variable {N:Nat} {av bor:List Nat} {w0:World} {ops:Array Oper} {rest:List Oper} {k:St→Prop} {E:Env} {loc:List Res} {X:World→Prop} {d:Option Tmp} {ty:TypeId} {pos:String} {af:Array Edge} {g:Option (Nat×Bool)} {bb want:Bool} {n:Nat} {t t2:TypeId}
theorem j8 {p:Nat} {x y:Operand} (h:Sw Tryz.prog N av bor w0 ops rest ⟨(n,.int .u64 ((p/2:Nat):Int))::E,loc,X⟩ k) (hx:ev E x=some (.int .u64 (p:Nat)):=by rfl) (hy:ev E y=some (.int .u64 1):=by rfl) (hg:gdB ops E g=some (bb,want):=by rfl) (hbb:bb=want:=by exact aR) (hd:Nat.blt n N=true:=by rfl) :
  Sw Tryz.prog N av bor w0 ops (⟨some n,.binOp .shr t x y t2,ty,pos,af,g⟩::rest) ⟨E,loc,X⟩ k:=eI hx hy (by decide) hg hbb hd (by rw [shr1];exact h)
theorem zp {p:Nat} (h:p<9223372036854775808):IntKind.u64.wrap (p:Int)=(p:Int):=by
 simp [IntKind.wrap,IntKind.signed,IntKind.bits]
 omega
theorem nC [h1:TyInt Tryz.prog t .i64] [h2:TyInt Tryz.prog t2 .u64] {p:Nat} {x:Operand} (h:Sw Tryz.prog N av bor w0 ops rest ⟨(n,.int .u64 (p:Nat))::E,loc,X⟩ k) (hx:ev E x=some (.int .i64 (p:Nat)):=by rfl) (hq:p<9223372036854775808) (hg:gdB ops E g=some (bb,want):=by rfl) (hbb:bb=want:=by exact aR) (hd:Nat.blt n N=true:=by rfl) :
  Sw Tryz.prog N av bor w0 ops (⟨some n,.convert t t2 x,ty,pos,af,g⟩::rest) ⟨E,loc,X⟩ k:=dH hx (zp hq) hg hbb hd h
theorem nD [h1:TyInt Tryz.prog t .u64] [h2:TyInt Tryz.prog t2 .i64] {p:Nat} {x:Operand} (h:Sw Tryz.prog N av bor w0 ops rest ⟨(n,.int .i64 (p:Nat))::E,loc,X⟩ k) (hx:ev E x=some (.int .u64 (p:Nat)):=by rfl) (hq:p<9223372036854775808) (hg:gdB ops E g=some (bb,want):=by rfl) (hbb:bb=want:=by exact aR) (hd:Nat.blt n N=true:=by rfl) :
  Sw Tryz.prog N av bor w0 ops (⟨some n,.convert t t2 x,ty,pos,af,g⟩::rest) ⟨E,loc,X⟩ k:=dH hx (IntWalk.i64_in _ ag) hg hbb hd h
theorem zW {x y:Operand} {k':IntKind} {a b:Int} [hI:TyInt Tryz.prog t k'] (h:Sw Tryz.prog N av bor w0 ops rest ⟨(n,.bool false)::E,loc,X⟩ k) (hx:ev E x=some (.int k' a):=by rfl) (hy:ev E y=some (.int k' b):=by rfl) (hab:¬ a<b) (hg:gdB ops E g=some (bb,want):=by rfl) (hbb:bb=want:=by exact aR) (hd:Nat.blt n N=true:=by rfl) :
  Sw Tryz.prog N av bor w0 ops (⟨some n,.binOp .lss t x y t2,ty,pos,af,g⟩::rest) ⟨E,loc,X⟩ k:=bu (hx:=hx) (hy:=hy) (hg:=hg) (hbb:=hbb) (hd:=hd) (h:=by
   have e:∀ u,u=Value.bool false→Sw Tryz.prog N av bor w0 ops rest ⟨(n,u)::E,loc,X⟩ k:=fun u hu=>hu▸h
   exact e _ (by simp [hab]))
theorem r4 {x y:Operand} {k':IntKind} {a b:Int} [hI:TyInt Tryz.prog t k'] (h:Sw Tryz.prog N av bor w0 ops rest ⟨(n,.bool true)::E,loc,X⟩ k) (hx:ev E x=some (.int k' a):=by rfl) (hy:ev E y=some (.int k' b):=by rfl) (hab:a<b:=by (first|decide|omega)) (hg:gdB ops E g=some (bb,want):=by rfl) (hbb:bb=want:=by exact aR) (hd:Nat.blt n N=true:=by rfl) :
  Sw Tryz.prog N av bor w0 ops (⟨some n,.binOp .lss t x y t2,ty,pos,af,g⟩::rest) ⟨E,loc,X⟩ k:=bu (hx:=hx) (hy:=hy) (hg:=hg) (hbb:=hbb) (hd:=hd) (h:=by
   have e:∀ u,u=Value.bool true→Sw Tryz.prog N av bor w0 ops rest ⟨(n,u)::E,loc,X⟩ k:=fun u hu=>hu▸h
   exact e _ (by simp [hab]))
theorem eB {x:Operand} {xs:List Operand} {ats:Array TypeId} {f:FuncId} {args:List Value} {s:SlV} {P Q:List PostD} (h:∀ Q':List PostD,Q'.Perm P→Sw Tryz.prog N av bor w0 ops rest ⟨putE E d (.tuple #[]),[postR s Q'],X⟩ k) (hQ:Q.Perm P) (hx:ev E x=some (.func (.func f) #[] #[]):=by rfl) (ha:evs E xs=some args:=by rfl) (hg:gdB ops E g=some (bb,want):=by rfl) (hb:bb=want:=by exact aR) (hd:Sy.inB N d=true:=by rfl) (hf:FnBody Tryz.prog f:=by infer_instance) (hc:∀ Q:List PostD,Q.Perm P→Ct Tryz.prog f args.toArray [postR s Q] (fun _=>True) (PermAt s Q)) :
  Sw Tryz.prog N av bor w0 ops (⟨d,.call ⟨.value x,xs.toArray,ats⟩,ty,pos,af,g⟩::rest) ⟨E,[postR s Q],X⟩ k:=fw hx ha hg hb hd hf (hc Q hQ) fun Q' h1=>h Q' (h1.trans hQ)
end
structure BinI (lo hi:Nat) where
 i:Nat
 j:Nat
 h1:lo≤i
 h2:i≤j
 h3:j≤hi
structure UpI (P:List PostD) (a:Nat) where
 k:Nat
 h1:a≤k
 Q:List PostD
 hQ:Q.Perm P
structure DownI (P:List PostD) (i m:Nat) where
 k:Nat
 h1:i≤k
 h2:k≤m
 Q:List PostD
 hQ:Q.Perm P
structure MerI (a m b mid:Nat) where
 i:Nat
 j:Nat
 h1:i≤j
 h2:mid<m→mid+m≤i+b∧j≤mid
 h3:m≤mid→a≤i∧j≤m
set_option maxRecDepth 20000 in
set_option maxHeartbeats 8000000 in
theorem gk:∀ (d:Nat) (s:SlV) (P:List PostD) (a m b:Nat),b-a≤d→s.n=P.length→s.n≤1000000→a<m→m<b→b≤s.n →
  Ct Tryz.prog 270 #[s.v,.int .i64 (a:Nat),.int .i64 (m:Nat),.int .i64 (b:Nat),cmpF] [postR s P] (fun _=>True) (PermAt s P)
 | 0,s,P,a,m,b,hd,hs,hm,ha,hb,hbs=>absurd hd ag
 | d+1,s,P,a,m,b,hd,hs,hm,ha,hb,hbs=>by
  have ih:=gk d
  have hP:P.Perm P:=List.Perm.refl P
  refine cB (args:=[_,_,_,_,_]) _ Tryz.func270 rfl Tryz.ntmps270 rfl fun av bor w0=>?_
  refine de (r:=postR s P) aU (p:=0<s.n→s.p.isSome=true) (fun w h hn=>cR h hn) fun hp=>?_
  have hp':=hp ag
  by_cases hA:m-a=1
  · repeat' (first|refine dW (hq:=by omega) ?_|refine bM (hab:=by omega) ?_|apply ab|apply aj|apply ai|refine ae ?_|refine ac ?_|refine aE ?_|apply aw|fail)
    refine be (ι:=BinI m b) (fun r=>⟨[(0,s.v),(1,.int .i64 (a:Nat)),(4,cmpF),(10,.int .i64 (r.i:Nat)),(11,.int .i64 (r.j:Nat))],[postR s P],fun _=>True⟩) (fun r=>r.j-r.i) ⟨m,b,by omega,by omega,by omega⟩ (aF ⟨rfl,rfl,rfl,rfl,rfl,trivial⟩ (aQ _) fun _ h=>h) fun r=>?_
    obtain ⟨i,j,h1,h2,h3⟩:=r
    simp only
    repeat' (first|refine dF (hq:=by omega) ?_|refine nC (hq:=by omega) ?_|refine j8 ?_|refine nD (hq:=by omega) ?_|apply ab|apply aj|apply ai|refine ae ?_|refine ac ?_|refine bu ?_|apply ay|apply aw|apply aV|(refine aO (ht:=?_) (hf:=?_);all_goals (intro hx_;first|have:=aY hx_|have:=aZ hx_)))
    · have hlt:i<j:=by omega
      obtain ⟨x,hx⟩:∃ x,P[(i+j)/2]?=some x:=⟨_,List.getElem?_eq_getElem ag⟩
      obtain ⟨y,hy⟩:∃ y,P[a]?=some y:=⟨_,List.getElem?_eq_getElem ag⟩
      have hcm:=ou x y
      generalize cmpB x.id y.id=z at *
      unfold cmpF
      (refine bo [] (fun _=>True) ar ?_)
      all_goals refine aa 0 ?_
      all_goals refine aa 1 ?_
      all_goals refine aa 2 ?_
      all_goals (refine aa 3 (hy:=by (apply bp (q:=((i+j)/2)*11);rfl;rfl;omega;omega;assumption;(rfl))) ?_)
      all_goals refine aa 5 ?_
      all_goals refine aa 6 ?_
      all_goals (refine aa 7 (hy:=by (apply bp (q:=(a)*11);rfl;rfl;omega;omega;assumption;(rfl))) ?_)
      all_goals (refine bS 4 8 (h:=?_) (h':=?_);(focus (((refine ax (cX (i:=(i+j)/2) (P:=P) rfl aU ag hx) rfl rfl rfl ?_);apply ab;refine ak ?_);all_goals ((refine ao 8 ?_;(refine ax (cX (i:=a) (P:=P) rfl aU ag hy) rfl rfl rfl ?_);apply ab;refine ak ?_);all_goals (refine ao 9 ?_;(refine aC (hc:=hcm) (hX:=fun _ _=>trivial) ?_);apply ab;refine ak ?_);all_goals (refine aa 10 ?_);all_goals (refine aI ?_))));rotate_right;(focus (((refine ax (cX (i:=a) (P:=P) rfl aU ag hy) rfl rfl rfl ?_);apply ab;refine ak ?_);all_goals ((refine ao 4 ?_;(refine ax (cX (i:=(i+j)/2) (P:=P) rfl aU ag hx) rfl rfl rfl ?_);apply ab;refine ak ?_);all_goals (refine ao 9 ?_;(refine aC (hc:=hcm) (hX:=fun _ _=>trivial) ?_);apply ab;refine ak ?_);all_goals (refine aa 10 ?_);all_goals (refine aI ?_)))))
      all_goals
       repeat' (first|refine dF (q:=1) (hq:=by omega) ?_|apply ab|apply ai|refine ae ?_|refine ac ?_|(refine aO (ht:=?_) (hf:=?_);all_goals (intro hx_;first|have:=aY hx_|have:=aZ hx_)))
       · exact ⟨(⟨(i+j)/2+1,j,by omega,by omega,h3⟩:BinI m b),(by show j-((i+j)/2+1)<j-i;omega),aF ⟨rfl,rfl,rfl,rfl,rfl,trivial⟩ (aQ _) fun _ h=>h⟩
       · exact ⟨(⟨i,(i+j)/2,h1,by omega,by omega⟩:BinI m b),(by show (i+j)/2-i<j-i;omega),aF ⟨rfl,rfl,rfl,rfl,rfl,trivial⟩ (aQ _) fun _ h=>h⟩
    · refine be (ι:=UpI P a) (fun r=>⟨[(0,s.v),(10,.int .i64 (i:Nat)),(13,.int .i64 (r.k:Nat))],[postR s r.Q],fun _=>True⟩) (fun r=>i-r.k) ⟨a,Nat.le_refl _,P,hP⟩ (aF ⟨rfl,rfl,rfl,trivial⟩ (aQ _) fun _ h=>h) fun r=>?_
      obtain ⟨k,h4,Q,hQ⟩:=r
      simp only
      have hl:=hQ.length_eq
      repeat' (first|refine dW (q:=1) (hq:=by omega) ?_|apply ab|apply aj|apply ai|refine ae ?_|refine bu ?_|apply ay|apply aw|apply aA|apply aV|(refine aO (ht:=?_) (hf:=?_);all_goals (intro hx_;first|have:=aY hx_|have:=aZ hx_)))
      · have hlt:k+1<i:=by omega
        obtain ⟨x,hx⟩:∃ x,Q[k]?=some x:=⟨_,List.getElem?_eq_getElem ag⟩
        obtain ⟨y,hy⟩:∃ y,Q[k+1]?=some y:=⟨_,List.getElem?_eq_getElem ag⟩
        (refine bo [] (fun _=>True) ar ?_)
        all_goals refine aa 0 ?_
        all_goals refine aa 1 ?_
        all_goals refine aa 2 ?_
        all_goals refine aa 3 ?_
        all_goals refine aa 4 ?_
        all_goals refine aa 5 ?_
        all_goals refine aa 6 ?_
        all_goals refine aa 7 ?_
        all_goals (refine aa 8 (hy:=by (apply bp (q:=(k+1)*11);rfl;rfl;omega;omega;assumption;(rfl))) ?_)
        all_goals refine aa 10 ?_
        all_goals refine aa 11 ?_
        all_goals (refine aa 12 (hy:=by (apply bp (q:=(k)*11);rfl;rfl;omega;omega;assumption;(rfl))) ?_)
        all_goals (refine bS 9 13 (h:=?_) (h':=?_);(focus (((refine ax (cX (i:=k+1) (P:=Q) rfl aU ag hy) rfl rfl rfl ?_);apply ab;refine ak ?_);all_goals ((refine ao 13 ?_;(refine ax (cX (i:=k) (P:=Q) rfl aU ag hx) rfl rfl rfl ?_);apply ab;refine ak ?_);all_goals (refine aa 14 (hy:=by (apply bp (q:=(k)*11);rfl;rfl;omega;omega;assumption;(rfl))) ?_);all_goals (refine ao 15 ?_;(refine dT (i:=k) (p:=y) rfl rfl ag ag (At.here _) rfl aR rfl ?_);apply ab;refine ak ?_);all_goals (refine aa 16 (hy:=by (apply bp (q:=(k+1)*11);rfl;rfl;omega;omega;assumption;(rfl))) ?_);all_goals (refine ao 17 ?_;(refine dT (i:=k+1) (p:=x) rfl rfl ag (by (simp only [List.length_set];omega)) (At.here _) rfl aR rfl ?_);apply ab;refine ak ?_);all_goals (refine aI ?_))));rotate_right;(focus (((refine ax (cX (i:=k) (P:=Q) rfl aU ag hx) rfl rfl rfl ?_);apply ab;refine ak ?_);all_goals ((refine ao 9 ?_;(refine ax (cX (i:=k+1) (P:=Q) rfl aU ag hy) rfl rfl rfl ?_);apply ab;refine ak ?_);all_goals (refine aa 14 (hy:=by (apply bp (q:=(k)*11);rfl;rfl;omega;omega;assumption;(rfl))) ?_);all_goals (refine ao 15 ?_;(refine dT (i:=k) (p:=y) rfl rfl ag ag (At.here _) rfl aR rfl ?_);apply ab;refine ak ?_);all_goals (refine aa 16 (hy:=by (apply bp (q:=(k+1)*11);rfl;rfl;omega;omega;assumption;(rfl))) ?_);all_goals (refine ao 17 ?_;(refine dT (i:=k+1) (p:=x) rfl rfl ag (by (simp only [List.length_set];omega)) (At.here _) rfl aR rfl ?_);apply ab;refine ak ?_);all_goals (refine aI ?_)))))
        all_goals
         repeat' (first|refine dF (q:=1) (hq:=by omega) ?_|apply ab|apply ai|refine ae ?_|refine ac ?_|fail)
         exact ⟨(⟨k+1,by omega,(Q.set k y).set (k+1) x,(gC hx hy).trans hQ⟩:UpI P a),(by show i-(k+1)<i-k;omega),aF ⟨rfl,rfl,rfl,trivial⟩ (aQ _) fun _ h=>h⟩
      · exact aq (bP rfl) ⟨rfl,Q,hQ,rfl⟩
  · by_cases hB:b-m=1
    · repeat' (first|refine dW (hq:=by omega) ?_|refine bM (hab:=by omega) ?_|refine bQ (hab:=by omega) ?_|apply ab|apply aj|apply ai|refine ae ?_|refine ac ?_|refine aE ?_|refine aD ?_|apply ay|apply aw|fail)
      refine be (ι:=BinI a m) (fun r=>⟨[(0,s.v),(2,.int .i64 (m:Nat)),(4,cmpF),(14,.int .i64 (r.i:Nat)),(15,.int .i64 (r.j:Nat))],[postR s P],fun _=>True⟩) (fun r=>r.j-r.i) ⟨a,m,by omega,by omega,by omega⟩ (aF ⟨rfl,rfl,rfl,rfl,rfl,trivial⟩ (aQ _) fun _ h=>h) fun r=>?_
      obtain ⟨i,j,h1,h2,h3⟩:=r
      simp only
      repeat' (first|refine dF (hq:=by omega) ?_|refine nC (hq:=by omega) ?_|refine j8 ?_|refine nD (hq:=by omega) ?_|apply ab|apply aj|apply ai|refine ae ?_|refine ac ?_|refine bu ?_|apply ay|apply aw|apply aV|(refine aO (ht:=?_) (hf:=?_);all_goals (intro hx_;first|have:=aY hx_|have:=aZ hx_)))
      · have hlt:i<j:=by omega
        obtain ⟨x,hx⟩:∃ x,P[m]?=some x:=⟨_,List.getElem?_eq_getElem ag⟩
        obtain ⟨y,hy⟩:∃ y,P[(i+j)/2]?=some y:=⟨_,List.getElem?_eq_getElem ag⟩
        have hcm:=ou x y
        generalize cmpB x.id y.id=z at *
        unfold cmpF
        (refine bo [] (fun _=>True) ar ?_)
        all_goals refine aa 0 ?_
        all_goals refine aa 1 ?_
        all_goals refine aa 2 ?_
        all_goals (refine aa 3 (hy:=by (apply bp (q:=(m)*11);rfl;rfl;omega;omega;assumption;(rfl))) ?_)
        all_goals refine aa 5 ?_
        all_goals refine aa 6 ?_
        all_goals (refine aa 7 (hy:=by (apply bp (q:=((i+j)/2)*11);rfl;rfl;omega;omega;assumption;(rfl))) ?_)
        all_goals (refine bS 4 8 (h:=?_) (h':=?_);(focus (((refine ax (cX (i:=m) (P:=P) rfl aU ag hx) rfl rfl rfl ?_);apply ab;refine ak ?_);all_goals ((refine ao 8 ?_;(refine ax (cX (i:=(i+j)/2) (P:=P) rfl aU ag hy) rfl rfl rfl ?_);apply ab;refine ak ?_);all_goals (refine ao 9 ?_;(refine aC (hc:=hcm) (hX:=fun _ _=>trivial) ?_);apply ab;refine ak ?_);all_goals (refine aa 10 ?_);all_goals (refine aa 11 ?_);all_goals (refine aI ?_))));rotate_right;(focus (((refine ax (cX (i:=(i+j)/2) (P:=P) rfl aU ag hy) rfl rfl rfl ?_);apply ab;refine ak ?_);all_goals ((refine ao 4 ?_;(refine ax (cX (i:=m) (P:=P) rfl aU ag hx) rfl rfl rfl ?_);apply ab;refine ak ?_);all_goals (refine ao 9 ?_;(refine aC (hc:=hcm) (hX:=fun _ _=>trivial) ?_);apply ab;refine ak ?_);all_goals (refine aa 10 ?_);all_goals (refine aa 11 ?_);all_goals (refine aI ?_)))))
        all_goals
         repeat' (first|refine dF (q:=1) (hq:=by omega) ?_|apply ab|apply ai|refine ae ?_|refine ac ?_|(refine aO (ht:=?_) (hf:=?_);all_goals (intro hx_;skip)))
         · exact ⟨(⟨(i+j)/2+1,j,by omega,by omega,h3⟩:BinI a m),(by show j-((i+j)/2+1)<j-i;omega),aF ⟨rfl,rfl,rfl,rfl,rfl,trivial⟩ (aQ _) fun _ h=>h⟩
         · exact ⟨(⟨i,(i+j)/2,h1,by omega,by omega⟩:BinI a m),(by show (i+j)/2-i<j-i;omega),aF ⟨rfl,rfl,rfl,rfl,rfl,trivial⟩ (aQ _) fun _ h=>h⟩
      · refine be (ι:=DownI P i m) (fun r=>⟨[(0,s.v),(14,.int .i64 (i:Nat)),(17,.int .i64 (r.k:Nat))],[postR s r.Q],fun _=>True⟩) (fun r=>r.k) ⟨m,by omega,Nat.le_refl _,P,hP⟩ (aF ⟨rfl,rfl,rfl,trivial⟩ (aQ _) fun _ h=>h) fun r=>?_
        obtain ⟨k,h4,h5,Q,hQ⟩:=r
        simp only
        have hl:=hQ.length_eq
        repeat' (first|apply ab|apply aj|apply ai|refine ae ?_|refine cP ?_|apply ay|apply aw|apply aA|apply aV|(refine aO (ht:=?_) (hf:=?_);all_goals (intro hx_;first|have:=aY hx_|have:=aZ hx_)))
        · have hlt:i<k:=by omega
          obtain ⟨x,hx⟩:∃ x,Q[k]?=some x:=⟨_,List.getElem?_eq_getElem ag⟩
          obtain ⟨y,hy⟩:∃ y,Q[k-1]?=some y:=⟨_,List.getElem?_eq_getElem ag⟩
          (refine bo [] (fun _=>True) ar ?_)
          all_goals refine aa 0 ?_
          all_goals refine aa 1 ?_
          all_goals refine aa 2 ?_
          all_goals refine aa 3 ?_
          all_goals refine aa 4 ?_
          all_goals refine aa 5 ?_
          all_goals refine aa 6 ?_
          all_goals refine aa 7 ?_
          all_goals (refine aa 8 (hy:=by (apply bp (q:=(k-1)*11);rfl;rfl;omega;omega;assumption;(omega))) ?_)
          all_goals refine aa 10 ?_
          all_goals refine aa 11 ?_
          all_goals (refine aa 12 (hy:=by (apply bp (q:=(k)*11);rfl;rfl;omega;omega;assumption;(rfl))) ?_)
          all_goals (refine bS 9 13 (h:=?_) (h':=?_);(focus (((refine ax (cX (i:=k-1) (P:=Q) rfl aU ag hy) rfl rfl rfl ?_);apply ab;refine ak ?_);all_goals ((refine ao 13 ?_;(refine ax (cX (i:=k) (P:=Q) rfl aU ag hx) rfl rfl rfl ?_);apply ab;refine ak ?_);all_goals (refine aa 14 (hy:=by (apply bp (q:=(k)*11);rfl;rfl;omega;omega;assumption;(rfl))) ?_);all_goals (refine ao 15 ?_;(refine dT (i:=k) (p:=y) rfl rfl ag ag (At.here _) rfl aR rfl ?_);apply ab;refine ak ?_);all_goals (refine aa 16 (hy:=by (apply bp (q:=(k-1)*11);rfl;rfl;omega;omega;assumption;(omega))) ?_);all_goals (refine ao 17 ?_;(refine dT (i:=k-1) (p:=x) rfl rfl ag (by (simp only [List.length_set];omega)) (At.here _) rfl aR rfl ?_);apply ab;refine ak ?_);all_goals (refine aI ?_))));rotate_right;(focus (((refine ax (cX (i:=k) (P:=Q) rfl aU ag hx) rfl rfl rfl ?_);apply ab;refine ak ?_);all_goals ((refine ao 9 ?_;(refine ax (cX (i:=k-1) (P:=Q) rfl aU ag hy) rfl rfl rfl ?_);apply ab;refine ak ?_);all_goals (refine aa 14 (hy:=by (apply bp (q:=(k)*11);rfl;rfl;omega;omega;assumption;(rfl))) ?_);all_goals (refine ao 15 ?_;(refine dT (i:=k) (p:=y) rfl rfl ag ag (At.here _) rfl aR rfl ?_);apply ab;refine ak ?_);all_goals (refine aa 16 (hy:=by (apply bp (q:=(k-1)*11);rfl;rfl;omega;omega;assumption;(omega))) ?_);all_goals (refine ao 17 ?_;(refine dT (i:=k-1) (p:=x) rfl rfl ag (by (simp only [List.length_set];omega)) (At.here _) rfl aR rfl ?_);apply ab;refine ak ?_);all_goals (refine aI ?_)))))
          all_goals
           repeat' (first|refine dW (q:=1) (hq:=by omega) ?_|apply ab|apply ai|refine ae ?_|refine ac ?_|fail)
           exact ⟨(⟨k-1,by omega,by omega,(Q.set k y).set (k-1) x,(gC hx hy).trans hQ⟩:DownI P i m),(by show k-1<k;omega),aF ⟨rfl,rfl,rfl,trivial⟩ (aQ _) fun _ h=>h⟩
        · exact aq (bP rfl) ⟨rfl,Q,hQ,rfl⟩
    · obtain ⟨mid,hmid⟩:∃ mid,mid=(a+b)/2:=⟨_,rfl⟩
      have hm1:a<mid:=by omega
      have hm2:mid<b:=by omega
      have hm3:2*mid≤a+b:=by omega
      have hm4:a+b≤2*mid+1:=by omega
      by_cases hmm:mid<m
      all_goals
       repeat' (first|refine bQ (hab:=by omega) ?_|refine zX (hab:=by omega) ?_|refine nH (hab:=by omega) ?_|refine dW (q:=1) (hq:=by omega) ?_|refine dW (hq:=by omega) ?_|refine dF (hq:=by omega) ?_|refine nC (hq:=by omega) ?_|refine j8 ?_|refine nD (hq:=by omega) ?_|apply ab|apply aj|apply ai|refine ae ?_|refine ac ?_|refine aE ?_|refine aD ?_|apply ay|apply aw|fail)
       rw [←hmid]
       first
        | refine be (ι:=MerI a m b mid) (fun r=>⟨[(0,s.v),(1,.int .i64 (a:Nat)),(2,.int .i64 (m:Nat)),(3,.int .i64 (b:Nat)),(4,cmpF),(18,.int .i64 (mid:Nat)),(19,.int .i64 ((mid+m:Nat):Int)),(20,.int .i64 (r.i:Nat)),(21,.int .i64 (r.j:Nat)),(22,.int .i64 ((mid+m-1:Nat):Int))],[postR s P],fun _=>True⟩) (fun r=>r.j-r.i) ⟨mid+m-b,mid,by omega,by omega,by omega⟩ (aF ⟨rfl,rfl,rfl,rfl,rfl,rfl,rfl,rfl,rfl,rfl,trivial⟩ (aQ _) fun _ h=>h) fun r=>?_
        | refine be (ι:=MerI a m b mid) (fun r=>⟨[(0,s.v),(1,.int .i64 (a:Nat)),(2,.int .i64 (m:Nat)),(3,.int .i64 (b:Nat)),(4,cmpF),(18,.int .i64 (mid:Nat)),(19,.int .i64 ((mid+m:Nat):Int)),(20,.int .i64 (r.i:Nat)),(21,.int .i64 (r.j:Nat)),(22,.int .i64 ((mid+m-1:Nat):Int))],[postR s P],fun _=>True⟩) (fun r=>r.j-r.i) ⟨a,m,by omega,by omega,by omega⟩ (aF ⟨rfl,rfl,rfl,rfl,rfl,rfl,rfl,rfl,rfl,rfl,trivial⟩ (aQ _) fun _ h=>h) fun r=>?_
       obtain ⟨i,j,h1,h2,h3⟩:=r
       simp only
       have hk1:a≤i:=by omega
       have hk2:j≤m:=by omega
       have hk3:i≤mid+m:=by omega
       by_cases hij:i<j
       · have hk4:(i+j)/2<j:=by omega
         have hk5:i≤(i+j)/2:=by omega
         have hk6:(i+j)/2≤mid+m-1:=by omega
         have hk7:mid+m-1-(i+j)/2<b:=by omega
         repeat' (first|refine r4 (hab:=by omega) ?_|refine dF (hq:=by omega) ?_|refine nC (hq:=by omega) ?_|refine j8 ?_|refine nD (hq:=by omega) ?_|apply ab|apply aj|apply ai|refine ae ?_|refine ac ?_|refine aE ?_|apply ay|apply aw|fail)
         obtain ⟨x,hx⟩:∃ x,P[mid+m-1-(i+j)/2]?=some x:=⟨_,List.getElem?_eq_getElem ag⟩
         obtain ⟨y,hy⟩:∃ y,P[(i+j)/2]?=some y:=⟨_,List.getElem?_eq_getElem ag⟩
         have hcm:=ou x y
         generalize cmpB x.id y.id=z at *
         unfold cmpF
         (refine bo [] (fun _=>True) ar ?_)
         all_goals refine aa 0 ?_
         all_goals refine aa 1 ?_
         all_goals refine aa 2 ?_
         all_goals refine aa 3 ?_
         all_goals refine aa 4 ?_
         all_goals (refine aa 5 (hy:=by (apply bp (q:=(mid+m-1-(i+j)/2)*11);rfl;rfl;omega;omega;assumption;(omega))) ?_)
         all_goals refine aa 7 ?_
         all_goals refine aa 8 ?_
         all_goals (refine aa 9 (hy:=by (apply bp (q:=((i+j)/2)*11);rfl;rfl;omega;omega;assumption;(rfl))) ?_)
         all_goals (refine bS 6 10 (h:=?_) (h':=?_);(focus (((refine ax (cX (i:=mid+m-1-(i+j)/2) (P:=P) rfl aU ag hx) rfl rfl rfl ?_);apply ab;refine ak ?_);all_goals ((refine ao 10 ?_;(refine ax (cX (i:=(i+j)/2) (P:=P) rfl aU ag hy) rfl rfl rfl ?_);apply ab;refine ak ?_);all_goals (refine ao 11 ?_;(refine aC (hc:=hcm) (hX:=fun _ _=>trivial) ?_);apply ab;refine ak ?_);all_goals (refine aa 12 ?_);all_goals (refine aa 13 ?_);all_goals (refine aI ?_))));rotate_right;(focus (((refine ax (cX (i:=(i+j)/2) (P:=P) rfl aU ag hy) rfl rfl rfl ?_);apply ab;refine ak ?_);all_goals ((refine ao 6 ?_;(refine ax (cX (i:=mid+m-1-(i+j)/2) (P:=P) rfl aU ag hx) rfl rfl rfl ?_);apply ab;refine ak ?_);all_goals (refine ao 11 ?_;(refine aC (hc:=hcm) (hX:=fun _ _=>trivial) ?_);apply ab;refine ak ?_);all_goals (refine aa 12 ?_);all_goals (refine aa 13 ?_);all_goals (refine aI ?_)))))
         all_goals
          repeat' (first|refine dF (q:=1) (hq:=by omega) ?_|apply ab|apply ai|refine ae ?_|refine ac ?_|(refine aO (ht:=?_) (hf:=?_);all_goals (intro hx_;skip)))
          · exact ⟨(⟨(i+j)/2+1,j,by omega,by omega,by omega⟩:MerI a m b mid),(by show j-((i+j)/2+1)<j-i;omega),aF ⟨rfl,rfl,rfl,rfl,rfl,rfl,rfl,rfl,rfl,rfl,trivial⟩ (aQ _) fun _ h=>h⟩
          · exact ⟨(⟨i,(i+j)/2,by omega,by omega,by omega⟩:MerI a m b mid),(by show (i+j)/2-i<j-i;omega),aF ⟨rfl,rfl,rfl,rfl,rfl,rfl,rfl,rfl,rfl,rfl,trivial⟩ (aQ _) fun _ h=>h⟩
       · have hk8:mid+m-i≤b:=by omega
         have hnl:¬ (i:Int)<(j:Int):=by omega
         repeat' (first|refine zW (hab:=by first|exact hnl|omega) ?_|refine r4 (hab:=by omega) ?_|refine dW (hq:=by omega) ?_|apply ab|apply aj|apply ai|refine ae ?_|refine ac ?_|refine aJ ?_|refine aH ?_|refine bu ?_|refine aW ?_|refine aE ?_|refine aD ?_|apply ay|apply aV|(refine eB (P:=P) (hQ:=by assumption) (hc:=fun Q hQ=>uS s Q i m (mid+m-i) cmpF (hs.trans hQ.length_eq.symm) hm ag ag ag) fun Q2 hQ2=>?_)|(refine eB (P:=P) (hQ:=by assumption) (hc:=fun Q hQ=>ih s Q a i mid ag (hs.trans hQ.length_eq.symm) hm ag ag ag) fun Q2 hQ2=>?_)|(refine eB (P:=P) (hQ:=by assumption) (hc:=fun Q hQ=>ih s Q mid (mid+m-i) b ag (hs.trans hQ.length_eq.symm) hm ag ag ag) fun Q2 hQ2=>?_)|((fail_if_success (refine bA ?_));refine bj (ht:=?_) (hf:=?_);all_goals (intro hx_;first|have:=aY hx_|have:=aZ hx_))|(refine aO (ht:=?_) (hf:=?_);all_goals (intro hx_;first|have:=aY hx_|have:=aZ hx_)))
         all_goals
          refine cb (bP rfl) ⟨rfl,_,?_,rfl⟩
          assumption
end Go.Proofs.YtfnjklhjngphmaaGreatDoor
namespace Go.Proofs.YtfnjklhjngphmaaGreatDoor
open Go Go.Proofs Sy
section
variable {N:Nat} {av bor:List Nat} {w0:World} {ops:Array Oper} {rest:List Oper} {k:St→Prop} {E:Env} {loc:List Res} {X:World→Prop} {ty:TypeId} {pos:String} {af:Array Edge} {g:Option (Nat×Bool)} {bb want:Bool} {n:Nat} {t t2:TypeId} {x y:Operand}
theorem nG [hI:TyInt Tryz.prog t .i64] {p q:Nat} (h:Sw Tryz.prog N av bor w0 ops rest ⟨(n,.int .i64 ((p*q:Nat):Int))::E,loc,X⟩ k) (hx:ev E x=some (.int .i64 (p:Nat)):=by rfl) (hy:ev E y=some (.int .i64 (q:Nat)):=by rfl) (hq:p*q<9223372036854775808) (hg:gdB ops E g=some (bb,want):=by rfl) (hbb:bb=want:=by exact aR) (hd:Nat.blt n N=true:=by rfl) :
  Sw Tryz.prog N av bor w0 ops (⟨some n,.binOp .mul t x y t2,ty,pos,af,g⟩::rest) ⟨E,loc,X⟩ k:=dw (c:=((p*q:Nat):Int)) hx hy (by rw [←Int.natCast_mul];exact IntWalk.i64_in _ ag) hg hbb hd h
end
structure StaI (P:List PostD) (n w:Nat) where
 a:Nat
 b:Nat
 h1:a≤n
 h2:b=a+w
 Q:List PostD
 hQ:Q.Perm P
structure StaO (P:List PostD) (n:Nat) where
 z:Nat
 h1:1≤z
 h2:z≤2*n+20
 Q:List PostD
 hQ:Q.Perm P
set_option maxRecDepth 20000 in
set_option maxHeartbeats 8000000 in
theorem ux (s:SlV) (P:List PostD) (hs:s.n=P.length) (hm:s.n≤1000000):Ct Tryz.prog 213 #[s.v,.int .i64 (s.n:Nat),cmpF] [postR s P] (fun _=>True) (PermAt s P):=by
 have hP:P.Perm P:=List.Perm.refl P
 refine cB (args:=[_,_,_]) _ Tryz.func213 rfl Tryz.ntmps213 rfl fun av bor w0=>?_
 repeat' (first|apply ab|apply aj|apply ai|refine ae ?_|refine ac ?_|apply aw|fail)
 refine be (ι:=StaI P s.n 20) (fun r=>⟨[(0,s.v),(1,.int .i64 (s.n:Nat)),(2,cmpF),(6,.int .i64 20),(7,.int .i64 (r.a:Nat)),(8,.int .i64 (r.b:Nat))],[postR s r.Q],fun _=>True⟩) (fun r=>s.n-r.a) ⟨0,20,Nat.zero_le _,rfl,P,hP⟩ (aF ⟨rfl,rfl,rfl,rfl,rfl,rfl,trivial⟩ (aQ _) fun _ h=>h) fun r=>?_
 obtain ⟨a,b,h1,h2,Q,hQ⟩:=r
 simp only
 repeat' (first|refine dF (q:=20) (hq:=by omega) ?_|apply ab|apply aj|apply ai|refine ae ?_|refine ac ?_|refine cF ?_|apply ay|apply aw|apply aV|(refine eB (P:=P) (hQ:=by assumption) (hc:=fun Q hQ=>iH s Q a b (hs.trans hQ.length_eq.symm) hm ag ag) fun Q2 hQ2=>?_)|(refine eB (P:=P) (hQ:=by assumption) (hc:=fun Q hQ=>iH s Q a s.n (hs.trans hQ.length_eq.symm) hm ag ag) fun Q2 hQ2=>?_)|(refine aO (ht:=?_) (hf:=?_);all_goals (intro hx_;first|have:=aY hx_|have:=aZ hx_)))
 · exact ⟨(⟨b,b+20,by omega,rfl,Q2,hQ2⟩:StaI P s.n 20),(by show s.n-b<s.n-a;omega),aF ⟨rfl,rfl,rfl,rfl,rfl,rfl,trivial⟩ (aQ _) fun _ h=>h⟩
 · refine be (ι:=StaO P s.n) (fun r=>⟨[(0,s.v),(1,.int .i64 (s.n:Nat)),(2,cmpF),(6,.int .i64 (r.z:Nat))],[postR s r.Q],fun _=>True⟩) (fun r=>s.n-r.z) ⟨20,by omega,by omega,Q2,hQ2⟩ (aF ⟨rfl,rfl,rfl,rfl,trivial⟩ (aQ _) fun _ h=>h) fun r=>?_
   clear h1 h2 hQ hQ2
   obtain ⟨z,h1,h2,Q,hQ⟩:=r
   simp only
   repeat' (first|refine nG (p:=2) (hq:=by omega) ?_|apply ab|apply aj|apply ai|refine ae ?_|refine ac ?_|refine bu ?_|apply ay|apply aw|apply aV|(refine aO (ht:=?_) (hf:=?_);all_goals (intro hx_;first|have:=aY hx_|have:=aZ hx_)))
   · have hzn:z<s.n:=by omega
     refine be (ι:=StaI P s.n (2*z)) (fun r=>⟨[(0,s.v),(1,.int .i64 (s.n:Nat)),(2,cmpF),(6,.int .i64 (z:Nat)),(7,.int .i64 (r.a:Nat)),(8,.int .i64 (r.b:Nat))],[postR s r.Q],fun _=>True⟩) (fun r=>s.n-r.a) ⟨0,2*z,Nat.zero_le _,(Nat.zero_add _).symm,Q,hQ⟩ (aF ⟨rfl,rfl,rfl,rfl,rfl,rfl,trivial⟩ (aQ _) fun _ h=>h) fun r=>?_
     obtain ⟨a,b,h3,h4,Q3,hQ3⟩:=r
     simp only
     repeat' (first|refine dF (hq:=by omega) ?_|refine nG (p:=2) (hq:=by omega) ?_|refine nG (q:=2) (hq:=by omega) ?_|apply ab|apply aj|apply ai|refine ae ?_|refine ac ?_|refine bu ?_|refine cF ?_|apply ay|apply aw|apply aV|(refine eB (P:=P) (hQ:=by assumption) (hc:=fun Q hQ=>gk (b-a) s Q a (a+z) b (Nat.le_refl _) (hs.trans hQ.length_eq.symm) hm ag ag ag) fun Q2 hQ2=>?_)|(refine eB (P:=P) (hQ:=by assumption) (hc:=fun Q hQ=>gk (s.n-a) s Q a (a+z) s.n (Nat.le_refl _) (hs.trans hQ.length_eq.symm) hm ag ag ag) fun Q2 hQ2=>?_)|(refine aO (ht:=?_) (hf:=?_);all_goals (intro hx_;first|have:=aY hx_|have:=aZ hx_)))
     · exact ⟨(⟨b,b+2*z,by omega,rfl,Q2,hQ2⟩:StaI P s.n (2*z)),(by show s.n-b<s.n-a;omega),aF ⟨rfl,rfl,rfl,rfl,rfl,rfl,trivial⟩ (aQ _) fun _ h=>h⟩
     all_goals
      refine ⟨(⟨z*2,by omega,by omega,_,?_⟩:StaO P s.n),(by show s.n-z*2<s.n-z;omega),aF ⟨rfl,rfl,rfl,rfl,trivial⟩ (aQ _) fun _ h=>h⟩
      assumption
   · exact cb (bP rfl) ⟨rfl,Q,hQ,rfl⟩
theorem ma (s:SlV) (P:List PostD) (hs:s.n=P.length) (hm:s.n≤1000000):Ct Tryz.prog 129 #[s.v,cmpF] [postR s P] (fun _=>True) (PermAt s P):=by
 have hP:P.Perm P:=List.Perm.refl P
 refine cB (args:=[_,_]) _ Tryz.func129 rfl Tryz.ntmps129 rfl fun av bor w0=>?_
 repeat' (first|apply ab|apply ai|refine ae ?_|refine bg ?_|(refine eB (P:=P) (hQ:=by assumption) (hc:=fun Q hQ=>ux s Q (hs.trans hQ.length_eq.symm) hm) fun Q2 hQ2=>?_)|fail)
 exact cb (bP rfl) ⟨rfl,Q2,hQ2,rfl⟩
end Go.Proofs.YtfnjklhjngphmaaGreatDoor
namespace Go.Proofs.YtfnjklhjngphmaaGreatDoor
open Go Go.Proofs Sy
theorem lD (L:List PostD):∀ cs∈L.map PostD.cells,cs.all (·.oneCell')=true:=by
 intro r hr
 obtain ⟨a,_,rfl⟩:=List.mem_map.1 hr
 rfl
def AllAt (l:List ChainD) (u:Value) (X:World→Prop):Prop:=∃ (s:SlV) (P:List PostD),u=s.v∧(P.map PostD.can).Perm (l.flatMap postsV)∧P.length≤1000000∧∀ w,X w→RowsD w 11 s (P.map PostD.cells)
def Behind (w:World) (P:List PostD):Prop:=∀ p∈P,Strs w p.to p.toL∧Ints w p.ed p.edL
def AllAtS (l:List ChainD) (u:Value) (X:World→Prop):Prop:=∃ (s:SlV) (P:List PostD),u=s.v∧(P.map PostD.can).Perm (l.flatMap postsV)∧P.length≤1000000∧∀ w,X w→RowsD w 11 s (P.map PostD.cells)∧Behind w P
theorem AllAtS.weak {l:List ChainD} {u:Value} {X:World→Prop} (h:AllAtS l u X):AllAt l u X:=by
 obtain ⟨s,P,h1,h2,h3,h4⟩:=h
 exact ⟨s,P,h1,h2,h3,fun w hw=>(h4 w hw).1⟩
theorem Behind.nil {w:World}:Behind w []:=fun p hp=>(List.not_mem_nil hp).elim
theorem Behind.app {w:World} {P Q:List PostD} (h:Behind w P) (k:Behind w Q):Behind w (P++Q):=fun p hp=>(List.mem_append.1 hp).elim (h p) (k p)
structure AllI (l:List ChainD) where
 k:Nat
 hk:k≤l.length
 P:List PostD
 hP:P.map PostD.can=(l.take k).flatMap postsV
 hm:P.length≤k*1000
 n:Nat
 hn:n=P.length
 xs:List Value
 hxs:xs=(P.map PostD.cells).flatten
 A:Option Addr
 c:Nat
set_option maxHeartbeats 4000000 in
theorem yW (s:SlV) (l:List ChainD) (hok:∀ c∈l,ActsOk c.actsL) (hlen:∀ c∈l,c.actsL.length≤1000) (hll:l.length≤1000):Mk Tryz.prog 77 #[s.v] (fun w=>Chains w s l∧Glob w) (AllAtS l):=by
 refine bL (args:=[_]) _ Tryz.func77 rfl Tryz.ntmps77 rfl fun av bor w0=>?_
 refine bt (p:=s.n=l.length∧s.n≤maxLen∧(0<l.length→s.p.isSome=true)) (fun w h=>⟨h.1.len_,h.1.max_,h.1.some_⟩) fun ⟨hl,hm,hp⟩=>?_
 simp only [maxLen] at hm
 refine cf 84 11 ?_
 repeat' (first|apply ab|apply aj|apply ai|refine ae ?_|refine ac ?_|refine bg ?_|apply aw|fail)
 refine be (ι:=AllI l) (fun i=>⟨[(3,.slice i.A i.n i.c),(6,s.v),(7,.int .i64 (s.n:Nat)),(8,.int .i64 (i.k:Nat))],[orow 84 11 (.slice i.A i.n i.c) i.n i.xs],fun w=>(Chains w s l∧Glob w)∧Behind w i.P⟩) (fun i=>l.length-i.k) ⟨0,Nat.zero_le _,[],rfl,Nat.zero_le _,0,rfl,[],rfl,none,0⟩ (aF ⟨rfl,rfl,rfl,rfl,trivial⟩ (aQ _) fun _ h=>⟨h,Behind.nil⟩) fun i=>?_
 obtain ⟨k,hk,P,hP,hPm,n,hn,xs,hxs,A,cp⟩:=i
 simp only
 repeat' (first|apply ab|apply aj|apply ai|refine ae ?_|refine bu ?_|apply ay|apply aw|apply aV|(refine aO (ht:=?_) (hf:=?_);all_goals (intro hx_;first|have:=aY hx_|have:=aZ hx_)))
 · have hlt:k<l.length:=by omega
   have hp':=hp ag
   obtain ⟨c,hc⟩:∃ c,l[k]?=some c:=⟨_,List.getElem?_eq_getElem hlt⟩
   have hcm:=List.mem_of_getElem? hc
   have hcl:=hlen c hcm
   have hof:=xZ c (hok c hcm) ag
   repeat' (first|apply ab|apply ai|refine ae ?_|refine aG ?_|refine aP fun _=>?_|refine aK ?_|(refine bf (q:=k*6) ?_)|(refine bD (cs:=c.cells) (hF:=fun w h=>Chains.get h.1.1 hc) ?_)|fail)
   refine bN (hc:=hof) (hX:=fun w h=>⟨h.1.1.2 c hcm,h.1.2⟩) fun v1 X1 h1=>?_
   obtain ⟨s1,Q,rfl,hQ,hQl,hw⟩:=h1
   refine gD (p:=s1.n=Q.length) (fun w h=>by simpa using RowsD.len (hw w h.2).1) fun hl1=>?_
   have hnl:n+s1.n≤1000000:=by omega
   refine aS (size:=11) (news:=(Q.map PostD.cells).flatten) (q:=s1.n) rfl rfl rfl rfl (fun _=>At.there _ (At.here _)) (fun w G=>dJ (hw w G.keep.now.2).1 (lD Q)) ag (by simp only [maxLen];omega) rfl ?_ rfl ?_
   · (with_reducible rfl)
   intro A2 c2
   repeat' (first|apply ab|apply ai|refine ae ?_|refine ac ?_|refine bm (h:=?_)|fail)
   exact ⟨(⟨k+1,hlt,P++Q,by rw [List.map_append,hP,hQ,List.take_add_one,hc,Option.toList_some,List.flatMap_append,List.flatMap_cons,List.flatMap_nil,List.append_nil],by rw [List.length_append];omega,n+s1.n,by rw [List.length_append,hn,hl1],xs++(Q.map PostD.cells).flatten,by rw [hxs,List.map_append,List.flatten_append],A2,c2⟩:AllI l),(by show l.length-(k+1)<l.length-k;omega),aF ⟨rfl,rfl,rfl,rfl,trivial⟩ (List.Sublist.cons _ (aQ _)) fun w h=>⟨h.1.1,h.1.2.app (hw w h.2).2⟩⟩
 · have hkE:k=l.length:=by omega
   subst hn hxs
   have hPb:P.length≤1000000:=by omega
   have hst:=ma ⟨A,P.length,cp⟩ P rfl hPb
   repeat' (first|apply ab|apply aj|apply ai|refine ae ?_|refine ac ?_|apply aA|(refine fw (hc:=hst) (h:=fun Q hQ=>?_))|fail)
   exact aq (aB rfl rfl) ⟨⟨A,P.length,cp⟩,Q,rfl,by
    have h1:=hQ.map PostD.can
    rw [hP,hkE,List.take_length] at h1
    exact h1,by rw [hQ.length_eq];exact hPb,fun w h=>⟨bJ (h.2 _ aU) (by rw [List.length_map];exact hQ.length_eq.symm) (cells11 Q),fun p hp=>h.1.2 p (hQ.mem_iff.1 hp)⟩⟩
def z0:SlV:=⟨none,0,0⟩
theorem sj {k:KyD} {a:ActD} {s1 s2:SlV} (h1:s1.n=a.to.n) (h2:s2.n=a.wraps.n) (hr:rightB (a.sig SgD.zero)=true) (hk:rightK k=true):actSignV k (a.re s1 s2)=(actSignV k a).re s1 s2:=by
 have e:rightB ((a.re s1 s2).sig SgD.zero)=rightB (a.sig SgD.zero):=fA (a:=a.sig SgD.zero) h1 h2
 rw [actSignV,actSignV,e,hr,hk]
 rfl
theorem Cv:rightB (nkU1.sig SgD.zero)=true:=by decide +kernel
theorem Cu:rightB (nkU2.sig SgD.zero)=true:=by decide +kernel
structure TaleC (c:ChainD) (n:Nat) (d:ByteArray):Prop where
 id:c.id=nkI
 n:c.acts.n=n
 prev:c.prev=d
def a26:ActD:={ ActD.zero with kind:=1 }
def b26:ActD:={ ActD.zero with kind:=14,object:=nkD1 }
def one26:ByteArray:=⟨#[111,110,101]⟩
def two26:ByteArray:=⟨#[116,119,111]⟩
theorem pub1 {c:ChainD} (h:TaleC c 1 nkD0) (s:SlV):pubD c a26 one26 s=nkU1.re s z0:=by
 rw [pubD,draftV,h.id,h.n,h.prev];rfl
theorem pub2 {c:ChainD} (h:TaleC c 2 nkD1) (s:SlV):pubD c b26 two26 s=nkU2.re s z0:=by
 rw [pubD,draftV,h.id,h.n,h.prev];rfl
theorem right1 {s:SlV} (hs:s.n=0):rightB (nkU1.re s z0)=true:=(fA (a:=nkU1) hs rfl).trans (by decide +kernel)
theorem right2 {s:SlV} (hs:s.n=0):rightB (nkU2.re s z0)=true:=(fA (a:=nkU2) hs rfl).trans (by decide +kernel)
theorem fits1 {c:ChainD} (h:TaleC c 1 nkD0) {s:SlV} (hs:s.n=0) (o:Option Nat):fitsV c (nkU1.re s z0) o=true:=by
 have e2:seqB (nkU1.re s z0).author c.id=true:=by rw [h.id];exact cG _
 have e3:decide ((nkU1.re s z0).seq=(c.acts.n:Int))=true:=by rw [h.n];rfl
 have e4:seqB (nkU1.re s z0).prev c.prev=true:=by rw [h.prev];exact cG _
 have e5:(decide ((nkU1.re s z0).kind=0) != decide ((c.acts.n:Int)=0))=false:=by rw [h.n];rfl
 rw [fitsV,right1 hs,e2,e3,e4,e5]
 rfl
theorem fits2 {c:ChainD} (h:TaleC c 2 nkD1) {s:SlV} (hs:s.n=0) {o:Option Nat} (ha:atK c o postK=true):fitsV c (nkU2.re s z0) o=true:=by
 have e2:seqB (nkU2.re s z0).author c.id=true:=by rw [h.id];exact cG _
 have e3:decide ((nkU2.re s z0).seq=(c.acts.n:Int))=true:=by rw [h.n];rfl
 have e4:seqB (nkU2.re s z0).prev c.prev=true:=by rw [h.prev];exact cG _
 have e5:(decide ((nkU2.re s z0).kind=0) != decide ((c.acts.n:Int)=0))=false:=by rw [h.n];rfl
 rw [fitsV,right2 hs,e2,e3,e4,e5,ha]
 rfl
theorem AO:nkU1.Rng:=⟨by decide +kernel,fun w hw=>(List.not_mem_nil hw).elim,rfl,rfl⟩
theorem AN:nkU2.Rng:=⟨by decide +kernel,fun w hw=>(List.not_mem_nil hw).elim,rfl,rfl⟩
theorem Cs:nkU1.Sm:=⟨by decide,by decide,by decide⟩
theorem Cq:nkU2.Sm:=⟨by decide,by decide,by decide⟩
def Posted (b:ActD) (u:Value) (X:World→Prop):Prop:=∃ s1 s2:SlV,s1.n=0∧s2.n=0∧u=.tuple #[(b.re s1 s2).v,.int .i64 0]∧∀ w,X w→(b.re s1 s2).at_ w
theorem xB {c:ChainD} {kl:List KeyD} (hc:ActsOk c.actsL) (h:TaleC c 1 nkD0) (hown:ownsB nkK c kl=true) :
  Mk Tryz.prog 75 #[nkK.v,c.v,a26.v,.string one26] (fun w=>((c.at_ w∧Keyz w c.keys kl)∧a26.at_ w)∧Glob w) (Posted nkA1):=by
 refine iB (lC nkK c kl a26 one26 hc rfl rfl rfl rfl hown (fun s hs=>by rw [pub1 h];exact right1 hs) (fun s hs=>by rw [pub1 h];exact fits1 h hs _) (fun s hs=>by rw [pub1 h];exact ⟨fd AO hs rfl,gU Cs hs rfl⟩)) fun u X ⟨s,s1,s2,hs,h1,h2,hu,hw⟩=>?_
 have e:actSignV nkK (pubD c a26 one26 s)=nkA1.re s z0:=by rw [pub1 h,show actSignV nkK (nkU1.re s z0)=(actSignV nkK nkU1).re s z0 from sj (a:=nkU1) hs rfl Cv eY,C7]
 rw [e] at h1 h2 hu hw
 exact ⟨s1,s2,h1.trans hs,h2,hu,hw⟩
theorem xA {c:ChainD} {kl:List KeyD} (hc:ActsOk c.actsL) (h:TaleC c 2 nkD1) (ha:atK c (idxV c.actsL nkD1) postK=true) (hown:ownsB nkK c kl=true) :
  Mk Tryz.prog 75 #[nkK.v,c.v,b26.v,.string two26] (fun w=>((c.at_ w∧Keyz w c.keys kl)∧b26.at_ w)∧Glob w) (Posted nkA2):=by
 refine iB (lC nkK c kl b26 two26 hc rfl rfl rfl rfl hown (fun s hs=>by rw [pub2 h];exact right2 hs) (fun s hs=>by rw [pub2 h];exact fits2 h hs ha) (fun s hs=>by rw [pub2 h];exact ⟨fd AN hs rfl,gU Cq hs rfl⟩)) fun u X ⟨s,s1,s2,hs,h1,h2,hu,hw⟩=>?_
 have e:actSignV nkK (pubD c b26 two26 s)=nkA2.re s z0:=by rw [pub2 h,show actSignV nkK (nkU2.re s z0)=(actSignV nkK nkU2).re s z0 from sj (a:=nkU2) hs rfl Cu eY,C6]
 rw [e] at h1 h2 hu hw
 exact ⟨s1,s2,h1.trans hs,h2,hu,hw⟩
def p26 (x1:ActD):PostD:={ newP nkI 1 x1 with edL:=[2] }
theorem dig0 {s1 s2:SlV} (h1:s1.n=0) (h2:s2.n=0):digV (nkA0.re s1 s2)=nkD0:=(jq (a:=nkA0) h1 h2).trans BO
theorem dig1 {s1 s2:SlV} (h1:s1.n=0) (h2:s2.n=0):digV (nkA1.re s1 s2)=nkD1:=(jq (a:=nkA1) h1 h2).trans Df
theorem idx26 {s1 s2 t1 t2:SlV} (h1:s1.n=0) (h2:s2.n=0) (k1:t1.n=0) (k2:t2.n=0) (l:List ActD):idxV (nkA0.re s1 s2::nkA1.re t1 t2::l) nkD1=some 1:=by
 rw [idxV,List.findIdx?_cons,dig0 h1 h2,Dg,List.findIdx?_cons,dig1 k1 k2,cG]
 rfl
theorem posts26 {s1 s2 t1 t2 r1 r2:SlV} (h1:s1.n=0) (h2:s2.n=0) (k1:t1.n=0) (k2:t2.n=0) {c:ChainD} (hid:c.id=nkI) (hl:c.actsL=[nkA0.re s1 s2,nkA1.re t1 t2,nkA2.re r1 r2]):postsV c=[p26 (nkA1.re t1 t2)]:=by
 have e0:openF c 3=[newP nkI 1 (nkA1.re t1 t2)]:=by
  simp only [openF,hl,hid]
  rfl
 have e3:ofP c 0=[newP nkI 1 (nkA1.re t1 t2)]:=by rw [ofP,hl];exact e0
 have e4:ofP c 1=[newP nkI 1 (nkA1.re t1 t2)]:=by rw [ofP,e3,hl];rfl
 have e5:ofP c 2=[newP nkI 1 (nkA1.re t1 t2)]:=by rw [ofP,e4,hl];rfl
 have er:refV [nkA0.re s1 s2,nkA1.re t1 t2,nkA2.re r1 r2] [newP nkI 1 (nkA1.re t1 t2)] 2=some 0:=by
  rw [refV,show (([nkA0.re s1 s2,nkA1.re t1 t2,nkA2.re r1 r2]:List ActD).getD 2 ActD.zero).object=nkD1 from rfl,idx26 h1 h2 k1 k2]
  rfl
 have e6:ofP c 3=[p26 (nkA1.re t1 t2)]:=by
  rw [ofP,e5,hl,stepP,er]
  have eb:editB (nkA2.re r1 r2) (newP nkI 1 (nkA1.re t1 t2))=true:=by
   rw [editB]
   show (!false&&decide ((0:Int)=0)&&seqB ⟨#[]⟩ ⟨#[]⟩&&eqL [] [])=true
   rw [cG,yJ]
   rfl
  show [editP (nkA2.re r1 r2) 2 (newP nkI 1 (nkA1.re t1 t2))]=_
  rw [editP,eb]
  rfl
 rw [postsV,hl]
 exact e6
theorem at26 {s1 s2 t1 t2:SlV} (h1:s1.n=0) (h2:s2.n=0) (k1:t1.n=0) (k2:t2.n=0) {c:ChainD} (hl:c.actsL=[nkA0.re s1 s2,nkA1.re t1 t2]):atK c (idxV c.actsL nkD1) postK=true:=by
 rw [hl,idx26 h1 h2 k1 k2,atK,hl]
 rfl
theorem Cn:seqB nkD1 ⟨#[120]⟩=false:=by decide +kernel
theorem begActs {x:ActD} (hx:x.Rng) (hs:x.Sm):ActsOk [x]:=⟨fun a h=>by rw [List.mem_singleton.1 h];exact hx,fun a h=>by rw [List.mem_singleton.1 h];exact hs⟩
theorem pC:nkA1.Rng:=⟨by decide +kernel,fun w hw=>(List.not_mem_nil hw).elim,rfl,rfl⟩
theorem yf:nkA2.Rng:=⟨by decide +kernel,fun w hw=>(List.not_mem_nil hw).elim,rfl,rfl⟩
theorem sS:nkA1.Sm:=⟨by decide,by decide,by decide⟩
theorem AL:nkA2.Sm:=⟨by decide,by decide,by decide⟩
theorem chainsOne {b:Nat} {w:World} {c:ChainD} (h:(cel b 31 c.cells).F w) (hc:c.at_ w):Chains w ⟨some ⟨b,0,none⟩,1,1⟩ [c] :=
 ⟨jB (xs:=[c.cells]) h rfl (by decide) (by intro r hr;rw [List.mem_singleton.1 hr];rfl),fun x hx=>by rw [List.mem_singleton.1 hx];exact hc⟩
theorem last26 {c2:ChainD} {x0 x1 x2:ActD} (hl2:c2.actsL=[x0,x1,x2]) (hi2:c2.id=nkI) (h1k:x1.kind=1) (h1s:x1.scope=0) (h2k:x2.kind=14) (h2s:x2.scope=0) {p:PostD} (hg:p.gone=false) (hpo:p.pos=1) (hpe:p.edL=[2]) (hpa:p.author=nkI):lastV [c2] p ⟨#[]⟩=.tuple #[.int .i64 2,.bool true]:=by
 have m1:mayV c2 1 ⟨#[]⟩=true:=by
  rw [mayV,rtextV,pubV,hl2]
  show ((decide ((0:Int)≤1)&&(postK x1.kind||decide (x1.kind=14)))&&(_||decide (x1.scope=0)||_))=true
  rw [h1k,h1s]
  simp [postK]
 have m2:mayV c2 2 ⟨#[]⟩=true:=by
  rw [mayV,rtextV,pubV,hl2]
  show ((decide ((0:Int)≤2)&&(postK x2.kind||decide (x2.kind=14)))&&(_||decide (x2.scope=0)||_))=true
  rw [h2k,h2s]
  simp [postK]
 have hf:findC [c2] p.author=some c2:=by rw [hpa,findC,List.find?_cons,hi2,cG]
 have hh:histV [c2] p ⟨#[]⟩=[1,2]:=by
  rw [histV,hg,hf,hpo,hpe]
  show ([1,2]:List Int).filter (fun i=>mayV c2 i ⟨#[]⟩)=_
  simp [m1,m2]
 rw [lastV,hh]
 rfl
theorem none26 {c2:ChainD} {x1:ActD} (hps:postsV c2=[p26 x1]) (hd1:digV x1=nkD1):findPV [c2] ⟨#[120]⟩=none:=jS fun c hc q hq=>by
 rw [List.mem_singleton.1 hc,hps] at hq
 rw [List.mem_singleton.1 hq,isPost]
 show seqB (digV x1) _=false
 rw [hd1]
 exact Cn
theorem vE {P:Program} {N:Nat} {av bor:List Nat} {w0:World} {st:St} {t ty:TypeId} {x:Operand} {b:Bool} (v:Bool) (hx:ev st.env x=some (.bool b)) (hv:(!b)=v):Sy.Yields P N av bor w0 st (.unOp .not t x) ty (.bool v):=hv▸rJ hx
structure Met26 where
 r1:SlV
 r2:SlV
 m1:r1.n=0
 m2:r2.n=0
 b:Nat
set_option maxRecDepth 20000 in
set_option maxHeartbeats 16000000 in
theorem qv:Pu Tryz.prog 32 #[] Glob (.bool true):=by
 refine aN (args:=[]) _ Tryz.func32 rfl Tryz.ntmps32 rfl fun av bor w0=>?_
 have hk:=qx ⟨#[97]⟩ (by decide)
 rw [yg] at hk
 have hbg:=yU
 repeat' (first|apply ab|apply aj|apply ai|refine ae ?_|refine ac ?_|refine aG ?_|refine bC ?_|refine aP fun _=>?_|refine aK ?_|(refine aC (hc:=hk) (hX:=fun w h=>h) ?_)|(refine bN (hc:=hbg) (hX:=fun w h=>h) fun v1 X1 h1=>?_;obtain ⟨ks,sa,sk,s1,s2,hs1,hs2,rfl,hw0⟩:=h1)|(refine bV (cs:=a26.cells) (hf:=by rfl) ?_)|fail)
 refine gD (p:=sa.n=1) (fun w h=>by simpa using (hw0 w h.2).1.1.len) fun hsa=>?_
 obtain ⟨x0,hx0⟩:∃ x,x=nkA0.re s1 s2:=⟨_,rfl⟩
 rw [←hx0] at hw0 ⊢
 have hR0:x0.Rng:=by rw [hx0];exact fd sT hs1 hs2
 have hS0:x0.Sm:=by rw [hx0];exact gU ye hs1 hs2
 obtain ⟨c0,hc0⟩:∃ c,c=begC sa sk x0:=⟨_,rfl⟩
 have hl0:c0.actsL=[x0]:=by rw [hc0];rfl
 have hT0:TaleC c0 1 nkD0:=by rw [hc0];exact ⟨rfl,hsa,rfl⟩
 have hO0:ownsB nkK c0 [⟨0,nkK.p,0⟩]=true:=by
  rw [ownsB,eY,hT0.n]
  rfl
 have hA0:ActsOk c0.actsL:=by rw [hl0];exact begActs hR0 hS0
 have hat0:∀ w,X1 w→c0.at_ w∧Keyz w c0.keys [⟨0,nkK.p,0⟩]:=fun w h=>by rw [hc0];exact hw0 w h
 rw [←hc0]
 have hp1:=xB hA0 hT0 hO0
 have hex1:∀ t1 t2:SlV,t1.n=0→t2.n=0→Mk Tryz.prog 76 #[c0.v,(nkA1.re t1 t2).v] (fun w=>(c0.at_ w∧(nkA1.re t1 t2).at_ w)∧Glob w) (ExtAt c0 (nkA1.re t1 t2)):=fun t1 t2 k1 k2=>jU c0 _ (fd pC k1 k2) (gU sS k1 k2) (by rw [hl0];show 1≤100000;omega)
 repeat' (first|apply ab|apply aj|apply ai|refine ae ?_|refine ac ?_|refine aG ?_|refine bC ?_|refine aP fun _=>?_|refine aK ?_|(refine bN (hc:=hp1) (hX:=fun w h=>⟨⟨hat0 w h.2,⟨bz w 1,bz w 5⟩⟩,h.1⟩) fun v2 X2 h2=>?_;obtain ⟨t1,t2,k1,k2,rfl,hw1⟩:=h2)|(refine bN (hc:=hex1 t1 t2 k1 k2) (hX:=fun w h=>⟨⟨(hat0 w h.1.2).1,hw1 w h.2⟩,h.1.1⟩) fun v3 X3 h3=>?_;obtain ⟨sb,rfl,hw2⟩:=h3)|fail)
 rename_i bs bc bk ba
 refine bt (p:=sb.n=2) (fun w h=>by
  have h1:=(hw2 w h.2).1.len
  simpa [extC,hl0] using h1) fun hsb=>?_
 obtain ⟨x1,hx1⟩:∃ x,x=nkA1.re t1 t2:=⟨_,rfl⟩
 rw [←hx1] at hw1 hw2 ⊢
 have hR1:x1.Rng:=by rw [hx1];exact fd pC k1 k2
 have hS1:x1.Sm:=by rw [hx1];exact gU sS k1 k2
 have hd1:digV x1=nkD1:=by rw [hx1];exact dig1 k1 k2
 obtain ⟨c1,hc1⟩:∃ c,c=extC c0 sb x1:=⟨_,rfl⟩
 rw [←hc1] at hw2 ⊢
 have hl1:c1.actsL=[x0,x1]:=by rw [hc1,extC,hl0];rfl
 have hT1:TaleC c1 2 nkD1:=by rw [hc1];exact ⟨hT0.id,hsb,hd1⟩
 have hO1:ownsB nkK c1 [⟨0,nkK.p,0⟩]=true:=by
  rw [ownsB,eY,hT1.n]
  rfl
 have hA1:ActsOk c1.actsL:=by
  rw [hl1]
  exact ⟨fun a h=>by
   rcases List.mem_cons.1 h with rfl|h
   · exact hR0
   · rw [List.mem_singleton.1 h];exact hR1,fun a h=>by
   rcases List.mem_cons.1 h with rfl|h
   · exact hS0
   · rw [List.mem_singleton.1 h];exact hS1⟩
 have hky:c1.keys=c0.keys:=by rw [hc1];rfl
 have hat1:atK c1 (idxV c1.actsL nkD1) postK=true:=at26 hs1 hs2 k1 k2 (by rw [hl1,hx0,hx1])
 have hp2:=xA hA1 hT1 hat1 hO1
 have hof:=mV x1 hR1 hS1
 have hdg:∀ s3 s4:SlV,s3.n=x1.to.n→s4.n=x1.wraps.n→Pu Tryz.prog 15 #[(ofActI (x1.re s3 s4)).v] (fun w=>(ofActI (x1.re s3 s4)).at_ w∧Glob w) (.string nkD1):=fun s3 s4 h3 h4=>by
  have h:=digI0 (x1.re s3 s4) (fd hR1 h3 h4)
  rw [show dI0 (ofActI (x1.re s3 s4))=nkD1 from (jq h3 h4).trans hd1] at h
  exact h
 have hat2:∀ w,(((Glob w∧X1 w)∧X2 w)∧X3 w)→c1.at_ w∧Keyz w c1.keys [⟨0,nkK.p,0⟩]:=fun w h=>⟨hw2 w h.2,by rw [hky];exact (hat0 w h.1.1.2).2⟩
 refine ez (ι:=Met26) (fun i=>⟨[(3,.pointer (some ⟨bk,0,none⟩)),(4,.pointer (some ⟨ba,0,none⟩)),(6,.pointer (some ⟨i.b,0,none⟩)),(7,.int .i64 0)],[cel i.b 46 (nkA2.re i.r1 i.r2).cells,cel ba 46 x1.cells,cel bk 31 c1.cells],fun w=>(((Glob w∧X1 w)∧X2 w)∧X3 w)∧(nkA2.re i.r1 i.r2).at_ w⟩) ?_ fun i=>?_
 · (refine bo [cel ba 46 x1.cells,cel bk 31 c1.cells,cel bs 77 nkK.cells] (fun w=>((Glob w∧X1 w)∧X2 w)∧X3 w) ar ?_)
   all_goals refine aa 0 ?_
   all_goals refine aa 1 ?_
   all_goals refine aa 2 ?_
   all_goals (refine bS 3 10 (h:=?_) (h':=?_);(focus (((refine bN (hc:=hof) (hX:=fun w h=>hw1 w h.1.2) fun v4 X4 h4=>?_;obtain ⟨s3,s4,rfl,hn3,hn4,hat4⟩:=h4);apply ab;refine ak ?_);all_goals ((refine bS 4 10 (h:=?_) (h':=?_);(focus (((refine aC (hc:=hdg s3 s4 hn3 hn4) (hX:=fun w h=>⟨⟨hat4 w h.2,bz w 1⟩,h.1.1.1.1⟩) ?_);apply ab;refine ak ?_);all_goals ((refine aa 5 (hy:=by (apply cd (cs:=b26.cells);rfl;rfl)) ?_);all_goals (refine bS 6 10 (h:=?_) (h':=?_);(focus (((refine bN (hc:=hp2) (hX:=fun w h=>⟨⟨hat2 w h.1,⟨bz w 1,bz w 5⟩⟩,h.1.1.1.1⟩) fun v5 X5 h5=>?_;obtain ⟨r1,r2,m1,m2,rfl,hw3⟩:=h5);apply ab;refine ak ?_);all_goals ((refine aa 7 ?_);all_goals (refine aa 8 ?_);all_goals (refine aa 9 ?_);all_goals (refine ao 10 ?_;(refine aP fun _=>?_);apply ab;refine ak ?_);all_goals (refine ao 11 ?_;(refine aK ?_);apply ab;refine ak ?_);all_goals (refine aa 12 ?_);all_goals (refine aI ?_))));rotate_right;(focus (((refine aP fun _=>?_);apply ab;refine ak ?_);all_goals ((refine ao 6 ?_;(refine bN (hc:=hp2) (hX:=fun w h=>⟨⟨hat2 w h.1,⟨bz w 1,bz w 5⟩⟩,h.1.1.1.1⟩) fun v5 X5 h5=>?_;obtain ⟨r1,r2,m1,m2,rfl,hw3⟩:=h5);apply ab;refine ak ?_);all_goals (refine aa 7 ?_);all_goals (refine aa 8 ?_);all_goals (refine aa 9 ?_);all_goals (refine ao 11 ?_;(refine aK ?_);apply ab;refine ak ?_);all_goals (refine aa 12 ?_);all_goals (refine aI ?_))))))));rotate_right;(focus (((refine aP fun _=>?_);apply ab;refine ak ?_);all_goals ((refine ao 4 ?_;(refine aC (hc:=hdg s3 s4 hn3 hn4) (hX:=fun w h=>⟨⟨hat4 w h.2,bz w 1⟩,h.1.1.1.1⟩) ?_);apply ab;refine ak ?_);all_goals (refine aa 5 (hy:=by (apply cd (cs:=b26.cells);rfl;rfl)) ?_);all_goals (refine ao 6 ?_;(refine bN (hc:=hp2) (hX:=fun w h=>⟨⟨hat2 w h.1,⟨bz w 1,bz w 5⟩⟩,h.1.1.1.1⟩) fun v5 X5 h5=>?_;obtain ⟨r1,r2,m1,m2,rfl,hw3⟩:=h5);apply ab;refine ak ?_);all_goals (refine aa 7 ?_);all_goals (refine aa 8 ?_);all_goals (refine aa 9 ?_);all_goals (refine ao 11 ?_;(refine aK ?_);apply ab;refine ak ?_);all_goals (refine aa 12 ?_);all_goals (refine aI ?_))))))));rotate_right;(focus (((refine aP fun _=>?_);apply ab;refine ak ?_);all_goals ((refine ao 3 ?_;(refine bN (hc:=hof) (hX:=fun w h=>hw1 w h.1.2) fun v4 X4 h4=>?_;obtain ⟨s3,s4,rfl,hn3,hn4,hat4⟩:=h4);apply ab;refine ak ?_);all_goals (refine ao 4 ?_;(refine aC (hc:=hdg s3 s4 hn3 hn4) (hX:=fun w h=>⟨⟨hat4 w h.2,bz w 1⟩,h.1.1.1.1⟩) ?_);apply ab;refine ak ?_);all_goals (refine aa 5 (hy:=by (apply cd (cs:=b26.cells);rfl;rfl)) ?_);all_goals (refine ao 6 ?_;(refine bN (hc:=hp2) (hX:=fun w h=>⟨⟨hat2 w h.1,⟨bz w 1,bz w 5⟩⟩,h.1.1.1.1⟩) fun v5 X5 h5=>?_;obtain ⟨r1,r2,m1,m2,rfl,hw3⟩:=h5);apply ab;refine ak ?_);all_goals (refine aa 7 ?_);all_goals (refine aa 8 ?_);all_goals (refine aa 9 ?_);all_goals (refine ao 11 ?_;(refine aK ?_);apply ab;refine ak ?_);all_goals (refine aa 12 ?_);all_goals (refine aI ?_)))))
   all_goals
    rename_i b6
    exact ⟨(⟨r1,r2,m1,m2,b6⟩:Met26),aF ⟨rfl,rfl,rfl,rfl,trivial⟩ (.cons_cons _ (.cons_cons _ (.cons_cons _ (List.nil_sublist _)))) fun w h=>⟨h.1.1,hw3 w h.2⟩⟩
 obtain ⟨r1,r2,m1,m2,bb⟩:=i
 simp only
 obtain ⟨x2,hx2⟩:∃ x,x=nkA2.re r1 r2:=⟨_,rfl⟩
 rw [←hx2]
 have hR2:x2.Rng:=by rw [hx2];exact fd yf m1 m2
 have hS2:x2.Sm:=by rw [hx2];exact gU AL m1 m2
 have hex2:=jU c1 x2 hR2 hS2 (by rw [hl1];show 2≤100000;omega)
 repeat' (first|apply ab|apply aj|apply ai|refine aG ?_|refine aK ?_|(refine bN (hc:=hex2) (hX:=fun w h=>⟨⟨(hat2 w h.1).1,h.2⟩,h.1.1.1.1⟩) fun v6 X6 h6=>?_;obtain ⟨sc,rfl,hw6⟩:=h6)|(refine bH (size:=6) (vs:=[(extC c1 sc x2).v]) (css:=(extC c1 sc x2).cells) (hsz:=by rfl) (hcs:=by rfl) fun _=>?_)|fail)
 rename_i b8
 obtain ⟨c2,hc2⟩:∃ c,c=extC c1 sc x2:=⟨_,rfl⟩
 rw [←hc2] at hw6 ⊢
 have hl2:c2.actsL=[x0,x1,x2]:=by rw [hc2,extC,hl1];rfl
 have hi2:c2.id=nkI:=by rw [hc2];exact hT1.id
 have hps:postsV c2=[p26 x1]:=by rw [hx1];exact posts26 hs1 hs2 k1 k2 hi2 (by rw [hl2,hx0,hx1,hx2])
 have hA2:ActsOk c2.actsL:=by
  rw [hl2]
  exact ⟨fun a h=>by
   rcases List.mem_cons.1 h with rfl|h
   · exact hR0
   rcases List.mem_cons.1 h with rfl|h
   · exact hR1
   · rw [List.mem_singleton.1 h];exact hR2,fun a h=>by
   rcases List.mem_cons.1 h with rfl|h
   · exact hS0
   rcases List.mem_cons.1 h with rfl|h
   · exact hS1
   · rw [List.mem_singleton.1 h];exact hS2⟩
 have hall:=yW ⟨some ⟨b8,0,none⟩,1,1⟩ [c2] (fun c h=>by rw [List.mem_singleton.1 h];exact hA2) (fun c h=>by rw [List.mem_singleton.1 h,hl2];show 3≤1000;omega) (by show 1≤1000;omega)
 refine dX ?_
 refine bN (hc:=hall) (hX:=fun w h=>⟨chainsOne h.2 (hw6 w h.1.2),h.1.1.1.1.1.1⟩) fun v7 X7 h7=>?_
 obtain ⟨sP,P,rfl,hP,-,hw7⟩:=h7
 rw [List.flatMap_cons,List.flatMap_nil,List.append_nil,hps] at hP
 have hP1:P.map PostD.can=[p26 x1]:=List.perm_singleton.1 hP
 obtain ⟨p,rfl,hpc⟩:∃ p,P=[p]∧p.can=p26 x1:=by
  cases P with
  | nil=>cases hP1
  | cons p P =>
   cases P with
   | nil=>exact ⟨p,rfl,(List.cons.inj hP1).1⟩
   | cons q P=>cases (List.cons.inj hP1).2
 have hg:p.gone=false:=congrArg PostD.gone hpc
 have hpo:p.pos=1:=congrArg PostD.pos hpc
 have hpe:p.edL=[2]:=congrArg PostD.edL hpc
 have hpi:p.id=nkD1:=(congrArg PostD.id hpc).trans hd1
 have hpa:p.author=nkI:=congrArg PostD.author hpc
 refine gD (p:=sP.n=1∧sP.n≤maxLen∧sP.p.isSome=true∧p.ed.n=1) (fun w h=>⟨by simpa using (hw7 w h.2).1.len,Nat.le_trans (RowsD.cap (hw7 w h.2).1) (RowsD.max (hw7 w h.2).1),((hw7 w h.2).1.row 0 p.cells rfl).2.1,by have:=((hw7 w h.2).2 p aU).2.len_;rw [hpe] at this;exact this⟩) fun ⟨hsP,hsm,hsp,hen⟩=>?_
 simp only [maxLen] at hsm
 repeat' (first|refine fN (hab:=by omega) ?_|apply ab|apply aj|apply ai|refine ae ?_|refine ac ?_|refine aH ?_|refine bg ?_|refine aD ?_|apply ay|(refine bf (q:=0) ?_)|(refine cT ?_)|(refine bU (q:=0+10) (u:=.bool false) (hF:=fun w h=>hg▸((hw7 w h.2).1.row 0 p.cells rfl).2.2 10 _ rfl) ?_)|fail)
 have hrow:∀ w,X7 w→RowsD w 11 sP [p.cells]:=fun w h=>(hw7 w h).1
 have hch:∀ (b:Nat) w,(cel b 31 c2.cells).F w→X6 w→Chains w ⟨some ⟨b,0,none⟩,1,1⟩ [c2]:=fun b w h h'=>chainsOne h (hw6 w h')
 have hco:∀ c∈[c2],ChOk c:=fun c h=>by
  rw [List.mem_singleton.1 h]
  refine ⟨hA2,by rw [hl2];show 3≤1000000;omega,fun x hx=>?_⟩
  rw [hl2] at hx
  rcases List.mem_cons.1 hx with rfl|hx
  · rw [hx0];show s1.n≤_;omega
  rcases List.mem_cons.1 hx with rfl|hx
  · rw [hx1];show t1.n≤_;omega
  · rw [List.mem_singleton.1 hx,hx2];show r1.n≤_;omega
 have hla:=fun b=>AW ⟨some ⟨b,0,none⟩,1,1⟩ [c2] p ⟨#[]⟩ hco (by rw [hpe];show 1≤1000000;omega)
 rw [last26 hl2 hi2 (by rw [hx1];rfl) (by rw [hx1];rfl) (by rw [hx2];rfl) (by rw [hx2];rfl) hg hpo hpe hpa] at hla
 refine ez (ι:=Unit) (fun i=>⟨[(3,.pointer (some ⟨bk,0,none⟩)),(4,.pointer (some ⟨ba,0,none⟩)),(8,sP.v),(9,.int .i64 2),(10,.bool true)],[cel ba 46 x1.cells,cel bk 31 c2.cells],fun w=>((((Glob w∧X1 w)∧X2 w)∧X3 w)∧X6 w)∧X7 w⟩) ?_ fun i=>?_
 · (refine bo [cel bk 31 c2.cells] (fun w=>((((((Glob w∧X1 w)∧X2 w)∧X3 w)∧ActD.at_ w x2)∧X6 w)∧(cel b8 31 c2.cells).F w)∧X7 w) ar ?_)
   all_goals refine aa 0 ?_
   all_goals refine aa 2 ?_
   all_goals (refine aa 3 (hy:=by (apply bp (q:=0);rfl;rfl;omega;omega;assumption;omega)) ?_)
   all_goals (refine aa 4 (hy:=by (apply gQ (cs:=p.cells);rfl;exact fun w h=>(hrow w h.2).row 0 p.cells rfl)) ?_)
   all_goals (refine ao 1 ?_;(refine bH (size:=6) (vs:=[c2.v]) (css:=c2.cells) (hsz:=by rfl) (hcs:=by rfl) fun _=>?_);apply ab;refine ak ?_)
   all_goals (refine ao 5 ?_;(rename_i b9;refine dX ?_;refine aC (hc:=hla b9) (hX:=fun w h=>⟨⟨hch b9 w h.2 h.1.1.1.2,((hw7 w h.1.2).2 p aU).2⟩,h.1.1.1.1.1.1.1.1⟩) ?_);apply ab;refine ak ?_)
   all_goals refine aa 6 ?_
   all_goals refine aa 7 ?_
   all_goals refine aa 8 ?_
   all_goals refine aa 9 ?_
   all_goals refine aa 10 ?_
   all_goals (refine aI ?_)
   all_goals exact ⟨(),aF ⟨rfl,rfl,rfl,rfl,rfl,trivial⟩ (.cons _ (aQ _)) fun w h=>⟨⟨h.1.1.1.1.1,h.1.1.1.2⟩,h.1.2⟩⟩
 have hfi:∀ b:Nat,Mk Tryz.prog 78 #[(⟨some ⟨b,0,none⟩,1,1⟩:SlV).v,.string ⟨#[120]⟩] (fun w=>Chains w ⟨some ⟨b,0,none⟩,1,1⟩ [c2]∧Glob w) (fun u _=>∃ q:PostD,u=.tuple #[q.v,.bool false]):=fun b =>
  iB (yH ⟨some ⟨b,0,none⟩,1,1⟩ [c2] ⟨#[120]⟩ (fun c h=>by rw [List.mem_singleton.1 h];exact hA2) (fun c h=>by rw [List.mem_singleton.1 h,hl2];show 3≤1000000;omega)) fun u X ⟨q,hu,_⟩=>⟨q,by rw [hu,none26 hps hd1];rfl⟩
 repeat' (first|apply ab|apply aj|apply ai|refine ae ?_|refine ac ?_|refine aG ?_|refine bC ?_|refine aP fun _=>?_|refine aK ?_|(refine bH (size:=6) (vs:=[c2.v]) (css:=c2.cells) (hsz:=by rfl) (hcs:=by rfl) fun _=>?_)|(rename_i b9;refine dX ?_;refine bN (hc:=hfi b9) (hX:=fun w h=>⟨hch b9 w h.2 h.1.1.2,h.1.1.1.1.1.1⟩) fun v8 X8 h8=>?_;obtain ⟨q,rfl⟩:=h8)|fail)
 rename_i b11
 have hgl:∀ w,(((((((Glob w∧X1 w)∧X2 w)∧X3 w)∧X6 w)∧X7 w)∧(cel b9 31 c2.cells).F w)∧X8 w)→X7 w:=fun w h=>h.1.1.2
 (refine bo [cel ba 46 x1.cells] (fun w=>((((((Glob w∧X1 w)∧X2 w)∧X3 w)∧X6 w)∧X7 w)∧(cel b9 31 c2.cells).F w)∧X8 w) ar ?_)
 all_goals refine aa 0 ?_
 all_goals (refine aa 1 (hy:=by (apply dS true;rfl;rfl;exact decide_eq_true ag)) ?_)
 all_goals refine aa 2 ?_
 all_goals refine aa 3 ?_
 all_goals refine aa 4 ?_
 all_goals refine aa 5 ?_
 all_goals refine aa 6 ?_
 all_goals (refine aa 7 (hy:=by (apply vE true;rfl;rfl)) ?_)
 all_goals refine aa 8 ?_
 all_goals refine aa 9 ?_
 all_goals refine aa 10 ?_
 all_goals (refine aa 11 (hy:=by (apply bp (q:=0);rfl;rfl;omega;omega;assumption;omega)) ?_)
 all_goals (refine aa 12 (hy:=by (apply cw;rfl;assumption;rfl)) ?_)
 all_goals (refine aa 13 (hy:=by (apply cC (q:=0+9) (u:=p.ed.v);rfl;exact fun w h=>((hrow w (hgl w h)).row 0 p.cells rfl).2.2 9 _ rfl)) ?_)
 all_goals refine aa 14 ?_
 all_goals (refine aa 15 (hy:=by (apply dS true;rfl;rfl;exact decide_eq_true ag)) ?_)
 all_goals refine aa 16 ?_
 all_goals refine aa 17 ?_
 all_goals refine aa 18 ?_
 all_goals (refine aa 19 (hy:=by (apply bp (q:=0);rfl;rfl;omega;omega;assumption;omega)) ?_)
 all_goals (refine aa 20 (hy:=by (apply cw;rfl;assumption;rfl)) ?_)
 all_goals (refine aa 21 (hy:=by (apply cC (q:=0+0) (u:=.string nkD1);rfl;exact fun w h=>hpi▸((hrow w (hgl w h)).row 0 p.cells rfl).2.2 0 _ rfl)) ?_)
 all_goals refine aa 22 ?_
 all_goals (refine ao 23 ?_;(refine bN (hc:=hof) (hX:=fun w h=>hw1 w h.1.1.1.1.1.2) fun v9 X9 h9=>?_;obtain ⟨s3,s4,rfl,hn3,hn4,hat9⟩:=h9);apply ab;refine ak ?_)
 all_goals (refine ao 24 ?_;(refine aC (hc:=hdg s3 s4 hn3 hn4) (hX:=fun w h=>⟨⟨hat9 w h.2,bz w 1⟩,h.1.1.1.1.1.1.1.1⟩) ?_);apply ab;refine ak ?_)
 all_goals (refine aa 25 (hy:=by (apply dv true;rfl;rfl;exact cG _)) ?_)
 all_goals refine aa 26 ?_
 all_goals refine aa 27 ?_
 all_goals (refine aI ?_)
 all_goals
  repeat' (first|apply aA|fail)
  exact aq (aB rfl rfl) rfl
structure LightC (c:ChainD):Prop where
 acts:∀ a∈c.actsL,a.to.n≤100∧a.wraps.n≤100
 len:c.actsL.length≤20
 keys:c.keys.n≤40
structure LightOk (l:List ChainD):Prop where
 all:∀ c∈l,LightC c
 len:l.length≤4
structure LgtI (l:List ChainD) where
 k:Nat
 hk:k≤l.length
 ok:∀ c∈l.take k,LightC c
structure LgtJ (l:List ActD) where
 j:Nat
 hj:j≤l.length
 ok:∀ a∈l.take j,a.to.n≤100∧a.wraps.n≤100
theorem oJ {α:Type} {l:List α} {k:Nat} {x:α} (hx:l[k]?=some x) {p:α→Prop} (h:∀ y∈l.take k,p y) (hp:p x):∀ y∈l.take (k+1),p y:=fun y hy=>by
 rw [List.take_add_one,hx] at hy
 rcases List.mem_append.1 hy with hy|hy
 · exact h y hy
 · rw [Option.toList_some,List.mem_singleton] at hy
   exact hy▸hp
set_option maxHeartbeats 4000000 in
theorem q6 (s:SlV) (l:List ChainD):Mk Tryz.prog 33 #[s.v] (fun w=>Chains w s l) (fun u _=>∃ b,u=.bool b∧(b=true→LightOk l)):=by
 refine bL (args:=[_]) _ Tryz.func33 rfl Tryz.ntmps33 rfl fun av bor w0=>?_
 refine bt (p:=s.n=l.length∧s.n≤maxLen∧(0<l.length→s.p.isSome=true)) (fun w h=>⟨h.len_,h.max_,h.some_⟩) fun ⟨hl,hm,hp⟩=>?_
 simp only [maxLen] at hm
 repeat' (first|apply ab|apply aj|apply ai|refine ac ?_|apply aw|fail)
 refine be (ι:=LgtI l) (fun i=>⟨[(0,s.v),(3,.int .i64 (i.k:Nat))],[],fun w=>Chains w s l⟩) (fun i=>l.length-i.k) ⟨0,Nat.zero_le _,fun c hc=>(List.not_mem_nil hc).elim⟩ (aF ⟨rfl,rfl,trivial⟩ (aQ _) fun _ h=>h) fun i=>?_
 obtain ⟨k,hk,hok⟩:=i
 simp only
 repeat' (first|apply ab|apply aj|apply ai|refine ae ?_|refine ac ?_|refine bu ?_|refine cF ?_|refine bg ?_|apply ay|apply aw|apply aA|apply aV|(refine aO (ht:=?_) (hf:=?_);all_goals (intro hx_;first|have:=aY hx_|have:=aZ hx_)))
 · have hlt:k<l.length:=by omega
   have hp1:=hp ag
   obtain ⟨c,hc⟩:∃ c,l[k]?=some c:=⟨_,List.getElem?_eq_getElem hlt⟩
   have hcm:=List.mem_of_getElem? hc
   refine bt (p:=c.acts.n=c.actsL.length∧c.acts.n≤maxLen∧(0<c.actsL.length→c.acts.p.isSome=true)) (fun w h=>⟨(h.2 c hcm).len_,(h.2 c hcm).max_,(h.2 c hcm).some_⟩) fun ⟨al,am,ap⟩=>?_
   simp only [maxLen] at am
   repeat' (first|apply ab|fail)
   refine be (ι:=LgtJ c.actsL) (fun i=>⟨[(0,s.v),(3,.int .i64 (k:Nat)),(4,.int .i64 (i.j:Nat))],[],fun w=>Chains w s l⟩) (fun i=>c.actsL.length-i.j) ⟨0,Nat.zero_le _,fun c hc=>(List.not_mem_nil hc).elim⟩ (aF ⟨rfl,rfl,rfl,trivial⟩ (aQ _) fun _ h=>h) fun i=>?_
   obtain ⟨j,hj,hoj⟩:=i
   simp only
   by_cases hjl:j<c.actsL.length
   · have ap1:=ap ag
     obtain ⟨x,hx⟩:∃ x,c.actsL[j]?=some x:=⟨_,List.getElem?_eq_getElem hjl⟩
     repeat' (first|apply ab|apply aj|apply ai|refine ae ?_|refine ac ?_|refine aJ ?_|refine aH ?_|refine bu ?_|refine cP ?_|refine bg ?_|refine bm (h:=?_)|refine bI ?_|refine aE ?_|apply ay|apply aw|apply aA|apply aV|(refine bf (q:=k*6) ?_)|(refine cT ?_)|(refine bU (q:=k*6+1) (u:=c.acts.v) (hF:=fun w h=>(Chains.get h hc).2.2 1 _ rfl) ?_)|(refine bU (q:=k*6+2) (u:=c.keys.v) (hF:=fun w h=>(Chains.get h hc).2.2 2 _ rfl) ?_)|(refine bf (q:=j*20) ?_)|(refine bU (q:=j*20+9) (u:=x.to.v) (hF:=fun w h=>(Acts.get (h.2 c hcm) hx).2.2 9 _ rfl) ?_)|(refine bU (q:=j*20+15) (u:=x.wraps.v) (hF:=fun w h=>(Acts.get (h.2 c hcm) hx).2.2 15 _ rfl) ?_)|((fail_if_success (refine bA ?_));refine bj (ht:=?_) (hf:=?_);all_goals (intro hx_;first|have:=aY hx_|have:=aZ hx_))|(refine aO (ht:=?_) (hf:=?_);all_goals (intro hx_;first|have:=aY hx_|have:=aZ hx_)))
     all_goals first
      | (exfalso;omega)
      | exact aq (aB rfl rfl) ⟨false,rfl,fun h=>by cases h⟩
      | exact ⟨(⟨j+1,hjl,oJ hx hoj ag⟩:LgtJ c.actsL),(by show c.actsL.length-(j+1)<c.actsL.length-j;omega),aF ⟨rfl,rfl,rfl,trivial⟩ (aQ _) fun _ h=>h⟩
   · have hoa:∀ a∈c.actsL,a.to.n≤100∧a.wraps.n≤100:=by
      have e:j=c.actsL.length:=by omega
      rw [e,List.take_length] at hoj
      exact hoj
     repeat' (first|apply ab|apply aj|apply ai|refine ae ?_|refine ac ?_|refine aJ ?_|refine aH ?_|refine bu ?_|refine cP ?_|refine bg ?_|refine bm (h:=?_)|refine bI ?_|refine aE ?_|apply ay|apply aw|apply aA|apply aV|(refine bf (q:=k*6) ?_)|(refine cT ?_)|(refine bU (q:=k*6+1) (u:=c.acts.v) (hF:=fun w h=>(Chains.get h hc).2.2 1 _ rfl) ?_)|(refine bU (q:=k*6+2) (u:=c.keys.v) (hF:=fun w h=>(Chains.get h hc).2.2 2 _ rfl) ?_)|((fail_if_success (refine bA ?_));refine bj (ht:=?_) (hf:=?_);all_goals (intro hx_;first|have:=aY hx_|have:=aZ hx_))|(refine aO (ht:=?_) (hf:=?_);all_goals (intro hx_;first|have:=aY hx_|have:=aZ hx_)))
     all_goals first
      | (exfalso;omega)
      | exact aq (aB rfl rfl) ⟨false,rfl,fun h=>by cases h⟩
      | exact ⟨(⟨k+1,hlt,oJ hc hok ⟨hoa,by omega,by omega⟩⟩:LgtI l),(by show l.length-(k+1)<l.length-k;omega),aF ⟨rfl,rfl,trivial⟩ (aQ _) fun _ h=>h⟩
 · refine aq (aB rfl rfl) ⟨_,rfl,fun h=>?_⟩
   have e:k=l.length:=by omega
   rw [e,List.take_length] at hok
   have h4:=aY h
   exact ⟨hok,by omega⟩
structure RdX (s:SlV) (l:List ChainD) (s8:SlV) (L:List PostZ) (w:World):Prop where
 c:Chains w s l
 g:Glob w
 r:RowsD w 11 s8 (L.map PostZ.cells)
 b:BehZ w L
structure RdM where
 s8:SlV
 L:List PostZ
 hl:L.length≤81
 he:∀ q∈L,q.edL.length≤40
set_option maxRecDepth 20000 in
set_option maxHeartbeats 16000000 in
theorem qP (s:SlV) (l:List ChainD) (p:PostZ) (r:ByteArray) (hrg:∀ c∈l,ActsOk c.actsL) (hst:∀ c∈l,∀ a∈c.actsL,a.Str):Pu Tryz.prog 7 #[s.v,p.v,.string r] (fun w=>Chains w s l∧p.at_ w∧Glob w) (.bool true):=by
 refine aN (args:=[_,_,_]) _ Tryz.func7 rfl Tryz.ntmps7 rfl fun av bor w0=>?_
 have hli:=q6 s l
 refine bt (p:=(s.n=l.length∧s.n≤maxLen∧(0<l.length→s.p.isSome=true))∧p.ed.n=p.edL.length) (fun w h=>⟨⟨h.1.len_,h.1.max_,h.1.some_⟩,Ints.len_ h.2.1⟩) fun ⟨⟨hl,hm,hp⟩,hen⟩=>?_
 simp only [maxLen] at hm
 repeat' (first|apply ab|apply aj|apply ai|refine ae ?_|refine ac ?_|refine aM ?_|refine aL ?_|refine aJ ?_|refine aH ?_|refine bE ?_|refine cP ?_|refine bg ?_|refine bI ?_|refine aT fun _=>?_|refine aE ?_|apply ay|apply aA|(refine aC (hc:=qv) (hX:=fun w h=>h.2.2) ?_)|(refine bN (hc:=hli) (hX:=fun w h=>h.1) fun v1 X1 h1=>?_;obtain ⟨li,rfl,hli1⟩:=h1)|((fail_if_success (refine bA ?_));refine bj (ht:=?_) (hf:=?_);all_goals (intro hx_;skip))|(refine aO (ht:=?_) (hf:=?_);all_goals (intro hx_;first|have:=aY hx_|have:=aZ hx_)))
 all_goals try exact aq (aB rfl rfl) rfl
 have hli2:LightOk l:=hli1 (by cases li<;>simp_all)
 have hlen:∀ c∈l,c.actsL.length≤20:=fun c hc=>by have:=(hli2.all c hc).len;omega
 have hok:∀ x∈l,ChZ x:=fun x hx=>⟨⟨hrg x hx,by have:=hlen x hx;omega,fun y hy=>by have:=((hli2.all x hx).acts y hy).1;omega⟩,hst x hx⟩
 have hel:p.edL.length≤40:=by omega
 have hal:=yX s l (fun c hc a ha=>⟨hst c hc a ha,(hrg c hc).rng a ha⟩) hlen hli2.len
 rename_i b4 _
 refine CO (X':=fun w=>Chains w s l∧p.at_ w∧Glob w) (fun w h=>h.1) ?_
 refine ez (ι:=RdM) (fun m=>⟨[(0,s.v),(2,.string r),(7,.bool true),(8,m.s8.v)],[],RdX s l m.s8 m.L⟩) ?_ fun m=>?_
 · (refine bo [cel b4 84 p.cells] (fun w=>Chains w s l∧p.at_ w∧Glob w) ar ?_)
   all_goals refine aa 0 ?_
   all_goals refine aa 2 ?_
   all_goals (refine bS 1 3 (h:=?_) (h':=?_);(focus (((refine nM (hc:=hal) (hX:=fun w h=>h.1) ?_;rintro v R X' ⟨A,n,c,P,xs,rfl,rfl,hn,hxs,hP,hB⟩;have hnl:=hP.len);apply ab;refine ak ?_);all_goals ((refine ao 3 ?_;(refine bH (size:=11) (vs:=[p.v]) (css:=p.cells) (hsz:=by rfl) (hcs:=by rfl) fun _=>?_);apply ab;refine ak ?_);all_goals (refine ao 4 ?_;(refine aS (size:=11) (news:=p.cells) (q:=1) rfl rfl rfl rfl (fun _=>At.there _ (At.here _)) (fun w G=>bq G aU rfl rfl 1) ag (by simp only [maxLen];omega) rfl ?_ rfl ?_;(with_reducible rfl);intro A2 c2);apply ab;refine ak ?_);all_goals (refine aa 5 ?_);all_goals (refine aI ?_))));rotate_right;(focus (((refine bH (size:=11) (vs:=[p.v]) (css:=p.cells) (hsz:=by rfl) (hcs:=by rfl) fun _=>?_);apply ab;refine ak ?_);all_goals ((refine ao 1 ?_;(refine nM (hc:=hal) (hX:=fun w h=>h.1) ?_;rintro v R X' ⟨A,n,c,P,xs,rfl,rfl,hn,hxs,hP,hB⟩;have hnl:=hP.len);apply ab;refine ak ?_);all_goals (refine ao 4 ?_;(refine aS (size:=11) (news:=p.cells) (q:=1) rfl rfl rfl rfl (fun _=>At.here _) (fun w G=>bq G (.tail _ (.head _)) rfl rfl 1) ag (by simp only [maxLen];omega) rfl ?_ rfl ?_;(with_reducible rfl);intro A2 c2);apply ab;refine ak ?_);all_goals (refine aa 5 ?_);all_goals (refine aI ?_)))))
   all_goals
    repeat' (first|apply ab|fail)
    first
     | exact ⟨(⟨⟨A2,n+1,c2⟩,P++[p],by rw [List.length_append,List.length_singleton];omega,fun q hq=>by
       rcases List.mem_append.1 hq with hq|hq
       · exact Nat.le_trans (hP.ed q hq) (by decide)
       · rw [List.mem_singleton.1 hq];exact hel⟩:RdM),AF (r:=orow 84 11 (.slice A2 (n+1) c2) (n+1) (xs++p.cells)) ⟨rfl,rfl,rfl,rfl,trivial⟩ (by first|exact .cons _ (.cons_cons _ (List.nil_sublist _))|exact .cons_cons _ (List.nil_sublist _)) fun w h hr=>⟨h.1.1,h.1.2.2,bJ (e:=84) (xs:=(P++[p]).map PostZ.cells) (by
         have e:((P++[p]).map PostZ.cells).flatten=xs++p.cells:=by rw [hxs];simp
         rw [e]
         exact hr) (by rw [List.length_map,List.length_append,List.length_singleton,hn]) (cellsZ11 _),(hB w h.2).app fun q hq=>by rw [List.mem_singleton.1 hq];exact h.1.2.1⟩⟩
 obtain ⟨s8,L,hLl,hLe⟩:=m
 simp only
 refine bt (p:=s8.n=L.length∧s8.n≤maxLen∧(0<L.length→s8.p.isSome=true)) (fun w h=>⟨by simpa using RowsD.len h.r,Nat.le_trans (RowsD.cap h.r) (RowsD.max h.r),fun h0=>(RowsD.row h.r 0 L[0].cells (by simp [List.getElem?_eq_getElem h0])).2.1⟩) fun ⟨h8n,h8m,h8p⟩=>?_
 simp only [maxLen] at h8m
 repeat' (first|apply ab|apply aj|apply ai|refine ac ?_|apply aw|fail)
 refine be (ι:=Kth L.length) (fun i=>⟨[(0,s.v),(2,.string r),(7,.bool true),(8,s8.v),(9,.int .i64 (i.k:Nat))],[],RdX s l s8 L⟩) (fun i=>L.length-i.k) ⟨0,Nat.zero_le _⟩ (aF ⟨rfl,rfl,rfl,rfl,rfl,trivial⟩ (aQ _) fun _ h=>h) fun i=>?_
 obtain ⟨k,hk⟩:=i
 simp only
 by_cases hlt:k<L.length
 · have h8p':=h8p ag
   obtain ⟨q,hq⟩:∃ q,L[k]?=some q:=⟨_,List.getElem?_eq_getElem hlt⟩
   have hqm:=List.mem_of_getElem? hq
   have hqe:=hLe q hqm
   have hrow:∀ w,RdX s l s8 L w→q.cells.length=11∧s8.p.isSome=true∧∀ i u,q.cells[i]?=some u→CellAt w s8.p (k*11+i) u:=fun w h=>RowsD.row h.r k q.cells (by simp [hq])
   have c1:=yq s l q r (fun c hc=>(hok c hc).ok) ag
   have c2:=qI s l q r hok ag
   have c3:=jQ s l q r (fun c hc=>(hok c hc).ok) ag
   have c4:=gL s l q r hok ag
   have c5:=fun z1 z2=>xm z1 z2 (histZ l q r)
   obtain ⟨nn,bb,e⟩:∃ nn bb,lastZ l q r=.tuple #[.int .i64 nn,.bool bb]:=⟨_,_,rfl⟩
   rw [e] at c1 c2
   generalize histZ l q r=H at *
   clear e
   repeat' (first|refine ax (bK true rfl rfl (decide_eq_true ag)) rfl aR rfl ?_|apply ab|apply aj|apply ai|refine ae ?_|refine ac ?_|refine bg ?_|refine bC ?_|refine aE ?_|apply ay|apply aw|(refine bf (q:=k*11) ?_)|(refine bD (cs:=q.cells) (hF:=hrow) ?_)|(refine aC (hc:=c1) (hX:=fun w h=>⟨⟨h.c,h.b q hqm⟩,h.g⟩) ?_)|(refine aC (hc:=c2) (hX:=fun w h=>⟨h.c,h.b q hqm⟩) ?_)|fail)
   have hbb:(bb != bb)=false:=by cases bb<;>rfl
   (refine bo [] (RdX s l s8 L) ar ?_)
   all_goals refine az 0 ?_
   all_goals refine az 1 ?_
   all_goals (refine az 2 (hy:=by (apply kn false;rfl;rfl;simp)) ?_)
   all_goals refine az 3 ?_
   all_goals refine az 4 ?_
   all_goals refine az 5 ?_
   all_goals (refine az 6 (hy:=by (apply B0 false;rfl;rfl;exact hbb)) ?_)
   all_goals refine az 7 ?_
   all_goals refine az 8 ?_
   all_goals refine az 9 ?_
   all_goals refine az 10 ?_
   all_goals refine az 11 ?_
   all_goals (refine az 12 (hy:=by (apply bp (q:=k*11);rfl;rfl;omega;omega;assumption;omega)) ?_)
   all_goals (refine az 13 (hy:=by (apply gQ (cs:=q.cells);rfl;exact hrow)) ?_)
   all_goals refine az 14 ?_
   all_goals refine az 16 ?_
   all_goals refine az 17 ?_
   all_goals refine az 18 ?_
   all_goals (refine az 19 (hy:=by (apply bp (q:=k*11);rfl;rfl;omega;omega;assumption;omega)) ?_)
   all_goals (refine az 20 (hy:=by (apply gQ (cs:=q.cells);rfl;exact hrow)) ?_)
   all_goals refine az 21 ?_
   all_goals (refine ao 15 ?_;(refine bN (hc:=c3) (hX:=fun w h=>⟨⟨h.c,h.b q hqm⟩,h.g⟩) fun v1 X1 h1=>?_;obtain ⟨z1,rfl,hz1⟩:=h1);apply ab;refine dA ?_)
   all_goals (refine ao 22 ?_;(refine bN (hc:=c4) (hX:=fun w h=>⟨h.1.c,h.1.b q hqm⟩) fun v1 X1 h1=>?_;obtain ⟨z2,rfl,hz2⟩:=h1);apply ab;refine dA ?_)
   all_goals (refine ao 23 ?_;(refine aC (hc:=c5 z1 z2) (hX:=fun w h=>⟨hz1 w h.1.2,hz2 w h.2⟩) ?_);apply ab;refine dA ?_)
   all_goals (refine az 24 (hy:=by (apply vE false;rfl;rfl)) ?_)
   all_goals refine az 25 ?_
   all_goals (refine aI ?_)
   all_goals
    repeat' (first|apply ab|apply ai|refine ae ?_|refine ac ?_|refine bm (h:=?_)|refine aD ?_|apply ay|fail)
    first
     | exact ⟨(⟨k+1,hlt⟩:Kth L.length),(by show L.length-(k+1)<L.length-k;omega),aF ⟨rfl,rfl,rfl,rfl,rfl,trivial⟩ (aQ _) fun w h=>h.1.1⟩
 · repeat' (first|refine ax (bK false rfl rfl (decide_eq_false ag)) rfl aR rfl ?_|apply ab|apply aj|apply ai|refine ae ?_|refine ac ?_|refine bg ?_|refine aD ?_|apply aA|apply aV|fail)
   exact aq (aB rfl rfl) rfl
end Go.Proofs.YtfnjklhjngphmaaGreatDoor
namespace Go.Proofs.YtfnjklhjngphmaaGreatDoor
open Go Go.Proofs Sy Go.RowKit Go.Deep Go.ChangeShapes
section
variable {H:Type} {enc:TypeId×Value→H} {P:Program} {w:World} {base:Nat} {spare:Nat→Bool} {held:Bool}
def Reached (P:Program) (t:TypeId) (d:DataW H):Prop:=∀ n∈DataW.weights P t d,n≤reachBytes
theorem gi {e:TypeId}:∀ {l:List (DataW H)} {d:DataW H},d∈l→∀ n∈DataW.weights P e d,n∈DataW.weightsAll P e l
 | [],d,h,n,hn=>by cases h
 | a::l,d,h,n,hn=>by
  rw [DataW.weightsAll,List.mem_append]
  rcases List.mem_cons.1 h with rfl|h
  · exact .inl hn
  · exact .inr (gi h n hn)
theorem fY {α:Type} [Inhabited α] {t e:TypeId} {size bytes fuel:Nat} {cs:List Value} {x:DataW H×List MemPlace} (ht:P.underlying t=some (.slice e)) (hc:P.cellsOf e=size) (hby:P.bytesOf e=bytes) (cells:α→List Value) (Q:α→Prop)
  (each:∀ n cs y,DataW.trod enc P w base spare held n e cs=some y→Reached P e y.1→∃ a,cs=cells a∧Q a) (h:DataW.trod enc P w base spare held fuel t cs=some x) (hW:Reached P t x.1) :
  ∃ (s:SlV) (l:List α),cs=[s.v]∧RowsD w size s (l.map cells)∧(∀ a∈l,Q a)∧s.n*bytes≤reachBytes:=by
 rcases open_slice ht h with ⟨rfl,_⟩|⟨a,len,cap,m,n,D,Pl,rfl,hb,hl,hm,hmm,hx,hi⟩
 · exact ⟨⟨none,0,0⟩,[],rfl,bz w size,by simp,by simp⟩
 · have hlm:len≤m:=by rw [hmm];split<;>omega
   have hel:∀ i,i<len→Reached P e (D i):=fun i hil k hk=>hW k (by
    rw [hx]
    simp only [DataW.weights,ht]
    exact List.mem_cons_of_mem _ (List.mem_append_left _ (gi (List.mem_map.2 ⟨i,List.mem_range.2 hil,rfl⟩) k hk)))
   have h1:∀ i,i<len→∃ z:α,w.cells? base (a.add (i*size)) size=some (cells z)∧Q z:=fun i hil=>by
    obtain ⟨cs',h2,h3⟩:=hi i ag
    obtain ⟨z,rfl,hz⟩:=each _ _ _ h3 (hel i hil)
    rw [hc] at h2
    exact ⟨z,h2,hz⟩
   have hn:=hW ((((List.range len).map D).length+((List.range (m-len)).map fun j=>D (len+j)).length)*P.bytesOf e) (by rw [hx];simp [DataW.weights,ht])
   rw [hby,List.length_map,List.length_range,Nat.add_mul] at hn
   obtain ⟨F,hF⟩:=choose_lt h1
   refine ⟨⟨some a,len,cap⟩,(List.range len).map F,rfl,⟨by simp,hl,hm,fun i cs' hcs=>?_⟩,fun z hz=>?_,by show len*bytes≤_;omega⟩
   · simp only [List.map_map,List.getElem?_map] at hcs
     have hil:i<len:=by
      cases hr:(List.range len)[i]? with
      | none=>rw [hr] at hcs;cases hcs
      | some k=>have:=(List.getElem?_eq_some_iff.1 hr).1;simpa using this
     rw [List.getElem?_range hil] at hcs
     simp only [Option.map_some,Function.comp_apply,Option.some.injEq] at hcs
     subst hcs
     obtain ⟨_,hlen,hat⟩:=World.cells?_some (hF i hil).1
     refine ⟨hlen,rfl,fun j u hj=>⟨rfl,fun a' ha'=>?_⟩⟩
     obtain rfl:a=a':=Option.some.inj ha'
     rw [←Go.Deep.add_add,hat j (by rw [←hlen];exact (List.getElem?_eq_some_iff.1 hj).1),hj]
   · simp only [List.mem_map,List.mem_range] at hz
     obtain ⟨i,hil,rfl⟩:=hz
     exact (hF i hil).2
theorem oi {t:TypeId} {fs:Array Field} {fuel:Nat} {cs:List Value} {x:DataW H×List MemPlace} (ht:P.underlying t=some (.struct fs)) (h:DataW.trod enc P w base spare held fuel t cs=some x) (hW:Reached P t x.1) {i:Nat} {f:Field} (hf:fs[i]?=some f) {off k:Nat} {t':TypeId} (ho:f.offset=off) (htt:f.type=t') (hk:P.cellsOf t'=k) :
  ∃ n y,DataW.trod enc P w base spare held n t' ((cs.drop off).take k)=some y∧Reached P t' y.1:=by
 obtain ⟨xs,n,_,hx1,_,hlen,hg⟩:=DataW.trod_struct ht h
 have h1:=hg i f hf
 have hi:i<fs.size:=(Array.getElem?_eq_some_iff.1 hf).1
 subst ho;subst htt;subst hk
 rw [List.getElem?_eq_getElem (by omega)] at h1
 refine ⟨n,_,h1,fun q hq=>hW q ?_⟩
 rw [hx1]
 simp only [DataW.weights,ht]
 refine DataW.weights_mem_each (j:=i) (t:=f.type) (d:=(xs[i]'(by omega)).1) (by rw [List.getElem?_map];simp [hf]) (by rw [List.getElem?_map,List.getElem?_eq_getElem (by omega)];rfl) q hq
def ActD.Room (a:ActD):Prop:=a.to.n*16≤140737488351232∧a.wraps.n*64≤140737488351232
theorem zb {fuel:Nat} {a:ActD} {x:DataW H×List MemPlace} (h:DataW.trod enc Tryz.prog w base spare held fuel 46 a.cells=some x) (hW:Reached Tryz.prog 46 x.1):a.Room:=by
 obtain ⟨n9,y9,h9,w9⟩:=oi (i:=9) (off:=9) (k:=1) (t':=39) Tryz.underlying46 h hW rfl rfl rfl ar
 obtain ⟨n13,y13,h13,w13⟩:=oi (i:=13) (off:=15) (k:=1) (t':=42) Tryz.underlying46 h hW rfl rfl rfl ar
 obtain ⟨s9,l9,e9,_,_,r9⟩:=fY (α:=ByteArray) Tryz.underlying39 (size:=1) (bytes:=16) ar ar (fun s=>[.string s]) (fun _=>True) (fun n cs y hy _=>by obtain ⟨s,h1,_⟩:=cu hy;exact ⟨s,h1,trivial⟩) h9 w9
 haveI:Inhabited WrapD:=⟨⟨0,0,BoxD.zero⟩⟩
 obtain ⟨s13,l13,e13,_,_,r13⟩:=fY (α:=WrapD) Tryz.underlying42 (size:=5) (bytes:=64) ar ar WrapD.cells (fun _=>True) (fun n cs y hy _=>by obtain ⟨s,h1,_⟩:=mR hy;exact ⟨s,h1,trivial⟩) h13 w13
 have e1:a.to.v=s9.v:=by simpa [ActD.cells] using e9
 have e2:a.wraps.v=s13.v:=by simpa [ActD.cells] using e13
 have f1:a.to.n=s9.n:=by
  cases hk:a.to;cases s9;rw [hk] at e1;simp [SlV.v] at e1;exact e1.2.1
 have f2:a.wraps.n=s13.n:=by
  cases hk:a.wraps;cases s13;rw [hk] at e2;simp [SlV.v] at e2;exact e2.2.1
 have hr:reachBytes=140737488351232:=rfl
 exact ⟨by rw [f1,←hr];exact r9,by rw [f2,←hr];exact r13⟩
def ActD.Good (a:ActD):Prop:=a.Rng∧a.target.size≤maxLen∧a.Room
theorem ActD.Good.sm {a:ActD} (h:a.Good):a.Sm:=⟨h.2.2.1,h.2.2.2,h.2.1⟩
theorem A6 {l:List ActD} (h:∀ a∈l,a.Good):ActsOk l:=⟨fun a ha=>(h a ha).1,fun a ha=>(h a ha).sm⟩
end
end Go.Proofs.YtfnjklhjngphmaaGreatDoor
namespace Go.Proofs.YtfnjklhjngphmaaGreatDoor
open Go Go.Proofs Sy
theorem CellAt.same {w:World} {p:Option Addr} {q:Nat} {u v:Value} (h1:CellAt w p q u) (h2:CellAt w p q v):u=v:=by
 obtain ⟨a,ha⟩:=Option.isSome_iff_exists.1 h1.1
 have:=(h1.2 a ha).symm.trans (h2.2 a ha)
 exact Option.some.inj this
theorem Strs.same {w:World} {s:SlV} {l m:List ByteArray} (h1:Strs w s l) (h2:Strs w s m):l=m:=by
 have hl:l.length=m.length:=h1.len_.symm.trans h2.len_
 apply List.ext_getElem hl
 intro i i1 i2
 have a1:=h1.at_ (List.getElem?_eq_getElem i1)
 have a2:=h2.at_ (List.getElem?_eq_getElem i2)
 exact Value.string.inj (CellAt.same a1 a2)
section
variable {H:Type} {enc:TypeId×Value→H} {P:Program} {w:World} {base:Nat} {spare:Nat→Bool} {held:Bool}
theorem SlV.v_inj {s t:SlV} (h:s.v=t.v):s=t:=by
 obtain ⟨p,n,c⟩:=s
 obtain ⟨p',n',c'⟩:=t
 simp only [SlV.v,Value.slice.injEq] at h
 obtain ⟨rfl,rfl,rfl⟩:=h
 rfl
theorem za {fuel:Nat} {a:ActD} {x:DataW H×List MemPlace} (h:DataW.trod enc Tryz.prog w base spare held fuel 46 a.cells=some x) (ha:a.at_ w):a.Str:=by
 obtain ⟨n0,y0,h0⟩:=cg (i:=0) (off:=0) (k:=1) (t':=9) Tryz.underlying46 h rfl rfl rfl ar
 obtain ⟨n6,y6,h6⟩:=cg (i:=6) (off:=6) (k:=1) (t':=9) Tryz.underlying46 h rfl rfl rfl ar
 obtain ⟨n8,y8,h8⟩:=cg (i:=8) (off:=8) (k:=1) (t':=9) Tryz.underlying46 h rfl rfl rfl ar
 obtain ⟨n9,y9,h9⟩:=cg (i:=9) (off:=9) (k:=1) (t':=39) Tryz.underlying46 h rfl rfl rfl ar
 obtain ⟨n10,y10,h10⟩:=cg (i:=10) (off:=10) (k:=1) (t':=9) Tryz.underlying46 h rfl rfl rfl ar
 obtain ⟨s0,e0,b0⟩:=cu h0
 obtain ⟨s6,e6,b6⟩:=cu h6
 obtain ⟨s8,e8,b8⟩:=cu h8
 obtain ⟨s9,l9,e9,r9,b9⟩:=mj h9
 obtain ⟨s10,e10,b10⟩:=cu h10
 simp [ActD.cells] at e0 e6 e8 e9 e10
 have e9':=SlV.v_inj e9
 subst e0;subst e6;subst e8;subst e10
 rw [←e9'] at r9
 have e:=Strs.same ha.1 r9
 exact ⟨b0,b6,b8,b10,by rw [e];exact b9⟩
end
end Go.Proofs.YtfnjklhjngphmaaGreatDoor
namespace Go.Proofs.YtfnjklhjngphmaaGreatDoor
open Go Go.Proofs Sy Go.RowKit Go.Deep Go.ChangeShapes
section
variable {H:Type} {enc:TypeId×Value→H} {P:Program} {w:World} {base:Nat} {spare:Nat→Bool} {held:Bool}
theorem qV {fuel:Nat} {cs:List Value} {x:DataW H×List MemPlace} (h:DataW.trod enc Tryz.prog w base spare held fuel 28 cs=some x) (hW:Reached Tryz.prog 28 x.1):∃ (s:SlV) (l:List ActD),cs=[s.v]∧Acts w s l∧∀ a∈l,a.Good∧a.Str:=by
 haveI:Inhabited ActD:=⟨ActD.zero⟩
 obtain ⟨s,l,h1,h2,h3,_⟩:=fY (α:=ActD) Tryz.underlying28 (size:=20) (bytes:=Tryz.prog.bytesOf 46) ar rfl ActD.cells (fun a=>a.at_ w∧a.Good∧a.Str) (fun n cs y hy hw=>by
  obtain ⟨a,rfl,h1,h2,h3⟩:=xJ hy
  exact ⟨a,rfl,h1,⟨h2,h3,zb hy hw⟩,za hy h1⟩) h hW
 exact ⟨s,l,h1,⟨h2,fun a ha=>(h3 a ha).1⟩,fun a ha=>(h3 a ha).2⟩
theorem pu {fuel:Nat} {cs:List Value} {x:DataW H×List MemPlace} (h:DataW.trod enc Tryz.prog w base spare held fuel 31 cs=some x) (hW:Reached Tryz.prog 31 x.1):∃ c:ChainD,cs=c.cells∧c.at_ w∧c.id.size≤maxLen∧∀ a∈c.actsL,a.Good∧a.Str:=by
 have hl:=jj Tryz.underlying31 (k:=6) ar h
 obtain ⟨n0,y0,h0⟩:=cg (i:=0) (off:=0) (k:=1) (t':=9) Tryz.underlying31 h rfl rfl rfl ar
 obtain ⟨n1,y1,h1,w1⟩:=oi (i:=1) (off:=1) (k:=1) (t':=28) Tryz.underlying31 h hW rfl rfl rfl ar
 obtain ⟨n2,y2,h2⟩:=cg (i:=2) (off:=2) (k:=1) (t':=29) Tryz.underlying31 h rfl rfl rfl ar
 obtain ⟨n3,y3,h3⟩:=cg (i:=3) (off:=3) (k:=1) (t':=9) Tryz.underlying31 h rfl rfl rfl ar
 obtain ⟨n4,y4,h4⟩:=cg (i:=4) (off:=4) (k:=1) (t':=3) Tryz.underlying31 h rfl rfl rfl ar
 obtain ⟨n5,y5,h5⟩:=cg (i:=5) (off:=5) (k:=1) (t':=4) Tryz.underlying31 h rfl rfl rfl ar
 match cs,hl with
 | [c0,c1,c2,c3,c4,c5],_ =>
  obtain ⟨s0,e0,b0⟩:=cu h0
  obtain ⟨s1,l1,e1,b1,r1⟩:=qV h1 w1
  obtain ⟨s2,e2⟩:=sK Tryz.underlying29 h2
  obtain ⟨s3,e3,b3⟩:=cu h3
  obtain ⟨s4,e4,b4⟩:=cH h4
  obtain ⟨s5,e5⟩:=lE h5
  simp at e0 e1 e2 e3 e4 e5
  exact ⟨⟨s0,s1,s2,s3,s4,s5,l1⟩,by simp [ChainD.cells,e0,e1,e2,e3,e4,e5],b1,b0,r1⟩
theorem nX {fuel:Nat} {cs:List Value} {x:DataW H×List MemPlace} (h:DataW.trod enc Tryz.prog w base spare held fuel 64 cs=some x) (hW:Reached Tryz.prog 64 x.1):∃ (s:SlV) (l:List ChainD),cs=[s.v]∧Chains w s l∧∀ c∈l,c.id.size≤maxLen∧∀ a∈c.actsL,a.Good∧a.Str:=by
 haveI:Inhabited ChainD:=⟨ChainD.zero⟩
 obtain ⟨s,l,h1,h2,h3,_⟩:=fY (α:=ChainD) Tryz.underlying64 (size:=6) (bytes:=Tryz.prog.bytesOf 31) ar rfl ChainD.cells (fun c=>c.at_ w∧c.id.size≤maxLen∧∀ a∈c.actsL,a.Good∧a.Str) (fun n cs y hy hw=>pu hy hw) h hW
 exact ⟨s,l,h1,⟨h2,fun c hc=>(h3 c hc).1⟩,fun c hc=>(h3 c hc).2⟩
end
end Go.Proofs.YtfnjklhjngphmaaGreatDoor
namespace Go.Proofs.YtfnjklhjngphmaaGreatDoor
open Go Go.Proofs Sy Go.RowKit Go.Deep Go.ChangeShapes Go.WideShapes
theorem laidOut:laidOutB Tryz.prog=true:=by kernel_rfl
theorem gK {H:Type} {enc:TypeId×Value→H} {P:Program} (hl:laidOutB P=true) {W W':World} {sp:Nat→Bool}:∀ (ts:List TypeId) (vs:List Value) (ds:List (DataW H)) (ps:List MemPlace),(∀ t∈ts,P.readableRec t=true∧t<P.types.size) →
  DataW.TrodAll enc P W 0 (fun _=>true) true ts vs ds ps→(∀ p∈ps,W.sameAt W' p)→(∀ p∈ps,sp p.block=true)→DataW.TrodAll enc P W' 0 sp true ts vs ds ps
 | [],vs,ds,ps,_,h,_,_=>by
  obtain ⟨rfl,rfl,rfl⟩:=trodAll_nil h
  exact trodAll_mk0
 | t::ts,vs,ds,ps,ht,h,hs,hp=>by
  obtain ⟨v,vs',d,ds',p,q,rfl,rfl,rfl,h1,h2⟩:=trodAll_cons h
  exact trodAll_cons_mk (WideElems.Trod_stays hl (ht t aU).1 (ht t aU).2 h1 (fun x hx=>hs x (List.mem_append_left _ hx)) (fun x hx=>hp x (List.mem_append_left _ hx)))
   (gK hl ts vs' ds' q (fun u hu=>ht u (List.mem_cons_of_mem _ hu)) h2 (fun x hx=>hs x (List.mem_append_right _ hx)) (fun x hx=>hp x (List.mem_append_right _ hx)))
theorem vi {X:World→Prop} {w:World} (hX:X w) (hk:∀ w':World,(∀ k,k<w.heap.size→w'.heap[k]?=w.heap[k]?)→X w'):Gam [] (fps []) w [] X w :=
 ⟨Fr.refl _ _,fun k hk=>by simp at hk,by simp [fps],fun k hk=>by simp [fps] at hk,fun r hr=>by simp at hr,⟨fun k=>k<w.heap.size,fun k hk=>⟨hk,by simp [fps]⟩,hk⟩⟩
theorem p8 {P:Program} {f:FuncId} {args:Array Value} {X:World→Prop} {v:Value} {w:World} (h:Pu P f args X v) (hX:X w) (hk:∀ w':World,(∀ k,k<w.heap.size→w'.heap[k]?=w.heap[k]?)→X w') :
  Calls P f args w fun e w'=>e=.returned v∧Below w.heap.size w w':=by
 unfold Pu at h
 exact (Ct.run h w [] (vi hX hk)).mono fun e w' ⟨u,R,X',he,⟨hu,hR⟩,G⟩=>⟨by rw [he,hu],G.fr.below⟩
theorem laidK:Rows.laid_agora_sum_constants (H:=Unit)=Lib.tabData .u32 kC:=by kernel_rfl
theorem laidI:Rows.laid_agora_sum_initial (H:=Unit)=Lib.tabData .u32 iniC:=by kernel_rfl
theorem l4 {W:World} {name:String} {zs:List Int} {g:Nat} (h:Lib.TabIs Tryz.prog W name .u32 zs) (hg:Tryz.prog.globalNamed name=some g):CellsAt g (u32s zs) W:=fun j v hj=>by
 have hj':j<zs.length:=by have:=(List.getElem?_eq_some_iff.1 hj).1;simpa [u32s] using this
 rw [h.cell hg j hj']
 simp only [u32s,List.getElem?_map,List.getElem?_eq_getElem hj',Option.map_some,Option.some.injEq] at hj
 rw [List.getD_eq_getElem?_getD,List.getElem?_eq_getElem hj',←hj]
 rfl
theorem A7 {W:World} (h:laidMet Tryz.prog [("agora/sum.constants",Rows.laid_agora_sum_constants),("agora/sum.initial",Rows.laid_agora_sum_initial)] W):Glob W:=by
 rw [laidK,laidI] at h
 have h1:=Lib.tabIs_of_head (g:=1) (t:=200) (e:=148) (n:=64) ar ar Tryz.underlying200 Tryz.underlying148 ar ar h
 obtain ⟨ps,⟨g',t',cs,fuel,p,q,hg',ht',hvar,hd,hrest,hpq⟩,_⟩:=h
 obtain ⟨g2,t2,cs2,fuel2,p2,q2,hg2,ht2,hvar2,hd2,_,_⟩:=hrest
 have h2:Lib.TabIs Tryz.prog W "agora/sum.initial" .u32 iniC:=by
  have e1:Tryz.prog.globalNamed "agora/sum.initial"=some 0:=by kernel_rfl
  have e2:(Tryz.prog.globals[0]?).map (·.type)=some 149:=by kernel_rfl
  obtain rfl:=Option.some.inj (e1.symm.trans hg2)
  obtain rfl:=Option.some.inj (e2.symm.trans ht2)
  unfold Lib.TabIs
  rw [hvar2,←Lib.cells_of_tab Tryz.underlying149 Tryz.underlying148 ar ar hd2]
 exact ⟨l4 h2 ar,l4 h1 ar⟩
def layRow (l:List Value):Obj→Obj
 | .cells _ t frozen=>.cells l.toArray t frozen
 | o=>o
noncomputable def laidWorld (os:Os):World :=
 { World.holding Tryz.prog os ⟨#[],#[],[]⟩ with heap:=((World.holding Tryz.prog os ⟨#[],#[],[]⟩).heap.modify 0 (layRow (u32s iniC))).modify 1 (layRow (u32s kC)) }
end Go.Proofs.YtfnjklhjngphmaaGreatDoor
