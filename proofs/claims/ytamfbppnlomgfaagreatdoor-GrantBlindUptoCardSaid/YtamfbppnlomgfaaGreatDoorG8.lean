/- Joined. -/
import Derived.Test.YtamfbppnlomgfaaGreatDoorG7
import Derived.Test.YtamfbppnlomgfaaGreatDoorCards
import Derived.Test.YtamfbppnlomgfaaGreatDoorTie
import Derived.WalkKit
import Derived.ProofKit
import Derived.Deep.DeepHandedRow
import Derived.Lib.LaidTab
set_option linter.unusedVariables false
set_option linter.unusedSimpArgs false
set_option maxHeartbeats 16000000
namespace Go.Proofs.YtamfbppnlomgfaaGreatDoor
open Go Go.Proofs Sy Tryz
set_option maxRecDepth 20000 in
theorem mN (k:X9) (c:Xb) (kl:List Xg) (a:Xa) (text:ByteArray) (hc:Xr c.actsL) (hcl:c.actsL.length≤1000000) (hct:∀ x∈c.actsL,x.to.n≤1000000) (hkd:(postK a.kind||decide (a.kind=14))=true) (hs1:1≤a.scope) (hs3:a.scope≤3) (hto:a.to=⟨none,0,0⟩) (htl:a.toL=[]) (hown:ownsB k c kl=true)
  (hfr:freshV c (c.acts.n:Int) a.scope a.group []=true) :
  Pu prog 15 #[k.v,c.v,a.v,.string text] (fun w=>((c.at_ w∧Keyz w c.keys kl)∧a.at_ w)∧Xc w) (.tuple #[Xa.zero.v,.int .i64 11]):=by
 refine ax func15 ntmps15 fun av bor w0=>?_
 have hwr:=fy a.kind
 rw [hkd] at hwr
 have how:=ky k c kl
 rw [hown] at how
 have hdr:=gg c a.kind a.time
 have hcl':=dr a.to (strs []) (by rw [hto];decide) (gx _)
 have hcu:=tk k c a hc hcl hct (by rw [htl];decide) (by rw [htl];exact hfr)
 have hg1:¬ a.scope<0:=by omega
 have hg2:¬ (3:Int)<a.scope:=by omega
 have hg3:¬ a.scope=0:=by omega
 repeat' (first|refine aL ?_ (bR false rfl rfl (Zd hg1))|refine ij (hab:=hg2) ?_|refine dB (hab:=hg3) ?_|(refine ae (hc:=hwr) ?_)|(refine ae (hc:=how) (hX:=fun _ h=>h.1.1) ?_)|(refine ae (hc:=hdr) ?_)|(refine aU (hc:=hcl') (hX:=fun w h=>by have h1:=h.1.2.1;rw [htl] at h1;exact h1) fun v1 X1 h1=>?_;obtain ⟨s,rfl,hn1,hw1⟩:=h1)|(refine ae (hc:=hcu) (hX:=fun w h=>⟨⟨h.1.1.1.1,h.1.2⟩,h.1.1.2⟩) ?_)|refine gs ?_|refine gs1 fun _=>?_|(refine aI (cs:=Xa.zero.cells) (hf:=by rfl) ?_)|(refine gp ?_ ?_<;>intro hx_ this)|fail)
 exact aa (bn rfl rfl rfl aB (by rfl)) rfl
def nonceV (c:Xb) (S text:ByteArray):ByteArray:=shaV (textV ⟨#[112,111,115,116]⟩++textV S++numV (c.acts.n:Nat)++textV c.prev++textV text)
def sealD (c:Xb) (a:Xa) (ep:Int) (b:Xo) (s:Xh):Xa:={ draftV c a.kind a.time with object:=a.object,scope:=a.scope,group:=a.group,to:=s,body:=b,epoch:=ep }
def SealAt (k:X9) (c:Xb) (a:Xa) (ep:Int) (b:Xo) (u:Value) (X:World→Prop):Prop:=∃ s s1 s2:Xh,s.n=0∧s1.n=(actSignV k (sealD c a ep b s)).to.n∧s2.n=(actSignV k (sealD c a ep b s)).wraps.n∧u=.tuple #[((actSignV k (sealD c a ep b s)).re s1 s2).v,.int .i64 0]∧∀ w,X w→((actSignV k (sealD c a ep b s)).re s1 s2).at_ w
set_option maxRecDepth 20000 in
theorem lA (k:X9) (c:Xb) (kl:List Xg) (a x:Xa) (y:Xg) (text S Nn:ByteArray) (b:Xo) (hc:Xr c.actsL) (hcl:c.actsL.length≤1000000) (hct:∀ x∈c.actsL,x.to.n≤1000000) (hkd:(postK a.kind||decide (a.kind=14))=true) (hs1:1≤a.scope) (hs3:a.scope≤3) (hto:a.to=⟨none,0,0⟩) (htl:a.toL=[]) (hown:ownsB k c kl=true)
  (hfr:freshV c (c.acts.n:Int) a.scope a.group []=false) (hg:0<(grantV c.actsL (c.acts.n:Int) a.scope a.group).2) (hk:keyV c.acts.n kl ((grantV c.actsL (c.acts.n:Int) a.scope a.group).1:Nat)=some y) (hy:y.public_=k.p) (hx:epochO c.actsL (c.acts.n:Int) a.scope a.group=some x)
  (hks:k.s<9223372036854775808) (hxe:x.epoch<9223372036854775808) (hgs:a.group.size≤1000) (hts:text.size≤1000000) (hpv:c.prev.size≤1000000)
  (hS:secretV k a.scope a.group x.epoch=S) (hN:nonceV c S text=Nn) (hb:sealV S Nn text=b)
  (hrt:∀ s:Xh,s.n=0→rightB (sealD c a x.epoch b s)=true) (hft:∀ s:Xh,s.n=0→fitsV c (sealD c a x.epoch b s) (idxV c.actsL a.object)=true) (hrg:∀ s:Xh,s.n=0→(sealD c a x.epoch b s).Rng∧(sealD c a x.epoch b s).Sm) :
  Mk prog 15 #[k.v,c.v,a.v,.string text] (fun w=>((c.at_ w∧Keyz w c.keys kl)∧a.at_ w)∧Xc w) (SealAt k c a x.epoch b):=by
 refine cF func15 ntmps15 fun av bor w0=>?_
 refine aK (p:=c.acts.n=c.actsL.length) (fun w h=>h.1.1.1.len_) fun hcn=>?_
 have hwr:=fy a.kind
 rw [hkd] at hwr
 have how:=ky k c kl
 rw [hown] at how
 have hdr:=gg c a.kind a.time
 have hcl':=dr a.to (strs []) (by rw [hto];decide) (gx _)
 have hcu:=tj k c kl a x y hc hcl hct (by rw [htl];decide) (by rw [htl];exact hfr) hg hk hy hx
 have hse:=gB k a.scope a.group x.epoch hks ab hxe ab
 rw [hS] at hse
 have hSs:S.size=32:=by rw [←hS];exact ei _ _ _ _
 have hNs:Nn.size=32:=by rw [←hN];exact dS _
 have hbx:=nE S Nn text ab
 rw [hb] at hbx
 have n1:=aq ⟨#[112,111,115,116]⟩
 have n2:=aq S
 have n3:=ar (c.acts.n:Nat)
 have n4:=aq c.prev
 have n5:=aq text
 have n6:(⟨#[112,111,115,116]⟩:ByteArray).size=4:=rfl
 have t1:=bD ⟨#[112,111,115,116]⟩ ab
 have t2:=bD S ab
 have t3:=bF (c.acts.n:Nat) ab
 have t4:=bD c.prev ab
 have t5:=bD text ab
 rw [nonceV] at hN
 generalize textV ⟨#[112,111,115,116]⟩=a1 at *
 generalize textV S=a2 at *
 generalize numV (c.acts.n:Nat)=a3 at *
 generalize textV c.prev=a4 at *
 generalize textV text=a5 at *
 have m2:(a1++a2).size=a1.size+a2.size:=Zb
 have m3:(a1++a2++a3).size=a1.size+a2.size+a3.size:=by rw [Zb,m2]
 have m4:(a1++a2++a3++a4).size=a1.size+a2.size+a3.size+a4.size:=by rw [Zb,m3]
 have m5:(a1++a2++a3++a4++a5).size=a1.size+a2.size+a3.size+a4.size+a5.size:=by rw [Zb,m4]
 have hsh:=gy (a1++a2++a3++a4++a5) ab
 rw [hN] at hsh
 have hg1:¬ a.scope<0:=by omega
 have hg2:¬ (3:Int)<a.scope:=by omega
 have hg3:¬ a.scope=0:=by omega
 repeat' (first|refine aL ?_ (bR false rfl rfl (Zd hg1))|refine ij (hab:=hg2) ?_|refine dB (hab:=hg3) ?_|(refine ae (hc:=hwr) ?_)|(refine ae (hc:=how) (hX:=fun _ h=>h.1.1) ?_)|(refine ae (hc:=hdr) ?_)|(refine aU (hc:=hcl') (hX:=fun w h=>by have h1:=h.1.2.1;rw [htl] at h1;exact h1) fun v1 X1 h1=>?_;obtain ⟨s,rfl,hn1,hw1⟩:=h1)|(refine ae (hc:=hcu) (hX:=fun w h=>⟨⟨⟨h.1.1.1.1,h.1.2⟩,h.1.1.1.2⟩,h.1.1.2⟩) ?_)|(refine ae (hc:=hse) (hX:=fun w h=>h.1.2) ?_)|refine gs ?_|refine gs1 fun _=>?_|(refine gp ?_ ?_<;>intro hx_ this)|fail)
 rename_i b4 b5 b6 b8 b10
 refine bc (ι:=Unit) (fun _=>⟨[(3,.string text),(4,.pointer (some ⟨b4,0,none⟩)),(5,.pointer (some ⟨b5,0,none⟩)),(6,.pointer (some ⟨b6,0,none⟩)),(8,.pointer (some ⟨b8,0,none⟩)),(10,.pointer (some ⟨b10,0,none⟩)),(11,.int .i64 x.epoch),(13,.string S),(14,.string (a1++a2++a3++a4++a5))],[cel b10 36 (((((draftV c a.kind a.time).cells.set 5 (Value.string a.object)).set 7 (Value.int IntKind.i64 a.scope)).set 8 (Value.string a.group)).set 9 s.v),cel b8 36 Xa.zero.cells,cel b6 36 a.cells,cel b5 26 c.cells,cel b4 44 k.cells],fun w=>(((c.at_ w∧Keyz w c.keys kl)∧a.at_ w)∧Xc w)∧X1 w⟩) ?_ fun _=>?_
 · (refine aJ ⟨[1,4,5,6,9,10,13],[(0,⟨[],[(2,⟨[3],[(7,⟨[8],[(11,⟨[12],[(14,⟨[15,16],[]⟩)]⟩)]⟩)]⟩)]⟩)]⟩ (h:=?_))
   all_goals repeat' (first|(refine ae (hc:=t1) ?_)|(refine ae (hc:=t2) ?_)|(refine ae (hc:=t3) ?_)|(refine ae (hc:=t4) ?_)|(refine ae (hc:=t5) ?_)|refine gd ?_|refine aH (hy:=by first|(apply eG;rfl;rfl;omega)) ?_|refine aE ?_ (h':=?_)|exact aF|refine gs1 fun _=>?_|(refine gq ?_ ?_<;>intro hx_ this)|fail)
   all_goals exact ⟨(),ak aw (aj _) fun _ h=>h⟩
 have hn0:s.n=0:=hn1
 obtain ⟨p,hp⟩:∃ p,sealD c a x.epoch b s=p:=⟨_,rfl⟩
 have hri:=bL p
 rw [show rightB p=true from by rw [←hp];exact hrt s hn0] at hri
 have hpo:p.object=a.object:=by rw [←hp];rfl
 have hfi:=j5 c hc p
 rw [hpo,show fitsV c p (idxV c.actsL a.object)=true from by rw [←hp];exact hft s hn0] at hfi
 obtain ⟨hpr,hps⟩:=hrg s hn0
 rw [hp] at hpr hps
 have hsi:=eC k p hpr hps
 have hpat:∀ w,X1 w→p.at_ w:=fun w h=>by
  rw [←hp]
  exact ⟨hw1 w h,aG w 5⟩
 have hcs:((((((draftV c a.kind a.time).cells.set 5 (Value.string a.object)).set 7 (Value.int IntKind.i64 a.scope)).set 8 (Value.string a.group)).set 9 s.v).set 14 (.int .i64 x.epoch)).take 11++b.cells++((((((draftV c a.kind a.time).cells.set 5 (Value.string a.object)).set 7 (Value.int IntKind.i64 a.scope)).set 8 (Value.string a.group)).set 9 s.v).set 14 (.int .i64 x.epoch)).drop 14=p.cells:=by rw [←hp];rfl
 repeat' (first|(refine ae (hc:=hsh) (hX:=fun _ h=>h.1.2) ?_)|(refine ae (hc:=hbx) (hX:=fun _ h=>h.1.2) ?_)|(refine ae (hc:=hri) (hX:=fun w h=>hpat w h.2) ?_)|(refine ae (hc:=hfi) (hX:=fun w h=>⟨⟨h.1.1.1.1,h.1.2⟩,hpat w h.2⟩) ?_)|(refine aU (hc:=hsi) (hX:=fun w h=>⟨hpat w h.2,h.1.2⟩) fun v2 X2 h2=>?_;obtain ⟨s1,s2,rfl,hn2,hn3,hat⟩:=h2)|refine gs ?_|refine gs1 fun _=>?_|(refine cT p.cells (hc2:=hcs) (h:=?_))|(refine gp ?_ ?_<;>intro hx_ this)|fail)
 subst hp
 exact aa (bn rfl rfl rfl aB (by rfl)) ⟨s,s1,s2,hn0,hn2,hn3,rfl,fun w h=>hat w h.1.2⟩
end Go.Proofs.YtamfbppnlomgfaaGreatDoor
namespace Go.Proofs.YtamfbppnlomgfaaGreatDoor
open Go Go.Proofs Sy
section
variable {P:Program} {N:Nat} {av bor:List Nat} {w0:World} {st:St} {ty:TypeId} {x y:Operand} {t t2:TypeId} {k:IntKind}
end
end Go.Proofs.YtamfbppnlomgfaaGreatDoor
namespace Go.Proofs.YtamfbppnlomgfaaGreatDoor
open Go Go.Proofs Sy
section
variable {P:Program} {N:Nat} {av bor:List Nat} {w0:World} {ops:Array Oper} {rest:List Oper} {kk:St→Prop} {E:Env} {loc:List Xi} {X:World→Prop} {x y:Operand} {t t2:TypeId}
variable {n:Nat} {ty:TypeId} {pos:String} {af:Array Edge} {g:Option (Nat×Bool)} {bb want:Bool}
end
structure PostTo (P Q:List Xp):Prop where
 to:Q.map (fun p=>(p.to,p.toL,p.pos))=P.map fun p=>(p.to,p.toL,p.pos)
end Go.Proofs.YtamfbppnlomgfaaGreatDoor

namespace Go.Proofs.YtamfbppnlomgfaaGreatDoor
open Go Go.Proofs Sy
section
variable {P:Program} {N:Nat} {av bor:List Nat} {w0:World} {E:Env} {loc:List Xi} {X:World→Prop} {K:Exit→St→Prop} {c:Code}
theorem te {l:List Xi} (hs:loc.Perm l) (h:Cw P N av bor w0 c ⟨E,l,X⟩ K):Cw P N av bor w0 c ⟨E,loc,X⟩ K:=Cw.mk fun a w ok=>h.run a w (ok.via fun M G=>G.perm (hs.append_right M))
end
theorem PostTo.trans {P Q R:List Xp} (h:PostTo P Q) (k:PostTo Q R):PostTo P R:=⟨k.to.trans h.to⟩
theorem PostTo.pos {P Q:List Xp} (h:PostTo P Q) (j:Nat):posP Q j=posP P j:=by
 have e:∀ L:List Xp,posP L j=(L.map fun p=>(p.to,p.toL,p.pos)).findIdx? fun t=>t.2.2==j:=fun L=>by rw [posP,List.findIdx?_map];rfl
 rw [e,e,h.to]
structure OfI (c:Xb) (P:List Xp) where
 k:Nat
 hk:k≤c.actsL.length
 Q:List Xp
 hQ:Q.map Xp.can=ofP c k
 hT:PostTo P Q
end Go.Proofs.YtamfbppnlomgfaaGreatDoor
namespace Go.Proofs.YtamfbppnlomgfaaGreatDoor
open Go Go.Proofs Sy
def isPost (id:ByteArray) (p:Xp):Bool:=seqB p.id id
structure FinI (l:List Xb) (id:ByteArray) where
 k:Nat
 hk:k≤l.length
 no:∀ i x,i<k→l[i]?=some x→∀ q∈postsV x,isPost id q=false
structure FinJ (P:List Xp) (id:ByteArray) where
 j:Nat
 hj:j≤P.length
 no:∀ i q,i<j→P[i]?=some q→isPost id q=false
structure Agree (n:Nat) (l l':List Xa):Prop where
 at_:∀ k,k<n→l[k]?=l'[k]?
 left:n≤l.length
 right:n≤l'.length
theorem Agree.getD {n:Nat} {l l':List Xa} (h:Agree n l l') {k:Nat} (hk:k<n):l.getD k Xa.zero=l'.getD k Xa.zero:=by
 rw [Zl,Zl,h.at_ k hk]
theorem Agree.symm {n:Nat} {l l':List Xa} (h:Agree n l l'):Agree n l' l:=⟨fun k hk=>(h.at_ k hk).symm,h.right,h.left⟩
structure ReadF (c:Xb) (i:Int) (a:Xa) (l:List ByteArray):Prop where
 asc:Asc l
 own:c.id∈l
 mem:∀ x∈l,x≠c.id→x∈membersV c i a.scope a.group a.toL
 len:l.length=1+(bif wellV c i then (membersV c i a.scope a.group a.toL).length else 0)
structure ChOk (c:Xb):Prop where
 acts:Xr c.actsL
 len:c.actsL.length≤1000000
 to:∀ x∈c.actsL,x.to.n≤1000000
structure HisI (m:Nat) where
 k:Nat
 hk:k≤m
 A:Option Addr
 c:Nat
end Go.Proofs.YtamfbppnlomgfaaGreatDoor
namespace Go.Proofs.YtamfbppnlomgfaaGreatDoor
open Go Go.Proofs Sy
section
variable {P:Program} {N:Nat} {av bor:List Nat} {w0:World} {E:Env} {loc:List Xi} {X:World→Prop}
theorem mw {k:IntKind} {a b:Int} {st:St} {t t2 ty:TypeId} {x y:Operand} [hI:Xx P t k] (v:Bool) (hx:ev st.env x=some (.int k a)) (hy:ev st.env y=some (.int k b)) (hv:decide (b<a)=v):Sy.Yields P N av bor w0 st (.binOp .gtr t x y t2) ty (.bool v):=hv▸nr hx hy
end
end Go.Proofs.YtamfbppnlomgfaaGreatDoor
namespace Go.Proofs.YtamfbppnlomgfaaGreatDoor
open Go Go.Proofs Sy Tryz
def grD (c:Xb) (sc t:Int) (g m:ByteArray) (W:Xk) (st sw:Xh):Xa:={ draftV c 16 t with scope:=sc,group:=g,to:=st,wraps:=sw,toL:=[m],wrapsL:=[W] }
def GrantAt (k:X9) (c:Xb) (sc t:Int) (g m:ByteArray) (W:Xk) (u:Value) (X:World→Prop):Prop:=∃ st sw s1 s2:Xh,st.n=1∧sw.n=1∧s1.n=(actSignV k (grD c sc t g m W st sw)).to.n∧s2.n=(actSignV k (grD c sc t g m W st sw)).wraps.n∧u=.tuple #[((actSignV k (grD c sc t g m W st sw)).re s1 s2).v,.int .i64 0]∧∀ w,X w→((actSignV k (grD c sc t g m W st sw)).re s1 s2).at_ w
set_option maxRecDepth 20000 in
theorem pp (k:X9) (c:Xb) (kl:List Xg) (sc t pub:Int) (g m S:ByteArray) (W:Xk) (sp:Xh) (hc:Xr c.actsL) (hcl:c.actsL.length≤1000000) (hct:∀ x∈c.actsL,x.to.n≤1000000) (hs1:1≤sc) (hs3:sc≤3) (hown:ownsB k c kl=true)
  (hm:membersV c (c.acts.n:Int) sc g []=[m]) (hpu:isPubB pub=true) (hep:epochO c.actsL (c.acts.n:Int) sc g=none) (hks:k.s<9223372036854775808) (hgs:g.size≤1000)
  (hS:secretV k sc g 0=S) (hW:wrapOV pub (textV ⟨#[103,114,97,110,116]⟩++textV S++numV 0) S=some W)
  (hrt:∀ st sw:Xh,st.n=1→sw.n=1→rightB (grD c sc t g m W st sw)=true) (hrg:∀ st sw:Xh,st.n=1→sw.n=1→(grD c sc t g m W st sw).Rng∧(grD c sc t g m W st sw).Sm) :
  Mk prog 16 #[k.v,c.v,.int .i64 sc,.string g,.slice none 0 0,sp.v,.int .i64 t] (fun w=>((c.at_ w∧Keyz w c.keys kl)∧Ints w sp [pub])∧Xc w) (GrantAt k c sc t g m W):=by
 refine cF func16 ntmps16 fun av bor w0=>?_
 refine aK (p:=c.acts.n=c.actsL.length∧sp.n=1∧sp.p.isSome=true) (fun w h=>⟨h.1.1.1.len_,h.1.2.len_,h.1.2.some_ Nat.zero_lt_one⟩) fun ⟨hcn,hsn,hsp⟩=>?_
 have hpu':=hpu
 simp only [isPubB,Zm,Zs] at hpu'
 have hme:=iU c hc hcl hct (c.acts.n:Int) sc g ⟨none,0,0⟩ [] (by decide)
 rw [hm] at hme
 have hme':Mk prog 44 #[c.v,.int .i64 (c.acts.n:Int),.int .i64 sc,.string g,.slice none 0 0] (fun w=>XC c w∧Strs w ⟨none,0,0⟩ []) (StrsAt [m]):=hme
 have how:=ky k c kl
 rw [hown] at how
 have hdr:=gg c 16 t
 have hep':=jk c hc (c.acts.n:Int) sc g
 rw [hep] at hep'
 have hep2:Mk prog 45 #[c.v,.int .i64 (c.acts.n:Int),.int .i64 sc,.string g] (XC c) (fun u X=>∃ s:Xh,u=.tuple #[.int .i64 0,s.v,.bool false]∧∀ w,X w→Strs w s []):=hep'
 have hse:=gB k sc g 0 hks ab (by decide) ab
 rw [hS] at hse
 have hSs:S.size=32:=by rw [←hS];exact ei _ _ _ _
 have n1:=aq ⟨#[103,114,97,110,116]⟩
 have n2:=aq S
 have n3:=ar 0
 have n6:(⟨#[103,114,97,110,116]⟩:ByteArray).size=5:=rfl
 have t1:=bD ⟨#[103,114,97,110,116]⟩ ab
 have t2:=bD S ab
 have t3:=bF 0 (by decide)
 generalize textV ⟨#[103,114,97,110,116]⟩=a1 at *
 generalize textV S=a2 at *
 generalize numV 0=a3 at *
 have m2:(a1++a2).size=a1.size+a2.size:=Zb
 have m3:(a1++a2++a3).size=a1.size+a2.size+a3.size:=by rw [Zb,m2]
 have hwr:=rZ pub (a1++a2++a3) S ab
 rw [hW] at hwr
 simp only [Option.isSome_some,Z3] at hwr
 have hg1:¬ sc<1:=by omega
 have hg2:¬ (3:Int)<sc:=by omega
 refine bA 47 5 ?_
 repeat' (first|refine aL ?_ (bR false rfl rfl (Zd hg1))|refine ij (hab:=hg2) ?_|refine eZ (hab:=by rw [hsn,hstn]) ?_|(refine aU (hc:=hme') (hX:=fun w h=>⟨⟨h.1.1.1,h.2⟩,aG w 1⟩) fun v1 X1 h1=>?_;obtain ⟨st,rfl,hst⟩:=h1;refine ik (p:=st.n=1) (fun w h=>(hst w h.2).len_) fun hstn=>?_)|refine gs ?_|refine gs1 fun _=>?_|(refine gp ?_ ?_<;>intro hx_ this)|fail)
 rename_i b7 b8 b14
 have h64:¬ (64:Int)<(st.n:Int):=by omega
 refine az (ι:=Kth 1) (fun i=>⟨[(2,.int .i64 sc),(3,.string g),(5,sp.v),(6,.int .i64 t),(7,.pointer (some ⟨b7,0,none⟩)),(8,.pointer (some ⟨b8,0,none⟩)),(14,.pointer (some ⟨b14,0,none⟩)),(16,.int .i64 (c.acts.n:Int)),(17,st.v),(52,sp.v),(53,.int .i64 (sp.n:Int)),(54,.int .i64 i.k)],[cel b14 36 Xa.zero.cells,cel b8 26 c.cells,cel b7 44 k.cells,orow 47 5 (.slice none 0 0) 0 []],fun w=>(((c.at_ w∧Keyz w c.keys kl)∧Ints w sp [pub])∧Xc w)∧X1 w⟩) (fun i=>1-i.k) ⟨0,ZU _⟩ (ak aw (aj _) fun _ h=>h) fun i=>?_
 obtain ⟨q,hq⟩:=i
 simp only
 by_cases hq0:q=0
 · subst hq0
   repeat' (first|refine gs ?_|refine gs1 fun _=>?_|(refine aA (q:=0) ?_)|(refine bm (q:=0) (u:=.int .i64 pub) (hF:=fun w h=>h.1.1.2.get (i:=0) Nat.zero_lt_one) ?_)|(refine aI (cs:=Xa.zero.cells) (hf:=by rfl) ?_)|(refine gp ?_ ?_<;>intro hx_ this)|fail)
   all_goals first
    | (exfalso;omega)
    | exact ⟨(⟨1,ZN _⟩:Kth 1),(by show 1-1<1-0;omega),ak aw (aj _) fun _ h=>h⟩
 · obtain rfl:q=1:=by omega
   have hq1:¬ ((1:Nat):Int)<(sp.n:Int):=by omega
   repeat' (first|refine aL ?_ (bR false rfl rfl (Zd hq1))|refine aL ?_ (mw false rfl rfl (Zd h64))|(refine ae (hc:=how) (hX:=fun _ h=>h.1.1.1) ?_)|(refine ae (hc:=hdr) ?_)|(refine aU (hc:=hep2) (hX:=fun w h=>⟨h.1.1.1.1,h.1.2⟩) fun v2 X2 h2=>?_;obtain ⟨s9,rfl,hs9⟩:=h2)|(refine ae (hc:=hse) (hX:=fun _ h=>h.1.1.2) ?_)|refine gs ?_|refine gs1 fun _=>?_|(refine gp ?_ ?_<;>intro hx_ this)|fail)
   rename_i b20
   refine az (ι:=Option (Option Addr×Nat)) (fun i=>match i with
    | none=>⟨[(2,.int .i64 sc),(3,.string g),(5,sp.v),(6,.int .i64 t),(7,.pointer (some ⟨b7,0,none⟩)),(8,.pointer (some ⟨b8,0,none⟩)),(14,.pointer (some ⟨b14,0,none⟩)),(16,.int .i64 (c.acts.n:Int)),(17,st.v),(20,.pointer (some ⟨b20,0,none⟩)),(24,.string S),(103,sp.v),(104,.int .i64 (sp.n:Int)),(105,.int .i64 0)],[cel b20 36 ((((draftV c 16 t).cells.set 7 (Value.int IntKind.i64 sc)).set 8 (Value.string g)).set 9 st.v),cel b14 36 Xa.zero.cells,cel b8 26 c.cells,cel b7 44 k.cells,orow 47 5 (.slice none 0 0) 0 []],fun w=>(((c.at_ w∧Keyz w c.keys kl)∧Ints w sp [pub])∧Xc w)∧X1 w⟩
    | some r=>⟨[(2,.int .i64 sc),(3,.string g),(5,sp.v),(6,.int .i64 t),(7,.pointer (some ⟨b7,0,none⟩)),(8,.pointer (some ⟨b8,0,none⟩)),(14,.pointer (some ⟨b14,0,none⟩)),(16,.int .i64 (c.acts.n:Int)),(17,st.v),(20,.pointer (some ⟨b20,0,none⟩)),(24,.string S),(103,sp.v),(104,.int .i64 (sp.n:Int)),(105,.int .i64 1)],[cel b20 36 (((((draftV c 16 t).cells.set 7 (Value.int IntKind.i64 sc)).set 8 (Value.string g)).set 9 st.v).set 15 (.slice r.1 (0+1) r.2)),cel b14 36 Xa.zero.cells,cel b8 26 c.cells,cel b7 44 k.cells,orow 47 5 (.slice r.1 (0+1) r.2) (0+1) ([]++W.cells)],fun w=>(((c.at_ w∧Keyz w c.keys kl)∧Ints w sp [pub])∧Xc w)∧X1 w⟩) (fun i=>match i with|none=>1|some _=>0) none (ak aw (aj _) fun _ h=>h.1) fun i=>?_
   cases i with
   | none =>
    simp only
    repeat' (first|(refine ae (hc:=t1) ?_)|(refine ae (hc:=t2) ?_)|(refine ae (hc:=t3) ?_)|(refine ae (hc:=hwr) (hX:=fun _ h=>h.1.2) ?_)|(refine aD (size:=5) (news:=W.cells) (q:=1) rfl rfl rfl rfl (fun _=>At.there _ (At.there _ (At.there _ (At.there _ (At.there _ (At.there _ (At.here _))))))) (fun w G=>aR G aC rfl rfl 1) ab (by simp only [maxLen];omega) rfl ?_ rfl ?_;(first|with_reducible rfl|with_reducible assumption);intro A3 c3)|refine gs ?_|refine gs1 fun _=>?_|(refine aA (q:=0) ?_)|(refine bm (q:=0) (u:=.int .i64 pub) (hF:=fun w h=>h.1.1.2.get (i:=0) Nat.zero_lt_one) ?_)|(refine mD ?_)|(refine bT (size:=5) (vs:=[W.v]) (css:=W.cells) (hsz:=by rfl) (hcs:=by rfl) fun _=>?_)|(refine gp ?_ ?_<;>intro hx_ this)|fail)
    all_goals first
     | (exfalso;omega)
     | exact ⟨some (A3,c3),Nat.zero_lt_one,ak aw (ZS _ (ZS _ (aj _))) fun _ h=>h⟩
   | some r =>
    obtain ⟨A3,c3⟩:=r
    simp only
    have hq1:¬ (1:Int)<(sp.n:Int):=by omega
    obtain ⟨p,hp⟩:∃ p,grD c sc t g m W st ⟨A3,0+1,c3⟩=p:=⟨_,rfl⟩
    have hri:=bL p
    rw [show rightB p=true from by rw [←hp];exact hrt st _ hstn rfl] at hri
    obtain ⟨hpr,hps⟩:=hrg st ⟨A3,0+1,c3⟩ hstn rfl
    rw [hp] at hpr hps
    have hsi:=eC k p hpr hps
    have hcs:((((draftV c 16 t).cells.set 7 (Value.int IntKind.i64 sc)).set 8 (Value.string g)).set 9 st.v).set 15 (.slice A3 (0+1) c3)=p.cells:=by rw [←hp];rfl
    have hpat:∀ w,X1 w→(orow 47 5 (.slice A3 (0+1) c3) (0+1) ([]++W.cells)).F w→p.at_ w:=fun w h h2=>by
     rw [←hp]
     have h3:ORow w 47 5 (.slice A3 (0+1) c3) (0+1) [W.cells].flatten:=by rw [show [W.cells].flatten=[]++W.cells by simp];exact h2
     exact ⟨hst w h,aW (xs:=[W.cells]) h3 rfl (fun r hr=>by rw [ZV.1 hr];rfl)⟩
    rw [hcs]
    refine te (Qz (l₁:=[_,_,_,_]) (l₂:=[_])) ?_
    refine tf ?_
    repeat' (first|refine aL ?_ (bR false rfl rfl (Zd hq1))|(refine ae (hc:=hri) (hX:=fun w h=>hpat w h.1.2 h.2) ?_)|(refine aU (hc:=hsi) (hX:=fun w h=>⟨hpat w h.1.2 h.2,h.1.1.2⟩) fun v2 X2 h2=>?_;obtain ⟨s1,s2,rfl,hn2,hn3,hat⟩:=h2)|refine gs ?_|refine gs1 fun _=>?_|(refine gp ?_ ?_<;>intro hx_ this)|fail)
    subst hp
    exact aa (bn rfl rfl rfl aB (by rfl)) ⟨st,⟨A3,0+1,c3⟩,s1,s2,hstn,rfl,hn2,hn3,rfl,fun w h=>hat w h.1.2⟩
theorem BegOk.reG {a:Xa} (h:BegOk a) {s1 s2:Xh} (h1:s1.n=a.to.n) (h2:s2.n=a.wraps.n):BegOk (a.re s1 s2) :=
 ⟨cR h.rng h1 h2,ec h.sm h1 h2,(cd h1 h2).trans h.right,h.kind,h.seq,h.prev,h.id,(tV _ h1 h2).trans h.ver⟩
theorem sU:gkU0.Rng:=⟨by decide +kernel,fun w hw=>(Z8 hw).elim,rfl,rfl⟩
theorem um:gkU0.Sm:=⟨by decide,by decide,by decide⟩
theorem oi:gkA0.Rng:=⟨by decide +kernel,fun w hw=>(Z8 hw).elim,rfl,rfl⟩
theorem rr:gkA0.Sm:=⟨by decide,by decide,by decide⟩
theorem gk_beg:BegOk gkA0:=⟨oi,rr,rm,rfl,rfl,rfl,tH,ul⟩
theorem itemsNilG (w:World):Items w ⟨none,0,0⟩ []:=⟨aG w 49,fun i h=>by cases h⟩
def begG (sa sk:Xh) (x:Xa):Xb:=⟨gkI,sa,sk,gkD0,0,false,[x]⟩
def BegunG (u:Value) (X:World→Prop):Prop:=∃ (sa sk s1 s2:Xh),s1.n=0∧s2.n=0∧u=(begG sa sk (gkA0.re s1 s2)).v∧∀ w,X w→Acts w sa [gkA0.re s1 s2]∧Keyz w sk [⟨0,gkK.p,0⟩]
theorem nf:Mk prog 10 #[gkK.v] Xc BegunG:=by
 refine cF func10 ntmps10 fun av bor w0=>?_
 have hid:Pu prog 12 #[.int .i64 gkK.p] Xc (.string gkI):=by
  have h:=cQ gkK.p (by decide +kernel)
  rw [show idV gkK.p=gkI from tH] at h
  exact h
 have hsg:=eC gkK gkU0 sU um
 rw [uP] at hsg
 repeat' (first|refine aI (cs:=gkU0.cells) (hf:=by rfl) ?_|(refine ae (hc:=hid) ?_)|(refine aU (hc:=hsg) (hX:=fun w h=>⟨⟨aG w 1,aG w 5⟩,h⟩) fun v1 X1 h1=>?_;obtain ⟨s1,s2,rfl,hn1,hn2,hat⟩:=h1)|refine gs ?_|refine gs1 fun _=>?_|(refine gp ?_ ?_<;>intro hx_ this)|fail)
 rename_i b1 b2 b3
 obtain ⟨x,hx⟩:∃ x,gkA0.re s1 s2=x:=⟨_,rfl⟩
 have hxb:BegOk x:=by rw [←hx];exact gk_beg.reG hn1 hn2
 have hxa:x.author=gkI:=by rw [←hx];rfl
 rw [hx] at hat ⊢
 have hof:=pa x hxb.rng hxb.sm
 have hadd:∀ s3 s4:Xh,s3.n=x.to.n→s4.n=x.wraps.n→Mk prog 25 #[.agg #[.slice none 0 0,.slice none 0 0],(ofActI (x.re s3 s4)).v] (fun w=>(Items w ⟨none,0,0⟩ []∧(ofActI (x.re s3 s4)).at_ w)∧Xc w)
   (fun u X'=>∃ s:Xh,u=.tuple #[.agg #[.slice none 0 0,s.v],.bool true]∧∀ w,X' w→Items w s [ofActI (x.re s3 s4)]):=fun s3 s4 h3 h4=>by
  have hb:=hxb.reG h3 h4
  have hri:=rightI0 (x.re s3 s4)
  rw [show rI0 (ofActI (x.re s3 s4))=true from hb.right] at hri
  exact ux ⟨none,0,0⟩ ⟨none,0,0⟩ [] (ofActI (x.re s3 s4)) rI0 dI0 hri (mI _ _ hb.right) (digI0 _ hb.rng) (fun y hy=>by cases hy) (by decide) (fun y hy=>by cases hy)
 have hone:∀ s3 s4 s:Xh,s3.n=x.to.n→s4.n=x.wraps.n→Mk prog 28 #[.agg #[.slice none 0 0,s.v],.string gkI] (fun w=>Items w s [ofActI (x.re s3 s4)]∧Xc w)
   (fun u X'=>∃ sa sk:Xh,u=(⟨gkI,sa,sk,digV (x.re s3 s4),0,false,[x.re s3 s4]⟩:Xb).v∧∀ w,X' w→Acts w sa [x.re s3 s4]∧Keyz w sk [⟨0,(x.re s3 s4).n,(x.re s3 s4).m⟩]):=fun s3 s4 s h3 h4=>by
  have h:=qU s (x.re s3 s4) (hxb.reG h3 h4)
  rw [show (x.re s3 s4).author=gkI from hxa] at h
  exact h
 (refine aw_draw ⟨[1],[(0,⟨[],[(2,⟨[],[(3,⟨[4,5,6],[(7,⟨[],[(8,⟨[9],[]⟩)]⟩)]⟩),(7,⟨[],[(3,⟨[4,5,6],[(8,⟨[9],[]⟩)]⟩)]⟩)]⟩),(7,⟨[],[(2,⟨[],[(3,⟨[4,5,6],[(8,⟨[9],[]⟩)]⟩)]⟩)]⟩)]⟩),(7,⟨[],[(0,⟨[],[(2,⟨[],[(3,⟨[4,5,6],[(8,⟨[9],[]⟩)]⟩)]⟩)]⟩)]⟩)]⟩ [cel b3 36 x.cells] (fun w=>Xc w∧X1 w) (h:=?_))
 all_goals repeat' (first|(refine ae (hc:=sE) ?_)|((refine aU (hc:=hof) (hX:=fun w h=>hat w h.2) fun v2 X2 h2=>?_;obtain ⟨s3,s4,rfl,hn3,hn4,hat2⟩:=h2))|((refine aU (hc:=hadd s3 s4 hn3 hn4) (hX:=fun w h=>⟨⟨itemsNilG w,hat2 w h.2,aG w 1⟩,h.1.1⟩) fun v3 X3 h3=>?_;obtain ⟨s,rfl,hit⟩:=h3))|refine gdz ?_|refine aE ?_ (h':=?_)|exact aF|refine gs1 fun _=>?_|(refine gq ?_ ?_<;>intro hx_ this)|fail)
 all_goals
  rename_i b6
  repeat' (first|(refine aU (hc:=hone s3 s4 s hn3 hn4) (hX:=fun w h=>⟨hit w h.2,h.1.1.1⟩) fun v4 X4 h4=>?_;obtain ⟨sa,sk,rfl,hch⟩:=h4)|refine gs ?_|refine gs1 fun _=>?_|(refine gp ?_ ?_<;>intro hx_ this)|fail)
  subst hx
  have hdg:digV ((gkA0.re s1 s2).re s3 s4)=gkD0:=(jl hn3 hn4).trans ((jl hn1 hn2).trans uY)
  rw [hdg]
  refine aa (aP rfl rfl aB (by rfl)) ⟨sa,sk,s3,s4,hn3.trans hn1,hn4.trans hn2,rfl,fun w h=>hch w h.1.2⟩
def extG (c:Xb) (sa:Xh) (a:Xa):Xb:=⟨c.id,sa,c.keys,digV a,c.gen,c.fork,c.actsL++[a]⟩
def ExtG (c:Xb) (a:Xa) (u:Value) (X:World→Prop):Prop:=∃ sa:Xh,u=(extG c sa a).v∧∀ w,X w→(extG c sa a).at_ w
theorem dN (c:Xb) (a:Xa) (hc:Xr c.actsL) (hr:a.Rng) (hs:a.Sm) (hl:c.actsL.length≤100000) (hfit:fitsV c a (idxV c.actsL a.object)=true) (hk:a.kind≠18):Mk prog 13 #[c.v,a.v] (fun w=>(c.at_ w∧a.at_ w)∧Xc w) (ExtG c a):=by
 refine cF func13 ntmps13 fun av bor w0=>?_
 refine aK (p:=c.acts.n=c.actsL.length∧c.acts.n≤maxLen) (fun w h=>⟨h.1.1.len_,h.1.1.max_⟩) fun ⟨hn,hm⟩=>?_
 simp only [maxLen] at hm
 have hsrc:∀ w,((c.at_ w∧a.at_ w)∧Xc w)→Src prog w 20 c.acts.v c.acts.n (c.actsL.map Xa.cells).flatten:=fun w h=>eK h.1.1.1 (nb _)
 have hfi:=j5 c hc a
 rw [hfit] at hfi
 repeat' (first|(refine ae (hc:=hfi) (hX:=fun w h=>⟨⟨h.1.1,h.2⟩,h.1.2⟩) ?_)|refine gs ?_|refine gs1 fun _=>?_|(refine gp ?_ ?_<;>intro hx_ this)|fail)
 rename_i b2 b3 b4
 refine bc (ι:=Option Addr×Nat) (fun i=>⟨[(2,.pointer (some ⟨b2,0,none⟩)),(3,.pointer (some ⟨b3,0,none⟩)),(4,.pointer (some ⟨b4,0,none⟩))],[orow 36 20 (.slice i.1 (0+c.acts.n+1) i.2) (0+c.acts.n+1) ([]++(c.actsL.map Xa.cells).flatten++a.cells),cel b4 26 (chZ ⟨#[]⟩),cel b3 36 a.cells,cel b2 26 [.string c.id,.slice i.1 (0+c.acts.n+1) i.2,c.keys.v,.string c.prev,.int .i64 c.gen,.bool c.fork]],fun w=>(c.at_ w∧a.at_ w)∧Xc w⟩) ?_ fun i=>?_
 · (refine aw_draw ⟨[1,4],[(0,⟨[],[(2,⟨[],[(3,⟨[],[(5,⟨[],[(6,⟨[7],[(8,⟨[],[]⟩)]⟩)]⟩)]⟩),(5,⟨[],[(3,⟨[],[(6,⟨[7],[(8,⟨[],[]⟩)]⟩)]⟩)]⟩)]⟩),(5,⟨[],[(2,⟨[],[(3,⟨[],[(6,⟨[7],[(8,⟨[],[]⟩)]⟩)]⟩)]⟩)]⟩)]⟩),(2,⟨[],[(0,⟨[],[(3,⟨[],[(5,⟨[],[(6,⟨[7],[(8,⟨[],[]⟩)]⟩)]⟩)]⟩),(5,⟨[],[(3,⟨[],[(6,⟨[7],[(8,⟨[],[]⟩)]⟩)]⟩)]⟩)]⟩),(5,⟨[],[(0,⟨[],[(3,⟨[],[(6,⟨[7],[(8,⟨[],[]⟩)]⟩)]⟩)]⟩)]⟩)]⟩),(5,⟨[],[(0,⟨[],[(2,⟨[],[(3,⟨[],[(6,⟨[7],[(8,⟨[],[]⟩)]⟩)]⟩)]⟩)]⟩),(2,⟨[],[(0,⟨[],[(3,⟨[],[(6,⟨[7],[(8,⟨[],[]⟩)]⟩)]⟩)]⟩)]⟩)]⟩)]⟩ [cel b3 36 a.cells] (fun w=>(c.at_ w∧a.at_ w)∧Xc w) (h:=?_))
   all_goals repeat' (first|refine gdz ?_|refine aE ?_ (h':=?_)|exact aF|refine kr fun _=>?_|refine bT (size:=20) (vs:=[a.v]) (css:=a.cells) (hsz:=by rfl) (hcs:=by rfl) fun _=>?_|(refine ga ?_;refine aD (size:=20) (news:=(c.actsL.map Xa.cells).flatten) (q:=c.acts.n) rfl rfl rfl rfl (fun _=>At.here _) (fun w G=>hsrc w G.keep.now) ab (by simp only [maxLen];omega) rfl ?_ rfl ?_;(first|with_reducible rfl|with_reducible assumption|with_reducible exact Zj|with_reducible exact Zk);intro A2 c2)|(refine ga ?_;refine aD (size:=20) (news:=(c.actsL.map Xa.cells).flatten) (q:=c.acts.n) rfl rfl rfl rfl (fun _=>At.there _ (At.here _)) (fun w G=>hsrc w G.keep.now) ab (by simp only [maxLen];omega) rfl ?_ rfl ?_;(first|with_reducible rfl|with_reducible assumption|with_reducible exact Zj|with_reducible exact Zk);intro A2 c2)|(refine ga ?_;refine aD (size:=20) (news:=a.cells) (q:=1) rfl rfl rfl rfl (fun _=>At.here _) (fun w G=>aR G (.tail _ (.head _)) rfl rfl 1) ab (by simp only [maxLen];omega) rfl ?_ rfl ?_;(first|with_reducible rfl|with_reducible assumption|with_reducible exact Zj|with_reducible exact Zk);intro A3 c3)|(refine ga ?_;refine aD (size:=20) (news:=a.cells) (q:=1) rfl rfl rfl rfl (fun _=>At.there _ (At.here _)) (fun w G=>aR G (.head _) rfl rfl 1) ab (by simp only [maxLen];omega) rfl ?_ rfl ?_;(first|with_reducible rfl|with_reducible assumption|with_reducible exact Zj|with_reducible exact Zk);intro A3 c3)|refine gs1 fun _=>?_|(refine gq ?_ ?_<;>intro hx_ this)|fail)
   all_goals exact ⟨(A3,c3),ak aw (by first|exact .cons _ (aj _)|exact .cons_cons _ (.cons _ (aj _))) fun w h=>h⟩
 obtain ⟨A3,c3⟩:=i
 simp only
 repeat' (first|refine gs ?_|refine gs1 fun _=>?_|fail)
 refine aU (hc:=iR a hr hs) (hX:=fun w h=>h.1.2) fun v1 X1 h1=>?_
 obtain ⟨x',rfl,hdig,hr',hat⟩:=h1
 refine ae (hc:=fm x' hr') (hX:=fun w h=>⟨hat w h.2,h.1.2⟩) ?_
 rw [hdig]
 repeat' (first|refine dB (hab:=hk) ?_|refine gs ?_|refine gs1 fun _=>?_|(refine gp ?_ ?_<;>intro hx_ this)|fail)
 refine aa (aP rfl rfl aB (by rfl)) ⟨⟨A3,0+c.acts.n+1,c3⟩,rfl,fun w h=>?_⟩
 have hrow:=h.2 (orow 36 20 (.slice A3 (0+c.acts.n+1) c3) (0+c.acts.n+1) ([]++(c.actsL.map Xa.cells).flatten++a.cells)) aB
 refine cL (e:=36) (l:=c.actsL++[a]) (by rw [show ((c.actsL++[a]).map Xa.cells).flatten=[]++(c.actsL.map Xa.cells).flatten++a.cells from by simp];exact hrow) (by rw [Zw,List.length_singleton];show 0+c.acts.n+1=_;omega) fun x hx=>?_
 rcases Qk.1 hx with hx|hx
 · exact h.1.1.1.1.2 x hx
 · rw [ZV.1 hx]
   exact h.1.1.1.2
structure LightG (c:Xb):Prop where
 acts:∀ a∈c.actsL,a.to.n≤100∧a.wraps.n≤100∧a.body.data.size≤10000
 len:c.actsL.length≤20
 keys:c.keys.n≤40
structure LgtG (l:List Xa) where
 j:Nat
 hj:j≤l.length
 ok:∀ a∈l.take j,a.to.n≤100∧a.wraps.n≤100∧a.body.data.size≤10000
theorem oG {α:Type} {l:List α} {k:Nat} {x:α} (hx:l[k]?=some x) {p:α→Prop} (h:∀ y∈l.take k,p y) (hp:p x):∀ y∈l.take (k+1),p y:=fun y hy=>by
 rw [Z5,hx] at hy
 rcases Qk.1 hy with hy|hy
 · exact h y hy
 · rw [Qh,ZV] at hy
   exact hy▸hp
theorem mW (c:Xb):Mk prog 5 #[c.v] (fun w=>c.at_ w) (fun u _=>∃ b,u=.bool b∧(b=true→LightG c)):=by
 refine cF func5 ntmps5 fun av bor w0=>?_
 refine aK (p:=c.acts.n=c.actsL.length∧c.acts.n≤maxLen∧(0<c.actsL.length→c.acts.p.isSome=true)) (fun w h=>⟨h.len_,h.max_,h.some_⟩) fun ⟨al,am,ap⟩=>?_
 simp only [maxLen] at am
 repeat' (first|refine gs ?_|refine gs1 fun _=>?_|fail)
 rename_i b1
 refine az (ι:=LgtG c.actsL) (fun i=>⟨[(1,.pointer (some ⟨b1,0,none⟩)),(3,.int .i64 (i.j:Nat))],[cel b1 26 c.cells],fun w=>c.at_ w⟩) (fun i=>c.actsL.length-i.j) ⟨0,ZU _,fun c hc=>(Z8 hc).elim⟩ (ak aw (aj _) fun _ h=>h) fun i=>?_
 obtain ⟨j,hj,hoj⟩:=i
 simp only
 by_cases hjl:j<c.actsL.length
 · have ap1:=ap ab
   obtain ⟨x,hx⟩:∃ x,c.actsL[j]?=some x:=⟨_,Zc hjl⟩
   repeat' (first|refine gs ?_|refine gs1 fun _=>?_|(refine aA (q:=j*20) ?_)|(refine cH ?_)|(refine bm (q:=j*20+9) (u:=x.to.v) (hF:=fun w h=>(Acts.get h hx).2.2 9 _ rfl) ?_)|(refine bm (q:=j*20+15) (u:=x.wraps.v) (hF:=fun w h=>(Acts.get h hx).2.2 15 _ rfl) ?_)|(refine bm (q:=j*20+12) (u:=.string x.body.data) (hF:=fun w h=>(Acts.get h hx).2.2 12 _ rfl) ?_)|(refine gp ?_ ?_<;>intro hx_ this)|fail)
   all_goals first
    | (exfalso;omega)
    | exact aa (ai rfl rfl) ⟨false,rfl,fun h=>by cases h⟩
    | exact ⟨(⟨j+1,hjl,oG hx hoj ab⟩:LgtG c.actsL),(by show c.actsL.length-(j+1)<c.actsL.length-j;omega),ak aw (aj _) fun _ h=>h⟩
 · have hoa:∀ a∈c.actsL,a.to.n≤100∧a.wraps.n≤100∧a.body.data.size≤10000:=by
    have e:j=c.actsL.length:=by omega
    rw [e,Z6] at hoj
    exact hoj
   repeat' (first|refine gs ?_|refine gs1 fun _=>?_|(refine gp ?_ ?_<;>intro hx_ this)|fail)
   all_goals first
    | (exfalso;omega)
    | exact aa (ai rfl rfl) ⟨false,rfl,fun h=>by cases h⟩
    | exact aa (ai rfl rfl) ⟨_,rfl,fun h=>⟨hoa,by omega,by have:=bC h;omega⟩⟩
theorem Ints.atG {w:World} {s:Xh} {l:List Int} (h:Ints w s l) {i:Nat} {x:Int} (hx:l[i]?=some x):CellAt w s.p i (.int .i64 x):=by
 have:=(Xd.row h i [.int .i64 x] (by simp [hx])).2.2 0 (.int .i64 x) rfl
 simpa using this
def encK (s:ByteArray):List Value:=[.string s]
structure Xa.Szs (a:Xa):Prop where
 group:a.group.size≤10000000
 body:a.body.nonce.size+a.body.data.size≤10000000
 wraps:∀ w∈a.wrapsL,w.box.nonce.size+w.box.data.size≤10000000
 to:∀ w∈a.wrapsL,w.to<9223372036854775808
structure CandX (xs:Xh) (l:List Int) (c:Xb) (kl:List Xg) (g:Nat) (b1 b2 b3:Nat) (w:World):Prop where
 hxs:w.heap[b1]?=some (.cells [xs.v].toArray 22 (0,0))
 hc:ChBox c b2 w
 hg:w.heap[b3]?=some (.cells [Value.int .i64 (g:Int)].toArray 3 (0,0))
 hl:Ints w xs l
 at_:c.at_ w
 keys:Keyz w c.keys kl
 glob:Xc w
theorem CandX.xsC {xs:Xh} {l:List Int} {c:Xb} {kl:List Xg} {g b1 b2 b3:Nat} {w:World} (h:CandX xs l c kl g b1 b2 b3 w):w.cell? ⟨b1,0,none⟩=some xs.v:=by
 simp [World.cell?,h.hxs]
theorem CandX.gC {xs:Xh} {l:List Int} {c:Xb} {kl:List Xg} {g b1 b2 b3:Nat} {w:World} (h:CandX xs l c kl g b1 b2 b3 w):w.cell? ⟨b3,0,none⟩=some (.int .i64 (g:Int)):=by
 simp [World.cell?,h.hg]
theorem rK (xs:Xh) (c:Xb) (g:Nat):Mk prog 19 #[xs.v,c.v,.int .i64 (g:Int)] (fun _=>True) fun u X'=>∃ b1 b2 b3,u=.func (.func 49) #[] #[.pointer (some ⟨b2,0,none⟩),.pointer (some ⟨b3,0,none⟩),.pointer (some ⟨b1,0,none⟩)]∧∀ w,X' w→w.heap[b1]?=some (.cells [xs.v].toArray 22 (0,0))∧ChBox c b2 w∧w.heap[b3]?=some (.cells [Value.int .i64 (g:Int)].toArray 3 (0,0)):=by
 refine cF func19 ntmps19 fun av bor w0=>?_
 repeat' (first|refine gs ?_|refine gs1 fun _=>?_|(refine bV ?_)|(refine gp ?_ ?_<;>intro hx_ this)|fail)
 exact aa (ai rfl rfl) ⟨_,_,_,rfl,fun w h=>⟨h.2 _ (Zr _ (Zr _ aC)),h.2 _ (Zr _ aC),h.2 _ aC⟩⟩
structure CandM (pre:List ByteArray) (Rs:List ByteArray→List Xi→Prop) where
 R:List Xi
 hR:Rs pre R
structure CandI (l:List Int) (F:Int→List ByteArray) (Rs:List ByteArray→List Xi→Prop) where
 k:Nat
 hk:k≤l.length
 R:List Xi
 hR:Rs ((l.take k).flatMap F) R
structure CandJ (ws:List Xk) (u:Xk→Option ByteArray) (pre:List ByteArray) (Rs:List ByteArray→List Xi→Prop) where
 j:Nat
 hj:j≤ws.length
 R:List Xi
 hR:Rs (pre++(ws.take j).filterMap u) R
theorem lm {α:Type} {l:List α} {k:Nat} {x:α} (h:l[k]?=some x):l=l.take k++x::l.drop (k+1):=by
 have hk:k<l.length:=(Qu.1 h).1
 have e:l[k]=x:=(Qu.1 h).2
 rw [←e,List.getElem_cons_drop,List.take_append_drop]
theorem jo {l:List Int} {F:Int→List ByteArray} {k:Nat} {x:Int} {s t:List ByteArray} {key:ByteArray} (h:l[k]?=some x) (hF:F x=s++key::t):∃ suf,l.flatMap F=((l.take k).flatMap F++s)++key::suf:=by
 refine ⟨t++(l.drop (k+1)).flatMap F,?_⟩
 have e:=congrArg (List.flatMap F) (lm h)
 rw [Qy,List.flatMap_cons,hF] at e
 rw [e]
 simp [Zy]
theorem rz {ws:List Xk} {u:Xk→Option ByteArray} {j:Nat} {w:Xk} {key:ByteArray} (h:ws[j]?=some w) (hu:u w=some key):∃ t,ws.filterMap u=(ws.take j).filterMap u++key::t:=by
 refine ⟨(ws.drop (j+1)).filterMap u,?_⟩
 have e:=congrArg (List.filterMap u) (lm h)
 rw [List.filterMap_append,List.filterMap_cons,hu] at e
 exact e
theorem ta {ws:List Xk} {u:Xk→Option ByteArray} {j:Nat} {w:Xk} (h:ws[j]?=some w) (hu:u w=none):(ws.take (j+1)).filterMap u=(ws.take j).filterMap u:=by
 rw [Z5,h,List.filterMap_append]
 simp [hu]
theorem sZ {ws:List Xk} {u:Xk→Option ByteArray} {j:Nat} {w:Xk} {key:ByteArray} (h:ws[j]?=some w) (hu:u w=some key):(ws.take (j+1)).filterMap u=(ws.take j).filterMap u++[key]:=by
 rw [Z5,h,List.filterMap_append]
 simp [hu]
theorem pC {l:List Int} {F:Int→List ByteArray} {k:Nat} {x:Int} (h:l[k]?=some x):(l.take (k+1)).flatMap F=(l.take k).flatMap F++F x:=by
 rw [Z5,h,Qy]
 simp
theorem ud (x:Int):(ofK x).s<9223372036854775808:=by
 by_cases h:1≤x∧x≤2305843009213693949
 · rw [eu h.1 h.2]
   show x<_
   omega
 · rw [im (by omega)]
   decide
set_option maxRecDepth 20000 in
theorem rL (xs:Xh) (l:List Int) (c:Xb) (kl:List Xg) (g:Nat) (a:Xa) (b1 b2 b3:Nat) (ha:c.actsL[g]?=some a) (hr:a.Rng) (hz:a.Szs):Itx prog 49 [.pointer (some ⟨b2,0,none⟩),.pointer (some ⟨b3,0,none⟩),.pointer (some ⟨b1,0,none⟩)] (CandX xs l c kl g b1 b2 b3) encK false (candsV l (keyV c.acts.n kl g) a):=by
 intro lp X Rs Rx hX hY _ R0 h0
 have hgl:g<c.actsL.length:=(Qu.1 ha).1
 have ham:a∈c.actsL:=ZW ha
 have hsc:a.scope<9223372036854775808:=hr.ints.2.2.2.1
 have hep:a.epoch<9223372036854775808:=hr.ints.2.2.2.2.1
 have hwr:∀ w,X w→Wraps w a.wraps a.wrapsL:=fun w h=>((hX w h).at_.2 a ham).2
 have hke:=dG c kl (g:Int)
 have hxs0:candsV l (keyV c.acts.n kl g) a=l.flatMap (candX (keyV c.acts.n kl g) a):=rfl
 rw [hxs0] at hY ⊢
 unfold keyOP at hke
 have hcx:∀ x,candX (keyV c.acts.n kl g) a x=(bif (keyV c.acts.n kl g).isSome&&rightK (ofK x)&&decide ((ofK x).p=((keyV c.acts.n kl g).getD .zero).public_) then [secretV (ofK x) a.scope a.group a.epoch] else [])++a.wrapsL.filterMap (unwrapO x):=fun _=>rfl
 generalize keyV c.acts.n kl (g:Int)=fo at *
 generalize hF:candX fo a=F at *
 clear hF
 generalize hfs:fo.isSome=fs at *
 generalize fo.getD Xg.zero=fk at *
 refine bQ (args:=[_,_,_,_]) (Post:=fun _ R'=>Rs (l.flatMap F) R'∨∃ pre x suf,l.flatMap F=pre++x::suf∧Rx (pre++[x]) R') _ func49 rfl ntmps49 rfl fun av bor w0=>?_
 refine aK (p:=(c.acts.n=c.actsL.length∧c.acts.n≤maxLen∧(0<c.actsL.length→c.acts.p.isSome=true))∧xs.n=l.length∧xs.n≤maxLen∧(0<l.length→xs.p.isSome=true)) (fun w h=>⟨⟨(hX w h).at_.len_,(hX w h).at_.max_,(hX w h).at_.some_⟩,(hX w h).hl.len_,ZO (Xd.cap (hX w h).hl) (Xd.max (hX w h).hl),(hX w h).hl.some_⟩) fun ⟨⟨hcn,hcm,hcp⟩,hxn,hxm,hxp⟩=>?_
 simp only [maxLen] at hcm hxm
 have hcp':=hcp ab
 refine aK (p:=a.wraps.n=a.wrapsL.length∧a.wraps.n≤maxLen∧(0<a.wrapsL.length→a.wraps.p.isSome=true)) (fun w h=>⟨(hwr w h).len_,ZO (Xd.cap (hwr w h)) (Xd.max (hwr w h)),(hwr w h).some_⟩) fun ⟨hwn,hwm,hwp⟩=>?_
 simp only [maxLen] at hwm
 refine md (st':=⟨[(1,.pointer (some ⟨b2,0,none⟩)),(2,.pointer (some ⟨b3,0,none⟩)),(3,.pointer (some ⟨b1,0,none⟩)),(0,.func (.yield lp) #[] #[])],R0,X⟩) (ak aw (aj _) fun _ h=>h) ?_
 repeat' (first|(refine ae (hc:=hke) (hX:=fun w h=>⟨(hX w h).at_,(hX w h).keys⟩) ?_)|refine gs ?_|refine gs1 fun _=>?_|(refine mB (v:=c.acts.v) (hF:=fun w h=>(hX w h).hc.cell 1 _ rfl) ?_)|(refine mB (v:=.int .i64 (g:Int)) (hF:=fun w h=>(hX w h).gC) ?_)|(refine mB (v:=xs.v) (hF:=fun w h=>(hX w h).xsC) ?_)|(refine aA (q:=g*20) ?_)|(refine aO (cs:=a.cells) (hF:=fun w h=>Acts.get (hX w h).at_ ha) ?_)|(refine kp (cs:=c.cells) (hF:=fun w h=>(hX w h).hc.cell) (hl:=rfl) ?_)|(refine gp ?_ ?_<;>intro hx_ this)|fail)
 rename_i b5 b6
 refine az (ι:=CandI l F Rs) (fun i=>⟨[(0,.func (.yield lp) #[] #[]),(5,.pointer (some ⟨b5,0,none⟩)),(6,.pointer (some ⟨b6,0,none⟩)),(7,.bool fs),(26,xs.v),(27,.int .i64 xs.n),(28,.int .i64 i.k)],cel b6 40 fk.cells::cel b5 36 a.cells::i.R,X⟩) (fun i=>l.length-i.k) ⟨0,ZU _,R0,h0⟩
  (ak aw (aj _) fun _ h=>h) fun i=>?_
 have hik:=i.hk
 repeat' (first|refine gs ?_|refine gs1 fun _=>?_|(refine gp ?_ ?_<;>intro hx_ this)|fail)
 · have hlt:i.k<l.length:=by omega
   have hxp':=hxp ab
   obtain ⟨x,hx⟩:∃ x,l[i.k]?=some x:=⟨_,Zc hlt⟩
   have hso:=fb x
   have hsr:=de (ofK x)
   have hse:=gB (ofK x) a.scope a.group a.epoch (ud x) hsc hep (by have:=hz.group;omega)
   have hFx:=hcx x
   generalize hkey:secretV (ofK x) a.scope a.group a.epoch=key at *
   obtain ⟨B,hB⟩:∃ B,(fs&&rightK (ofK x)&&decide ((ofK x).p=fk.public_))=B:=⟨_,rfl⟩
   rw [hB] at hFx
   repeat' (first|apply cD|apply QA|refine cB ?_|refine bx ?_|refine dJ ?_|refine dv ?_|refine be ?_|refine ci ?_|refine cj ?_|refine d4 ?_|refine da ?_|refine d5 ?_|refine cA ?_|refine cw ?_|refine cZ ?_|refine bM ?_|refine dw ?_|refine bZ ?_|refine ca ?_|refine bY ?_|refine bO fun _=>?_|refine bX ?_|refine bf ?_|refine QE ?_|refine QF ?_|apply QD|apply QC|apply cw_ret|apply cw_exit|refine sy_beql (h:=?_)|refine cC ?_|refine cv ?_|(refine aA (q:=i.k) ?_)|(refine bm (q:=i.k) (u:=.int .i64 x) (hF:=fun w h=>(hX w h).hl.atG hx) ?_)|((fail_if_success (refine d8 ?_));refine cI (ht:=?_) (hf:=?_);all_goals (intro hx_;first|have:=bC hx_|have:=cq hx_|skip))|(refine cw_cond (ht:=?_) (hf:=?_);all_goals (intro hx_;first|have:=bC hx_|have:=cq hx_|skip)))
   repeat apply QA
   apply QB
   repeat' (first|apply cD|apply QA|refine cB ?_|refine bx ?_|refine dJ ?_|refine dv ?_|refine be ?_|refine ci ?_|refine cj ?_|refine d4 ?_|refine da ?_|refine d5 ?_|refine cA ?_|refine cw ?_|refine cZ ?_|refine bM ?_|refine dw ?_|refine bZ ?_|refine ca ?_|refine bY ?_|refine bO fun _=>?_|refine bX ?_|refine bf ?_|refine QE ?_|refine QF ?_|apply QD|apply QC|apply cw_ret|apply cw_exit|refine sy_beql (h:=?_)|refine cC ?_|refine cv ?_|(refine ae (hc:=hso) ?_)|((fail_if_success (refine d8 ?_));refine cI (ht:=?_) (hf:=?_);all_goals (intro hx_;first|have:=bC hx_|have:=cq hx_|skip))|(refine cw_cond (ht:=?_) (hf:=?_);all_goals (intro hx_;first|have:=bC hx_|have:=cq hx_|skip)))
   rename_i b10
   repeat apply QA
   refine bc (ι:=Unit) (fun _=>⟨[(0,.func (.yield lp) #[] #[]),(5,.pointer (some ⟨b5,0,none⟩)),(6,.pointer (some ⟨b6,0,none⟩)),(7,.bool fs),(26,xs.v),(27,.int .i64 xs.n),(28,.int .i64 i.k),(9,.int .i64 x),(10,.pointer (some ⟨b10,0,none⟩)),(45,.bool B)],cel b10 44 (ofK x).cells::cel b6 40 fk.cells::cel b5 36 a.cells::i.R,X⟩) ?_ fun _=>?_
   · subst hB
     generalize rightK (ofK x)=r at *
     cases fs<;>cases r
     all_goals
      apply QB
      repeat' (first|apply cD|apply QA|refine cB ?_|refine bx ?_|refine dJ ?_|refine dv ?_|refine be ?_|refine ci ?_|refine cj ?_|refine d4 ?_|refine da ?_|refine d5 ?_|refine cA ?_|refine cw ?_|refine cZ ?_|refine bM ?_|refine dw ?_|refine bZ ?_|refine ca ?_|refine bY ?_|refine bO fun _=>?_|refine bX ?_|refine bf ?_|refine QE ?_|refine QF ?_|apply QD|apply QC|apply cw_ret|apply cw_exit|refine sy_beql (h:=?_)|refine cC ?_|refine cv ?_|(refine ae (hc:=hsr) ?_)|((fail_if_success (refine d8 ?_));refine cI (ht:=?_) (hf:=?_);all_goals (intro hx_;first|have:=bC hx_|have:=cq hx_|skip))|(refine cw_cond (ht:=?_) (hf:=?_);all_goals (intro hx_;first|have:=bC hx_|have:=cq hx_|skip)))
      exact ⟨(),ak aw (aj _) fun _ h=>h⟩
   refine bc (ι:=CandM ((l.take i.k).flatMap F++(bif B then [key] else [])) Rs) (fun m=>⟨[(0,.func (.yield lp) #[] #[]),(5,.pointer (some ⟨b5,0,none⟩)),(6,.pointer (some ⟨b6,0,none⟩)),(7,.bool fs),(26,xs.v),(27,.int .i64 xs.n),(28,.int .i64 i.k),(9,.int .i64 x)],cel b6 40 fk.cells::cel b5 36 a.cells::m.R,X⟩) ?_ fun m=>?_
   · cases B with
     | false =>
      repeat' (first|refine gs ?_|refine gs1 fun _=>?_|(refine gp ?_ ?_<;>intro hx_ this)|fail)
      exact ⟨⟨i.R,by simpa using i.hR⟩,ak aw (ZS _ (aj _)) fun _ h=>h⟩
     | true =>
      obtain ⟨suf,hsuf⟩:=jo (F:=F) (s:=[]) hx hFx
      repeat' (first|(refine kQ (id:=7) ?_;refine mE (pre:=[_,_,_,_,_,_,_,_,_]) (rest:=[_,_]) rfl ?_)|(refine ae (hc:=hse) (hX:=fun w h=>(hX w h).glob) ?_)|refine gs ?_|refine gs1 fun _=>?_|(refine gp ?_ ?_<;>intro hx_ this)|fail)
      refine nC (Qz (l₁:=[_,_,_])) ?_
      refine ku (pre:=i.R) (fr:=[_,_,_]) (args:=encK key) rfl rfl rfl rfl rfl (hY _ _ _ _ hsuf (by simpa using i.hR)) (fun _ h=>h) fun v R' X' hv=>?_
      rcases hv with ⟨rfl,hR'⟩|⟨rfl,hR'⟩
      · refine dR rfl ?_
        refine d7 (Qz (l₂:=[_,_,_])) ?_
        repeat' (first|refine gs ?_|refine gs1 fun _=>?_|(refine gp ?_ ?_<;>intro hx_ this)|fail)
        exact ⟨⟨R',by simpa using hR'⟩,ak aw (ZS _ (aj _)) fun _ h=>h.1⟩
      · refine dR rfl ?_
        repeat' (first|refine gs ?_|refine gs1 fun _=>?_|(refine gp ?_ ?_<;>intro hx_ this)|fail)
        exact aa (aX rfl) ⟨R',Qo _ _,.inr ⟨_,_,suf,hsuf,hR'⟩⟩
   repeat' (first|refine gs ?_|refine gs1 fun _=>?_|(refine gp ?_ ?_<;>intro hx_ this)|fail)
   refine az (ι:=CandJ a.wrapsL (unwrapO x) ((l.take i.k).flatMap F++(bif B then [key] else [])) Rs) (fun j=>⟨[(0,.func (.yield lp) #[] #[]),(5,.pointer (some ⟨b5,0,none⟩)),(6,.pointer (some ⟨b6,0,none⟩)),(7,.bool fs),(26,xs.v),(27,.int .i64 xs.n),(28,.int .i64 i.k),(9,.int .i64 x),(58,a.wraps.v),(59,.int .i64 a.wraps.n),(60,.int .i64 j.j)],cel b6 40 fk.cells::cel b5 36 a.cells::j.R,X⟩) (fun j=>a.wrapsL.length-j.j) ⟨0,ZU _,m.R,by simpa using m.hR⟩
    (ak aw (aj _) fun _ h=>h) fun j=>?_
   have hjk:=j.hj
   by_cases hjl:j.j<a.wrapsL.length
   · have hwp':=hwp ab
     obtain ⟨W,hW⟩:∃ W,a.wrapsL[j.j]?=some W:=⟨_,Zc hjl⟩
     have hWm:=ZW hW
     have hun:=oE x W (hz.wraps W hWm) (hz.to W hWm)
     unfold strO at hun
     cases ho:unwrapO x W with
     | none =>
      rw [ho] at hun
      simp only [Option.isSome_none,Option.getD_none] at hun
      repeat' (first|(refine ae (hc:=hun) (hX:=fun w h=>(hX w h).glob) ?_)|refine gs ?_|refine gs1 fun _=>?_|(refine aA (q:=j.j*5) ?_)|(refine aO (cs:=W.cells) (hF:=fun w h=>Wraps.get (hwr w h) hW) ?_)|(refine gp ?_ ?_<;>intro hx_ this)|fail)
      all_goals first
       | (exfalso;omega)
       | exact ⟨⟨j.j+1,hjl,j.R,by rw [ta hW ho];exact j.hR⟩,(by show a.wrapsL.length-(j.j+1)<a.wrapsL.length-j.j;omega),ak aw (ZS _ (aj _)) fun _ h=>h⟩
     | some kk =>
      rw [ho] at hun
      simp only [Option.isSome_some,Z3] at hun
      obtain ⟨t,ht⟩:=rz (u:=unwrapO x) hW ho
      obtain ⟨suf,hsuf⟩:=jo (F:=F) (s:=(bif B then [key] else [])++(a.wrapsL.take j.j).filterMap (unwrapO x)) (key:=kk) (t:=t) hx (by rw [hFx,ht,Zy])
      rw [←Zy] at hsuf
      repeat' (first|(refine kQ (id:=12) ?_;refine mE (pre:=[_,_,_,_]) (rest:=[_,_,_]) rfl ?_)|(refine ae (hc:=hun) (hX:=fun w h=>(hX w h).glob) ?_)|refine gs ?_|refine gs1 fun _=>?_|(refine aA (q:=j.j*5) ?_)|(refine aO (cs:=W.cells) (hF:=fun w h=>Wraps.get (hwr w h) hW) ?_)|(refine gp ?_ ?_<;>intro hx_ this)|fail)
      · refine nC (Qz (l₁:=[_,_,_])) ?_
        refine ku (pre:=j.R) (fr:=[_,_,_]) (args:=encK kk) rfl rfl rfl rfl rfl (hY _ _ _ _ hsuf j.hR) (fun _ h=>h) fun v R' X' hv=>?_
        rcases hv with ⟨rfl,hR'⟩|⟨rfl,hR'⟩
        · refine dR rfl ?_
          refine d7 (Qz (l₂:=[_,_,_])) ?_
          repeat' (first|refine gs ?_|refine gs1 fun _=>?_|(refine gp ?_ ?_<;>intro hx_ this)|fail)
          exact ⟨⟨j.j+1,hjl,R',by rw [sZ hW ho,←Zy];exact hR'⟩,(by show a.wrapsL.length-(j.j+1)<a.wrapsL.length-j.j;omega),ak aw (ZS _ (aj _)) fun _ h=>h.1⟩
        · refine dR rfl ?_
          repeat' (first|refine gs ?_|refine gs1 fun _=>?_|(refine gp ?_ ?_<;>intro hx_ this)|fail)
          exact aa (aX rfl) ⟨R',Qo _ _,.inr ⟨_,_,suf,hsuf,hR'⟩⟩
      · exfalso;omega
   · have hall:=(congrArg (fun q=>Rs (((l.take i.k).flatMap F++(bif B then [key] else []))++List.filterMap (unwrapO x) q) j.R) (Z4 (show a.wrapsL.length≤j.j by omega))).mp j.hR
     repeat' (first|refine gs ?_|refine gs1 fun _=>?_|(refine gp ?_ ?_<;>intro hx_ this)|fail)
     all_goals first
      | (exfalso;omega)
      | exact ⟨⟨i.k+1,hlt,j.R,by rw [pC hx,hFx,←Zy];exact hall⟩,(by show l.length-(i.k+1)<l.length-i.k;omega),ak aw (aj _) fun _ h=>h⟩
 · have hk:l.length≤i.k:=by omega
   have hall:=i.hR
   rw [Z4 hk] at hall
   exact bj (aX rfl) ⟨i.R,ZS _ (List.sublist_cons_self _ _),.inl hall⟩
theorem pQ {key:ByteArray} {b:Xo} {k:ByteArray} (h:boxO key b=some k):k.size=b.data.size:=by
 unfold boxO at h
 cases hb:seqB b.tag (tagV key b.nonce b.data) with
 | false=>rw [hb] at h;cases h
 | true =>
  rw [hb] at h
  rw [←Option.some.inj h]
  exact iW _ _ _
theorem pJ {fo:Option Xg} {a:Xa} (hz:a.Szs) {l:List Int} {k:ByteArray} (h:k∈candsV l fo a):k.size≤10000000:=by
 obtain ⟨x,_,hk⟩:=List.mem_flatMap.1 h
 rcases Qk.1 hk with hk|hk
 · by_cases hc:(fo.isSome&&rightK (ofK x)&&decide ((ofK x).p=(fo.getD .zero).public_))=true
   · rw [hc] at hk
     rw [ZV.1 hk,ei]
     decide
   · rw [eq_false_of_ne_true hc] at hk
     exact absurd hk Z8
 · obtain ⟨w,hw,hu⟩:=List.mem_filterMap.1 hk
   unfold unwrapO at hu
   by_cases hc:(isSecB x&&decide (w.to=(expV 37 x.toNat:Nat))&&isPubB w.eph)=true
   · rw [hc] at hu
     have:=pQ hu
     have:=hz.wraps w hw
     omega
   · rw [eq_false_of_ne_true hc] at hu
     cases hu
theorem jW (b:Xo) (p s:List ByteArray):firstO b (p++s)=(firstO b p).or (firstO b s):=by
 rw [firstO,firstO,firstO,List.findSome?_append]
theorem pD (b:Xo) (k:ByteArray):firstO b [k]=boxO k b:=by
 rw [firstO,List.findSome?_cons]
 cases boxO k b<;>rfl
set_option maxRecDepth 20000 in
theorem kE (xs:Xh) (l:List Int) (c:Xb) (kl:List Xg) (i:Int) (hz:∀ a∈c.actsL,a.Rng∧a.Szs):Pu prog 6 #[xs.v,c.v,.int .i64 i] (fun w=>(Ints w xs l∧(c.at_ w∧Keyz w c.keys kl))∧Xc w) (strO (openV l c.actsL kl i)):=by
 refine ax func6 ntmps6 fun av bor w0=>?_
 refine aK (p:=c.acts.n=c.actsL.length∧c.acts.n≤maxLen∧(0<c.actsL.length→c.acts.p.isSome=true)) (fun w h=>⟨h.1.2.1.len_,h.1.2.1.max_,h.1.2.1.some_⟩) fun ⟨hcn,hcm,hcp⟩=>?_
 simp only [maxLen] at hcm
 by_cases h0:i<0
 · have e:openV l c.actsL kl i=none:=by rw [openV,Ze h0];rfl
   rw [e]
   repeat' (first|refine aL ?_ (bR true rfl rfl (Ze h0))|refine gs ?_|refine gs1 fun _=>?_|(refine gp ?_ ?_<;>intro hx_ this)|fail)
   exact aa (bK rfl rfl rfl aB aB) rfl
 by_cases h1:(c.actsL.length:Int)≤i
 · have e:openV l c.actsL kl i=none:=by rw [openV,Ze h1,Bool.or_true];rfl
   have h1':(c.acts.n:Int)≤i:=by omega
   rw [e]
   repeat' (first|refine aL ?_ (bR false rfl rfl (Zd h0))|refine aL ?_ (cY true rfl rfl (Ze h1'))|refine gs ?_|refine gs1 fun _=>?_|(refine gp ?_ ?_<;>intro hx_ this)|fail)
   exact aa (bK rfl rfl rfl aB aB) rfl
 have h1':¬ (c.acts.n:Int)≤i:=by omega
 obtain ⟨n,rfl⟩:=Int.eq_ofNat_of_zero_le (show 0≤i by omega)
 have hn:n<c.actsL.length:=by omega
 obtain ⟨a,ha⟩:∃ a,c.actsL[n]?=some a:=⟨_,Zc hn⟩
 have haD:c.actsL.getD n Xa.zero=a:=by rw [Zl,ha];rfl
 have ham:=ZW ha
 have hcp':=hcp ab
 have hO:openV l c.actsL kl (n:Int)=openA l c.actsL kl n a:=by
  rw [openV,Zd h0,Zd h1,ZP,haD]
  rfl
 rw [hO,openA]
 have hwr:Pu prog 17 #[.int .i64 a.kind] (fun _=>True) (.bool (writtenB a.kind)):=fy a.kind
 have hgr:=gP c (n:Int) a.scope a.group
 cases hw:writtenB a.kind with
 | false =>
  rw [hw] at hwr
  repeat' (first|refine aL ?_ (bR false rfl rfl (Zd h0))|refine aL ?_ (cY false rfl rfl (Zd h1'))|(refine ae (hc:=hwr) ?_)|refine gs ?_|refine gs1 fun _=>?_|(refine aA (q:=n*20) ?_)|(refine cH ?_)|(refine bm (q:=n*20+3) (u:=.int .i64 a.kind) (hF:=fun w h=>(Acts.get h.1.2.1 ha).2.2 3 _ rfl) ?_)|(refine gp ?_ ?_<;>intro hx_ this)|fail)
  exact aa (bK rfl rfl rfl aB aB) rfl
 | true =>
  rw [hw] at hwr
  by_cases hs:a.scope=0
  · rw [Ze hs]
    repeat' (first|refine aL ?_ (bR false rfl rfl (Zd h0))|refine aL ?_ (cY false rfl rfl (Zd h1'))|refine dA (hab:=hs) ?_|(refine ae (hc:=hwr) ?_)|refine gs ?_|refine gs1 fun _=>?_|(refine aA (q:=n*20) ?_)|(refine cH ?_)|(refine bm (q:=n*20+3) (u:=.int .i64 a.kind) (hF:=fun w h=>(Acts.get h.1.2.1 ha).2.2 3 _ rfl) ?_)|(refine aO (cs:=a.cells) (hF:=fun w h=>Acts.get h.1.2.1 ha) ?_)|(refine gp ?_ ?_<;>intro hx_ this)|fail)
    exact aa (bK rfl rfl rfl aB aB) rfl
  · rw [Zd hs]
    simp only [Zg,Zf]
    have hgl:=fi c.actsL a.scope a.group (limN (n:Int) c.actsL.length)
    change (grantV c.actsL n a.scope a.group).2≤_∧(0<(grantV c.actsL n a.scope a.group).2→(grantV c.actsL n a.scope a.group).1<_) at hgl
    rw [nT (Nat.le_of_lt hn)] at hgl
    rw [openG,←hcn]
    generalize grantV c.actsL (n:Int) a.scope a.group=gv at *
    obtain ⟨gi,cnt⟩:=gv
    simp only at hgl hgr ⊢
    repeat' (first|refine aL ?_ (bR false rfl rfl (Zd h0))|refine aL ?_ (cY false rfl rfl (Zd h1'))|refine dB (hab:=hs) ?_|(refine ae (hc:=hwr) ?_)|(refine ae (hc:=hgr) (hX:=fun w h=>⟨h.1.2.1,h.2⟩) ?_)|refine gs ?_|refine gs1 fun _=>?_|(refine aA (q:=n*20) ?_)|(refine cH ?_)|(refine bm (q:=n*20+3) (u:=.int .i64 a.kind) (hF:=fun w h=>(Acts.get h.1.2.1 ha).2.2 3 _ rfl) ?_)|(refine aO (cs:=a.cells) (hF:=fun w h=>Acts.get h.1.2.1 ha) ?_)|(refine gp ?_ ?_<;>intro hx_ this)|fail)
    rename_i b4 b6 b7 b8
    cases hc0:decide ((0:Int)<(cnt:Nat)) with
    | false =>
     have hc1:=cq hc0
     rw [Zd (show ¬ 0<cnt by omega)]
     refine bc (ι:=Unit) (fun _=>⟨[(0,xs.v),(4,.pointer (some ⟨b4,0,none⟩)),(6,.pointer (some ⟨b6,0,none⟩)),(7,.pointer (some ⟨b7,0,none⟩)),(8,.pointer (some ⟨b8,0,none⟩)),(9,.int .i64 (gi:Int)),(65,.bool true)],[cel b8 36 a.cells,cel b7 4 [.bool false],cel b6 9 [.string ⟨#[]⟩],cel b4 26 c.cells],fun w=>(Ints w xs l∧(c.at_ w∧Keyz w c.keys kl))∧Xc w⟩) ?_ fun _=>?_
     · (refine aJ ⟨[0,1,2,3,4,5,6,7,8,9,10,11,12],[]⟩ (h:=?_))
       all_goals repeat' (first|refine gd ?_|refine aE ?_ (h':=?_)|exact aF|refine gs1 fun _=>?_|(refine gq ?_ ?_<;>intro hx_ this)|fail)
       all_goals exact ⟨(),ak aw (aj _) fun _ h=>h⟩
     repeat' (first|refine gs ?_|refine gs1 fun _=>?_|(refine gp ?_ ?_<;>intro hx_ this)|fail)
     exact aa (bK rfl rfl rfl aB aB) rfl
    | true =>
     have hc1:=bC hc0
     have hgi:gi<n:=hgl.2 ab
     obtain ⟨ag,hag⟩:∃ ag,c.actsL[gi]?=some ag:=⟨_,Zc ab⟩
     have hagD:c.actsL.getD gi Xa.zero=ag:=by rw [Zl,hag];rfl
     have hagm:=ZW hag
     rw [Ze (show 0<cnt by omega),hagD]
     by_cases he:ag.epoch=a.epoch
     · rw [Ze he]
       simp only [Bool.and_self,Zg]
       refine bc (ι:=Unit) (fun _=>⟨[(0,xs.v),(4,.pointer (some ⟨b4,0,none⟩)),(6,.pointer (some ⟨b6,0,none⟩)),(7,.pointer (some ⟨b7,0,none⟩)),(8,.pointer (some ⟨b8,0,none⟩)),(9,.int .i64 (gi:Int)),(65,.bool false)],[cel b8 36 a.cells,cel b7 4 [.bool false],cel b6 9 [.string ⟨#[]⟩],cel b4 26 c.cells],fun w=>(Ints w xs l∧(c.at_ w∧Keyz w c.keys kl))∧Xc w⟩) ?_ fun _=>?_
       · (refine aJ ⟨[0,1,2,3,4,5,6,7,8,9,10,11,12],[]⟩ (h:=?_))
         all_goals repeat' (first|refine aH (hy:=by first|(apply bG false;rfl;rfl;rw [Ze he];rfl)) ?_|refine gd ?_|refine aH (hy:=by first|(apply du (q:=gi*20);rfl;rfl;omega;omega;assumption;omega)|(apply eF;rfl;assumption;rfl)|(apply iz (q:=gi*20+14) (u:=.int .i64 ag.epoch);rfl;exact fun w h=>(Acts.get h.1.2.1 hag).2.2 14 _ rfl)) ?_|refine aE ?_ (h':=?_)|exact aF|refine gs1 fun _=>?_|(refine gq ?_ ?_<;>intro hx_ this)|fail)
         all_goals exact ⟨(),ak aw (aj _) fun _ h=>h⟩
       have hcm':=rK xs c gi
       repeat' (first|(refine aU (hc:=hcm') fun v1 X1 h1=>?_;obtain ⟨d1,d2,d3,rfl,hd⟩:=h1)|refine gs ?_|refine gs1 fun _=>?_|(refine gp ?_ ?_<;>intro hx_ this)|fail)
       refine j3 (ps:=[70]) (inf:=false) (xs:=candsV l (keyV c.acts.n kl gi) ag) (enc:=encK) (X1:=CandX xs l c kl gi d1 d2 d3) rfl ⟨ac⟩ (rL xs l c kl gi ag d1 d2 d3 hag (hz ag hagm).1 (hz ag hagm).2) (fun w h=>⟨(hd w h.2).1,(hd w h.2).2.1,(hd w h.2).2.2,h.1.1.1,h.1.1.2.1,h.1.1.2.2,h.1.2⟩) (fun _=>rfl) rfl
        (fun pre loc1=>firstO a.body pre=none∧loc1=[cel b8 36 a.cells,cel b7 4 [.bool false],cel b6 9 [.string ⟨#[]⟩],cel b4 26 c.cells]) (fun c' pre loc1=>c'=.ret∧∃ p,firstO a.body pre=some p∧loc1=[cel b8 36 a.cells,cel b7 4 [.bool true],cel b6 9 [.string p],cel b4 26 c.cells])
        ⟨rfl,rfl⟩ (fun h=>by cases h) ?_ ?_ ?_
       · rintro lo pre x suf loc1 hsp ⟨hpn,rfl⟩ av bor w0
         have hxm:x∈candsV l (keyV c.acts.n kl gi) ag:=by rw [hsp];exact Qg _ aC
         have hxs:=pJ (hz ag hagm).2 hxm
         have hop:=gU x a.body (by have:=(hz a ham).2.body;omega)
         have hnx:firstO a.body (pre++[x])=boxO x a.body:=by rw [jW,hpn,pD];rfl
         unfold strO at hop
         repeat' (first|apply cD|apply Rd.QA|refine Rd.QB (h:=?_)|refine cB ?_|refine bx ?_|refine dJ ?_|refine dv ?_|refine be ?_|refine ci ?_|refine cj ?_|refine d4 ?_|refine da ?_|refine fB ?_|refine d5 ?_|refine fD ?_|refine cA ?_|refine eY ?_|refine cw ?_|refine cZ ?_|refine bM ?_|refine bZ ?_|refine ca ?_|refine bY ?_|refine bO fun _=>?_|refine d9 fun _=>?_|refine bX ?_|refine bf ?_|refine Rd.QE (ht:=?_)|refine Rd.QF (hf:=?_)|apply Rd.QD|apply Rd.QC|apply Rd.cw_ret|apply Rd.cw_exit|refine sy_beql (h:=?_)|refine fa ?_|refine cC ?_|refine cv ?_)
         intro av bor w0
         cases hbo:boxO x a.body with
         | none =>
          rw [hbo] at hop hnx
          simp only [Option.isSome_none,Option.getD_none] at hop
          repeat' (first|apply cD|apply Rd.QA|refine Rd.QB (h:=?_)|refine cB ?_|refine bx ?_|refine dJ ?_|refine dv ?_|refine be ?_|refine ci ?_|refine cj ?_|refine d4 ?_|refine da ?_|refine fB ?_|refine d5 ?_|refine fD ?_|refine cA ?_|refine eY ?_|refine cw ?_|refine cZ ?_|refine bM ?_|refine bZ ?_|refine ca ?_|refine bY ?_|refine bO fun _=>?_|refine d9 fun _=>?_|refine bX ?_|refine bf ?_|refine Rd.QE (ht:=?_)|refine Rd.QF (hf:=?_)|apply Rd.QD|apply Rd.QC|apply Rd.cw_ret|apply Rd.cw_exit|refine sy_beql (h:=?_)|refine fa ?_|refine cC ?_|refine cv ?_|(refine aV ?_)|(refine ae (hc:=hop) (hX:=fun w h=>h.1.2) ?_)|((fail_if_success (refine d8 ?_));refine cI (ht:=?_) (hf:=?_);all_goals (intro hx_;first|have:=bC hx_|have:=cq hx_|skip))|(refine Rd.cw_cond (ht:=?_) (hf:=?_);all_goals (intro hx_;first|have:=bC hx_|have:=cq hx_|skip)))
          exact ⟨_,aj _,hnx,rfl⟩
         | some p =>
          rw [hbo] at hop hnx
          simp only [Option.isSome_some,Z3] at hop
          repeat' (first|apply cD|apply Rd.QA|refine Rd.QB (h:=?_)|refine cB ?_|refine bx ?_|refine dJ ?_|refine dv ?_|refine be ?_|refine ci ?_|refine cj ?_|refine d4 ?_|refine da ?_|refine fB ?_|refine d5 ?_|refine fD ?_|refine cA ?_|refine eY ?_|refine cw ?_|refine cZ ?_|refine bM ?_|refine bZ ?_|refine ca ?_|refine bY ?_|refine bO fun _=>?_|refine d9 fun _=>?_|refine bX ?_|refine bf ?_|refine Rd.QE (ht:=?_)|refine Rd.QF (hf:=?_)|apply Rd.QD|apply Rd.QC|apply Rd.cw_ret|apply Rd.cw_exit|refine sy_beql (h:=?_)|refine fa ?_|refine cC ?_|refine cv ?_|(refine aV ?_)|(refine ae (hc:=hop) (hX:=fun w h=>h.1.2) ?_)|((fail_if_success (refine d8 ?_));refine cI (ht:=?_) (hf:=?_);all_goals (intro hx_;first|have:=bC hx_|have:=cq hx_|skip))|(refine Rd.cw_cond (ht:=?_) (hf:=?_);all_goals (intro hx_;first|have:=bC hx_|have:=cq hx_|skip)))
          exact ⟨_,aj _,rfl,p,hnx,rfl⟩
       · rintro loc1 ⟨hpn,rfl⟩
         repeat' (first|refine gs ?_|refine gs1 fun _=>?_|(refine gp ?_ ?_<;>intro hx_ this)|fail)
         refine aa (bK rfl rfl rfl aB aB) ?_
         rw [hpn]
         rfl
       · rintro c' pre x suf loc1 hsp ⟨rfl,p,hp,rfl⟩
         refine cw_ret ?_
         refine aa (bK rfl rfl rfl aB aB) ?_
         have e:firstO a.body (candsV l (keyV c.acts.n kl gi) ag)=some p:=by
          rw [hsp,show pre++x::suf=(pre++[x])++suf by simp,jW,hp]
          rfl
         rw [e]
         rfl
     · rw [Zd he]
       simp only [Zi,Zf]
       refine bc (ι:=Unit) (fun _=>⟨[(0,xs.v),(4,.pointer (some ⟨b4,0,none⟩)),(6,.pointer (some ⟨b6,0,none⟩)),(7,.pointer (some ⟨b7,0,none⟩)),(8,.pointer (some ⟨b8,0,none⟩)),(9,.int .i64 (gi:Int)),(65,.bool true)],[cel b8 36 a.cells,cel b7 4 [.bool false],cel b6 9 [.string ⟨#[]⟩],cel b4 26 c.cells],fun w=>(Ints w xs l∧(c.at_ w∧Keyz w c.keys kl))∧Xc w⟩) ?_ fun _=>?_
       · (refine aJ ⟨[0,1,2,3,4,5,6,7,8,9,10,11,12],[]⟩ (h:=?_))
         all_goals repeat' (first|refine aH (hy:=by first|(apply bG true;rfl;rfl;rw [Zd he];rfl)) ?_|refine gd ?_|refine aH (hy:=by first|(apply du (q:=gi*20);rfl;rfl;omega;omega;assumption;omega)|(apply eF;rfl;assumption;rfl)|(apply iz (q:=gi*20+14) (u:=.int .i64 ag.epoch);rfl;exact fun w h=>(Acts.get h.1.2.1 hag).2.2 14 _ rfl)) ?_|refine aE ?_ (h':=?_)|exact aF|refine gs1 fun _=>?_|(refine gq ?_ ?_<;>intro hx_ this)|fail)
         all_goals exact ⟨(),ak aw (aj _) fun _ h=>h⟩
       repeat' (first|refine gs ?_|refine gs1 fun _=>?_|(refine gp ?_ ?_<;>intro hx_ this)|fail)
       exact aa (bK rfl rfl rfl aB aB) rfl
def gz:Xh:=⟨none,0,0⟩
def gh:Xh:=⟨none,1,1⟩
theorem rv:gkU1.Rng:=⟨by decide +kernel,fun w hw=>(Z8 hw).elim,rfl,rfl⟩
theorem sO:gkU1.Sm:=⟨by decide,by decide,by decide⟩
theorem lW:gkA1.Rng:=⟨by decide +kernel,fun w hw=>(Z8 hw).elim,rfl,rfl⟩
theorem oe:gkA1.Sm:=⟨by decide,by decide,by decide⟩
theorem ru:(gkU2.re gh gh).Rng:=⟨by decide +kernel,fun w hw=>by rw [ZV.1 hw];decide +kernel,rfl,rfl⟩
theorem sM:(gkU2.re gh gh).Sm:=⟨by decide,by decide,by decide⟩
theorem lV:(gkA2.re gh gh).Rng:=⟨by decide +kernel,fun w hw=>by rw [ZV.1 hw];decide +kernel,rfl,rfl⟩
theorem od:(gkA2.re gh gh).Sm:=⟨by decide,by decide,by decide⟩
theorem rt:gkU3.Rng:=⟨by decide +kernel,fun w hw=>(Z8 hw).elim,rfl,rfl⟩
theorem sL:gkU3.Sm:=⟨by decide,by decide,by decide⟩
theorem lU:gkA3.Rng:=⟨by decide +kernel,fun w hw=>(Z8 hw).elim,rfl,rfl⟩
theorem sP:gkA3.Sm:=⟨by decide,by decide,by decide⟩
theorem lq {k:X9} {a:Xa} {s1 s2:Xh} (h:rightB (a.sig Xy.zero)=true) (h':rightB ((a.re s1 s2).sig Xy.zero)=true) (hk:rightK k=true):actSignV k (a.re s1 s2)=(actSignV k a).re s1 s2:=by
 rw [actSignV,actSignV,h,h',hk]
 rfl
theorem un:rightB (gkU2.sig Xy.zero)=true:=by decide +kernel
theorem sT:rightB ((gkU2.re gh gh).sig Xy.zero)=true:=by decide +kernel
theorem sS:rightB (gkU2.re gh gh)=true:=by decide +kernel
theorem oj:rightB (gkA2.re gh gh)=true:=by decide +kernel
theorem rs:rightB (gkU3.sig Xy.zero)=true:=by decide +kernel
theorem og:rightB gkU3=true:=by decide +kernel
theorem sign2 {st sw:Xh} (h1:st.n=1) (h2:sw.n=1):actSignV gkK (gkU2.re st sw)=gkA2.re st sw:=by
 have e:rightB ((gkU2.re st sw).sig Xy.zero)=true:=(cd (a:=(gkU2.re gh gh).sig Xy.zero) (s1:=st) (s2:=sw) h1 h2).trans sT
 rw [lq un e dx,uN]
theorem sign3 {s:Xh} (h:s.n=0):actSignV gkK (gkU3.re s gz)=gkA3.re s gz:=by
 have e:rightB ((gkU3.re s gz).sig Xy.zero)=true:=(cd (a:=gkU3.sig Xy.zero) (s1:=s) (s2:=gz) h rfl).trans rs
 rw [lq rs e dx,uM]
theorem dig2 {st sw:Xh} (h1:st.n=1) (h2:sw.n=1):digV (gkA2.re st sw)=gkD2:=by
 have e:digV (gkA2.re gh gh)=gkD2:=kP oj (show nl (coreV (gkA2.re gh gh))=gkM2 from (congrArg nl (gj gkU2 ⟨((2273695731113042119:Nat):Int),((2201329139463965955:Nat):Int)⟩ Xy.zero)).trans tF) (by rw [ro];decide) (by rw [ro];decide) (E:=2273695731113042119) (G:=2201329139463965955) rfl rfl (by decide +kernel)
 exact (jl (a:=gkA2.re gh gh) (s1:=st) (s2:=sw) h1 h2).trans e
theorem dig1G {s1 s2:Xh} (h1:s1.n=0) (h2:s2.n=0):digV (gkA1.re s1 s2)=gkD1:=(jl (a:=gkA1) h1 h2).trans uX
theorem fitsG {c:Xb} {n:Nat} {d:ByteArray} (h:TaleG c n d) (hn:0<n) {a:Xa} (hr:rightB a=true) (ha:a.author=gkI) (hs:a.seq=(n:Int)) (hp:a.prev=d) (h0:a.kind≠0) (h6:a.kind≠6) (h13:a.kind≠13) (h14:a.kind≠14) (o:Option Nat):fitsV c a o=true:=by
 have e2:seqB a.author c.id=true:=by rw [ha,h.id];exact bo _
 have e3:decide (a.seq=(c.acts.n:Int))=true:=by rw [hs,h.n];exact Ze rfl
 have e4:seqB a.prev c.prev=true:=by rw [hp,h.prev];exact bo _
 have e5:(decide (a.kind=0) != decide ((c.acts.n:Int)=0))=false:=by rw [h.n,Zd h0,Zd (by omega)];rfl
 rw [fitsV,hr,e2,e3,e4,e5,Zd h6,Zd h13,Zd h14]
 rfl
theorem gr2 {c:Xb} (h:TaleG c 2 gkD1) (st sw:Xh):grD c 1 2 ⟨#[]⟩ gkJ gkW st sw=gkU2.re st sw:=by
 rw [grD,draftV,h.id,h.n,h.prev]
 rfl
theorem seal3 {c:Xb} (h:TaleG c 3 gkD2) (s:Xh):sealD c draftG 0 gkB s=gkU3.re s gz:=by
 rw [sealD,draftV,h.id,h.n,h.prev]
 rfl
theorem nonce3 {c:Xb} (h:TaleG c 3 gkD2):nonceV c gkS hiG=gkN1:=by
 rw [nonceV,h.n,h.prev]
 exact pu
def PostedG (b:Xa) (m:Nat) (u:Value) (X:World→Prop):Prop:=∃ s1 s2:Xh,s1.n=m∧s2.n=m∧u=.tuple #[(b.re s1 s2).v,.int .i64 0]∧∀ w,X w→(b.re s1 s2).at_ w
theorem po {c:Xb} {x0 x1:Xa} (sp:Xh) (hc:Xr c.actsL) (hl:c.actsL=[x0,x1]) (hk:KdG x0 x1) (h:TaleG c 2 gkD1) (hct:∀ x∈c.actsL,x.to.n≤1000000) :
  Mk prog 16 #[gkK.v,c.v,.int .i64 1,.string ⟨#[]⟩,.slice none 0 0,sp.v,.int .i64 2] (fun w=>((c.at_ w∧Keyz w c.keys gkl)∧Ints w sp [gkF.p])∧Xc w) (PostedG gkA2 1):=by
 have hn:(c.acts.n:Int)=2:=by rw [h.n];rfl
 refine ip (pp gkK c gkl 1 2 gkF.p ⟨#[]⟩ gkJ gkS gkW sp hc (by rw [hl];show 2≤1000000;decide) hct (by decide) (by decide) (ownG h) (by rw [hn];exact memG (by rw [hl];exact tieG2 hk) h.id) (by decide +kernel) (by rw [hn];exact (freshG2 hk hl).1) (by decide +kernel) (by decide) jV sK (fun st sw k1 k2=>by rw [gr2 h];exact (cd (a:=gkU2.re gh gh) (s1:=st) (s2:=sw) k1 k2).trans sS) (fun st sw k1 k2=>by rw [gr2 h];exact ⟨cR (a:=gkU2.re gh gh) ru k1 k2,ec (a:=gkU2.re gh gh) sM k1 k2⟩)) fun u X ⟨st,sw,s1,s2,h1,h2,h3,h4,hu,hw⟩=>?_
 rw [gr2 h,sign2 h1 h2] at h3 h4 hu hw
 exact ⟨s1,s2,h3.trans h1,h4.trans h2,hu,hw⟩
theorem qB {c:Xb} {x0 x1 x2:Xa} (hc:Xr c.actsL) (hl:c.actsL=[x0,x1,x2]) (hk:KdG x0 x1) (h2k:x2.kind=16) (hs:x2.scope=1) (hg:x2.group=⟨#[]⟩) (he:x2.epoch=0) (ht:x2.toL=[gkJ]) (h:TaleG c 3 gkD2) (hct:∀ x∈c.actsL,x.to.n≤1000000) :
  Mk prog 15 #[gkK.v,c.v,draftG.v,.string hiG] (fun w=>((c.at_ w∧Keyz w c.keys gkl)∧draftG.at_ w)∧Xc w) (PostedG gkA3 0):=by
 have hn:(c.acts.n:Int)=3:=by rw [h.n];rfl
 obtain ⟨f1,f2,f3⟩:=freshG3 hk h2k hs hg he ht h.id hl
 have e1:draftG.scope=1:=rfl
 have e2:draftG.group=⟨#[]⟩:=rfl
 have hx:epochO c.actsL (c.acts.n:Int) draftG.scope draftG.group=some x2:=by rw [hn];exact f1
 refine ip (lA gkK c gkl draftG x2 ⟨0,gkK.p,0⟩ hiG gkS gkN1 gkB hc (by rw [hl];show 3≤1000000;decide) hct rfl (by decide) (by decide) rfl rfl (ownG h) (by rw [hn];exact f2) (by rw [hn,e1,e2,f3];decide) (by rw [hn,e1,e2,f3,h.n];exact mX 2 (by decide)) rfl hx (by decide +kernel) (by rw [he];decide) (by decide) (by decide) (by rw [h.prev];decide) (by rw [he];exact jV) (nonce3 h) sR (fun s h0=>by rw [he,seal3 h];exact (cd (a:=gkU3) (s1:=s) (s2:=gz) h0 rfl).trans og) (fun s h0=>by
   rw [he,seal3 h]
   exact fitsG h (by decide) ((cd (a:=gkU3) (s1:=s) (s2:=gz) h0 rfl).trans og) rfl rfl rfl (show (1:Int)≠0 by decide) (show (1:Int)≠6 by decide) (show (1:Int)≠13 by decide) (show (1:Int)≠14 by decide) _) (fun s h0=>by rw [he,seal3 h];exact ⟨cR (a:=gkU3) rt h0 rfl,ec (a:=gkU3) sL h0 rfl⟩)) fun u X ⟨s,s1,s2,h0,h1,h2,hu,hw⟩=>?_
 rw [he,seal3 h,sign3 h0] at h1 h2 hu hw
 exact ⟨s1,s2,h1.trans h0,h2,hu,hw⟩
theorem szsG {a:Xa} (hg:a.group=⟨#[]⟩) (hb:a.body.nonce.size≤100) (hd:a.body.data.size≤100) (hw:∀ w∈a.wrapsL,w=gkW):a.Szs:=by
 have e1:gkW.box.nonce.size+gkW.box.data.size≤10000000:=by decide +kernel
 have e2:gkW.to<9223372036854775808:=by decide +kernel
 refine ⟨by rw [hg];decide,by omega,fun w h=>?_,fun w h=>?_⟩
 · rw [hw w h];exact e1
 · rw [hw w h];exact e2
structure MetG where
 s1:Xh
 s2:Xh
 h1:s1.n=0
 h2:s2.n=0
 sb:Xh
set_option maxRecDepth 20000 in
theorem mH:Pu prog 4 #[] Xc (.bool true):=by
 refine ax func4 ntmps4 fun av bor w0=>?_
 have hk:=iI ⟨#[97]⟩ (by decide)
 rw [rx] at hk
 have hkf:=iI ⟨#[102]⟩ (by decide)
 rw [sW] at hkf
 have hbg:=nf
 have hid:Pu prog 12 #[.int .i64 gkF.p] Xc (.string gkJ):=by
  have h:=cQ gkF.p (by decide +kernel)
  rw [show idV gkF.p=gkJ from uo] at h
  exact h
 repeat' (first|(refine ae (hc:=hk) ?_)|(refine ae (hc:=hkf) ?_)|(refine aU (hc:=hbg) fun v1 X1 h1=>?_;obtain ⟨sa,sk,s1,s2,hs1,hs2,rfl,hw0⟩:=h1)|refine gs ?_|refine gs1 fun _=>?_|(refine gp ?_ ?_<;>intro hx_ this)|fail)
 refine ik (p:=sa.n=1) (fun w h=>by simpa using (hw0 w h.2).1.1.len) fun hsa=>?_
 obtain ⟨x0,hx0⟩:∃ x,x=gkA0.re s1 s2:=⟨_,rfl⟩
 rw [←hx0] at hw0 ⊢
 have hR0:x0.Rng:=by rw [hx0];exact cR oi hs1 hs2
 have hS0:x0.Sm:=by rw [hx0];exact ec rr hs1 hs2
 obtain ⟨c0,hc0⟩:∃ c,c=begG sa sk x0:=⟨_,rfl⟩
 have hl0:c0.actsL=[x0]:=by rw [hc0];rfl
 have hT0:TaleG c0 1 gkD0:=by rw [hc0];exact ⟨rfl,hsa,rfl⟩
 have hA0:Xr c0.actsL:=by
  rw [hl0]
  exact ⟨fun a h=>by rw [ZV.1 h];exact hR0,fun a h=>by rw [ZV.1 h];exact hS0⟩
 have hat0:∀ w,X1 w→c0.at_ w∧Keyz w c0.keys gkl:=fun w h=>by rw [hc0];exact hw0 w h
 rw [←hc0]
 have hdr:=gg c0 8 1
 have hd:(draftV c0 8 1).cells.set 6 (.string gkJ)=gkU1.cells:=by
  rw [draftV,hT0.id,hT0.n,hT0.prev]
  rfl
 have hsg:=eC gkK gkU1 rv sO
 rw [uO] at hsg
 repeat' (first|(refine ae (hc:=hdr) (hX:=fun w h=>trivial) ?_)|(refine ae (hc:=hid) ?_)|refine gs ?_|refine gs1 fun _=>?_|(refine gp ?_ ?_<;>intro hx_ this)|fail)
 rw [hd]
 rename_i b1 b2 b3 b4
 have hex1:∀ t1 t2:Xh,t1.n=0→t2.n=0→Mk prog 13 #[c0.v,(gkA1.re t1 t2).v] (fun w=>(c0.at_ w∧(gkA1.re t1 t2).at_ w)∧Xc w) (ExtG c0 (gkA1.re t1 t2)):=fun t1 t2 k1 k2=>dN c0 _ hA0 (cR lW k1 k2) (ec oe k1 k2) (by rw [hl0];show 1≤100000;decide) (fitsG hT0 (by decide) ((cd (a:=gkA1) k1 k2).trans tE) rfl rfl rfl (show (8:Int)≠0 by decide) (show (8:Int)≠6 by decide) (show (8:Int)≠13 by decide) (show (8:Int)≠14 by decide) _) (show (8:Int)≠18 by decide)
 refine bc (ι:=MetG) (fun i=>⟨[(1,.pointer (some ⟨b1,0,none⟩)),(2,.pointer (some ⟨b2,0,none⟩)),(3,.pointer (some ⟨b3,0,none⟩))],[cel b3 26 (extG c0 i.sb (gkA1.re i.s1 i.s2)).cells,cel b2 44 gkF.cells,cel b1 44 gkK.cells],fun w=>(Xc w∧X1 w)∧(extG c0 i.sb (gkA1.re i.s1 i.s2)).at_ w⟩) ?_ fun i=>?_
 · (refine aw_draw ⟨[1,2],[(0,⟨[],[(3,⟨[],[(4,⟨[],[(5,⟨[],[]⟩)]⟩)]⟩)]⟩),(3,⟨[],[(0,⟨[],[(4,⟨[],[(5,⟨[],[]⟩)]⟩)]⟩)]⟩)]⟩ [cel b4 36 gkU1.cells,cel b1 44 gkK.cells] (fun w=>Xc w∧X1 w) (h:=?_))
   all_goals repeat' (first|((refine aU (hc:=hsg) (hX:=fun w h=>⟨⟨aG w 1,aG w 5⟩,h.1⟩) fun v2 X2 h2=>?_;obtain ⟨t1,t2,rfl,hn1,hn2,hat⟩:=h2))|((refine aU (hc:=hex1 t1 t2 hn1 hn2) (hX:=fun w h=>⟨⟨(hat0 w h.1.2).1,hat w h.2⟩,h.1.1⟩) fun v3 X3 h3=>?_;obtain ⟨sb,rfl,hw3⟩:=h3))|refine gdz ?_|refine aE ?_ (h':=?_)|exact aF|refine gs1 fun _=>?_|(refine gq ?_ ?_<;>intro hx_ this)|fail)
   all_goals exact ⟨(⟨t1,t2,hn1,hn2,sb⟩:MetG),ak aw (by first|exact .cons _ (aj _)|exact .cons_cons _ (.cons _ (aj _))) fun w h=>⟨h.1.1,hw3 w h.2⟩⟩
 obtain ⟨t1,t2,k1,k2,sb⟩:=i
 simp only
 refine aK (p:=sb.n=2) (fun w h=>by
  have h1:=h.2.1.len
  simpa [extG,hl0] using h1) fun hsb=>?_
 obtain ⟨x1,hx1⟩:∃ x,x=gkA1.re t1 t2:=⟨_,rfl⟩
 rw [←hx1]
 have hR1:x1.Rng:=by rw [hx1];exact cR lW k1 k2
 have hS1:x1.Sm:=by rw [hx1];exact ec oe k1 k2
 obtain ⟨c1,hc1⟩:∃ c,c=extG c0 sb x1:=⟨_,rfl⟩
 rw [←hc1]
 have hl1:c1.actsL=[x0,x1]:=by rw [hc1,extG,hl0];rfl
 have hT1:TaleG c1 2 gkD1:=by rw [hc1];exact ⟨hT0.id,hsb,by rw [hx1];exact dig1G k1 k2⟩
 have hky:c1.keys=c0.keys:=by rw [hc1];rfl
 have hK:KdG x0 x1:=by rw [hx0,hx1];exact ⟨rfl,rfl,rfl⟩
 have hto0:x0.to.n=0:=by rw [hx0];exact hs1
 have hto1:x1.to.n=0:=by rw [hx1];exact k1
 have hct1:∀ x∈c1.actsL,x.to.n≤1000000:=fun x hx=>by
  rw [hl1] at hx
  rcases ZC.1 hx with rfl|hx
  · omega
  · rw [ZV.1 hx];omega
 have hA1:Xr c1.actsL:=by
  rw [hl1]
  exact ⟨fun a h=>by
   rcases ZC.1 h with rfl|h
   · exact hR0
   · rw [ZV.1 h];exact hR1,fun a h=>by
   rcases ZC.1 h with rfl|h
   · exact hS0
   · rw [ZV.1 h];exact hS1⟩
 have hn1:(c1.acts.n:Int)=2:=by rw [hT1.n];rfl
 have hpk:=mN gkK c1 gkl draftG hiG hA1 (by rw [hl1];show 2≤1000000;decide) hct1 rfl (by decide) (by decide) rfl rfl (ownG hT1) (by rw [hn1];exact (freshG2 hK hl1).2)
 have hgr:=fun sp:Xh=>po sp hA1 hl1 hK hT1 hct1
 have hat1:∀ w,(Xc w∧X1 w)∧c1.at_ w→c1.at_ w∧Keyz w c1.keys gkl:=fun w h=>⟨h.2,by rw [hky];exact (hat0 w h.1.2).2⟩
 repeat' (first|refine aI (cs:=draftG.cells) (hf:=by rfl) ?_|(refine dK (len:=1) (vs:=[.int .i64 gkF.p]) fun bq=>?_;refine cJ ?_;refine aU (hc:=hgr ⟨some ⟨bq,0,none⟩,1,1⟩) (hX:=fun w h=>⟨⟨hat1 w h.1,cX (xs:=[[.int .i64 gkF.p]]) h.2 rfl (by decide) (by intro r hr;rw [ZV.1 hr];rfl)⟩,h.1.1.1⟩) fun v4 X4 h4=>?_;obtain ⟨g1,g2,m1,m2,rfl,hw4⟩:=h4)|(refine ae (hc:=hpk) (hX:=fun w h=>⟨⟨hat1 w h,⟨aG w 1,aG w 5⟩⟩,h.1.1⟩) ?_)|refine gs ?_|refine gs1 fun _=>?_|(refine gp ?_ ?_<;>intro hx_ this)|fail)
 have hex2:=dN c1 (gkA2.re g1 g2) hA1 (cR (a:=gkA2.re gh gh) lV m1 m2) (ec (a:=gkA2.re gh gh) od m1 m2) (by rw [hl1];show 2≤100000;decide) (fitsG hT1 (by decide) ((cd (a:=gkA2.re gh gh) (s1:=g1) (s2:=g2) m1 m2).trans oj) rfl rfl rfl (show (16:Int)≠0 by decide) (show (16:Int)≠6 by decide) (show (16:Int)≠13 by decide) (show (16:Int)≠14 by decide) _) (show (16:Int)≠18 by decide)
 refine aU (hc:=hex2) (hX:=fun w h=>⟨⟨h.1.1.2,hw4 w h.2⟩,h.1.1.1.1⟩) fun v5 X5 h5=>?_
 obtain ⟨sc,rfl,hw5⟩:=h5
 refine ik (p:=sc.n=3) (fun w h=>by
  have h1:=(hw5 w h.2).1.len
  simpa [extG,hl1] using h1) fun hsc=>?_
 have hR2:(gkA2.re g1 g2).Rng:=cR (a:=gkA2.re gh gh) lV m1 m2
 have hS2:(gkA2.re g1 g2).Sm:=ec (a:=gkA2.re gh gh) od m1 m2
 have hD2:digV (gkA2.re g1 g2)=gkD2:=dig2 m1 m2
 have hk2:(gkA2.re g1 g2).kind=16∧(gkA2.re g1 g2).scope=1∧(gkA2.re g1 g2).group=⟨#[]⟩∧(gkA2.re g1 g2).epoch=0∧(gkA2.re g1 g2).toL=[gkJ]∧(gkA2.re g1 g2).wrapsL=[gkW]∧(gkA2.re g1 g2).to.n=1:=⟨rfl,rfl,rfl,rfl,rfl,rfl,m1⟩
 have hz2:(gkA2.re g1 g2).Szs:=szsG rfl (show gkA2.body.nonce.size≤100 by decide +kernel) (show gkA2.body.data.size≤100 by decide +kernel) (fun w h=>ZV.1 h)
 generalize gkA2.re g1 g2=x2 at *
 obtain ⟨q1,q2,q3,q4,q5,q6,q7⟩:=hk2
 obtain ⟨c2,hc2⟩:∃ c,c=extG c1 sc x2:=⟨_,rfl⟩
 rw [←hc2] at hw5 ⊢
 have hl2:c2.actsL=[x0,x1,x2]:=by rw [hc2,extG,hl1];rfl
 have hT2:TaleG c2 3 gkD2:=by rw [hc2];exact ⟨hT1.id,hsc,hD2⟩
 have hky2:c2.keys=c0.keys:=by rw [hc2];exact hky
 have hct2:∀ x∈c2.actsL,x.to.n≤1000000:=fun x hx=>by
  rw [hl2] at hx
  rcases ZC.1 hx with rfl|hx
  · omega
  rcases ZC.1 hx with rfl|hx
  · omega
  · rw [ZV.1 hx];omega
 have hA2:Xr c2.actsL:=by
  rw [hl2]
  exact ⟨fun a h=>by
   rcases ZC.1 h with rfl|h
   · exact hR0
   rcases ZC.1 h with rfl|h
   · exact hR1
   · rw [ZV.1 h];exact hR2,fun a h=>by
   rcases ZC.1 h with rfl|h
   · exact hS0
   rcases ZC.1 h with rfl|h
   · exact hS1
   · rw [ZV.1 h];exact hS2⟩
 have hse:=qB hA2 hl2 hK q1 q2 q3 q4 q5 hT2 hct2
 repeat' (first|(refine aU (hc:=hse) (hX:=fun w h=>⟨⟨⟨hw5 w h.2,by rw [hky2];exact (hat0 w h.1.1.1.1.2).2⟩,⟨aG w 1,aG w 5⟩⟩,h.1.1.1.1.1⟩) fun v6 X6 h6=>?_;obtain ⟨r1,r2,n1,n2,rfl,hw6⟩:=h6)|refine gs ?_|refine gs1 fun _=>?_|(refine gp ?_ ?_<;>intro hx_ this)|fail)
 have hex3:=dN c2 (gkA3.re r1 r2) hA2 (cR lU n1 n2) (ec sP n1 n2) (by rw [hl2];show 3≤100000;decide) (fitsG hT2 (by decide) ((cd (a:=gkA3) n1 n2).trans uQ) rfl rfl rfl (show (1:Int)≠0 by decide) (show (1:Int)≠6 by decide) (show (1:Int)≠13 by decide) (show (1:Int)≠14 by decide) _) (show (1:Int)≠18 by decide)
 refine aU (hc:=hex3) (hX:=fun w h=>⟨⟨hw5 w h.1.2,hw6 w h.2⟩,h.1.1.1.1.1.1⟩) fun v7 X7 h7=>?_
 obtain ⟨sd,rfl,hw7⟩:=h7
 refine ik (p:=sd.n=4) (fun w h=>by
  have h1:=(hw7 w h.2).1.len
  simpa [extG,hl2] using h1) fun hsd=>?_
 have hR3:(gkA3.re r1 r2).Rng:=cR lU n1 n2
 have hk3:(gkA3.re r1 r2).kind=1∧(gkA3.re r1 r2).scope=1∧(gkA3.re r1 r2).group=⟨#[]⟩∧(gkA3.re r1 r2).epoch=0∧(gkA3.re r1 r2).body=gkB:=⟨rfl,rfl,rfl,rfl,rfl⟩
 have hz3:(gkA3.re r1 r2).Szs:=szsG rfl (show gkA3.body.nonce.size≤100 by decide +kernel) (show gkA3.body.data.size≤100 by decide +kernel) (fun w h=>(Z8 h).elim)
 have hz0:x0.Szs:=by rw [hx0];exact szsG rfl (show gkA0.body.nonce.size≤100 by decide +kernel) (show gkA0.body.data.size≤100 by decide +kernel) (fun w h=>(Z8 h).elim)
 have hz1:x1.Szs:=by rw [hx1];exact szsG rfl (show gkA1.body.nonce.size≤100 by decide +kernel) (show gkA1.body.data.size≤100 by decide +kernel) (fun w h=>(Z8 h).elim)
 generalize gkA3.re r1 r2=x3 at *
 obtain ⟨p1,p2,p3,p4,p5⟩:=hk3
 obtain ⟨c3,hc3⟩:∃ c,c=extG c2 sd x3:=⟨_,rfl⟩
 rw [←hc3] at hw7 ⊢
 have hl3:c3.actsL=[x0,x1,x2,x3]:=by rw [hc3,extG,hl2];rfl
 have hn3:(c3.acts.n:Int)=4:=by rw [hc3];show (sd.n:Int)=4;omega
 have hky3:c3.keys=c0.keys:=by rw [hc3];exact hky2
 have hzz:∀ a∈c3.actsL,a.Rng∧a.Szs:=fun a h=>by
  rw [hl3] at h
  rcases ZC.1 h with rfl|h
  · exact ⟨hR0,hz0⟩
  rcases ZC.1 h with rfl|h
  · exact ⟨hR1,hz1⟩
  rcases ZC.1 h with rfl|h
  · exact ⟨hR2,hz2⟩
  · rw [ZV.1 h];exact ⟨hR3,hz3⟩
 have ho1:=fun sp:Xh=>kE sp [gkF.s] c3 gkl 3 hzz
 have ho2:=fun sp:Xh=>kE sp [7] c3 gkl 3 hzz
 have v1:openV [gkF.s] c3.actsL gkl 3=some hiG:=by
  rw [hl3]
  exact (openG4 hK q1 q2 q3 q4 q6 p1 p2 p3 p4 p5 gkF.s (some gkS) pq uH).trans sV
 have v2:openV [7] c3.actsL gkl 3=none:=by
  rw [hl3]
  exact openG4 hK q1 q2 q3 q4 q6 p1 p2 p3 p4 p5 7 none m6 uI
 simp only [v1,v2,strO,Z3,Option.isSome_some,Option.getD_none,Option.isSome_none] at ho1 ho2
 refine eJ (X':=fun w=>(c3.at_ w∧Keyz w c3.keys gkl)∧Xc w) (fun w h=>⟨⟨hw7 w h.2,by rw [hky3];exact (hat0 w h.1.1.1.1.1.1.2).2⟩,h.1.1.1.1.1.1.1⟩) ?_
 repeat' (first|(refine dK (len:=1) (vs:=[.int .i64 gkF.s]) fun bq=>?_;refine cJ ?_)|(refine dK (len:=1) (vs:=[.int .i64 7]) fun bq=>?_;refine cJ ?_)|refine dA (hab:=by first|rfl|exact hn3) ?_|refine aL ?_ (dd true rfl rfl (bo _))|(refine ae (hc:=ho1 ⟨some ⟨_,0,none⟩,1,1⟩) (hX:=fun w h=>⟨⟨cX (xs:=[[.int .i64 gkF.s]]) h.2 rfl (by decide) (by intro r hr;rw [ZV.1 hr];rfl),h.1.1⟩,h.1.2⟩) ?_)|(refine ae (hc:=ho2 ⟨some ⟨_,0,none⟩,1,1⟩) (hX:=fun w h=>⟨⟨cX (xs:=[[.int .i64 7]]) h.2 rfl (by decide) (by intro r hr;rw [ZV.1 hr];rfl),h.1.1.1⟩,h.1.1.2⟩) ?_)|refine gs ?_|refine gs1 fun _=>?_|(refine gp ?_ ?_<;>intro hx_ this)|fail)
 exact aa (ai rfl rfl) rfl
theorem qa {N:Nat} {av bor:List Nat} {w0:World} {st:St} {ty:TypeId} {x:Operand} {p s:Int} (hx:ev st.env x=some (.agg #[.int .i64 s,.int .i64 p])):Sy.Yields prog N av bor w0 st (.field 44 x 1) ty (.int .i64 p):=Sy.Yields.mk fun A w ok d pos af g=>by
 simp [execOp,ok.eval hx,Instr.field,run_underlying underlying44,asAgg,part,isAgg,run_underlying underlying3]
structure BlindG (n:Nat) where
 g:Nat
 hg:g≤n
structure BlindJ (n:Nat) where
 j:Nat
 hj:j≤n
theorem pR (M P Q A r:Bool):((M||(P&&(Q||A)))||(P&&r))=(M||(P&&(Q||(A||r)))):=by
 cases M<;>cases P<;>cases Q<;>cases A<;>cases r<;>rfl
theorem mo {α:Type} {l:List α} {k:Nat} {x:α} (h:l[k]?=some x) (p:α→Bool):(l.take (k+1)).any p=((l.take k).any p||p x):=by
 rw [Z5,h,List.any_append]
 simp
structure BlindOk (c:Xb):Prop where
 rng:∀ a∈c.actsL,a.Rng
 szs:∀ a∈c.actsL,a.Szs
 tgt:∀ a∈c.actsL,a.target.size≤maxLen
set_option maxRecDepth 20000 in
theorem rO (xs:Xh) (l:List Int) (c:Xb) (kl:List Xg) (i:Int) (ho:BlindOk c):Pu prog 3 #[xs.v,c.v,.int .i64 i] (fun w=>(Ints w xs l∧(c.at_ w∧Keyz w c.keys kl))∧Xc w) (.bool true):=by
 refine ax func3 ntmps3 fun av bor w0=>?_
 refine aK (p:=(c.acts.n=c.actsL.length∧c.acts.n≤maxLen∧(0<c.actsL.length→c.acts.p.isSome=true))∧xs.n=l.length∧xs.n≤maxLen∧(0<l.length→xs.p.isSome=true)) (fun w h=>⟨⟨h.1.2.1.len_,h.1.2.1.max_,h.1.2.1.some_⟩,h.1.1.len_,ZO (Xd.cap h.1.1) (Xd.max h.1.1),h.1.1.some_⟩) fun ⟨⟨hcn,hcm,hcp⟩,hxn,hxm,hxp⟩=>?_
 simp only [maxLen] at hcm hxm
 have hsm:=mH
 have hli:=mW c
 by_cases hin:0≤i∧i<c.actsL.length
 · obtain ⟨n,rfl⟩:=Int.eq_ofNat_of_zero_le hin.1
   have hn:n<c.actsL.length:=by omega
   obtain ⟨a,ha⟩:∃ a,c.actsL[n]?=some a:=⟨_,Zc hn⟩
   have haD:c.actsL.getD n Xa.zero=a:=by rw [Zl,ha];rfl
   have hcp':=hcp ab
   have h1:¬ (n:Int)<0:=by omega
   have h2:¬ (c.acts.n:Int)≤(n:Int):=by omega
   repeat' (first|refine aL ?_ (bR false rfl rfl (Zd h1))|refine aL ?_ (cY false rfl rfl (Zd h2))|(refine ae (hc:=hsm) ?_)|(refine aU (hc:=hli) (hX:=fun w h=>h.1.2.1) fun v1 X1 h1=>?_;obtain ⟨b,rfl,hb⟩:=h1;cases b)|refine gs ?_|refine gs1 fun _=>?_|(refine aA (q:=n*20) ?_)|(refine cH ?_)|(refine bm (q:=n*20+7) (u:=.int .i64 a.scope) (hF:=fun w h=>(Acts.get h.1.1.2.1 ha).2.2 7 _ rfl) ?_)|(refine gp ?_ ?_<;>intro hx_ this)|fail)
   all_goals first
    | exact aa (ai rfl rfl) rfl
    | skip
   rename_i b4 hsc0 hsc
   have hop:=kE xs l c kl (n:Int) (fun a h=>⟨ho.rng a h,ho.szs a h⟩)
   unfold strO at hop
   have hbl:(openV l c.actsL kl ((n:Nat):Int)).isSome=true→mayF l c.actsL kl a n=true:=fun h=>by
    have h':=blind (secrets:=l) (l:=c.actsL) (kl:=kl) (i:=n) hn (by rw [haD];assumption) h
    rw [haD] at h'
    exact h'
   generalize openV l c.actsL kl (n:Int)=ov at *
   repeat' (first|(refine ae (hc:=hop) ?_)|refine gs ?_|refine gs1 fun _=>?_|(refine aA (q:=n*20) ?_)|(refine aO (cs:=a.cells) (hF:=fun w h=>Acts.get h.1.1.2.1 ha) ?_)|(refine gp ?_ ?_<;>intro hx_ this)|fail)
   rename_i b10
   refine az (ι:=BlindG n) (fun i=>⟨[(0,xs.v),(2,.int .i64 (n:Int)),(4,.pointer (some ⟨b4,0,none⟩)),(7,.bool true),(9,.bool ov.isSome),(10,.pointer (some ⟨b10,0,none⟩)),(11,.bool (mayF l c.actsL kl a i.g)),(12,.int .i64 (i.g:Int))],[cel b10 36 a.cells,cel b4 26 c.cells],fun w=>((Ints w xs l∧(c.at_ w∧Keyz w c.keys kl))∧Xc w)∧X1 w⟩) (fun i=>n-i.g) ⟨0,ZU _⟩ (ak aw (aj _) fun _ h=>h) fun i=>?_
   obtain ⟨g,hg⟩:=i
   simp only
   have hgn:mayF l c.actsL kl a (g+1)=(mayF l c.actsL kl a g||mayAt l c.actsL kl a g):=rfl
   by_cases hgl:g<n
   · obtain ⟨y,hy⟩:∃ y,c.actsL[g]?=some y:=⟨_,Zc ab⟩
     have hyD:c.actsL.getD g Xa.zero=y:=by rw [Zl,hy];rfl
     have hym:=ZW hy
     have hke:=dG c kl (g:Int)
     have hat:mayAt l c.actsL kl a g=(decide (y.kind=16)&&decide (y.scope=a.scope)&&seqB y.group a.group&&decide (y.epoch=a.epoch)&&l.any (seesX (keyV c.acts.n kl g) y)):=by rw [mayAt,hyD,←hcn]
     unfold keyOP at hke
     have hsee:∀ x,seesX (keyV c.acts.n kl g) y x=(decide (0<(ofK x).p)&&(decide ((ofK x).p=((keyV c.acts.n kl g).getD .zero).public_)||y.wrapsL.any fun w=>decide ((ofK x).p=w.to))):=fun _=>rfl
     generalize keyV c.acts.n kl (g:Int)=fo at *
     generalize seesX fo y=F at *
     generalize fo.isSome=fs at *
     generalize fo.getD Xg.zero=fk at *
     generalize mayAt l c.actsL kl a g=MA at *
     generalize mayF l c.actsL kl a g=M at *
     cases e1:decide (y.kind=16) with
     | false =>
      have hMA:MA=false:=by rw [hat,e1];simp
      repeat' (first|refine aL ?_ (bG _ rfl rfl (by rw [e1]))|refine gs ?_|refine gs1 fun _=>?_|(refine aA (q:=g*20) ?_)|(refine aO (cs:=y.cells) (hF:=fun w h=>Acts.get h.1.1.2.1 hy) ?_)|(refine gp ?_ ?_<;>intro hx_ this)|fail)
      all_goals first
       | (exfalso;omega)
       | exact ⟨(⟨g+1,hgl⟩:BlindG n),(by show n-(g+1)<n-g;omega),ak ⟨rfl,rfl,rfl,rfl,rfl,rfl,(by show some (Value.bool M)=some (Value.bool (mayF l c.actsL kl a (g+1)));rw [hgn,hMA,Zn]),rfl,trivial⟩ (ZS _ (aj _)) fun _ h=>h⟩
     | true =>
      cases e2:decide (y.scope=a.scope) with
      | false =>
       have hMA:MA=false:=by rw [hat,e1,e2];simp
       repeat' (first|refine aL ?_ (bG _ rfl rfl (by rw [e1]))|refine aL ?_ (bG _ rfl rfl (by rw [e2]))|refine gs ?_|refine gs1 fun _=>?_|(refine aA (q:=g*20) ?_)|(refine aO (cs:=y.cells) (hF:=fun w h=>Acts.get h.1.1.2.1 hy) ?_)|(refine gp ?_ ?_<;>intro hx_ this)|fail)
       all_goals first
        | (exfalso;omega)
        | exact ⟨(⟨g+1,hgl⟩:BlindG n),(by show n-(g+1)<n-g;omega),ak ⟨rfl,rfl,rfl,rfl,rfl,rfl,(by show some (Value.bool M)=some (Value.bool (mayF l c.actsL kl a (g+1)));rw [hgn,hMA,Zn]),rfl,trivial⟩ (ZS _ (aj _)) fun _ h=>h⟩
      | true =>
       cases e3:seqB y.group a.group with
       | false =>
        have hMA:MA=false:=by rw [hat,e1,e2,e3];simp
        repeat' (first|refine aL ?_ (bG _ rfl rfl (by rw [e1]))|refine aL ?_ (bG _ rfl rfl (by rw [e2]))|refine aL ?_ (dX _ rfl rfl (by rw [e3]))|refine gs ?_|refine gs1 fun _=>?_|(refine aA (q:=g*20) ?_)|(refine aO (cs:=y.cells) (hF:=fun w h=>Acts.get h.1.1.2.1 hy) ?_)|(refine gp ?_ ?_<;>intro hx_ this)|fail)
        all_goals first
         | (exfalso;omega)
         | exact ⟨(⟨g+1,hgl⟩:BlindG n),(by show n-(g+1)<n-g;omega),ak ⟨rfl,rfl,rfl,rfl,rfl,rfl,(by show some (Value.bool M)=some (Value.bool (mayF l c.actsL kl a (g+1)));rw [hgn,hMA,Zn]),rfl,trivial⟩ (ZS _ (aj _)) fun _ h=>h⟩
       | true =>
        cases e4:decide (y.epoch=a.epoch) with
        | false =>
         have hMA:MA=false:=by rw [hat,e1,e2,e3,e4];simp
         repeat' (first|refine aL ?_ (bG _ rfl rfl (by rw [e1]))|refine aL ?_ (bG _ rfl rfl (by rw [e2]))|refine aL ?_ (dX _ rfl rfl (by rw [e3]))|refine aL ?_ (bG _ rfl rfl (by rw [e4]))|refine gs ?_|refine gs1 fun _=>?_|(refine aA (q:=g*20) ?_)|(refine aO (cs:=y.cells) (hF:=fun w h=>Acts.get h.1.1.2.1 hy) ?_)|(refine gp ?_ ?_<;>intro hx_ this)|fail)
         all_goals first
          | (exfalso;omega)
          | exact ⟨(⟨g+1,hgl⟩:BlindG n),(by show n-(g+1)<n-g;omega),ak ⟨rfl,rfl,rfl,rfl,rfl,rfl,(by show some (Value.bool M)=some (Value.bool (mayF l c.actsL kl a (g+1)));rw [hgn,hMA,Zn]),rfl,trivial⟩ (ZS _ (aj _)) fun _ h=>h⟩
        | true =>
         have hMA:MA=l.any F:=by rw [hat,e1,e2,e3,e4];simp
         repeat' (first|refine aL ?_ (bG _ rfl rfl (by rw [e1]))|refine aL ?_ (bG _ rfl rfl (by rw [e2]))|refine aL ?_ (dX _ rfl rfl (by rw [e3]))|refine aL ?_ (bG _ rfl rfl (by rw [e4]))|(refine ae (hc:=hke) (hX:=fun w h=>⟨h.1.1.2.1,h.1.1.2.2⟩) ?_)|refine gs ?_|refine gs1 fun _=>?_|(refine aA (q:=g*20) ?_)|(refine aO (cs:=y.cells) (hF:=fun w h=>Acts.get h.1.1.2.1 hy) ?_)|(refine gp ?_ ?_<;>intro hx_ this)|fail)
         rotate_right
         all_goals try (exfalso;omega)
         rename_i b13 b14
         have hwr:∀ w,(((Ints w xs l∧(c.at_ w∧Keyz w c.keys kl))∧Xc w)∧X1 w)→Wraps w y.wraps y.wrapsL:=fun w h=>(h.1.1.2.1.2 y hym).2
         refine aK (p:=y.wraps.n=y.wrapsL.length∧y.wraps.n≤maxLen∧(0<y.wrapsL.length→y.wraps.p.isSome=true)) (fun w h=>⟨(hwr w h).len_,ZO (Xd.cap (hwr w h)) (Xd.max (hwr w h)),(hwr w h).some_⟩) fun ⟨hwn,hwm,hwp⟩=>?_
         simp only [maxLen] at hwm
         refine az (ι:=BlindJ l.length) (fun j=>⟨[(0,xs.v),(2,.int .i64 (n:Int)),(4,.pointer (some ⟨b4,0,none⟩)),(7,.bool true),(9,.bool ov.isSome),(10,.pointer (some ⟨b10,0,none⟩)),(11,.bool (M||(l.take j.j).any F)),(12,.int .i64 (g:Int)),(13,.pointer (some ⟨b13,0,none⟩)),(14,.pointer (some ⟨b14,0,none⟩)),(16,.int .i64 (j.j:Int))],[cel b14 40 fk.cells,cel b13 36 y.cells,cel b10 36 a.cells,cel b4 26 c.cells],fun w=>((Ints w xs l∧(c.at_ w∧Keyz w c.keys kl))∧Xc w)∧X1 w⟩) (fun j=>l.length-j.j) ⟨0,ZU _⟩ (ak ⟨rfl,rfl,rfl,rfl,rfl,rfl,(by show some (Value.bool M)=some (Value.bool (M||false));rw [Zn]),rfl,rfl,rfl,rfl,trivial⟩ (aj _) fun _ h=>h) fun j=>?_
         obtain ⟨j,hj⟩:=j
         simp only
         by_cases hjl:j<l.length
         · obtain ⟨x,hx⟩:∃ x,l[j]?=some x:=⟨_,Zc hjl⟩
           have hxp':=hxp ab
           have hso:=fb x
           have hsx:=hsee x
           obtain ⟨P,eP⟩:∃ P,decide (0<(ofK x).p)=P:=⟨_,rfl⟩
           obtain ⟨Q,eQ⟩:∃ Q,decide ((ofK x).p=fk.public_)=Q:=⟨_,rfl⟩
           rw [eP,eQ] at hsx
           have hn2:(M||(l.take (j+1)).any F)=((M||(l.take j).any F)||F x):=by rw [mo hx,Bool.or_assoc]
           generalize hM2:(M||(l.take j).any F)=M2 at *
           repeat' (first|refine gs ?_|refine gs1 fun _=>?_|(refine gp ?_ ?_<;>intro hx_ this)|fail)
           · repeat' (first|apply cD|apply QA|refine cB ?_|refine bx ?_|refine dJ ?_|refine dv ?_|refine be ?_|refine ci ?_|refine cj ?_|refine d4 ?_|refine da ?_|refine fB ?_|refine d5 ?_|refine kq ?_|refine fD ?_|refine cA ?_|refine eY ?_|refine cw ?_|refine cZ ?_|refine bM ?_|refine dw ?_|refine bZ ?_|refine ca ?_|refine bY ?_|refine bO fun _=>?_|refine d9 fun _=>?_|refine bX ?_|refine bf ?_|refine QE ?_|refine QF ?_|apply QD|apply QC|apply cw_ret|apply cw_exit|refine sy_beql (h:=?_)|refine fa ?_|refine cC ?_|refine cv ?_|(refine aA (q:=j) ?_)|(refine bm (q:=j) (u:=.int .i64 x) (hF:=fun w h=>h.1.1.1.atG hx) ?_)|(refine ae (hc:=hso) ?_)|(refine aL ?_ (qa (p:=(ofK x).p) (s:=(ofK x).s) rfl))|((fail_if_success (refine d8 ?_));refine cI (ht:=?_) (hf:=?_);all_goals (intro hx_;first|have:=bC hx_|have:=cq hx_|skip))|(refine cw_cond (ht:=?_) (hf:=?_);all_goals (intro hx_;first|have:=bC hx_|have:=cq hx_|skip)))
             repeat apply QA
             refine bc (ι:=Unit) (fun _=>⟨[(0,xs.v),(2,.int .i64 (n:Int)),(4,.pointer (some ⟨b4,0,none⟩)),(7,.bool true),(9,.bool ov.isSome),(10,.pointer (some ⟨b10,0,none⟩)),(11,.bool (M2||(P&&Q))),(12,.int .i64 (g:Int)),(13,.pointer (some ⟨b13,0,none⟩)),(14,.pointer (some ⟨b14,0,none⟩)),(16,.int .i64 (j:Int)),(17,.int .i64 (ofK x).p)],[cel b14 40 fk.cells,cel b13 36 y.cells,cel b10 36 a.cells,cel b4 26 c.cells],fun w=>((Ints w xs l∧(c.at_ w∧Keyz w c.keys kl))∧Xc w)∧X1 w⟩) ?_ fun _=>?_
             · clear hsx hn2 hM2
               cases M2<;>cases P<;>cases Q
               all_goals
                apply QB
                repeat' (first|refine aL ?_ (mw _ rfl rfl eP)|refine aL ?_ (dZ _ rfl rfl eQ)|apply cD|apply QA|refine cB ?_|refine bx ?_|refine dJ ?_|refine dv ?_|refine be ?_|refine ci ?_|refine cj ?_|refine d4 ?_|refine da ?_|refine fB ?_|refine d5 ?_|refine kq ?_|refine fD ?_|refine cA ?_|refine eY ?_|refine cw ?_|refine cZ ?_|refine bM ?_|refine dw ?_|refine bZ ?_|refine ca ?_|refine bY ?_|refine bO fun _=>?_|refine d9 fun _=>?_|refine bX ?_|refine bf ?_|refine QE ?_|refine QF ?_|apply QD|apply QC|apply cw_ret|apply cw_exit|refine sy_beql (h:=?_)|refine fa ?_|refine cC ?_|refine cv ?_|((fail_if_success (refine d8 ?_));refine cI (ht:=?_) (hf:=?_);all_goals (intro hx_;first|have:=bC hx_|have:=cq hx_|skip))|(refine cw_cond (ht:=?_) (hf:=?_);all_goals (intro hx_;first|have:=bC hx_|have:=cq hx_|skip)))
                exact ⟨(),ak aw (aj _) fun _ h=>h⟩
             repeat' (first|refine gs ?_|refine gs1 fun _=>?_|(refine gp ?_ ?_<;>intro hx_ this)|fail)
             refine az (ι:=BlindJ y.wrapsL.length) (fun v=>⟨[(0,xs.v),(2,.int .i64 (n:Int)),(4,.pointer (some ⟨b4,0,none⟩)),(7,.bool true),(9,.bool ov.isSome),(10,.pointer (some ⟨b10,0,none⟩)),(11,.bool (M2||(P&&(Q||(y.wrapsL.take v.j).any fun w=>decide ((ofK x).p=w.to))))),(12,.int .i64 (g:Int)),(13,.pointer (some ⟨b13,0,none⟩)),(14,.pointer (some ⟨b14,0,none⟩)),(16,.int .i64 (j:Int)),(17,.int .i64 (ofK x).p),(18,.int .i64 (v.j:Int))],[cel b14 40 fk.cells,cel b13 36 y.cells,cel b10 36 a.cells,cel b4 26 c.cells],fun w=>((Ints w xs l∧(c.at_ w∧Keyz w c.keys kl))∧Xc w)∧X1 w⟩) (fun v=>y.wrapsL.length-v.j) ⟨0,ZU _⟩ (ak ⟨rfl,rfl,rfl,rfl,rfl,rfl,(by show some (Value.bool (M2||(P&&Q)))=some (Value.bool (M2||(P&&(Q||false))));rw [Zn]),rfl,rfl,rfl,rfl,rfl,rfl,trivial⟩ (aj _) fun _ h=>h) fun v=>?_
             obtain ⟨v,hv⟩:=v
             simp only
             by_cases hvl:v<y.wrapsL.length
             · have hwp':=hwp ab
               obtain ⟨W,hW⟩:∃ W,y.wrapsL[v]?=some W:=⟨_,Zc hvl⟩
               obtain ⟨r,er⟩:∃ r,decide ((ofK x).p=W.to)=r:=⟨_,rfl⟩
               have hnx:(M2||(P&&(Q||(y.wrapsL.take (v+1)).any fun w=>decide ((ofK x).p=w.to))))=((M2||(P&&(Q||(y.wrapsL.take v).any fun w=>decide ((ofK x).p=w.to))))||(P&&r)):=by
                rw [mo hW,er,pR]
               generalize (M2||(P&&(Q||(y.wrapsL.take v).any fun w=>decide ((ofK x).p=w.to))))=V at *
               clear hsx hn2 hM2 eQ
               cases V<;>cases P<;>cases r
               all_goals
                repeat' (first|refine aL ?_ (mw _ rfl rfl eP)|refine aL ?_ (dZ _ rfl rfl er)|refine gs ?_|refine gs1 fun _=>?_|(refine aA (q:=v*5) ?_)|(refine cH ?_)|(refine bm (q:=v*5) (u:=.int .i64 W.to) (hF:=fun w h=>(Wraps.get (hwr w h) hW).2.2 0 _ rfl) ?_)|(refine gp ?_ ?_<;>intro hx_ this)|fail)
                all_goals first
                 | (exfalso;omega)
                 | exact ⟨(⟨v+1,hvl⟩:BlindJ y.wrapsL.length),(by show y.wrapsL.length-(v+1)<y.wrapsL.length-v;omega),ak ⟨rfl,rfl,rfl,rfl,rfl,rfl,congrArg (fun b=>some (Value.bool b)) hnx.symm,rfl,rfl,rfl,rfl,rfl,rfl,trivial⟩ (aj _) fun _ h=>h⟩
             · have hve:v=y.wrapsL.length:=by omega
               subst hve
               rw [Z6]
               have hfin:(M2||(P&&(Q||y.wrapsL.any fun w=>decide ((ofK x).p=w.to))))=(M||(l.take (j+1)).any F):=by rw [hn2,hsx]
               repeat' (first|refine gs ?_|refine gs1 fun _=>?_|(refine gp ?_ ?_<;>intro hx_ this)|fail)
               all_goals first
                | (exfalso;omega)
                | exact ⟨(⟨j+1,hjl⟩:BlindJ l.length),(by show l.length-(j+1)<l.length-j;omega),ak ⟨rfl,rfl,rfl,rfl,rfl,rfl,congrArg (fun b=>some (Value.bool b)) hfin,rfl,rfl,rfl,rfl,trivial⟩ (aj _) fun _ h=>h⟩
           · exfalso;omega
         · have hje:j=l.length:=by omega
           subst hje
           rw [Z6]
           have hfin:(M||l.any F)=mayF l c.actsL kl a (g+1):=by rw [hgn,hMA]
           repeat' (first|refine gs ?_|refine gs1 fun _=>?_|(refine gp ?_ ?_<;>intro hx_ this)|fail)
           all_goals first
            | (exfalso;omega)
            | exact ⟨(⟨g+1,hgl⟩:BlindG n),(by show n-(g+1)<n-g;omega),ak ⟨rfl,rfl,rfl,rfl,rfl,rfl,congrArg (fun b=>some (Value.bool b)) hfin,rfl,trivial⟩ (ZS _ (ZS _ (aj _))) fun _ h=>h⟩
   · have hge:g=n:=by omega
     subst hge
     cases hm:mayF l c.actsL kl a g with
     | true =>
      repeat' (first|refine gs ?_|refine gs1 fun _=>?_|(refine gp ?_ ?_<;>intro hx_ this)|fail)
      all_goals first
       | (exfalso;omega)
       | exact aa (ai rfl rfl) rfl
     | false =>
      have hov:ov.isSome=false:=by
       cases h:ov.isSome with
       | false=>rfl
       | true=>exact absurd (hbl h) (by rw [hm];decide)
      rw [hov]
      repeat' (first|refine gs ?_|refine gs1 fun _=>?_|(refine gp ?_ ?_<;>intro hx_ this)|fail)
      all_goals first
       | (exfalso;omega)
       | exact aa (ai rfl rfl) rfl
 · by_cases h0:i<0
   · repeat' (first|refine aL ?_ (bR true rfl rfl (Ze h0))|(refine ae (hc:=hsm) ?_)|(refine aU (hc:=hli) (hX:=fun w h=>h.1.2.1) fun v1 X1 h1=>?_;obtain ⟨b,rfl,hb⟩:=h1;cases b)|refine gs ?_|refine gs1 fun _=>?_|(refine gp ?_ ?_<;>intro hx_ this)|fail)
     all_goals first
      | (exfalso;omega)
      | exact aa (ai rfl rfl) rfl
   · have h1:(c.acts.n:Int)≤i:=by omega
     repeat' (first|refine aL ?_ (bR false rfl rfl (Zd h0))|refine aL ?_ (cY true rfl rfl (Ze h1))|(refine ae (hc:=hsm) ?_)|(refine aU (hc:=hli) (hX:=fun w h=>h.1.2.1) fun v1 X1 h1=>?_;obtain ⟨b,rfl,hb⟩:=h1;cases b)|refine gs ?_|refine gs1 fun _=>?_|(refine gp ?_ ?_<;>intro hx_ this)|fail)
     all_goals first
      | (exfalso;omega)
      | exact aa (ai rfl rfl) rfl
end Go.Proofs.YtamfbppnlomgfaaGreatDoor
namespace Go.Proofs.YtamfbppnlomgfaaGreatDoor
open Go Go.Proofs Sy Go.RowKit Go.Deep Go.ChangeShapes Tryz
section
variable {H:Type} {enc:TypeId×Value→H} {P:Program} {w:World} {base:Nat} {spare:Nat→Bool} {held:Bool}
theorem qS {fuel:Nat} {cs:List Value} {x:DataW H×List MemPlace} (h:DataW.trod enc prog w base spare held fuel 40 cs=some x):∃ k:Xg,cs=k.cells∧k.from_<9223372036854775808∧k.public_<9223372036854775808∧k.home<9223372036854775808:=by
 have hl:=eO underlying40 (k:=3) ac h
 obtain ⟨n0,y0,h0⟩:=aQ (i:=0) (off:=0) (k:=1) (t':=3) underlying40 h rfl rfl rfl ac
 obtain ⟨n1,y1,h1⟩:=aQ (i:=1) (off:=1) (k:=1) (t':=3) underlying40 h rfl rfl rfl ac
 obtain ⟨n2,y2,h2⟩:=aQ (i:=2) (off:=2) (k:=1) (t':=3) underlying40 h rfl rfl rfl ac
 match cs,hl with
 | [c0,c1,c2],_ =>
  obtain ⟨s0,e0,b0⟩:=aS h0
  obtain ⟨s1,e1,b1⟩:=aS h1
  obtain ⟨s2,e2,b2⟩:=aS h2
  simp at e0 e1 e2
  exact ⟨⟨s0,s1,s2⟩,by rw [e0,e1,e2];rfl,b0,b1,b2⟩
theorem o6 {fuel:Nat} {cs:List Value} {x:DataW H×List MemPlace} (h:DataW.trod enc prog w base spare held fuel 24 cs=some x):∃ (s:Xh) (l:List Xg),cs=[s.v]∧Keyz w s l∧∀ k∈l,k.from_<9223372036854775808∧k.public_<9223372036854775808∧k.home<9223372036854775808:=by
 haveI:Inhabited Xg:=⟨Xg.zero⟩
 exact fg (α:=Xg) underlying24 (size:=3) ac Xg.cells _ (fun n cs y hy=>qS hy) h
end
end Go.Proofs.YtamfbppnlomgfaaGreatDoor
namespace Go.Proofs.YtamfbppnlomgfaaGreatDoor
open Go Go.Proofs Sy Go.RowKit Go.Deep Go.ChangeShapes Go.WideShapes Tryz
end Go.Proofs.YtamfbppnlomgfaaGreatDoor
