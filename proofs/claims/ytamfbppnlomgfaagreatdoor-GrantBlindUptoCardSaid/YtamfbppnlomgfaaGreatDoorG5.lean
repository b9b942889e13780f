/- Joined. -/
import Derived.Test.YtamfbppnlomgfaaGreatDoorG4
import Derived.RangeFuncSeq
import Derived.OrdersIn
import Derived.Deep.Slices
import Derived.Deep.Fields
import Derived.ChangeSame
import Derived.ChangeArms
import Derived.Carry
import Derived.OpenShut
set_option linter.unusedVariables false
set_option linter.unusedSimpArgs false
set_option maxHeartbeats 16000000
namespace Go.Proofs.YtamfbppnlomgfaaGreatDoor
open Go Go.Proofs Sy Tryz
theorem gO (c:Xb) (n:Int):Pu prog 48 #[c.v,.int .i64 n] (fun _=>True) (.int .i64 (limN n c.acts.n)):=by
 refine ax func48 ntmps48 fun av bor w0=>?_
 repeat' (first|refine gs ?_|refine gs1 fun _=>?_|fail)
 apply aa;apply ai;rfl;rfl
 congr 1
 unfold limN
 split<;>split<;>omega
def gOk (a:Xa) (sc:Int) (g:ByteArray) (nx:Nat):Bool:=decide (a.kind=16)&&decide (a.scope=sc)&&seqB a.group g&&decide (a.epoch=(nx:Int))
def grantF (l:List Xa) (sc:Int) (g:ByteArray):Nat→Nat×Nat
 | 0=>(0,0)
 | i+1=>bif gOk (l.getD i Xa.zero) sc g (grantF l sc g i).2 then (i,(grantF l sc g i).2+1) else grantF l sc g i
theorem fi (l:List Xa) (sc:Int) (g:ByteArray):∀ k,(grantF l sc g k).2≤k∧(0<(grantF l sc g k).2→(grantF l sc g k).1<k)
 | 0=>⟨ZN _,fun h=>absurd h (Nat.lt_irrefl _)⟩
 | k+1=>by
  have ih:=fi l sc g k
  simp only [grantF]
  cases gOk (l.getD k Xa.zero) sc g (grantF l sc g k).2 with
  | true=>exact ⟨by simp only [Zg];omega,fun _=>by simp only [Zg];omega⟩
  | false=>exact ⟨by simp only [Zf];omega,fun h=>by simp only [Zf] at h ⊢;have:=ih.2 h;omega⟩
def grantV (l:List Xa) (n sc:Int) (g:ByteArray):Nat×Nat:=grantF l sc g (limN n l.length)
theorem gP (c:Xb) (n sc:Int) (g:ByteArray):Pu prog 18 #[c.v,.int .i64 n,.int .i64 sc,.string g] (XC c) (.tuple #[.int .i64 ((grantV c.actsL n sc g).1:Nat),.bool (decide ((0:Int)<((grantV c.actsL n sc g).2:Nat)))]):=by
 refine ax func18 ntmps18 fun av bor w0=>?_
 refine aK XC.know fun ⟨hl,hm,hp,hcap⟩=>?_
 simp only [maxLen] at hm
 have hlim:=f5 n c.acts.n
 repeat' (first|refine ae (hc:=gO c n) ?_|refine gs ?_|refine gs1 fun _=>?_|fail)
 rename_i b4
 refine az (ι:=Kth (limN n c.acts.n)) (fun i=>⟨[(2,.int .i64 sc),(3,.string g),(4,.pointer (some ⟨b4,0,none⟩)),(10,.int .i64 ((grantF c.actsL sc g i.k).1:Nat)),(11,.int .i64 ((grantF c.actsL sc g i.k).2:Nat)),(16,.int .i64 (limN n c.acts.n)),(17,.int .i64 i.k)],[cel b4 26 c.cells],XC c⟩) (fun i=>limN n c.acts.n-i.k) ⟨0,ZU _⟩
  (ak aw (aj _) fun _ h=>h) fun i=>?_
 have hik:=i.hk
 have hg:=(fi c.actsL sc g i.k).1
 repeat' (first|refine gs ?_|refine gs1 fun _=>?_|(refine gp ?_ ?_<;>intro hx_ this)|fail)
 · have hlt:i.k<limN n c.acts.n:=by omega
   have hltL:i.k<c.actsL.length:=by omega
   have hp':=hp ab
   obtain ⟨x,hx⟩:∃ x,c.actsL[i.k]?=some x:=⟨_,Zc hltL⟩
   have hstep:grantF c.actsL sc g (i.k+1)=bif gOk x sc g (grantF c.actsL sc g i.k).2 then (i.k,(grantF c.actsL sc g i.k).2+1) else grantF c.actsL sc g i.k:=by simp only [grantF,Zl,hx,Z3]
   repeat' (first|refine gs ?_|refine gs1 fun _=>?_|(refine aA (q:=i.k*20) ?_)|(refine aO (cs:=x.cells) (hF:=fun w h=>Acts.get h.1 hx) ?_)|(refine gp ?_ ?_<;>intro hx_ this)|fail)
   all_goals exact ⟨(⟨i.k+1,hlt⟩:Kth (limN n c.acts.n)),(by show limN n c.acts.n-(i.k+1)<limN n c.acts.n-i.k;omega),ak (by
    simp only [hstep,gOk, *,Za,Zg,Zf]
    exact ⟨rfl,rfl,rfl,rfl,rfl,rfl,rfl,trivial⟩) (ZS _ (aj _)) fun _ h=>h⟩
 have hk:i.k=limN n c.acts.n:=by omega
 apply aa;apply bg;rfl;rfl;rfl
 simp only [grantV,←hl]
 rw [hk]
def epochO (l:List Xa) (n sc:Int) (g:ByteArray):Option Xa:=bif decide ((0:Int)<((grantV l n sc g).2:Nat)) then l[(grantV l n sc g).1]? else none
def EpochAt (o:Option Xa) (u:Value) (X:World→Prop):Prop:=∃ s:Xh,u=.tuple #[.int .i64 ((o.map (·.epoch)).getD 0),s.v,.bool o.isSome]∧∀ w,X w→Strs w s ((o.map (·.toL)).getD [])
theorem jk (c:Xb) (hc:Xr c.actsL) (n sc:Int) (g:ByteArray):Mk prog 45 #[c.v,.int .i64 n,.int .i64 sc,.string g] (XC c) (EpochAt (epochO c.actsL n sc g)):=by
 refine cF func45 ntmps45 fun av bor w0=>?_
 refine aK XC.know fun ⟨hl,hm,hp,hcap⟩=>?_
 simp only [maxLen] at hm
 have hgl:=fi c.actsL sc g (limN n c.actsL.length)
 have hlim:=f5 n c.actsL.length
 have hO:epochO c.actsL n sc g=bif decide ((0:Int)<((grantV c.actsL n sc g).2:Nat)) then c.actsL[(grantV c.actsL n sc g).1]? else none:=rfl
 have hgp:=gP c n sc g
 change (grantV c.actsL n sc g).2≤_∧(0<(grantV c.actsL n sc g).2→(grantV c.actsL n sc g).1<_) at hgl
 generalize grantV c.actsL n sc g=gv at *
 obtain ⟨k,nx⟩:=gv
 simp only at hgl hgp hO
 repeat' (first|refine ae (hc:=hgp) ?_|refine gs ?_|refine gs1 fun _=>?_|(refine gp ?_ ?_<;>intro hx_ this)|fail)
 · have hz:decide ((0:Int)<(nx:Nat))=false:=by simpa using hx_
   apply aa
   · apply lx;rfl;rfl;rfl;rfl
   · rw [hO,hz]
     exact ⟨⟨none,0,0⟩,rfl,fun w _=>aG w 1⟩
 · have hz:decide ((0:Int)<(nx:Nat))=true:=by simpa using hx_
   have hnx:=bC hz
   have hkl:k<c.actsL.length:=by have:=hgl.2 ab;omega
   have hp':=hp ab
   obtain ⟨x,hx⟩:∃ x,c.actsL[k]?=some x:=⟨_,Zc hkl⟩
   have hxm:x∈c.actsL:=ZW hx
   (refine aJ ⟨[0,1,2,3,4,5,6,7,8,9,10,11],[(12,⟨[13,14,15],[]⟩)]⟩ (h:=?_))
   all_goals repeat' (first|((refine aU (hc:=dr x.to (strs x.toL) (hc.sm x hxm).to (gx _)) (hX:=fun w h=>(h.1.2 x hxm).1) fun v1 X1 h1=>?_;obtain ⟨s1,rfl,hn1,hw1⟩:=h1))|refine gd ?_|refine aH (hy:=by first|(apply du (q:=k*20);rfl;rfl;omega;omega;assumption;omega)|(apply eF;rfl;assumption;rfl)|(apply iz;rfl;exact fun w h=>(Acts.get h.1 hx).2.2 14 _ rfl)|(apply iz;rfl;exact fun w h=>(Acts.get h.1 hx).2.2 9 _ rfl)) ?_|refine aE ?_ (h':=?_)|exact aF|refine gs1 fun _=>?_|(refine gq ?_ ?_<;>intro hx_ this)|fail)
   repeat' (first|refine gs ?_|refine gs1 fun _=>?_|(refine gp ?_ ?_<;>intro hx_ this)|fail)
   apply aa
   · apply lx;rfl;rfl;rfl;rfl
   · rw [hO,hz,Zg,hx]
     exact ⟨s1,rfl,fun w h=>hw1 w h.1.2⟩
theorem gl {e n:Nat} {v:Value} {ss:List ByteArray}:Ct prog 87 #[v] [orow e 1 v n (ss.map encB)] (fun _=>True) fun u R _=>∃ A c,u=.slice A (compB ss).length c∧R=[orow e 1 u (compB ss).length ((compB ss).map encB)]:=by
 have h:=compS_c.ct (e:=e) (n:=n) (v:=v) (ss:=ss.map bl)
 rw [lK ss]
 refine h.mono fun u R X' ⟨A,c,h1,h2⟩=>⟨A,c,?_,?_⟩
 · rw [h1];simp [compB]
 · rw [h2,fH,compB];simp
def circF (l:List Xa) (g:ByteArray):Nat→Option Xa
 | 0=>none
 | i+1=>bif decide ((l.getD i Xa.zero).kind=15)&&seqB (l.getD i Xa.zero).group g then some (l.getD i Xa.zero) else circF l g i
theorem j4 {l:List Xa} {g:ByteArray}:∀ {k:Nat} {x:Xa},k≤l.length→circF l g k=some x→x∈l
 | 0,x,_,h=>by cases h
 | k+1,x,hk,h=>by
  simp only [circF] at h
  have h0:l.getD k Xa.zero∈l:=by
   rw [Zl,Zc (by omega)]
   exact ZI ab
  cases hb:(decide ((l.getD k Xa.zero).kind=15)&&seqB (l.getD k Xa.zero).group g) with
  | true=>rw [hb] at h;simp only [Zg,ZE] at h;exact h▸h0
  | false=>rw [hb] at h;exact j4 ab h
def listOf (c:Xb) (n sc:Int) (g:ByteArray) (toL:List ByteArray):List ByteArray :=
 bif decide (sc=1) then sortB (tieV c.actsL n).a else bif decide (sc=2) then ((circF c.actsL g (limN n c.actsL.length)).map (·.toL)).getD [] else bif decide (sc=3) then toL else []
def keepM (c:Xb) (bs:List ByteArray) (x:ByteArray):Bool:=!seqB x c.id&&!hasS bs x
def membersV (c:Xb) (n sc:Int) (g:ByteArray) (toL:List ByteArray):List ByteArray:=compB (sortB ((listOf c n sc g toL).filter (keepM c (sortB (tieV c.actsL n).b))))
structure FilS (m:Nat) where
 k:Nat
 hk:k≤m
 A:Option Addr
 c:Nat
def sealH (l:List ByteArray):ByteArray:=shaV (listV l)
def strmB (key nonce:ByteArray) (i:Nat):UInt8:=(sealH [⟨#[115,116,114,101,97,109]⟩,key,nonce,numV (i/32:Nat)]).data.getD (i%32) 0
def maskF (key nonce data:ByteArray):Nat→ByteArray
 | 0=>.empty
 | n+1=>(maskF key nonce data n).push (data.data.getD n 0 ^^^ strmB key nonce n)
def maskV (key nonce data:ByteArray):ByteArray:=maskF key nonce data data.size
theorem iX (key nonce data:ByteArray):∀ n,(maskF key nonce data n).size=n
 | 0=>rfl
 | n+1=>by rw [maskF,ByteArray.size_push,iX key nonce data n]
def tagV (key nonce data:ByteArray):ByteArray:=(sealH [⟨#[116,97,103]⟩,key,nonce,data]).extract 0 16
def sealV (key nonce plain:ByteArray):Xo:=⟨nonce,maskV key nonce plain,tagV key nonce (maskV key nonce plain)⟩
def boxO (key:ByteArray) (b:Xo):Option ByteArray:=bif seqB b.tag (tagV key b.nonce b.data) then some (maskV key b.nonce b.data) else none
def isPubB (n:Int):Bool:=decide (1≤n)&&decide (n≤2305843009213693950)
def isSecB (n:Int):Bool:=decide (1≤n)&&decide (n≤2305843009213693949)
def wkeyV (to eph:Int) (sh:Nat):ByteArray:=sealH [⟨#[119,114,97,112]⟩,numV to,numV eph,numV (sh:Nat)]
def ephN (pub:Int) (seed:ByteArray):Nat:=1+numN (nl (sealH [⟨#[101,112,104]⟩,seed,numV pub]))%2305843009213693949
def wrapOV (pub:Int) (seed plain:ByteArray):Option Xk:=bif isPubB pub then
    let e:=ephN pub seed
    let key:=wkeyV pub (expV 37 e:Nat) (expV pub.toNat e)
    some ⟨pub,(expV 37 e:Nat),sealV key (sealH [⟨#[110,111,110,99,101]⟩,key]) plain⟩
  else none
def unwrapO (x:Int) (w:Xk):Option ByteArray :=
 bif isSecB x&&decide (w.to=(expV 37 x.toNat:Nat))&&isPubB w.eph then boxO (wkeyV w.to w.eph (expV w.eph.toNat x.toNat)) w.box else none
def secretV (k:X9) (sc:Int) (g:ByteArray) (ep:Int):ByteArray:=shaV (textV ⟨#[101,112,111,99,104]⟩++numV k.s++numV sc++textV g++numV ep)
def candX (force:Option Xg) (a:Xa) (x:Int):List ByteArray :=
 (bif force.isSome&&rightK (ofK x)&&decide ((ofK x).p=(force.getD .zero).public_) then [secretV (ofK x) a.scope a.group a.epoch] else [])++a.wrapsL.filterMap (unwrapO x)
def candsV (secrets:List Int) (force:Option Xg) (a:Xa):List ByteArray:=secrets.flatMap (candX force a)
def firstO (b:Xo) (ks:List ByteArray):Option ByteArray:=ks.findSome? (boxO · b)
def seesX (force:Option Xg) (a:Xa) (x:Int):Bool :=
 decide (0<(ofK x).p)&&(decide ((ofK x).p=(force.getD .zero).public_)||a.wrapsL.any fun w=>decide ((ofK x).p=w.to))
theorem jx {a b:Nat} (ha:∃ w,a*w%2305843009213693951=1) (hb:∃ w,b*w%2305843009213693951=1):∃ w,a*b%2305843009213693951*w%2305843009213693951=1:=by
 obtain ⟨x,hx⟩:=ha
 obtain ⟨y,hy⟩:=hb
 refine ⟨x*y,?_⟩
 rw [Nat.mod_mul_mod,Nat.mul_mul_mul_comm,Nat.mul_mod,hx,hy]
theorem jY (e:Nat):∀ i,(∃ w,(expF 37 e i).1*w%2305843009213693951=1)∧∃ w,(expF 37 e i).2*w%2305843009213693951=1
 | 0=>⟨⟨1,by show 1*1%2305843009213693951=1;decide⟩,⟨2181202846553494278,by show 37%2305843009213693951*2181202846553494278%2305843009213693951=1;decide⟩⟩
 | i+1=>by
  have ih:=jY e i
  refine ⟨?_,jx ih.2 ih.2⟩
  show ∃ w,(bif decide (e/2 ^ i%2=1) then (expF 37 e i).1*(expF 37 e i).2%2305843009213693951 else (expF 37 e i).1)*w%2305843009213693951=1
  cases decide (e/2 ^ i%2=1) with
  | true=>exact jx ih.1 ih.2
  | false=>exact ih.1
theorem rC (e:Nat):0<expV 37 e:=by
 obtain ⟨w,hw⟩:=(jY e (Lib.bitLen e)).1
 rcases Nat.eq_zero_or_pos (expV 37 e) with h|h
 · rw [show (expF 37 e (Lib.bitLen e)).1=0 from h,Nat.zero_mul] at hw
   exact absurd hw (by decide)
 · exact h
theorem jZ (x:Int) (h1:1≤x) (h2:x≤2305843009213693949):0<(ofK x).p:=by
 rw [eu h1 h2]
 have:=rC x.toNat
 show (0:Int)<((expV 37 x.toNat:Nat):Int)
 omega
theorem pK {force:Option Xg} {a:Xa} {x:Int} {k:ByteArray} (h:k∈candX force a x):seesX force a x=true:=by
 unfold seesX
 rw [Zm,Zs,Bool.or_eq_true,Zs,List.any_eq_true]
 rcases Qk.1 h with h|h
 · by_cases hc:(force.isSome&&rightK (ofK x)&&decide ((ofK x).p=(force.getD .zero).public_))=true
   · rw [hc] at h
     simp only [Zm,Zs] at hc
     refine ⟨?_,Or.inl hc.2⟩
     have h3:=hc.1.2
     rw [rightK,Zm,Zs] at h3
     by_cases hx:1≤x∧x≤2305843009213693949
     · exact jZ x hx.1 hx.2
     · rw [im (by omega)] at h3
       exact absurd h3.1 (by decide)
   · rw [eq_false_of_ne_true hc] at h
     exact absurd h Z8
 · obtain ⟨w,hw,hu⟩:=List.mem_filterMap.1 h
   unfold unwrapO at hu
   by_cases hc:(isSecB x&&decide (w.to=(expV 37 x.toNat:Nat))&&isPubB w.eph)=true
   · simp only [isSecB,Zm,Zs] at hc
     have hx:=hc.1.1
     refine ⟨jZ x hx.1 hx.2,Or.inr ⟨w,hw,?_⟩⟩
     rw [Zs,eu hx.1 hx.2,hc.1.2]
   · rw [eq_false_of_ne_true hc] at hu
     cases hu
theorem m8 {force:Option Xg} {a:Xa} {secrets:List Int} {b:Xo} (h:(firstO b (candsV secrets force a)).isSome=true):∃ x∈secrets,seesX force a x=true:=by
 obtain ⟨y,hy⟩:=Qx.1 h
 obtain ⟨k,hk,_⟩:=List.exists_of_findSome?_eq_some hy
 obtain ⟨x,hx,hkx⟩:=List.mem_flatMap.1 hk
 exact ⟨x,hx,pK hkx⟩
theorem ur {a:Xa} {sc:Int} {g:ByteArray} {nx:Nat} (h:gOk a sc g nx=true):a.kind=16∧a.scope=sc∧seqB a.group g=true:=by
 simp only [gOk,Zm,Zs] at h
 exact ⟨h.1.1.1,h.1.1.2,h.1.2⟩
theorem jU (l:List Xa) (sc:Int) (g:ByteArray):∀ k,k≤l.length→0<(grantF l sc g k).2→(grantF l sc g k).1<k∧∃ x,l[(grantF l sc g k).1]?=some x∧x.kind=16∧x.scope=sc∧seqB x.group g=true
 | 0,_,h=>absurd h (Nat.lt_irrefl _)
 | k+1,hk,h=>by
  have ih:=jU l sc g k ab
  simp only [grantF] at h ⊢
  cases hb:gOk (l.getD k Xa.zero) sc g (grantF l sc g k).2 with
  | true =>
   have hx:l[k]?=some (l.getD k Xa.zero):=by rw [Zl,Zc (by omega)];rfl
   exact ⟨Nat.lt_succ_self k,_,hx,ur hb⟩
  | false =>
   rw [hb] at h
   exact ⟨Nat.lt_succ_of_lt (ih h).1,(ih h).2⟩
def writtenB (k:Int):Bool:=decide (k=1)||decide (k=2)||decide (k=3)||decide (k=14)
def openG (secrets:List Int) (l:List Xa) (kl:List Xg) (i:Nat) (a:Xa):Option ByteArray :=
 bif decide (0<(grantV l i a.scope a.group).2)&&decide ((l.getD (grantV l i a.scope a.group).1 Xa.zero).epoch=a.epoch) then
  firstO a.body (candsV secrets (keyV l.length kl (grantV l i a.scope a.group).1) (l.getD (grantV l i a.scope a.group).1 Xa.zero))
 else none
def openA (secrets:List Int) (l:List Xa) (kl:List Xg) (i:Nat) (a:Xa):Option ByteArray :=
 bif writtenB a.kind then (bif decide (a.scope=0) then some a.text else openG secrets l kl i a) else none
def openV (secrets:List Int) (l:List Xa) (kl:List Xg) (i:Int):Option ByteArray :=
 bif decide (i<0)||decide ((l.length:Int)≤i) then none else openA secrets l kl i.toNat (l.getD i.toNat Xa.zero)
def mayAt (secrets:List Int) (l:List Xa) (kl:List Xg) (a:Xa) (g:Nat):Bool :=
 let b:=l.getD g Xa.zero
 decide (b.kind=16)&&decide (b.scope=a.scope)&&seqB b.group a.group&&decide (b.epoch=a.epoch)&&secrets.any (seesX (keyV l.length kl g) b)
def mayF (secrets:List Int) (l:List Xa) (kl:List Xg) (a:Xa):Nat→Bool
 | 0=>false
 | k+1=>mayF secrets l kl a k||mayAt secrets l kl a k
theorem nL {secrets:List Int} {l:List Xa} {kl:List Xg} {a:Xa} {g:Nat} (h:mayAt secrets l kl a g=true):∀ k,g<k→mayF secrets l kl a k=true
 | 0,hk=>absurd hk (Nat.not_lt_zero _)
 | k+1,hk=>by
  rw [mayF,Bool.or_eq_true]
  rcases Nat.lt_succ_iff_lt_or_eq.1 hk with hk|rfl
  · exact Or.inl (nL h k hk)
  · exact Or.inr h
theorem nT {n len:Nat} (h:n≤len):limN (n:Int) len=n:=by
 unfold limN
 split<;>split<;>omega
theorem blind {secrets:List Int} {l:List Xa} {kl:List Xg} {i:Nat} (hi:i<l.length) (hs:(l.getD i Xa.zero).scope≠0) (h:(openV secrets l kl i).isSome=true):mayF secrets l kl (l.getD i Xa.zero) i=true:=by
 rw [openV,Zd ab,Zd (by omega)] at h
 simp only [Zn,Zf,ZP] at h
 obtain ⟨a,ha⟩:∃ a,l.getD i Xa.zero=a:=⟨_,rfl⟩
 rw [ha] at h hs ⊢
 rw [openA,Zd hs] at h
 cases hw:writtenB a.kind with
 | false=>rw [hw] at h;cases h
 | true =>
  rw [hw] at h
  simp only [Zg,Zf] at h
  unfold openG at h
  have e:grantV l i a.scope a.group=grantF l a.scope a.group i:=by rw [grantV,nT (Nat.le_of_lt hi)]
  rw [e] at h
  by_cases hc:(decide (0<(grantF l a.scope a.group i).2)&&decide ((l.getD (grantF l a.scope a.group i).1 Xa.zero).epoch=a.epoch))=true
  · rw [hc] at h
    simp only [Zm,Zs] at hc
    obtain ⟨h1,x,hx,hk,hsc,hg⟩:=jU l a.scope a.group i (Nat.le_of_lt hi) hc.1
    have ex:l.getD (grantF l a.scope a.group i).1 Xa.zero=x:=by rw [Zl,hx];rfl
    obtain ⟨y,hy,hsee⟩:=m8 h
    refine nL (g:=(grantF l a.scope a.group i).1) ?_ i h1
    unfold mayAt
    have hep:=hc.2
    simp only [ex] at hsee hep ⊢
    simp only [Zm,Zs]
    exact ⟨⟨⟨⟨hk,hsc⟩,hg⟩,hep⟩,List.any_eq_true.2 ⟨y,hy,hsee⟩⟩
  · rw [eq_false_of_ne_true hc] at h
    cases h
theorem fJ {α β:Type} {f g:α→List β}:∀ l:List α,(∀ x∈l,f x=g x)→l.flatMap f=l.flatMap g
 | [],_=>rfl
 | a::l,h=>by rw [List.flatMap_cons,List.flatMap_cons,h a aC,fJ l fun x hx=>h x (Zr _ hx)]
theorem kT:∀ l:List ByteArray,nl (cats l)=l.flatMap nl
 | []=>rfl
 | a::l=>by rw [cats,bH,kT l,List.flatMap_cons]
def listL (l:List (List Nat)):List Nat:=numL 10 l.length++l.flatMap textL
theorem kG (l:List ByteArray):nl (listV l)=listL (l.map nl):=by
 rw [listV,bH,dM,kT,listL,ZA,List.flatMap_map,List.flatMap_map]
 congr 1
 exact fJ _ fun x _=>dz x
def wrapL (w:Xk):List Nat:=numL 10 w.to.toNat++(numL 10 w.eph.toNat++boxL w.box)
theorem r3 {w:Xk} (h1:0≤w.to) (h2:0≤w.eph):nl (wrapV w)=wrapL w:=by
 simp only [wrapV,boxV,bH,dz,dj h1,dj h2,wrapL,boxL,Zy]
def coreWL (a:Xa):List Nat :=
 textL [97,99,116]++(textL (nl a.author)++(numL 10 a.seq.toNat++(textL (nl a.prev)++(numL 10 a.kind.toNat++(numL 10 a.time.toNat++(textL (nl a.object)++(textL (nl a.target)++(numL 10 a.scope.toNat++(textL (nl a.group)++(listL (a.toL.map nl)++(textL (nl a.text)++(boxL a.body++(numL 10 a.epoch.toNat++(numL 10 a.wrapsL.length++(a.wrapsL.flatMap wrapL++(numL 10 a.n.toNat++numL 10 a.m.toNat))))))))))))))))
structure Xa.PosW (a:Xa):Prop where
 seq:0≤a.seq
 kind:0≤a.kind
 time:0≤a.time
 scope:0≤a.scope
 epoch:0≤a.epoch
 n:0≤a.n
 m:0≤a.m
 wraps:∀ w∈a.wrapsL,0≤w.to∧0≤w.eph
theorem gk (a:Xa) (h:a.PosW):nl (coreV a)=coreWL a:=by
 have e1:nl (⟨#[97,99,116]⟩:ByteArray)=[97,99,116]:=rfl
 have e3:(a.wrapsL.map wrapV).take a.wrapsL.length=a.wrapsL.map wrapV:=Z4 (by rw [ZA];exact ZN _)
 have e4:nl (cats (a.wrapsL.map wrapV))=a.wrapsL.flatMap wrapL:=by
  rw [kT,List.flatMap_map]
  exact fJ _ fun w hw=>r3 (h.wraps w hw).1 (h.wraps w hw).2
 simp only [coreV,core5,core4,core3,core2,core1,boxV,kG,e3,e4,bH,dz,e1,dM,dj h.seq,dj h.kind,dj h.time,dj h.scope,dj h.epoch,dj h.n,dj h.m,Zy,coreWL,boxL]
theorem pf (l:List ByteArray) (hl:(listL (l.map nl)).length≤1000000):(listV l).size<2305843009213693952:=by
 rw [←aZ,kG]
 omega
theorem cO {l:List ByteArray} {m:List (List Nat)} {D:ByteArray} (hm:l.map nl=m) (hl:(listL m).length≤1000000) (h:shaL (listL m)=nl D):sealH l=D:=by
 subst hm
 exact gF ((gA _ (pf l hl)).trans ((congrArg shaL (kG l)).trans h))
theorem mJ {S:Nat} {P:Int} {sc ep:Nat} {g D:ByteArray} (hg:(nl g).length≤1000) (h:shaL (textL [101,112,111,99,104]++(numL 10 S++(numL 10 sc++(textL (nl g)++numL 10 ep))))=nl D):secretV ⟨(S:Nat),P⟩ (sc:Nat) g (ep:Nat)=D:=by
 have h1:=aq ⟨#[101,112,111,99,104]⟩
 have h2:=ar (S:Int)
 have h3:=ar (sc:Int)
 have h4:=aq g
 have h6:=ar (ep:Int)
 have h5:(⟨#[101,112,111,99,104]⟩:ByteArray).size=5:=rfl
 rw [aZ] at hg
 have e:nl (⟨#[101,112,111,99,104]⟩:ByteArray)=[101,112,111,99,104]:=rfl
 refine gF ?_
 rw [secretV,gA _ (by simp only [Zb];omega),←h]
 simp only [bH,dz,dM,e,Zy]
theorem so {s:ByteArray} {m:List Nat} {D:ByteArray} (hm:nl s=m) (hl:m.length≤1000000) (h:shaL m=nl D):shaV s=D:=by
 subst hm
 refine gF ((gA _ ?_).trans h)
 rw [←aZ]
 omega
def mskB (B data:ByteArray):Nat→ByteArray
 | 0=>.empty
 | n+1=>(mskB B data n).push (data.data.getD n 0 ^^^ B.data.getD n 0)
theorem nN {key nonce B:ByteArray} (hB:sealH [⟨#[115,116,114,101,97,109]⟩,key,nonce,numV ((0:Nat):Int)]=B) (data:ByteArray):∀ n,n≤32→maskF key nonce data n=mskB B data n
 | 0,_=>rfl
 | n+1,h=>by
  rw [maskF,mskB,nN hB data n ab,strmB,Nat.div_eq_of_lt ab,Zz ab,hB]
theorem fZ {key nonce B data D:ByteArray} (hB:sealH [⟨#[115,116,114,101,97,109]⟩,key,nonce,numV ((0:Nat):Int)]=B) (hd:data.size≤32) (h:mskB B data data.size=D):maskV key nonce data=D :=
 (nN hB data data.size hd).trans h
def gkK:X9:=⟨((361080046605472372:Nat):Int),((2287805972299522828:Nat):Int)⟩
theorem rx:keyOf ⟨#[97]⟩=gkK:=lN (by decide) (by decide +kernel) (by decide +kernel)
theorem dx:rightK gkK=true:=by rw [←rx];exact lM _
def gkI:ByteArray:=⟨#[97,57,100,101,51,99,52,56,49,98,48,50,97,99,54,53]⟩
theorem tH:idV ((2287805972299522828:Nat):Int)=gkI:=nW (by decide +kernel)
def gkF:X9:=⟨((672555664544012153:Nat):Int),((314142530267339368:Nat):Int)⟩
theorem sW:keyOf ⟨#[102]⟩=gkF:=lN (by decide) (by decide +kernel) (by decide +kernel)
def gkJ:ByteArray:=⟨#[97,98,101,51,56,102,54,98,101,55,53,50,55,54,56,101]⟩
theorem uo:idV ((314142530267339368:Nat):Int)=gkJ:=nW (by decide +kernel)
def gkS:ByteArray:=⟨#[37,163,24,6,202,236,208,162,143,104,11,238,38,253,194,113,225,205,253,182,69,89,115,9,111,9,55,93,18,128,118,194]⟩
theorem jV:secretV gkK 1 ⟨#[]⟩ 0=gkS:=mJ (S:=361080046605472372) (sc:=1) (ep:=0) (by decide) (by decide +kernel)
theorem sX:sealH [⟨#[101,112,104]⟩,⟨#[5,103,114,97,110,116,32,37,163,24,6,202,236,208,162,143,104,11,238,38,253,194,113,225,205,253,182,69,89,115,9,111,9,55,93,18,128,118,194,0]⟩,numV ((314142530267339368:Nat):Int)]=⟨#[230,123,187,144,178,212,136,166,174,125,148,4,216,184,47,48,229,89,6,178,245,165,254,136,177,40,133,255,123,80,124,85]⟩:=cO (m:=[[101,112,104],[5,103,114,97,110,116,32,37,163,24,6,202,236,208,162,143,104,11,238,38,253,194,113,225,205,253,182,69,89,115,9,111,9,55,93,18,128,118,194,0],[232,180,181,171,248,222,131,174,4]]) (by decide +kernel) (by decide +kernel) (by decide +kernel)
theorem sQ:textV ⟨#[103,114,97,110,116]⟩++textV gkS++numV 0=⟨#[5,103,114,97,110,116,32,37,163,24,6,202,236,208,162,143,104,11,238,38,253,194,113,225,205,253,182,69,89,115,9,111,9,55,93,18,128,118,194,0]⟩:=by decide +kernel
theorem up:ephN ((314142530267339368:Nat):Int) ⟨#[5,103,114,97,110,116,32,37,163,24,6,202,236,208,162,143,104,11,238,38,253,194,113,225,205,253,182,69,89,115,9,111,9,55,93,18,128,118,194,0]⟩=2076009285126099221:=by rw [ephN,sX];decide +kernel
theorem u9:expV 37 2076009285126099221=1724347938765137135:=by rw [dO];decide +kernel
theorem u7:expV 314142530267339368 2076009285126099221=1353613825748657592:=by rw [dO];decide +kernel
theorem uZ:expV 1724347938765137135 672555664544012153=1353613825748657592:=by rw [dO];decide +kernel
theorem rq:sealH [⟨#[119,114,97,112]⟩,numV ((314142530267339368:Nat):Int),numV ((1724347938765137135:Nat):Int),numV ((1353613825748657592:Nat):Int)]=⟨#[147,97,50,223,200,197,238,68,114,48,106,183,62,201,77,196,21,238,162,203,199,177,19,226,148,36,160,91,208,88,25,93]⟩:=cO (m:=[[119,114,97,112],[232,180,181,171,248,222,131,174,4],[239,201,151,186,135,170,135,247,23],[184,203,185,246,164,147,192,228,18]]) (by decide +kernel) (by decide +kernel) (by decide +kernel)
def gkW0:ByteArray:=⟨#[147,97,50,223,200,197,238,68,114,48,106,183,62,201,77,196,21,238,162,203,199,177,19,226,148,36,160,91,208,88,25,93]⟩
theorem oc:wkeyV ((314142530267339368:Nat):Int) ((1724347938765137135:Nat):Int) 1353613825748657592=gkW0:=rq
def gkN0:ByteArray:=⟨#[117,119,211,95,90,255,9,142,131,60,216,198,70,16,176,184,126,158,163,251,211,44,86,104,46,114,141,170,118,205,246,184]⟩
theorem pw:sealH [⟨#[110,111,110,99,101]⟩,gkW0]=⟨#[117,119,211,95,90,255,9,142,131,60,216,198,70,16,176,184,126,158,163,251,211,44,86,104,46,114,141,170,118,205,246,184]⟩:=cO (m:=[[110,111,110,99,101],[147,97,50,223,200,197,238,68,114,48,106,183,62,201,77,196,21,238,162,203,199,177,19,226,148,36,160,91,208,88,25,93]]) (by decide +kernel) (by decide +kernel) (by decide +kernel)
theorem lS:sealH [⟨#[115,116,114,101,97,109]⟩,gkW0,gkN0,numV ((0:Nat):Int)]=⟨#[44,29,249,16,211,215,214,30,20,226,189,90,179,175,180,213,208,92,129,134,240,36,159,93,158,19,117,42,240,164,255,39]⟩:=cO (m:=[[115,116,114,101,97,109],[147,97,50,223,200,197,238,68,114,48,106,183,62,201,77,196,21,238,162,203,199,177,19,226,148,36,160,91,208,88,25,93],[117,119,211,95,90,255,9,142,131,60,216,198,70,16,176,184,126,158,163,251,211,44,86,104,46,114,141,170,118,205,246,184],[0]]) (by decide +kernel) (by decide +kernel) (by decide +kernel)
theorem pr:sealH [⟨#[116,97,103]⟩,gkW0,gkN0,⟨#[9,190,225,22,25,59,6,188,155,138,182,180,149,82,118,164,49,145,124,48,181,125,236,84,241,26,66,119,226,36,137,229]⟩]=⟨#[152,178,248,51,195,144,246,89,68,189,145,113,237,225,240,52,64,90,42,137,233,148,189,50,249,247,167,236,182,195,238,11]⟩:=cO (m:=[[116,97,103],[147,97,50,223,200,197,238,68,114,48,106,183,62,201,77,196,21,238,162,203,199,177,19,226,148,36,160,91,208,88,25,93],[117,119,211,95,90,255,9,142,131,60,216,198,70,16,176,184,126,158,163,251,211,44,86,104,46,114,141,170,118,205,246,184],[9,190,225,22,25,59,6,188,155,138,182,180,149,82,118,164,49,145,124,48,181,125,236,84,241,26,66,119,226,36,137,229]]) (by decide +kernel) (by decide +kernel) (by decide +kernel)
theorem gk_tag_w:tagV gkW0 gkN0 ⟨#[9,190,225,22,25,59,6,188,155,138,182,180,149,82,118,164,49,145,124,48,181,125,236,84,241,26,66,119,226,36,137,229]⟩=⟨#[152,178,248,51,195,144,246,89,68,189,145,113,237,225,240,52]⟩:=by rw [tagV,pr];decide +kernel
theorem px:maskV gkW0 gkN0 ⟨#[37,163,24,6,202,236,208,162,143,104,11,238,38,253,194,113,225,205,253,182,69,89,115,9,111,9,55,93,18,128,118,194]⟩=⟨#[9,190,225,22,25,59,6,188,155,138,182,180,149,82,118,164,49,145,124,48,181,125,236,84,241,26,66,119,226,36,137,229]⟩:=fZ lS (by decide) (by decide +kernel)
theorem pz:maskV gkW0 gkN0 ⟨#[9,190,225,22,25,59,6,188,155,138,182,180,149,82,118,164,49,145,124,48,181,125,236,84,241,26,66,119,226,36,137,229]⟩=⟨#[37,163,24,6,202,236,208,162,143,104,11,238,38,253,194,113,225,205,253,182,69,89,115,9,111,9,55,93,18,128,118,194]⟩:=fZ lS (by decide) (by decide +kernel)
def gkW:Xk:=⟨((314142530267339368:Nat):Int),((1724347938765137135:Nat):Int),⟨gkN0,⟨#[9,190,225,22,25,59,6,188,155,138,182,180,149,82,118,164,49,145,124,48,181,125,236,84,241,26,66,119,226,36,137,229]⟩,⟨#[152,178,248,51,195,144,246,89,68,189,145,113,237,225,240,52]⟩⟩⟩
def gkU0:Xa:={ Xa.zero with author:=gkI,text:=⟨#[97,110,110]⟩,n:=((2287805972299522828:Nat):Int) }
def gkA0:Xa:=gkU0.sig ⟨((969070982370715422:Nat):Int),((1494031495678606698:Nat):Int)⟩
def gkM0:List Nat:=[3,97,99,116,16,97,57,100,101,51,99,52,56,49,98,48,50,97,99,54,53,0,0,0,0,0,0,0,0,0,3,97,110,110,0,0,0,0,0,140,198,184,175,145,237,250,223,31,0]
theorem uU:gkU0.PosW:=⟨by decide,by decide,by decide,by decide,by decide,by decide,by decide,by decide +kernel⟩
theorem rn:nl (coreV (gkU0.sig Xy.zero))=gkM0:=(gk gkU0 uU).trans (by decide +kernel)
theorem oa:gkM0.length=49:=by decide +kernel
theorem uP:actSignV gkK gkU0=gkA0:=fd dx rfl (by decide +kernel) rn (by rw [oa];decide) (K:=575135974072219164) (R:=24374903102715755) (by decide +kernel) (by decide +kernel) (by decide +kernel) (by decide +kernel)
def gkD0:ByteArray:=⟨#[44,38,166,122,39,168,187,143,132,255,67,202,155,188,227,96,137,65,191,161,227,94,182,139,167,67,206,246,212,205,56,92]⟩
theorem rm:rightB gkA0=true:=by decide +kernel
theorem uY:digV gkA0=gkD0:=kP rm ((congrArg nl (gj gkU0 _ _)).trans rn) (by rw [oa];decide) (by rw [oa];decide) (E:=969070982370715422) (G:=1494031495678606698) rfl rfl (by decide +kernel)
theorem uL:verN ((2287805972299522828:Nat):Int) (coreV gkA0) ((969070982370715422:Nat):Int) ((1494031495678606698:Nat):Int)=true:=r5 (d:=1336772026842978528) (x1:=474056943505715079) (x2:=856046807767542642) (R:=24374903102715755) ((congrArg nl (gj gkU0 _ _)).trans rn) (by rw [oa];decide) (by decide) (by decide) (by decide) (by decide) (by decide) (by decide +kernel) (by decide +kernel) (by decide +kernel) (by decide +kernel)
def gkU1:Xa:={ Xa.zero with author:=gkI,seq:=1,prev:=gkD0,kind:=8,time:=1,target:=gkJ }
def gkA1:Xa:=gkU1.sig ⟨((1876221793998658842:Nat):Int),((314543966910952518:Nat):Int)⟩
def gkM1:List Nat:=[3,97,99,116,16,97,57,100,101,51,99,52,56,49,98,48,50,97,99,54,53,1,32,44,38,166,122,39,168,187,143,132,255,67,202,155,188,227,96,137,65,191,161,227,94,182,139,167,67,206,246,212,205,56,92,8,1,0,16,97,98,101,51,56,102,54,98,101,55,53,50,55,54,56,101,0,0,0,0,0,0,0,0,0,0,0]
theorem uT:gkU1.PosW:=⟨by decide,by decide,by decide,by decide,by decide,by decide,by decide,by decide +kernel⟩
theorem tG:nl (coreV (gkU1.sig Xy.zero))=gkM1:=(gk gkU1 uT).trans (by decide +kernel)
theorem rp:gkM1.length=86:=by decide +kernel
theorem uO:actSignV gkK gkU1=gkA1:=fd dx rfl (by decide +kernel) tG (by rw [rp];decide) (K:=421983266540017044) (R:=1164597825656428466) (by decide +kernel) (by decide +kernel) (by decide +kernel) (by decide +kernel)
def gkD1:ByteArray:=⟨#[157,122,61,240,34,46,98,240,38,187,101,63,156,3,10,165,44,70,202,253,10,49,55,215,7,114,120,230,215,1,208,54]⟩
theorem tE:rightB gkA1=true:=by decide +kernel
theorem uX:digV gkA1=gkD1:=kP tE ((congrArg nl (gj gkU1 _ _)).trans tG) (by rw [rp];decide) (by rw [rp];decide) (E:=1876221793998658842) (G:=314543966910952518) rfl rfl (by decide +kernel)
def gkU2:Xa:={ Xa.zero with author:=gkI,seq:=2,prev:=gkD1,kind:=16,time:=2,scope:=1,toL:=[gkJ],wrapsL:=[gkW] }
def gkA2:Xa:=gkU2.sig ⟨((2273695731113042119:Nat):Int),((2201329139463965955:Nat):Int)⟩
def gkM2:List Nat:=[3,97,99,116,16,97,57,100,101,51,99,52,56,49,98,48,50,97,99,54,53,2,32,157,122,61,240,34,46,98,240,38,187,101,63,156,3,10,165,44,70,202,253,10,49,55,215,7,114,120,230,215,1,208,54,16,2,0,0,1,0,1,16,97,98,101,51,56,102,54,98,101,55,53,50,55,54,56,101,0,0,0,0,0,1,232,180,181,171,248,222,131,174,4,239,201,151,186,135,170,135,247,23,32,117,119,211,95,90,255,9,142,131,60,216,198,70,16,176,184,126,158,163,251,211,44,86,104,46,114,141,170,118,205,246,184,32,9,190,225,22,25,59,6,188,155,138,182,180,149,82,118,164,49,145,124,48,181,125,236,84,241,26,66,119,226,36,137,229,16,152,178,248,51,195,144,246,89,68,189,145,113,237,225,240,52,0,0]
theorem uS:gkU2.PosW:=⟨by decide,by decide,by decide,by decide,by decide,by decide,by decide,by decide +kernel⟩
theorem tF:nl (coreV (gkU2.sig Xy.zero))=gkM2:=(gk gkU2 uS).trans (by decide +kernel)
theorem ro:gkM2.length=188:=by decide +kernel
theorem uN:actSignV gkK gkU2=gkA2:=fd dx rfl (by decide +kernel) tF (by rw [ro];decide) (K:=1841959533111536087) (R:=1200986854573340324) (by decide +kernel) (by decide +kernel) (by decide +kernel) (by decide +kernel)
def gkD2:ByteArray:=⟨#[37,87,108,203,98,68,132,98,228,194,168,155,129,55,79,44,222,141,184,232,173,69,147,74,116,13,206,152,37,123,136,25]⟩
def gkN1:ByteArray:=⟨#[232,162,55,65,139,36,74,227,213,210,195,171,181,135,165,220,97,175,47,230,139,241,49,124,95,50,71,9,243,38,48,236]⟩
theorem pu:shaV (textV ⟨#[112,111,115,116]⟩++textV gkS++numV 3++textV gkD2++textV ⟨#[104,105]⟩)=gkN1:=so (m:=[4,112,111,115,116,32,37,163,24,6,202,236,208,162,143,104,11,238,38,253,194,113,225,205,253,182,69,89,115,9,111,9,55,93,18,128,118,194,3,32,37,87,108,203,98,68,132,98,228,194,168,155,129,55,79,44,222,141,184,232,173,69,147,74,116,13,206,152,37,123,136,25,2,104,105]) (by decide +kernel) (by decide +kernel) (by decide +kernel)
theorem lT:sealH [⟨#[115,116,114,101,97,109]⟩,gkS,gkN1,numV ((0:Nat):Int)]=⟨#[17,251,209,214,120,227,225,230,164,254,136,148,246,197,173,123,254,229,58,133,245,224,210,151,1,96,11,168,77,114,73,31]⟩:=cO (m:=[[115,116,114,101,97,109],[37,163,24,6,202,236,208,162,143,104,11,238,38,253,194,113,225,205,253,182,69,89,115,9,111,9,55,93,18,128,118,194],[232,162,55,65,139,36,74,227,213,210,195,171,181,135,165,220,97,175,47,230,139,241,49,124,95,50,71,9,243,38,48,236],[0]]) (by decide +kernel) (by decide +kernel) (by decide +kernel)
theorem pt:sealH [⟨#[116,97,103]⟩,gkS,gkN1,⟨#[121,146]⟩]=⟨#[181,160,25,39,145,115,244,110,44,28,123,32,208,194,116,60,66,76,161,116,204,205,64,179,110,26,190,193,105,209,129,173]⟩:=cO (m:=[[116,97,103],[37,163,24,6,202,236,208,162,143,104,11,238,38,253,194,113,225,205,253,182,69,89,115,9,111,9,55,93,18,128,118,194],[232,162,55,65,139,36,74,227,213,210,195,171,181,135,165,220,97,175,47,230,139,241,49,124,95,50,71,9,243,38,48,236],[121,146]]) (by decide +kernel) (by decide +kernel) (by decide +kernel)
theorem gk_tag_p:tagV gkS gkN1 ⟨#[121,146]⟩=⟨#[181,160,25,39,145,115,244,110,44,28,123,32,208,194,116,60]⟩:=by rw [tagV,pt];decide +kernel
theorem py:maskV gkS gkN1 ⟨#[104,105]⟩=⟨#[121,146]⟩:=fZ lT (by decide) (by decide +kernel)
theorem pA:maskV gkS gkN1 ⟨#[121,146]⟩=⟨#[104,105]⟩:=fZ lT (by decide) (by decide +kernel)
def gkB:Xo:=⟨gkN1,⟨#[121,146]⟩,⟨#[181,160,25,39,145,115,244,110,44,28,123,32,208,194,116,60]⟩⟩
def gkU3:Xa:={ Xa.zero with author:=gkI,seq:=3,prev:=gkD2,kind:=1,time:=2,scope:=1,body:=gkB }
def gkA3:Xa:=gkU3.sig ⟨((2038314536534344196:Nat):Int),((1392663199659188339:Nat):Int)⟩
def gkM3:List Nat:=[3,97,99,116,16,97,57,100,101,51,99,52,56,49,98,48,50,97,99,54,53,3,32,37,87,108,203,98,68,132,98,228,194,168,155,129,55,79,44,222,141,184,232,173,69,147,74,116,13,206,152,37,123,136,25,1,2,0,0,1,0,0,0,32,232,162,55,65,139,36,74,227,213,210,195,171,181,135,165,220,97,175,47,230,139,241,49,124,95,50,71,9,243,38,48,236,2,121,146,16,181,160,25,39,145,115,244,110,44,28,123,32,208,194,116,60,0,0,0,0]
theorem uR:gkU3.PosW:=⟨by decide,by decide,by decide,by decide,by decide,by decide,by decide,by decide +kernel⟩
theorem uV:nl (coreV (gkU3.sig Xy.zero))=gkM3:=(gk gkU3 uR).trans (by decide +kernel)
theorem uW:gkM3.length=120:=by decide +kernel
theorem uM:actSignV gkK gkU3=gkA3:=fd dx rfl (by decide +kernel) uV (by rw [uW];decide) (K:=1204869824875923327) (R:=1694943967045036500) (by decide +kernel) (by decide +kernel) (by decide +kernel) (by decide +kernel)
theorem uQ:rightB gkA3=true:=by decide +kernel
theorem ul:verV ((2287805972299522828:Nat):Int) gkA0=true:=by
 rw [verV,actCore,rm,Zg,Zh]
 exact uL
end Go.Proofs.YtamfbppnlomgfaaGreatDoor
namespace Go.Proofs.YtamfbppnlomgfaaGreatDoor
open Go Go.Proofs Sy Go.Shelf Go.Maps Go.Sort Tryz
theorem keysSet_c:KeysC prog 177 202 194 where
 keys:=fun mb W=>(callsIn_wide (n:=5)).1 (AnyZ.keys_in Tryz.keys_agora_relation_set_string_bool Fence.wide 5 trivial rfl mb W)
theorem sortedSet_c:SortedSC prog 176 202 9 where
 key:=underlying9
 sorted:=fun w Bm q nn D0 hB hc hown h1 h2=>(callsIn_wide (n:=5)).1 (AnyZ.sorted_in Tryz.sortedS Fence.wide 5 trivial trivial trivial trivial rfl ab (sortsS _) (enters_of func86 ac rfl) _ _ trivial (enters_of func202 ac rfl) _ _ h1 h2 _
  (AnyZ.keys_gives (ρ:=Tryz.keys_agora_relation_set_string_bool_ren) { Tryz.keys_agora_relation_set_string_bool with } Fence.wide _ trivial rfl ab Bm q nn D0 w hB hc hown))
end Go.Proofs.YtamfbppnlomgfaaGreatDoor
namespace Go.Proofs.YtamfbppnlomgfaaGreatDoor
open Go Go.Proofs Sy Tryz
theorem ef (q:Nat) (ks:List ByteArray) (hs:∀ k∈ks,k.size≤maxLen) (hl:ks.length≤1000000) :
  Ct prog 138 #[.map (some q)] [mapr q (setM ks)] (fun _=>True) fun u R _=>∃ A c,u=.slice A ks.length c∧R=[orow 9 1 u ks.length ((sortB ks).map encB),mapr q (setM ks)]:=by
 refine bQ (args:=[_]) (Post:=fun u R=>∃ A c,u=.slice A ks.length c∧R=[orow 9 1 u ks.length ((sortB ks).map encB),mapr q (setM ks)]) _ func138 rfl ntmps138 rfl fun av bor w0=>?_
 have hsl:(setM ks).length=ks.length:=by simp [setM]
 have hsm:(setM ks).map (·.1)=ks:=by simp [setM,Function.comp_def]
 have hsk:=sortedSet_c.ct (M:=194)
 repeat' (first|refine gs ?_|fail)
 refine cr (pre:=[]) (fr:=[mapr q (setM ks)]) (hc:=keysSet_c.ct (some q)) (hX:=fun _ _=>trivial) (h:=?_)
 rintro v R X' ⟨b,rfl,rfl⟩
 refine cr (pre:=[cel b 194 [.map (some q)],mapr q (setM ks)]) (fr:=[]) (hc:=sortedSet_c.ct b q (setM ks) (fun p hp=>by simp only [setM,Qt] at hp;obtain ⟨k,hk,rfl⟩:=hp;exact hs k hk) (by rw [hsl];exact hl)) (hX:=fun _ _=>trivial) (h:=?_)
 rintro v R X' ⟨A,c,rfl,rfl⟩
 rw [hsl,hsm]
 repeat' (first|refine gs ?_|fail)
 exact aa (ai rfl rfl) ⟨_,ZT _ (ZS _ (aj _)),A,c,rfl,rfl⟩
theorem qJ (c:Xb) (hc:Xr c.actsL) (hl:c.actsL.length≤1000000) (n:Int):Mk prog 84 #[c.v,.int .i64 n] (fun w=>c.at_ w∧Xc w) (TiesAt (tieV c.actsL n)):=by
 refine qY (args:=[_,_]) _ func84 rfl ntmps84 rfl fun av bor w0=>?_
 have hB:=lf hc n
 repeat' (first|refine gs ?_|refine gs1 fun _=>?_|fail)
 rename_i b2 b4
 refine cr (pre:=[]) (fr:=[cel b4 145 [.slice none 0 0,.slice none 0 0,.slice none 0 0,.slice none 0 0],cel b2 26 c.cells]) (hc:=tW c hc n) (hX:=fun _ h=>h) (h:=?_)
 rintro _ _ X' ⟨q1,q2,q3,q4,rfl,rfl⟩
 generalize tieV c.actsL n=t at *
 repeat' (first|refine gs ?_|refine gs1 fun _=>?_|fail)
 rename_i b5
 unfold setsR
 (refine aw_draw ⟨[0,1,3,4,6,7,9,10],[(2,⟨[],[(5,⟨[],[(8,⟨[],[(11,⟨[12],[(13,⟨[],[]⟩)]⟩)]⟩)]⟩)]⟩)]⟩ [cel b5 196 (setsV q1 q2 q3 q4).cells.toList] (fun _=>True) (h:=?_))
 all_goals repeat' (first|((refine dD (hc:=ef q1 t.f hB.f.size (ZO hB.f.len hl)) (hX:=fun _ _=>trivial) ?_;rintro _ _ X1 ⟨A1,c1,rfl,rfl⟩;refine cJ ?_))|((refine dD (hc:=ef q2 t.a hB.a.size (ZO hB.a.len hl)) (hX:=fun _ _=>trivial) ?_;rintro _ _ X2 ⟨A2,c2,rfl,rfl⟩;refine cJ ?_))|((refine dD (hc:=ef q3 t.b hB.b.size (ZO hB.b.len hl)) (hX:=fun _ _=>trivial) ?_;rintro _ _ X3 ⟨A3,c3,rfl,rfl⟩;refine cJ ?_))|((refine dD (hc:=ef q4 t.m hB.m.size (ZO hB.m.len hl)) (hX:=fun _ _=>trivial) ?_;rintro _ _ X4 ⟨A4,c4,rfl,rfl⟩;refine cJ ?_))|refine gd ?_|refine aH (hy:=by first|(apply dy;rfl;rfl)) ?_|refine aE ?_ (h':=?_)|exact aF|refine gs1 fun _=>?_|(refine gq ?_ ?_<;>intro hx_ this)|fail)
 repeat' (first|refine gs ?_|refine gs1 fun _=>?_|fail)
 refine aa (aP rfl rfl aB (by rfl)) ⟨⟨A1,t.f.length,c1⟩,⟨A2,t.a.length,c2⟩,⟨A3,t.b.length,c3⟩,⟨A4,t.m.length,c4⟩,rfl,fun w h=>⟨ea h.1.1.1.1.1.1.2 rfl,ea h.1.1.1.1.2 rfl,ea h.1.1.2 rfl,ea h.2 rfl⟩⟩
def OwnStrs (l:List ByteArray) (u:Value) (R:List Xi):Prop:=∃ A c,u=.slice A l.length c∧R=[orow 9 1 u l.length (l.map encB)]
theorem pb {f:FuncId} {args:Array Value} {X:World→Prop} {l:List ByteArray} (h:Ct prog f args [] X (fun u R _=>OwnStrs l u R)):Mk prog f args X (StrsAt l):=by
 unfold Mk
 exact Ct.mk fun w av G=>(Ct.run h w av G).mono fun e w' ⟨u,R,X',he,hu,G'⟩=>⟨u,[],_,he,⟨by
  obtain ⟨A,c,rfl,rfl⟩:=hu
  exact ⟨⟨A,_,c⟩,rfl,fun w h=>fQ (h.2 _ aC) rfl⟩,rfl⟩,G'.giveAll⟩
theorem mV (c:Xb) (hc:Xr c.actsL) (hcl:c.actsL.length≤1000000) (hto:∀ x∈c.actsL,x.to.n≤1000000) (n sc:Int) (g:ByteArray) (st:Xh) (toL:List ByteArray) (htl:toL.length≤1000000) :
    Ct prog 44 #[c.v,.int .i64 n,.int .i64 sc,.string g,st.v] [] (fun w=>XC c w∧Strs w st toL) (fun u R _=>OwnStrs (membersV c n sc g toL) u R):=by
  refine bQ (args:=[_,_,_,_,_]) (Post:=OwnStrs (membersV c n sc g toL)) _ func44 rfl ntmps44 rfl fun av bor w0=>?_
  refine aK (fun w h=>XC.know w h.1) fun ⟨hl,hm,hp,hcap⟩=>?_
  simp only [maxLen] at hm
  have hB:=lf hc n
  have hM:membersV c n sc g toL=compB (sortB ((listOf c n sc g toL).filter (keepM c (sortB (tieV c.actsL n).b)))):=rfl
  repeat' (first|refine gs ?_|refine gs1 fun _=>?_|fail)
  refine aU (hc:=qJ c hc hcl n) fun v1 X1 h1=>?_
  obtain ⟨s1,s2,s3,s4,rfl,hties⟩:=h1
  have hLo:listOf c n sc g toL=bif decide (sc=1) then sortB (tieV c.actsL n).a else bif decide (sc=2) then ((circF c.actsL g (limN n c.actsL.length)).map (·.toL)).getD [] else bif decide (sc=3) then toL else []:=rfl
  generalize tieV c.actsL n=t at *
  have hlim:=f5 n c.acts.n
  repeat' (first|refine gs ?_|refine gs1 fun _=>?_|fail)
  rename_i b5 b11
  repeat' (first|refine ae (hc:=gO c n) ?_|refine gs ?_|refine gs1 fun _=>?_|(refine gp ?_ ?_<;>intro hx_ this)|fail)
  case refine_1 =>
    have hLe:listOf c n sc g toL=sortB t.a:=by rw [hLo,hx_];rfl
    have hSL:∀ w,(XC c w∧Strs w st toL)∧X1 w→Strs w s2 (sortB t.a):=fun w h=>(hties w h.2).2.1
    have hLl:(sortB t.a).length≤1000000:=by rw [jD];have:=hB.a.len;omega
    generalize hLL:sortB t.a=L at *
    refine aK (p:=(s2).n=(L).length∧(s2).n≤maxLen∧(0<(L).length→(s2).p.isSome=true)) (fun w h=>⟨(hSL w h).len_,ZO (Xd.cap (hSL w h)) (Xd.max (hSL w h)),(hSL w h).some_⟩) fun ⟨hSl,hSm,hSp⟩=>?_
    simp only [maxLen] at hSm
    refine bA 9 1 ?_
    refine az (ι:=FilS (L).length) (fun i=>⟨[(5,.pointer (some ⟨b5,0,none⟩)),(11,.pointer (some ⟨b11,0,none⟩)),(15,.slice i.A (((L).take i.k).filter (keepM c (sortB t.b))).length i.c),(54,(s2).v),(55,.int .i64 (s2).n),(56,.int .i64 i.k)],
      [orow 9 1 (.slice i.A (((L).take i.k).filter (keepM c (sortB t.b))).length i.c) (((L).take i.k).filter (keepM c (sortB t.b))).length ((((L).take i.k).filter (keepM c (sortB t.b))).map encB),cel b11 145 [s1.v,s2.v,s3.v,s4.v],cel b5 26 c.cells],fun w=>(XC c w∧Strs w st toL)∧X1 w⟩) (fun i=>(L).length-i.k) ⟨0,ZU _,none,0⟩ (ak aw (aj _) fun _ h=>h) fun i=>?_
    have hik:=i.hk
    repeat' (first|refine gs ?_|refine gs1 fun _=>?_|(refine gp ?_ ?_<;>intro hx_ this)|fail)
    · have hlt:i.k<(L).length:=by omega
      have hp2:=hSp ab
      have hfs:=dE (p:=(keepM c (sortB t.b))) (L) hlt
      have hfl:(((L).take i.k).filter (keepM c (sortB t.b))).length≤1000000:=by
        have h1:=ZZ (keepM c (sortB t.b)) ((L).take i.k)
        have h2:=List.length_take_le i.k (L)
        omega
      generalize hacc:((L).take i.k).filter (keepM c (sortB t.b))=acc at *
      generalize hxe:(L).getD i.k .empty=x at *
      repeat' (first|(refine ae (hc:=dm s3 (sortB t.b) x) (hX:=fun w h=>(hties w h.2).2.2.1) ?_)|(refine aD (size:=1) (z:=.string ⟨#[]⟩) (news:=[encB x]) (q:=1) rfl rfl rfl rfl (fun _=>At.there _ (At.here _)) (fun w G=>aR G aC rfl rfl 1) ab (by simp only [maxLen];omega) rfl ?_ rfl ?_;(first|with_reducible rfl|with_reducible assumption|with_reducible exact Zj|with_reducible exact Zk);intro A2 c2)|refine gs ?_|refine gs1 fun _=>?_|(refine aA (q:=i.k) ?_)|(refine bm (u:=.string x) (hF:=fun w h=>hxe▸Strs.get (hSL w h) hlt) ?_)|(refine gp ?_ ?_<;>intro hx_ this)|fail)
      all_goals first
        | (have e:((L).take (i.k+1)).filter (keepM c (sortB t.b))=acc++[x]:=by rw [hfs];simp only [keepM, *,Za,Zg,Zf]
           refine ⟨(⟨i.k+1,hlt,A2,c2⟩:FilS (L).length),(by show (L).length-(i.k+1)<(L).length-i.k;omega),ak ?_ ?_ fun _ h=>h⟩
           · simp only [e,Zw,Zx,ZJ,ZL];exact ⟨rfl,rfl,rfl,rfl,rfl,rfl,trivial⟩
           · simp only [e,Zw,Zx,ZJ,ZL,ZM,ZR,List.map_nil];exact ZS _ (aj _))
        | (have e:((L).take (i.k+1)).filter (keepM c (sortB t.b))=acc:=by rw [hfs];simp only [keepM, *,Za,Zg,Zf,ZD]
           refine ⟨(⟨i.k+1,hlt,i.A,i.c⟩:FilS (L).length),(by show (L).length-(i.k+1)<(L).length-i.k;omega),ak ?_ ?_ fun _ h=>h⟩
           · simp only [e];exact ⟨rfl,rfl,rfl,rfl,rfl,rfl,trivial⟩
           · simp only [e];exact aj _)
    have hfl:(((L).take i.k).filter (keepM c (sortB t.b))).length≤1000000000:=by
      have h1:=ZZ (keepM c (sortB t.b)) ((L).take i.k)
      have h2:=List.length_take_le i.k (L)
      omega
    have hk:i.k=(L).length:=by omega
    have hfin:membersV c n sc g toL=compB (sortB (((L).take i.k).filter (keepM c (sortB t.b)))):=by rw [hM,hLe,hk,Z6]
    refine dC (hc:=fR hfl) (hX:=fun _ _=>trivial) ?_
    repeat' (first|refine gs ?_|refine gs1 fun _=>?_|fail)
    refine dD (hc:=gl) (hX:=fun _ _=>trivial) ?_
    rintro _ _ X2 ⟨A3,c3,rfl,rfl⟩
    repeat' (first|refine gs ?_|refine gs1 fun _=>?_|fail)
    rw [hfin]
    exact aa (ai rfl rfl) ⟨_,ZT _ (Zq _),A3,c3,rfl,rfl⟩
  case refine_2.refine_1 =>
    refine az (ι:=Kth (limN n c.acts.n)) (fun i=>⟨[(3,.string g),(5,.pointer (some ⟨b5,0,none⟩)),(11,.pointer (some ⟨b11,0,none⟩)),(12,((((circF c.actsL g i.k).map (fun x:Xa=>x.to)).getD (⟨none,0,0⟩:Xh)):Xh).v),(21,.int .i64 sc),(30,.int .i64 (limN n c.acts.n)),(31,.int .i64 i.k)],
      [cel b11 145 [s1.v,s2.v,s3.v,s4.v],cel b5 26 c.cells],fun w=>(XC c w∧Strs w st toL)∧X1 w⟩) (fun i=>limN n c.acts.n-i.k) ⟨0,ZU _⟩ (ak aw (aj _) fun _ h=>h) fun i=>?_
    have hik:=i.hk
    repeat' (first|refine gs ?_|refine gs1 fun _=>?_|(refine gp ?_ ?_<;>intro hx_ this)|fail)
    · have hlt:i.k<limN n c.acts.n:=by omega
      have hltL:i.k<c.actsL.length:=by omega
      have hp':=hp ab
      obtain ⟨x,hx⟩:∃ x,c.actsL[i.k]?=some x:=⟨_,Zc hltL⟩
      have hstep:circF c.actsL g (i.k+1)=bif decide (x.kind=15)&&seqB x.group g then some x else circF c.actsL g i.k:=by simp only [circF,Zl,hx,Z3]
      repeat' (first|refine gs ?_|refine gs1 fun _=>?_|(refine aA (q:=i.k*20) ?_)|(refine aO (cs:=x.cells) (hF:=fun w h=>Acts.get h.1.1.1 hx) ?_)|(refine gp ?_ ?_<;>intro hx_ this)|fail)
      all_goals exact ⟨(⟨i.k+1,hlt⟩:Kth (limN n c.acts.n)),(by show limN n c.acts.n-(i.k+1)<limN n c.acts.n-i.k;omega),ak (by
        have e:circF c.actsL g (i.k+1)=_:=hstep.trans (by simp only [*,Int.reduceEq,Za,Zg,Zf];rfl)
        simp only [e]
        exact ⟨rfl,rfl,rfl,rfl,rfl,rfl,rfl,trivial⟩) (ZS _ (aj _)) fun _ h=>h⟩
    have hk:i.k=limN n c.acts.n:=by omega
    have hLe:listOf c n sc g toL=((circF c.actsL g i.k).map (·.toL)).getD []:=by
      rw [hLo,‹decide (sc=1)=false›,‹decide (sc=2)=true›,hk,hl]
      rfl
    have hmem:∀ x,circF c.actsL g i.k=some x→x∈c.actsL:=fun x hx=>j4 ab hx
    repeat' (first|refine ae (hc:=gO c n) ?_|refine gs ?_|refine gs1 fun _=>?_|(refine gp ?_ ?_<;>intro hx_ this)|fail)
    generalize circF c.actsL g i.k=o at *
    obtain ⟨S,L,hS1,hL1,hSL,hLl⟩:∃ (S:Xh) (L:List ByteArray),(o.map (fun x:Xa=>x.to)).getD (⟨none,0,0⟩:Xh)=S∧(o.map (fun x:Xa=>x.toL)).getD []=L∧(∀ w,(XC c w∧Strs w st toL)∧X1 w→Strs w S L)∧L.length≤1000000:=by
      cases o with
      | none=>exact ⟨_,_,rfl,rfl,fun w _=>aG w 1,by simp⟩
      | some x=>exact ⟨_,_,rfl,rfl,fun w h=>(h.1.1.1.2 x (hmem x rfl)).1,by have h1:=(hc.rng x (hmem x rfl)).to_len;have h2:=hto x (hmem x rfl);show x.toL.length≤1000000;omega⟩
    rw [hL1] at hLe
    rw [hS1]
    refine aK (p:=(S).n=(L).length∧(S).n≤maxLen∧(0<(L).length→(S).p.isSome=true)) (fun w h=>⟨(hSL w h).len_,ZO (Xd.cap (hSL w h)) (Xd.max (hSL w h)),(hSL w h).some_⟩) fun ⟨hSl,hSm,hSp⟩=>?_
    simp only [maxLen] at hSm
    refine bA 9 1 ?_
    refine az (ι:=FilS (L).length) (fun i=>⟨[(5,.pointer (some ⟨b5,0,none⟩)),(11,.pointer (some ⟨b11,0,none⟩)),(15,.slice i.A (((L).take i.k).filter (keepM c (sortB t.b))).length i.c),(54,(S).v),(55,.int .i64 (S).n),(56,.int .i64 i.k)],
      [orow 9 1 (.slice i.A (((L).take i.k).filter (keepM c (sortB t.b))).length i.c) (((L).take i.k).filter (keepM c (sortB t.b))).length ((((L).take i.k).filter (keepM c (sortB t.b))).map encB),cel b11 145 [s1.v,s2.v,s3.v,s4.v],cel b5 26 c.cells],fun w=>(XC c w∧Strs w st toL)∧X1 w⟩) (fun i=>(L).length-i.k) ⟨0,ZU _,none,0⟩ (ak aw (aj _) fun _ h=>h) fun i=>?_
    have hik:=i.hk
    repeat' (first|refine gs ?_|refine gs1 fun _=>?_|(refine gp ?_ ?_<;>intro hx_ this)|fail)
    · have hlt:i.k<(L).length:=by omega
      have hp2:=hSp ab
      have hfs:=dE (p:=(keepM c (sortB t.b))) (L) hlt
      have hfl:(((L).take i.k).filter (keepM c (sortB t.b))).length≤1000000:=by
        have h1:=ZZ (keepM c (sortB t.b)) ((L).take i.k)
        have h2:=List.length_take_le i.k (L)
        omega
      generalize hacc:((L).take i.k).filter (keepM c (sortB t.b))=acc at *
      generalize hxe:(L).getD i.k .empty=x at *
      repeat' (first|(refine ae (hc:=dm s3 (sortB t.b) x) (hX:=fun w h=>(hties w h.2).2.2.1) ?_)|(refine aD (size:=1) (z:=.string ⟨#[]⟩) (news:=[encB x]) (q:=1) rfl rfl rfl rfl (fun _=>At.there _ (At.here _)) (fun w G=>aR G aC rfl rfl 1) ab (by simp only [maxLen];omega) rfl ?_ rfl ?_;(first|with_reducible rfl|with_reducible assumption|with_reducible exact Zj|with_reducible exact Zk);intro A2 c2)|refine gs ?_|refine gs1 fun _=>?_|(refine aA (q:=i.k) ?_)|(refine bm (u:=.string x) (hF:=fun w h=>hxe▸Strs.get (hSL w h) hlt) ?_)|(refine gp ?_ ?_<;>intro hx_ this)|fail)
      all_goals first
        | (have e:((L).take (i.k+1)).filter (keepM c (sortB t.b))=acc++[x]:=by rw [hfs];simp only [keepM, *,Za,Zg,Zf]
           refine ⟨(⟨i.k+1,hlt,A2,c2⟩:FilS (L).length),(by show (L).length-(i.k+1)<(L).length-i.k;omega),ak ?_ ?_ fun _ h=>h⟩
           · simp only [e,Zw,Zx,ZJ,ZL];exact ⟨rfl,rfl,rfl,rfl,rfl,rfl,trivial⟩
           · simp only [e,Zw,Zx,ZJ,ZL,ZM,ZR,List.map_nil];exact ZS _ (aj _))
        | (have e:((L).take (i.k+1)).filter (keepM c (sortB t.b))=acc:=by rw [hfs];simp only [keepM, *,Za,Zg,Zf,ZD]
           refine ⟨(⟨i.k+1,hlt,i.A,i.c⟩:FilS (L).length),(by show (L).length-(i.k+1)<(L).length-i.k;omega),ak ?_ ?_ fun _ h=>h⟩
           · simp only [e];exact ⟨rfl,rfl,rfl,rfl,rfl,rfl,trivial⟩
           · simp only [e];exact aj _)
    have hfl:(((L).take i.k).filter (keepM c (sortB t.b))).length≤1000000000:=by
      have h1:=ZZ (keepM c (sortB t.b)) ((L).take i.k)
      have h2:=List.length_take_le i.k (L)
      omega
    have hk:i.k=(L).length:=by omega
    have hfin:membersV c n sc g toL=compB (sortB (((L).take i.k).filter (keepM c (sortB t.b)))):=by rw [hM,hLe,hk,Z6]
    refine dC (hc:=fR hfl) (hX:=fun _ _=>trivial) ?_
    repeat' (first|refine gs ?_|refine gs1 fun _=>?_|fail)
    refine dD (hc:=gl) (hX:=fun _ _=>trivial) ?_
    rintro _ _ X2 ⟨A3,c3,rfl,rfl⟩
    repeat' (first|refine gs ?_|refine gs1 fun _=>?_|fail)
    rw [hfin]
    exact aa (ai rfl rfl) ⟨_,ZT _ (Zq _),A3,c3,rfl,rfl⟩
  case refine_2.refine_2.refine_1 =>
    have hLe:listOf c n sc g toL=toL:=by
      rw [hLo,‹decide (sc=1)=false›,‹decide (sc=2)=false›,‹decide (sc=3)=true›]
      rfl
    have hSL:∀ w,(XC c w∧Strs w st toL)∧X1 w→Strs w st toL:=fun w h=>h.1.2
    have hLl:=htl
    refine aK (p:=(st).n=(toL).length∧(st).n≤maxLen∧(0<(toL).length→(st).p.isSome=true)) (fun w h=>⟨(hSL w h).len_,ZO (Xd.cap (hSL w h)) (Xd.max (hSL w h)),(hSL w h).some_⟩) fun ⟨hSl,hSm,hSp⟩=>?_
    simp only [maxLen] at hSm
    refine bA 9 1 ?_
    refine az (ι:=FilS (toL).length) (fun i=>⟨[(5,.pointer (some ⟨b5,0,none⟩)),(11,.pointer (some ⟨b11,0,none⟩)),(15,.slice i.A (((toL).take i.k).filter (keepM c (sortB t.b))).length i.c),(54,(st).v),(55,.int .i64 (st).n),(56,.int .i64 i.k)],
      [orow 9 1 (.slice i.A (((toL).take i.k).filter (keepM c (sortB t.b))).length i.c) (((toL).take i.k).filter (keepM c (sortB t.b))).length ((((toL).take i.k).filter (keepM c (sortB t.b))).map encB),cel b11 145 [s1.v,s2.v,s3.v,s4.v],cel b5 26 c.cells],fun w=>(XC c w∧Strs w st toL)∧X1 w⟩) (fun i=>(toL).length-i.k) ⟨0,ZU _,none,0⟩ (ak aw (aj _) fun _ h=>h) fun i=>?_
    have hik:=i.hk
    repeat' (first|refine gs ?_|refine gs1 fun _=>?_|(refine gp ?_ ?_<;>intro hx_ this)|fail)
    · have hlt:i.k<(toL).length:=by omega
      have hp2:=hSp ab
      have hfs:=dE (p:=(keepM c (sortB t.b))) (toL) hlt
      have hfl:(((toL).take i.k).filter (keepM c (sortB t.b))).length≤1000000:=by
        have h1:=ZZ (keepM c (sortB t.b)) ((toL).take i.k)
        have h2:=List.length_take_le i.k (toL)
        omega
      generalize hacc:((toL).take i.k).filter (keepM c (sortB t.b))=acc at *
      generalize hxe:(toL).getD i.k .empty=x at *
      repeat' (first|(refine ae (hc:=dm s3 (sortB t.b) x) (hX:=fun w h=>(hties w h.2).2.2.1) ?_)|(refine aD (size:=1) (z:=.string ⟨#[]⟩) (news:=[encB x]) (q:=1) rfl rfl rfl rfl (fun _=>At.there _ (At.here _)) (fun w G=>aR G aC rfl rfl 1) ab (by simp only [maxLen];omega) rfl ?_ rfl ?_;(first|with_reducible rfl|with_reducible assumption|with_reducible exact Zj|with_reducible exact Zk);intro A2 c2)|refine gs ?_|refine gs1 fun _=>?_|(refine aA (q:=i.k) ?_)|(refine bm (u:=.string x) (hF:=fun w h=>hxe▸Strs.get (hSL w h) hlt) ?_)|(refine gp ?_ ?_<;>intro hx_ this)|fail)
      all_goals first
        | (have e:((toL).take (i.k+1)).filter (keepM c (sortB t.b))=acc++[x]:=by rw [hfs];simp only [keepM, *,Za,Zg,Zf]
           refine ⟨(⟨i.k+1,hlt,A2,c2⟩:FilS (toL).length),(by show (toL).length-(i.k+1)<(toL).length-i.k;omega),ak ?_ ?_ fun _ h=>h⟩
           · simp only [e,Zw,Zx,ZJ,ZL];exact ⟨rfl,rfl,rfl,rfl,rfl,rfl,trivial⟩
           · simp only [e,Zw,Zx,ZJ,ZL,ZM,ZR,List.map_nil];exact ZS _ (aj _))
        | (have e:((toL).take (i.k+1)).filter (keepM c (sortB t.b))=acc:=by rw [hfs];simp only [keepM, *,Za,Zg,Zf,ZD]
           refine ⟨(⟨i.k+1,hlt,i.A,i.c⟩:FilS (toL).length),(by show (toL).length-(i.k+1)<(toL).length-i.k;omega),ak ?_ ?_ fun _ h=>h⟩
           · simp only [e];exact ⟨rfl,rfl,rfl,rfl,rfl,rfl,trivial⟩
           · simp only [e];exact aj _)
    have hfl:(((toL).take i.k).filter (keepM c (sortB t.b))).length≤1000000000:=by
      have h1:=ZZ (keepM c (sortB t.b)) ((toL).take i.k)
      have h2:=List.length_take_le i.k (toL)
      omega
    have hk:i.k=(toL).length:=by omega
    have hfin:membersV c n sc g toL=compB (sortB (((toL).take i.k).filter (keepM c (sortB t.b)))):=by rw [hM,hLe,hk,Z6]
    refine dC (hc:=fR hfl) (hX:=fun _ _=>trivial) ?_
    repeat' (first|refine gs ?_|refine gs1 fun _=>?_|fail)
    refine dD (hc:=gl) (hX:=fun _ _=>trivial) ?_
    rintro _ _ X2 ⟨A3,c3,rfl,rfl⟩
    repeat' (first|refine gs ?_|refine gs1 fun _=>?_|fail)
    rw [hfin]
    exact aa (ai rfl rfl) ⟨_,ZT _ (Zq _),A3,c3,rfl,rfl⟩
  case refine_2.refine_2.refine_2 =>
    have hLe:listOf c n sc g toL=[]:=by
      rw [hLo,‹decide (sc=1)=false›,‹decide (sc=2)=false›,‹decide (sc=3)=false›]
      rfl
    have hSL:∀ w,(XC c w∧Strs w st toL)∧X1 w→Strs w ⟨none,0,0⟩ []:=fun w _=>aG w 1
    have hLl:([]:List ByteArray).length≤1000000:=by simp
    refine aK (p:=((⟨none,0,0⟩:Xh)).n=(([]:List ByteArray)).length∧((⟨none,0,0⟩:Xh)).n≤maxLen∧(0<(([]:List ByteArray)).length→((⟨none,0,0⟩:Xh)).p.isSome=true)) (fun w h=>⟨((show Strs w ⟨none,0,0⟩ [] from aG w 1)).len_,ZO (Xd.cap ((show Strs w ⟨none,0,0⟩ [] from aG w 1))) (Xd.max ((show Strs w ⟨none,0,0⟩ [] from aG w 1))),((show Strs w ⟨none,0,0⟩ [] from aG w 1)).some_⟩) fun ⟨hSl,hSm,hSp⟩=>?_
    simp only [maxLen] at hSm
    refine bA 9 1 ?_
    refine az (ι:=FilS (([]:List ByteArray)).length) (fun i=>⟨[(5,.pointer (some ⟨b5,0,none⟩)),(11,.pointer (some ⟨b11,0,none⟩)),(15,.slice i.A (((([]:List ByteArray)).take i.k).filter (keepM c (sortB t.b))).length i.c),(54,((⟨none,0,0⟩:Xh)).v),(55,.int .i64 ((⟨none,0,0⟩:Xh)).n),(56,.int .i64 i.k)],
      [orow 9 1 (.slice i.A (((([]:List ByteArray)).take i.k).filter (keepM c (sortB t.b))).length i.c) (((([]:List ByteArray)).take i.k).filter (keepM c (sortB t.b))).length ((((([]:List ByteArray)).take i.k).filter (keepM c (sortB t.b))).map encB),cel b11 145 [s1.v,s2.v,s3.v,s4.v],cel b5 26 c.cells],fun w=>(XC c w∧Strs w st toL)∧X1 w⟩) (fun i=>(([]:List ByteArray)).length-i.k) ⟨0,ZU _,none,0⟩ (ak aw (aj _) fun _ h=>h) fun i=>?_
    have hik:=i.hk
    repeat' (first|refine gs ?_|refine gs1 fun _=>?_|(refine gp ?_ ?_<;>intro hx_ this)|fail)
    · have hlt:i.k<(([]:List ByteArray)).length:=by omega
      have hp2:=hSp ab
      have hfs:=dE (p:=(keepM c (sortB t.b))) (([]:List ByteArray)) hlt
      have hfl:(((([]:List ByteArray)).take i.k).filter (keepM c (sortB t.b))).length≤1000000:=by
        have h1:=ZZ (keepM c (sortB t.b)) ((([]:List ByteArray)).take i.k)
        have h2:=List.length_take_le i.k (([]:List ByteArray))
        omega
      generalize hacc:((([]:List ByteArray)).take i.k).filter (keepM c (sortB t.b))=acc at *
      generalize hxe:(([]:List ByteArray)).getD i.k .empty=x at *
      repeat' (first|(refine ae (hc:=dm s3 (sortB t.b) x) (hX:=fun w h=>(hties w h.2).2.2.1) ?_)|(refine aD (size:=1) (z:=.string ⟨#[]⟩) (news:=[encB x]) (q:=1) rfl rfl rfl rfl (fun _=>At.there _ (At.here _)) (fun w G=>aR G aC rfl rfl 1) ab (by simp only [maxLen];omega) rfl ?_ rfl ?_;(first|with_reducible rfl|with_reducible assumption|with_reducible exact Zj|with_reducible exact Zk);intro A2 c2)|refine gs ?_|refine gs1 fun _=>?_|(refine aA (q:=i.k) ?_)|(refine bm (u:=.string x) (hF:=fun w h=>hxe▸Strs.get ((show Strs w ⟨none,0,0⟩ [] from aG w 1)) hlt) ?_)|(refine gp ?_ ?_<;>intro hx_ this)|fail)
      all_goals first
        | (have e:((([]:List ByteArray)).take (i.k+1)).filter (keepM c (sortB t.b))=acc++[x]:=by rw [hfs];simp only [keepM, *,Za,Zg,Zf]
           refine ⟨(⟨i.k+1,hlt,A2,c2⟩:FilS (([]:List ByteArray)).length),(by show (([]:List ByteArray)).length-(i.k+1)<(([]:List ByteArray)).length-i.k;omega),ak ?_ ?_ fun _ h=>h⟩
           · simp only [e,Zw,Zx,ZJ,ZL];exact ⟨rfl,rfl,rfl,rfl,rfl,rfl,trivial⟩
           · simp only [e,Zw,Zx,ZJ,ZL,ZM,ZR,List.map_nil];exact ZS _ (aj _))
        | (have e:((([]:List ByteArray)).take (i.k+1)).filter (keepM c (sortB t.b))=acc:=by rw [hfs];simp only [keepM, *,Za,Zg,Zf,ZD]
           refine ⟨(⟨i.k+1,hlt,i.A,i.c⟩:FilS (([]:List ByteArray)).length),(by show (([]:List ByteArray)).length-(i.k+1)<(([]:List ByteArray)).length-i.k;omega),ak ?_ ?_ fun _ h=>h⟩
           · simp only [e];exact ⟨rfl,rfl,rfl,rfl,rfl,rfl,trivial⟩
           · simp only [e];exact aj _)
    have hfl:(((([]:List ByteArray)).take i.k).filter (keepM c (sortB t.b))).length≤1000000000:=by
      have h1:=ZZ (keepM c (sortB t.b)) ((([]:List ByteArray)).take i.k)
      have h2:=List.length_take_le i.k (([]:List ByteArray))
      omega
    have hk:i.k=(([]:List ByteArray)).length:=by omega
    have hfin:membersV c n sc g toL=compB (sortB (((([]:List ByteArray)).take i.k).filter (keepM c (sortB t.b)))):=by rw [hM,hLe,hk,Z6]
    refine dC (hc:=fR hfl) (hX:=fun _ _=>trivial) ?_
    repeat' (first|refine gs ?_|refine gs1 fun _=>?_|fail)
    refine dD (hc:=gl) (hX:=fun _ _=>trivial) ?_
    rintro _ _ X2 ⟨A3,c3,rfl,rfl⟩
    repeat' (first|refine gs ?_|refine gs1 fun _=>?_|fail)
    rw [hfin]
    exact aa (ai rfl rfl) ⟨_,ZT _ (Zq _),A3,c3,rfl,rfl⟩
theorem iU (c:Xb) (hc:Xr c.actsL) (hcl:c.actsL.length≤1000000) (hto:∀ x∈c.actsL,x.to.n≤1000000) (n sc:Int) (g:ByteArray) (st:Xh) (toL:List ByteArray) (htl:toL.length≤1000000) :
  Mk prog 44 #[c.v,.int .i64 n,.int .i64 sc,.string g,st.v] (fun w=>XC c w∧Strs w st toL) (StrsAt (membersV c n sc g toL)):=pb (mV c hc hcl hto n sc g st toL htl)
def postK (k:Int):Bool:=decide (k=1)||decide (k=2)||decide (k=3)
theorem iP (k:Int):Pu prog 47 #[.int .i64 k] (fun _=>True) (.bool (postK k)):=by
 refine ax func47 ntmps47 fun av bor w0=>?_
 repeat' (first|refine gs ?_|(refine gp ?_ ?_<;>intro hx_ this)|fail)
 all_goals
  apply aa;apply ai;rfl;rfl
  simp only [postK, *,Za,Zg,Zf]
def ChBox (c:Xb) (b:Nat) (w:World):Prop:=w.heap[b]?=some (.cells c.cells.toArray 26 (0,0))
theorem ChBox.cell {c:Xb} {b:Nat} {w:World} (h:ChBox c b w):∀ j v,c.cells[j]?=some v→w.cell? ⟨b,j,none⟩=some v:=fun j v hj=>by
 simp [World.cell?,show w.heap[b]?=_ from h,hj]
def freshV (c:Xb) (n sc:Int) (g:ByteArray) (toL:List ByteArray):Bool:=!((epochO c.actsL n sc g).isSome)||!(eqL (((epochO c.actsL n sc g).map (·.toL)).getD []) (membersV c n sc g toL))
def wellA (c:Xb) (i:Int) (a:Xa):Bool:=(postK a.kind||decide (a.kind=14))&&(decide (a.scope=1)||decide (a.scope=2)||decide (a.scope=3))&&(match epochO c.actsL i a.scope a.group with
 | some e=>decide (e.epoch=a.epoch)&&eqL e.toL (membersV c i a.scope a.group a.toL)
 | none=>false)
def wellV (c:Xb) (i:Int):Bool:=decide (0≤i)&&(match c.actsL[i.toNat]? with
 | some a=>wellA c i a
 | none=>false)
end Go.Proofs.YtamfbppnlomgfaaGreatDoor
namespace Go.Proofs.YtamfbppnlomgfaaGreatDoor.Sy
open Go Go.RowKit
def fen (ρ:Option Nat):Fence:={ Fence.wide with round:=ρ }
def isDefer:Op→Bool
 | .defer _=>true
 | _=>false
section
variable {P:Program} {N:Nat} {av bor:List Nat} {w0:World} {ops:Array Oper} {st:St}
theorem sv {ρ:Option Nat} {n:Nat} {row:String} {args:Array Value} {w:World} {R:Value→World→Prop} (h:Rows P row args w R):RowsIn (fen ρ) n P row args w R:=fun c cs _=>by
 obtain ⟨v,w',r,s⟩:=h c cs
 exact ⟨v,w',r,stepsIn_wide.2 s⟩
theorem rM {ρ:Option Nat} {n:Nat} {f:FuncId} {args:Array Value} {w:World} {R:Ending→World→Prop} (h:Calls P f args w R):CallsIn (fen ρ) n P f args w R:=(callsIn_wide (n:=n)).2 h
theorem nw {ρ:Option Nat} {n:Nat} {o:Oper} {a:Act} {w:World} {K K':Act→World→Prop} {k k':St→Prop} (hd:isDefer o.op=false) (hK:∀ a w,K a w→K' a w)
  (h:o.wp P a w K (post N av bor w0 (only k'))):o.wpIn (fen ρ) n P a w K' (post N av bor w0 (only k)):=by
 refine ⟨fun _ _=>trivial,?_⟩
 rw [Oper.semAt_plain _ _ _ (fun c e=>by rw [e] at hd;cases hd)]
 unfold Oper.wp at h
 generalize (execOp a.eval o).run P w=r at *
 cases r with
 | ok nx w' =>
  cases nx<;>simp only [Oper.upon] at h<;>simp only [Oper.uponIn]
  case value u=>exact hK _ _ h
  case skip=>exact hK _ _ h
  case defer d=>exact hK _ _ h
  case enter f args =>
   refine ⟨(fun hh=>by cases hh),?_⟩
   refine rM (Calls.mono h ?_)
   intro e w'' he
   cases e with
   | returned v=>exact hK _ _ he
   | panicked c=>exact (he:False).elim
   | outgrown=>obtain ⟨_,_,h⟩:=he;exact (h:False).elim
  case row row args =>
   refine ⟨(fun hh=>by cases hh),?_⟩
   exact sv (Rows.mono h fun u w'' he=>hK _ _ he)
 | halt x w'=>cases x<;>simp only [Oper.upon] at h<;>exact (h:False).elim
theorem f0 {ρ:Option Nat} {n:Nat} {k k':St→Prop} {rest:List Oper} (hr:∀ a w,post N av bor w0 (only k') .normal a w→wpListIn (fen ρ) n P ops (post N av bor w0 (only k)) rest a w):∀ (todo:List Oper) (a:Act) (w:World),todo.all (fun o=>!isDefer o.op)=true →
  wpList P ops (post N av bor w0 (only k')) todo a w→wpListIn (fen ρ) n P ops (post N av bor w0 (only k)) (todo++rest) a w
 | [],a,w,_,h=>hr a w h
 | o::l,a,w,hd,h=>by
  simp only [List.all_cons,Zm,Bool.not_eq_true'] at hd
  simp only [wpList] at h
  simp only [List.cons_append,wpListIn]
  split
  · rename_i hw
    simp only [hw,ZF] at h
    rcases h with h|⟨_,_,_,h⟩
    · exact nw hd.1 (fun a w h=>f0 hr l a w hd.2 h) h
    · exact (h:False).elim
  · rename_i hw
    simp only [hw] at h
    exact ⟨fun _ _=>trivial,f0 hr l _ _ hd.2 h⟩
theorem nS {ρ:Option Nat} {n:Nat} {k:St→Prop} (todo:List Oper) (a:Act) (w:World) (hd:todo.all (fun o=>!isDefer o.op)=true)
  (h:wpList P ops (post N av bor w0 (only k)) todo a w):wpListIn (fen ρ) n P ops (post N av bor w0 (only k)) todo a w:=by
 have:=f0 (ρ:=ρ) (n:=n) (k:=k) (rest:=[]) (fun a w h=>h) todo a w hd h
 rwa [ZD] at this
theorem kY {ρ:Option Nat} {n:Nat} {k:St→Prop} (hd:ops.toList.all (fun o=>!isDefer o.op)=true):∀ (fuel:Nat) (listed:Array Bool) (a:Act) (w:World),
  wpAny P .any ops (post N av bor w0 (only k)) fuel listed a w→wpAnyIn (fen ρ) n P .any ops (post N av bor w0 (only k)) fuel listed a w
 | 0,listed,a,w,h=>h
 | fuel+1,listed,a,w,h=>by
  refine ⟨h.1,fun i hi=>?_⟩
  have h1:=h.2 i hi
  unfold wpOp at h1
  unfold wpOpIn
  split
  · rename_i ho
    simp only [ho] at h1
    exact kY hd fuel _ _ _ h1
  · rename_i o ho
    simp only [ho] at h1
    have hdo:isDefer o.op=false:=by
     have:=List.all_eq_true.1 hd o (by rw [←Array.mem_def];exact Array.mem_of_getElem? ho)
     simpa using this
    split
    · rename_i hw
      simp only [hw,ZF] at h1
      rcases h1 with h1|⟨_,_,_,h1⟩
      · exact nw hdo (fun a w h=>kY hd fuel _ a w h) h1
      · exact h1.elim
    · rename_i hw
      simp only [hw] at h1
      exact ⟨fun _ _=>trivial,kY hd fuel _ _ _ h1⟩
end
def Cr (P:Program) (N:Nat) (av bor:List Nat) (w0:World) (l:Nat) (c:Code) (st:St) (K:Exit→St→Prop):Prop :=
 ∀ n a w,Ok N av bor w0 st a w→c.wpIn (fen (some l)) n P (post N av bor w0 K) a w
theorem Cr.mk {P:Program} {N:Nat} {av bor:List Nat} {w0:World} {l:Nat} {c:Code} {st:St} {K:Exit→St→Prop} (h:∀ n a w,Ok N av bor w0 st a w→c.wpIn (fen (some l)) n P (post N av bor w0 K) a w):Cr P N av bor w0 l c st K:=h
theorem Cr.run {P:Program} {N:Nat} {av bor:List Nat} {w0:World} {l:Nat} {c:Code} {st:St} {K:Exit→St→Prop} (h:Cr P N av bor w0 l c st K):∀ n a w,Ok N av bor w0 st a w→c.wpIn (fen (some l)) n P (post N av bor w0 K) a w:=h
namespace Rd
section
variable {P:Program} {N:Nat} {av bor:List Nat} {w0:World} {l:Nat} {st:St} {K:Exit→St→Prop} {E:Env} {loc:List Xi} {X:World→Prop}
theorem QD (h:K .normal st):Cr P N av bor w0 l .skip st K:=fun n a w ok=>wpIn_skip ⟨st,h,ok⟩
theorem cw_ret (h:K .ret st):Cr P N av bor w0 l .ret st K:=fun n a w ok=>wpIn_ret ⟨st,h,ok⟩
theorem cw_exit {id:Nat} (h:K (.exit id) st):Cr P N av bor w0 l (.exit id) st K:=fun n a w ok=>wpIn_exit ⟨st,h,ok⟩
theorem QA {x y:Code} (h:Cr P N av bor w0 l x st (thn (fun s=>Cr P N av bor w0 l y s K) K)):Cr P N av bor w0 l (.seq x y) st K:=fun n a w ok =>
 wpIn_seq (wpIn_mono (h n a w ok) (fun e a w q=>by
  cases e with
  | panic _=>exact q
  | outgrown=>exact q
  | normal=>obtain ⟨s,h1,h2⟩:=q;exact h1 n a w h2
  | exit _=>exact q
  | goto _=>exact q
  | ret=>exact q))
theorem cw_cond {c:Operand} {x y:Code} {b:Bool} (hc:ev st.env c=some (.bool b):=by rfl) (ht:b=true→Cr P N av bor w0 l x st K) (hf:b=false→Cr P N av bor w0 l y st K) :
  Cr P N av bor w0 l (.cond c x y) st K:=fun n a w ok=>wpIn_cond_split (ok.eval hc) (fun h=>ht h n a w ok) (fun h=>hf h n a w ok)
theorem QE {c:Operand} {x y:Code} {b:Bool} (hc:ev st.env c=some (.bool b):=by rfl) (hb:b=true:=by exact ay) (ht:Cr P N av bor w0 l x st K) :
  Cr P N av bor w0 l (.cond c x y) st K:=cw_cond hc (fun _=>ht) (fun h=>by rw [hb] at h;cases h)
theorem QF {c:Operand} {x y:Code} {b:Bool} (hc:ev st.env c=some (.bool b):=by rfl) (hb:b=false:=by exact ay) (hf:Cr P N av bor w0 l y st K) :
  Cr P N av bor w0 l (.cond c x y) st K:=cw_cond hc (fun h=>by rw [hb] at h;cases h) (fun _=>hf)
theorem QC {id:Nat} {c:Code} (h:Cr P N av bor w0 l c st (blk id K)):Cr P N av bor w0 l (.block id c) st K:=fun n a w ok =>
 wpIn_block (wpIn_mono (h n a w ok) (fun e a w q=>by
  cases e with
  | panic _=>exact q
  | outgrown=>exact q
  | normal=>exact q
  | exit id' =>
   obtain ⟨s,h1,h2⟩:=q
   by_cases hi:id'=id
   · simp only [blk,hi,ZF] at h1
     simp only [Exit.inBlock,hi,ZF]
     exact ⟨s,h1,h2⟩
   · simp only [blk,hi,if_false] at h1
     simp only [Exit.inBlock,hi,if_false]
     exact ⟨s,h1,h2⟩
  | goto _=>exact q
  | ret=>exact q))
theorem reg_post {k:St→Prop} {e:Exit} {a:Act} {w:World} (hk:∀ s,k s→K .normal s) (h:post N av bor w0 (only k) e a w):post N av bor w0 K e a w:=by
 cases e with
 | panic _=>exact h
 | outgrown=>exact h
 | normal=>obtain ⟨s,h1,h2⟩:=h;exact ⟨s,hk s h1,h2⟩
 | exit _=>obtain ⟨s,h1,h2⟩:=h;exact h1.elim
 | goto _=>obtain ⟨s,h1,h2⟩:=h;exact h1.elim
 | ret=>obtain ⟨s,h1,h2⟩:=h;exact h1.elim
theorem QB {id:Nat} {ol:List Oper} (hno:ol.all (fun o=>!isDefer o.op)=true:=by rfl) (h:Sw P N av bor w0 ol.toArray ol st (K .normal)):Cr P N av bor w0 l (.region id ol.toArray false) st K:=fun n a w ok =>
 wpIn_mono (wpIn_region_lit (nS ol a w hno (h.run a w ok))) fun e a w q=>reg_post (fun _ h=>h) q
theorem iv {id:Nat} {ol:List Oper} (loc0:List Xi) (X0:World→Prop) (hm:P.follows .mixedOrders=true) (hno:ol.all (fun o=>!isDefer o.op)=true:=by rfl) (h:Aw P N av bor w0 loc0 X0 ol.toArray ol.length (Array.replicate ol.length false) ⟨E,loc,X⟩ (K .normal)) :
  Cr P N av bor w0 l (.region id ol.toArray true) ⟨E,loc,X⟩ K:=fun n a w ok=>by
 have h1:=h.run a w.drew (ok.via fun M G=>G.drew)
 have h2:=wpAny_of_held _ _ _ _ h1
 exact wpIn_mono (wpIn_region_any hm (kY (ρ:=some l) (n:=n) (by simpa using hno) _ _ _ _ (by simpa using h2))) fun e a w q=>reg_post (fun _ h=>h) q
end
end Rd
def YCt (P:Program) (l:Nat) (args:List Value) (pre:List Xi) (X:World→Prop) (Post:Value→List Xi→(World→Prop)→Prop):Prop :=
 ∀ (n:Nat) (w:World) (av:List Nat),Xn av (fps pre) w pre X w→YieldAt Fence.wide n P l args.toArray w fun e w'=>∃ v R X',e=.returned v∧Post v R X'∧Xn av (fps pre) w R X' w'
def Sv (P:Program) (N:Nat) (av bor:List Nat) (w0:World) (ops:Array Oper) (todo:List Oper) (st:St) (k:St→Prop):Prop :=
 ∀ n a w,Ok N av bor w0 st a w→wpListIn Fence.wide n P ops (post N av bor w0 (only k)) todo a w
section
variable {P:Program} {N:Nat} {av bor:List Nat} {w0:World} {ops:Array Oper} {rest:List Oper} {k:St→Prop} {E:Env} {loc:List Xi} {X:World→Prop} {K:Exit→St→Prop}
variable {d:Option Tmp} {ty:TypeId} {pos:String} {af:Array Edge} {g:Option (Nat×Bool)} {bb want:Bool}
theorem dR (hno:rest.all (fun o=>!isDefer o.op)=true) (h:Sw P N av bor w0 ops rest ⟨E,loc,X⟩ k):Sv P N av bor w0 ops rest ⟨E,loc,X⟩ k:=fun n a w ok=>nS (ρ:=none) rest a w hno (h.run a w ok)
theorem kQ {id:Nat} {ol:List Oper} {st:St} (h:Sv P N av bor w0 ol.toArray ol st (K .normal)):Cw P N av bor w0 (.region id ol.toArray false) st K:=Cw.mk fun a w ok =>
 (wpIn_wide (n:=0)).1 (wpIn_mono (wpIn_region_lit (h 0 a w ok)) fun e a w q=>Rd.reg_post (fun _ h=>h) q)
theorem mE (pre:List Oper) {st:St} (hno:pre.all (fun o=>!isDefer o.op)=true) (h:Sw P N av bor w0 ops pre st (fun s=>Sv P N av bor w0 ops rest s k)):Sv P N av bor w0 ops (pre++rest) st k:=fun n a w ok =>
 f0 (ρ:=none) (fun a w ⟨s,h1,h2⟩=>h1 n a w h2) pre a w hno (h.run a w ok)
theorem ku {x:Operand} {xs:List Operand} {ats:Array TypeId} {l:Nat} {args:List Value} {pre fr:List Xi} {X1:World→Prop} {Post:Value→List Xi→(World→Prop)→Prop}
  (hx:ev E x=some (.func (.yield l) #[] #[])) (ha:evs E xs=some args) (hg:gdB ops E g=some (bb,want)) (hb:bb=want) (hd:inB N d=true) (hc:YCt P l args pre X1 Post) (hX:∀ w,X w→X1 w)
  (h:∀ v R X',Post v R X'→Sv P N av bor w0 ops rest ⟨putE E d v,R++fr,fun w=>X w∧X' w⟩ k) :
  Sv P N av bor w0 ops (⟨d,.call ⟨.value x,xs.toArray,ats⟩,ty,pos,af,g⟩::rest) ⟨E,pre++fr,X⟩ k:=fun m a w ok=>by
 simp only [wpListIn]
 rw [aM ok (o:=⟨d,.call ⟨.value x,xs.toArray,ats⟩,ty,pos,af,g⟩) hg]
 subst hb
 simp only [Zv,ZF]
 refine ⟨fun _ _=>trivial,?_⟩
 obtain ⟨av',G0,hback⟩:=ok.call
 obtain ⟨fn,tmps,assign,body,hy,hR⟩:=hc (m-1) w av' (G0.imp hX)
 have e1:xs.toArray.map a.eval=args.toArray:=by rw [List.map_toArray,eU ok xs args ha]
 have hr:(execOp a.eval ⟨d,.call ⟨.value x,xs.toArray,ats⟩,ty,pos,af,g⟩).run P w=.ok (.round l fn tmps assign body) w:=by
  simp only [execOp,resolve,ok.eval (st:=⟨E,pre++fr,X⟩) hx,Deferred.ofValue,invoke,e1]
  simp only [Sem.run_bind,Sem.run_pure,Result.andThen_ok]
  simpa using hy
 rw [Fence.wide_round,Oper.semAt_none,hr]
 simp only [Oper.uponIn]
 refine ⟨(fun hh=>by cases hh),?_⟩
 refine hR.mono ?_
 rintro e w' ⟨v,R,X',he,hp,G'⟩
 subst he
 have ok':=hback R X' w' G'
 exact h v R X' hp m _ _ (bw d v▸ok'.put hd v)
end
def putEs (E:Env):List Tmp→List Value→Env
 | p::ps,v::vs=>putEs ((p,v)::E) ps vs
 | _,_=>E
theorem l5 {N:Nat}:∀ (ps:List Tmp) (vs:List Value) (E:Env) (t:Array Value),ps.all (fun p=>Nat.blt p N)=true→t.size=N→(∀ n v,look E n=some v→t[n]?=some v) →
  ((ps.zip vs).foldl (fun t (p:Tmp×Value)=>t.setIfInBounds p.1 p.2) t).size=N∧∀ n v,look (putEs E ps vs) n=some v→((ps.zip vs).foldl (fun t (p:Tmp×Value)=>t.setIfInBounds p.1 p.2) t)[n]?=some v
 | [],vs,E,t,_,hs,h=>⟨by simpa using hs,fun n v hn=>by simpa [putEs] using h n v (by simpa [putEs] using hn)⟩
 | p::ps,[],E,t,_,hs,h=>⟨by simpa using hs,fun n v hn=>by simpa [putEs] using h n v (by simpa [putEs] using hn)⟩
 | p::ps,v::vs,E,t,hp,hs,h=>by
  simp only [List.all_cons,Zm] at hp
  simp only [List.zip_cons_cons,Qq,putEs]
  refine l5 ps vs ((p,v)::E) _ hp.2 (by simpa using hs) fun n u hn=>?_
  have hlt:p<t.size:=by rw [hs];exact Zt hp.1
  simp only [look] at hn
  by_cases e:n=p
  · subst e
    have hb:Nat.beq n n=true:=by simp
    rw [hb] at hn
    simp only [Zg,ZE] at hn
    subst hn
    simp [hlt]
  · rw [kV e] at hn
    simp only [Zf] at hn
    rw [Array.getElem?_setIfInBounds_ne (Ne.symm e)]
    exact h n u hn
theorem kX {r r':Xi}:∀ (L:List Xi),At r r' (L++[r]) (L++[r'])
 | []=>.here []
 | x::L=>.there x (kX L)
section
variable {P:Program} {N:Nat} {av bor:List Nat} {w0:World} {E:Env} {loc:List Xi} {X:World→Prop} {K:Exit→St→Prop}
def lres (l:Nat) (r:Loop):Xi:=⟨[l],fun w=>w.heap[l]?=some (.loop r)⟩
end
end Go.Proofs.YtamfbppnlomgfaaGreatDoor.Sy
namespace Go.Proofs.YtamfbppnlomgfaaGreatDoor
open Go Go.Proofs Sy Go.RowKit Go.Deep Go.ChangeShapes Tryz
section
variable {H:Type} {enc:TypeId×Value→H} {P:Program} {w:World} {base:Nat} {spare:Nat→Bool} {held:Bool}
theorem aQ {t:TypeId} {fs:Array Field} {fuel:Nat} {cs:List Value} {x:DataW H×List MemPlace} (ht:P.underlying t=some (.struct fs)) (h:DataW.trod enc P w base spare held fuel t cs=some x) {i:Nat} {f:Field} (hf:fs[i]?=some f) {off k:Nat} {t':TypeId} (ho:f.offset=off) (htt:f.type=t') (hk:P.cellsOf t'=k) :
  ∃ n y,DataW.trod enc P w base spare held n t' ((cs.drop off).take k)=some y:=by
 obtain ⟨xs,n,_,_,_,hlen,hg⟩:=DataW.trod_struct ht h
 have h1:=hg i f hf
 have hi:i<fs.size:=(Qv.1 hf).1
 subst ho;subst htt;subst hk
 rw [Zc (by omega)] at h1
 exact ⟨n,_,h1⟩
theorem fg {α:Type} [Inhabited α] {t e:TypeId} {size fuel:Nat} {cs:List Value} {x:DataW H×List MemPlace} (ht:P.underlying t=some (.slice e)) (hc:P.cellsOf e=size) (cells:α→List Value) (Q:α→Prop)
  (each:∀ n cs y,DataW.trod enc P w base spare held n e cs=some y→∃ a,cs=cells a∧Q a) (h:DataW.trod enc P w base spare held fuel t cs=some x) :
  ∃ (s:Xh) (l:List α),cs=[s.v]∧Xd w size s (l.map cells)∧∀ a∈l,Q a:=by
 rcases open_slice ht h with ⟨rfl,_⟩|⟨a,len,cap,m,n,D,Pl,rfl,hb,hl,hm,hmm,hx,hi⟩
 · exact ⟨⟨none,0,0⟩,[],rfl,aG w size,by simp⟩
 · have hlm:len≤m:=by rw [hmm];split<;>omega
   have h1:∀ i,i<len→∃ z:α,w.cells? base (a.add (i*size)) size=some (cells z)∧Q z:=fun i hil=>by
    obtain ⟨cs',h2,h3⟩:=hi i ab
    obtain ⟨z,rfl,hz⟩:=each _ _ _ h3
    rw [hc] at h2
    exact ⟨z,h2,hz⟩
   obtain ⟨F,hF⟩:=choose_lt h1
   refine ⟨⟨some a,len,cap⟩,(List.range len).map F,rfl,⟨by simp,hl,hm,fun i cs' hcs=>?_⟩,fun z hz=>?_⟩
   · simp only [ZQ,ZX] at hcs
     have hil:i<len:=by
      cases hr:(List.range len)[i]? with
      | none=>rw [hr] at hcs;cases hcs
      | some k=>have:=(Qu.1 hr).1;simpa using this
     rw [List.getElem?_range hil] at hcs
     simp only [Option.map_some,Function.comp_apply,ZE] at hcs
     subst hcs
     obtain ⟨_,hlen,hat⟩:=World.cells?_some (hF i hil).1
     refine ⟨hlen,rfl,fun j u hj=>⟨rfl,fun a' ha'=>?_⟩⟩
     obtain rfl:a=a':=Option.some.inj ha'
     rw [←Go.Deep.add_add,hat j (by rw [←hlen];exact (Qu.1 hj).1),hj]
   · simp only [Qt,List.mem_range] at hz
     obtain ⟨i,hil,rfl⟩:=hz
     exact (hF i hil).2
theorem CellAt.keep {w':World} {p:Option Addr} {q:Nat} {u:Value} (h:CellAt w p q u) (hs:∀ k,k<w.heap.size→w'.heap[k]?=w.heap[k]?):CellAt w' p q u:=⟨h.1,fun a ha=>by
 have h1:=h.2 a ha
 have h2:(a.add q).block<w.heap.size:=by
  cases hh:w.heap[(a.add q).block]? with
  | none=>simp [World.cell?,hh] at h1
  | some o=>exact (Qv.1 hh).1
 rw [World.cell?_of_block (w:=w) (hs _ h2),h1]⟩
theorem Xd.keep {w':World} {size:Nat} {s:Xh} {xs:List (List Value)} (h:Xd w size s xs) (hs:∀ k,k<w.heap.size→w'.heap[k]?=w.heap[k]?):Xd w' size s xs :=
 ⟨h.len,h.cap,h.max,fun i cs hi=>⟨(h.row i cs hi).1,(h.row i cs hi).2.1,fun j u hj=>CellAt.keep ((h.row i cs hi).2.2 j u hj) hs⟩⟩
theorem CellsAt.keep {w':World} {g:Nat} {l:List Value} (h:CellsAt g l w) (hs:∀ k,k<w.heap.size→w'.heap[k]?=w.heap[k]?):CellsAt g l w':=fun j v hj=>by
 have h1:=h j v hj
 have h2:g<w.heap.size:=by
  cases hh:w.heap[g]? with
  | none=>simp [World.cell?,hh] at h1
  | some o=>exact (Qv.1 hh).1
 rw [World.cell?_of_block (w:=w) (a:=⟨g,j,none⟩) (hs _ h2),h1]
theorem XC.keep {w':World} {c:Xb} (h:XC c w) (hs:∀ k,k<w.heap.size→w'.heap[k]?=w.heap[k]?):XC c w' :=
 ⟨⟨Xd.keep h.1.1 hs,fun a ha=>⟨Xd.keep (h.1.2 a ha).1 hs,Xd.keep (h.1.2 a ha).2 hs⟩⟩,⟨h.2.ini.keep hs,h.2.k.keep hs⟩⟩
theorem tC {n:Int} (h:(Lit.int .i64 n).wf=true):n<9223372036854775808:=by have:=(Go.bounds_i64 h).2;omega
theorem aS {fuel:Nat} {cs:List Value} {x:DataW H×List MemPlace} (h:DataW.trod enc prog w base spare held fuel 3 cs=some x):∃ n:Int,cs=[.int .i64 n]∧n<9223372036854775808:=by
 obtain ⟨n,h1,_,h3⟩:=DataW.trod_int underlying3 h
 exact ⟨n,h1,tC h3⟩
theorem bz {fuel:Nat} {cs:List Value} {x:DataW H×List MemPlace} (h:DataW.trod enc prog w base spare held fuel 9 cs=some x):∃ s:ByteArray,cs=[.string s]∧s.size≤maxLen:=by
 obtain ⟨s,h1,_,h3⟩:=DataW.trod_string underlying9 h
 exact ⟨s,h1,h3⟩
theorem mR {fuel:Nat} {cs:List Value} {x:DataW H×List MemPlace} (h:DataW.trod enc prog w base spare held fuel 4 cs=some x):∃ b:Bool,cs=[.bool b]:=by
 obtain ⟨b,h1,_⟩:=DataW.trod_bool underlying4 h
 exact ⟨b,h1⟩
theorem kD {fuel:Nat} {cs:List Value} {x:DataW H×List MemPlace} (h:DataW.trod enc prog w base spare held fuel 29 cs=some x):∃ (s:Xh) (l:List ByteArray),cs=[s.v]∧Strs w s l:=by
 obtain ⟨s,l,h1,h2,_⟩:=fg (α:=ByteArray) underlying29 (size:=1) ac (fun s=>[.string s]) (fun _=>True) (fun n cs y hy=>by obtain ⟨s,h1,_⟩:=bz hy;exact ⟨s,h1,trivial⟩) h
 exact ⟨s,l,h1,h2⟩
theorem eO {t:TypeId} {fs:Array Field} {P:Program} {fuel k:Nat} {cs:List Value} {x:DataW H×List MemPlace} (ht:P.underlying t=some (.struct fs)) (hk:P.cellsOf t=k) (h:DataW.trod enc P w base spare held fuel t cs=some x):cs.length=k:=by
 obtain ⟨xs,n,_,_,h1,_,_⟩:=DataW.trod_struct ht h
 rw [h1,hk]
theorem lD {fuel:Nat} {cs:List Value} {x:DataW H×List MemPlace} (h:DataW.trod enc prog w base spare held fuel 31 cs=some x):∃ b:Xo,cs=b.cells:=by
 have hl:=eO underlying31 (k:=3) ac h
 obtain ⟨n0,y0,h0⟩:=aQ (i:=0) (off:=0) (k:=1) (t':=9) underlying31 h rfl rfl rfl ac
 obtain ⟨n1,y1,h1⟩:=aQ (i:=1) (off:=1) (k:=1) (t':=9) underlying31 h rfl rfl rfl ac
 obtain ⟨n2,y2,h2⟩:=aQ (i:=2) (off:=2) (k:=1) (t':=9) underlying31 h rfl rfl rfl ac
 match cs,hl with
 | [c0,c1,c2],_ =>
  obtain ⟨s0,e0,_⟩:=bz h0
  obtain ⟨s1,e1,_⟩:=bz h1
  obtain ⟨s2,e2,_⟩:=bz h2
  simp at e0 e1 e2
  exact ⟨⟨s0,s1,s2⟩,by rw [e0,e1,e2];rfl⟩
theorem o5 {fuel:Nat} {cs:List Value} {x:DataW H×List MemPlace} (h:DataW.trod enc prog w base spare held fuel 47 cs=some x):∃ b:Xk,cs=b.cells∧b.to<9223372036854775808∧b.eph<9223372036854775808:=by
 have hl:=eO underlying47 (k:=5) ac h
 obtain ⟨n0,y0,h0⟩:=aQ (i:=0) (off:=0) (k:=1) (t':=3) underlying47 h rfl rfl rfl ac
 obtain ⟨n1,y1,h1⟩:=aQ (i:=1) (off:=1) (k:=1) (t':=3) underlying47 h rfl rfl rfl ac
 obtain ⟨n2,y2,h2⟩:=aQ (i:=2) (off:=2) (k:=3) (t':=31) underlying47 h rfl rfl rfl ac
 match cs,hl with
 | [c0,c1,c2,c3,c4],_ =>
  obtain ⟨s0,e0,b0⟩:=aS h0
  obtain ⟨s1,e1,b1⟩:=aS h1
  obtain ⟨s2,e2⟩:=lD h2
  simp [Xo.cells] at e0 e1 e2
  exact ⟨⟨s0,s1,s2⟩,by simp [Xk.cells,e0,e1,e2],b0,b1⟩
theorem mO {fuel:Nat} {cs:List Value} {x:DataW H×List MemPlace} (h:DataW.trod enc prog w base spare held fuel 32 cs=some x):∃ (s:Xh) (l:List Xk),cs=[s.v]∧Wraps w s l∧∀ b∈l,b.to<9223372036854775808∧b.eph<9223372036854775808:=by
 haveI:Inhabited Xk:=⟨⟨0,0,Xo.zero⟩⟩
 exact fg (α:=Xk) underlying32 (size:=5) ac Xk.cells _ (fun n cs y hy=>o5 hy) h
theorem qR {fuel:Nat} {cs:List Value} {x:DataW H×List MemPlace} (h:DataW.trod enc prog w base spare held fuel 34 cs=some x):∃ e s:Int,cs=[.int .i64 e,.int .i64 s]∧e<9223372036854775808∧s<9223372036854775808:=by
 have hl:=eO underlying34 (k:=2) ac h
 obtain ⟨n0,y0,h0⟩:=aQ (i:=0) (off:=0) (k:=1) (t':=3) underlying34 h rfl rfl rfl ac
 obtain ⟨n1,y1,h1⟩:=aQ (i:=1) (off:=1) (k:=1) (t':=3) underlying34 h rfl rfl rfl ac
 match cs,hl with
 | [c0,c1],_ =>
  obtain ⟨s0,e0,b0⟩:=aS h0
  obtain ⟨s1,e1,b1⟩:=aS h1
  simp at e0 e1
  exact ⟨s0,s1,by rw [e0,e1],b0,b1⟩
theorem qT {fuel:Nat} {cs:List Value} {x:DataW H×List MemPlace} (h:DataW.trod enc prog w base spare held fuel 36 cs=some x):∃ a:Xa,cs=a.cells∧a.at_ w∧a.Rng∧a.target.size≤maxLen:=by
 have hl:=eO underlying36 (k:=20) ac h
 obtain ⟨n0,y0,h0⟩:=aQ (i:=0) (off:=0) (k:=1) (t':=9) underlying36 h rfl rfl rfl ac
 obtain ⟨n1,y1,h1⟩:=aQ (i:=1) (off:=1) (k:=1) (t':=3) underlying36 h rfl rfl rfl ac
 obtain ⟨n2,y2,h2⟩:=aQ (i:=2) (off:=2) (k:=1) (t':=9) underlying36 h rfl rfl rfl ac
 obtain ⟨n3,y3,h3⟩:=aQ (i:=3) (off:=3) (k:=1) (t':=3) underlying36 h rfl rfl rfl ac
 obtain ⟨n4,y4,h4⟩:=aQ (i:=4) (off:=4) (k:=1) (t':=3) underlying36 h rfl rfl rfl ac
 obtain ⟨n5,y5,h5⟩:=aQ (i:=5) (off:=5) (k:=1) (t':=9) underlying36 h rfl rfl rfl ac
 obtain ⟨n6,y6,h6⟩:=aQ (i:=6) (off:=6) (k:=1) (t':=9) underlying36 h rfl rfl rfl ac
 obtain ⟨n7,y7,h7⟩:=aQ (i:=7) (off:=7) (k:=1) (t':=3) underlying36 h rfl rfl rfl ac
 obtain ⟨n8,y8,h8⟩:=aQ (i:=8) (off:=8) (k:=1) (t':=9) underlying36 h rfl rfl rfl ac
 obtain ⟨n9,y9,h9⟩:=aQ (i:=9) (off:=9) (k:=1) (t':=29) underlying36 h rfl rfl rfl ac
 obtain ⟨n10,y10,h10⟩:=aQ (i:=10) (off:=10) (k:=1) (t':=9) underlying36 h rfl rfl rfl ac
 obtain ⟨n11,y11,h11⟩:=aQ (i:=11) (off:=11) (k:=3) (t':=31) underlying36 h rfl rfl rfl ac
 obtain ⟨n12,y12,h12⟩:=aQ (i:=12) (off:=14) (k:=1) (t':=3) underlying36 h rfl rfl rfl ac
 obtain ⟨n13,y13,h13⟩:=aQ (i:=13) (off:=15) (k:=1) (t':=32) underlying36 h rfl rfl rfl ac
 obtain ⟨n14,y14,h14⟩:=aQ (i:=14) (off:=16) (k:=1) (t':=3) underlying36 h rfl rfl rfl ac
 obtain ⟨n15,y15,h15⟩:=aQ (i:=15) (off:=17) (k:=1) (t':=3) underlying36 h rfl rfl rfl ac
 obtain ⟨n16,y16,h16⟩:=aQ (i:=16) (off:=18) (k:=2) (t':=34) underlying36 h rfl rfl rfl ac
 match cs,hl with
 | [c0,c1,c2,c3,c4,c5,c6,c7,c8,c9,c10,c11,c12,c13,c14,c15,c16,c17,c18,c19],_ =>
  obtain ⟨s0,e0,b0⟩:=bz h0
  obtain ⟨s1,e1,b1⟩:=aS h1
  obtain ⟨s2,e2,b2⟩:=bz h2
  obtain ⟨s3,e3,b3⟩:=aS h3
  obtain ⟨s4,e4,b4⟩:=aS h4
  obtain ⟨s5,e5,b5⟩:=bz h5
  obtain ⟨s6,e6,b6⟩:=bz h6
  obtain ⟨s7,e7,b7⟩:=aS h7
  obtain ⟨s8,e8,b8⟩:=bz h8
  obtain ⟨s9,l9,e9,b9⟩:=kD h9
  obtain ⟨s10,e10,b10⟩:=bz h10
  obtain ⟨s11,e11⟩:=lD h11
  obtain ⟨s12,e12,b12⟩:=aS h12
  obtain ⟨s13,l13,e13,b13,r13⟩:=mO h13
  obtain ⟨s14,e14,b14⟩:=aS h14
  obtain ⟨s15,e15,b15⟩:=aS h15
  obtain ⟨s16,s17,e16,b16,b17⟩:=qR h16
  simp [Xo.cells] at e0 e1 e2 e3 e4 e5 e6 e7 e8 e9 e10 e11 e12 e13 e14 e15 e16
  refine ⟨⟨s0,s1,s2,s3,s4,s5,s6,s7,s8,s9,s10,s11,s12,s13,s14,s15,s16,s17,l9,l13⟩,?_,⟨b9,b13⟩,⟨⟨b1,b3,b4,b7,b12,b14,b15,b16,b17⟩,r13,by have:=Xd.len b9;simpa [strs] using this,by have:=Xd.len b13;simpa using this⟩,b6⟩
  simp [Xa.cells,e0,e1,e2,e3,e4,e5,e6,e7,e8,e9,e10,e11,e12,e13,e14,e15,e16]
end
end Go.Proofs.YtamfbppnlomgfaaGreatDoor
namespace Go.Proofs.YtamfbppnlomgfaaGreatDoor
open Go Go.Proofs Sy Go.RowKit Go.Deep Go.ChangeShapes
section
variable {H:Type} {enc:TypeId×Value→H} {P:Program} {w:World} {base:Nat} {spare:Nat→Bool} {held:Bool}
theorem Xb.keep {w':World} {c:Xb} (h:c.at_ w) (hs:∀ k,k<w.heap.size→w'.heap[k]?=w.heap[k]?):c.at_ w' :=
 ⟨Xd.keep h.1 hs,fun a ha=>⟨Xd.keep (h.2 a ha).1 hs,Xd.keep (h.2 a ha).2 hs⟩⟩
theorem Chains.keep {w':World} {s:Xh} {l:List Xb} (h:Chains w s l) (hs:∀ k,k<w.heap.size→w'.heap[k]?=w.heap[k]?):Chains w' s l :=
 ⟨Xd.keep h.1 hs,fun c hc=>Xb.keep (h.2 c hc) hs⟩
end
end Go.Proofs.YtamfbppnlomgfaaGreatDoor
namespace Go.Proofs.YtamfbppnlomgfaaGreatDoor
open Go Go.Proofs Sy Tryz
def draftV (c:Xb) (k t:Int):Xa:={ Xa.zero with author:=c.id,seq:=(c.acts.n:Int),prev:=c.prev,kind:=k,time:=t }
theorem gg (c:Xb) (k t:Int):Pu prog 11 #[c.v,.int .i64 k,.int .i64 t] (fun _=>True) (draftV c k t).v:=by
 refine ax func11 ntmps11 fun av bor w0=>?_
 repeat' (first|refine gs ?_|refine gs1 fun _=>?_|(refine aI (cs:=(draftV c k t).cells) (hf:=by rfl) ?_)|(refine gp ?_ ?_<;>intro hx_ this)|fail)
 exact aa (aP rfl rfl aB (by rfl)) rfl
def undoK (k:Int):Bool:=decide (k=4)||decide (k=5)||decide (k=7)||decide (k=8)||decide (k=10)||decide (k=11)||decide (k=17)||decide (k=23)
theorem la (k:Int):Pu prog 111 #[.int .i64 k] (fun _=>True) (.bool (undoK k)):=by
 refine ax func111 ntmps111 fun av bor w0=>?_
 repeat' (first|refine gs ?_|(refine gp ?_ ?_<;>intro hx_ this)|fail)
 (all_goals (apply aa;apply ai;rfl;rfl));all_goals first|rfl|(simp only [undoK, *,Za,Zg,Zf];done)|(simp_all [undoK];done)
def atK (c:Xb) (o:Option Nat) (p:Int→Bool):Bool:=match o with
 | some j=>p (c.actsL.getD j Xa.zero).kind
 | none=>false
def fitsV (c:Xb) (a:Xa) (pl:Option Nat):Bool :=
 bif !rightB a||!seqB a.author c.id||!decide (a.seq=(c.acts.n:Int))||!seqB a.prev c.prev then false
 else bif decide (a.kind=0) != decide ((c.acts.n:Int)=0) then false
 else bif decide (a.kind=6) then atK c pl undoK
 else bif decide (a.kind=13)||decide (a.kind=14) then atK c pl postK else true
set_option maxRecDepth 20000 in
theorem om (c:Xb) (a:Xa) (gf:Nat) [Xz prog gf] (lb:List Value) (pl:Option Nat) (Y:World→Prop) (hpl:Pu prog gf (.string a.object::lb).toArray Y (idxP pl)) (hlt:∀ j,pl=some j→j<c.actsL.length) :
  Pu prog 69 #[c.v,a.v,.func (.func gf) #[] lb.toArray] (fun w=>c.at_ w∧a.at_ w∧Y w) (.bool (fitsV c a pl)):=by
 refine ax func69 ntmps69 fun av bor w0=>?_
 refine aK (p:=c.acts.n=c.actsL.length∧c.acts.n≤maxLen∧(0<c.actsL.length→c.acts.p.isSome=true)) (fun w h=>⟨h.1.len_,h.1.max_,h.1.some_⟩) fun ⟨hl,hm,hp⟩=>?_
 simp only [maxLen] at hm
 have hri:=bL a
 cases hB:(!rightB a||!seqB a.author c.id||!decide (a.seq=(c.acts.n:Int))||!seqB a.prev c.prev) with
 | true =>
  rw [show fitsV c a pl=false from by rw [fitsV,hB];rfl]
  repeat' (first|(refine ae (hc:=hri) (hX:=fun _ h=>h.2.1) ?_)|refine gs ?_|refine gs1 fun _=>?_|(refine gp ?_ ?_<;>intro hx_ this)|fail)
  all_goals first
   | (apply aa;apply ai;rfl;rfl;rfl)
   | (exfalso;simp_all;done)
 | false =>
  have hB':=hB
  simp only [Z9,Bool.not_eq_false',Zs] at hB'
  obtain ⟨⟨⟨e1,e2⟩,e3⟩,e4⟩:=hB'
  rw [e1] at hri
  cases hK:(decide (a.kind=0) != decide ((c.acts.n:Int)=0)) with
  | true =>
   rw [show fitsV c a pl=false from by rw [fitsV,hB,hK];rfl]
   repeat' (first|refine eZ (hab:=e3) ?_|(refine ae (hc:=hri) (hX:=fun _ h=>h.2.1) ?_)|refine gs ?_|refine gs1 fun _=>?_|(refine gp ?_ ?_<;>intro hx_ this)|fail)
   all_goals first
    | (apply aa;apply ai;rfl;rfl;rfl)
    | (exfalso;simp_all;done)
  | false =>
   have hF:fitsV c a pl=(bif decide (a.kind=6) then atK c pl undoK else bif decide (a.kind=13)||decide (a.kind=14) then atK c pl postK else true):=by rw [fitsV,hB,hK];rfl
   rw [hF]
   cases pl with
   | none =>
    have hpl':Pu prog gf (.string a.object::lb).toArray Y (.tuple #[.int .i64 0,.bool false]):=hpl
    repeat' (first|refine eZ (hab:=e3) ?_|(refine ae (hc:=hri) (hX:=fun _ h=>h.2.1) ?_)|(refine d6 (hc:=hpl') (hX:=fun _ h=>h.2.2) (h:=?_))|refine gs ?_|refine gs1 fun _=>?_|(refine gp ?_ ?_<;>intro hx_ this)|fail)
    all_goals first
     | (exfalso;simp_all;done)
     | (apply aa;apply ai;rfl;rfl;simp_all [atK];done)
   | some j =>
    have hjl:=hlt j rfl
    have hp':=hp ab
    obtain ⟨x,hx⟩:∃ x,c.actsL[j]?=some x:=⟨_,Zc hjl⟩
    have hA:∀ p,atK c (some j) p=p x.kind:=fun p=>by simp only [atK,Zl,hx,Z3]
    rw [hA,hA] at hF ⊢
    have hpl':Pu prog gf (.string a.object::lb).toArray Y (.tuple #[.int .i64 (j:Nat),.bool true]):=hpl
    clear hpl
    repeat' (first|refine eZ (hab:=e3) ?_|(refine ae (hc:=hri) (hX:=fun _ h=>h.2.1) ?_)|(refine d6 (hc:=hpl') (hX:=fun _ h=>h.2.2) (h:=?_))|refine ae (hc:=la x.kind) ?_|refine ae (hc:=iP x.kind) ?_|refine gs ?_|refine gs1 fun _=>?_|(refine aA (q:=j*20) ?_)|(refine cH ?_)|(refine bm (q:=j*20+3) (u:=.int .i64 x.kind) (hF:=fun w h=>(Acts.get h.1 hx).2.2 3 _ rfl) ?_)|(refine gp ?_ ?_<;>intro hx_ this)|fail)
    all_goals first
     | (exfalso;simp_all;done)
     | (apply aa;apply ai;rfl;rfl;simp_all;done)
theorem rB (c:Xb) (hc:Xr c.actsL) (b:Nat) (d:ByteArray):Pu prog 70 #[.string d,.pointer (some ⟨b,0,none⟩)] (fun w=>(c.at_ w∧Xc w)∧ChBox c b w) (idxP (idxV c.actsL d)):=by
 refine ax func70 ntmps70 fun av bor w0=>?_
 repeat' (first|(refine ae (hc:=jc c hc d) ?_)|refine gs ?_|(refine kp (cs:=c.cells) (hF:=fun w h=>h.2.cell) (hl:=rfl) ?_)|(refine gp ?_ ?_<;>intro hx_ this)|fail)
 exact aa (bg rfl rfl rfl) rfl
instance:Xz prog 70:=⟨ac⟩
theorem j5 (c:Xb) (hc:Xr c.actsL) (a:Xa):Pu prog 32 #[c.v,a.v] (fun w=>(c.at_ w∧Xc w)∧a.at_ w) (.bool (fitsV c a (idxV c.actsL a.object))):=by
 refine ax func32 ntmps32 fun av bor w0=>?_
 have hf:=fun b=>om c a 70 [.pointer (some ⟨b,0,none⟩)] (idxV c.actsL a.object) _ (rB c hc b a.object) (fun j h=>kJ h)
 repeat' (first|(refine db (hc:=hf _) (hX:=fun w h hr=>⟨h.1.1,h.2,h.1,hr _ (Zr _ aC)⟩) ?_)|refine gs ?_|refine gs1 fun _=>?_|(refine bV ?_)|(refine gp ?_ ?_<;>intro hx_ this)|fail)
 exact aa (ai rfl rfl) rfl
structure Xm where
 actor:ByteArray
 base:Int
 prev:ByteArray
 gen:Int
 home:Int
 pub:Int
 time:Int
 e:Int
 s:Int
structure X8 where
 server:Int
 actor:ByteArray
 gen:Int
 claim:ByteArray
 time:Int
 e:Int
 s:Int
structure DecD where
 server:Int
 number:Int
 kind:Int
 actor:ByteArray
 object:ByteArray
 text:ByteArray
 to:Xh
 n:Int
 from_:Int
 until_:Int
 e:Int
 s:Int
 toL:List ByteArray
structure Xe where
 kind:Int
 act:Xa
 claim:Xm
 ballot:X8
 dec:DecD
def Xm.cells (c:Xm):List Value:=[.string c.actor,.int .i64 c.base,.string c.prev,.int .i64 c.gen,.int .i64 c.home,.int .i64 c.pub,.int .i64 c.time,.int .i64 c.e,.int .i64 c.s]
def Xm.v (c:Xm):Value:=.agg c.cells.toArray
def Xm.zero:Xm:=⟨⟨#[]⟩,0,⟨#[]⟩,0,0,0,0,0,0⟩
def X8.cells (b:X8):List Value:=[.int .i64 b.server,.string b.actor,.int .i64 b.gen,.string b.claim,.int .i64 b.time,.int .i64 b.e,.int .i64 b.s]
def X8.v (b:X8):Value:=.agg b.cells.toArray
def X8.zero:X8:=⟨0,⟨#[]⟩,0,⟨#[]⟩,0,0,0⟩
def DecD.cells (d:DecD):List Value:=[.int .i64 d.server,.int .i64 d.number,.int .i64 d.kind,.string d.actor,.string d.object,.string d.text,d.to.v,.int .i64 d.n,.int .i64 d.from_,.int .i64 d.until_,.int .i64 d.e,.int .i64 d.s]
def DecD.v (d:DecD):Value:=.agg d.cells.toArray
def DecD.zero:DecD:=⟨0,0,0,⟨#[]⟩,⟨#[]⟩,⟨#[]⟩,⟨none,0,0⟩,0,0,0,0,0,[]⟩
def DecD.at_ (w:World) (d:DecD):Prop:=Strs w d.to d.toL
def Xe.cells (i:Xe):List Value:=.int .i64 i.kind::(i.act.cells++i.claim.cells++i.ballot.cells++i.dec.cells)
def Xe.v (i:Xe):Value:=.agg i.cells.toArray
def Xe.at_ (w:World) (i:Xe):Prop:=Xa.at_ w i.act∧DecD.at_ w i.dec
def ofActI (a:Xa):Xe:=⟨0,a,Xm.zero,X8.zero,DecD.zero⟩
def Xe.zero:Xe:=ofActI Xa.zero
def Items (w:World) (s:Xh) (l:List Xe):Prop:=Xd w 49 s (l.map Xe.cells)∧∀ i∈l,Xe.at_ w i
theorem Items.len_ {w:World} {s:Xh} {l:List Xe} (h:Items w s l):s.n=l.length:=by simpa using Xd.len h.1
theorem Items.max_ {w:World} {s:Xh} {l:List Xe} (h:Items w s l):s.n≤maxLen:=ZO (Xd.cap h.1) (Xd.max h.1)
theorem Items.get {w:World} {s:Xh} {l:List Xe} (h:Items w s l) {k:Nat} {x:Xe} (hx:l[k]?=some x):x.cells.length=49∧s.p.isSome=true∧∀ j u,x.cells[j]?=some u→CellAt w s.p (k*49+j) u:=Xd.row h.1 k x.cells (by simp [hx])
theorem Items.some_ {w:World} {s:Xh} {l:List Xe} (h:Items w s l) (h0:0<l.length):s.p.isSome=true:=(h.get (k:=0) (x:=l[0]) (Zc h0)).2.1
structure Ea where
 acts:List Xa
 keys:List Xg
 prev:ByteArray
 gen:Nat
structure OfW where
 L:List Xa
 id:ByteArray
 won:Nat→Option Xm
 clm:Int→Xm→Bool
 dgC:Xm→ByteArray
 ver:Int→Xa→Bool
 B:Nat
def Ea.key (st:Ea):Int:=(st.keys.getD (st.keys.length-1) Xg.zero).public_
def Ea.ch (st:Ea) (id:ByteArray):Xb:=⟨id,⟨none,st.acts.length,0⟩,⟨none,0,0⟩,st.prev,(st.gen:Int),false,st.acts⟩
def posB (n:Nat) (p:ByteArray) (a:Xa):Bool:=decide (a.seq=(n:Int))&&seqB a.prev p
def addS (st:Ea) (a:Xa):Ea:=⟨st.acts++[a],bif decide (a.kind=18) then st.keys++[⟨((st.acts.length+1:Nat):Int),a.n,a.m⟩] else st.keys,digV a,st.gen⟩
def setI (l:List Xa):Nat→Option Nat
 | 0=>none
 | n+1=>bif decide ((l.getD n Xa.zero).kind=19) then some n else setI l n
def regS (W:OfW) (st:Ea):Option Ea:=match W.won st.gen with
 | none=>none
 | some c=>bif decide (c.base=(st.acts.length:Int))&&seqB c.prev st.prev then (match setI st.acts st.acts.length with
  | none=>none
  | some i=>bif W.clm (st.acts.getD i Xa.zero).m c then some ⟨st.acts,st.keys++[⟨(st.acts.length:Nat),c.pub,c.home⟩],W.dgC c,st.gen+1⟩ else none) else none
def candB (W:OfW) (st:Ea) (a:Xa):Bool:=fitsV (st.ch W.id) a (idxV st.acts a.object)&&W.ver st.key a
def candL (W:OfW) (st:Ea):List Xa:=(W.L.filter (posB st.acts.length st.prev)).filter (candB W st)
def oneA:List Xa→Option Xa
 | [a]=>some a
 | _=>none
def stepS (W:OfW) (st:Ea):Option Ea:=match regS W st with
 | some s=>some s
 | none=>(oneA (candL W st)).map (addS st)
def runS (W:OfW):Nat→Ea→Ea
 | 0,st=>st
 | n+1,st=>match stepS W st with
  | some s=>runS W n s
  | none=>st
def firstB (W:OfW) (a:Xa):Bool:=decide (a.kind=0)&&seqB (idV a.n) W.id&&W.ver a.n a
def firstL (W:OfW):List Xa:=(W.L.filter (posB 0 ⟨#[]⟩)).filter (firstB W)
def begS (a:Xa):Ea:=addS ⟨[],[⟨0,a.n,a.m⟩],⟨#[]⟩,0⟩ a
def finS (W:OfW) (a:Xa):Ea:=runS W (W.L.length+W.B) (begS a)
structure InvS (W:OfW) (st:Ea):Prop where
 seq:∀ i,i<st.acts.length→∃ a∈W.L,a.seq=(i:Int)
 mem:∀ a∈st.acts,a∈W.L
 one:0<st.acts.length
 key:0<st.keys.length
 keyn:st.keys.length≤st.acts.length+st.gen+1
 gen:st.gen≤W.B
theorem jO:∀ {n:Nat} {l:List Int},(∀ i,i<n→(i:Int)∈l)→n≤l.length
 | 0,l,_=>ZU _
 | n+1,l,h=>by
  have ih:=jO (n:=n) (l:=l.erase (n:Int)) fun i hi=>(List.mem_erase_of_ne ab).2 (h i ab)
  have hm:=h n (Nat.lt_succ_self n)
  rw [List.length_erase_of_mem hm] at ih
  have:0<l.length:=List.length_pos_of_mem hm
  omega
theorem InvS.len {W:OfW} {st:Ea} (h:InvS W st):st.acts.length≤W.L.length:=by
 have:=jO (n:=st.acts.length) (l:=W.L.map Xa.seq) fun i hi=>by
  obtain ⟨a,ha,e⟩:=h.seq i hi
  exact Qt.2 ⟨a,ha,e⟩
 simpa using this
def muS (W:OfW) (st:Ea):Nat:=(W.L.length-st.acts.length)+(W.B-st.gen)
theorem o8 {l:List Xa} {a:Xa} (h:oneA l=some a):l=[a]:=by
 cases l with
 | nil=>cases h
 | cons x r =>
  cases r with
  | nil=>rw [oneA,ZE] at h;rw [h]
  | cons y r=>cases h
theorem jJ {W:OfW} {st s:Ea} (h:regS W st=some s):∃ c,W.won st.gen=some c∧s.acts=st.acts∧s.gen=st.gen+1∧s.keys.length=st.keys.length+1:=by
 rw [regS] at h
 cases hw:W.won st.gen with
 | none=>rw [hw] at h;cases h
 | some c =>
  rw [hw] at h
  simp only at h
  cases hb:decide (c.base=(st.acts.length:Int))&&seqB c.prev st.prev with
  | false=>rw [hb] at h;cases h
  | true =>
   rw [hb] at h
   cases hs:setI st.acts st.acts.length with
   | none=>rw [hs] at h;cases h
   | some i =>
    rw [hs] at h
    simp only [Zg] at h
    cases hc:W.clm (st.acts.getD i Xa.zero).m c with
    | false=>rw [hc] at h;cases h
    | true =>
     rw [hc,Zg,ZE] at h
     subst h
     exact ⟨c,rfl,rfl,rfl,by simp⟩
theorem mg {W:OfW} {st:Ea} {a:Xa} (h:a∈candL W st):a∈W.L∧a.seq=(st.acts.length:Int)∧candB W st a=true:=by
 rw [candL,Qw,Qw] at h
 have h2:=h.1.2
 simp only [posB,Zm,Zs] at h2
 exact ⟨h.1.1,h2.1,h.2⟩
theorem pS (st:Ea) (a:Xa):st.keys.length≤(addS st a).keys.length∧(addS st a).keys.length≤st.keys.length+1:=by
 simp only [addS]
 cases decide (a.kind=18) with
 | true=>simp
 | false=>simp
theorem qv {W:OfW} (hB:∀ g c,W.won g=some c→g<W.B) {st s:Ea} (h:InvS W st) (hs:stepS W st=some s):InvS W s∧muS W s+1≤muS W st:=by
 have hl:=h.len
 rw [stepS] at hs
 cases hr:regS W st with
 | some s' =>
  rw [hr,ZE] at hs
  subst hs
  obtain ⟨c,h1,h2,h3,h4⟩:=jJ hr
  have:=hB _ _ h1
  refine ⟨⟨by rw [h2];exact h.seq,by rw [h2];exact h.mem,by rw [h2];exact h.one,by omega,by rw [h2,h3];have:=h.keyn;omega,by omega⟩,?_⟩
  simp only [muS,h2,h3]
  omega
 | none =>
  rw [hr] at hs
  cases ho:oneA (candL W st) with
  | none=>rw [ho] at hs;cases hs
  | some a =>
   rw [ho,Option.map_some,ZE] at hs
   subst hs
   have ha:a∈candL W st:=by rw [o8 ho];exact ZV.2 rfl
   obtain ⟨m1,m2,m3⟩:=mg ha
   have hk:=pS st a
   have hal:(addS st a).acts.length=st.acts.length+1:=by simp [addS]
   have hI:InvS W (addS st a):=⟨fun i hi=>by
     rw [hal] at hi
     by_cases e:i=st.acts.length
     · subst e;exact ⟨a,m1,m2⟩
     · exact h.seq i ab,fun x hx=>by
     rcases Qk.1 (show x∈st.acts++[a] from hx) with hx|hx
     · exact h.mem x hx
     · rw [ZV.1 hx];exact m1,by omega,by have:=h.key;omega,by rw [hal];have:=h.keyn;show _≤_+st.gen+1;omega,h.gen⟩
   refine ⟨hI,?_⟩
   have:=hI.len
   simp only [muS,hal] at *
   show _+(W.B-st.gen)+1≤_
   omega
theorem ls {W:OfW} {st:Ea} (h:stepS W st=none):∀ n,runS W n st=st
 | 0=>rfl
 | n+1=>by rw [runS,h]
theorem qD {W:OfW} {st s:Ea} (h:stepS W st=some s) {n:Nat}:runS W (n+1) st=runS W n s:=by rw [runS,h]
theorem tp {W:OfW} {a:Xa} (ha:a∈firstL W):InvS W (begS a)∧muS W (begS a)+1≤W.L.length+W.B:=by
 rw [firstL,Qw,Qw] at ha
 have h2:=ha.1.2
 simp only [posB,Zm,Zs] at h2
 have h3:=ha.2
 simp only [firstB,Zm,Zs] at h3
 have hk:begS a=⟨[a],[⟨0,a.n,a.m⟩],digV a,0⟩:=by
  rw [begS,addS,h3.1.1]
  rfl
 have hL:0<W.L.length:=List.length_pos_of_mem ha.1.1
 rw [hk]
 refine ⟨⟨fun i hi=>⟨a,ha.1.1,by rw [h2.1,show i=0 from by simpa using hi]⟩,fun x hx=>by rw [ZV.1 hx];exact ha.1.1,by simp,by simp,by simp,ZU _⟩,?_⟩
 simp only [muS,List.length_singleton]
 omega
end Go.Proofs.YtamfbppnlomgfaaGreatDoor
