/- Joined by program out of: Ph Rx Ci Ks Rl Ro Me We Fs Rp Rb Hp Nu Ue Uf Ug Uh Ui Uj. -/
import Derived.Test.YtcdilibijnboeaaGreatDoorU8
set_option linter.unusedVariables false
set_option linter.unusedSimpArgs false
namespace Go.Proofs.YtcdilibijnboeaaGreatDoor
open Go Go.Proofs Sy
def isPost (id:ByteArray) (p:PostD):Bool:=seqB p.id id
structure FinI (l:List ChainD) (id:ByteArray) where
 k:Nat
 hk:k≤l.length
 no:∀ i x,i<k→l[i]?=some x→∀ q∈postsV x,isPost id q=false
structure FinJ (P:List PostD) (id:ByteArray) where
 j:Nat
 hj:j≤P.length
 no:∀ i q,i<j→P[i]?=some q→isPost id q=false
end Go.Proofs.YtcdilibijnboeaaGreatDoor

namespace Go.Proofs.YtcdilibijnboeaaGreatDoor
open Go Go.Proofs Sy
def gOk (a:ActD) (sc:Int) (g:ByteArray) (nx:Nat):Bool:=decide (a.kind=16)&&decide (a.scope=sc)&&seqB a.group g&&decide (a.epoch=(nx:Int))
def grantF (l:List ActD) (sc:Int) (g:ByteArray):Nat→Nat×Nat
 | 0=>(0,0)
 | i+1=>bif gOk (l.getD i ActD.zero) sc g (grantF l sc g i).2 then (i,(grantF l sc g i).2+1) else grantF l sc g i
def grantV (l:List ActD) (n sc:Int) (g:ByteArray):Nat×Nat:=grantF l sc g (limN n l.length)
def epochO (l:List ActD) (n sc:Int) (g:ByteArray):Option ActD:=bif decide ((0:Int)<((grantV l n sc g).2:Nat)) then l[(grantV l n sc g).1]? else none
theorem yu {e n:Nat} {v:Value} {ss:List ByteArray}:Ct Tryz.prog 47 #[v] [orow e 1 v n (ss.map encB)] (fun _=>True) fun u R _=>∃ A c,u=.slice A (compB ss).length c∧R=[orow e 1 u (compB ss).length ((compB ss).map encB)]:=by
 have h:=compS_c.ct (e:=e) (n:=n) (v:=v) (ss:=ss.map bl)
 rw [pL ss]
 refine h.mono fun u R X' ⟨A,c,h1,h2⟩=>⟨A,c,?_,?_⟩
 · rw [h1];simp [compB]
 · rw [h2,gV,compB];simp
def circF (l:List ActD) (g:ByteArray):Nat→Option ActD
 | 0=>none
 | i+1=>bif decide ((l.getD i ActD.zero).kind=15)&&seqB (l.getD i ActD.zero).group g then some (l.getD i ActD.zero) else circF l g i
def listOf (c:ChainD) (n sc:Int) (g:ByteArray) (toL:List ByteArray):List ByteArray :=
 bif decide (sc=1) then sortB (tieV c.actsL n).a else bif decide (sc=2) then ((circF c.actsL g (limN n c.actsL.length)).map (·.toL)).getD [] else bif decide (sc=3) then toL else []
def keepM (c:ChainD) (bs:List ByteArray) (x:ByteArray):Bool:=!seqB x c.id&&!hasS bs x
def membersV (c:ChainD) (n sc:Int) (g:ByteArray) (toL:List ByteArray):List ByteArray:=compB (sortB ((listOf c n sc g toL).filter (keepM c (sortB (tieV c.actsL n).b))))
structure FilS (m:Nat) where
 k:Nat
 hk:k≤m
 A:Option Addr
 c:Nat
end Go.Proofs.YtcdilibijnboeaaGreatDoor



namespace Go.Proofs.YtcdilibijnboeaaGreatDoor
open Go Go.Proofs Sy
def wellA (c:ChainD) (i:Int) (a:ActD):Bool:=(postK a.kind||decide (a.kind=14))&&(decide (a.scope=1)||decide (a.scope=2)||decide (a.scope=3))&&(match epochO c.actsL i a.scope a.group with
 | some e=>decide (e.epoch=a.epoch)&&eqL e.toL (membersV c i a.scope a.group a.toL)
 | none=>false)
def wellV (c:ChainD) (i:Int):Bool:=decide (0≤i)&&(match c.actsL[i.toNat]? with
 | some a=>wellA c i a
 | none=>false)
structure Agree (n:Nat) (l l':List ActD):Prop where
 at_:∀ k,k<n→l[k]?=l'[k]?
 left:n≤l.length
 right:n≤l'.length
theorem Agree.getD {n:Nat} {l l':List ActD} (h:Agree n l l') {k:Nat} (hk:k<n):l.getD k ActD.zero=l'.getD k ActD.zero:=by
 rw [ZL,ZL,h.at_ k hk]
theorem Agree.symm {n:Nat} {l l':List ActD} (h:Agree n l l'):Agree n l' l:=⟨fun k hk=>(h.at_ k hk).symm,h.right,h.left⟩
def rtextV (c:ChainD) (i:Int):Bool:=decide (0≤i)&&(match c.actsL[i.toNat]? with
 | some a=>postK a.kind||decide (a.kind=14)
 | none=>false)
structure ReadF (c:ChainD) (i:Int) (a:ActD) (l:List ByteArray):Prop where
 asc:Asc l
 own:c.id∈l
 mem:∀ x∈l,x≠c.id→x∈membersV c i a.scope a.group a.toL
 len:l.length=1+(bif wellV c i then (membersV c i a.scope a.group a.toL).length else 0)
structure ChOk (c:ChainD):Prop where
 acts:ActsOk c.actsL
 len:c.actsL.length≤1000000
 to:∀ x∈c.actsL,x.to.n≤1000000
structure HisI (m:Nat) where
 k:Nat
 hk:k≤m
 A:Option Addr
 c:Nat
structure OwnP (c:ChainD) (p:PostD):Prop where
 author:p.author=c.id
 text:rtextV c (p.pos:Int)=true
 ed:∀ e∈p.edL,rtextV c e=true
section
variable {P:Program} {N:Nat} {av bor:List Nat} {w0:World} {E:Env} {loc:List Res} {X:World→Prop}
end
def accL (vs hs:List Nat):Nat→List Nat
 | 0=>vs
 | i+1=>(accL vs hs i).set i (((accL vs hs i).getD i 0+hs.getD i 0)%4294967296)
theorem qi (vs hs:List Nat):∀ i,(accL vs hs i).length=vs.length
 | 0=>rfl
 | i+1=>by rw [accL,List.length_set,qi vs hs i]
structure RowA (n:Nat) where
 k:Nat
 hk:k≤n
 A:Option Addr
 c:Nat
set_option maxRecDepth 20000 in
set_option maxHeartbeats 8000000 in
theorem qM (sh sb:SlV) (h:S8) (hh:h.Lt) (l:List Nat) (hl:l.length=64) (hb:∀ x∈l,x<256):Mk Tryz.prog 183 #[sh.v,sb.v] (fun w=>U32s w sh h.l∧U8s w sb l) (fun u X'=>∃ s':SlV,u=s'.v∧∀ w,X' w→U32s w s' (mixN h (winN (fW l) 0)).l):=by
 refine cA (args:=[_,_]) _ Tryz.func183 rfl Tryz.ntmps183 rfl fun av bor w0=>?_
 have hwo:=pw sb l hl hb
 refine bI (p:=sh.n=8∧sh.p.isSome=true) (fun w h1=>⟨by rw [gG (f:=fun n=>.int .u32 (n:Int)) h1.1];rfl,fH (f:=fun n=>.int .u32 (n:Int)) h1.1 (by rw [show h.l.length=8 from rfl];omega)⟩) fun ⟨hsn,hsp⟩=>?_
 have hkl:kN.length=64:=by kernel_rfl
 have hwl:(row2 l 48).length=64:=im l 48
 repeat' (first|refine ny fun _=>?_|apply ab|apply Qu|apply Qv|refine aj ?_|refine ad ?_|apply Qw|(refine dA (hc:=hwo) (hX:=fun w h=>h.2) fun v1 X1 h1=>?_;obtain ⟨sw,rfl,hW⟩:=h1)|(refine dA (hc:=qT) (hX:=fun _ _=>trivial) fun v2 X2 h2=>?_;obtain ⟨sk,rfl,hK⟩:=h2)|(refine aV (size:=1) (news:=u32n h.l) (q:=sh.n) rfl rfl rfl rfl (fun _=>At.here _) (fun w G=>yL G.keep.now.1.1.1) ae (by simp only [maxLen];omega) rfl ?_ rfl ?_;(with_reducible rfl);intro A0 c0)|fail)
 rw [hsn]
 refine bI (p:=(sw.n=64∧sw.p.isSome=true)∧(sk.n=64∧sk.p.isSome=true)) (fun w h1=>⟨⟨by rw [gG (f:=fun n=>.int .u32 (n:Int)) (hW w h1.1.2),hwl],fH (f:=fun n=>.int .u32 (n:Int)) (hW w h1.1.2) ae⟩,⟨by rw [gG (f:=fun n=>.int .u32 (n:Int)) (hK w h1.2),hkl],fH (f:=fun n=>.int .u32 (n:Int)) (hK w h1.2) ae⟩⟩) fun ⟨⟨hwn,hwp⟩,⟨hkn,hkp⟩⟩=>?_
 refine aT (ι:=RowA 64) (fun i=>⟨[(0,sh.v),(5,sw.v),(6,sk.v),(7,.slice i.A 8 i.c),(8,.int .i64 (i.k:Nat))],[orow 128 1 (.slice i.A 8 i.c) 8 (u32n (rndN (fW l) h i.k).l)],fun w=>(U32s w sh h.l∧U32s w sw (row2 l 48))∧U32s w sk kN⟩) (fun i=>64-i.k) ⟨0,by omega,A0,c0⟩ (aw ⟨rfl,rfl,rfl,rfl,rfl,trivial⟩ (aE _) fun w h1=>⟨⟨h1.1.1.1,hW w h1.1.2⟩,hK w h1.2⟩) fun i=>?_
 obtain ⟨k,hk,A,c⟩:=i
 simp only
 refine cN aI (fun w h=>cE h ae) fun hAs=>?_
 repeat' (first|apply ab|apply Qu|apply Qv|refine aj ?_|refine ad ?_|refine bj ?_|apply Qx|apply Qw|apply aQ|(refine aG (ht:=?_) (hf:=?_);all_goals (intro hx_;first|have:=aP hx_|have:=aS hx_)))
 · have hlt:k<64:=by omega
   have hLt:=xi (fW l) hh k
   obtain ⟨kk,hkk⟩:∃ x,x=kN.getD k 0:=⟨_,rfl⟩
   obtain ⟨ww,hww⟩:∃ x,x=sN (fW l) 48 k:=⟨_,rfl⟩
   have hgk:∀ w,(U32s w sh h.l∧U32s w sw (row2 l 48))∧U32s w sk kN→CellAt w sk.p k (.int .u32 (kk:Int)):=fun w h1=>hkk▸il (f:=fun n=>.int .u32 (n:Int)) h1.2 ae
   have hgw:∀ w,(U32s w sh h.l∧U32s w sw (row2 l 48))∧U32s w sk kN→CellAt w sw.p k (.int .u32 (ww:Int)):=fun w h1=>by
    have h2:=il (f:=fun n=>.int .u32 (n:Int)) h1.1.2 (i:=k) ae
    rw [oY l ae,←hww] at h2
    exact h2
   have hnext:rndN (fW l) h (k+1)=roundN (rndN (fW l) h k) kk ww:=by rw [rndN,hkk,hww]
   rw [oZ] at hnext
   generalize rndN (fW l) h k=S at *
   obtain ⟨a,b,d,e,f,g,p,q⟩:=S
   obtain ⟨ha,hbb,hd,he,hf,hg,hp,hq⟩:=hLt
   simp only at ha hbb hd he hf hg hp hq hnext
   simp only [S8.l]
   have hn:8=(u32n [a,b,d,e,f,g,p,q]).length:=rfl
   have hg0:(u32n [a,b,d,e,f,g,p,q])[0]?=some (.int .u32 (a:Int)):=rfl
   have hg1:(u32n [a,b,d,e,f,g,p,q])[1]?=some (.int .u32 (b:Int)):=rfl
   have hg2:(u32n [a,b,d,e,f,g,p,q])[2]?=some (.int .u32 (d:Int)):=rfl
   have hg3:(u32n [a,b,d,e,f,g,p,q])[3]?=some (.int .u32 (e:Int)):=rfl
   have hg4:(u32n [a,b,d,e,f,g,p,q])[4]?=some (.int .u32 (f:Int)):=rfl
   have hg5:(u32n [a,b,d,e,f,g,p,q])[5]?=some (.int .u32 (g:Int)):=rfl
   have hg6:(u32n [a,b,d,e,f,g,p,q])[6]?=some (.int .u32 (p:Int)):=rfl
   have hg7:(u32n [a,b,d,e,f,g,p,q])[7]?=some (.int .u32 (q:Int)):=rfl
   have t6:=du f 6 hf ae ae
   have t11:=du f 11 hf ae ae
   have t25:=du f 25 hf ae ae
   have t2:=du a 2 ha ae ae
   have t13:=du a 13 ha ae ae
   have t22:=du a 22 ha ae ae
   have l6:=fx (n:=6) hf ae ae
   have l11:=fx (n:=11) hf ae ae
   have l25:=fx (n:=25) hf ae ae
   have l2:=fx (n:=2) ha ae ae
   have l13:=fx (n:=13) ha ae ae
   have l22:=fx (n:=22) ha ae ae
   have e1:t1N q f g p kk ww=((((q+((rot (2 ^ (32-6)) (2 ^ 6) f ^^^ rot (2 ^ (32-11)) (2 ^ 11) f) ^^^ rot (2 ^ (32-25)) (2 ^ 25) f))%4294967296+((f &&& g) ^^^ ((4294967295 ^^^ f) &&& p)))%4294967296+kk)%4294967296+ww)%4294967296:=rfl
   have e2:t2N a b d=(((rot (2 ^ (32-2)) (2 ^ 2) a ^^^ rot (2 ^ (32-13)) (2 ^ 13) a) ^^^ rot (2 ^ (32-22)) (2 ^ 22) a)+(((a &&& b) ^^^ (a &&& d)) ^^^ (b &&& d)))%4294967296:=rfl
   rw [e1,e2] at hnext
   clear e1 e2
   generalize rot (2 ^ (32-6)) (2 ^ 6) f=r6 at *
   generalize rot (2 ^ (32-11)) (2 ^ 11) f=r11 at *
   generalize rot (2 ^ (32-25)) (2 ^ 25) f=r25 at *
   generalize rot (2 ^ (32-2)) (2 ^ 2) a=r2 at *
   generalize rot (2 ^ (32-13)) (2 ^ 13) a=r13 at *
   generalize rot (2 ^ (32-22)) (2 ^ 22) a=r22 at *
   have x1:=Nat.xor_lt_two_pow (n:=32) l6 l11
   have x3:=Nat.xor_lt_two_pow (n:=32) l2 l13
   have x5:f &&& g<4294967296:=Nat.lt_of_le_of_lt Nat.and_le_left hf
   have x6:4294967295 ^^^ f<4294967296:=Nat.xor_lt_two_pow (n:=32) (by decide) hf
   have x7:(4294967295 ^^^ f) &&& p<4294967296:=Nat.lt_of_le_of_lt Nat.and_le_left x6
   have x8:a &&& b<4294967296:=Nat.lt_of_le_of_lt Nat.and_le_left ha
   have x9:a &&& d<4294967296:=Nat.lt_of_le_of_lt Nat.and_le_left ha
   have x10:b &&& d<4294967296:=Nat.lt_of_le_of_lt Nat.and_le_left hbb
   have x11:(a &&& b) ^^^ (a &&& d)<4294967296:=Nat.xor_lt_two_pow (n:=32) x8 x9
   (refine aU [orow 128 1 (.slice A 8 c) 8 (u32n [a,b,d,e,f,g,p,q])] (fun w=>(U32s w sh h.l∧U32s w sw (row2 l 48))∧U32s w sk kN) ak ?_)
   all_goals refine aa 0 ?_<;>(refine aa 1 (hy:=by (apply aL (q:=4);rfl;rfl;omega;omega;assumption;omega)) ?_)<;>(refine aa 2 (hy:=by (apply cY;rfl;exact aI;exact hn;exact hg4)) ?_)<;>refine aa 4 ?_<;>(refine aa 5 (hy:=by (apply aL (q:=4);rfl;rfl;omega;omega;assumption;omega)) ?_)<;>(refine aa 6 (hy:=by (apply cY;rfl;exact aI;exact hn;exact hg4)) ?_)<;>refine aa 9 ?_<;>(refine aa 10 (hy:=by (apply aL (q:=4);rfl;rfl;omega;omega;assumption;omega)) ?_)<;>(refine aa 11 (hy:=by (apply cY;rfl;exact aI;exact hn;exact hg4)) ?_)<;>(refine ag 3 ?_;(refine ao (hc:=t6) (hX:=fun _ _=>trivial) ?_);apply ab;refine ai ?_)<;>(refine ag 7 ?_;(refine ao (hc:=t11) (hX:=fun _ _=>trivial) ?_);apply ab;refine ai ?_)<;>(refine aa 8 (hy:=by (apply gg;rfl;rfl;assumption;assumption)) ?_)<;>(refine ag 12 ?_;(refine ao (hc:=t25) (hX:=fun _ _=>trivial) ?_);apply ab;refine ai ?_)<;>(refine aa 13 (hy:=by (apply gg;rfl;rfl;assumption;assumption)) ?_)<;>refine aa 14 ?_<;>(refine ax ?_)
   apply Qu
   (refine aU [orow 128 1 (.slice A 8 c) 8 (u32n [a,b,d,e,f,g,p,q])] (fun w=>(U32s w sh h.l∧U32s w sw (row2 l 48))∧U32s w sk kN) ak ?_)
   all_goals refine aa 0 ?_<;>(refine aa 1 (hy:=by (apply aL (q:=7);rfl;rfl;omega;omega;assumption;omega)) ?_)<;>(refine aa 2 (hy:=by (apply cY;rfl;exact aI;exact hn;exact hg7)) ?_)<;>refine aa 3 ?_<;>(refine aa 4 (hy:=by (apply ex;rfl;rfl)) ?_)<;>refine aa 5 ?_<;>(refine aa 6 (hy:=by (apply aL (q:=4);rfl;rfl;omega;omega;assumption;omega)) ?_)<;>(refine aa 7 (hy:=by (apply cY;rfl;exact aI;exact hn;exact hg4)) ?_)<;>refine aa 8 ?_<;>(refine aa 9 (hy:=by (apply aL (q:=5);rfl;rfl;omega;omega;assumption;omega)) ?_)<;>(refine aa 10 (hy:=by (apply cY;rfl;exact aI;exact hn;exact hg5)) ?_)<;>(refine aa 11 (hy:=by (apply j7;rfl;rfl;assumption;assumption)) ?_)<;>refine aa 12 ?_<;>(refine aa 13 (hy:=by (apply aL (q:=4);rfl;rfl;omega;omega;assumption;omega)) ?_)<;>(refine aa 14 (hy:=by (apply cY;rfl;exact aI;exact hn;exact hg4)) ?_)<;>(refine aa 15 (hy:=by (apply Br;rfl;assumption)) ?_)<;>refine aa 16 ?_<;>(refine aa 17 (hy:=by (apply aL (q:=6);rfl;rfl;omega;omega;assumption;omega)) ?_)<;>(refine aa 18 (hy:=by (apply cY;rfl;exact aI;exact hn;exact hg6)) ?_)<;>(refine aa 19 (hy:=by (apply j7;rfl;rfl;assumption;assumption)) ?_)<;>(refine aa 20 (hy:=by (apply gg;rfl;rfl;assumption;assumption)) ?_)<;>(refine aa 21 (hy:=by (apply ex;rfl;rfl)) ?_)<;>refine aa 22 ?_<;>refine aa 23 ?_<;>(refine aa 24 (hy:=by (apply aL (q:=k);rfl;rfl;omega;omega;assumption;omega)) ?_)<;>(refine aa 25 (hy:=by (apply cW (q:=k) (u:=.int .u32 (kk:Int));rfl;exact hgk)) ?_)<;>(refine aa 26 (hy:=by (apply ex;rfl;rfl)) ?_)<;>refine aa 27 ?_<;>refine aa 28 ?_<;>(refine aa 29 (hy:=by (apply aL (q:=k);rfl;rfl;omega;omega;assumption;omega)) ?_)<;>(refine aa 30 (hy:=by (apply cW (q:=k) (u:=.int .u32 (ww:Int));rfl;exact hgw)) ?_)<;>(refine aa 31 (hy:=by (apply ex;rfl;rfl)) ?_)<;>refine aa 32 ?_<;>(refine ax ?_)
   apply Qu
   (refine aU [orow 128 1 (.slice A 8 c) 8 (u32n [a,b,d,e,f,g,p,q])] (fun w=>(U32s w sh h.l∧U32s w sw (row2 l 48))∧U32s w sk kN) ak ?_)
   all_goals refine aa 0 ?_<;>(refine aa 1 (hy:=by (apply aL (q:=0);rfl;rfl;omega;omega;assumption;omega)) ?_)<;>(refine aa 2 (hy:=by (apply cY;rfl;exact aI;exact hn;exact hg0)) ?_)<;>refine aa 4 ?_<;>(refine aa 5 (hy:=by (apply aL (q:=0);rfl;rfl;omega;omega;assumption;omega)) ?_)<;>(refine aa 6 (hy:=by (apply cY;rfl;exact aI;exact hn;exact hg0)) ?_)<;>refine aa 9 ?_<;>(refine aa 10 (hy:=by (apply aL (q:=0);rfl;rfl;omega;omega;assumption;omega)) ?_)<;>(refine aa 11 (hy:=by (apply cY;rfl;exact aI;exact hn;exact hg0)) ?_)<;>(refine ag 3 ?_;(refine ao (hc:=t2) (hX:=fun _ _=>trivial) ?_);apply ab;refine ai ?_)<;>(refine ag 7 ?_;(refine ao (hc:=t13) (hX:=fun _ _=>trivial) ?_);apply ab;refine ai ?_)<;>(refine aa 8 (hy:=by (apply gg;rfl;rfl;assumption;assumption)) ?_)<;>(refine ag 12 ?_;(refine ao (hc:=t22) (hX:=fun _ _=>trivial) ?_);apply ab;refine ai ?_)<;>(refine aa 13 (hy:=by (apply gg;rfl;rfl;assumption;assumption)) ?_)<;>refine aa 14 ?_<;>(refine ax ?_)
   apply Qu
   (refine aU [orow 128 1 (.slice A 8 c) 8 (u32n [a,b,d,e,f,g,p,q])] (fun w=>(U32s w sh h.l∧U32s w sw (row2 l 48))∧U32s w sk kN) ak ?_)
   all_goals refine aa 0 ?_<;>refine aa 1 ?_<;>(refine aa 2 (hy:=by (apply aL (q:=0);rfl;rfl;omega;omega;assumption;omega)) ?_)<;>(refine aa 3 (hy:=by (apply cY;rfl;exact aI;exact hn;exact hg0)) ?_)<;>refine aa 4 ?_<;>(refine aa 5 (hy:=by (apply aL (q:=1);rfl;rfl;omega;omega;assumption;omega)) ?_)<;>(refine aa 6 (hy:=by (apply cY;rfl;exact aI;exact hn;exact hg1)) ?_)<;>(refine aa 7 (hy:=by (apply j7;rfl;rfl;assumption;assumption)) ?_)<;>refine aa 8 ?_<;>(refine aa 9 (hy:=by (apply aL (q:=0);rfl;rfl;omega;omega;assumption;omega)) ?_)<;>(refine aa 10 (hy:=by (apply cY;rfl;exact aI;exact hn;exact hg0)) ?_)<;>refine aa 11 ?_<;>(refine aa 12 (hy:=by (apply aL (q:=2);rfl;rfl;omega;omega;assumption;omega)) ?_)<;>(refine aa 13 (hy:=by (apply cY;rfl;exact aI;exact hn;exact hg2)) ?_)<;>(refine aa 14 (hy:=by (apply j7;rfl;rfl;assumption;assumption)) ?_)<;>(refine aa 15 (hy:=by (apply gg;rfl;rfl;assumption;assumption)) ?_)<;>refine aa 16 ?_<;>(refine aa 17 (hy:=by (apply aL (q:=1);rfl;rfl;omega;omega;assumption;omega)) ?_)<;>(refine aa 18 (hy:=by (apply cY;rfl;exact aI;exact hn;exact hg1)) ?_)<;>refine aa 19 ?_<;>(refine aa 20 (hy:=by (apply aL (q:=2);rfl;rfl;omega;omega;assumption;omega)) ?_)<;>(refine aa 21 (hy:=by (apply cY;rfl;exact aI;exact hn;exact hg2)) ?_)<;>(refine aa 22 (hy:=by (apply j7;rfl;rfl;assumption;assumption)) ?_)<;>(refine aa 23 (hy:=by (apply gg;rfl;rfl;assumption;assumption)) ?_)<;>(refine aa 24 (hy:=by (apply ex;rfl;rfl)) ?_)<;>refine aa 25 ?_<;>(refine ax ?_)
   obtain ⟨one,h1⟩:∃ x,x=((((q+((r6 ^^^ r11) ^^^ r25))%4294967296+((f &&& g) ^^^ ((4294967295 ^^^ f) &&& p)))%4294967296+kk)%4294967296+ww)%4294967296:=⟨_,rfl⟩
   obtain ⟨two,h2⟩:∃ x,x=(((r2 ^^^ r13) ^^^ r22)+(((a &&& b) ^^^ (a &&& d)) ^^^ (b &&& d)))%4294967296:=⟨_,rfl⟩
   rw [←h1,←h2] at hnext
   rw [←h1,←h2]
   (refine aU [orow 128 1 (.slice A 8 c) 8 (u32n [a,b,d,e,f,g,p,q])] (fun w=>(U32s w sh h.l∧U32s w sw (row2 l 48))∧U32s w sk kN) ak ?_)
   all_goals refine aa 0 ?_<;>refine aa 1 ?_<;>(refine aa 2 (hy:=by (apply ex;rfl;rfl)) ?_)<;>refine aa 3 ?_<;>(refine aa 4 (hy:=by (apply aL (q:=0);rfl;rfl;omega;omega;assumption;omega)) ?_)<;>(refine aa 5 (hy:=by (apply cY;rfl;exact aI;exact hn;exact hg0)) ?_)<;>refine aa 6 ?_<;>(refine aa 7 (hy:=by (apply aL (q:=1);rfl;rfl;omega;omega;assumption;omega)) ?_)<;>(refine aa 8 (hy:=by (apply cY;rfl;exact aI;exact hn;exact hg1)) ?_)<;>refine aa 9 ?_<;>(refine aa 10 (hy:=by (apply aL (q:=2);rfl;rfl;omega;omega;assumption;omega)) ?_)<;>(refine aa 11 (hy:=by (apply cY;rfl;exact aI;exact hn;exact hg2)) ?_)<;>refine aa 12 ?_<;>(refine aa 13 (hy:=by (apply aL (q:=3);rfl;rfl;omega;omega;assumption;omega)) ?_)<;>(refine aa 14 (hy:=by (apply cY;rfl;exact aI;exact hn;exact hg3)) ?_)<;>refine aa 15 ?_<;>(refine aa 16 (hy:=by (apply ex;rfl;rfl)) ?_)<;>refine aa 17 ?_<;>(refine aa 18 (hy:=by (apply aL (q:=4);rfl;rfl;omega;omega;assumption;omega)) ?_)<;>(refine aa 19 (hy:=by (apply cY;rfl;exact aI;exact hn;exact hg4)) ?_)<;>refine aa 20 ?_<;>(refine aa 21 (hy:=by (apply aL (q:=5);rfl;rfl;omega;omega;assumption;omega)) ?_)<;>(refine aa 22 (hy:=by (apply cY;rfl;exact aI;exact hn;exact hg5)) ?_)<;>refine aa 23 ?_<;>(refine aa 24 (hy:=by (apply aL (q:=6);rfl;rfl;omega;omega;assumption;omega)) ?_)<;>(refine aa 25 (hy:=by (apply cY;rfl;exact aI;exact hn;exact hg6)) ?_)<;>(refine ag 26 ?_;(refine bU (vs:=u32n [(one+two)%4294967296,a,b,d,(e+one)%4294967296,f,g,p]) fun bb=>?_;refine nv 1 8 rfl (by decide) ?_);apply ab;refine ai ?_)<;>refine aa 27 ?_<;>(refine ax ?_)
   repeat' (first|apply ab|apply Qv|refine aj ?_|refine ad ?_|refine be (h:=?_)|fail)
   exact ⟨(⟨k+1,hlt,some ⟨bb,0,none⟩,8⟩:RowA 64),(by show 64-(k+1)<64-k;omega),aw ⟨rfl,rfl,rfl,rfl,rfl,trivial⟩ (by rw [hnext];exact .cons_cons _ (ZR _)) fun _ h=>h⟩
 · obtain rfl:k=64:=by omega
   have hmix:=Cx h (winN (fW l) 0)
   rw [qJ] at hmix
   generalize rndN (fW l) h 64=S at *
   refine aT (ι:=RowA 8) (fun i=>⟨[(0,sh.v),(7,.slice A 8 c),(13,.int .i64 (i.k:Nat))],[orow 128 1 (.slice A 8 c) 8 (u32n (accL S.l h.l i.k))],fun w=>U32s w sh h.l⟩) (fun i=>8-i.k) ⟨0,by omega,A,c⟩ (aw ⟨rfl,rfl,rfl,trivial⟩ (aE _) fun _ h=>h.1.1) fun i=>?_
   obtain ⟨k,hk,_,_⟩:=i
   simp only
   have hlen:(accL S.l h.l k).length=8:=qi _ _ k
   repeat' (first|apply ab|apply Qu|apply Qv|refine aj ?_|refine ad ?_|refine bj ?_|apply Qx|apply Qw|apply ar|apply aQ|(refine aG (ht:=?_) (hf:=?_);all_goals (intro hx_;first|have:=aP hx_|have:=aS hx_)))
   · have hlt:k<8:=by omega
     have hn:8=(u32n (accL S.l h.l k)).length:=by rw [oJ,hlen]
     obtain ⟨v,hv⟩:∃ v,v=(accL S.l h.l k).getD k 0:=⟨_,rfl⟩
     obtain ⟨u,hu⟩:∃ u,u=h.l.getD k 0:=⟨_,rfl⟩
     have hg:(u32n (accL S.l h.l k))[k]?=some (.int .u32 (v:Int)):=by rw [oK ae,hv]
     have hget:∀ w,U32s w sh h.l→CellAt w sh.p k (.int .u32 (u:Int)):=fun w h1=>hu▸il (f:=fun n=>.int .u32 (n:Int)) h1 (by rw [show h.l.length=8 from rfl];exact hlt)
     have hacc:accL S.l h.l (k+1)=(accL S.l h.l k).set k ((v+u)%4294967296):=by rw [accL,hv,hu]
     have hset:=vP (accL S.l h.l k) (i:=k) (v:=(v+u)%4294967296) ae
     rw [←hacc] at hset
     (refine aU [] (fun w=>U32s w sh h.l) ak ?_)
     all_goals refine aa 0 ?_<;>refine aa 1 ?_<;>refine aa 2 ?_<;>refine aa 3 ?_<;>(refine aa 4 (hy:=by (apply aL (q:=k);rfl;rfl;omega;omega;assumption;omega)) ?_)<;>refine aa 6 ?_<;>refine aa 7 ?_<;>(refine aa 8 (hy:=by (apply aL (q:=k);rfl;rfl;omega;omega;assumption;omega)) ?_)<;>(refine aa 9 (hy:=by (apply cW (q:=k) (u:=.int .u32 (u:Int));rfl;exact hget)) ?_)<;>(refine ag 5 ?_;(refine am (cY rfl aI hn hg) rfl aB rfl ?_);apply ab;refine ai ?_)<;>(refine aa 10 (hy:=by (apply ex;rfl;rfl)) ?_)<;>(refine aa 11 (hy:=by (apply aL (q:=k);rfl;rfl;omega;omega;assumption;omega)) ?_)<;>(refine ag 12 ?_;(refine nu (A:=A) (m:=8) (c:=c) (e:=128) (size:=1) (i:=k) (xs:=u32n (accL S.l h.l k)) (xs':=u32n (accL S.l h.l (k+1))) (vs:=[.int .u32 (((v+u)%4294967296:Nat):Int)]) (v:=.int .u32 (((v+u)%4294967296:Nat):Int)) ak (by rw [Nat.mul_one];rfl) rfl rfl rfl rfl hlt hset (At.here _) rfl aB rfl ?_);apply ab;refine ai ?_)<;>(refine ax ?_)
     repeat' (first|apply ab|apply Qv|refine aj ?_|refine ad ?_|refine be (h:=?_)|fail)
     exact ⟨(⟨k+1,hlt,A,c⟩:RowA 8),(by show 8-(k+1)<8-k;omega),aw ⟨rfl,rfl,rfl,trivial⟩ (aE _) fun _ h=>h⟩
   · obtain rfl:k=8:=by omega
     have he:accL S.l h.l 8=(mixN h (winN (fW l) 0)).l:=by
      rw [hmix]
      obtain ⟨a,b,d,e,f,g,p,q⟩:=S
      obtain ⟨a',b',d',e',f',g',p',q'⟩:=h
      simp only [accL,S8.l,List.set_cons_zero,List.set_cons_succ,List.getD_cons_zero,List.getD_cons_succ,List.cons.injEq,and_true,Qj]
     rw [he]
     exact al (aq rfl rfl) ⟨⟨A,8,c⟩,rfl,fun w h1=>U32s.of_row (h1.2 (orow 128 1 (.slice A 8 c) 8 (u32n (mixN h (winN (fW l) 0)).l)) aI) rfl⟩
theorem Bz (l:List Nat):u8s (l.map fun (n:Nat)=>(n:Int))=l.map fun (n:Nat)=>(.int .u8 (n:Int):Value):=by simp [u8s]
theorem U8s.of_row {w:World} {e n c:Nat} {A:Option Addr} {l:List Nat} (h:ORow w e 1 (.slice A n c) n (u8s (l.map fun (n:Nat)=>(n:Int)))) (hn:n=l.length):U8s w ⟨A,n,c⟩ l:=by
 have e1:(l.map fun (n:Nat)=>[(.int .u8 (n:Int):Value)]).flatten=u8s (l.map fun (n:Nat)=>(n:Int)):=by
  rw [Bz]
  clear h hn
  induction l with
  | nil=>rfl
  | cons a l ih=>rw [Qt,List.flatten_cons,ih];rfl
 rw [←e1] at h
 exact cj h (by rw [Z3,hn]) fun r hr=>by
  obtain ⟨n,_,rfl⟩:=List.mem_map.1 hr
  rfl
theorem U8s.part {w:World} {s:SlV} {l:List Nat} (h:U8s w s l) {i n:Nat} (hi:i+n≤l.length):U8s w ⟨(s.from 1 i).p,n,s.c-i⟩ ((l.drop i).take n):=by
 have h1:=RowsD.drop h (n:=i) (by rw [Z3];omega)
 rw [←List.map_drop] at h1
 have h2:=RowsD.take h1 (n:=n) (by rw [Z3,List.length_drop];omega)
 rw [←List.map_take] at h2
 exact h2
def padI (s:ByteArray):List Int:=endL s++List.replicate (padN (s.size+1)) 0++sizeB s.size 8
theorem zV (s:ByteArray) (hs:s.size<2305843009213693952):padI s=(padL (nl s)).map fun (n:Nat)=>(n:Int):=by
 rw [padI,endL,jp,padL,dw,oS s.size hs]
 simp
theorem BU (l:List Nat) (h:∀ x∈l,x<256):∀ x∈padL l,x<256:=fun x hx=>by
 rw [padL] at hx
 rcases List.mem_append.1 hx with hx|hx
 · exact h x hx
 · rcases List.mem_cons.1 hx with rfl|hx
   · omega
   · rcases List.mem_append.1 hx with hx|hx
     · rw [(List.mem_replicate.1 hx).2];omega
     · rw [sizeN] at hx
       simp only [Z8,List.not_mem_nil,or_false] at hx
       rcases hx with rfl|rfl|rfl|rfl|rfl|rfl|rfl|rfl<;>exact Nat.mod_lt _ ae
theorem sE (l:List Nat):(padL l).length=l.length+1+padN (l.length+1)+8:=by
 rw [padL]
 simp [sizeN]
 omega
theorem qW (l:List Nat):(padL l).length%64=0:=by
 rw [sE,padN]
 omega
section
variable {P:Program} {N:Nat} {av bor:List Nat} {w0:World} {st:St} {ty:TypeId} {x y z:Operand} {t t2:TypeId} {a b:Nat}
theorem vE (hx:ev st.env x=some (.int .i64 (a:Int))) (hy:ev st.env y=some (.int .i64 (b:Int))) (hc:a+b<9223372036854775808):Sy.Yields P N av bor w0 st (.binOp .add t x y t2) ty (.int .i64 ((a+b:Nat):Int)) :=
 ms hx hy (by rw [←Int.natCast_add];exact IntWalk.i64_in _ ae)
theorem Bn {e size b':Nat} [hI:TySl P t e size b'] {s:SlV} {i n:Nat} (hx:ev st.env x=some s.v) (hy:ev st.env y=some (.int .i64 (i:Int))) (hz:ev st.env z=some (.int .i64 ((i+n:Nat):Int))) (h2:i+n≤s.c) :
  Sy.Yields P N av bor w0 st (.slice t x (some y) (some z) none) ty (⟨(s.from size i).p,n,s.c-i⟩:SlV).v:=by
 have h:=yE (P:=P) (N:=N) (av:=av) (bor:=bor) (w0:=w0) (st:=st) (ty:=ty) (t:=t) (size:=size) hx hy hz ae ae ae
 have e1:((i:Nat):Int).toNat=i:=rfl
 have e2:((i+n:Nat):Int).toNat-i=n:=by omega
 rw [e1,e2] at h
 exact h
end
def outB (S:S8) (i:Nat):Nat:=(S.l.getD (i/4) 0/2 ^ (24-8*(i%4)))%256
theorem AN (S:S8):digN S=(List.range 32).map (outB S):=by
 obtain ⟨a,b,c,d,e,f,g,h⟩:=S
 simp [digN,d4N,outB,S8.l,List.range,List.range.loop]
structure ShaI (L:List Nat) (m:Nat) where
 k:Nat
 hk:k≤m
 s:SlV
 S:S8
 lt:S.Lt
 run:runN (m-k) S (L.drop (64*k))=runN m iniN L
set_option maxRecDepth 20000 in
set_option maxHeartbeats 8000000 in
theorem mF (s:ByteArray) (hs:s.size≤1099511627776):Pu Tryz.prog 109 #[.string s] (fun _=>True) (.string (shaV s)):=by
 refine ay (args:=[_]) _ Tryz.func109 rfl Tryz.ntmps109 rfl fun av bor w0=>?_
 repeat' (first|apply ab|apply Qu|apply Qv|refine aj ?_|refine ad ?_|refine bU fun _=>?_|(refine qA fun A c=>?_))
 refine aV (size:=1) (z:=.int .u8 0) (news:=u8s [128]) (q:=1) rfl rfl rfl rfl (fun _=>At.there _ (At.here _)) (fun w G=>bo G aI rfl rfl 1) ?_ ?_ rfl ?_ rfl ?_
 · omega
 · simp only [maxLen];omega
 · rfl
 intro A1 c1
 repeat' (first|apply ab|apply Qu|refine ad ?_|apply Qw|fail)
 have hel:=lN s
 refine aT (ι:=EndS (padN (s.size+1))) (fun i=>⟨[(0,.string s),(3,.slice i.A (s.size+1+i.k) i.c)],[orow 5 1 (.slice i.A (s.size+1+i.k) i.c) (s.size+1+i.k) (u8s (endL s++List.replicate i.k 0))],fun _=>True⟩) (fun i=>padN (s.size+1)-i.k) ⟨0,Nat.zero_le _,A1,c1⟩ (aw ⟨rfl,rfl,trivial⟩ ?_ fun _ h=>h) fun i=>?_
 · refine List.Sublist.cons _ ?_
   rw [←cr]
   simp only [List.replicate_zero,Z9]
   exact aE _
 have hik:=i.hk
 have hp:padN (s.size+1)<64:=Nat.mod_lt _ ae
 have hp2:padN (s.size+1)=(120-(s.size+1)%64)%64:=rfl
 have htm:Int.tmod ((s.size+1+i.k:Nat):Int) 64=(((s.size+1+i.k)%64:Nat):Int):=Int.ofNat_tmod _ _
 repeat' (first|apply Qu|apply Qv|refine aj ?_|refine aY ?_|fail)
 refine fw (hc:=htm) ?_
 repeat' (first|apply ab|apply Qu|apply Qv|refine aj ?_|refine ad ?_|refine dJ ?_|refine bT ?_|refine bU fun _=>?_|apply Qx|apply Qw|apply aQ|refine eE (h:=?_)|refine d8 (h:=?_)|(refine aG (ht:=?_) (hf:=?_);all_goals (intro hx_;skip)))
 · have hlt:i.k<padN (s.size+1):=by
    have h1:¬ (((s.size+1+i.k)%64:Nat):Int)=56:=by simpa using hx_
    omega
   refine aV (size:=1) (z:=.int .u8 0) (news:=u8s [0]) (q:=1) rfl rfl rfl rfl (fun _=>At.there _ (At.here _)) (fun w G=>bo G aI rfl rfl 1) ?_ ?_ rfl ?_ rfl ?_
   · omega
   · simp only [maxLen];omega
   · rfl
   intro A2 c2
   repeat' (first|apply ab|refine ad ?_|fail)
   refine ⟨(⟨i.k+1,hlt,A2,c2⟩:EndS (padN (s.size+1))),(by show padN (s.size+1)-(i.k+1)<padN (s.size+1)-i.k;omega),aw ⟨rfl,rfl,trivial⟩ ?_ fun _ h=>h⟩
   refine List.Sublist.cons _ ?_
   rw [←cr]
   simp only [List.replicate_succ',ZZ]
   exact aE _
 have hk:i.k=padN (s.size+1):=by
  have h1:(((s.size+1+i.k)%64:Nat):Int)=56:=by simpa using hx_
  omega
 have hl1:(endL s++List.replicate (padN (s.size+1)) 0:List Int).length=s.size+1+padN (s.size+1):=by simp [hel]
 rw [hk]
 have hpad:=zV s ae
 have hplen:(padL (nl s)).length=s.size+1+padN (s.size+1)+8:=by rw [sE,dw]
 rw [padI] at hpad
 have h8:IntKind.u64.wrap (8*IntKind.u64.wrap (s.size:Int))=IntKind.u64.wrap (IntKind.u64.wrap (s.size:Int)*8):=by rw [Int.mul_comm]
 rw [h8]
 generalize hL:(endL s++List.replicate (padN (s.size+1)) 0:List Int)=L0 at *
 refine aT (ι:=EndS 8) (fun j=>⟨[(3,.slice j.A (s.size+1+padN (s.size+1)+j.k) j.c),(4,.int .u64 (IntKind.u64.wrap (IntKind.u64.wrap (s.size:Int)*8))),(5,.int .i64 (56-8*(j.k:Int)))],[orow 5 1 (.slice j.A (s.size+1+padN (s.size+1)+j.k) j.c) (s.size+1+padN (s.size+1)+j.k) (u8s (L0++sizeB s.size j.k))],fun _=>True⟩) (fun j=>8-j.k) ⟨0,Nat.zero_le _,i.A,i.c⟩ (aw ⟨rfl,rfl,rfl,trivial⟩ ?_ fun _ h=>h) fun j=>?_
 · have e:sizeB (s.size:Int) 0=[]:=rfl
   simp only [e,Z9]
   exact aE _
 have hjk:=j.hk
 repeat' (first|apply ab|apply Qu|apply Qv|refine aj ?_|refine cZ ?_|refine bU fun _=>?_|apply Qx|apply Qw|apply aQ|refine fe (h:=?_)|refine d8 (h:=?_)|(refine aG (ht:=?_) (hf:=?_);all_goals (intro hx_;first|have:=aP hx_|have:=aS hx_)))
 · have hlt:j.k<8:=by omega
   refine aV (size:=1) (z:=.int .u8 0) (news:=u8s [IntKind.u8.wrap (shrV .u64 (IntKind.u64.wrap (IntKind.u64.wrap (s.size:Int)*8)) (56-8*(j.k:Int)))]) (q:=1) rfl rfl rfl rfl (fun _=>At.there _ (At.here _)) (fun w G=>bo G aI rfl rfl 1) ?_ ?_ rfl ?_ rfl ?_
   · omega
   · simp only [maxLen];omega
   · rfl
   intro A2 c2
   repeat' (first|apply ab|apply Qv|refine aj ?_|refine ad ?_|refine df (h:=?_)|fail)
   refine ⟨(⟨j.k+1,hlt,A2,c2⟩:EndS 8),(by show 8-(j.k+1)<8-j.k;omega),aw ⟨rfl,rfl,?_,trivial⟩ ?_ fun _ h=>h⟩
   · show some (Value.int .i64 (56-8*(j.k:Int)-8))=some (Value.int .i64 (56-8*((j.k+1:Nat):Int)))
     congr 2
     omega
   refine List.Sublist.cons _ ?_
   rw [←cr]
   have e:sizeB (s.size:Int) (j.k+1)=sizeB s.size j.k++[IntKind.u8.wrap (shrV .u64 (IntKind.u64.wrap (IntKind.u64.wrap (s.size:Int)*8)) (56-8*(j.k:Int)))]:=by simp [sizeB,List.range_succ]
   simp only [e,ZZ]
   exact aE _
 have hj8:j.k=8:=by omega
 rw [hj8,hpad]
 obtain ⟨sp,hsp⟩:∃ sp:SlV,sp=⟨j.A,s.size+1+padN (s.size+1)+8,j.c⟩:=⟨_,rfl⟩
 have hLt:=BU (nl s) (ix s)
 have hLm:=qW (nl s)
 have hsha:=BF s ae
 rw [shaL] at hsha
 obtain ⟨L,hLL⟩:∃ L,L=padL (nl s):=⟨_,rfl⟩
 rw [←hLL] at hplen hLt hLm hsha
 obtain ⟨m,hm⟩:∃ m,m=L.length/64:=⟨_,rfl⟩
 rw [←hm] at hsha
 have hL64:L.length=64*m:=by omega
 refine cq ?_
 repeat' (first|apply ab|apply Qu|apply Qv|refine ad ?_|apply Qw|(refine dA (hc:=nJ) (hX:=fun _ _=>trivial) fun v1 X1 h1=>?_;obtain ⟨sh0,rfl,hw0⟩:=h1)|fail)
 have hspD:∀ w,(True∧(orow 5 1 (.slice j.A (s.size+1+padN (s.size+1)+8) j.c) (s.size+1+padN (s.size+1)+8) (u8s ((padL (nl s)).map fun (n:Nat)=>(n:Int)))).F w)→U8s w sp L:=fun w h=>by
  rw [hsp,hLL]
  exact U8s.of_row h.2 (by rw [←hLL];exact hplen.symm)
 have hp0:0<L.length:=by omega
 refine bI (p:=sp.c≥L.length∧sp.p.isSome=true) (fun w h=>⟨by
  have h1:=RowsD.cap (hspD w h.1)
  have h2:=gG (f:=fun n=>.int .u8 (n:Int)) (hspD w h.1)
  omega,fH (f:=fun n=>.int .u8 (n:Int)) (hspD w h.1) hp0⟩) fun ⟨hsc,hspp⟩=>?_
 have hspn:sp.n=L.length:=by rw [hsp,hplen]
 have hspv:sp.v=.slice j.A (s.size+1+padN (s.size+1)+8) j.c:=by rw [hsp];rfl
 refine aT (ι:=ShaI L m) (fun i=>⟨[(3,sp.v),(6,i.s.v),(7,.int .i64 ((64*i.k:Nat):Int))],[],fun w=>U8s w sp L∧U32s w i.s i.S.l⟩) (fun i=>m-i.k) ⟨0,Nat.zero_le _,sh0,iniN,B1,by rw [Nat.mul_zero,List.drop_zero,Nat.sub_zero]⟩ (aw ⟨by rw [hspv];rfl,rfl,rfl,trivial⟩ (aE _) fun w h=>⟨hspD w h.1,hw0 w h.2⟩) fun i=>?_
 obtain ⟨k,hk2,sh,S,hSl,hrun⟩:=i
 simp only
 repeat' (first|refine am (vE (b:=64) rfl rfl ae) rfl aB rfl ?_|apply ab|apply Qu|apply Qv|refine aj ?_|refine ad ?_|refine bj ?_|refine aY ?_|apply Qx|apply Qw|apply aQ|(refine aG (ht:=?_) (hf:=?_);all_goals (intro hx_;first|have:=aP hx_|have:=aS hx_)))
 · have hlt:k<m:=by omega
   have hdl:(L.drop (64*k)).length=64*(m-k):=by rw [List.length_drop];omega
   have hpl:((L.drop (64*k)).take 64).length=64:=by rw [List.length_take];omega
   have hpb:∀ x∈(L.drop (64*k)).take 64,x<256:=fun x hx=>hLt x (List.mem_of_mem_drop (List.mem_of_mem_take hx))
   have hne:=qM sh ⟨(sp.from 1 (64*k)).p,64,sp.c-64*k⟩ S hSl _ hpl hpb
   have hcg:winN (fW ((L.drop (64*k)).take 64)) 0=winN (fW (L.drop (64*k))) 0:=kc fun t ht=>sX t ht
   rw [hcg] at hne
   have hrun2:runN (m-(k+1)) (mixN S (winN (fW (L.drop (64*k))) 0)) (L.drop (64*(k+1)))=runN m iniN L:=by
    have e1:m-k=(m-(k+1))+1:=by omega
    rw [e1,fG ae,List.drop_drop] at hrun
    rw [show 64*(k+1)=64*k+64 from by omega]
    exact hrun
   repeat' (first|refine am (vE (b:=64) rfl rfl ae) rfl aB rfl ?_|apply ab|apply Qv|refine aj ?_|refine ad ?_|(refine am (Bn (size:=1) rfl rfl rfl ae) rfl aB rfl ?_)|(refine dA (hc:=hne) (hX:=fun w h=>⟨h.2,U8s.part h.1 ae⟩) fun v2 X2 h2=>?_;obtain ⟨s2,rfl,hw2⟩:=h2)|fail)
   exact ⟨(⟨k+1,hlt,s2,_,BY _ _,hrun2⟩:ShaI L m),(by show m-(k+1)<m-k;omega),aw ⟨rfl,rfl,rfl,trivial⟩ (aE _) fun w h=>⟨h.1.1,hw2 w h.2⟩⟩
 · obtain rfl:k=m:=by omega
   rw [Nat.sub_self] at hrun
   have hS:S=runN k iniN L:=hrun
   rw [←hS,AN] at hsha
   refine bI (p:=sh.n=8∧sh.p.isSome=true) (fun w h1=>⟨by rw [gG (f:=fun n=>.int .u32 (n:Int)) h1.2];rfl,fH (f:=fun n=>.int .u32 (n:Int)) h1.2 (by rw [show S.l.length=8 from rfl];omega)⟩) fun ⟨hsn,hshp⟩=>?_
   refine cU 5 1 ?_
   refine aT (ι:=RowA 32) (fun i=>⟨[(6,sh.v),(8,.slice i.A i.k i.c),(9,.int .i64 (i.k:Nat))],[orow 5 1 (.slice i.A i.k i.c) i.k (u8s (((List.range i.k).map (outB S)).map fun (n:Nat)=>(n:Int)))],fun w=>U32s w sh S.l⟩) (fun i=>32-i.k) ⟨0,by omega,none,0⟩ (aw ⟨rfl,rfl,rfl,trivial⟩ (.cons_cons _ (ZR _)) fun _ h=>h.2) fun i=>?_
   obtain ⟨k2,hk3,A3,c3⟩:=i
   simp only
   clear hspD hrun hLt hLm hplen
   repeat' (first|apply ab|apply Qu|apply Qv|refine aj ?_|refine bj ?_|apply Qx|apply Qw|apply aQ|(refine aG (ht:=?_) (hf:=?_);all_goals (intro hx_;first|have:=aP hx_|have:=aS hx_)))
   · have hlt:k2<32:=by omega
     obtain ⟨q,hq⟩:∃ q,q=k2/4:=⟨_,rfl⟩
     obtain ⟨r,hr⟩:∃ r,r=k2%4:=⟨_,rfl⟩
     have h1:IntKind.i64.wrap ((k2:Int).tdiv 4)=(q:Int):=by
      rw [show (k2:Int).tdiv 4=((k2/4:Nat):Int) from Int.ofNat_tdiv _ _,←hq]
      exact IntWalk.i64_in _ ae
     have h2:(k2:Int).tmod 4=(r:Int):=by rw [show (k2:Int).tmod 4=((k2%4:Nat):Int) from Int.ofNat_tmod _ _,←hr]
     obtain ⟨u,hu⟩:∃ u,u=24-8*r:=⟨_,rfl⟩
     have h3:IntKind.i64.wrap (24-((8*r:Nat):Int))=(u:Int):=by
      rw [show 24-((8*r:Nat):Int)=(u:Int) from by omega]
      exact IntWalk.i64_in _ ae
     obtain ⟨x,hx⟩:∃ x,x=S.l.getD q 0:=⟨_,rfl⟩
     have hx2:x<4294967296:=by
      obtain ⟨a,b,c,d,e,f,g,h⟩:=S
      obtain ⟨ha,hb,hc,hd,he,hf,hg,hh⟩:=hSl
      simp only at ha hb hc hd he hf hg hh
      have:q<8:=by omega
      rw [hx]
      have hq8:q=0∨q=1∨q=2∨q=3∨q=4∨q=5∨q=6∨q=7:=by omega
      rcases hq8 with h|h|h|h|h|h|h|h<;>rw [h]<;>assumption
     have hg:∀ w,U32s w sh S.l→CellAt w sh.p q (.int .u32 (x:Int)):=fun w h=>hx▸il (f:=fun n=>.int .u32 (n:Int)) h (by rw [show S.l.length=8 from rfl];omega)
     have hpw:(2:Int) ^ (min ((u:Int)).toNat 32)=((2 ^ u:Nat):Int):=by
      rw [Qr,Nat.min_eq_left (by omega)]
      simp
     have h8w:IntKind.u8.wrap ((x/2 ^ u:Nat):Int)=((outB S k2:Nat):Int):=by rw [wrap8,outB,←hq,←hr,←hu,←hx]
     have hrow:(List.range (k2+1)).map (outB S)=(List.range k2).map (outB S)++[outB S k2]:=by rw [List.range_succ,Qn];rfl
     have hou:outB S k2<256:=Nat.mod_lt _ ae
     generalize outB S k2=ob at *
     repeat' (first|refine am (mo (c:=(q:Int)) rfl rfl (by decide) h1) rfl aB rfl ?_|refine am (oy (c:=(r:Int)) rfl rfl (by decide) h2) rfl aB rfl ?_|refine am (j4 (a:=8) (b:=r) rfl rfl ae) rfl aB rfl ?_|refine am (mn (c:=(u:Int)) rfl rfl h3) rfl aB rfl ?_|refine am (qm (p:=2 ^ u) rfl rfl ae hx2 hpw) rfl aB rfl ?_|refine am (jr rfl h8w) rfl aB rfl ?_|apply ab|apply Qv|refine aj ?_|refine ad ?_|refine be (h:=?_)|refine bU fun _=>?_|(refine bu (q:=q) ?_)|(refine dD (q:=q) (u:=.int .u32 (x:Int)) (hF:=hg) ?_)|(refine aV (size:=1) (z:=.int .u8 0) (news:=u8s [(ob:Int)]) (q:=1) rfl rfl rfl rfl (fun _=>At.there _ (At.here _)) (fun w G=>bo G aI rfl rfl 1) ae (by simp only [maxLen];omega) rfl ?_ rfl ?_;(with_reducible rfl);intro A4 c4)|fail)
     exact ⟨(⟨k2+1,hlt,A4,c4⟩:RowA 32),(by show 32-(k2+1)<32-k2;omega),aw ⟨rfl,rfl,rfl,trivial⟩ (by rw [hrow,Qn,cr];exact .cons _ (aE _)) fun _ h=>h⟩
   · obtain rfl:k2=32:=by omega
     rw [←hsha]
     refine eN (hm:=aI) ?_
     repeat' (first|apply ab|refine ad ?_|apply ar|fail)
     refine al (aq rfl rfl) ?_
     rw [←jp,cX]
theorem x4 (s:ByteArray) {i:Nat} (h:i<s.size):(((s.get! i).toNat:Nat):Int)=byteAt s i:=by
 have hs:i<s.data.size:=h
 rw [byteAt,ZL,Array.getElem?_toList,Array.getElem?_eq_getElem hs]
 show (((s.data[i]!).toNat:Nat):Int)=_
 rw [getElem!_pos s.data i hs]
 rfl
theorem AP {s:ByteArray} {i:Nat} (h:(s.get! i).toNat<128):Utf8.decode s i=((s.get! i).toNat,1):=by
 unfold Utf8.decode
 simp only [Qk,h,Qd]
theorem yn {s:ByteArray} {i:Nat} (h:¬ (s.get! i).toNat<128):128≤(Utf8.decode s i).1:=by
 unfold Utf8.decode
 simp only [Qk,h,Qe]
 repeat' split
 all_goals first
  | (simp only [Utf8.runeError];omega)
  | (simp_all;done)
  | (simp only [ge_iff_le] at *;omega)
  | (simp only [ge_iff_le,ZM,ZT] at *;omega)
theorem jt {bad:Nat→Int→Bool} {s:ByteArray} (hb:∀ q c,128≤c→bad q c=true):∀ f q,s.size≤f+q→runes bad s f q=(List.range' q (s.size-q)).all fun k=>!bad k (byteAt s k)
 | 0,q,h=>by
  rw [runes,show s.size-q=0 from by omega]
  rfl
 | f+1,q,h=>by
  rw [runes]
  by_cases hq:q<s.size
  · rw [ZA hq,ZC]
    have e:s.size-q=(s.size-(q+1))+1:=by omega
    rw [e,List.range'_succ,List.all_cons]
    have hg:=x4 s hq
    by_cases hl:(s.get! q).toNat<128
    · rw [AP hl]
      simp only
      rw [hg]
      cases hbq:bad q (byteAt s q) with
      | true=>rfl
      | false =>
       rw [ZB,jt hb f (q+1) (by omega)]
       rfl
    · have h1:=hb q _ (show (128:Int)≤((Utf8.decode s q).1:Int) by have:=yn hl;omega)
      have h2:=hb q (byteAt s q) (by rw [←hg];omega)
      rw [h1,h2]
      rfl
  · rw [Zn hq,show s.size-q=0 from by omega]
    rfl
theorem mD {bad:Nat→Int→Bool} {s:ByteArray} (hb:∀ q c,128≤c→bad q c=true):runes bad s s.size 0=allB s.size fun k=>bad k (byteAt s k):=by
 rw [jt hb s.size 0 ae,allB,List.range_eq_range']
 rfl
def inChr (c l h:Int):Bool:=decide (l≤c)&&decide (c≤h)
theorem iq (c l h:Int):Pu Tryz.prog 237 #[.int .u8 c,.int .u8 l,.int .u8 h] (fun _=>True) (.bool (inChr c l h)):=by
 refine ay (args:=[_,_,_]) _ Tryz.func237 rfl Tryz.ntmps237 rfl fun av bor w0=>?_
 repeat' (first|apply ab|apply Qu|apply Qv|refine aj ?_|refine ad ?_|refine aD ?_|refine aF ?_|refine cB ?_|refine cZ ?_|refine aK ?_|apply ar|((fail_if_success (refine aZ ?_));refine aR (ht:=?_) (hf:=?_);all_goals (intro hx_;first|have:=aP hx_|have:=aS hx_))|fail)
 (all_goals (apply al;apply aq;rfl;rfl));all_goals (simp only [inChr, *,ZQ,ZO,ZC,ZB,ZE,ZD,ZH,ZG,ZK,ZI,ZP,ZJ,ZN,ZF];done)
def badIdR (s:ByteArray) (k:Nat):Bool:=!inChr (byteAt s k) 48 57&&!inChr (byteAt s k) 97 102
theorem yz (s:ByteArray) (k:Nat):badId k (byteAt s k)=badIdR s k:=by
 simp only [badId,badIdR,dig,inChr]
 congr 1
 rw [Bool.not_and,←decide_not,←decide_not]
 congr 1<;>exact decide_eq_decide.2 ae
theorem Ak (s:ByteArray):isId s=(allB s.size (badIdR s)&&decide ((s.size:Int)=16)):=by
 rw [isId,mD (fun q c h=>by simp only [badId,dig];simp;omega),Bool.and_comm]
 congr 2
 exact funext fun k=>yz s k
theorem fK (s:ByteArray) (hs:s.size≤maxLen):Pu Tryz.prog 207 #[.string s] (fun _=>True) (.bool (isId s)):=by
 refine ay (args:=[_]) _ Tryz.func207 rfl Tryz.ntmps207 rfl fun av bor w0=>?_
 simp only [maxLen] at hs
 rw [Ak]
 repeat' (first|apply ab|apply Qu|apply Qv|refine ad ?_|apply Qw|fail)
 refine aT (ι:=Upto s.size (badIdR s)) (fun i=>⟨[(0,.string s),(3,.int .i64 (i.k:Nat))],[],fun w=>True⟩) (fun i=>s.size-i.k) (Upto.zero _ _) (aw ⟨rfl,rfl,trivial⟩ (aE _) fun _ h=>h) fun i=>?_
 have hik:=i.hk
 have e1:((i.k:Nat):Int).toNat=i.k:=rfl
 have hc1:=iq (byteAt s i.k) 48 57
 have hc2:=iq (byteAt s i.k) 97 102
 repeat' (first|apply ab|apply Qu|apply Qv|refine aj ?_|refine ad ?_|refine aD ?_|refine aF ?_|refine bN ?_|refine bR ?_|refine bj ?_|refine bT ?_|refine be (h:=?_)|refine aK ?_|refine Qz ?_|apply Qx|apply Qw|apply ar|apply aQ|refine g8 ?_|(refine ao (hc:=hc1) ?_)|(refine ao (hc:=hc2) ?_)|((fail_if_success (refine aZ ?_));refine aR (ht:=?_) (hf:=?_);all_goals (intro hx_;skip))|(refine aG (ht:=?_) (hf:=?_);all_goals (intro hx_;first|have:=aP hx_|have:=aS hx_|skip)))
 all_goals first
  | (refine al (aq rfl rfl) ?_;rw [dz (k:=i.k) ae (by simp only [badIdR, *,ZQ,ZO,ZC,ZB,ZE,ZD,ZH,ZG,ZK,ZI,ZP,ZJ,ZN,ZF]),ZG])
  | exact ⟨i.next ae (by simp only [badIdR, *,ZQ,ZO,ZC,ZB,ZE,ZD,ZH,ZG,ZK,ZI,ZP,ZJ,ZN,ZF]),(by show s.size-(i.k+1)<s.size-i.k;omega),aw ⟨rfl,rfl,trivial⟩ (aE _) fun _ h=>h⟩
  | (refine al (aq rfl rfl) ?_;rw [i.all ae,ZD])
def badNameR (s:ByteArray) (k:Nat):Bool:=!inChr (byteAt s k) 97 122&&(decide ((k:Int)=0)||!inChr (byteAt s k) 48 57&&!decide (byteAt s k=95))
theorem uW (s:ByteArray):isName s=(allB s.size (badNameR s)&&(decide (1≤(s.size:Int))&&decide ((s.size:Int)≤24))):=by
 rw [isName,mD (fun q c h=>by simp only [badName,dig];simp;omega),dK,Bool.and_comm]
 congr 1
 rw [←decide_not,←decide_not]
 congr 1<;>exact decide_eq_decide.2 ae
theorem gS (s:ByteArray) (hs:s.size≤maxLen):Pu Tryz.prog 239 #[.string s] (fun _=>True) (.bool (isName s)):=by
 refine ay (args:=[_]) _ Tryz.func239 rfl Tryz.ntmps239 rfl fun av bor w0=>?_
 simp only [maxLen] at hs
 rw [uW]
 repeat' (first|apply ab|apply Qu|apply Qv|refine ad ?_|apply Qw|fail)
 refine aT (ι:=Upto s.size (badNameR s)) (fun i=>⟨[(0,.string s),(3,.int .i64 (i.k:Nat))],[],fun w=>True⟩) (fun i=>s.size-i.k) (Upto.zero _ _) (aw ⟨rfl,rfl,trivial⟩ (aE _) fun _ h=>h) fun i=>?_
 have hik:=i.hk
 have e1:((i.k:Nat):Int).toNat=i.k:=rfl
 have hc1:=iq (byteAt s i.k) 97 122
 have hc2:=iq (byteAt s i.k) 48 57
 by_cases hlt:i.k<s.size
 · repeat' (first|apply ab|apply Qu|apply Qv|refine aj ?_|refine ad ?_|refine aD ?_|refine aF ?_|refine bN ?_|refine bR ?_|refine dJ ?_|refine bj ?_|refine cB ?_|refine cZ ?_|refine bT ?_|refine be (h:=?_)|refine aK ?_|refine cb ?_|refine fD ?_|refine Qy ?_|refine Qz ?_|apply Qx|apply Qw|apply ar|apply aQ|refine g8 ?_|(refine ao (hc:=hc1) ?_)|(refine ao (hc:=hc2) ?_)|((fail_if_success (refine aZ ?_));refine aR (ht:=?_) (hf:=?_);all_goals (intro hx_;first|have:=aP hx_|have:=aS hx_|skip))|(refine aG (ht:=?_) (hf:=?_);all_goals (intro hx_;first|have:=aP hx_|have:=aS hx_|skip)))
   all_goals simp only [Qr] at *
   all_goals first
    | (exfalso;omega)
    | (refine al (aq rfl rfl) ?_;rw [dz (k:=i.k) ae (by simp only [badNameR, *,ZQ,ZO,ZC,ZB,ZE,ZD,ZH,ZG,ZK,ZI,ZP,ZJ,ZN,ZF]),ZG])
    | exact ⟨i.next ae (by simp only [badNameR, *,ZQ,ZO,ZC,ZB,ZE,ZD,ZH,ZG,ZK,ZI,ZP,ZJ,ZN,ZF]),(by show s.size-(i.k+1)<s.size-i.k;omega),aw ⟨rfl,rfl,trivial⟩ (aE _) fun _ h=>h⟩
    | skip
 · rw [i.all hlt,ZD]
   repeat' (first|apply ab|apply Qu|apply Qv|refine aj ?_|refine ad ?_|refine aD ?_|refine aF ?_|refine bj ?_|refine cB ?_|refine cZ ?_|refine bT ?_|refine aK ?_|apply Qx|apply Qw|apply ar|apply aQ|refine g8 ?_|((fail_if_success (refine aZ ?_));refine aR (ht:=?_) (hf:=?_);all_goals (intro hx_;first|have:=aP hx_|have:=aS hx_))|(refine aG (ht:=?_) (hf:=?_);all_goals (intro hx_;first|have:=aP hx_|have:=aS hx_)))
   all_goals first
    | (exfalso;omega)
    | (refine al (aq rfl rfl) ?_;simp only [*,ZQ,ZO,ZC,ZB,ZE,ZD,ZH,ZG,ZK,ZI,ZP,ZJ,ZN,ZF];done)
structure ActD.Str (a:ActD):Prop where
 author:a.author.size≤maxLen
 target:a.target.size≤maxLen
 group:a.group.size≤maxLen
 text:a.text.size≤maxLen
 to:∀ x∈a.toL,x.size≤maxLen
def badIdsR (l:List ByteArray) (k:Nat):Bool:=!isId (l.getD k .empty)||decide (0<(k:Int))&&!Op.bytesLess (l.getD (k-1) .empty).toList (l.getD k .empty).toList
theorem zt (a b:ByteArray):(Op.bytesLess a.toList b.toList||seqB a b)=!Op.bytesLess b.toList a.toList:=by
 show (ltB a b||seqB a b)=!ltB b a
 cases h:ltB a b with
 | true=>rw [mJ h];rfl
 | false =>
  cases k:ltB b a with
  | true =>
   have:a≠b:=fun e=>xM k e.symm
   rw [seqB_ne.2 this]
   rfl
  | false =>
   rw [uR h k,bL]
   rfl
theorem xS (l:List ByteArray):isIds l=(allB l.length (badIdsR l)&&decide ((l.length:Int)≤64)):=by
 rw [isIds,Bool.and_comm]
 congr 1
 · refine congrArg (allB l.length) (funext fun k=>?_)
   rw [badIds,badIdsR,zt]
 · rw [←decide_not]
   exact decide_eq_decide.2 ae
set_option maxHeartbeats 4000000 in
theorem ja (s:SlV) (l:List ByteArray) (hz:∀ x∈l,x.size≤maxLen):Pu Tryz.prog 211 #[s.v] (fun w=>Strs w s l) (.bool (isIds l)):=by
 refine ay (args:=[_]) _ Tryz.func211 rfl Tryz.ntmps211 rfl fun av bor w0=>?_
 refine bI (p:=s.n=l.length∧s.n≤maxLen∧(0<l.length→s.p.isSome=true)) (fun w h=>⟨h.len_,Qq (RowsD.cap h) (RowsD.max h),h.some_⟩) fun ⟨hl,hm,hp⟩=>?_
 simp only [maxLen] at hm
 rw [xS]
 repeat' (first|apply ab|apply Qu|apply Qv|refine ad ?_|apply Qw|fail)
 refine aT (ι:=Upto l.length (badIdsR l)) (fun i=>⟨[(0,s.v),(3,.int .i64 (i.k:Nat))],[],fun w=>Strs w s l⟩) (fun i=>l.length-i.k) (Upto.zero _ _) (aw ⟨rfl,rfl,trivial⟩ (aE _) fun _ h=>h) fun i=>?_
 have hik:=i.hk
 by_cases hlt:i.k<l.length
 · have hp':=hp ae
   have hid:=fK (l.getD i.k .empty) (hz _ (by rw [ZL,Zm hlt];exact Qh hlt))
   repeat' (first|apply ab|apply Qu|apply Qv|refine aj ?_|refine ad ?_|refine bj ?_|refine cB ?_|refine aY ?_|apply Qx|apply Qw|apply ar|apply aQ|(refine aG (ht:=?_) (hf:=?_);all_goals (intro hx_;first|have:=aP hx_|have:=aS hx_)))
   · (apply bH;kernel_rfl)
     all_goals refine aa 0 ?_<;>refine aa 1 ?_<;>(refine aa 2 (hy:=by (apply aL (q:=i.k);rfl;rfl;omega;omega;assumption;omega)) ?_)<;>(refine aa 3 (hy:=by (apply cW (q:=i.k);rfl;exact fun w h=>Strs.get h hlt)) ?_)<;>(refine ag 4 ?_;(refine ao (hc:=hid) (hX:=fun _ _=>trivial) ?_);apply ab;refine ai ?_)<;>refine aa 5 ?_<;>refine aa 6 ?_<;>(refine lU 7 (ht:=?_) (hf:=?_);all_goals (intro hx_;skip);all_goals (first|(refine aa 7 ?_)|(refine gD 7 ?_)))<;>(first|(refine aa 8 ?_)|(refine gD 8 ?_))<;>(first|(refine aa 9 ?_)|(refine gD 9 ?_))<;>(first|(refine cI 10 ?_)|(refine lU 10 (ht:=?_) (hf:=?_);all_goals (intro hx_;first|have:=aP hx_|have:=aS hx_);all_goals (first|(refine aa 10 ?_)|(refine aC 10 ?_))))<;>(first|(refine aa 11 ?_)|(refine aC 11 ?_)|(refine cI 11 ?_))<;>(first|(refine aa 12 ?_)|(refine aC 12 ?_)|(refine cI 12 ?_))<;>(first|(refine aa 13 (hy:=by (apply aL (q:=i.k-1);rfl;rfl;omega;omega;assumption;omega)) ?_)|(refine aC 13 ?_)|(refine cI 13 ?_))<;>(first|(refine aa 14 (hy:=by (apply cW (q:=i.k-1);rfl;exact fun w h=>Strs.get h (by omega:i.k-1<l.length))) ?_)|(refine aC 14 ?_)|(refine cI 14 ?_))<;>(first|(refine aa 15 ?_)|(refine aC 15 ?_)|(refine cI 15 ?_))<;>(first|(refine aa 16 ?_)|(refine aC 16 ?_)|(refine cI 16 ?_))<;>(first|(refine aa 17 (hy:=by (apply aL (q:=i.k);rfl;rfl;omega;omega;assumption;omega)) ?_)|(refine aC 17 ?_)|(refine cI 17 ?_))<;>(first|(refine aa 18 (hy:=by (apply cW (q:=i.k);rfl;exact fun w h=>Strs.get h hlt)) ?_)|(refine aC 18 ?_)|(refine cI 18 ?_))<;>(first|(refine aa 19 (hy:=by (apply qo;rfl;rfl)) ?_)|(refine aC 19 ?_)|(refine cI 19 ?_))<;>(first|(refine aa 20 ?_)|(refine gD 20 ?_))<;>refine aa 21 ?_<;>(refine ax ?_)
     all_goals
      repeat' (first|apply ab|apply Qu|apply Qv|refine aj ?_|refine ad ?_|refine be (h:=?_)|refine Qy ?_|refine Qz ?_|apply Qx|apply ar|(refine aG (ht:=?_) (hf:=?_);all_goals (intro hx_;skip)))
      all_goals first
       | (refine al (aq rfl rfl) ?_;rw [dz hlt (by simp only [badIdsR, *,ZQ,ZO,ZC,ZB,ZE,ZD,ZH,ZG,ZK,ZI,ZP,ZJ,ZN,ZF]),ZG])
       | exact ⟨i.next hlt (by simp only [badIdsR, *,ZQ,ZO,ZC,ZB,ZE,ZD,ZH,ZG,ZK,ZI,ZP,ZJ,ZN,ZF]),(by show l.length-(i.k+1)<l.length-i.k;omega),aw ⟨rfl,rfl,trivial⟩ (aE _) fun _ h=>h⟩
   · exfalso;omega
 · rw [i.all hlt,ZD]
   repeat' (first|apply ab|apply Qu|apply Qv|refine aj ?_|refine ad ?_|refine bj ?_|refine cB ?_|refine aY ?_|apply Qx|apply Qw|apply ar|apply aQ|(refine aG (ht:=?_) (hf:=?_);all_goals (intro hx_;first|have:=aP hx_|have:=aS hx_)))
   all_goals first
    | (exfalso;omega)
    | (refine al (aq rfl rfl) ?_;rw [hl];done)
theorem eS (n:Int):Pu Tryz.prog 238 #[.int .i64 n] (fun _=>True) (.bool (isPublicB n)):=by
 refine ay (args:=[_]) _ Tryz.func238 rfl Tryz.ntmps238 rfl fun av bor w0=>?_
 have e:isPublicB n=(decide (1≤n)&&decide (n<2305843009213693951)):=by
  rw [isPublicB,withinB]
  congr 1
  exact decide_eq_decide.2 ae
 rw [e]
 clear e
 repeat' (first|apply ab|apply Qu|apply Qv|refine aj ?_|refine ad ?_|refine aD ?_|refine aF ?_|refine bj ?_|refine cZ ?_|refine aK ?_|apply ar|((fail_if_success (refine aZ ?_));refine aR (ht:=?_) (hf:=?_);all_goals (intro hx_;first|have:=aP hx_|have:=aS hx_))|fail)
 (all_goals (apply al;apply aq;rfl;rfl));all_goals (simp only [ZA, *,ZQ,ZO,ZC,ZB,ZE,ZD,ZH,ZG,ZK,ZI,ZP,ZJ,ZN,ZF];done)
theorem jA (b:BoxD):Pu Tryz.prog 261 #[b.v] (fun _=>True) (.bool (isSealedB b)):=by
 refine ay (args:=[_]) _ Tryz.func261 rfl Tryz.ntmps261 rfl fun av bor w0=>?_
 repeat' (first|apply ab|apply Qu|apply Qv|refine aj ?_|refine ad ?_|refine aA ?_|refine az ?_|refine aD ?_|refine aF ?_|refine bR ?_|refine cB ?_|refine bT ?_|refine aK ?_|refine aN fun _=>?_|apply ar|((fail_if_success (refine aZ ?_));refine aR (ht:=?_) (hf:=?_);all_goals (intro hx_;first|have:=aP hx_|have:=aS hx_))|fail)
 (all_goals (apply al;apply aq;rfl;rfl));all_goals (simp only [isSealedB,isShortB, *,ZQ,ZO,ZC,ZB,ZE,ZD,ZH,ZG,ZK,ZI,ZP,ZJ,ZN,ZF];done)
theorem jz (b:BoxD):Pu Tryz.prog 260 #[b.v] (fun _=>True) (.bool (boxEq b BoxD.zero)):=by
 refine ay (args:=[_]) _ Tryz.func260 rfl Tryz.ntmps260 rfl fun av bor w0=>?_
 repeat' (first|apply ab|apply Qu|apply Qv|refine aj ?_|refine ad ?_|refine aA ?_|refine az ?_|refine aD ?_|refine aF ?_|refine cC ?_|refine aK ?_|refine aN fun _=>?_|apply ar|((fail_if_success (refine aZ ?_));refine aR (ht:=?_) (hf:=?_);all_goals (intro hx_;skip))|fail)
 (all_goals (apply al;apply aq;rfl;rfl));all_goals (simp only [boxEq,BoxD.zero, *,ZQ,ZO,ZC,ZB,ZE,ZD,ZH,ZG,ZK,ZI,ZP,ZJ,ZN,ZF];done)
def groupR (a:ActD):Bool:=bif decide (a.scope=2) then isName a.group else seqB a.group ⟨#[]⟩
theorem jy (a:ActD) (hs:a.Str):Pu Tryz.prog 242 #[a.v] (fun _=>True) (.bool (groupR a)):=by
 refine ay (args:=[_]) _ Tryz.func242 rfl Tryz.ntmps242 rfl fun av bor w0=>?_
 have hn:=gS a.group hs.group
 repeat' (first|apply ab|apply Qu|apply Qv|refine ad ?_|refine aA ?_|refine az ?_|refine bR ?_|refine cC ?_|refine aN fun _=>?_|apply Qx|apply ar|(refine ao (hc:=hn) (hX:=fun _ _=>trivial) ?_)|(refine aG (ht:=?_) (hf:=?_);all_goals (intro hx_;first|have:=aP hx_|have:=aS hx_)))
 (all_goals (apply al;apply aq;rfl;rfl));all_goals (simp only [groupR, *,ZQ,ZO,ZC,ZB,ZE,ZD,ZH,ZG,ZK,ZI,ZP,ZJ,ZN,ZF];done)
def zeroR (a:ActD):Bool:=seqB a.object ⟨#[]⟩&&seqB a.target ⟨#[]⟩&&decide (a.scope=0)&&seqB a.group ⟨#[]⟩&&decide ((a.to.n:Int)=0)&&seqB a.text ⟨#[]⟩&&boxEq a.body BoxD.zero&&decide (a.epoch=0)&&decide ((a.wraps.n:Int)=0)&&decide (a.n=0)&&decide (a.m=0)
theorem bP (a:ActD):Pu Tryz.prog 244 #[a.v] (fun _=>True) (.bool (zeroR a)):=by
 refine ay (args:=[_]) _ Tryz.func244 rfl Tryz.ntmps244 rfl fun av bor w0=>?_
 have hn:=jz a.body
 repeat' (first|apply ab|apply Qu|apply Qv|refine aj ?_|refine ad ?_|refine aA ?_|refine az ?_|refine aD ?_|refine aF ?_|refine bR ?_|refine cC ?_|refine aY ?_|refine aK ?_|refine aN fun _=>?_|apply ar|(refine ao (hc:=hn) (hX:=fun _ _=>trivial) ?_)|(refine aW ?_)|((fail_if_success (refine aZ ?_));refine aR (ht:=?_) (hf:=?_);all_goals (intro hx_;first|have:=aP hx_|have:=aS hx_|skip))|fail)
 (all_goals (apply al;apply aq;rfl;rfl));all_goals (simp only [zeroR, *,ZQ,ZO,ZC,ZB,ZE,ZD,ZH,ZG,ZK,ZI,ZP,ZJ,ZN,ZF];done)
theorem ma (a:ActD):Pu Tryz.prog 243 #[a.v] (ActD.at_ · a) (.bool (wrappedB a)):=by
 refine ay (args:=[_]) _ Tryz.func243 rfl Tryz.ntmps243 rfl fun av bor w0=>?_
 refine bI (p:=a.wraps.n=a.wrapsL.length∧a.wraps.n≤maxLen∧(0<a.wrapsL.length→a.wraps.p.isSome=true)) (fun w h=>⟨h.2.len_,Qq (RowsD.cap h.2) (RowsD.max h.2),h.2.some_⟩) fun ⟨hl,hm,hp⟩=>?_
 simp only [maxLen] at hm
 repeat' (first|apply ab|apply Qu|apply Qv|refine ad ?_|refine aN fun _=>?_|apply Qw|fail)
 rename_i b
 refine aT (ι:=Upto a.wrapsL.length (badW a.wrapsL)) (fun i=>⟨[(1,.pointer (some ⟨b,0,none⟩)),(3,.int .i64 i.k)],[cel b 46 a.cells],(ActD.at_ · a)⟩) (fun i=>a.wrapsL.length-i.k) (Upto.zero _ _) (aw ⟨rfl,rfl,trivial⟩ (aE _) fun _ h=>h) fun i=>?_
 have hik:=i.hk
 repeat' (first|apply ab|apply Qu|apply Qv|refine aj ?_|refine ad ?_|refine aA ?_|refine az ?_|refine bR ?_|refine bj ?_|refine aY ?_|apply Qx|apply Qw|apply ar|apply aQ|(refine aG (ht:=?_) (hf:=?_);all_goals (intro hx_;first|have:=aP hx_|have:=aS hx_)))
 · have hlt:i.k<a.wrapsL.length:=by omega
   have hp':=hp ae
   obtain ⟨x,hx⟩:∃ x,a.wrapsL[i.k]?=some x:=⟨_,Zm hlt⟩
   have hc1:=eS x.to
   have hc2:=eS x.eph
   have hc3:=jA x.box
   repeat' (first|apply ab|apply Qu|apply Qv|refine aj ?_|refine ad ?_|refine aA ?_|refine az ?_|refine aD ?_|refine aF ?_|refine bN ?_|refine be (h:=?_)|refine cb ?_|refine aM fun _=>?_|refine aJ ?_|refine Qy ?_|apply Qx|apply ar|(refine ao (hc:=hc1) (hX:=fun _ _=>trivial) ?_)|(refine ao (hc:=hc2) (hX:=fun _ _=>trivial) ?_)|(refine ao (hc:=hc3) (hX:=fun _ _=>trivial) ?_)|(refine bu (q:=i.k*5) ?_)|(refine co (cs:=x.cells) (hF:=fun w h=>Wraps.get h.2 hx) ?_)|(refine aW ?_)|((fail_if_success (refine aZ ?_));refine aR (ht:=?_) (hf:=?_);all_goals (intro hx_;skip))|(refine aG (ht:=?_) (hf:=?_);all_goals (intro hx_;skip)))
   all_goals first
    | (refine al (aq rfl rfl) ?_;rw [wrappedB,dz hlt (by simp only [iH hx, *,ZQ,ZO,ZC,ZB,ZE,ZD,ZH,ZG,ZK,ZI,ZP,ZJ,ZN,ZF]),ZG])
    | exact ⟨i.next hlt (by simp only [iH hx, *,ZQ,ZO,ZC,ZB,ZE,ZD,ZH,ZG,ZK,ZI,ZP,ZJ,ZN,ZF]),(by show a.wrapsL.length-(i.k+1)<a.wrapsL.length-i.k;omega),aw ⟨rfl,rfl,trivial⟩ (List.Sublist.cons _ (aE _)) fun _ h=>h⟩
 · refine al (aq rfl rfl) ?_
   rw [wrappedB,i.all ae,ZD]
def sealR (a:ActD):Bool:=decide (0≤a.epoch)&&decide (a.epoch≤1073741824)&&seqB a.text ⟨#[]⟩&&isSealedB a.body
def audR (a:ActD):Bool:=bif !isIds a.toL then false else bif !groupR a then false else bif decide (a.scope=0) then decide (a.epoch=0)&&decide ((a.text.size:Int)≤500)&&boxEq a.body BoxD.zero
 else bif decide (a.scope=3) then sealR a else bif decide (a.scope=1)||decide (a.scope=2) then sealR a&&decide ((a.to.n:Int)=0) else false
theorem Cj (a:ActD):audR a=audienceB a:=by
 have hw:withinB a.epoch 0 1073741824=(decide (0≤a.epoch)&&decide (a.epoch≤1073741824)):=rfl
 have hz:decide (0<(a.to.n:Int))=!decide ((a.to.n:Int)=0):=by rw [←decide_not];exact decide_eq_decide.2 ae
 have hsh:isShortB a.text=decide ((a.text.size:Int)≤500):=rfl
 rw [audR,audienceB,groupR,sealedScopeB,hw,hz,hsh,sealR]
 cases isIds a.toL
 · rfl
 simp only [ZK,ZB]
 by_cases h0:a.scope=0
 · rw [h0]
   simp only [show decide ((0:Int)=2)=false from rfl,show decide ((0:Int)=0)=true from rfl,ZB,ZC]
   cases seqB a.group ⟨#[]⟩<;>simp [Bool.and_assoc]
 by_cases h3:a.scope=3
 · rw [h3]
   simp only [show decide ((3:Int)=2)=false from rfl,show decide ((3:Int)=0)=false from rfl,show decide ((3:Int)=3)=true from rfl,show decide ((3:Int)=1)=false from rfl,ZB,ZC,ZK,ZH]
   cases seqB a.group ⟨#[]⟩<;>simp [Bool.and_assoc]
 by_cases h1:a.scope=1
 · rw [h1]
   simp only [show decide ((1:Int)=2)=false from rfl,show decide ((1:Int)=0)=false from rfl,show decide ((1:Int)=3)=false from rfl,show decide ((1:Int)=1)=true from rfl,ZB,ZC,ZI,ZE,ZJ]
   cases seqB a.group ⟨#[]⟩<;>cases decide ((a.to.n:Int)=0)<;>simp [Bool.and_assoc]
 by_cases h2:a.scope=2
 · rw [h2]
   simp only [show decide ((2:Int)=2)=true from rfl,show decide ((2:Int)=0)=false from rfl,show decide ((2:Int)=3)=false from rfl,show decide ((2:Int)=1)=false from rfl,ZB,ZC,ZI,ZE,ZF]
   cases isName a.group<;>cases decide ((a.to.n:Int)=0)<;>simp [Bool.and_assoc]
 rw [Zn h0,Zn h1,Zn h2,Zn h3]
 cases seqB a.group ⟨#[]⟩<;>cases decide ((a.to.n:Int)=0)<;>rfl
set_option maxHeartbeats 2000000 in
theorem ll (a:ActD) (hs:a.Str):Pu Tryz.prog 240 #[a.v] (ActD.at_ · a) (.bool (audienceB a)):=by
 refine ay (args:=[_]) _ Tryz.func240 rfl Tryz.ntmps240 rfl fun av bor w0=>?_
 rw [←Cj]
 have hi:=ja a.to a.toL hs.to
 have hg:=jy a hs
 have hb:=jA a.body
 have he:=jz a.body
 repeat' (first|apply ab|apply Qu|apply Qv|refine aj ?_|refine ad ?_|refine aA ?_|refine az ?_|refine aH ?_|refine aD ?_|refine aF ?_|refine bN ?_|refine bR ?_|refine cB ?_|refine cZ ?_|refine cC ?_|refine bT ?_|refine aY ?_|refine aK ?_|refine cb ?_|refine aN fun _=>?_|refine Qy ?_|apply Qx|apply Qw|apply ar|(refine ao (hc:=hi) (hX:=fun w h=>h.1) ?_)|(refine ao (hc:=hg) (hX:=fun _ _=>trivial) ?_)|(refine ao (hc:=hb) (hX:=fun _ _=>trivial) ?_)|(refine ao (hc:=he) (hX:=fun _ _=>trivial) ?_)|(refine aW ?_)|((fail_if_success (refine aZ ?_));refine aR (ht:=?_) (hf:=?_);all_goals (intro hx_;first|have:=aP hx_|have:=aS hx_|skip))|(refine aG (ht:=?_) (hf:=?_);all_goals (intro hx_;first|have:=aP hx_|have:=aS hx_|skip)))
 all_goals refine al (aq rfl rfl) ?_
 all_goals first
  | rfl
  | (simp_all [audR,sealR];done)
  | (simp_all [audR,sealR];intros;omega)
def bareA (a:ActD):ActD:={ a with scope:=0,group:=⟨#[]⟩,to:=⟨none,0,0⟩,text:=⟨#[]⟩,body:=BoxD.zero,epoch:=0,toL:=[] }
theorem qS (a:ActD):Pu Tryz.prog 241 #[a.v] (fun _=>True) (bareA a).v:=by
 refine ay (args:=[_]) _ Tryz.func241 rfl Tryz.ntmps241 rfl fun av bor w0=>?_
 repeat' (first|refine iQ ?_|apply ab|apply Qu|apply Qv|refine aA ?_|refine aH ?_|refine aM fun _=>?_|refine aN fun _=>?_|refine bc ?_|refine aJ ?_|apply ar|(refine dN ({ a with scope:=0,group:=⟨#[]⟩,to:=⟨none,0,0⟩,text:=⟨#[]⟩,body:=BoxD.zero }:ActD).cells (h:=?_))|fail)
 exact al (dm (cs:=(bareA a).cells) rfl rfl aI (by rfl)) rfl
def okR (k:Int) (a:ActD):Bool :=
 bif decide (k=0) then (isPublicB a.n&&decide (0≤a.m)&&decide (a.m<20))&&isName a.text else bif decide (k=1) then audienceB a else bif decide (k=2) then audienceB a&&decide ((a.object.size:Int)=32) else bif decide (k=3) then audienceB a&&decide ((a.object.size:Int)=32) else bif decide (k=4) then decide ((a.object.size:Int)=32) else bif decide (k=5) then decide ((a.object.size:Int)=32) else bif decide (k=6) then decide ((a.object.size:Int)=32) else bif decide (k=7) then isId a.target else bif decide (k=8) then isId a.target else bif decide (k=9) then isId a.target else bif decide (k=10) then isId a.target else bif decide (k=11) then isId a.target else bif decide (k=12) then decide ((a.object.size:Int)=32)&&decide ((a.text.size:Int)≤500) else bif decide (k=13) then decide ((a.object.size:Int)=32) else bif decide (k=14) then audienceB a&&decide ((a.object.size:Int)=32) else bif decide (k=15) then isIds a.toL&&isName a.group else bif decide (k=16) then isIds a.toL&&decide (1≤a.scope)&&decide (a.scope≤3)&&groupR a&&decide (0≤a.epoch)&&decide (a.epoch≤1073741824)&&wrappedB a else bif decide (k=17) then (bif !seqB a.object ⟨#[]⟩ then isName a.text&&decide ((a.object.size:Int)=32)&&seqB a.target ⟨#[]⟩ else isName a.text&&isId a.target) else bif decide (k=18) then (isPublicB a.n&&decide (0≤a.m)&&decide (a.m<20)) else bif decide (k=19) then isIds a.toL&&decide (0<(a.to.n:Int))&&wrappedB a&&decide (1≤a.n)&&decide (a.n≤(a.to.n:Int))&&isPublicB a.m else bif decide (k=20) then decide ((a.object.size:Int)=32) else bif decide (k=21) then decide ((a.object.size:Int)=32)&&decide ((a.text.size:Int)≤500) else bif decide (k=22) then decide ((a.object.size:Int)=32)&&decide (0≤a.n)&&decide (a.n≤1) else bif decide (k=23) then isId a.target&&decide ((a.text.size:Int)≤500)&&decide (0≤a.n)&&decide (a.n≤1099511627776) else false
def restA (k:Int) (a:ActD):ActD :=
 bif decide (k=0) then { a with text:=⟨#[]⟩,n:=0,m:=0 } else bif decide (k=1) then bareA a else bif decide (k=2) then { bareA a with object:=⟨#[]⟩ } else bif decide (k=3) then { bareA a with object:=⟨#[]⟩ } else bif decide (k=4) then { a with object:=⟨#[]⟩ } else bif decide (k=5) then { a with object:=⟨#[]⟩ } else bif decide (k=6) then { a with object:=⟨#[]⟩ } else bif decide (k=7) then { a with target:=⟨#[]⟩ } else bif decide (k=8) then { a with target:=⟨#[]⟩ } else bif decide (k=9) then { a with target:=⟨#[]⟩ } else bif decide (k=10) then { a with target:=⟨#[]⟩ } else bif decide (k=11) then { a with target:=⟨#[]⟩ } else bif decide (k=12) then { a with object:=⟨#[]⟩,text:=⟨#[]⟩ } else bif decide (k=13) then { a with object:=⟨#[]⟩ } else bif decide (k=14) then { bareA a with object:=⟨#[]⟩ } else bif decide (k=15) then { a with group:=⟨#[]⟩,to:=⟨none,0,0⟩,toL:=[] } else bif decide (k=16) then { a with scope:=0,group:=⟨#[]⟩,to:=⟨none,0,0⟩,toL:=[],epoch:=0,wraps:=⟨none,0,0⟩,wrapsL:=[] } else bif decide (k=17) then { a with text:=⟨#[]⟩,object:=⟨#[]⟩,target:=⟨#[]⟩ } else bif decide (k=18) then { a with n:=0,m:=0 } else bif decide (k=19) then { a with to:=⟨none,0,0⟩,toL:=[],wraps:=⟨none,0,0⟩,wrapsL:=[],n:=0,m:=0 } else bif decide (k=20) then { a with object:=⟨#[]⟩ } else bif decide (k=21) then { a with object:=⟨#[]⟩,text:=⟨#[]⟩ } else bif decide (k=22) then { a with object:=⟨#[]⟩,n:=0 } else bif decide (k=23) then { a with target:=⟨#[]⟩,text:=⟨#[]⟩,n:=0 } else a
def fitsR (a:ActD):Bool:=okR a.kind a&&zeroR (restA a.kind a)
theorem Bg (a:ActD):okR 0 a=((isPublicB a.n&&decide (0≤a.m)&&decide (a.m<20))&&isName a.text):=rfl
theorem sC (a:ActD):restA 0 a=({ a with text:=⟨#[]⟩,n:=0,m:=0 }:ActD):=rfl
theorem Bf (a:ActD):okR 1 a=(audienceB a):=rfl
theorem sB (a:ActD):restA 1 a=(bareA a:ActD):=rfl
theorem Be (a:ActD):okR 2 a=(audienceB a&&decide ((a.object.size:Int)=32)):=rfl
theorem sA (a:ActD):restA 2 a=({ bareA a with object:=⟨#[]⟩ }:ActD):=rfl
theorem Bd (a:ActD):okR 3 a=(audienceB a&&decide ((a.object.size:Int)=32)):=rfl
theorem sz (a:ActD):restA 3 a=({ bareA a with object:=⟨#[]⟩ }:ActD):=rfl
theorem Bc (a:ActD):okR 4 a=(decide ((a.object.size:Int)=32)):=rfl
theorem sy (a:ActD):restA 4 a=({ a with object:=⟨#[]⟩ }:ActD):=rfl
theorem Bb (a:ActD):okR 5 a=(decide ((a.object.size:Int)=32)):=rfl
theorem sx (a:ActD):restA 5 a=({ a with object:=⟨#[]⟩ }:ActD):=rfl
theorem Ba (a:ActD):okR 6 a=(decide ((a.object.size:Int)=32)):=rfl
theorem su (a:ActD):restA 6 a=({ a with object:=⟨#[]⟩ }:ActD):=rfl
theorem A9 (a:ActD):okR 7 a=(isId a.target):=rfl
theorem sr (a:ActD):restA 7 a=({ a with target:=⟨#[]⟩ }:ActD):=rfl
theorem A8 (a:ActD):okR 8 a=(isId a.target):=rfl
theorem so (a:ActD):restA 8 a=({ a with target:=⟨#[]⟩ }:ActD):=rfl
theorem A7 (a:ActD):okR 9 a=(isId a.target):=rfl
theorem sj (a:ActD):restA 9 a=({ a with target:=⟨#[]⟩ }:ActD):=rfl
theorem xH (a:ActD):okR 10 a=(isId a.target):=rfl
theorem pt (a:ActD):restA 10 a=({ a with target:=⟨#[]⟩ }:ActD):=rfl
theorem xG (a:ActD):okR 11 a=(isId a.target):=rfl
theorem pr (a:ActD):restA 11 a=({ a with target:=⟨#[]⟩ }:ActD):=rfl
theorem xF (a:ActD):okR 12 a=(decide ((a.object.size:Int)=32)&&decide ((a.text.size:Int)≤500)):=rfl
theorem pq (a:ActD):restA 12 a=({ a with object:=⟨#[]⟩,text:=⟨#[]⟩ }:ActD):=rfl
theorem xE (a:ActD):okR 13 a=(decide ((a.object.size:Int)=32)):=rfl
theorem pp (a:ActD):restA 13 a=({ a with object:=⟨#[]⟩ }:ActD):=rfl
theorem xD (a:ActD):okR 14 a=(audienceB a&&decide ((a.object.size:Int)=32)):=rfl
theorem po (a:ActD):restA 14 a=({ bareA a with object:=⟨#[]⟩ }:ActD):=rfl
theorem xC (a:ActD):okR 15 a=(isIds a.toL&&isName a.group):=rfl
theorem pm (a:ActD):restA 15 a=({ a with group:=⟨#[]⟩,to:=⟨none,0,0⟩,toL:=[] }:ActD):=rfl
theorem xB (a:ActD):okR 16 a=(isIds a.toL&&decide (1≤a.scope)&&decide (a.scope≤3)&&groupR a&&decide (0≤a.epoch)&&decide (a.epoch≤1073741824)&&wrappedB a):=rfl
theorem pj (a:ActD):restA 16 a=({ a with scope:=0,group:=⟨#[]⟩,to:=⟨none,0,0⟩,toL:=[],epoch:=0,wraps:=⟨none,0,0⟩,wrapsL:=[] }:ActD):=rfl
theorem xA (a:ActD):okR 17 a=((bif !seqB a.object ⟨#[]⟩ then isName a.text&&decide ((a.object.size:Int)=32)&&seqB a.target ⟨#[]⟩ else isName a.text&&isId a.target)):=rfl
theorem pi (a:ActD):restA 17 a=({ a with text:=⟨#[]⟩,object:=⟨#[]⟩,target:=⟨#[]⟩ }:ActD):=rfl
theorem xz (a:ActD):okR 18 a=((isPublicB a.n&&decide (0≤a.m)&&decide (a.m<20))):=rfl
theorem pg (a:ActD):restA 18 a=({ a with n:=0,m:=0 }:ActD):=rfl
theorem xy (a:ActD):okR 19 a=(isIds a.toL&&decide (0<(a.to.n:Int))&&wrappedB a&&decide (1≤a.n)&&decide (a.n≤(a.to.n:Int))&&isPublicB a.m):=rfl
theorem pf (a:ActD):restA 19 a=({ a with to:=⟨none,0,0⟩,toL:=[],wraps:=⟨none,0,0⟩,wrapsL:=[],n:=0,m:=0 }:ActD):=rfl
theorem xx (a:ActD):okR 20 a=(decide ((a.object.size:Int)=32)):=rfl
theorem pd (a:ActD):restA 20 a=({ a with object:=⟨#[]⟩ }:ActD):=rfl
theorem xw (a:ActD):okR 21 a=(decide ((a.object.size:Int)=32)&&decide ((a.text.size:Int)≤500)):=rfl
theorem pc (a:ActD):restA 21 a=({ a with object:=⟨#[]⟩,text:=⟨#[]⟩ }:ActD):=rfl
theorem xv (a:ActD):okR 22 a=(decide ((a.object.size:Int)=32)&&decide (0≤a.n)&&decide (a.n≤1)):=rfl
theorem pb (a:ActD):restA 22 a=({ a with object:=⟨#[]⟩,n:=0 }:ActD):=rfl
theorem xu (a:ActD):okR 23 a=(isId a.target&&decide ((a.text.size:Int)≤500)&&decide (0≤a.n)&&decide (a.n≤1099511627776)):=rfl
theorem pa (a:ActD):restA 23 a=({ a with target:=⟨#[]⟩,text:=⟨#[]⟩,n:=0 }:ActD):=rfl
theorem pF {a:ActD} (h:¬ (0≤a.kind∧a.kind≤23)):okR a.kind a=false:=by
 rw [okR]
 rw [Zn (show ¬ a.kind=0 by omega),ZB]
 rw [Zn (show ¬ a.kind=1 by omega),ZB]
 rw [Zn (show ¬ a.kind=2 by omega),ZB]
 rw [Zn (show ¬ a.kind=3 by omega),ZB]
 rw [Zn (show ¬ a.kind=4 by omega),ZB]
 rw [Zn (show ¬ a.kind=5 by omega),ZB]
 rw [Zn (show ¬ a.kind=6 by omega),ZB]
 rw [Zn (show ¬ a.kind=7 by omega),ZB]
 rw [Zn (show ¬ a.kind=8 by omega),ZB]
 rw [Zn (show ¬ a.kind=9 by omega),ZB]
 rw [Zn (show ¬ a.kind=10 by omega),ZB]
 rw [Zn (show ¬ a.kind=11 by omega),ZB]
 rw [Zn (show ¬ a.kind=12 by omega),ZB]
 rw [Zn (show ¬ a.kind=13 by omega),ZB]
 rw [Zn (show ¬ a.kind=14 by omega),ZB]
 rw [Zn (show ¬ a.kind=15 by omega),ZB]
 rw [Zn (show ¬ a.kind=16 by omega),ZB]
 rw [Zn (show ¬ a.kind=17 by omega),ZB]
 rw [Zn (show ¬ a.kind=18 by omega),ZB]
 rw [Zn (show ¬ a.kind=19 by omega),ZB]
 rw [Zn (show ¬ a.kind=20 by omega),ZB]
 rw [Zn (show ¬ a.kind=21 by omega),ZB]
 rw [Zn (show ¬ a.kind=22 by omega),ZB]
 rw [Zn (show ¬ a.kind=23 by omega),ZB]
theorem mM {k:Int} (h:0≤k∧k≤23):k=0∨k=1∨k=2∨k=3∨k=4∨k=5∨k=6∨k=7∨k=8∨k=9∨k=10∨k=11∨k=12∨k=13∨k=14∨k=15∨k=16∨k=17∨k=18∨k=19∨k=20∨k=21∨k=22∨k=23:=by omega
set_option maxRecDepth 20000 in
set_option maxHeartbeats 16000000 in
theorem qO (a:ActD) (hs:a.Str):Pu Tryz.prog 208 #[a.v] (ActD.at_ · a) (.bool (fitsR a)):=by
 refine ay (args:=[_]) _ Tryz.func208 rfl Tryz.ntmps208 rfl fun av bor w0=>?_
 have c1:=eS a.n
 have c2:=eS a.m
 have c3:=gS a.text hs.text
 have c4:=gS a.group hs.group
 have c5:=ll a hs
 have c6:=qS a
 have c7:=fK a.target hs.target
 have c8:=ja a.to a.toL hs.to
 have c9:=jy a hs
 have c10:=ma a
 by_cases hk:0≤a.kind∧a.kind≤23
 · rw [fitsR]
   rcases mM hk with h|h|h|h|h|h|h|h|h|h|h|h|h|h|h|h|h|h|h|h|h|h|h|h
   · rw [h,Bg,sC]
     have c0:=bP ({ a with text:=⟨#[]⟩,n:=0,m:=0 }:ActD)
     repeat' (first|refine bm (hab:=by omega) ?_|apply ab|apply Qu|apply Qv|refine aj ?_|refine ad ?_|refine aA ?_|refine az ?_|refine aH ?_|refine aD ?_|refine aF ?_|refine bj ?_|refine cZ ?_|refine aK ?_|refine aM fun _=>?_|refine aN fun _=>?_|refine bc ?_|refine aJ ?_|refine Qy ?_|apply Qx|apply Qw|apply ar|(refine ao (hc:=c0) (hX:=fun _ _=>trivial) ?_)|(refine ao (hc:=c1) (hX:=fun _ _=>trivial) ?_)|(refine ao (hc:=c3) (hX:=fun _ _=>trivial) ?_)|((fail_if_success (refine aZ ?_));refine aR (ht:=?_) (hf:=?_);all_goals (intro hx_;first|have:=aP hx_|have:=aS hx_|skip))|fail)
     all_goals refine al (aq rfl rfl) ?_
     all_goals first
      | rfl
      | (simp only [*,ZQ,ZO,ZC,ZB,ZE,ZD,ZH,ZG,ZK,ZI,ZP,ZJ,ZN,ZF];done)
      | (simp_all;done)
      | (simp_all;intros;omega)
      | skip
   · rw [h,Bf,sB]
     have c0:=bP (bareA a:ActD)
     repeat' (first|refine bm (hab:=by omega) ?_|refine bt (hab:=by omega) ?_|apply ab|apply Qu|apply Qv|refine aj ?_|refine ad ?_|refine aA ?_|refine az ?_|refine aH ?_|refine aD ?_|refine aF ?_|refine aK ?_|refine aM fun _=>?_|refine aN fun _=>?_|refine aJ ?_|refine Qy ?_|refine Qz ?_|apply Qw|apply ar|(refine ao (hc:=c0) (hX:=fun _ _=>trivial) ?_)|(refine ao (hc:=c5) (hX:=fun w h=>h) ?_)|(refine ao (hc:=c6) (hX:=fun _ _=>trivial) ?_)|((fail_if_success (refine aZ ?_));refine aR (ht:=?_) (hf:=?_);all_goals (intro hx_;skip))|fail)
     all_goals refine al (aq rfl rfl) ?_
     all_goals first
      | rfl
      | (simp only [*,ZQ,ZO,ZC,ZB,ZE,ZD,ZH,ZG,ZK,ZI,ZP,ZJ,ZN,ZF];done)
      | (simp_all;done)
      | (simp_all;intros;omega)
      | skip
   · rw [h,Be,sA]
     have c0:=bP ({ bareA a with object:=⟨#[]⟩ }:ActD)
     repeat' (first|refine bm (hab:=by omega) ?_|refine bt (hab:=by omega) ?_|apply ab|apply Qu|apply Qv|refine aj ?_|refine ad ?_|refine aA ?_|refine az ?_|refine aH ?_|refine aD ?_|refine aF ?_|refine bR ?_|refine bT ?_|refine aK ?_|refine aM fun _=>?_|refine aN fun _=>?_|refine bc ?_|refine aJ ?_|refine Qy ?_|refine Qz ?_|apply Qx|apply Qw|apply ar|(refine ao (hc:=c0) (hX:=fun _ _=>trivial) ?_)|(refine ao (hc:=c5) (hX:=fun w h=>h) ?_)|(refine ao (hc:=c6) (hX:=fun _ _=>trivial) ?_)|((fail_if_success (refine aZ ?_));refine aR (ht:=?_) (hf:=?_);all_goals (intro hx_;first|have:=aP hx_|have:=aS hx_|skip))|fail)
     all_goals refine al (aq rfl rfl) ?_
     all_goals first
      | rfl
      | (simp only [*,ZQ,ZO,ZC,ZB,ZE,ZD,ZH,ZG,ZK,ZI,ZP,ZJ,ZN,ZF];done)
      | (simp_all;done)
      | (simp_all;intros;omega)
      | skip
   · rw [h,Bd,sz]
     have c0:=bP ({ bareA a with object:=⟨#[]⟩ }:ActD)
     repeat' (first|refine bm (hab:=by omega) ?_|refine bt (hab:=by omega) ?_|apply ab|apply Qu|apply Qv|refine aj ?_|refine ad ?_|refine aA ?_|refine az ?_|refine aH ?_|refine aD ?_|refine aF ?_|refine bR ?_|refine bT ?_|refine aK ?_|refine aM fun _=>?_|refine aN fun _=>?_|refine bc ?_|refine aJ ?_|refine Qy ?_|refine Qz ?_|apply Qx|apply Qw|apply ar|(refine ao (hc:=c0) (hX:=fun _ _=>trivial) ?_)|(refine ao (hc:=c5) (hX:=fun w h=>h) ?_)|(refine ao (hc:=c6) (hX:=fun _ _=>trivial) ?_)|((fail_if_success (refine aZ ?_));refine aR (ht:=?_) (hf:=?_);all_goals (intro hx_;first|have:=aP hx_|have:=aS hx_|skip))|fail)
     all_goals refine al (aq rfl rfl) ?_
     all_goals first
      | rfl
      | (simp only [*,ZQ,ZO,ZC,ZB,ZE,ZD,ZH,ZG,ZK,ZI,ZP,ZJ,ZN,ZF];done)
      | (simp_all;done)
      | (simp_all;intros;omega)
      | skip
   · rw [h,Bc,sy]
     have c0:=bP ({ a with object:=⟨#[]⟩ }:ActD)
     repeat' (first|refine bm (hab:=by omega) ?_|refine bt (hab:=by omega) ?_|apply ab|apply Qu|apply Qv|refine aj ?_|refine ad ?_|refine aA ?_|refine az ?_|refine aH ?_|refine aD ?_|refine aF ?_|refine bR ?_|refine bT ?_|refine aK ?_|refine aM fun _=>?_|refine aN fun _=>?_|refine bc ?_|refine aJ ?_|refine Qy ?_|refine Qz ?_|apply Qx|apply Qw|apply ar|(refine ao (hc:=c0) (hX:=fun _ _=>trivial) ?_)|((fail_if_success (refine aZ ?_));refine aR (ht:=?_) (hf:=?_);all_goals (intro hx_;first|have:=aP hx_|have:=aS hx_))|fail)
     all_goals refine al (aq rfl rfl) ?_
     all_goals first
      | rfl
      | (simp only [*,ZQ,ZO,ZC,ZB,ZE,ZD,ZH,ZG,ZK,ZI,ZP,ZJ,ZN,ZF];done)
      | (simp_all;done)
      | (simp_all;intros;omega)
      | skip
   · rw [h,Bb,sx]
     have c0:=bP ({ a with object:=⟨#[]⟩ }:ActD)
     repeat' (first|refine bm (hab:=by omega) ?_|refine bt (hab:=by omega) ?_|apply ab|apply Qu|apply Qv|refine aj ?_|refine ad ?_|refine aA ?_|refine az ?_|refine aH ?_|refine aD ?_|refine aF ?_|refine bR ?_|refine bT ?_|refine aK ?_|refine aM fun _=>?_|refine aN fun _=>?_|refine bc ?_|refine aJ ?_|refine Qy ?_|refine Qz ?_|apply Qx|apply Qw|apply ar|(refine ao (hc:=c0) (hX:=fun _ _=>trivial) ?_)|((fail_if_success (refine aZ ?_));refine aR (ht:=?_) (hf:=?_);all_goals (intro hx_;first|have:=aP hx_|have:=aS hx_))|fail)
     all_goals refine al (aq rfl rfl) ?_
     all_goals first
      | rfl
      | (simp only [*,ZQ,ZO,ZC,ZB,ZE,ZD,ZH,ZG,ZK,ZI,ZP,ZJ,ZN,ZF];done)
      | (simp_all;done)
      | (simp_all;intros;omega)
      | skip
   · rw [h,Ba,su]
     have c0:=bP ({ a with object:=⟨#[]⟩ }:ActD)
     repeat' (first|refine bm (hab:=by omega) ?_|refine bt (hab:=by omega) ?_|apply ab|apply Qu|apply Qv|refine aj ?_|refine ad ?_|refine aA ?_|refine az ?_|refine aH ?_|refine aD ?_|refine aF ?_|refine bR ?_|refine bT ?_|refine aK ?_|refine aM fun _=>?_|refine aN fun _=>?_|refine bc ?_|refine aJ ?_|refine Qy ?_|refine Qz ?_|apply Qx|apply Qw|apply ar|(refine ao (hc:=c0) (hX:=fun _ _=>trivial) ?_)|((fail_if_success (refine aZ ?_));refine aR (ht:=?_) (hf:=?_);all_goals (intro hx_;first|have:=aP hx_|have:=aS hx_))|fail)
     all_goals refine al (aq rfl rfl) ?_
     all_goals first
      | rfl
      | (simp only [*,ZQ,ZO,ZC,ZB,ZE,ZD,ZH,ZG,ZK,ZI,ZP,ZJ,ZN,ZF];done)
      | (simp_all;done)
      | (simp_all;intros;omega)
      | skip
   · rw [h,A9,sr]
     have c0:=bP ({ a with target:=⟨#[]⟩ }:ActD)
     repeat' (first|refine bm (hab:=by omega) ?_|refine bt (hab:=by omega) ?_|apply ab|apply Qu|apply Qv|refine aj ?_|refine ad ?_|refine aA ?_|refine az ?_|refine aH ?_|refine aD ?_|refine aF ?_|refine aK ?_|refine aM fun _=>?_|refine aN fun _=>?_|refine bc ?_|refine aJ ?_|refine Qy ?_|refine Qz ?_|apply Qx|apply Qw|apply ar|(refine ao (hc:=c0) (hX:=fun _ _=>trivial) ?_)|(refine ao (hc:=c7) (hX:=fun _ _=>trivial) ?_)|((fail_if_success (refine aZ ?_));refine aR (ht:=?_) (hf:=?_);all_goals (intro hx_;skip))|fail)
     all_goals refine al (aq rfl rfl) ?_
     all_goals first
      | rfl
      | (simp only [*,ZQ,ZO,ZC,ZB,ZE,ZD,ZH,ZG,ZK,ZI,ZP,ZJ,ZN,ZF];done)
      | (simp_all;done)
      | (simp_all;intros;omega)
      | skip
   · rw [h,A8,so]
     have c0:=bP ({ a with target:=⟨#[]⟩ }:ActD)
     repeat' (first|refine bm (hab:=by omega) ?_|refine bt (hab:=by omega) ?_|apply ab|apply Qu|apply Qv|refine aj ?_|refine ad ?_|refine aA ?_|refine az ?_|refine aH ?_|refine aD ?_|refine aF ?_|refine aK ?_|refine aM fun _=>?_|refine aN fun _=>?_|refine bc ?_|refine aJ ?_|refine Qy ?_|refine Qz ?_|apply Qx|apply Qw|apply ar|(refine ao (hc:=c0) (hX:=fun _ _=>trivial) ?_)|(refine ao (hc:=c7) (hX:=fun _ _=>trivial) ?_)|((fail_if_success (refine aZ ?_));refine aR (ht:=?_) (hf:=?_);all_goals (intro hx_;skip))|fail)
     all_goals refine al (aq rfl rfl) ?_
     all_goals first
      | rfl
      | (simp only [*,ZQ,ZO,ZC,ZB,ZE,ZD,ZH,ZG,ZK,ZI,ZP,ZJ,ZN,ZF];done)
      | (simp_all;done)
      | (simp_all;intros;omega)
      | skip
   · rw [h,A7,sj]
     have c0:=bP ({ a with target:=⟨#[]⟩ }:ActD)
     repeat' (first|refine bm (hab:=by omega) ?_|refine bt (hab:=by omega) ?_|apply ab|apply Qu|apply Qv|refine aj ?_|refine ad ?_|refine aA ?_|refine az ?_|refine aH ?_|refine aD ?_|refine aF ?_|refine aK ?_|refine aM fun _=>?_|refine aN fun _=>?_|refine bc ?_|refine aJ ?_|refine Qy ?_|refine Qz ?_|apply Qx|apply Qw|apply ar|(refine ao (hc:=c0) (hX:=fun _ _=>trivial) ?_)|(refine ao (hc:=c7) (hX:=fun _ _=>trivial) ?_)|((fail_if_success (refine aZ ?_));refine aR (ht:=?_) (hf:=?_);all_goals (intro hx_;skip))|fail)
     all_goals refine al (aq rfl rfl) ?_
     all_goals first
      | rfl
      | (simp only [*,ZQ,ZO,ZC,ZB,ZE,ZD,ZH,ZG,ZK,ZI,ZP,ZJ,ZN,ZF];done)
      | (simp_all;done)
      | (simp_all;intros;omega)
      | skip
   · rw [h,xH,pt]
     have c0:=bP ({ a with target:=⟨#[]⟩ }:ActD)
     repeat' (first|refine bm (hab:=by omega) ?_|refine bt (hab:=by omega) ?_|apply ab|apply Qu|apply Qv|refine aj ?_|refine ad ?_|refine aA ?_|refine az ?_|refine aH ?_|refine aD ?_|refine aF ?_|refine aK ?_|refine aM fun _=>?_|refine aN fun _=>?_|refine bc ?_|refine aJ ?_|refine Qy ?_|refine Qz ?_|apply Qx|apply Qw|apply ar|(refine ao (hc:=c0) (hX:=fun _ _=>trivial) ?_)|(refine ao (hc:=c7) (hX:=fun _ _=>trivial) ?_)|((fail_if_success (refine aZ ?_));refine aR (ht:=?_) (hf:=?_);all_goals (intro hx_;skip))|fail)
     all_goals refine al (aq rfl rfl) ?_
     all_goals first
      | rfl
      | (simp only [*,ZQ,ZO,ZC,ZB,ZE,ZD,ZH,ZG,ZK,ZI,ZP,ZJ,ZN,ZF];done)
      | (simp_all;done)
      | (simp_all;intros;omega)
      | skip
   · rw [h,xG,pr]
     have c0:=bP ({ a with target:=⟨#[]⟩ }:ActD)
     repeat' (first|refine bm (hab:=by omega) ?_|refine bt (hab:=by omega) ?_|apply ab|apply Qu|apply Qv|refine aj ?_|refine ad ?_|refine aA ?_|refine az ?_|refine aH ?_|refine aD ?_|refine aF ?_|refine aK ?_|refine aM fun _=>?_|refine aN fun _=>?_|refine bc ?_|refine aJ ?_|refine Qy ?_|refine Qz ?_|apply Qw|apply ar|(refine ao (hc:=c0) (hX:=fun _ _=>trivial) ?_)|(refine ao (hc:=c7) (hX:=fun _ _=>trivial) ?_)|((fail_if_success (refine aZ ?_));refine aR (ht:=?_) (hf:=?_);all_goals (intro hx_;skip))|fail)
     all_goals refine al (aq rfl rfl) ?_
     all_goals first
      | rfl
      | (simp only [*,ZQ,ZO,ZC,ZB,ZE,ZD,ZH,ZG,ZK,ZI,ZP,ZJ,ZN,ZF];done)
      | (simp_all;done)
      | (simp_all;intros;omega)
      | skip
   · rw [h,xF,pq]
     have c0:=bP ({ a with object:=⟨#[]⟩,text:=⟨#[]⟩ }:ActD)
     repeat' (first|refine bm (hab:=by omega) ?_|refine bt (hab:=by omega) ?_|apply ab|apply Qu|apply Qv|refine aj ?_|refine ad ?_|refine aA ?_|refine az ?_|refine aH ?_|refine aD ?_|refine aF ?_|refine bR ?_|refine cB ?_|refine bT ?_|refine aK ?_|refine aM fun _=>?_|refine aN fun _=>?_|refine bc ?_|refine aJ ?_|refine Qy ?_|refine Qz ?_|apply Qx|apply Qw|apply ar|(refine ao (hc:=c0) (hX:=fun _ _=>trivial) ?_)|((fail_if_success (refine aZ ?_));refine aR (ht:=?_) (hf:=?_);all_goals (intro hx_;first|have:=aP hx_|have:=aS hx_))|fail)
     all_goals refine al (aq rfl rfl) ?_
     all_goals first
      | rfl
      | (simp only [*,ZQ,ZO,ZC,ZB,ZE,ZD,ZH,ZG,ZK,ZI,ZP,ZJ,ZN,ZF];done)
      | (simp_all;done)
      | (simp_all;intros;omega)
      | skip
   · rw [h,xE,pp]
     have c0:=bP ({ a with object:=⟨#[]⟩ }:ActD)
     repeat' (first|refine bm (hab:=by omega) ?_|refine bt (hab:=by omega) ?_|apply ab|apply Qu|apply Qv|refine aj ?_|refine ad ?_|refine aA ?_|refine az ?_|refine aH ?_|refine aD ?_|refine aF ?_|refine bR ?_|refine bT ?_|refine aK ?_|refine aM fun _=>?_|refine aN fun _=>?_|refine bc ?_|refine aJ ?_|refine Qy ?_|refine Qz ?_|apply Qx|apply Qw|apply ar|(refine ao (hc:=c0) (hX:=fun _ _=>trivial) ?_)|((fail_if_success (refine aZ ?_));refine aR (ht:=?_) (hf:=?_);all_goals (intro hx_;first|have:=aP hx_|have:=aS hx_))|fail)
     all_goals refine al (aq rfl rfl) ?_
     all_goals first
      | rfl
      | (simp only [*,ZQ,ZO,ZC,ZB,ZE,ZD,ZH,ZG,ZK,ZI,ZP,ZJ,ZN,ZF];done)
      | (simp_all;done)
      | (simp_all;intros;omega)
      | skip
   · rw [h,xD,po]
     have c0:=bP ({ bareA a with object:=⟨#[]⟩ }:ActD)
     repeat' (first|refine bm (hab:=by omega) ?_|refine bt (hab:=by omega) ?_|apply ab|apply Qu|apply Qv|refine aj ?_|refine ad ?_|refine aA ?_|refine az ?_|refine aH ?_|refine aD ?_|refine aF ?_|refine bR ?_|refine bT ?_|refine aK ?_|refine aM fun _=>?_|refine aN fun _=>?_|refine bc ?_|refine aJ ?_|refine Qy ?_|refine Qz ?_|apply Qw|apply ar|(refine ao (hc:=c0) (hX:=fun _ _=>trivial) ?_)|(refine ao (hc:=c5) (hX:=fun w h=>h) ?_)|(refine ao (hc:=c6) (hX:=fun _ _=>trivial) ?_)|((fail_if_success (refine aZ ?_));refine aR (ht:=?_) (hf:=?_);all_goals (intro hx_;first|have:=aP hx_|have:=aS hx_|skip))|fail)
     all_goals refine al (aq rfl rfl) ?_
     all_goals first
      | rfl
      | (simp only [*,ZQ,ZO,ZC,ZB,ZE,ZD,ZH,ZG,ZK,ZI,ZP,ZJ,ZN,ZF];done)
      | (simp_all;done)
      | (simp_all;intros;omega)
      | skip
   · rw [h,xC,pm]
     have c0:=bP ({ a with group:=⟨#[]⟩,to:=⟨none,0,0⟩,toL:=[] }:ActD)
     repeat' (first|refine bm (hab:=by omega) ?_|refine bt (hab:=by omega) ?_|apply ab|apply Qu|apply Qv|refine aj ?_|refine ad ?_|refine aA ?_|refine az ?_|refine aH ?_|refine aD ?_|refine aF ?_|refine aK ?_|refine aM fun _=>?_|refine aN fun _=>?_|refine bc ?_|refine aJ ?_|refine Qy ?_|refine Qz ?_|apply Qw|apply ar|(refine ao (hc:=c0) (hX:=fun _ _=>trivial) ?_)|(refine ao (hc:=c4) (hX:=fun _ _=>trivial) ?_)|(refine ao (hc:=c8) (hX:=fun w h=>h.1) ?_)|((fail_if_success (refine aZ ?_));refine aR (ht:=?_) (hf:=?_);all_goals (intro hx_;skip))|fail)
     all_goals refine al (aq rfl rfl) ?_
     all_goals first
      | rfl
      | (simp only [*,ZQ,ZO,ZC,ZB,ZE,ZD,ZH,ZG,ZK,ZI,ZP,ZJ,ZN,ZF];done)
      | (simp_all;done)
      | (simp_all;intros;omega)
      | skip
   · rw [h,xB,pj]
     have c0:=bP ({ a with scope:=0,group:=⟨#[]⟩,to:=⟨none,0,0⟩,toL:=[],epoch:=0,wraps:=⟨none,0,0⟩,wrapsL:=[] }:ActD)
     repeat' (first|refine bm (hab:=by omega) ?_|refine bt (hab:=by omega) ?_|apply ab|apply Qu|apply Qv|refine aj ?_|refine ad ?_|refine aA ?_|refine az ?_|refine aH ?_|refine aD ?_|refine aF ?_|refine cB ?_|refine cZ ?_|refine aK ?_|refine aM fun _=>?_|refine aN fun _=>?_|refine bc ?_|refine aJ ?_|refine Qy ?_|refine Qz ?_|apply Qw|apply ar|(refine ao (hc:=c0) (hX:=fun _ _=>trivial) ?_)|(refine ao (hc:=c8) (hX:=fun w h=>h.1) ?_)|(refine ao (hc:=c9) (hX:=fun _ _=>trivial) ?_)|(refine ao (hc:=c10) (hX:=fun w h=>h) ?_)|((fail_if_success (refine aZ ?_));refine aR (ht:=?_) (hf:=?_);all_goals (intro hx_;first|have:=aP hx_|have:=aS hx_|skip))|fail)
     all_goals refine al (aq rfl rfl) ?_
     all_goals first
      | rfl
      | (simp only [*,ZQ,ZO,ZC,ZB,ZE,ZD,ZH,ZG,ZK,ZI,ZP,ZJ,ZN,ZF];done)
      | (simp_all;done)
      | (simp_all;intros;omega)
      | skip
   · rw [h,xA,pi]
     have c0:=bP ({ a with text:=⟨#[]⟩,object:=⟨#[]⟩,target:=⟨#[]⟩ }:ActD)
     repeat' (first|refine bm (hab:=by omega) ?_|refine bt (hab:=by omega) ?_|apply ab|apply Qu|apply Qv|refine aj ?_|refine ad ?_|refine aA ?_|refine az ?_|refine aH ?_|refine aD ?_|refine aF ?_|refine bR ?_|refine cC ?_|refine eQ ?_|refine bT ?_|refine aK ?_|refine aM fun _=>?_|refine aN fun _=>?_|refine bc ?_|refine aJ ?_|refine Qy ?_|refine Qz ?_|apply Qw|apply ar|(refine ao (hc:=c0) (hX:=fun _ _=>trivial) ?_)|(refine ao (hc:=c3) (hX:=fun _ _=>trivial) ?_)|(refine ao (hc:=c7) (hX:=fun _ _=>trivial) ?_)|((fail_if_success (refine aZ ?_));refine aR (ht:=?_) (hf:=?_);all_goals (intro hx_;first|have:=aP hx_|have:=aS hx_|skip))|(refine aG (ht:=?_) (hf:=?_);all_goals (intro hx_;skip)))
     all_goals refine al (aq rfl rfl) ?_
     all_goals first
      | rfl
      | (simp only [*,ZQ,ZO,ZC,ZB,ZE,ZD,ZH,ZG,ZK,ZI,ZP,ZJ,ZN,ZF];done)
      | (simp_all;done)
      | (simp_all;intros;omega)
      | skip
   · rw [h,xz,pg]
     have c0:=bP ({ a with n:=0,m:=0 }:ActD)
     repeat' (first|refine bm (hab:=by omega) ?_|refine bt (hab:=by omega) ?_|apply ab|apply Qu|apply Qv|refine aj ?_|refine ad ?_|refine aA ?_|refine az ?_|refine aH ?_|refine aD ?_|refine aF ?_|refine bj ?_|refine cZ ?_|refine aK ?_|refine aM fun _=>?_|refine aN fun _=>?_|refine bc ?_|refine aJ ?_|refine Qy ?_|refine Qz ?_|apply Qx|apply Qw|apply ar|(refine ao (hc:=c0) (hX:=fun _ _=>trivial) ?_)|(refine ao (hc:=c1) (hX:=fun _ _=>trivial) ?_)|((fail_if_success (refine aZ ?_));refine aR (ht:=?_) (hf:=?_);all_goals (intro hx_;first|have:=aP hx_|have:=aS hx_|skip))|fail)
     all_goals refine al (aq rfl rfl) ?_
     all_goals first
      | rfl
      | (simp only [*,ZQ,ZO,ZC,ZB,ZE,ZD,ZH,ZG,ZK,ZI,ZP,ZJ,ZN,ZF];done)
      | (simp_all;done)
      | (simp_all;intros;omega)
      | skip
   · rw [h,xy,pf]
     have c0:=bP ({ a with to:=⟨none,0,0⟩,toL:=[],wraps:=⟨none,0,0⟩,wrapsL:=[],n:=0,m:=0 }:ActD)
     repeat' (first|refine bm (hab:=by omega) ?_|refine bt (hab:=by omega) ?_|apply ab|apply Qu|apply Qv|refine aj ?_|refine ad ?_|refine aA ?_|refine az ?_|refine aH ?_|refine aD ?_|refine aF ?_|refine cB ?_|refine cK ?_|refine cZ ?_|refine aY ?_|refine aK ?_|refine aM fun _=>?_|refine aN fun _=>?_|refine bc ?_|refine aJ ?_|refine Qy ?_|refine Qz ?_|apply Qw|apply ar|(refine ao (hc:=c0) (hX:=fun _ _=>trivial) ?_)|(refine ao (hc:=c2) (hX:=fun _ _=>trivial) ?_)|(refine ao (hc:=c8) (hX:=fun w h=>h.1) ?_)|(refine ao (hc:=c10) (hX:=fun w h=>h) ?_)|((fail_if_success (refine aZ ?_));refine aR (ht:=?_) (hf:=?_);all_goals (intro hx_;first|have:=aP hx_|have:=aS hx_|skip))|fail)
     all_goals refine al (aq rfl rfl) ?_
     all_goals first
      | rfl
      | (simp only [*,ZQ,ZO,ZC,ZB,ZE,ZD,ZH,ZG,ZK,ZI,ZP,ZJ,ZN,ZF];done)
      | (simp_all;done)
      | (simp_all;intros;omega)
      | skip
   · rw [h,xx,pd]
     have c0:=bP ({ a with object:=⟨#[]⟩ }:ActD)
     repeat' (first|refine bm (hab:=by omega) ?_|refine bt (hab:=by omega) ?_|apply ab|apply Qu|apply Qv|refine aj ?_|refine ad ?_|refine aA ?_|refine az ?_|refine aH ?_|refine aD ?_|refine aF ?_|refine bR ?_|refine bT ?_|refine aK ?_|refine aM fun _=>?_|refine aN fun _=>?_|refine bc ?_|refine aJ ?_|refine Qy ?_|refine Qz ?_|apply Qw|apply ar|(refine ao (hc:=c0) (hX:=fun _ _=>trivial) ?_)|((fail_if_success (refine aZ ?_));refine aR (ht:=?_) (hf:=?_);all_goals (intro hx_;first|have:=aP hx_|have:=aS hx_))|fail)
     all_goals refine al (aq rfl rfl) ?_
     all_goals first
      | rfl
      | (simp only [*,ZQ,ZO,ZC,ZB,ZE,ZD,ZH,ZG,ZK,ZI,ZP,ZJ,ZN,ZF];done)
      | (simp_all;done)
      | (simp_all;intros;omega)
      | skip
   · rw [h,xw,pc]
     have c0:=bP ({ a with object:=⟨#[]⟩,text:=⟨#[]⟩ }:ActD)
     repeat' (first|refine bm (hab:=by omega) ?_|refine bt (hab:=by omega) ?_|apply ab|apply Qu|apply Qv|refine aj ?_|refine ad ?_|refine aA ?_|refine az ?_|refine aH ?_|refine aD ?_|refine aF ?_|refine bR ?_|refine cB ?_|refine bT ?_|refine aK ?_|refine aM fun _=>?_|refine aN fun _=>?_|refine bc ?_|refine aJ ?_|refine Qy ?_|refine Qz ?_|apply Qw|apply ar|(refine ao (hc:=c0) (hX:=fun _ _=>trivial) ?_)|((fail_if_success (refine aZ ?_));refine aR (ht:=?_) (hf:=?_);all_goals (intro hx_;first|have:=aP hx_|have:=aS hx_))|fail)
     all_goals refine al (aq rfl rfl) ?_
     all_goals first
      | rfl
      | (simp only [*,ZQ,ZO,ZC,ZB,ZE,ZD,ZH,ZG,ZK,ZI,ZP,ZJ,ZN,ZF];done)
      | (simp_all;done)
      | (simp_all;intros;omega)
      | skip
   · rw [h,xv,pb]
     have c0:=bP ({ a with object:=⟨#[]⟩,n:=0 }:ActD)
     repeat' (first|refine bm (hab:=by omega) ?_|refine bt (hab:=by omega) ?_|apply ab|apply Qu|apply Qv|refine aj ?_|refine ad ?_|refine aA ?_|refine az ?_|refine aH ?_|refine aD ?_|refine aF ?_|refine bR ?_|refine cB ?_|refine cZ ?_|refine bT ?_|refine aK ?_|refine aM fun _=>?_|refine aN fun _=>?_|refine bc ?_|refine aJ ?_|refine Qy ?_|refine Qz ?_|apply Qw|apply ar|(refine ao (hc:=c0) (hX:=fun _ _=>trivial) ?_)|((fail_if_success (refine aZ ?_));refine aR (ht:=?_) (hf:=?_);all_goals (intro hx_;first|have:=aP hx_|have:=aS hx_))|fail)
     all_goals refine al (aq rfl rfl) ?_
     all_goals first
      | rfl
      | (simp only [*,ZQ,ZO,ZC,ZB,ZE,ZD,ZH,ZG,ZK,ZI,ZP,ZJ,ZN,ZF];done)
      | (simp_all;done)
      | (simp_all;intros;omega)
      | skip
   · rw [h,xu,pa]
     have c0:=bP ({ a with target:=⟨#[]⟩,text:=⟨#[]⟩,n:=0 }:ActD)
     repeat' (first|refine bm (hab:=by omega) ?_|refine bt (hab:=by omega) ?_|apply ab|apply Qu|apply Qv|refine aj ?_|refine ad ?_|refine aA ?_|refine az ?_|refine aH ?_|refine aD ?_|refine aF ?_|refine cB ?_|refine cZ ?_|refine bT ?_|refine aK ?_|refine aM fun _=>?_|refine aN fun _=>?_|refine bc ?_|refine aJ ?_|refine Qy ?_|refine Qz ?_|apply Qw|apply ar|(refine ao (hc:=c0) (hX:=fun _ _=>trivial) ?_)|(refine ao (hc:=c7) (hX:=fun _ _=>trivial) ?_)|((fail_if_success (refine aZ ?_));refine aR (ht:=?_) (hf:=?_);all_goals (intro hx_;first|have:=aP hx_|have:=aS hx_|skip))|fail)
     all_goals refine al (aq rfl rfl) ?_
     all_goals first
      | rfl
      | (simp only [*,ZQ,ZO,ZC,ZB,ZE,ZD,ZH,ZG,ZK,ZI,ZP,ZJ,ZN,ZF];done)
      | (simp_all;done)
      | (simp_all;intros;omega)
      | skip
 · rw [fitsR,pF hk,ZG]
   repeat' (first|refine bt (hab:=by omega) ?_|apply ab|apply Qu|apply Qv|refine aj ?_|refine ad ?_|refine aA ?_|refine az ?_|refine aH ?_|refine aF ?_|refine aK ?_|refine aM fun _=>?_|refine aN fun _=>?_|refine aJ ?_|refine Qz ?_|apply Qx|apply Qw|apply ar|fail)
   exact al (aq rfl rfl) rfl
end Go.Proofs.YtcdilibijnboeaaGreatDoor
