/- Joined. -/
import Derived.Test.YtaolfiikahlmkaaGreatDoorT5
import Derived.Shelf.Strings.OnBuilder
import Derived.RangeFuncSeq
import Derived.OrdersIn
import Derived.Deep.Slices
import Derived.Deep.Fields
import Derived.ChangeSame
import Derived.ChangeArms
import Derived.Carry
import Derived.OpenShut
set_option linter.unusedVariables false
set_option linter.unusedSimpArgs false
set_option maxHeartbeats 16000000
namespace Go.Proofs.YtaolfiikahlmkaaGreatDoor
open Go Go.Proofs Sy
def IsN (x:Int) (n:Nat):Prop:=x=(n:Int)∧n<4294967296
theorem wrap32 (n:Nat):IntKind.u32.wrap (n:Int)=((n%4294967296:Nat):Int):=by
 simp [IntKind.wrap,IntKind.signed,IntKind.bits]
theorem IsN.xor {x y:Int} {m n:Nat} (h:IsN x m) (k:IsN y n):IsN (bitsV .xor .u32 x y) (m ^^^ n):=by
 obtain ⟨rfl,hm⟩:=h
 obtain ⟨rfl,hn⟩:=k
 have hx:m ^^^ n<2 ^ 32:=Nat.xor_lt_two_pow hm hn
 refine ⟨?_,hx⟩
 show IntKind.u32.wrap ((((BitVec.ofInt 32 (m:Int)) ^^^ (BitVec.ofInt 32 (n:Int))).toNat:Nat):Int)=_
 rw [Qm,Qm,BitVec.toNat_xor,Qp,Qp,ZD (show m<2 ^ 32 from hm),ZD (show n<2 ^ 32 from hn),wrap32,ZD hx]
theorem IsN.and {x y:Int} {m n:Nat} (h:IsN x m) (k:IsN y n):IsN (bitsV .and .u32 x y) (m &&& n):=by
 obtain ⟨rfl,hm⟩:=h
 obtain ⟨rfl,hn⟩:=k
 have hx:m &&& n<2 ^ 32:=Nat.and_lt_two_pow m hn
 refine ⟨?_,hx⟩
 show IntKind.u32.wrap ((((BitVec.ofInt 32 (m:Int)) &&& (BitVec.ofInt 32 (n:Int))).toNat:Nat):Int)=_
 rw [Qm,Qm,BitVec.toNat_and,Qp,Qp,ZD (show m<2 ^ 32 from hm),ZD (show n<2 ^ 32 from hn),wrap32,ZD hx]
theorem IsN.or {x y:Int} {m n:Nat} (h:IsN x m) (k:IsN y n):IsN (bitsV .or .u32 x y) (m ||| n):=by
 obtain ⟨rfl,hm⟩:=h
 obtain ⟨rfl,hn⟩:=k
 have hx:m ||| n<2 ^ 32:=Nat.or_lt_two_pow hm hn
 refine ⟨?_,hx⟩
 show IntKind.u32.wrap ((((BitVec.ofInt 32 (m:Int)) ||| (BitVec.ofInt 32 (n:Int))).toNat:Nat):Int)=_
 rw [Qm,Qm,BitVec.toNat_or,Qp,Qp,ZD (show m<2 ^ 32 from hm),ZD (show n<2 ^ 32 from hn),wrap32,ZD hx]
theorem IsN.add {x y:Int} {m n:Nat} (h:IsN x m) (k:IsN y n):IsN (a32 x y) ((m+n)%4294967296):=by
 obtain ⟨rfl,hm⟩:=h
 obtain ⟨rfl,hn⟩:=k
 refine ⟨?_,Qc _ (by decide)⟩
 show IntKind.u32.wrap ((m:Int)+(n:Int))=_
 rw [←Int.natCast_add,wrap32]
theorem IsN.shl {x:Int} {m:Nat} (h:IsN x m) {c:Int} (p:Nat) (hp:(2:Int) ^ (min c.toNat 32)=(p:Int)):IsN (shlV .u32 x c) (m*p%4294967296):=by
 obtain ⟨rfl,hm⟩:=h
 refine ⟨?_,Qc _ (by decide)⟩
 show IntKind.u32.wrap ((m:Int)*2 ^ (min c.toNat 32))=_
 rw [hp,←Int.natCast_mul,wrap32]
theorem IsN.shr {x:Int} {m:Nat} (h:IsN x m) {c:Int} (p:Nat) (hp:(2:Int) ^ (min c.toNat 32)=(p:Int)):IsN (shrV .u32 x c) (m/p):=by
 obtain ⟨rfl,hm⟩:=h
 refine ⟨?_,Nat.lt_of_le_of_lt (Nat.div_le_self _ _) hm⟩
 show (m:Int).fdiv (2 ^ (min c.toNat 32))=_
 rw [hp,←Int.ofNat_fdiv]
def rot (p q m:Nat):Nat:=(m*p%4294967296) ||| (m/q)
theorem IsN.turn {x:Int} {m:Nat} (h:IsN x m) {r c:Int} (p q:Nat) (hc:bitsV .and .u64 (IntKind.u64.wrap (IntKind.i64.wrap (0-r))) 31=c) (hd:IntKind.u64.wrap (32-c)=r) (hp:(2:Int) ^ (min c.toNat 32)=(p:Int)) (hq:(2:Int) ^ (min r.toNat 32)=(q:Int)) :
  IsN (turnV x r) (rot p q m):=by
 unfold turnV rotlV
 rw [hc,hd]
 exact (h.shl p hp).or (h.shr q hq)
def s0N (m:Nat):Nat:=rot 33554432 128 m ^^^ rot 16384 262144 m ^^^ (m/8)
def s1N (m:Nat):Nat:=rot 32768 131072 m ^^^ rot 8192 524288 m ^^^ (m/1024)
def b1N (m:Nat):Nat:=rot 67108864 64 m ^^^ rot 2097152 2048 m ^^^ rot 128 33554432 m
def b0N (m:Nat):Nat:=rot 1073741824 4 m ^^^ rot 524288 8192 m ^^^ rot 1024 4194304 m
theorem IsN.s0 {x:Int} {m:Nat} (h:IsN x m):IsN (bitsV .xor .u32 (bitsV .xor .u32 (turnV x 7) (turnV x 18)) (shrV .u32 x 3)) (s0N m) :=
 ((h.turn (c:=25) _ _ ac ac ac ac).xor (h.turn (c:=14) _ _ ac ac ac ac)).xor (h.shr 8 ac)
theorem IsN.s1 {x:Int} {m:Nat} (h:IsN x m):IsN (bitsV .xor .u32 (bitsV .xor .u32 (turnV x 17) (turnV x 19)) (shrV .u32 x 10)) (s1N m) :=
 ((h.turn (c:=15) _ _ ac ac ac ac).xor (h.turn (c:=13) _ _ ac ac ac ac)).xor (h.shr 1024 ac)
theorem IsN.b1 {x:Int} {m:Nat} (h:IsN x m):IsN (x32 (x32 (turnV x 6) (turnV x 11)) (turnV x 25)) (b1N m) :=
 ((h.turn (c:=26) _ _ ac ac ac ac).xor (h.turn (c:=21) _ _ ac ac ac ac)).xor (h.turn (c:=7) _ _ ac ac ac ac)
theorem IsN.b0 {x:Int} {m:Nat} (h:IsN x m):IsN (x32 (x32 (turnV x 2) (turnV x 13)) (turnV x 22)) (b0N m) :=
 ((h.turn (c:=30) _ _ ac ac ac ac).xor (h.turn (c:=19) _ _ ac ac ac ac)).xor (h.turn (c:=10) _ _ ac ac ac ac)
def fc {α:Type} (n:Nat) (k:Nat→α):α:=match n with
 | 0=>k 0
 | m+1=>k (Nat.succ m)
theorem na {α:Type} (n:Nat) (k:Nat→α):fc n k=k n:=by cases n<;>rfl
structure S8 where
 a:Nat
 b:Nat
 c:Nat
 d:Nat
 e:Nat
 f:Nat
 g:Nat
 h:Nat
structure RS (x:St8) (n:S8):Prop where
 a:IsN x.a n.a
 b:IsN x.b n.b
 c:IsN x.c n.c
 d:IsN x.d n.d
 e:IsN x.e n.e
 f:IsN x.f n.f
 g:IsN x.g n.g
 h:IsN x.h n.h
def t1N (h e f g k w:Nat):Nat:=((((h+b1N e)%4294967296+((e &&& f) ^^^ ((4294967295 ^^^ e) &&& g)))%4294967296+k)%4294967296+w)%4294967296
def t2N (a b c:Nat):Nat:=(b0N a+(((a &&& b) ^^^ (a &&& c)) ^^^ (b &&& c)))%4294967296
def roundN (s:S8) (k w:Nat):S8:=match s with
 | ⟨a,b,c,d,e,f,g,h⟩=>fc (t1N h e f g k w) fun t1=>fc ((t1+t2N a b c)%4294967296) fun x=>fc ((d+t1)%4294967296) fun y=>⟨x,a,b,c,y,e,f,g⟩
theorem RS.round {x:St8} {n:S8} (h:RS x n) {k w:Int} {k' w':Nat} (hk:IsN k k') (hw:IsN w w'):RS (roundV x k w) (roundN n k' w'):=by
 obtain ⟨a,b,c,d,e,f,g,hh⟩:=n
 obtain ⟨ha,hb,hc,hd,he,hf,hg,hh⟩:=h
 simp only [roundN,na]
 have hm:IsN (if IntKind.u32.signed then -1 else IntKind.u32.max) 4294967295:=⟨by kernel_rfl,by decide⟩
 have h1:IsN (t1V x k w) (t1N _ e f g k' w'):=(((hh.add he.b1).add ((he.and hf).xor ((hm.xor he).and hg))).add hk).add hw
 have h2:IsN (t2V x) (t2N a b c):=ha.b0.add (((ha.and hb).xor (ha.and hc)).xor (hb.and hc))
 exact ⟨h1.add h2,ha,hb,hc,hd.add h1,he,hf,hg⟩
structure W16 where
 w0:Nat
 w1:Nat
 w2:Nat
 w3:Nat
 w4:Nat
 w5:Nat
 w6:Nat
 w7:Nat
 w8:Nat
 w9:Nat
 w10:Nat
 w11:Nat
 w12:Nat
 w13:Nat
 w14:Nat
 w15:Nat
def nextW (a b c d:Nat):Nat:=(((a+s0N b)%4294967296+c)%4294967296+s1N d)%4294967296
def W16.next (w:W16):W16:=match w with
 | ⟨a0,a1,a2,a3,a4,a5,a6,a7,a8,a9,a10,a11,a12,a13,a14,a15⟩=>fc (nextW a0 a1 a9 a14) fun x=>⟨a1,a2,a3,a4,a5,a6,a7,a8,a9,a10,a11,a12,a13,a14,a15,x⟩
def sN (f:Nat→Nat):Nat→Nat→Nat
 | 0,t=>f t
 | k+1,t=>if t=16+k then nextW (sN f k k) (sN f k (k+1)) (sN f k (k+9)) (sN f k (k+14)) else sN f k t
def winN (f:Nat→Nat) (t:Nat):W16:=⟨sN f t t,sN f t (t+1),sN f t (t+2),sN f t (t+3),sN f t (t+4),sN f t (t+5),sN f t (t+6),sN f t (t+7),sN f t (t+8),sN f t (t+9),sN f t (t+10),sN f t (t+11),sN f t (t+12),sN f t (t+13),sN f t (t+14),sN f t (t+15)⟩
theorem pK (f:Nat→Nat) {k t:Nat} (h:t≠16+k):sN f (k+1) t=sN f k t:=by rw [sN,ZP h]
theorem tA (f:Nat→Nat) (k:Nat):sN f (k+1) (16+k)=nextW (sN f k k) (sN f k (k+1)) (sN f k (k+9)) (sN f k (k+14)):=by rw [sN,ZO rfl]
theorem iX (f:Nat→Nat) {k t:Nat}:∀ j,t<16+k→sN f (k+j) t=sN f k t
 | 0,_=>rfl
 | j+1,h=>by
  rw [show k+(j+1)=(k+j)+1 from rfl,pK f (by omega)]
  exact iX f j h
theorem W16.next_eq (a0 a1 a2 a3 a4 a5 a6 a7 a8 a9 a10 a11 a12 a13 a14 a15:Nat):W16.next ⟨a0,a1,a2,a3,a4,a5,a6,a7,a8,a9,a10,a11,a12,a13,a14,a15⟩=⟨a1,a2,a3,a4,a5,a6,a7,a8,a9,a10,a11,a12,a13,a14,a15,nextW a0 a1 a9 a14⟩:=by rw [W16.next,na]
theorem nX (f:Nat→Nat) (t:Nat):(winN f t).next=winN f (t+1):=by
 rw [winN,W16.next_eq,←tA,winN]
 have e:∀ j,j<15→sN f t (t+(j+1))=sN f (t+1) (t+1+j):=fun j hj=>by
  rw [pK f (by omega)];congr 1;omega
 have e15:sN f (t+1) (16+t)=sN f (t+1) (t+1+15):=by congr 1;omega
 rw [W16.mk.injEq]
 exact ⟨e 0 aa,e 1 aa,e 2 aa,e 3 aa,e 4 aa,e 5 aa,e 6 aa,e 7 aa,e 8 aa,e 9 aa,e 10 aa,e 11 aa,e 12 aa,e 13 aa,e 14 aa,e15⟩
theorem on {s:ByteArray} {f:Nat→Nat} (h:∀ t,t<16→IsN (wordV s t) (f t)):∀ k,k≤48→∀ t,t<16+k→IsN ((w2 s k).getD t 0) (sN f k t)
 | 0,_,t,ht=>by
  have key:∀ i,i≤16→∀ t,t<i→(w1 s i).getD t 0=wordV s t:=fun i=>by
   induction i with
   | zero=>intro _ t ht;omega
   | succ i ih =>
    intro hi t ht
    rw [w1,Zo,List.getElem?_set]
    by_cases e:i=t
    · subst e
      rw [ZO rfl,ZO (by rw [pm];omega)];rfl
    · rw [ZP e,←Zo]
      exact ih aa t aa
  rw [w2,key 16 aa t (by omega)]
  exact h t aa
 | k+1,hk,t,ht=>by
  have ih:=on h k aa
  rw [w2,Zo,List.getElem?_set]
  by_cases e:16+k=t
  · subst e
    rw [ZO rfl,ZO (by rw [pj];omega),tA]
    have h0:=ih k aa
    have h1:=ih (16+k-15) aa
    have h9:=ih (16+k-7) aa
    have h14:=ih (16+k-2) aa
    rw [show 16+k-15=k+1 by omega] at h1
    rw [show 16+k-7=k+9 by omega] at h9
    rw [show 16+k-2=k+14 by omega] at h14
    have he:early (w2 s k) (16+k)=_:=rfl
    unfold early late
    rw [show 16+k-15=k+1 by omega,show 16+k-7=k+9 by omega,show 16+k-2=k+14 by omega]
    exact ((h0.add h1.s0).add h9).add h14.s1
  · rw [ZP e,←Zo,pK f (by omega)]
    exact ih t aa
def kN:List Nat:=kC.map Int.toNat
def stepN (p:S8×W16) (k:Nat):S8×W16:=match p with
 | (s,w)=>(roundN s k w.w0,w.next)
theorem qT (s:S8) (w:W16) (k:Nat):stepN (s,w) k=(roundN s k w.w0,w.next):=by unfold stepN;rfl
def roundsN (ks:List Nat) (s:S8) (w:W16):S8:=(ks.foldl stepN (s,w)).1
theorem xk {x:St8} {ws:List Int} {f:Nat→Nat} (hw:∀ t,t<64→IsN (ws.getD t 0) (sN f t t)):∀ (n t:Nat) (s:S8),t+n=64→RS (roundsV x ws t) s→RS (roundsV x ws 64) ((kN.drop t).foldl stepN (s,winN f t)).1:=by
 intro n
 have hl:kN.length=64:=by kernel_rfl
 have hk:∀ t,t<64→kC.getD t 0=((kN.getD t 0:Nat):Int)∧kN.getD t 0<4294967296:=by decide +kernel
 induction n with
 | zero =>
  intro t s ht h
  have e:t=64:=by omega
  subst e
  rw [Qw aa,List.foldl_nil]
  exact h
 | succ n ih =>
  intro t s ht h
  have hd:kN.drop t=kN[t]'(by omega)::kN.drop (t+1):=List.drop_eq_getElem_cons aa
  have e2:kN.getD t 0=kN[t]'(by omega):=by rw [Zo,Zb (by omega)];rfl
  have h1:=hk t aa
  rw [e2] at h1
  have hw0:(winN f t).w0=sN f t t:=by unfold winN;rfl
  have hr:roundsV x ws (t+1)=roundV (roundsV x ws t) (kC.getD t 0) (ws.getD t 0):=by rw [roundsV]
  rw [hd,QG,qT,nX,hw0]
  refine ih (t+1) _ aa ?_
  rw [hr]
  exact h.round h1 (hw t aa)
theorem tC {x:St8} {ws:List Int} {f:Nat→Nat} (hw:∀ t,t<64→IsN (ws.getD t 0) (sN f t t)) {s:S8} (h:RS x s):RS (roundsV x ws 64) (roundsN kN s (winN f 0)):=by
 have h1:=xk (x:=x) hw 64 0 s (ZU _) (by rw [roundsV];exact h)
 rw [List.drop_zero] at h1
 unfold roundsN
 exact h1
def addN (x y:S8):S8:=match x,y with
 | ⟨a,b,c,d,e,f,g,h⟩,⟨a',b',c',d',e',f',g',h'⟩=>fc ((a+a')%4294967296) fun a=>fc ((b+b')%4294967296) fun b=>fc ((c+c')%4294967296) fun c=>fc ((d+d')%4294967296) fun d=>fc ((e+e')%4294967296) fun e=>fc ((f+f')%4294967296) fun f=>fc ((g+g')%4294967296) fun g=>fc ((h+h')%4294967296) fun h=>⟨a,b,c,d,e,f,g,h⟩
def mixN (s:S8) (w:W16):S8:=addN s (roundsN kN s w)
theorem RS.add {x y:St8} {m n:S8} (h:RS x m) (h1:RS y n):RS ⟨a32 x.a y.a,a32 x.b y.b,a32 x.c y.c,a32 x.d y.d,a32 x.e y.e,a32 x.f y.f,a32 x.g y.g,a32 x.h y.h⟩ (addN m n):=by
 obtain ⟨a,b,c,d,e,f,g,hh⟩:=m
 obtain ⟨a',b',c',d',e',f',g',h'⟩:=n
 simp only [addN,na]
 exact ⟨h.a.add h1.a,h.b.add h1.b,h.c.add h1.c,h.d.add h1.d,h.e.add h1.e,h.f.add h1.f,h.g.add h1.g,h.h.add h1.h⟩
theorem RS.mix {x:St8} {n:S8} (h:RS x n) {s:ByteArray} {f:Nat→Nat} (hs:∀ t,t<16→IsN (wordV s t) (f t)):RS (mixV x s) (mixN n (winN f 0)):=by
 have h1:=tC (x:=x) (ws:=schedV s) (f:=f) (fun t ht=>by
  have h2:=on hs 48 aa t aa
  by_cases e:t≤48
  · have h3:=iX f (k:=t) (t:=t) (48-t) aa
    rw [show t+(48-t)=48 by omega] at h3
    rw [schedV]
    rwa [h3] at h2
  · have h3:=iX f (k:=48) (t:=t) (t-48) aa
    rw [show 48+(t-48)=t by omega] at h3
    rw [schedV,h3]
    exact h2) h
 unfold mixV mixN
 generalize roundsV x (schedV s) 64=y at h1 ⊢
 generalize roundsN kN n (winN f 0)=y' at h1 ⊢
 exact h.add h1
def nl (s:ByteArray):List Nat:=s.data.toList.map UInt8.toNat
theorem cX (s:ByteArray):(nl s).length=s.size:=by simp [nl]
theorem xA (a b:ByteArray):nl (a++b)=nl a++nl b:=by simp [nl,ByteArray.data_append]
theorem jp (s:ByteArray):∀ x∈nl s,x<256:=fun x hx=>by
 obtain ⟨b,_,rfl⟩:=QJ.1 hx
 exact b.toNat_lt
theorem iD (s:ByteArray) (a b:Nat):nl (s.extract a b)=((nl s).drop a).take (b-a):=by
 simp [nl,ByteArray.data_extract,Array.toList_extract,List.map_take,List.map_drop]
theorem FE {a b:ByteArray} (h:nl a=nl b):a=b:=by
 apply ByteArray.ext
 apply Array.ext'
 have key:∀ l m:List UInt8,l.map UInt8.toNat=m.map UInt8.toNat→l=m:=fun l=>by
  induction l with
  | nil=>intro m h;cases m with|nil=>rfl|cons _ _=>cases h
  | cons a l ih =>
   intro m h
   cases m with
   | nil=>cases h
   | cons b m =>
    simp only [Z1,List.cons.injEq] at h
    rw [UInt8.toNat_inj.1 h.1,ih m h.2]
 exact key _ _ h
theorem km (s:ByteArray):bytesI s=(nl s).map fun (n:Nat)=>(n:Int):=by simp [bytesI,nl,Function.comp_def]
def wdN (a b c d:Nat):Nat:=((a*16777216%4294967296 ||| (b*65536%4294967296)) ||| (c*256%4294967296)) ||| d
def fW (l:List Nat) (t:Nat):Nat:=wdN (l.getD (4*t) 0) (l.getD (4*t+1) 0) (l.getD (4*t+2) 0) (l.getD (4*t+3) 0)
theorem yj (s:ByteArray) (i j:Nat) (hj:j<4):byteAt (s.extract (4*(i:Int)).toNat (4*(i:Int)+4).toNat) j=(((nl s).getD (4*i+j) 0:Nat):Int):=by
 have h1:(4*(i:Int)).toNat=4*i:=by omega
 have h2:(4*(i:Int)+4).toNat=4*i+4:=by omega
 have h0:∀ (e:ByteArray) (k:Nat),byteAt e k=(((nl e).getD k 0:Nat):Int):=fun e k=>by
  simp only [byteAt,nl,Zo,Z7]
  cases e.data.toList[k]?<;>rfl
 rw [h1,h2,h0,iD,show 4*i+4-4*i=4 by omega,Zo,Zo,QH,ZO hj,List.getElem?_drop]
theorem fy {l:List Nat} (h:∀ x∈l,x<256) (i:Nat):l.getD i 0<256:=by
 rw [Zo]
 cases hx:l[i]? with
 | none=>decide
 | some x=>exact h x (Z6 hx)
theorem Cc (s:ByteArray) (i:Nat):IsN (wordV s i) (fW (nl s) i):=by
 have hb:∀ j,j<4→IsN (IntKind.u32.wrap (byteAt (s.extract (4*(i:Int)).toNat (4*(i:Int)+4).toNat) j)) ((nl s).getD (4*i+j) 0):=fun j hj=>by
  have h:=fy (jp s) (4*i+j)
  rw [yj s i j hj,wrap32,ZD (by omega)]
  exact ⟨rfl,by omega⟩
 unfold wordV fW wdN
 exact ((((hb 0 aa).shl 16777216 ac).or ((hb 1 aa).shl 65536 ac)).or ((hb 2 aa).shl 256 ac)).or (hb 3 aa)
def rd1 {α:Type} (z:α) (l:List Nat) (k:Nat→List Nat→α):α:=match l with
 | a::b::c::d::r=>fc (wdN a b c d) fun w=>k w r
 | _=>z
theorem FA {α:Type} {z:α} {l:List Nat} {k:Nat→List Nat→α} (h:4≤l.length):rd1 z l k=k (fW l 0) (l.drop 4):=by
 match l,h with
 | a::b::c::d::r,_=>rw [rd1,na];rfl
def blkN {α:Type} (z:α) (l:List Nat) (k:W16→List Nat→α):α :=
 rd1 z l fun w0 l=>rd1 z l fun w1 l=>rd1 z l fun w2 l=>rd1 z l fun w3 l=>rd1 z l fun w4 l=>rd1 z l fun w5 l=>rd1 z l fun w6 l=>rd1 z l fun w7 l =>
 rd1 z l fun w8 l=>rd1 z l fun w9 l=>rd1 z l fun w10 l=>rd1 z l fun w11 l=>rd1 z l fun w12 l=>rd1 z l fun w13 l=>rd1 z l fun w14 l=>rd1 z l fun w15 l =>
 k ⟨w0,w1,w2,w3,w4,w5,w6,w7,w8,w9,w10,w11,w12,w13,w14,w15⟩ l
theorem D4 (l:List Nat) (m t:Nat):fW (l.drop (4*m)) t=fW l (m+t):=by
 have e:∀ j,(l.drop (4*m)).getD (4*t+j) 0=l.getD (4*(m+t)+j) 0:=fun j=>by
  rw [Zo,Zo,List.getElem?_drop,show 4*m+(4*t+j)=4*(m+t)+j by omega]
 have e0:=e 0
 simp only [ZT] at e0
 rw [fW,fW,e0,e 1,e 2,e 3]
theorem Er {α:Type} {z:α} {l:List Nat} {k:W16→List Nat→α} (h:64≤l.length):blkN z l k=k (winN (fW l) 0) (l.drop 64):=by
 have st:∀ (m:Nat) (k':Nat→List Nat→α),m<16→rd1 z (l.drop (4*m)) k'=k' (fW l m) (l.drop (4*(m+1))):=fun m k' hm=>by
  rw [FA (by rw [Qr];omega),D4,List.drop_drop]
  rfl
 have h0:l=l.drop (4*0):=rfl
 unfold blkN
 rw [h0,st 0 _ aa,st 1 _ aa,st 2 _ aa,st 3 _ aa,st 4 _ aa,st 5 _ aa,st 6 _ aa,st 7 _ aa,st 8 _ aa,st 9 _ aa,st 10 _ aa,st 11 _ aa,st 12 _ aa,st 13 _ aa,st 14 _ aa,st 15 _ (by omega)]
 rfl
def runN:Nat→S8→List Nat→S8
 | 0,x,_=>x
 | f+1,x,l=>blkN x l fun w r=>runN f (mixN x w) r
theorem fS {f:Nat} {x:S8} {l:List Nat} (h:64≤l.length):runN (f+1) x l=runN f (mixN x (winN (fW l) 0)) (l.drop 64):=Er h
theorem vH {l:List Nat} (t:Nat) (h:t<16):fW (l.take 64) t=fW l t:=by
 have e:∀ j,j<64→(l.take 64).getD j 0=l.getD j 0:=fun j hj=>by
  rw [Zo,Zo,QH,ZO hj]
 rw [fW,fW,e _ aa,e _ aa,e _ aa,e _ (by omega)]
theorem RS.blk {x:St8} {n:S8} (h:RS x n) (r:ByteArray) (hr:64≤r.size):RS (mixV x (r.extract 0 64)) (mixN n (winN (fW (nl r)) 0)) :=
 h.mix fun t ht=>by
  have h1:=Cc (r.extract 0 64) t
  rw [iD,List.drop_zero] at h1
  rwa [vH t ht] at h1
theorem p6 (r:ByteArray):nl (r.extract 64 r.size)=(nl r).drop 64:=by
 rw [iD,Qf (by rw [Qr,cX];omega)]
theorem oi (r:ByteArray) (h:64≤r.size):(r.extract 64 r.size).size=r.size-64:=by
 rw [←cX,p6,Qr,cX]
theorem oF:∀ (f:Nat) (x:St8) (n:S8) (r:ByteArray),RS x n→r.size/64≤f→RS (loopV f x r).1 (runN (r.size/64) n (nl r))∧nl (loopV f x r).2=(nl r).drop (64*(r.size/64))
 | 0,x,n,r,h,hf=>by
  have e:r.size/64=0:=by omega
  rw [e]
  exact ⟨h,rfl⟩
 | f+1,x,n,r,h,hf=>by
  by_cases hr:64≤r.size
  · have e:r.size/64=(r.size-64)/64+1:=by omega
    have hs:=oi r hr
    have ih:=oF f (mixV x (r.extract 0 64)) _ (r.extract 64 r.size) (h.blk r hr) (by rw [hs];omega)
    rw [hs,p6] at ih
    have e2:loopV (f+1) x r=loopV f (mixV x (r.extract 0 64)) (r.extract 64 r.size):=by rw [loopV,Zd aa,Zf]
    rw [e2,e,fS (by rw [cX];omega)]
    refine ⟨ih.1,?_⟩
    rw [ih.2,List.drop_drop]
    congr 1
    omega
  · have e:r.size/64=0:=by omega
    have e2:loopV (f+1) x r=(x,r):=by rw [loopV,Zc aa,Ze]
    rw [e,e2]
    exact ⟨h,rfl⟩
theorem oG:∀ (f:Nat) (x:St8) (n:S8) (r:ByteArray),RS x n→r.size%64=0→r.size/64≤f→RS (loopE f x r) (runN (r.size/64) n (nl r))
 | 0,x,n,r,h,_,hf=>by
  have e:r.size/64=0:=by omega
  rw [e]
  exact h
 | f+1,x,n,r,h,hm,hf=>by
  by_cases hr:r.size=0
  · have e:r.size/64=0:=by omega
    have e2:loopE (f+1) x r=x:=by rw [loopE,df,Zd hr,Zf]
    rw [e,e2]
    exact h
  · have hs:=oi r aa
    have e:r.size/64=(r.size-64)/64+1:=by omega
    have ih:=oG f (mixV x (r.extract 0 64)) _ (r.extract 64 r.size) (h.blk r aa) (by rw [hs];omega) (by rw [hs];omega)
    rw [hs,p6] at ih
    have e2:loopE (f+1) x r=loopE f (mixV x (r.extract 0 64)) (r.extract 64 r.size):=by rw [loopE,df,Zc hr,Ze]
    rw [e2,e,fS (by rw [cX];omega)]
    exact ih
theorem lC {f g:Nat→Nat} (h:∀ t,t<16→f t=g t):winN f 0=winN g 0:=by
 have e:∀ t,t<16→sN f 0 t=sN g 0 t:=fun t ht=>by rw [sN,sN];exact h t ht
 rw [winN,winN,W16.mk.injEq]
 exact ⟨e 0 aa,e 1 aa,e 2 aa,e 3 aa,e 4 aa,e 5 aa,e 6 aa,e 7 aa,e 8 aa,e 9 aa,e 10 aa,e 11 aa,e 12 aa,e 13 aa,e 14 aa,e 15 aa⟩
theorem xT {l e:List Nat} (h:64≤l.length) (t:Nat) (ht:t<16):fW (l++e) t=fW l t:=by
 have k:∀ j,j<64→(l++e).getD j 0=l.getD j 0:=fun j hj=>by
  rw [Zo,Zo,ZG (by omega)]
 rw [fW,fW,k _ aa,k _ aa,k _ aa,k _ (by omega)]
theorem kw (h:Nat) (e:List Nat):∀ (g:Nat) (x:S8) (l:List Nat),64*g≤l.length→runN (g+h) x (l++e)=runN h (runN g x l) (l.drop (64*g)++e)
 | 0,x,l,_=>by
  rw [ZU,Nat.mul_zero,List.drop_zero,runN]
 | g+1,x,l,hl=>by
  have ih:=kw h e g (mixN x (winN (fW l) 0)) (l.drop 64) (by rw [Qr];omega)
  rw [show g+1+h=(g+h)+1 by omega,fS (by rw [ZA];omega),lC (fun t ht=>xT aa t ht),List.drop_append_of_le_length aa,ih,fS aa,List.drop_drop]
  congr 3
  omega
def sizeN (n:Nat):List Nat:=[n*8/72057594037927936%256,n*8/281474976710656%256,n*8/1099511627776%256,n*8/4294967296%256,n*8/16777216%256,n*8/65536%256,n*8/256%256,n*8%256]
def padL (l:List Nat):List Nat:=l++(128::(List.replicate (padN (l.length+1)) 0++sizeN l.length))
def iniN:S8:=⟨1779033703,3144134277,1013904242,2773480762,1359893119,2600822924,528734635,1541459225⟩
def d4N (w:Nat):List Nat:=[w/16777216%256,w/65536%256,w/256%256,w%256]
def digN (s:S8):List Nat:=match s with
 | ⟨a,b,c,d,e,f,g,h⟩=>d4N a++(d4N b++(d4N c++(d4N d++(d4N e++(d4N f++(d4N g++d4N h))))))
def shaL (l:List Nat):List Nat:=digN (runN ((padL l).length/64) iniN (padL l))
theorem wrap8 (n:Nat):IntKind.u8.wrap (n:Int)=((n%256:Nat):Int):=by
 simp [IntKind.wrap,IntKind.signed,IntKind.bits]
theorem j3 (ns:List Nat) (h:∀ x∈ns,x<256):nl (ofInts (ns.map fun (n:Nat)=>(n:Int)))=ns:=by
 have key:∀ (ns:List Nat) (r:ByteArray),(∀ x∈ns,x<256)→nl ((ns.map fun (n:Nat)=>(n:Int)).foldl (fun r n=>r.push (UInt8.ofNat n.toNat)) r)=nl r++ns:=fun ns=>by
  induction ns with
  | nil=>intro r _;simp
  | cons a ns ih =>
   intro r h
   rw [Z1,QG,ih _ fun x hx=>h x (Zv _ hx)]
   have ha:=h a am
   have:nl (r.push (UInt8.ofNat ((a:Int)).toNat))=nl r++[a]:=by
    simp [nl,ByteArray.data_push,ZD ha]
   rw [this,ZC]
   rfl
 have:=key ns ByteArray.empty h
 simpa [ofInts,nl] using this
theorem fA {x:Int} {n:Nat} (h:IsN x n):digB x=(d4N n).map fun (n:Nat)=>(n:Int):=by
 have h24:=(h.shr (c:=24) 16777216 ac).1
 have h16:=(h.shr (c:=16) 65536 ac).1
 have h8:=(h.shr (c:=8) 256 ac).1
 unfold digB d4N
 rw [h24,h16,h8,h.1,wrap8,wrap8,wrap8,wrap8]
 rfl
theorem Gq (n:Nat):∀ x∈d4N n,x<256:=fun x hx=>by
 simp only [d4N,ZI,Qk,or_false] at hx
 rcases hx with rfl|rfl|rfl|rfl<;>exact Qc _ (by decide)
theorem FZ {x:St8} {n:S8} (h:RS x n):nl (ofInts (x.l.flatMap digB))=digN n:=by
 obtain ⟨a,b,c,d,e,f,g,hh⟩:=n
 have e1:x.l.flatMap digB=(digN ⟨a,b,c,d,e,f,g,hh⟩).map fun (n:Nat)=>(n:Int):=by
  simp only [St8.l,digN,List.flatMap_cons,List.flatMap_nil,ZJ,ZW,fA h.a,fA h.b,fA h.c,fA h.d,fA h.e,fA h.f,fA h.g,fA h.h]
 rw [e1]
 refine j3 _ fun x hx=>?_
 simp only [digN,Qy] at hx
 rcases hx with h|h|h|h|h|h|h|h<;>exact Gq _ _ h
theorem qW (n:Nat) (hn:n<2305843009213693952):sizeB (n:Int) 8=(sizeN n).map fun (n:Nat)=>(n:Int):=by
 have hw:∀ m:Nat,m<18446744073709551616→IntKind.u64.wrap (m:Int)=(m:Int):=fun m hm=>by
  simp [IntKind.wrap,IntKind.signed,IntKind.bits]
  omega
 have h1:IntKind.u64.wrap (IntKind.u64.wrap (n:Int)*8)=((n*8:Nat):Int):=by
  rw [hw n aa,show (n:Int)*8=((n*8:Nat):Int) by omega,hw _ (by omega)]
 have hs:∀ (c:Int) (p:Nat),(2:Int) ^ (min c.toNat 64)=(p:Int)→shrV .u64 ((n*8:Nat):Int) c=((n*8/p:Nat):Int):=fun c p hp=>by
  show ((n*8:Nat):Int).fdiv (2 ^ (min c.toNat 64))=_
  rw [hp,←Int.ofNat_fdiv]
 unfold sizeB sizeN
 rw [h1,show List.range 8=[0,1,2,3,4,5,6,7] by rfl]
 simp only [Z1,List.map_nil]
 rw [hs _ 72057594037927936 ac,hs _ 281474976710656 ac,hs _ 1099511627776 ac,hs _ 4294967296 ac,hs _ 16777216 ac,hs _ 65536 ac,hs _ 256 ac,hs _ 1 ac,Nat.div_one]
 simp only [wrap8]
theorem FY (s:ByteArray) (n:Nat) (hn:n<2305843009213693952):nl (endV s (n:Int))=nl s++(128::(List.replicate (padN (s.size+1)) 0++sizeN n)):=by
 have e:endL s++List.replicate (padN (s.size+1)) 0++sizeB (n:Int) 8=(nl s++(128::(List.replicate (padN (s.size+1)) 0++sizeN n))).map fun (n:Nat)=>(n:Int):=by
  rw [endL,km,qW n hn]
  simp
 rw [endV,e]
 refine j3 _ fun x hx=>?_
 simp only [Qy,ZI,List.mem_replicate] at hx
 rcases hx with h|h|h|h
 · exact jp s x h
 · omega
 · omega
 · simp only [sizeN,ZI,Qk,or_false] at h
   rcases h with rfl|rfl|rfl|rfl|rfl|rfl|rfl|rfl<;>exact Qc _ (by decide)
theorem Fl (s:ByteArray) (hs:s.size<2305843009213693952):nl (shaV s)=shaL (nl s):=by
 have hi:RS iniS iniN:=⟨⟨rfl,by decide⟩,⟨rfl,by decide⟩,⟨rfl,by decide⟩,⟨rfl,by decide⟩,⟨rfl,by decide⟩,⟨rfl,by decide⟩,⟨rfl,by decide⟩,⟨rfl,by decide⟩⟩
 obtain ⟨h1,h2⟩:=oF s.size iniS iniN s hi (Nat.div_le_self _ _)
 have h3:shaV s=ofInts ((loopE (endV (loopV s.size iniS s).2 s.size).size (loopV s.size iniS s).1 (endV (loopV s.size iniS s).2 s.size)).l.flatMap digB):=rfl
 rw [h3]
 generalize loopV s.size iniS s=p at h1 h2
 have he:=FY p.2 s.size hs
 have hps:p.2.size=s.size%64:=by
  rw [←cX,h2,Qr,cX]
  omega
 have hlen:(endV p.2 s.size).size%64=0:=oS _ _
 have h4:=oG (endV p.2 s.size).size p.1 _ (endV p.2 s.size) h1 hlen (Nat.div_le_self _ _)
 rw [FZ h4,shaL]
 congr 1
 have hpad:padN (p.2.size+1)=padN ((nl s).length+1):=by
  rw [hps,cX,padN,padN]
  omega
 have hpl:padL (nl s)=nl s++(128::(List.replicate (padN ((nl s).length+1)) 0++sizeN s.size)):=by rw [padL,cX]
 have hll:(padL (nl s)).length/64=s.size/64+(endV p.2 s.size).size/64:=by
  have e1:(endV p.2 s.size).size=(s.size%64)+1+padN ((nl s).length+1)+8:=by
   rw [←cX,he,h2,hpad]
   simp only [ZA,ZB,List.length_replicate,Qr,cX,sizeN,ZR]
   omega
  have e2:(padL (nl s)).length=s.size+1+padN ((nl s).length+1)+8:=by
   rw [hpl]
   simp only [ZA,ZB,List.length_replicate,cX,sizeN,ZR]
   omega
  rw [e1,e2]
  rw [e1] at hlen
  omega
 rw [hll,hpl,kw _ _ _ _ _ (by rw [cX];omega),he,h2,hpad]
end Go.Proofs.YtaolfiikahlmkaaGreatDoor
namespace Go.Proofs.YtaolfiikahlmkaaGreatDoor.Sy
open Go Go.RowKit
theorem Xr.later {av bor:List Nat} {w0 w w':World} {loc:List Xm} {X:World→Prop} (G:Xr av bor w0 loc X w) (hB:Below w.heap.size w w'):Xr av bor w0 loc X w' :=
 (Xr.more (r:=⟨[],fun _=>True⟩) G hB (fun _ _=>trivial) List.nodup_nil (fun i hi=>by cases hi)).drop (List.sublist_cons_self _ _)
section
variable {P:Program} {N:Nat} {av bor:List Nat} {w0:World} {ops:Array Oper} {rest:List Oper} {k:St→Prop} {E:Env} {loc:List Xm} {X:World→Prop}
variable {ty:TypeId} {pos:String} {af:Array Edge} {g:Option (Nat×Bool)} {bb want:Bool}
theorem pD {n:Nat} {x:Operand} {xs:List Operand} {ats:Array TypeId} {f:FuncId} {args:List Value} {X1:World→Prop} {v:Value} (h:Sw P N av bor w0 ops rest ⟨(n,v)::E,loc,X⟩ k) (hx:ev E x=some (.func (.func f) #[] #[]):=by rfl) (ha:evs E xs=some args:=by rfl) (hg:gdB ops E g=some (bb,want):=by rfl) (hb:bb=want:=by exact ar) (hd:Nat.blt n N=true:=by rfl) (hf:Xc P f:=by infer_instance) (hc:Pu P f args.toArray X1 v) (hX:∀ w,X w→(∀ r∈loc,r.F w)→X1 w) :
  Sw P N av bor w0 ops (⟨some n,.call ⟨.value x,xs.toArray,ats⟩,ty,pos,af,g⟩::rest) ⟨E,loc,X⟩ k:=Sw.mk fun a w ok=>by
 have hd':inB N (some n)=true:=by have h1:n<N:=Zx hd;simpa [inB] using h1
 simp only [wpList]
 rw [bx ok (o:=⟨some n,.call ⟨.value x,xs.toArray,ats⟩,ty,pos,af,g⟩) hg]
 subst hb
 simp only [Zz,ZN]
 left
 unfold Oper.wp
 have hr:(execOp a.eval ⟨some n,.call ⟨.value x,xs.toArray,ats⟩,ty,pos,af,g⟩).run P w=.ok (.enter f args.toArray) w:=by
  have e:=fZ ok xs args ha
  have e1:xs.toArray.map a.eval=args.toArray:=by rw [List.map_toArray,e]
  simp only [execOp,resolve,ok.eval (st:=⟨E,loc,X⟩) hx,Deferred.ofValue,invoke,e1]
  simp only [Sem.run_bind,Sem.run_pure,Result.andThen_ok]
  have e2:(#[]:Array Value)++args.toArray++#[]=args.toArray:=by simp
  rw [e2]
  exact jS _ w
 rw [hr]
 have G1:=ok.gam.giveAll
 have G0:=(Xr.start (pre:=[]) (fr:=[]) G1).imp (fun w h=>hX w h.1 h.2)
 unfold Pu at hc
 refine (Ct.run hc w _ G0).mono fun e w' ⟨u,R,X',he,⟨hu,hR⟩,G'⟩=>?_
 subst he
 subst hu
 have ok':Ok N av bor w0 ⟨E,loc,X⟩ a w':=ok.via fun M G=>Xr.later G G'.fr.below
 exact h.run _ _ (cO (some n) _▸ok'.put hd' _)
end
end Go.Proofs.YtaolfiikahlmkaaGreatDoor.Sy
namespace Go.Proofs.YtaolfiikahlmkaaGreatDoor
open Go Go.Proofs Sy Go.Shelf Go.RowKit Tryz
def numF (l:List Nat):Nat→Nat
 | 0=>0
 | k+1=>numF l k*256+l.getD k 0
def numN (l:List Nat):Nat:=numF l 8/8
theorem lf (s:ByteArray):∀ k,numF (nl s) k<256 ^ k
 | 0=>by simp [numF]
 | k+1=>by
  have h1:=lf s k
  have h2:=fy (jp s) k
  rw [numF,Nat.pow_succ]
  omega
theorem numF7 (s:ByteArray) {k:Nat} (hk:k<8):numF (nl s) k<72057594037927936:=by
 have h1:=lf s k
 have h2:256 ^ k≤256 ^ 7:=Nat.pow_le_pow_right (by decide) aa
 have h3:(256:Nat) ^ 7=72057594037927936:=by decide
 omega
theorem numF8 (s:ByteArray) {k:Nat} (hk:k<8):numF (nl s) k*256<18446744073709551616:=by
 have h1:=lf s k
 have h2:256 ^ k≤256 ^ 7:=Nat.pow_le_pow_right (by decide) aa
 have h3:(256:Nat) ^ 7=72057594037927936:=by decide
 omega
theorem shl8 (x:Nat) (h:x*256<18446744073709551616):shlV .u64 (x:Int) 8=((x*256:Nat):Int):=by
 show IntKind.u64.wrap ((x:Int)*2 ^ (min (8:Int).toNat 64))=_
 rw [show ((2:Int) ^ (min (8:Int).toNat 64))=256 from by kernel_rfl,cV _ (by omega)]
 omega
theorem or8 (x b:Nat) (hb:b<256) (h:x<72057594037927936):bitsV .or .u64 ((x*256:Nat):Int) (b:Int)=((x*256+b:Nat):Int):=by
 have hx:x*256+b<18446744073709551616:=by omega
 have hy:x*256<18446744073709551616:=Nat.lt_of_le_of_lt (Nat.le_add_right _ _) hx
 have hz:b<18446744073709551616:=by omega
 have hw:IntKind.u64.wrap ((x*256+b:Nat):Int)=((x*256+b:Nat):Int):=cV _ aa
 have e:x*256 ||| b=x*256+b:=by
  have:=Nat.shiftLeft_add_eq_or_of_lt (a:=x) (b:=b) (i:=8) hb
  rw [Nat.shiftLeft_eq] at this
  exact this.symm
 show IntKind.u64.wrap ((((BitVec.ofInt 64 ((x*256:Nat):Int)) ||| (BitVec.ofInt 64 (b:Int))).toNat:Nat):Int)=_
 rw [Qm,Qm,BitVec.toNat_or,Qp,Qp,ZD (show x*256<2 ^ 64 from hy),ZD (show b<2 ^ 64 from hz),e,hw]
theorem shr3 (x:Nat):shrV .u64 (x:Int) 3=((x/8:Nat):Int):=by
 show (x:Int).fdiv (2 ^ (min (3:Int).toNat 64))=_
 rw [show ((2:Int) ^ (min (3:Int).toNat 64))=((8:Nat):Int) from by kernel_rfl,←Int.ofNat_fdiv]
theorem qk (s:ByteArray) (k:Nat) (hk:k<s.size):byteAt s k=(((nl s).getD k 0:Nat):Int):=by
 simp only [byteAt,nl,Zo,Z7]
 have hl:k<s.data.toList.length:=by simpa using hk
 rw [Zb hl]
 rfl
theorem wQ (s:ByteArray):Pu prog 222 #[.string s] (fun _=>True) (.int .i64 (numN (nl s):Nat)):=by
 refine aw func222 ntmps222 fun av bor w0=>?_
 repeat' (first|refine gs ?_|fail)
 refine ao (ι:=Kth 8) (fun i=>⟨[(0,.string s),(3,.int .u64 (numF (nl s) i.k:Nat)),(5,.int .i64 i.k)],[],fun _=>True⟩) (fun i=>8-i.k) ⟨0,Z4 _⟩ (ai al (aj _) fun _ h=>h) fun i=>?_
 have hik:=i.hk
 repeat' (first|refine gs ?_|(refine gp ?_ ?_<;>intro hx_ this)|fail)
 · have hlt:i.k<8:=by omega
   have hs:i.k<s.size:=by omega
   have hb:=fy (jp s) i.k
   have hE:bitsV .or .u64 (shlV .u64 ((numF (nl s) i.k:Nat):Int) 8) (IntKind.u64.wrap (byteAt s (i.k:Int).toNat))=((numF (nl s) (i.k+1):Nat):Int):=by
    rw [shl8 _ (numF8 s hlt),show ((i.k:Int)).toNat=i.k from rfl,qk s _ hs,cV _ aa,or8 _ _ hb (numF7 s hlt)]
    rfl
   exact ⟨⟨i.k+1,hlt⟩,(by show 8-(i.k+1)<8-i.k;omega),ai ⟨rfl,congrArg (fun z=>some (Value.int IntKind.u64 z)) hE,rfl,trivial⟩ (aj _) fun _ h=>h⟩
 · have hlt:i.k<8:=by omega
   have hs:s.size≤i.k:=by omega
   have hE:shlV .u64 ((numF (nl s) i.k:Nat):Int) 8=((numF (nl s) (i.k+1):Nat):Int):=by
    rw [shl8 _ (numF8 s hlt),numF,Zo,List.getElem?_eq_none (by rw [cX];exact hs),Option.getD_none,ZT]
   exact ⟨⟨i.k+1,hlt⟩,(by show 8-(i.k+1)<8-i.k;omega),ai ⟨rfl,congrArg (fun z=>some (Value.int IntKind.u64 z)) hE,rfl,trivial⟩ (aj _) fun _ h=>h⟩
 · have h8:i.k=8:=by omega
   apply ab;apply ae;rfl;rfl
   have hl:=lf s 8
   have hp:(256:Nat) ^ 8=18446744073709551616:=by decide
   rw [h8,shr3,IntWalk.i64_in _ (by omega)]
   rfl
def catB (l:List ByteArray):ByteArray:=l.foldr (fun a b=>a++b) ⟨#[]⟩
theorem AT:∀ l:List ByteArray,nl (catB l)=l.flatMap nl
 | []=>rfl
 | a::l=>by
  show nl (a++catB l)=_
  rw [xA,AT l,List.flatMap_cons]
def PartsAt (b T:Nat) (xs:List ByteArray) (w:World):Prop:=w.heap[b]?=some (.cells (xs.map Value.string).toArray T (0,0))
theorem rL {P:Program} {f:FuncId} {args:Array Value} {X:World→Prop} {v:Value} (h:∀ w,X w→Calls P f args w fun e w'=>e=.returned v∧Below w.heap.size w w'):Pu P f args X v:=by
 unfold Pu
 exact Ct.mk fun w av G=>(h w G.keep.now).mono fun e w' ⟨he,hw⟩=>⟨v,[],X,he,⟨rfl,rfl⟩,Xr.later G hw⟩
theorem joinX:Builder.Extra prog Tryz.join_ren where
 sizeBuilder:=by kernel_rfl
 liesBuilder:=by kernel_rfl
 t5:=by kernel_rfl
 a5:=fun w=>by simp [isAgg,run_underlying (show prog.underlying (Tryz.join_ren.t 5)=some (.int .u8) from by kernel_rfl)]
 z5:=fun w=>Sy.run_sizeOf (P:=prog) (t:=Tryz.join_ren.t 5) (n:=1) ac w
 v5:=fun w=>dF (show zeroOf prog (Tryz.join_ren.t 5)=some (.int .u8 0) from by kernel_rfl) w
 infoByte:=by kernel_rfl
 cellsByte:=by kernel_rfl
 sizeByte:=by kernel_rfl
 neB5:=by decide
theorem xH (l:List (List UInt8)):Lib.join l []=l.flatten:=by
 rw [Lib.join,List.intercalate]
 induction l with
 | nil=>rfl
 | cons a l ih =>
  cases l with
  | nil=>simp
  | cons b l=>simpa using ih
theorem BL (xs:List ByteArray):(⟨(Lib.join (xs.map (·.data.toList)) (⟨#[]⟩:ByteArray).data.toList).toArray⟩:ByteArray)=catB xs:=by
 have e:(⟨#[]⟩:ByteArray).data.toList=[]:=rfl
 rw [e,xH]
 apply FE
 rw [AT]
 simp [nl,List.map_flatten,List.flatMap_def,Function.comp_def]
 rfl
theorem yi (xs:List ByteArray):(catB xs).size=(xs.map ByteArray.size).sum:=by
 induction xs with
 | nil=>rfl
 | cons a l ih =>
  show (a++catB l).size=_
  rw [Za,ih,Z1,List.sum_cons]
theorem DC (b T c:Nat) (xs:List ByteArray) (hc:xs.length≤c) (hn:xs.length≤1000) (hs:(catB xs).size≤1099511627776):Pu prog 223 #[.slice (some ⟨b,0,none⟩) xs.length c,.string ⟨#[]⟩] (PartsAt b T xs) (.string (catB xs)) :=
 rL fun w h=>by
  have hcell:∀ (j:Nat) x,xs[j]?=some x→w.cell? ⟨b,0+j,none⟩=some (.string x):=fun j x hj=>by
   simp [World.cell?,show w.heap[b]?=_ from h,hj]
  have hl:(Lib.join (xs.map (·.data.toList)) (⟨#[]⟩:ByteArray).data.toList).length=(catB xs).size:=by
   rw [←BL xs]
   simp [ByteArray.size]
  have:=Any.strings_Join Tryz.join joinX b 0 c xs ⟨#[]⟩ w hcell (QM.1 h).1 aa hc (by rw [hl];omega)
  rw [BL xs] at this
  exact this
theorem DH (b T c:Nat) (xs:List ByteArray) (hc:xs.length≤c) (hn:xs.length≤1000) (hs:(catB xs).size≤1099511627776) :
  Pu prog 134 #[.slice (some ⟨b,0,none⟩) xs.length c] (fun w=>PartsAt b T xs w∧Xi w) (.int .i64 (numN (nl (shaV (catB xs))):Nat)):=by
 refine aw func134 ntmps134 fun av bor w0=>?_
 repeat' (first|(refine ag (hc:=DC b T c xs hc hn hs) ?_)|(refine ag (hc:=pJ (catB xs) hs) ?_)|refine ag (hc:=wQ (shaV (catB xs))) ?_|refine gs ?_|fail)
 apply ab;apply ae;rfl;rfl
 rfl
end Go.Proofs.YtaolfiikahlmkaaGreatDoor
namespace Go.Proofs.YtaolfiikahlmkaaGreatDoor
open Go Go.Proofs Sy Tryz
def hashN (xs:List ByteArray):Nat:=numN (nl (shaV (catB xs)))
def reduceN (h:Nat):Nat:=1+h%2305843009213693949
def chalP (r p:Nat) (msg:ByteArray):List ByteArray:=[textV ⟨#[115,105,103,110]⟩,numV (r:Int),numV (p:Int),textV msg]
def chalN (r p:Nat) (msg:ByteArray):Nat:=hashN (chalP r p msg)%2305843009213693950
theorem Eo (r p:Nat) (msg:ByteArray) (hr:r<9223372036854775808) (hp:p<9223372036854775808) (hm:msg.size≤1000000000000) :
  Pu prog 135 #[.int .i64 (r:Int),.int .i64 (p:Int),.string msg] Xi (.int .i64 (chalN r p msg:Nat)):=by
 refine aw func135 ntmps135 fun av bor w0=>?_
 have hsz:(catB (chalP r p msg)).size≤1099511627776:=by
  have h1:=az ⟨#[115,105,103,110]⟩
  have h2:=ap (r:Int)
  have h3:=ap (p:Int)
  have h4:=az msg
  have h5:(⟨#[115,105,103,110]⟩:ByteArray).size=4:=rfl
  rw [yi]
  simp only [chalP,Z1,List.map_nil,List.sum_cons,List.sum_nil]
  omega
 repeat' (first|refine fH (c:=((chalN r p msg:Nat):Int)) (hc:=(Int.ofNat_tmod (hashN (chalP r p msg)) 2305843009213693950).symm) (hb:=by decide) ?_|refine ag (hc:=fx _ (by first|omega|decide)) ?_|refine ag (hc:=eW _ aa) ?_|(refine pD (hc:=DH _ 9 4 (chalP r p msg) (show 4≤4 by decide) (show 4≤1000 by decide) hsz) (hX:=fun w h hr=>⟨hr _ am,h⟩) ?_)|refine gs ?_|refine gs1 fun _=>?_|fail)
 apply ab;apply ae;rfl;rfl
 rfl
structure KyD where
 s:Int
 p:Int
def KyD.cells (k:KyD):List Value:=[.int .i64 k.s,.int .i64 k.p]
def KyD.v (k:KyD):Value:=.agg k.cells.toArray
def KyD.zero:KyD:=⟨0,0⟩
def ofK (s:Int):KyD:=bif decide (s<1)||decide (2305843009213693949<s) then KyD.zero else ⟨s,(expV 37 s.toNat:Nat)⟩
def eqKy (a b:KyD):Bool:=decide (a.s=b.s)&&decide (a.p=b.p)
theorem my (w:World) {cs:Array Value} {off:Nat} {v:Value} (h:cs[off]?=some v):(part 3 cs off).run prog w=.ok v w:=by
 simp [part,isAgg,run_underlying underlying3,h]
theorem Bz (w:World) (d:Nat) (a b:Int):(Op.equalIn (d+1) 3 (.int .i64 a) (.int .i64 b)).run prog w=.ok (decide (a=b)) w:=by
 rw [run_equalIn_int w d _ .i64 .i64 a b underlying3]
 rfl
section
variable {N:Nat} {av bor:List Nat} {w0:World} {x y:Operand} {t2:TypeId} {ty:TypeId} {st:St}
end
def rightK (k:KyD):Bool:=decide (1≤k.s)&&eqKy k (ofK k.s)
def nonceP (s:Int) (msg:ByteArray):List ByteArray:=[textV ⟨#[110,111,110,99,101]⟩,numV s,textV msg]
def nonceN (s:Int) (msg:ByteArray):Nat:=reduceN (hashN (nonceP s msg))
structure SgD where
 e:Int
 s:Int
def SgD.cells (k:SgD):List Value:=[.int .i64 k.e,.int .i64 k.s]
def SgD.v (k:SgD):Value:=.agg k.cells.toArray
def SgD.zero:SgD:=⟨0,0⟩
def sigE (k:KyD) (msg:ByteArray):Nat:=chalN (expV 37 (nonceN k.s msg)) k.p.toNat msg
def sigS (k:KyD) (msg:ByteArray):Nat:=(nonceN k.s msg+sigE k msg*k.s.toNat%2305843009213693950)%2305843009213693950
def signV (k:KyD) (msg:ByteArray):SgD:=bif rightK k then ⟨(sigE k msg:Nat),(sigS k msg:Nat)⟩ else SgD.zero
def keyP (seed:ByteArray):List ByteArray:=[textV ⟨#[107,101,121]⟩,textV seed]
def keyN (seed:ByteArray):Nat:=reduceN (hashN (keyP seed))
def keyOf (seed:ByteArray):KyD:=⟨(keyN seed:Nat),(expV 37 (keyN seed):Nat)⟩
def hexDg:ByteArray:=⟨#[48,49,50,51,52,53,54,55,56,57,97,98,99,100,101,102]⟩
def hexB (s:ByteArray) (i:Nat):List Int:=[byteAt hexDg (shrV .u8 (byteAt s i) 4).toNat,byteAt hexDg (bitsV .and .u8 (byteAt s i) 15).toNat]
def hexF (s:ByteArray) (n:Nat):List Int:=(List.range n).flatMap (hexB s)
def hexV (s:ByteArray):ByteArray:=ofInts (hexF s s.size)
theorem oO (s:ByteArray) (n:Nat):hexF s (n+1)=hexF s n++hexB s n:=by
 rw [hexF,List.range_succ,QQ]
 simp [hexF]
theorem Dr:∀ b:Nat,b<256→(0≤shrV .u8 (b:Int) 4∧shrV .u8 (b:Int) 4<16)∧(0≤bitsV .and .u8 (b:Int) 15∧bitsV .and .u8 (b:Int) 15<16):=by decide +kernel
theorem yk (s:ByteArray) (i:Nat):∃ b:Nat,b<256∧byteAt s i=(b:Int):=⟨(s.data.toList.getD i 0).toNat,UInt8.toNat_lt _,rfl⟩
def hexN (d:Nat):Nat:=if d<10 then 48+d else 87+d
def hexL (l:List Nat):List Nat:=l.flatMap fun b=>[hexN (b/16),hexN (b%16)]
theorem DF:∀ b:Nat,b<256→byteAt hexDg (shrV .u8 (b:Int) 4).toNat=(hexN (b/16):Nat)∧byteAt hexDg (bitsV .and .u8 (b:Int) 15).toNat=(hexN (b%16):Nat):=by decide +kernel
structure HexI where
 k:Nat
 hk:k≤32
 A:Option Addr
 c:Nat
theorem FN (s:ByteArray) (hs:s.size=32):Pu prog 111 #[.string s] (fun _=>True) (.string (hexV s)):=by
 refine aw func111 ntmps111 fun av bor w0=>?_
 repeat' (first|refine fI (c:=64) (hc:=by rw [hs];rfl) (h:=?_)|refine gs ?_|(refine iU (c:=64) (hm:=rfl) (hm2:=rfl) fun q=>?_)|fail)
 refine ao (ι:=HexI) (fun i=>⟨[(0,.string s),(3,.slice i.A (2*i.k) i.c),(10,.int .i64 s.size),(11,.int .i64 i.k)],[orow 5 1 (.slice i.A (2*i.k) i.c) (2*i.k) (u8s (hexF s i.k))],fun _=>True⟩) (fun i=>32-i.k) ⟨0,Z4 _,_,_⟩
  (ai al (aj _) fun _ h=>h) fun i=>?_
 have hik:=i.hk
 repeat' (first|refine gs ?_|(refine gp ?_ ?_<;>intro hx_ this)|fail)
 · have hlt:i.k<32:=by omega
   obtain ⟨b,hb,hbe⟩:=yk s i.k
   obtain ⟨⟨n1,n2⟩,n3,n4⟩:=Dr b hb
   rw [←hbe] at n1 n2 n3 n4
   (refine aq ⟨[0,1,2,3,4,5,6,7,8,9,10],[(11,⟨[],[(12,⟨[13],[]⟩)]⟩)]⟩ [] (fun _=>True) (h:=?_))
   all_goals repeat' (first|refine gd ?_|refine ax (hy:=by (apply sS;rfl;rfl;(first|omega|assumption);(first|omega|assumption))) ?_|refine aA ?_ (h':=?_)|exact aB|refine eD (len:=2) (vs:=u8s (hexB s i.k)) fun _=>?_|(refine iF ?_;refine aJ (size:=1) (z:=.int .u8 0) (news:=u8s (hexB s i.k)) (q:=2) rfl rfl rfl rfl (fun _=>At.there _ (At.here _)) (fun w G=>bA G am rfl rfl 2) aa (by simp only [maxLen];omega) rfl ?_ rfl ?_;(with_reducible rfl);intro A2 c2)|fail)
   rw [←bT,←oO]
   repeat' (first|refine gs ?_|fail)
   exact ⟨⟨i.k+1,hlt,A2,c2⟩,(by show 32-(i.k+1)<32-i.k;omega),ai al (List.sublist_cons_self _ _) fun _ h=>h⟩
 · have hk:i.k=s.size:=by omega
   repeat' (first|refine gs ?_|(refine eU (ns:=hexF s i.k) (hm:=by exact aQ) ?_)|fail)
   apply ab;apply ae;rfl;rfl
   rw [hk]
   rfl
theorem vC (d:Nat) (h:d<16):hexN d<256:=by
 unfold hexN
 split<;>omega
theorem DG {l:List Nat} (h:∀ x∈l,x<256):∀ x∈hexL l,x<256:=fun x hx=>by
 rw [hexL,List.mem_flatMap] at hx
 obtain ⟨b,hb,hx⟩:=hx
 have hb':=h b hb
 rcases ZI.1 hx with rfl|hx
 · exact vC _ aa
 · rw [Z5] at hx
   subst hx
   exact vC _ (Qc _ (by decide))
theorem vD (s:ByteArray):∀ n,n≤s.size→hexF s n=(hexL ((nl s).take n)).map fun (n:Nat)=>(n:Int)
 | 0,_=>rfl
 | n+1,h=>by
  have hn:n<(nl s).length:=by rw [cX];omega
  have hb:=fy (jp s) n
  have he:(nl s)[n]=(nl s).getD n 0:=by rw [Zo,Zb hn];rfl
  rw [oO,vD s n aa,List.take_succ_eq_append_getElem hn,hexL,hexL,QQ,ZW]
  congr 1
  obtain ⟨h1,h2⟩:=DF _ hb
  rw [hexB,qk s n aa,h1,h2,he]
  rfl
theorem xN (s:ByteArray):(hexV s).size=2*s.size:=by
 rw [←cX,hexV,vD s s.size (ZX _),Qf (by rw [cX];exact ZX _),j3 _ (DG (jp s)),hexL]
 rw [←cX]
 generalize nl s=l
 induction l with
 | nil=>rfl
 | cons a l ih=>rw [List.flatMap_cons,ZA,ih];simp only [ZB,ZR];omega
def idText (p:Int):ByteArray:=textV ⟨#[97,99,116,111,114]⟩++numV p
def idV (p:Int):ByteArray:=(hexV (shaV (idText p))).extract 0 16
theorem iI (p:Int) (hp:p<9223372036854775808):Pu prog 63 #[.int .i64 p] Xi (.string (idV p)):=by
 refine aw func63 ntmps63 fun av bor w0=>?_
 have h1:=az ⟨#[97,99,116,111,114]⟩
 have h2:=ap p
 have h5:(⟨#[97,99,116,111,114]⟩:ByteArray).size=5:=rfl
 have hsz:(idText p).size≤1099511627776:=by rw [idText,Za];omega
 have hhx:=xN (shaV (idText p))
 rw [jQ] at hhx
 repeat' (first|refine ag (hc:=fx _ aa) ?_|refine ag (hc:=eW _ hp) ?_|(refine ag (hc:=pJ (idText p) hsz) ?_)|(refine ag (hc:=FN (shaV (idText p)) (jQ _)) ?_)|refine gs ?_|(refine mn ?_)|(refine CK (h1:=by omega) ?_)|fail)
 apply ab;apply ae;rfl;rfl
 rfl
def Xa.sig (a:Xa) (g:SgD):Xa:={ a with e:=g.e,s:=g.s }
def actSignV (k:KyD) (a:Xa):Xa:=bif rightB (a.sig SgD.zero)&&rightK k then a.sig (signV k (coreV (a.sig SgD.zero))) else Xa.zero
namespace Sy
section
variable {P:Program} {N:Nat} {av bor:List Nat} {w0:World} {loc0:List Xm} {X0:World→Prop} {ops:Array Oper} {fuel:Nat} {listed:Array Bool} {E:Env} {loc:List Xm} {X:World→Prop} {k:St→Prop}
end
end Sy
section
variable {P:Program} {N:Nat} {av bor:List Nat} {w0:World} {ty:TypeId}
end
section
variable {N:Nat} {av bor:List Nat} {w0:World} {st:St} {ty:TypeId} {x:Operand}
end
def seedB (i:Nat):ByteArray:=⟨#[97,99,116,111,114,32]⟩++ofInts [(i:Int)]
def keyA (i:Nat):KyD:=keyOf (seedB i)
def idA21 (i:Nat):ByteArray:=idV (keyA i).p
end Go.Proofs.YtaolfiikahlmkaaGreatDoor
namespace Go.Proofs.YtaolfiikahlmkaaGreatDoor.Sy
open Go Go.RowKit
def fen (ρ:Option Nat):Fence:={ Fence.wide with round:=ρ }
def isDefer:Op→Bool
 | .defer _=>true
 | _=>false
section
variable {P:Program} {N:Nat} {av bor:List Nat} {w0:World} {ops:Array Oper} {st:St}
theorem Dg {ρ:Option Nat} {n:Nat} {row:String} {args:Array Value} {w:World} {R:Value→World→Prop} (h:Rows P row args w R):RowsIn (fen ρ) n P row args w R:=fun c cs _=>by
 obtain ⟨v,w',r,s⟩:=h c cs
 exact ⟨v,w',r,stepsIn_wide.2 s⟩
theorem BM {ρ:Option Nat} {n:Nat} {f:FuncId} {args:Array Value} {w:World} {R:Ending→World→Prop} (h:Calls P f args w R):CallsIn (fen ρ) n P f args w R:=(callsIn_wide (n:=n)).2 h
theorem Cg {ρ:Option Nat} {n:Nat} {o:Oper} {a:Act} {w:World} {K K':Act→World→Prop} {k k':St→Prop} (hd:isDefer o.op=false) (hK:∀ a w,K a w→K' a w)
  (h:o.wp P a w K (post N av bor w0 (only k'))):o.wpIn (fen ρ) n P a w K' (post N av bor w0 (only k)):=by
 refine ⟨fun _ _=>trivial,?_⟩
 rw [Oper.semAt_plain _ _ _ (fun c e=>by rw [e] at hd;cases hd)]
 unfold Oper.wp at h
 generalize (execOp a.eval o).run P w=r at *
 cases r with
 | ok nx w' =>
  cases nx<;>simp only [Oper.upon] at h<;>simp only [Oper.uponIn]
  case value u=>exact hK _ _ h
  case skip=>exact hK _ _ h
  case defer d=>exact hK _ _ h
  case enter f args =>
   refine ⟨(fun hh=>by cases hh),?_⟩
   refine BM (Calls.mono h ?_)
   intro e w'' he
   cases e with
   | returned v=>exact hK _ _ he
   | panicked c=>exact (he:False).elim
   | outgrown=>obtain ⟨_,_,h⟩:=he;exact (h:False).elim
  case row row args =>
   refine ⟨(fun hh=>by cases hh),?_⟩
   exact Dg (Rows.mono h fun u w'' he=>hK _ _ he)
 | halt x w'=>cases x<;>simp only [Oper.upon] at h<;>exact (h:False).elim
theorem ju {ρ:Option Nat} {n:Nat} {k k':St→Prop} {rest:List Oper} (hr:∀ a w,post N av bor w0 (only k') .normal a w→wpListIn (fen ρ) n P ops (post N av bor w0 (only k)) rest a w):∀ (todo:List Oper) (a:Act) (w:World),todo.all (fun o=>!isDefer o.op)=true →
  wpList P ops (post N av bor w0 (only k')) todo a w→wpListIn (fen ρ) n P ops (post N av bor w0 (only k)) (todo++rest) a w
 | [],a,w,_,h=>hr a w h
 | o::l,a,w,hd,h=>by
  simp only [List.all_cons,Zp,Bool.not_eq_true'] at hd
  simp only [wpList] at h
  simp only [ZK,wpListIn]
  split
  · rename_i hw
    simp only [hw,ZN] at h
    rcases h with h|⟨_,_,_,h⟩
    · exact Cg hd.1 (fun a w h=>ju hr l a w hd.2 h) h
    · exact (h:False).elim
  · rename_i hw
    simp only [hw] at h
    exact ⟨fun _ _=>trivial,ju hr l _ _ hd.2 h⟩
theorem vA {ρ:Option Nat} {n:Nat} {k:St→Prop} (todo:List Oper) (a:Act) (w:World) (hd:todo.all (fun o=>!isDefer o.op)=true)
  (h:wpList P ops (post N av bor w0 (only k)) todo a w):wpListIn (fen ρ) n P ops (post N av bor w0 (only k)) todo a w:=by
 have:=ju (ρ:=ρ) (n:=n) (k:=k) (rest:=[]) (fun a w h=>h) todo a w hd h
 rwa [ZJ] at this
end
def Cr (P:Program) (N:Nat) (av bor:List Nat) (w0:World) (l:Nat) (c:Code) (st:St) (K:Exit→St→Prop):Prop :=
 ∀ n a w,Ok N av bor w0 st a w→c.wpIn (fen (some l)) n P (post N av bor w0 K) a w
theorem Cr.mk {P:Program} {N:Nat} {av bor:List Nat} {w0:World} {l:Nat} {c:Code} {st:St} {K:Exit→St→Prop} (h:∀ n a w,Ok N av bor w0 st a w→c.wpIn (fen (some l)) n P (post N av bor w0 K) a w):Cr P N av bor w0 l c st K:=h
theorem Cr.run {P:Program} {N:Nat} {av bor:List Nat} {w0:World} {l:Nat} {c:Code} {st:St} {K:Exit→St→Prop} (h:Cr P N av bor w0 l c st K):∀ n a w,Ok N av bor w0 st a w→c.wpIn (fen (some l)) n P (post N av bor w0 K) a w:=h
namespace Rd
section
variable {P:Program} {N:Nat} {av bor:List Nat} {w0:World} {l:Nat} {st:St} {K:Exit→St→Prop} {E:Env} {loc:List Xm} {X:World→Prop}
theorem QV (h:K .normal st):Cr P N av bor w0 l .skip st K:=fun n a w ok=>wpIn_skip ⟨st,h,ok⟩
theorem QS {x y:Code} (h:Cr P N av bor w0 l x st (thn (fun s=>Cr P N av bor w0 l y s K) K)):Cr P N av bor w0 l (.seq x y) st K:=fun n a w ok =>
 wpIn_seq (wpIn_mono (h n a w ok) (fun e a w q=>by
  cases e with
  | panic _=>exact q
  | outgrown=>exact q
  | normal=>obtain ⟨s,h1,h2⟩:=q;exact h1 n a w h2
  | exit _=>exact q
  | goto _=>exact q
  | ret=>exact q))
theorem dD {c:Operand} {x y:Code} {b:Bool} (hc:ev st.env c=some (.bool b):=by rfl) (ht:b=true→Cr P N av bor w0 l x st K) (hf:b=false→Cr P N av bor w0 l y st K) :
  Cr P N av bor w0 l (.cond c x y) st K:=fun n a w ok=>wpIn_cond_split (ok.eval hc) (fun h=>ht h n a w ok) (fun h=>hf h n a w ok)
theorem QW {c:Operand} {x y:Code} {b:Bool} (hc:ev st.env c=some (.bool b):=by rfl) (hb:b=true:=by exact ar) (ht:Cr P N av bor w0 l x st K) :
  Cr P N av bor w0 l (.cond c x y) st K:=dD hc (fun _=>ht) (fun h=>by rw [hb] at h;cases h)
theorem QX {c:Operand} {x y:Code} {b:Bool} (hc:ev st.env c=some (.bool b):=by rfl) (hb:b=false:=by exact ar) (hf:Cr P N av bor w0 l y st K) :
  Cr P N av bor w0 l (.cond c x y) st K:=dD hc (fun h=>by rw [hb] at h;cases h) (fun _=>hf)
theorem QU {id:Nat} {c:Code} (h:Cr P N av bor w0 l c st (blk id K)):Cr P N av bor w0 l (.block id c) st K:=fun n a w ok =>
 wpIn_block (wpIn_mono (h n a w ok) (fun e a w q=>by
  cases e with
  | panic _=>exact q
  | outgrown=>exact q
  | normal=>exact q
  | exit id' =>
   obtain ⟨s,h1,h2⟩:=q
   by_cases hi:id'=id
   · simp only [blk,hi,ZN] at h1
     simp only [Exit.inBlock,hi,ZN]
     exact ⟨s,h1,h2⟩
   · simp only [blk,hi,if_false] at h1
     simp only [Exit.inBlock,hi,if_false]
     exact ⟨s,h1,h2⟩
  | goto _=>exact q
  | ret=>exact q))
theorem reg_post {k:St→Prop} {e:Exit} {a:Act} {w:World} (hk:∀ s,k s→K .normal s) (h:post N av bor w0 (only k) e a w):post N av bor w0 K e a w:=by
 cases e with
 | panic _=>exact h
 | outgrown=>exact h
 | normal=>obtain ⟨s,h1,h2⟩:=h;exact ⟨s,hk s h1,h2⟩
 | exit _=>obtain ⟨s,h1,h2⟩:=h;exact h1.elim
 | goto _=>obtain ⟨s,h1,h2⟩:=h;exact h1.elim
 | ret=>obtain ⟨s,h1,h2⟩:=h;exact h1.elim
theorem QT {id:Nat} {ol:List Oper} (hno:ol.all (fun o=>!isDefer o.op)=true:=by rfl) (h:Sw P N av bor w0 ol.toArray ol st (K .normal)):Cr P N av bor w0 l (.region id ol.toArray false) st K:=fun n a w ok =>
 wpIn_mono (wpIn_region_lit (vA ol a w hno (h.run a w ok))) fun e a w q=>reg_post (fun _ h=>h) q
end
end Rd
def YCt (P:Program) (l:Nat) (args:List Value) (pre:List Xm) (X:World→Prop) (Post:Value→List Xm→(World→Prop)→Prop):Prop :=
 ∀ (n:Nat) (w:World) (av:List Nat),Xr av (fps pre) w pre X w→YieldAt Fence.wide n P l args.toArray w fun e w'=>∃ v R X',e=.returned v∧Post v R X'∧Xr av (fps pre) w R X' w'
def Sv (P:Program) (N:Nat) (av bor:List Nat) (w0:World) (ops:Array Oper) (todo:List Oper) (st:St) (k:St→Prop):Prop :=
 ∀ n a w,Ok N av bor w0 st a w→wpListIn Fence.wide n P ops (post N av bor w0 (only k)) todo a w
section
variable {P:Program} {N:Nat} {av bor:List Nat} {w0:World} {ops:Array Oper} {rest:List Oper} {k:St→Prop} {E:Env} {loc:List Xm} {X:World→Prop} {K:Exit→St→Prop}
variable {d:Option Tmp} {ty:TypeId} {pos:String} {af:Array Edge} {g:Option (Nat×Bool)} {bb want:Bool}
theorem zR (hno:rest.all (fun o=>!isDefer o.op)=true) (h:Sw P N av bor w0 ops rest ⟨E,loc,X⟩ k):Sv P N av bor w0 ops rest ⟨E,loc,X⟩ k:=fun n a w ok=>vA (ρ:=none) rest a w hno (h.run a w ok)
theorem D9 {id:Nat} {ol:List Oper} {st:St} (h:Sv P N av bor w0 ol.toArray ol st (K .normal)):Cw P N av bor w0 (.region id ol.toArray false) st K:=Cw.mk fun a w ok =>
 (wpIn_wide (n:=0)).1 (wpIn_mono (wpIn_region_lit (h 0 a w ok)) fun e a w q=>Rd.reg_post (fun _ h=>h) q)
theorem Fj (pre:List Oper) {st:St} (hno:pre.all (fun o=>!isDefer o.op)=true) (h:Sw P N av bor w0 ops pre st (fun s=>Sv P N av bor w0 ops rest s k)):Sv P N av bor w0 ops (pre++rest) st k:=fun n a w ok =>
 ju (ρ:=none) (fun a w ⟨s,h1,h2⟩=>h1 n a w h2) pre a w hno (h.run a w ok)
theorem CU {x:Operand} {xs:List Operand} {ats:Array TypeId} {l:Nat} {args:List Value} {pre fr:List Xm} {X1:World→Prop} {Post:Value→List Xm→(World→Prop)→Prop}
  (hx:ev E x=some (.func (.yield l) #[] #[])) (ha:evs E xs=some args) (hg:gdB ops E g=some (bb,want)) (hb:bb=want) (hd:inB N d=true) (hc:YCt P l args pre X1 Post) (hX:∀ w,X w→X1 w)
  (h:∀ v R X',Post v R X'→Sv P N av bor w0 ops rest ⟨putE E d v,R++fr,fun w=>X w∧X' w⟩ k) :
  Sv P N av bor w0 ops (⟨d,.call ⟨.value x,xs.toArray,ats⟩,ty,pos,af,g⟩::rest) ⟨E,pre++fr,X⟩ k:=fun m a w ok=>by
 simp only [wpListIn]
 rw [bx ok (o:=⟨d,.call ⟨.value x,xs.toArray,ats⟩,ty,pos,af,g⟩) hg]
 subst hb
 simp only [Zz,ZN]
 refine ⟨fun _ _=>trivial,?_⟩
 obtain ⟨av',G0,hback⟩:=ok.call
 obtain ⟨fn,tmps,assign,body,hy,hR⟩:=hc (m-1) w av' (G0.imp hX)
 have e1:xs.toArray.map a.eval=args.toArray:=by rw [List.map_toArray,fZ ok xs args ha]
 have hr:(execOp a.eval ⟨d,.call ⟨.value x,xs.toArray,ats⟩,ty,pos,af,g⟩).run P w=.ok (.round l fn tmps assign body) w:=by
  simp only [execOp,resolve,ok.eval (st:=⟨E,pre++fr,X⟩) hx,Deferred.ofValue,invoke,e1]
  simp only [Sem.run_bind,Sem.run_pure,Result.andThen_ok]
  simpa using hy
 rw [Fence.wide_round,Oper.semAt_none,hr]
 simp only [Oper.uponIn]
 refine ⟨(fun hh=>by cases hh),?_⟩
 refine hR.mono ?_
 rintro e w' ⟨v,R,X',he,hp,G'⟩
 subst he
 have ok':=hback R X' w' G'
 exact h v R X' hp m _ _ (cO d v▸ok'.put hd v)
end
def It {α:Type} (P:Program) (g:FuncId) (lb:List Value) (X1:World→Prop) (enc:α→List Value) (xs:List α):Prop :=
 ∀ (l:Nat) (X:World→Prop) (Rs:List α→List Xm→Prop),(∀ w,X w→X1 w) →
  (∀ pre x suf R,xs=pre++x::suf→Rs pre R→YCt P l (enc x) R X fun v R' _=>v=.bool true∧Rs (pre++[x]) R') →
  ∀ R0,Rs [] R0→Ct P g (.func (.yield l) #[] #[]::lb).toArray R0 X fun _ R' _=>Rs xs R'
def putEs (E:Env):List Tmp→List Value→Env
 | p::ps,v::vs=>putEs ((p,v)::E) ps vs
 | _,_=>E
theorem sC {N:Nat}:∀ (ps:List Tmp) (vs:List Value) (E:Env) (t:Array Value),ps.all (fun p=>Nat.blt p N)=true→t.size=N→(∀ n v,look E n=some v→t[n]?=some v) →
  ((ps.zip vs).foldl (fun t (p:Tmp×Value)=>t.setIfInBounds p.1 p.2) t).size=N∧∀ n v,look (putEs E ps vs) n=some v→((ps.zip vs).foldl (fun t (p:Tmp×Value)=>t.setIfInBounds p.1 p.2) t)[n]?=some v
 | [],vs,E,t,_,hs,h=>⟨by simpa using hs,fun n v hn=>by simpa [putEs] using h n v (by simpa [putEs] using hn)⟩
 | p::ps,[],E,t,_,hs,h=>⟨by simpa using hs,fun n v hn=>by simpa [putEs] using h n v (by simpa [putEs] using hn)⟩
 | p::ps,v::vs,E,t,hp,hs,h=>by
  simp only [List.all_cons,Zp] at hp
  simp only [List.zip_cons_cons,QG,putEs]
  refine sC ps vs ((p,v)::E) _ hp.2 (by simpa using hs) fun n u hn=>?_
  have hlt:p<t.size:=by rw [hs];exact Zx hp.1
  simp only [look] at hn
  by_cases e:n=p
  · subst e
    have hb:Nat.beq n n=true:=by simp
    rw [hb] at hn
    simp only [Zf,ZM] at hn
    subst hn
    simp [hlt]
  · rw [ql e] at hn
    simp only [Ze] at hn
    rw [Array.getElem?_setIfInBounds_ne (Ne.symm e)]
    exact h n u hn
theorem qq {r r':Xm}:∀ (L:List Xm),At r r' (L++[r]) (L++[r'])
 | []=>.here []
 | x::L=>.there x (qq L)
section
variable {P:Program} {N:Nat} {av bor:List Nat} {w0:World} {E:Env} {loc:List Xm} {X:World→Prop} {K:Exit→St→Prop}
def lres (l:Nat) (r:Loop):Xm:=⟨[l],fun w=>w.heap[l]?=some (.loop r)⟩
theorem BH {α:Type} {g:Operand} {ps:List Tmp} {assign body:Code} {gf:Nat} {lb:List Value} {enc:α→List Value} {xs:List α} {X1:World→Prop}
  (hg:ev E g=some (.func (.func gf) #[] lb.toArray):=by rfl) (hf:Xc P gf:=by infer_instance) (hit:It P gf lb X1 enc xs) (hX:∀ w,X w→X1 w:=by (first|exact fun _ _=>trivial|exact fun _ h=>h|exact fun _ h=>h.1|exact fun _ h=>h.2)) (hps:∀ x,(enc x).length=ps.length) (hpn:ps.all (fun p=>Nat.blt p N)=true:=by rfl)
  (Inv:List α→List Xm→Prop) (h0:Inv [] loc)
  (hround:∀ l pre x suf loc1,xs=pre++x::suf→Inv pre loc1→∀ av bor w0,Cr P N av bor w0 l assign ⟨putEs E ps (enc x),loc1,X⟩ (only fun st1=>∀ av bor w0,Cr P N av bor w0 l body st1 (only fun st2=>∃ loc2,loc2.Sublist st2.loc∧Inv (pre++[x]) loc2)))
  (hdone:∀ loc1,Inv xs loc1→K .normal ⟨E,loc1,X⟩):Cw P N av bor w0 (.rangeFunc g ps.toArray assign body) ⟨E,loc,X⟩ K:=Cw.mk fun a w ok=>by
 refine (wpIn_wide (n:=0)).1 (wpIn_rangeFunc fun fn _=>?_)
 obtain ⟨rec,hrec⟩:∃ rec:LoopState→Option Code→Loop,rec=fun st pe=>{ state:=st,pending:=pe,fn,tmps:=a.tmps,params:=ps.toArray,assign,body,defers:=w.heap.size }:=⟨_,rfl⟩
 have G0:Xr av bor w0 (loc++mres a.defers) X w:=ok.gamM
 have G1:=(G0.new (.deferred (some [])) (fun w2=>w2.heap[w.heap.size]?=some (.deferred (some []))) fun _ h=>h).new (.loop (rec .ready none)) (fun w2=>w2.heap[(w.alloc (.deferred (some []))).heap.size]?=some (.loop (rec .ready none))) fun _ h=>h
 rw [World.size_alloc] at G1
 obtain ⟨W1,hW1⟩:∃ W1,(w.alloc (.deferred (some []))).alloc (.loop (rec .ready none))=W1:=⟨_,rfl⟩
 rw [hW1] at G1
 obtain ⟨l,hl⟩:∃ l,w.heap.size+1=l:=⟨_,rfl⟩
 obtain ⟨mk,hmk⟩:∃ mk:Deferred,mk={ target:=.collected w.heap.size,args:=#[] }:=⟨_,rfl⟩
 have hM:mres (mk::a.defers)=⟨[w.heap.size],fun w2=>w2.heap[w.heap.size]?=some (.deferred (some []))⟩::mres a.defers:=by subst hmk;rfl
 have G2:Xr av bor w0 ((lres l (rec .ready none)::loc)++mres (mk::a.defers)) X W1:=by
  rw [hM]
  refine G1.perm ?_
  subst hl
  exact List.Perm.cons _ List.perm_middle.symm
 refine ⟨l,[mk],W1,{ target:=.fn (.func gf) lb.toArray,args:=#[.func (.yield l) #[] #[]] },W1,gf,#[.func (.yield l) #[] #[]]++lb.toArray,W1,?_,?_,fun _ _=>trivial,?_,(fun h=>by cases h),?_⟩
 · rw [←hW1,hrec,←hl,hmk,Fence.wide_round]
   exact run_enterLoop_outer _ _ _ _ _
 · simp only [resolve,ok.eval (st:=⟨E,loc,X⟩) hg]
   simp [go_sem]
 · have eg:∀ args w,(callFunc gf args).run P w=.ok (.enter gf args) w:=fun args w=>jS args w
   simp [invoke,go_sem,eg]
 · -- the function that is ranged over
   have hct:=hit l X (fun pre R=>∃ loc1,Inv pre loc1∧R=lres l (rec .ready none)::loc1) hX ?_ (lres l (rec .ready none)::loc) ⟨loc,h0,rfl⟩
   · have e2:(.func (.yield l) #[] #[]::lb:List Value).toArray=#[.func (.yield l) #[] #[]]++lb.toArray:=by simp
     rw [e2] at hct
     refine (callsIn_wide (n:=0)).2 ((hct.run W1 _ G2.start).mono fun e w' ⟨v,R',X',he,⟨loc1,hI,hR⟩,G'⟩=>?_)
     subst he
     subst hR
     have G3:=G2.frame G'
     have hl3:w'.heap[l]?=some (.loop (rec .ready none)):=(G3.here (lres l (rec .ready none)) (by simp)).now
     refine ⟨none,_,by have:=run_endLoop (P:=P) hl3 (by rw [hrec];simp);rw [hrec] at this;exact this,?_⟩
     refine ⟨⟨E,loc1,X⟩,hdone loc1 hI,ok.size,ok.env,?_⟩
     have G4:=G3.turn (w':=w'.putObj l (.loop { rec .ready none with state:=.exhausted })) (loc':=⟨[l],fun _=>True⟩::(loc1++mres (mk::a.defers))) (At.here _) rfl rfl rfl (by simp [World.putObj]) (fun i hi=>World.putObj_heap_other hi) (fun _ _=>trivial)
     have G5:=(G4.drop (List.sublist_cons_self _ _)).imp fun w h=>h.1
     rw [hrec] at G5
     exact G5
   · -- one round
     rintro pre x suf R hxs ⟨loc1,hI,rfl⟩ n W av' G
     have hlW:W.heap[l]?=some (.loop (rec .ready none)):=(G.here (lres l (rec .ready none)) (by simp)).now
     have hy:=run_yield (P:=P) (args:=(enc x).toArray) hlW (by rw [hrec];simpa using hps x)
     have hrp:∀ s q,(rec s q).params=ps.toArray∧(rec s q).tmps=a.tmps∧(rec s q).assign=assign∧(rec s q).body=body∧(rec s q).state=s:=fun s q=>by subst hrec;exact ⟨rfl,rfl,rfl,rfl,rfl⟩
     refine ⟨_,_,_,_,hy,roundIn_of_wpIn trivial ?_⟩
     rw [(hrp _ _).1,(hrp _ _).2.1,(hrp _ _).2.2.1,(hrp _ _).2.2.2.1]
     have Ga:Xr av' (fps (lres l (rec .ready none)::loc1)) W (loc1++[lres l (rec .ready none)]) X W:=G.perm (List.perm_append_singleton _ _).symm
     have hE:=sC (N:=N) ps (enc x) E a.tmps hpn ok.size ok.env
     have hz:(Array.foldl (fun (tmps:Array Value) (x:Tmp×Value)=>tmps.setIfInBounds x.1 x.2) a.tmps (ps.toArray.zip (enc x).toArray))=(ps.zip (enc x)).foldl (fun t (p:Tmp×Value)=>t.setIfInBounds p.1 p.2) a.tmps:=by simp
     have ok0:Ok N (av'++fps [lres l (rec .ready none)]) (fps loc1) W ⟨putEs E ps (enc x),loc1,X⟩ { tmps:=(ps.zip (enc x)).foldl (fun t (p:Tmp×Value)=>t.setIfInBounds p.1 p.2) a.tmps,defers:=[] } W:=⟨hE.1,hE.2,by simpa [mres] using Ga.start⟩
     refine wpIn_mono (F:=fen (some l)) (Q:=post N (av'++fps [lres l (rec .ready none)]) (fps loc1) W (only fun st1=>∀ av bor w0,Cr P N av bor w0 l body st1 (only fun st2=>∃ loc2,loc2.Sublist st2.loc∧Inv (pre++[x]) loc2))) ?_ ?_
     · have:=(hround l pre x suf loc1 hxs hI (av'++fps [lres l (rec .ready none)]) (fps loc1) W).run n _ _ ok0
       simpa using this
     · intro e a1 w1 q
       cases e with
       | panic _=>exact q
       | outgrown=>exact q
       | exit _=>obtain ⟨_,h,_⟩:=q;exact h.elim
       | goto _=>obtain ⟨_,h,_⟩:=q;exact h.elim
       | ret=>obtain ⟨_,h,_⟩:=q;exact h.elim
       | normal =>
        obtain ⟨st1,h1,ok1⟩:=q
        have Gb:=Ga.frame ok1.gamM
        have hl1:w1.heap[l]?=some (.loop (rec .ready none)):=(Gb.here (lres l (rec .ready none)) (by simp)).now
        refine ⟨_,run_beginRound hl1 (hrp _ _).2.2.2.2,?_⟩
        have hb:{ rec .ready none with state:=.busy }=rec .busy none:=by rw [hrec]
        rw [hb]
        have Gc:=Gb.turn (w':=w1.putObj l (.loop (rec .busy none))) (loc':=(st1.loc++mres a1.defers)++[lres l (rec .busy none)]) (qq _) rfl rfl rfl (by simp [World.putObj]) (fun i hi=>World.putObj_heap_other hi)
         (fun w2 h2=>by rw [h2];exact World.putObj_heap_same (QM.1 hl1).1)
        have ok1':=(h1 (av'++fps [lres l (rec .busy none)]) (fps (st1.loc++mres a1.defers)) (w1.putObj l (.loop (rec .busy none)))).run n a1 _ ⟨ok1.size,ok1.env,Gc.start.imp fun _ h=>h.2⟩
        refine wpIn_mono ok1' ?_
        intro e a2 w3 q
        cases e with
        | panic _=>exact q
        | outgrown=>exact q
        | exit _=>obtain ⟨_,h,_⟩:=q;exact h.elim
        | goto _=>obtain ⟨_,h,_⟩:=q;exact h.elim
        | ret=>obtain ⟨_,h,_⟩:=q;exact h.elim
        | normal =>
         obtain ⟨st2,⟨loc2,hs2,h2⟩,ok2⟩:=q
         have Gd:=Gc.frame ok2.gamM
         have hl3:w3.heap[l]?=some (.loop (rec .busy none)):=(Gd.here (lres l (rec .busy none)) (by simp)).now
         have he:{ rec .busy none with state:=if (none:Option Code).isNone then .ready else .done,pending:=none }=rec .ready none:=by rw [hrec];rfl
         have hr:=run_endRound (P:=P) none hl3
         rw [he] at hr
         have Ge:=Gd.turn (w':=w3.putObj l (.loop (rec .ready none))) (loc':=(st2.loc++mres a2.defers)++[lres l (rec .ready none)]) (qq _) rfl rfl rfl (by simp [World.putObj]) (fun i hi=>World.putObj_heap_other hi)
          (fun w2 h2=>by rw [h2];exact World.putObj_heap_same (QM.1 hl3).1)
         have Gf:=(Ge.drop (loc':=loc2++[lres l (rec .ready none)]) ((hs2.trans (QE _ _)).append_right _)).perm (List.perm_append_singleton _ _)
         exact ⟨_,_,hr,.bool true,lres l (rec .ready none)::loc2,_,rfl,⟨rfl,loc2,h2,rfl⟩,Gf⟩
end
end Go.Proofs.YtaolfiikahlmkaaGreatDoor.Sy
namespace Go.Proofs.YtaolfiikahlmkaaGreatDoor
open Go Go.Proofs Sy Go.RowKit Go.Deep Go.ChangeShapes Tryz
section
variable {H:Type} {enc:TypeId×Value→H} {P:Program} {w:World} {base:Nat} {spare:Nat→Bool} {held:Bool}
theorem aS {t:TypeId} {fs:Array Field} {fuel:Nat} {cs:List Value} {x:DataW H×List MemPlace} (ht:P.underlying t=some (.struct fs)) (h:DataW.trod enc P w base spare held fuel t cs=some x) {i:Nat} {f:Field} (hf:fs[i]?=some f) {off k:Nat} {t':TypeId} (ho:f.offset=off) (htt:f.type=t') (hk:P.cellsOf t'=k) :
  ∃ n y,DataW.trod enc P w base spare held n t' ((cs.drop off).take k)=some y:=by
 obtain ⟨xs,n,_,_,_,hlen,hg⟩:=DataW.trod_struct ht h
 have h1:=hg i f hf
 have hi:i<fs.size:=(QM.1 hf).1
 subst ho;subst htt;subst hk
 rw [Zb (by omega)] at h1
 exact ⟨n,_,h1⟩
theorem fY {α:Type} [Inhabited α] {t e:TypeId} {size fuel:Nat} {cs:List Value} {x:DataW H×List MemPlace} (ht:P.underlying t=some (.slice e)) (hc:P.cellsOf e=size) (cells:α→List Value) (Q:α→Prop)
  (each:∀ n cs y,DataW.trod enc P w base spare held n e cs=some y→∃ a,cs=cells a∧Q a) (h:DataW.trod enc P w base spare held fuel t cs=some x) :
  ∃ (s:Xl) (l:List α),cs=[s.v]∧Xf w size s (l.map cells)∧∀ a∈l,Q a:=by
 rcases open_slice ht h with ⟨rfl,_⟩|⟨a,len,cap,m,n,D,Pl,rfl,hb,hl,hm,hmm,hx,hi⟩
 · exact ⟨⟨none,0,0⟩,[],rfl,cj w size,by simp⟩
 · have hlm:len≤m:=by rw [hmm];split<;>omega
   have h1:∀ i,i<len→∃ z:α,w.cells? base (a.add (i*size)) size=some (cells z)∧Q z:=fun i hil=>by
    obtain ⟨cs',h2,h3⟩:=hi i aa
    obtain ⟨z,rfl,hz⟩:=each _ _ _ h3
    rw [hc] at h2
    exact ⟨z,h2,hz⟩
   obtain ⟨F,hF⟩:=choose_lt h1
   refine ⟨⟨some a,len,cap⟩,(List.range len).map F,rfl,⟨by simp,hl,hm,fun i cs' hcs=>?_⟩,fun z hz=>?_⟩
   · simp only [Z0,Z7] at hcs
     have hil:i<len:=by
      cases hr:(List.range len)[i]? with
      | none=>rw [hr] at hcs;cases hcs
      | some k=>have:=(QL.1 hr).1;simpa using this
     rw [List.getElem?_range hil] at hcs
     simp only [Option.map_some,Function.comp_apply,ZM] at hcs
     subst hcs
     obtain ⟨_,hlen,hat⟩:=World.cells?_some (hF i hil).1
     refine ⟨hlen,rfl,fun j u hj=>⟨rfl,fun a' ha'=>?_⟩⟩
     obtain rfl:a=a':=Option.some.inj ha'
     rw [←Go.Deep.add_add,hat j (by rw [←hlen];exact (QL.1 hj).1),hj]
   · simp only [QJ,List.mem_range] at hz
     obtain ⟨i,hil,rfl⟩:=hz
     exact (hF i hil).2
theorem CellAt.keep {w':World} {p:Option Addr} {q:Nat} {u:Value} (h:CellAt w p q u) (hs:∀ k,k<w.heap.size→w'.heap[k]?=w.heap[k]?):CellAt w' p q u:=⟨h.1,fun a ha=>by
 have h1:=h.2 a ha
 have h2:(a.add q).block<w.heap.size:=by
  cases hh:w.heap[(a.add q).block]? with
  | none=>simp [World.cell?,hh] at h1
  | some o=>exact (QM.1 hh).1
 rw [World.cell?_of_block (w:=w) (hs _ h2),h1]⟩
theorem Xf.keep {w':World} {size:Nat} {s:Xl} {xs:List (List Value)} (h:Xf w size s xs) (hs:∀ k,k<w.heap.size→w'.heap[k]?=w.heap[k]?):Xf w' size s xs :=
 ⟨h.len,h.cap,h.max,fun i cs hi=>⟨(h.row i cs hi).1,(h.row i cs hi).2.1,fun j u hj=>CellAt.keep ((h.row i cs hi).2.2 j u hj) hs⟩⟩
theorem CellsAt.keep {w':World} {g:Nat} {l:List Value} (h:CellsAt g l w) (hs:∀ k,k<w.heap.size→w'.heap[k]?=w.heap[k]?):CellsAt g l w':=fun j v hj=>by
 have h1:=h j v hj
 have h2:g<w.heap.size:=by
  cases hh:w.heap[g]? with
  | none=>simp [World.cell?,hh] at h1
  | some o=>exact (QM.1 hh).1
 rw [World.cell?_of_block (w:=w) (a:=⟨g,j,none⟩) (hs _ h2),h1]
theorem XC.keep {w':World} {c:Xb} (h:XC c w) (hs:∀ k,k<w.heap.size→w'.heap[k]?=w.heap[k]?):XC c w' :=
 ⟨⟨Xf.keep h.1.1 hs,fun a ha=>⟨Xf.keep (h.1.2 a ha).1 hs,Xf.keep (h.1.2 a ha).2 hs⟩⟩,⟨h.2.ini.keep hs,h.2.k.keep hs⟩⟩
theorem Ex {n:Int} (h:(Lit.int .i64 n).wf=true):n<9223372036854775808:=by have:=(Go.bounds_i64 h).2;omega
theorem bw {fuel:Nat} {cs:List Value} {x:DataW H×List MemPlace} (h:DataW.trod enc prog w base spare held fuel 3 cs=some x):∃ n:Int,cs=[.int .i64 n]∧n<9223372036854775808:=by
 obtain ⟨n,h1,_,h3⟩:=DataW.trod_int underlying3 h
 exact ⟨n,h1,Ex h3⟩
theorem bJ {fuel:Nat} {cs:List Value} {x:DataW H×List MemPlace} (h:DataW.trod enc prog w base spare held fuel 9 cs=some x):∃ s:ByteArray,cs=[.string s]∧s.size≤maxLen:=by
 obtain ⟨s,h1,_,h3⟩:=DataW.trod_string underlying9 h
 exact ⟨s,h1,h3⟩
theorem pZ {fuel:Nat} {cs:List Value} {x:DataW H×List MemPlace} (h:DataW.trod enc prog w base spare held fuel 39 cs=some x):∃ (s:Xl) (l:List ByteArray),cs=[s.v]∧Strs w s l:=by
 obtain ⟨s,l,h1,h2,_⟩:=fY (α:=ByteArray) underlying39 (size:=1) ac (fun s=>[.string s]) (fun _=>True) (fun n cs y hy=>by obtain ⟨s,h1,_⟩:=bJ hy;exact ⟨s,h1,trivial⟩) h
 exact ⟨s,l,h1,h2⟩
theorem gw {t:TypeId} {fs:Array Field} {P:Program} {fuel k:Nat} {cs:List Value} {x:DataW H×List MemPlace} (ht:P.underlying t=some (.struct fs)) (hk:P.cellsOf t=k) (h:DataW.trod enc P w base spare held fuel t cs=some x):cs.length=k:=by
 obtain ⟨xs,n,_,_,h1,_,_⟩:=DataW.trod_struct ht h
 rw [h1,hk]
theorem rN {fuel:Nat} {cs:List Value} {x:DataW H×List MemPlace} (h:DataW.trod enc prog w base spare held fuel 41 cs=some x):∃ b:Xo,cs=b.cells:=by
 have hl:=gw underlying41 (k:=3) ac h
 obtain ⟨n0,y0,h0⟩:=aS (i:=0) (off:=0) (k:=1) (t':=9) underlying41 h rfl rfl rfl ac
 obtain ⟨n1,y1,h1⟩:=aS (i:=1) (off:=1) (k:=1) (t':=9) underlying41 h rfl rfl rfl ac
 obtain ⟨n2,y2,h2⟩:=aS (i:=2) (off:=2) (k:=1) (t':=9) underlying41 h rfl rfl rfl ac
 match cs,hl with
 | [c0,c1,c2],_ =>
  obtain ⟨s0,e0,_⟩:=bJ h0
  obtain ⟨s1,e1,_⟩:=bJ h1
  obtain ⟨s2,e2,_⟩:=bJ h2
  simp at e0 e1 e2
  exact ⟨⟨s0,s1,s2⟩,by rw [e0,e1,e2];rfl⟩
theorem xw {fuel:Nat} {cs:List Value} {x:DataW H×List MemPlace} (h:DataW.trod enc prog w base spare held fuel 112 cs=some x):∃ b:Xy,cs=b.cells∧b.to<9223372036854775808∧b.eph<9223372036854775808:=by
 have hl:=gw underlying112 (k:=5) ac h
 obtain ⟨n0,y0,h0⟩:=aS (i:=0) (off:=0) (k:=1) (t':=3) underlying112 h rfl rfl rfl ac
 obtain ⟨n1,y1,h1⟩:=aS (i:=1) (off:=1) (k:=1) (t':=3) underlying112 h rfl rfl rfl ac
 obtain ⟨n2,y2,h2⟩:=aS (i:=2) (off:=2) (k:=3) (t':=41) underlying112 h rfl rfl rfl ac
 match cs,hl with
 | [c0,c1,c2,c3,c4],_ =>
  obtain ⟨s0,e0,b0⟩:=bw h0
  obtain ⟨s1,e1,b1⟩:=bw h1
  obtain ⟨s2,e2⟩:=rN h2
  simp [Xo.cells] at e0 e1 e2
  exact ⟨⟨s0,s1,s2⟩,by simp [Xy.cells,e0,e1,e2],b0,b1⟩
theorem tS {fuel:Nat} {cs:List Value} {x:DataW H×List MemPlace} (h:DataW.trod enc prog w base spare held fuel 42 cs=some x):∃ (s:Xl) (l:List Xy),cs=[s.v]∧Wraps w s l∧∀ b∈l,b.to<9223372036854775808∧b.eph<9223372036854775808:=by
 haveI:Inhabited Xy:=⟨⟨0,0,Xo.zero⟩⟩
 exact fY (α:=Xy) underlying42 (size:=5) ac Xy.cells _ (fun n cs y hy=>xw hy) h
theorem jm {fuel:Nat} {cs:List Value} {x:DataW H×List MemPlace} (h:DataW.trod enc prog w base spare held fuel 44 cs=some x):∃ e s:Int,cs=[.int .i64 e,.int .i64 s]∧e<9223372036854775808∧s<9223372036854775808:=by
 have hl:=gw underlying44 (k:=2) ac h
 obtain ⟨n0,y0,h0⟩:=aS (i:=0) (off:=0) (k:=1) (t':=3) underlying44 h rfl rfl rfl ac
 obtain ⟨n1,y1,h1⟩:=aS (i:=1) (off:=1) (k:=1) (t':=3) underlying44 h rfl rfl rfl ac
 match cs,hl with
 | [c0,c1],_ =>
  obtain ⟨s0,e0,b0⟩:=bw h0
  obtain ⟨s1,e1,b1⟩:=bw h1
  simp at e0 e1
  exact ⟨s0,s1,by rw [e0,e1],b0,b1⟩
theorem AA {fuel:Nat} {cs:List Value} {x:DataW H×List MemPlace} (h:DataW.trod enc prog w base spare held fuel 46 cs=some x):∃ a:Xa,cs=a.cells∧a.at_ w∧a.Rng∧a.target.size≤maxLen:=by
 have hl:=gw underlying46 (k:=20) ac h
 obtain ⟨n0,y0,h0⟩:=aS (i:=0) (off:=0) (k:=1) (t':=9) underlying46 h rfl rfl rfl ac
 obtain ⟨n1,y1,h1⟩:=aS (i:=1) (off:=1) (k:=1) (t':=3) underlying46 h rfl rfl rfl ac
 obtain ⟨n2,y2,h2⟩:=aS (i:=2) (off:=2) (k:=1) (t':=9) underlying46 h rfl rfl rfl ac
 obtain ⟨n3,y3,h3⟩:=aS (i:=3) (off:=3) (k:=1) (t':=3) underlying46 h rfl rfl rfl ac
 obtain ⟨n4,y4,h4⟩:=aS (i:=4) (off:=4) (k:=1) (t':=3) underlying46 h rfl rfl rfl ac
 obtain ⟨n5,y5,h5⟩:=aS (i:=5) (off:=5) (k:=1) (t':=9) underlying46 h rfl rfl rfl ac
 obtain ⟨n6,y6,h6⟩:=aS (i:=6) (off:=6) (k:=1) (t':=9) underlying46 h rfl rfl rfl ac
 obtain ⟨n7,y7,h7⟩:=aS (i:=7) (off:=7) (k:=1) (t':=3) underlying46 h rfl rfl rfl ac
 obtain ⟨n8,y8,h8⟩:=aS (i:=8) (off:=8) (k:=1) (t':=9) underlying46 h rfl rfl rfl ac
 obtain ⟨n9,y9,h9⟩:=aS (i:=9) (off:=9) (k:=1) (t':=39) underlying46 h rfl rfl rfl ac
 obtain ⟨n10,y10,h10⟩:=aS (i:=10) (off:=10) (k:=1) (t':=9) underlying46 h rfl rfl rfl ac
 obtain ⟨n11,y11,h11⟩:=aS (i:=11) (off:=11) (k:=3) (t':=41) underlying46 h rfl rfl rfl ac
 obtain ⟨n12,y12,h12⟩:=aS (i:=12) (off:=14) (k:=1) (t':=3) underlying46 h rfl rfl rfl ac
 obtain ⟨n13,y13,h13⟩:=aS (i:=13) (off:=15) (k:=1) (t':=42) underlying46 h rfl rfl rfl ac
 obtain ⟨n14,y14,h14⟩:=aS (i:=14) (off:=16) (k:=1) (t':=3) underlying46 h rfl rfl rfl ac
 obtain ⟨n15,y15,h15⟩:=aS (i:=15) (off:=17) (k:=1) (t':=3) underlying46 h rfl rfl rfl ac
 obtain ⟨n16,y16,h16⟩:=aS (i:=16) (off:=18) (k:=2) (t':=44) underlying46 h rfl rfl rfl ac
 match cs,hl with
 | [c0,c1,c2,c3,c4,c5,c6,c7,c8,c9,c10,c11,c12,c13,c14,c15,c16,c17,c18,c19],_ =>
  obtain ⟨s0,e0,b0⟩:=bJ h0
  obtain ⟨s1,e1,b1⟩:=bw h1
  obtain ⟨s2,e2,b2⟩:=bJ h2
  obtain ⟨s3,e3,b3⟩:=bw h3
  obtain ⟨s4,e4,b4⟩:=bw h4
  obtain ⟨s5,e5,b5⟩:=bJ h5
  obtain ⟨s6,e6,b6⟩:=bJ h6
  obtain ⟨s7,e7,b7⟩:=bw h7
  obtain ⟨s8,e8,b8⟩:=bJ h8
  obtain ⟨s9,l9,e9,b9⟩:=pZ h9
  obtain ⟨s10,e10,b10⟩:=bJ h10
  obtain ⟨s11,e11⟩:=rN h11
  obtain ⟨s12,e12,b12⟩:=bw h12
  obtain ⟨s13,l13,e13,b13,r13⟩:=tS h13
  obtain ⟨s14,e14,b14⟩:=bw h14
  obtain ⟨s15,e15,b15⟩:=bw h15
  obtain ⟨s16,s17,e16,b16,b17⟩:=jm h16
  simp [Xo.cells] at e0 e1 e2 e3 e4 e5 e6 e7 e8 e9 e10 e11 e12 e13 e14 e15 e16
  refine ⟨⟨s0,s1,s2,s3,s4,s5,s6,s7,s8,s9,s10,s11,s12,s13,s14,s15,s16,s17,l9,l13⟩,?_,⟨b9,b13⟩,⟨⟨b1,b3,b4,b7,b12,b14,b15,b16,b17⟩,r13,by have:=Xf.len b9;simpa [strs] using this,by have:=Xf.len b13;simpa using this⟩,b6⟩
  simp [Xa.cells,e0,e1,e2,e3,e4,e5,e6,e7,e8,e9,e10,e11,e12,e13,e14,e15,e16]
end
end Go.Proofs.YtaolfiikahlmkaaGreatDoor
namespace Go.Proofs.YtaolfiikahlmkaaGreatDoor
open Go Go.Proofs Sy Go.RowKit Go.Deep Go.ChangeShapes Tryz
section
variable {H:Type} {enc:TypeId×Value→H} {P:Program} {w:World} {base:Nat} {spare:Nat→Bool} {held:Bool}
theorem iu {fuel:Nat} {cs:List Value} {x:DataW H×List MemPlace} (h:DataW.trod enc prog w base spare held fuel 39 cs=some x):∃ (s:Xl) (l:List ByteArray),cs=[s.v]∧Strs w s l∧∀ x∈l,x.size≤maxLen:=by
 obtain ⟨s,l,h1,h2,h3⟩:=fY (α:=ByteArray) underlying39 (size:=1) ac (fun s=>[.string s]) (fun s=>s.size≤maxLen) (fun n cs y hy=>by obtain ⟨s,h1,h2⟩:=bJ hy;exact ⟨s,h1,h2⟩) h
 exact ⟨s,l,h1,h2,h3⟩
end
end Go.Proofs.YtaolfiikahlmkaaGreatDoor
namespace Go.Proofs.YtaolfiikahlmkaaGreatDoor
open Go Go.Proofs Sy Tryz
def draftV (c:Xb) (k t:Int):Xa:={ Xa.zero with author:=c.id,seq:=(c.acts.n:Int),prev:=c.prev,kind:=k,time:=t }
def undoK (k:Int):Bool:=decide (k=4)||decide (k=5)||decide (k=7)||decide (k=8)||decide (k=10)||decide (k=11)||decide (k=17)||decide (k=23)
theorem qE (k:Int):Pu prog 192 #[.int .i64 k] (fun _=>True) (.bool (undoK k)):=by
 refine aw func192 ntmps192 fun av bor w0=>?_
 repeat' (first|refine gs ?_|(refine gp ?_ ?_<;>intro hx_ this)|fail)
 (all_goals (apply ab;apply ae;rfl;rfl));all_goals (simp only [undoK, *,Zt,Zr,Zf,Ze,Zh,Zg,Zk,Zj,Zn,Zl,Zs,Zm,Zq,Zi];done)
def atK (c:Xb) (o:Option Nat) (p:Int→Bool):Bool:=match o with
 | some j=>p (c.actsL.getD j Xa.zero).kind
 | none=>false
def fitsV (c:Xb) (a:Xa) (pl:Option Nat):Bool :=
 bif !rightB a||!seqB a.author c.id||!decide (a.seq=(c.acts.n:Int))||!seqB a.prev c.prev then false
 else bif decide (a.kind=0) != decide ((c.acts.n:Int)=0) then false
 else bif decide (a.kind=6) then atK c pl undoK
 else bif decide (a.kind=13)||decide (a.kind=14) then atK c pl postK else true
set_option maxRecDepth 20000 in
theorem DL (c:Xb) (a:Xa) (gf:Nat) [Xc prog gf] (lb:List Value) (pl:Option Nat) (Y:World→Prop) (hpl:Pu prog gf (.string a.object::lb).toArray Y (idxP pl)) (hlt:∀ j,pl=some j→j<c.actsL.length) :
  Pu prog 119 #[c.v,a.v,.func (.func gf) #[] lb.toArray] (fun w=>c.at_ w∧a.at_ w∧Y w) (.bool (fitsV c a pl)):=by
 refine aw func119 ntmps119 fun av bor w0=>?_
 refine aR (p:=c.acts.n=c.actsL.length∧c.acts.n≤maxLen∧(0<c.actsL.length→c.acts.p.isSome=true)) (fun w h=>⟨h.1.len_,h.1.max_,h.1.some_⟩) fun ⟨hl,hm,hp⟩=>?_
 simp only [maxLen] at hm
 have hri:=ez a
 cases hB:(!rightB a||!seqB a.author c.id||!decide (a.seq=(c.acts.n:Int))||!seqB a.prev c.prev) with
 | true =>
  rw [show fitsV c a pl=false from by rw [fitsV,hB];rfl]
  repeat' (first|(refine ag (hc:=hri) (hX:=fun _ h=>h.2.1) ?_)|refine gs ?_|refine gs1 fun _=>?_|(refine gp ?_ ?_<;>intro hx_ this)|fail)
  all_goals first
   | (apply ab;apply ae;rfl;rfl;rfl)
   | (exfalso;simp_all;done)
 | false =>
  have hB':=hB
  simp only [Ql,Bool.not_eq_false',Zw] at hB'
  obtain ⟨⟨⟨e1,e2⟩,e3⟩,e4⟩:=hB'
  rw [e1] at hri
  cases hK:(decide (a.kind=0) != decide ((c.acts.n:Int)=0)) with
  | true =>
   rw [show fitsV c a pl=false from by rw [fitsV,hB,hK];rfl]
   repeat' (first|refine eX (hab:=e3) ?_|(refine ag (hc:=hri) (hX:=fun _ h=>h.2.1) ?_)|refine gs ?_|refine gs1 fun _=>?_|(refine gp ?_ ?_<;>intro hx_ this)|fail)
   all_goals first
    | (apply ab;apply ae;rfl;rfl;rfl)
    | (exfalso;simp_all;done)
  | false =>
   have hF:fitsV c a pl=(bif decide (a.kind=6) then atK c pl undoK else bif decide (a.kind=13)||decide (a.kind=14) then atK c pl postK else true):=by rw [fitsV,hB,hK];rfl
   rw [hF]
   cases pl with
   | none =>
    have hpl':Pu prog gf (.string a.object::lb).toArray Y (.tuple #[.int .i64 0,.bool false]):=hpl
    repeat' (first|refine eX (hab:=e3) ?_|(refine ag (hc:=hri) (hX:=fun _ h=>h.2.1) ?_)|(refine eV (hc:=hpl') (hX:=fun _ h=>h.2.2) (h:=?_))|refine gs ?_|refine gs1 fun _=>?_|(refine gp ?_ ?_<;>intro hx_ this)|fail)
    all_goals first
     | (exfalso;simp_all;done)
     | (apply ab;apply ae;rfl;rfl;simp_all [atK];done)
   | some j =>
    have hjl:=hlt j rfl
    have hp':=hp aa
    obtain ⟨x,hx⟩:∃ x,c.actsL[j]?=some x:=⟨_,Zb hjl⟩
    have hA:∀ p,atK c (some j) p=p x.kind:=fun p=>by simp only [atK,Zo,hx,Qe]
    rw [hA,hA] at hF ⊢
    have hpl':Pu prog gf (.string a.object::lb).toArray Y (.tuple #[.int .i64 (j:Nat),.bool true]):=hpl
    clear hpl
    repeat' (first|refine eX (hab:=e3) ?_|(refine ag (hc:=hri) (hX:=fun _ h=>h.2.1) ?_)|(refine eV (hc:=hpl') (hX:=fun _ h=>h.2.2) (h:=?_))|refine ag (hc:=qE x.kind) ?_|refine ag (hc:=mH x.kind) ?_|refine gs ?_|refine gs1 fun _=>?_|(refine aD (q:=j*20) ?_)|(refine dX ?_)|(refine de (q:=j*20+3) (u:=.int .i64 x.kind) (hF:=fun w h=>(Acts.get h.1 hx).2.2 3 _ rfl) ?_)|(refine gp ?_ ?_<;>intro hx_ this)|fail)
    all_goals first
     | (exfalso;simp_all;done)
     | (apply ab;apply ae;rfl;rfl;simp_all;done)
def Xa.can (a:Xa):Xa:=a.re ⟨none,a.to.n,0⟩ ⟨none,a.wraps.n,0⟩
def Xb.can (c:Xb):Xb:={ c with acts:=⟨none,c.acts.n,0⟩,keys:=⟨none,c.keys.n,0⟩,actsL:=c.actsL.map Xa.can }
def actorB:ByteArray:=⟨#[97,99,116,111,114]⟩
def idC (i:Nat):Xb:={ Xb.zero with id:=idA21 i }
def draftB (i:Nat):Xa:={ draftV (idC i) 0 0 with text:=actorB,n:=(keyA i).p }
def actB (i:Nat):Xa:=actSignV (keyA i) (draftB i)
def beginC (i:Nat):Xb:={ idC i with acts:=⟨none,1,0⟩,keys:=⟨none,1,0⟩,prev:=digV (actB i),actsL:=[(actB i).can] }
section
variable {N:Nat} {av bor:List Nat} {w0:World} {E:Env} {loc:List Xm} {X:World→Prop}
end
structure BegI where
 k:Nat
 hk:k≤4
 L:List Xb
 hL:L.map Xb.can=(List.range k).map beginC
 xs:List Value
 hxs:xs=(L.map Xb.cells).flatten
 hb:∀ c∈L,Xx c.actsL∧c.actsL.length≤1
 A:Option Addr
 c:Nat
structure WishD where
 by_:Int
 do_:Int
 who:Int
 what:Int
 text:ByteArray
 time:Int
end Go.Proofs.YtaolfiikahlmkaaGreatDoor

namespace Go.Proofs.YtaolfiikahlmkaaGreatDoor
open Go Go.Proofs Sy Go.Shelf Go.Maps Go.Sort
end Go.Proofs.YtaolfiikahlmkaaGreatDoor
namespace Go.Proofs.YtaolfiikahlmkaaGreatDoor
open Go Go.Proofs Sy
theorem Ep (a:Xa):digV a.can=digV a:=BF rfl rfl
theorem jx (l:List Xa) (i:Nat):(l.map Xa.can).getD i Xa.zero=(l.getD i Xa.zero).can:=by
 rw [Zo,Zo,Z7]
 cases l[i]?<;>rfl
theorem Bg (l:List Xa) (d:ByteArray):idxV (l.map Xa.can) d=idxV l d:=by
 rw [idxV,idxV,List.findIdx?_map]
 exact congrArg (fun p=>l.findIdx? p) (funext fun a=>by
  show seqB (digV a.can) d=_
  rw [Ep])
theorem vY (t:TieS) (a:Xa):undoT t a.can=undoT t a:=rfl
theorem wS (l:List Xa) (i:Nat) (t:TieS) (x:Xa):stepT (l.map Xa.can) i t x.can=stepT l i t x:=by
 rw [stepT,stepT,show x.can.kind=x.kind from rfl,show x.can.target=x.target from rfl,show x.can.object=x.object from rfl,Bg]
 cases idxV l x.object with
 | none=>rfl
 | some j=>simp only [jx,vY]
theorem qK (l:List Xa):∀ n,tieF (l.map Xa.can) n=tieF l n
 | 0=>rfl
 | n+1=>by rw [tieF,tieF,qK l n,jx,wS]
theorem qJ (l:List Xa) (n:Int):tieV (l.map Xa.can) n=tieV l n:=by
 rw [tieV,tieV,qK,ZF]
end Go.Proofs.YtaolfiikahlmkaaGreatDoor
namespace Go.Proofs.YtaolfiikahlmkaaGreatDoor
open Go Go.Proofs Sy
section
variable {P:Program} {N:Nat} {av bor:List Nat} {w0:World} {x y:Operand} {t t2:TypeId} {ty:TypeId} {st:St} {k:IntKind} {a b:Int}
theorem cb [hI:Xt P t k] (v:Bool) (hx:ev st.env x=some (.int k a)) (hy:ev st.env y=some (.int k b)) (hv:decide (a<b)=v):Sy.Yields P N av bor w0 st (.binOp .lss t x y t2) ty (.bool v):=hv▸qA hx hy
theorem eT [hI:Xt P t k] (v:Bool) (hx:ev st.env x=some (.int k a)) (hy:ev st.env y=some (.int k b)) (hv:decide (b≤a)=v):Sy.Yields P N av bor w0 st (.binOp .geq t x y t2) ty (.bool v):=hv▸qC hx hy
theorem fG [hI:Xt P t k] (v:Bool) (hx:ev st.env x=some (.int k a)) (hy:ev st.env y=some (.int k b)) (hv:decide (a=b)=v):Sy.Yields P N av bor w0 st (.binOp .eql t x y t2) ty (.bool v):=hv▸kp hx hy
theorem dS [hI:Xt P t k] (v:Bool) (hx:ev st.env x=some (.int k a)) (hy:ev st.env y=some (.int k b)) (hv:(!decide (a=b))=v):Sy.Yields P N av bor w0 st (.binOp .neq t x y t2) ty (.bool v):=hv▸qy hx hy
theorem eL [hI:X8 P t] {a b:ByteArray} (v:Bool) (hx:ev st.env x=some (.string a)) (hy:ev st.env y=some (.string b)) (hv:seqB a b=v):Sy.Yields P N av bor w0 st (.binOp .eql t x y t2) ty (.bool v):=hv▸jI hx hy
theorem uB {a b:ByteArray} (v:Bool) (hx:ev st.env x=some (.string a)) (hy:ev st.env y=some (.string b)) (hv:(!seqB a b)=v):Sy.Yields P N av bor w0 st (.binOp .neq t x y t2) ty (.bool v):=hv▸lq hx hy
end
end Go.Proofs.YtaolfiikahlmkaaGreatDoor
namespace Go.Proofs.YtaolfiikahlmkaaGreatDoor
open Go Go.Proofs Sy Tryz
structure Xg where
 actor:ByteArray
 base:Int
 prev:ByteArray
 gen:Int
 home:Int
 pub:Int
 time:Int
 e:Int
 s:Int
structure Xh where
 server:Int
 actor:ByteArray
 gen:Int
 claim:ByteArray
 time:Int
 e:Int
 s:Int
structure Xu where
 server:Int
 number:Int
 kind:Int
 actor:ByteArray
 object:ByteArray
 text:ByteArray
 to:Xl
 n:Int
 from_:Int
 until_:Int
 e:Int
 s:Int
 toL:List ByteArray
structure Xe where
 kind:Int
 act:Xa
 claim:Xg
 ballot:Xh
 dec:Xu
def Xg.cells (c:Xg):List Value:=[.string c.actor,.int .i64 c.base,.string c.prev,.int .i64 c.gen,.int .i64 c.home,.int .i64 c.pub,.int .i64 c.time,.int .i64 c.e,.int .i64 c.s]
def Xg.v (c:Xg):Value:=.agg c.cells.toArray
def Xg.zero:Xg:=⟨⟨#[]⟩,0,⟨#[]⟩,0,0,0,0,0,0⟩
def Xh.cells (b:Xh):List Value:=[.int .i64 b.server,.string b.actor,.int .i64 b.gen,.string b.claim,.int .i64 b.time,.int .i64 b.e,.int .i64 b.s]
def Xh.v (b:Xh):Value:=.agg b.cells.toArray
def Xh.zero:Xh:=⟨0,⟨#[]⟩,0,⟨#[]⟩,0,0,0⟩
def Xu.cells (d:Xu):List Value:=[.int .i64 d.server,.int .i64 d.number,.int .i64 d.kind,.string d.actor,.string d.object,.string d.text,d.to.v,.int .i64 d.n,.int .i64 d.from_,.int .i64 d.until_,.int .i64 d.e,.int .i64 d.s]
def Xu.v (d:Xu):Value:=.agg d.cells.toArray
def Xu.zero:Xu:=⟨0,0,0,⟨#[]⟩,⟨#[]⟩,⟨#[]⟩,⟨none,0,0⟩,0,0,0,0,0,[]⟩
def Xu.at_ (w:World) (d:Xu):Prop:=Strs w d.to d.toL
def Xe.cells (i:Xe):List Value:=.int .i64 i.kind::(i.act.cells++i.claim.cells++i.ballot.cells++i.dec.cells)
def Xe.v (i:Xe):Value:=.agg i.cells.toArray
def Xe.at_ (w:World) (i:Xe):Prop:=Xa.at_ w i.act∧Xu.at_ w i.dec
def ofActI (a:Xa):Xe:=⟨0,a,Xg.zero,Xh.zero,Xu.zero⟩
def Xe.zero:Xe:=ofActI Xa.zero
def Items (w:World) (s:Xl) (l:List Xe):Prop:=Xf w 49 s (l.map Xe.cells)∧∀ i∈l,Xe.at_ w i
theorem Items.len_ {w:World} {s:Xl} {l:List Xe} (h:Items w s l):s.n=l.length:=by simpa using Xf.len h.1
theorem Items.max_ {w:World} {s:Xl} {l:List Xe} (h:Items w s l):s.n≤maxLen:=ZY (Xf.cap h.1) (Xf.max h.1)
theorem Items.get {w:World} {s:Xl} {l:List Xe} (h:Items w s l) {k:Nat} {x:Xe} (hx:l[k]?=some x):x.cells.length=49∧s.p.isSome=true∧∀ j u,x.cells[j]?=some u→CellAt w s.p (k*49+j) u:=Xf.row h.1 k x.cells (by simp [hx])
theorem Items.some_ {w:World} {s:Xl} {l:List Xe} (h:Items w s l) (h0:0<l.length):s.p.isSome=true:=(h.get (k:=0) (x:=l[0]) (Zb h0)).2.1
namespace SrG
section
variable {P:Program} {N:Nat} {av bor:List Nat} {w0:World} {st:St} {ty:TypeId} {x y:Operand} {t t2:TypeId} {k:IntKind}
theorem y_gtrT_g {a b:Int} [hI:Xt P t k] (hx:ev st.env x=some (.int k a)) (hy:ev st.env y=some (.int k b)) (hab:b<a):Sy.Yields P N av bor w0 st (.binOp .gtr t x y t2) ty (.bool true):=by
 have h:=ko (P:=P) (N:=N) (av:=av) (bor:=bor) (w0:=w0) (st:=st) (ty:=ty) (t:=t) (t2:=t2) hx hy
 rwa [Zd hab] at h
theorem y_gtrF_g {a b:Int} [hI:Xt P t k] (hx:ev st.env x=some (.int k a)) (hy:ev st.env y=some (.int k b)) (hab:¬ b<a):Sy.Yields P N av bor w0 st (.binOp .gtr t x y t2) ty (.bool false):=by
 have h:=ko (P:=P) (N:=N) (av:=av) (bor:=bor) (w0:=w0) (st:=st) (ty:=ty) (t:=t) (t2:=t2) hx hy
 rwa [Zc hab] at h
end
section
variable {N:Nat} {av bor:List Nat} {w0:World} {st:St} {ty:TypeId} {x y:Operand} {E:Env} {loc:List Xm} {X:World→Prop} {ops:Array Oper} {kk k:St→Prop} {pos:String} {af:Array Edge} {g:Option (Nat×Bool)} {rest:List Oper} {bb want:Bool} {n:Nat} {t t2:TypeId} {d:Option Tmp}
theorem aL [hI:Xt prog t .i64] {p q:Nat} (h:Sw prog N av bor w0 ops rest ⟨(n,.int .i64 ((p+q:Nat):Int))::E,loc,X⟩ kk) (hx:ev E x=some (.int .i64 (p:Nat)):=by rfl) (hy:ev E y=some (.int .i64 (q:Nat)):=by rfl) (hq:p+q<9223372036854775808) (hg:gdB ops E g=some (bb,want):=by rfl) (hbb:bb=want:=by exact ar) (hd:Nat.blt n N=true:=by rfl) :
  Sw prog N av bor w0 ops (⟨some n,.binOp .add t x y t2,ty,pos,af,g⟩::rest) ⟨E,loc,X⟩ kk:=d6 (c:=((p+q:Nat):Int)) hx hy (by rw [←Int.natCast_add];exact IntWalk.i64_in _ aa) hg hbb hd h
theorem aX [hI:Xt prog t .i64] {p q:Nat} (h:Sw prog N av bor w0 ops rest ⟨(n,.int .i64 ((p-q:Nat):Int))::E,loc,X⟩ kk) (hx:ev E x=some (.int .i64 (p:Nat)):=by rfl) (hy:ev E y=some (.int .i64 (q:Nat)):=by rfl) (hq:q≤p∧p<9223372036854775808) (hg:gdB ops E g=some (bb,want):=by rfl) (hbb:bb=want:=by exact ar) (hd:Nat.blt n N=true:=by rfl) :
  Sw prog N av bor w0 ops (⟨some n,.binOp .sub t x y t2,ty,pos,af,g⟩::rest) ⟨E,loc,X⟩ kk:=gg (c:=((p-q:Nat):Int)) hx hy (by rw [show (p:Int)-(q:Int)=((p-q:Nat):Int) by omega];exact IntWalk.i64_in _ aa) hg hbb hd h
theorem Fk (x:Nat):shrV .u64 (x:Int) 1=((x/2:Nat):Int):=by
 show (x:Int).fdiv (2 ^ (min (1:Int).toNat 64))=_
 rw [show (2:Int) ^ (min (1:Int).toNat 64)=((2:Nat):Int) from rfl,←Int.ofNat_fdiv]
theorem cR {p:Nat} {x y:Operand} (h:Sw prog N av bor w0 ops rest ⟨(n,.int .u64 ((p/2:Nat):Int))::E,loc,X⟩ k) (hx:ev E x=some (.int .u64 (p:Nat)):=by rfl) (hy:ev E y=some (.int .u64 1):=by rfl) (hg:gdB ops E g=some (bb,want):=by rfl) (hbb:bb=want:=by exact ar) (hd:Nat.blt n N=true:=by rfl) :
  Sw prog N av bor w0 ops (⟨some n,.binOp .shr t x y t2,ty,pos,af,g⟩::rest) ⟨E,loc,X⟩ k:=pu hx hy (by decide) hg hbb hd (by rw [Fk];exact h)
theorem vZ {p:Nat} (h:p<9223372036854775808):IntKind.u64.wrap (p:Int)=(p:Int):=by
 simp [IntKind.wrap,IntKind.signed,IntKind.bits]
 omega
theorem sy_toU_g [h1:Xt prog t .i64] [h2:Xt prog t2 .u64] {p:Nat} {x:Operand} (h:Sw prog N av bor w0 ops rest ⟨(n,.int .u64 (p:Nat))::E,loc,X⟩ k) (hx:ev E x=some (.int .i64 (p:Nat)):=by rfl) (hq:p<9223372036854775808) (hg:gdB ops E g=some (bb,want):=by rfl) (hbb:bb=want:=by exact ar) (hd:Nat.blt n N=true:=by rfl) :
  Sw prog N av bor w0 ops (⟨some n,.convert t t2 x,ty,pos,af,g⟩::rest) ⟨E,loc,X⟩ k:=jN hx (vZ hq) hg hbb hd h
theorem sy_toI_g [h1:Xt prog t .u64] [h2:Xt prog t2 .i64] {p:Nat} {x:Operand} (h:Sw prog N av bor w0 ops rest ⟨(n,.int .i64 (p:Nat))::E,loc,X⟩ k) (hx:ev E x=some (.int .u64 (p:Nat)):=by rfl) (hq:p<9223372036854775808) (hg:gdB ops E g=some (bb,want):=by rfl) (hbb:bb=want:=by exact ar) (hd:Nat.blt n N=true:=by rfl) :
  Sw prog N av bor w0 ops (⟨some n,.convert t t2 x,ty,pos,af,g⟩::rest) ⟨E,loc,X⟩ k:=jN hx (IntWalk.i64_in _ aa) hg hbb hd h
theorem sy_lssF_g {x y:Operand} {k':IntKind} {a b:Int} [hI:Xt prog t k'] (h:Sw prog N av bor w0 ops rest ⟨(n,.bool false)::E,loc,X⟩ k) (hx:ev E x=some (.int k' a):=by rfl) (hy:ev E y=some (.int k' b):=by rfl) (hab:¬ a<b:=by first|omega|decide) (hg:gdB ops E g=some (bb,want):=by rfl) (hbb:bb=want:=by exact ar) (hd:Nat.blt n N=true:=by rfl) :
  Sw prog N av bor w0 ops (⟨some n,.binOp .lss t x y t2,ty,pos,af,g⟩::rest) ⟨E,loc,X⟩ k:=eG (hx:=hx) (hy:=hy) (hg:=hg) (hbb:=hbb) (hd:=hd) (h:=by
   have e:∀ u,u=Value.bool false→Sw prog N av bor w0 ops rest ⟨(n,u)::E,loc,X⟩ k:=fun u hu=>hu▸h
   exact e _ (by simp [hab]))
theorem sy_lssT_g {x y:Operand} {k':IntKind} {a b:Int} [hI:Xt prog t k'] (h:Sw prog N av bor w0 ops rest ⟨(n,.bool true)::E,loc,X⟩ k) (hx:ev E x=some (.int k' a):=by rfl) (hy:ev E y=some (.int k' b):=by rfl) (hab:a<b:=by first|omega|decide) (hg:gdB ops E g=some (bb,want):=by rfl) (hbb:bb=want:=by exact ar) (hd:Nat.blt n N=true:=by rfl) :
  Sw prog N av bor w0 ops (⟨some n,.binOp .lss t x y t2,ty,pos,af,g⟩::rest) ⟨E,loc,X⟩ k:=eG (hx:=hx) (hy:=hy) (hg:=hg) (hbb:=hbb) (hd:=hd) (h:=by
   have e:∀ u,u=Value.bool true→Sw prog N av bor w0 ops rest ⟨(n,u)::E,loc,X⟩ k:=fun u hu=>hu▸h
   exact e _ (by simp [hab]))
theorem dM [hI:Xt prog t .i64] {p q:Nat} (h:Sw prog N av bor w0 ops rest ⟨(n,.int .i64 ((p*q:Nat):Int))::E,loc,X⟩ k) (hx:ev E x=some (.int .i64 (p:Nat)):=by rfl) (hy:ev E y=some (.int .i64 (q:Nat)):=by rfl) (hq:p*q<9223372036854775808) (hg:gdB ops E g=some (bb,want):=by rfl) (hbb:bb=want:=by exact ar) (hd:Nat.blt n N=true:=by rfl) :
  Sw prog N av bor w0 ops (⟨some n,.binOp .mul t x y t2,ty,pos,af,g⟩::rest) ⟨E,loc,X⟩ k:=fI (c:=((p*q:Nat):Int)) hx hy (by rw [←Int.natCast_mul];exact IntWalk.i64_in _ aa) hg hbb hd h
end
structure BinI_g (lo hi:Nat) where
 i:Nat
 j:Nat
 h1:lo≤i
 h2:i≤j
 h3:j≤hi
structure MerI_g (a m b mid:Nat) where
 i:Nat
 j:Nat
 h1:i≤j
 h2:mid<m→mid+m≤i+b∧j≤mid
 h3:m≤mid→a≤i∧j≤m
def cmpB_g (x y:ByteArray):Int:=bif Op.bytesLess x.toList y.toList then -1 else bif !(Op.bytesLess x.toList y.toList||seqB x y) then 1 else 0
theorem tX (x:ByteArray):Pu prog 142 #[.string x] (fun _=>True) (.bool false):=by
 refine aw func142 ntmps142 fun av bor w0=>?_
 have h:=cG x
 repeat' (first|refine gs ?_|fail)
 apply ab;apply ae;rfl;rfl
 rw [h]
 rfl
theorem gD (x y:ByteArray):Pu prog 84 #[.string x,.string y] (fun _=>True) (.int .i64 (cmpB_g x y)):=by
 refine aw func84 ntmps84 fun av bor w0=>?_
 repeat' (first|refine ag (hc:=tX _) ?_|refine gs ?_|(refine uU ?_)|(refine uV ?_)|(refine gp ?_ ?_<;>intro hx_ this)|fail)
 (all_goals (apply ab;apply ae;rfl;rfl));all_goals first|(simp only [cmpB_g, *,Zt,Zr,Zf,Ze,Zh,Zg,Zk,Zj,Zn,Zl,Zs,Zm,Zq,Zi];done)|(simp_all [cmpB_g];done)
def cmpI (a b:Int):Int:=bif decide (a<b) then -1 else bif decide (b<a) then 1 else 0
theorem cmpI_self (a:Int):cmpI a a=0:=by simp [cmpI]
def cmp2 (a b:Int) (x y:ByteArray):Int:=bif decide (cmpI a b=0) then cmpB_g x y else cmpI a b
theorem xJ (x:Int):Pu prog 251 #[.int .i64 x] (fun _=>True) (.bool false):=by
 refine aw func251 ntmps251 fun av bor w0=>?_
 repeat' (first|refine bo ?_ (dS false rfl rfl (by simp))|refine gs ?_|fail)
 exact ab (ae rfl rfl) rfl
theorem gV (x y:Int):Pu prog 186 #[.int .i64 x,.int .i64 y] (fun _=>True) (.int .i64 (cmpI x y)):=by
 refine aw func186 ntmps186 fun av bor w0=>?_
 repeat' (first|refine ag (hc:=xJ _) ?_|refine gs ?_|(refine gp ?_ ?_<;>intro hx_ this)|fail)
 (all_goals (apply ab;apply ae;rfl;rfl));all_goals (simp only [cmpI, *,Zt,Zr,Zf,Ze,Zh,Zg,Zk,Zj,Zn,Zl,Zs,Zm,Zq,Zi];done)
structure OrI (a b:Int) where
 k:Nat
 hk:k≤2
 ha:0<k→a=0
 hb:1<k→b=0
theorem tR (s:Xl) (a b:Int):Pu prog 185 #[s.v] (fun w=>Ints w s [a,b]) (.int .i64 (bif decide (a=0) then b else a)):=by
 refine aw func185 ntmps185 fun av bor w0=>?_
 refine aR (p:=s.n=2∧s.p.isSome=true) (fun w h=>⟨h.len_,h.some_ (by simp)⟩) fun ⟨hsn,hsp⟩=>?_
 repeat' (first|refine gs ?_|fail)
 refine ao (ι:=OrI a b) (fun i=>⟨[(3,.int .i64 0),(6,s.v),(7,.int .i64 (s.n:Nat)),(8,.int .i64 (i.k:Nat))],[],fun w=>Ints w s [a,b]⟩) (fun i=>2-i.k) ⟨0,Z4 _,fun h=>absurd h (by decide),fun h=>absurd h (by decide)⟩ (ai al (aj _) fun _ h=>h) fun i=>?_
 obtain ⟨k,hk,ha,hb⟩:=i
 simp only
 by_cases hlt:k<2
 · have hget:∀ w,Ints w s [a,b]→CellAt w s.p k (.int .i64 ([a,b].getD k 0)):=fun w h=>Ints.get h hlt
   have hx:[a,b].getD k 0=a∧k=0∨[a,b].getD k 0=b∧k=1:=by
    rcases k with _|_|k
    · exact .inl ⟨rfl,rfl⟩
    · exact .inr ⟨rfl,rfl⟩
    · omega
   generalize [a,b].getD k 0=x at *
   by_cases h0:x=0
   · repeat' (first|refine bo ?_ (cb true rfl rfl (Zd aa))|refine bo ?_ (dS false rfl rfl (by simp [h0]))|refine gs ?_|(refine aD (q:=k) ?_)|(refine de (u:=.int .i64 x) (hF:=hget) ?_)|fail)
     exact ⟨(⟨k+1,hlt,fun _=>by rcases hx with h|h<;>omega,fun _=>by rcases hx with h|h<;>omega⟩:OrI a b),(by show 2-(k+1)<2-k;omega),ai al (aj _) fun _ h=>h⟩
   · repeat' (first|refine bo ?_ (cb true rfl rfl (Zd aa))|refine bo ?_ (dS true rfl rfl (by simp [h0]))|refine gs ?_|(refine aD (q:=k) ?_)|(refine de (u:=.int .i64 x) (hF:=hget) ?_)|fail)
     refine ab (ae rfl rfl) ?_
     rcases hx with ⟨h1,h2⟩|⟨h1,h2⟩
     · rw [←h1,Zc h0];rfl
     · rw [ha aa,←h1];rfl
 · repeat' (first|refine bo ?_ (cb false rfl rfl (Zc aa))|refine gs ?_|fail)
   refine ab (ae rfl rfl) ?_
   rw [ha aa,hb (by omega)]
   rfl
end SrG
end Go.Proofs.YtaolfiikahlmkaaGreatDoor
namespace Go.Proofs.YtaolfiikahlmkaaGreatDoor
open Go Go.Proofs Sy
structure Xq where
 from_:Int
 public_:Int
 home:Int
def Xq.cells (k:Xq):List Value:=[.int .i64 k.from_,.int .i64 k.public_,.int .i64 k.home]
def Xq.v (k:Xq):Value:=.agg k.cells.toArray
def Xq.zero:Xq:=⟨0,0,0⟩
def Keyz (w:World) (s:Xl) (l:List Xq):Prop:=Xf w 3 s (l.map Xq.cells)
namespace Sy
section
variable {P:Program} {N:Nat} {av bor:List Nat} {w0:World} {ops:Array Oper} {rest:List Oper} {E:Env} {loc:List Xm} {X:World→Prop} {k:St→Prop} {ty:TypeId} {pos:String} {af:Array Edge} {g:Option (Nat×Bool)} {bb want:Bool}
end
end Sy
end Go.Proofs.YtaolfiikahlmkaaGreatDoor
namespace Go.Proofs.YtaolfiikahlmkaaGreatDoor
open Go Go.Proofs Sy
structure Eb where
 acts:List Xa
 keys:List Xq
 prev:ByteArray
 gen:Nat
structure El where
 L:List Xa
 id:ByteArray
 won:Nat→Option Xg
 clm:Int→Xg→Bool
 dgC:Xg→ByteArray
 ver:Int→Xa→Bool
 B:Nat
def Eb.key (st:Eb):Int:=(st.keys.getD (st.keys.length-1) Xq.zero).public_
def Eb.ch (st:Eb) (id:ByteArray):Xb:=⟨id,⟨none,st.acts.length,0⟩,⟨none,0,0⟩,st.prev,(st.gen:Int),false,st.acts⟩
def posB (n:Nat) (p:ByteArray) (a:Xa):Bool:=decide (a.seq=(n:Int))&&seqB a.prev p
def addS (st:Eb) (a:Xa):Eb:=⟨st.acts++[a],bif decide (a.kind=18) then st.keys++[⟨((st.acts.length+1:Nat):Int),a.n,a.m⟩] else st.keys,digV a,st.gen⟩
def setI (l:List Xa):Nat→Option Nat
 | 0=>none
 | n+1=>bif decide ((l.getD n Xa.zero).kind=19) then some n else setI l n
def regS (W:El) (st:Eb):Option Eb:=match W.won st.gen with
 | none=>none
 | some c=>bif decide (c.base=(st.acts.length:Int))&&seqB c.prev st.prev then (match setI st.acts st.acts.length with
  | none=>none
  | some i=>bif W.clm (st.acts.getD i Xa.zero).m c then some ⟨st.acts,st.keys++[⟨(st.acts.length:Nat),c.pub,c.home⟩],W.dgC c,st.gen+1⟩ else none) else none
def candB (W:El) (st:Eb) (a:Xa):Bool:=fitsV (st.ch W.id) a (idxV st.acts a.object)&&W.ver st.key a
def candL (W:El) (st:Eb):List Xa:=(W.L.filter (posB st.acts.length st.prev)).filter (candB W st)
def oneA:List Xa→Option Xa
 | [a]=>some a
 | _=>none
def stepS (W:El) (st:Eb):Option Eb:=match regS W st with
 | some s=>some s
 | none=>(oneA (candL W st)).map (addS st)
def runS (W:El):Nat→Eb→Eb
 | 0,st=>st
 | n+1,st=>match stepS W st with
  | some s=>runS W n s
  | none=>st
def firstB (W:El) (a:Xa):Bool:=decide (a.kind=0)&&seqB (idV a.n) W.id&&W.ver a.n a
def firstL (W:El):List Xa:=(W.L.filter (posB 0 ⟨#[]⟩)).filter (firstB W)
def begS (a:Xa):Eb:=addS ⟨[],[⟨0,a.n,a.m⟩],⟨#[]⟩,0⟩ a
def finS (W:El) (a:Xa):Eb:=runS W (W.L.length+W.B) (begS a)
structure InvS (W:El) (st:Eb):Prop where
 seq:∀ i,i<st.acts.length→∃ a∈W.L,a.seq=(i:Int)
 mem:∀ a∈st.acts,a∈W.L
 one:0<st.acts.length
 key:0<st.keys.length
 keyn:st.keys.length≤st.acts.length+st.gen+1
 gen:st.gen≤W.B
theorem j1:∀ {n:Nat} {l:List Int},(∀ i,i<n→(i:Int)∈l)→n≤l.length
 | 0,l,_=>Z4 _
 | n+1,l,h=>by
  have ih:=j1 (n:=n) (l:=l.erase (n:Int)) fun i hi=>(List.mem_erase_of_ne aa).2 (h i aa)
  have hm:=h n (Nat.lt_succ_self n)
  rw [List.length_erase_of_mem hm] at ih
  have:0<l.length:=List.length_pos_of_mem hm
  omega
theorem InvS.len {W:El} {st:Eb} (h:InvS W st):st.acts.length≤W.L.length:=by
 have:=j1 (n:=st.acts.length) (l:=W.L.map Xa.seq) fun i hi=>by
  obtain ⟨a,ha,e⟩:=h.seq i hi
  exact QJ.2 ⟨a,ha,e⟩
 simpa using this
def muS (W:El) (st:Eb):Nat:=(W.L.length-st.acts.length)+(W.B-st.gen)
theorem ic {l:List Xa} {a:Xa} (h:oneA l=some a):l=[a]:=by
 cases l with
 | nil=>cases h
 | cons x r =>
  cases r with
  | nil=>rw [oneA,ZM] at h;rw [h]
  | cons y r=>cases h
theorem ow {W:El} {st s:Eb} (h:regS W st=some s):∃ c,W.won st.gen=some c∧s.acts=st.acts∧s.gen=st.gen+1∧s.keys.length=st.keys.length+1:=by
 rw [regS] at h
 cases hw:W.won st.gen with
 | none=>rw [hw] at h;cases h
 | some c =>
  rw [hw] at h
  simp only at h
  cases hb:decide (c.base=(st.acts.length:Int))&&seqB c.prev st.prev with
  | false=>rw [hb] at h;cases h
  | true =>
   rw [hb] at h
   cases hs:setI st.acts st.acts.length with
   | none=>rw [hs] at h;cases h
   | some i =>
    rw [hs] at h
    simp only [Zf] at h
    cases hc:W.clm (st.acts.getD i Xa.zero).m c with
    | false=>rw [hc] at h;cases h
    | true =>
     rw [hc,Zf,ZM] at h
     subst h
     exact ⟨c,rfl,rfl,rfl,by simp⟩
theorem nq {W:El} {st:Eb} {a:Xa} (h:a∈candL W st):a∈W.L∧a.seq=(st.acts.length:Int)∧candB W st a=true:=by
 rw [candL,QN,QN] at h
 have h2:=h.1.2
 simp only [posB,Zp,Zw] at h2
 exact ⟨h.1.1,h2.1,h.2⟩
theorem yn (st:Eb) (a:Xa):st.keys.length≤(addS st a).keys.length∧(addS st a).keys.length≤st.keys.length+1:=by
 simp only [addS]
 cases decide (a.kind=18) with
 | true=>simp
 | false=>simp
theorem qR {W:El} (hB:∀ g c,W.won g=some c→g<W.B) {st s:Eb} (h:InvS W st) (hs:stepS W st=some s):InvS W s∧muS W s+1≤muS W st:=by
 have hl:=h.len
 rw [stepS] at hs
 cases hr:regS W st with
 | some s' =>
  rw [hr,ZM] at hs
  subst hs
  obtain ⟨c,h1,h2,h3,h4⟩:=ow hr
  have:=hB _ _ h1
  refine ⟨⟨by rw [h2];exact h.seq,by rw [h2];exact h.mem,by rw [h2];exact h.one,by omega,by rw [h2,h3];have:=h.keyn;omega,by omega⟩,?_⟩
  simp only [muS,h2,h3]
  omega
 | none =>
  rw [hr] at hs
  cases ho:oneA (candL W st) with
  | none=>rw [ho] at hs;cases hs
  | some a =>
   rw [ho,Option.map_some,ZM] at hs
   subst hs
   have ha:a∈candL W st:=by rw [ic ho];exact Z5.2 rfl
   obtain ⟨m1,m2,m3⟩:=nq ha
   have hk:=yn st a
   have hal:(addS st a).acts.length=st.acts.length+1:=by simp [addS]
   have hI:InvS W (addS st a):=⟨fun i hi=>by
     rw [hal] at hi
     by_cases e:i=st.acts.length
     · subst e;exact ⟨a,m1,m2⟩
     · exact h.seq i aa,fun x hx=>by
     rcases Qy.1 (show x∈st.acts++[a] from hx) with hx|hx
     · exact h.mem x hx
     · rw [Z5.1 hx];exact m1,by omega,by have:=h.key;omega,by rw [hal];have:=h.keyn;show _≤_+st.gen+1;omega,h.gen⟩
   refine ⟨hI,?_⟩
   have:=hI.len
   simp only [muS,hal] at *
   show _+(W.B-st.gen)+1≤_
   omega
theorem qY {W:El} {st:Eb} (h:stepS W st=none):∀ n,runS W n st=st
 | 0=>rfl
 | n+1=>by rw [runS,h]
theorem qZ {W:El} {st s:Eb} (h:stepS W st=some s) {n:Nat}:runS W (n+1) st=runS W n s:=by rw [runS,h]
theorem vO {W:El} {a:Xa} (ha:a∈firstL W):InvS W (begS a)∧muS W (begS a)+1≤W.L.length+W.B:=by
 rw [firstL,QN,QN] at ha
 have h2:=ha.1.2
 simp only [posB,Zp,Zw] at h2
 have h3:=ha.2
 simp only [firstB,Zp,Zw] at h3
 have hk:begS a=⟨[a],[⟨0,a.n,a.m⟩],digV a,0⟩:=by
  rw [begS,addS,h3.1.1]
  rfl
 have hL:0<W.L.length:=List.length_pos_of_mem ha.1.1
 rw [hk]
 refine ⟨⟨fun i hi=>⟨a,ha.1.1,by rw [h2.1,show i=0 from by simpa using hi]⟩,fun x hx=>by rw [Z5.1 hx];exact ha.1.1,by simp,by simp,by simp,Z4 _⟩,?_⟩
 simp only [muS,List.length_singleton]
 omega
end Go.Proofs.YtaolfiikahlmkaaGreatDoor
