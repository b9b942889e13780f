/- Joined by program out of: Su Sh Fi Or Cl Dg Ch Kp Os Re Rf Rx Hs Us. -/
import Derived.Test.YtfnjklhjngphmaaGreatDoorQ2
import Derived.Laws.Cover3
import Derived.Lib.LazyBuf
import Derived.Shelf.Slices.CompactS
import Derived.Lib.RowBridge
set_option linter.unusedVariables false
set_option linter.unusedSimpArgs false
namespace Go.Proofs.YtfnjklhjngphmaaGreatDoor
open Go Go.Proofs Sy
def rotlV (x k:Int):Int:=bitsV .or .u32 (shlV .u32 x (bitsV .and .u64 (IntKind.u64.wrap k) 31)) (shrV .u32 x (IntKind.u64.wrap (32-bitsV .and .u64 (IntKind.u64.wrap k) 31)))
theorem Ax (x k:Int):Pu Tryz.prog 244 #[.int .u32 x,.int .i64 k] (fun _=>True) (.int .u32 (rotlV x k)):=by
 refine aN (args:=[_,_]) _ Tryz.func244 rfl Tryz.ntmps244 rfl fun av bor w0=>?_
 repeat' (first|apply ab|apply aj|apply ai|refine ae ?_|refine ac ?_|refine cJ (h:=?_)|apply aA|refine lj ?_|refine oK ?_|refine nE ?_|refine eI (h:=?_)|refine dH (h:=?_)|fail)
 apply aq;apply aB;rfl;rfl;rfl
def turnV (w n:Int):Int:=rotlV w (IntKind.i64.wrap (0-n))
theorem ie (w n:Int):Pu Tryz.prog 151 #[.int .u32 w,.int .i64 n] (fun _=>True) (.int .u32 (turnV w n)):=by
 refine aN (args:=[_,_]) _ Tryz.func151 rfl Tryz.ntmps151 rfl fun av bor w0=>?_
 repeat' (first|apply ab|apply aj|apply ai|refine ae ?_|refine ac ?_|apply aA|(refine B7 (hc:=rfl) ?_)|refine aC (hc:=Ax _ _) ?_)
 apply aq;apply aB;rfl;rfl;rfl
theorem ry {a b:Nat} (h:a<b):Nat.blt a b=true:=Nat.ble_eq_true_of_le h
def u32s (ws:List Int):List Value:=ws.map (.int .u32)
theorem eU (ws:List Int):(u32s ws).length=ws.length:=by simp [u32s]
theorem oE (ws:List Int) (i:Nat) (v:Int):(u32s ws).set i (.int .u32 v)=u32s (ws.set i v):=by simp [u32s,List.map_set]
theorem d9 (ws:List Int) (i:Nat) (h:i<ws.length):(u32s ws)[i]?=some (.int .u32 (ws.getD i 0)):=by simp [u32s,h]
def a32 (a b:Int):Int:=IntKind.u32.wrap (a+b)
def wordV (s:ByteArray) (i:Nat):Int :=
 bitsV .or .u32 (bitsV .or .u32 (bitsV .or .u32 (shlV .u32 (IntKind.u32.wrap (byteAt (s.extract (4*(i:Int)).toNat (4*(i:Int)+4).toNat) 0)) 24) (shlV .u32 (IntKind.u32.wrap (byteAt (s.extract (4*(i:Int)).toNat (4*(i:Int)+4).toNat) 1)) 16))
  (shlV .u32 (IntKind.u32.wrap (byteAt (s.extract (4*(i:Int)).toNat (4*(i:Int)+4).toNat) 2)) 8)) (IntKind.u32.wrap (byteAt (s.extract (4*(i:Int)).toNat (4*(i:Int)+4).toNat) 3))
def w1 (s:ByteArray):Nat→List Int
 | 0=>List.replicate 64 0
 | i+1=>(w1 s i).set i (wordV s i)
theorem nA (s:ByteArray):∀ i,(w1 s i).length=64
 | 0=>rfl
 | i+1=>by rw [w1,List.length_set,nA s i]
def early (w:List Int) (i:Nat):Int:=bitsV .xor .u32 (bitsV .xor .u32 (turnV (w.getD (i-15) 0) 7) (turnV (w.getD (i-15) 0) 18)) (shrV .u32 (w.getD (i-15) 0) 3)
def late (w:List Int) (i:Nat):Int:=bitsV .xor .u32 (bitsV .xor .u32 (turnV (w.getD (i-2) 0) 17) (turnV (w.getD (i-2) 0) 19)) (shrV .u32 (w.getD (i-2) 0) 10)
def w2 (s:ByteArray):Nat→List Int
 | 0=>w1 s 16
 | k+1=>(w2 s k).set (16+k) (a32 (a32 (a32 ((w2 s k).getD k 0) (early (w2 s k) (16+k))) ((w2 s k).getD (16+k-7) 0)) (late (w2 s k) (16+k)))
theorem nz (s:ByteArray):∀ i,(w2 s i).length=64
 | 0=>nA s 16
 | i+1=>by rw [w2,List.length_set,nz s i]
def schedV (s:ByteArray):List Int:=w2 s 48
theorem oR (s:ByteArray) (hs:s.size=64):Pu Tryz.prog 150 #[.string s] (fun _=>True) (.agg (u32s (schedV s)).toArray):=by
 refine aN (args:=[_]) _ Tryz.func150 rfl Tryz.ntmps150 rfl fun av bor w0=>?_
 repeat' (first|apply ab|apply aj|apply ai|refine ae ?_|refine aP fun _=>?_|apply aw|fail)
 rename_i b1 b2
 refine be (ι:=Kth 16) (fun i=>⟨[(0,.string s),(2,.pointer (some ⟨b1,0,none⟩)),(3,.pointer (some ⟨b2,0,none⟩)),(11,.int .i64 i.k)],[cel b2 200 (u32s (w1 s i.k)),cel b1 200 (u32s (List.replicate 64 0))],fun _=>True⟩) (fun i=>16-i.k) ⟨0,Nat.zero_le _⟩ (aF ⟨rfl,rfl,rfl,rfl,trivial⟩ (aQ _) fun _ h=>h) fun i=>?_
 have hik:=i.hk
 repeat' (first|apply ab|apply aj|apply ai|refine ae ?_|refine ac ?_|refine bu ?_|refine bm (h:=?_)|apply ay|apply aw|apply aV|refine dw (h:=?_)|(refine aO (ht:=?_) (hf:=?_);all_goals (intro hx_;first|have:=aY hx_|have:=aZ hx_)))
 · have hlt:i.k<16:=by omega
   have hlen:=nA s i.k
   have hes:(s.extract (4*(i.k:Int)).toNat (4*(i.k:Int)+4).toNat).size=4:=by simp only [ByteArray.size_extract];omega
   repeat' (first|apply ab|fail)
   refine wX (h0:=by omega) (h1:=by omega) (h2:=by omega) ?_
   repeat' (first|apply ab|refine ac ?_|fail)
   (refine bo [] (fun _=>True) ar ?_)
   all_goals refine aa 0 ?_
   all_goals refine aa 1 ?_
   all_goals (refine aa 2 (hy:=by (apply fJ;rfl;rfl;decide;(rw [hes];decide))) ?_)
   all_goals refine aa 3 ?_
   all_goals refine aa 4 ?_
   all_goals refine aa 5 ?_
   all_goals (refine aa 6 (hy:=by (apply fJ;rfl;rfl;decide;(rw [hes];decide))) ?_)
   all_goals refine aa 7 ?_
   all_goals refine aa 8 ?_
   all_goals refine aa 9 ?_
   all_goals refine aa 10 ?_
   all_goals (refine aa 11 (hy:=by (apply fJ;rfl;rfl;decide;(rw [hes];decide))) ?_)
   all_goals refine aa 12 ?_
   all_goals refine aa 13 ?_
   all_goals refine aa 14 ?_
   all_goals refine aa 15 ?_
   all_goals (refine aa 16 (hy:=by (apply fJ;rfl;rfl;decide;(rw [hes];decide))) ?_)
   all_goals refine aa 17 ?_
   all_goals refine aa 18 ?_
   all_goals (refine aa 19 (hy:=by (apply eH (q:=i.k);rfl;rfl;omega;omega;omega)) ?_)
   all_goals (refine ao 20 ?_;(refine br (hl:=ry (by simp only [eU,hlen];omega)) ?_);apply ab;refine ak ?_)
   all_goals (refine aI ?_)
   repeat' (first|apply ab|apply ai|refine ae ?_|refine bm (h:=?_)|fail)
   exact ⟨(⟨i.k+1,hlt⟩:Kth 16),(by show 16-(i.k+1)<16-i.k;omega),aF ⟨rfl,rfl,rfl,rfl,trivial⟩ (by
    show List.Sublist [cel b2 _ (u32s (w1 s (i.k+1))),_] _
    rw [w1,←oE]
    exact aQ _) fun _ h=>h⟩
 have hk:i.k=16:=by omega
 refine be (ι:=Kth 48) (fun i=>⟨[(0,.string s),(2,.pointer (some ⟨b1,0,none⟩)),(3,.pointer (some ⟨b2,0,none⟩)),(6,.int .i64 (16+i.k))],[cel b2 200 (u32s (w2 s i.k)),cel b1 200 (u32s (List.replicate 64 0))],fun _=>True⟩) (fun i=>48-i.k) ⟨0,Nat.zero_le _⟩ (aF ⟨rfl,rfl,rfl,rfl,trivial⟩ (by
  show List.Sublist [cel b2 _ (u32s (w1 s 16)),_] _
  rw [hk]
  exact aQ _) fun _ h=>h) fun i=>?_
 have hik:=i.hk
 have hlen:=nz s i.k
 repeat' (first|apply ab|apply aj|apply ai|refine ae ?_|refine bu ?_|apply ay|apply aw|apply aV|(refine aO (ht:=?_) (hf:=?_);all_goals (intro hx_;first|have:=aY hx_|have:=aZ hx_)))
 · have hlt:i.k<48:=by omega
   (apply ci;kernel_rfl)
   all_goals refine aa 0 ?_
   all_goals refine aa 1 ?_
   all_goals (refine aa 2 (hy:=by (apply eH (q:=16+i.k-15);rfl;rfl;omega;omega;omega)) ?_)
   all_goals (refine aa 3 (hy:=by (apply l8;rfl;(repeat (exact aU));exact d9 _ _ ag)) ?_)
   all_goals refine aa 4 ?_
   all_goals refine aa 5 ?_
   all_goals (refine aa 6 (hy:=by (apply eH (q:=16+i.k-2);rfl;rfl;omega;omega;omega)) ?_)
   all_goals (refine aa 7 (hy:=by (apply l8;rfl;(repeat (exact aU));exact d9 _ _ ag)) ?_)
   all_goals refine aa 8 ?_
   all_goals refine aa 9 ?_
   all_goals (refine aI ?_)
   repeat' (first|apply ab|apply aj|apply ai|refine ae ?_|refine ac ?_|refine wW ?_|refine eI (h:=?_)|refine aC (hc:=ie _ _) ?_|fail)
   (refine bo [] (fun _=>True) ar ?_)
   all_goals refine aa 0 ?_
   all_goals refine aa 1 ?_
   all_goals refine aa 2 ?_
   all_goals (refine aa 3 (hy:=by (apply eH (q:=i.k);rfl;rfl;omega;omega;omega)) ?_)
   all_goals refine aa 5 ?_
   all_goals refine aa 7 ?_
   all_goals refine aa 8 ?_
   all_goals (refine aa 9 (hy:=by (apply eH (q:=16+i.k-7);rfl;rfl;omega;omega;omega)) ?_)
   all_goals refine aa 12 ?_
   all_goals (refine bS 4 10 (h:=?_) (h':=?_);(focus (((refine aL (hv:=d9 _ _ ag) ?_);apply ab;refine ak ?_);all_goals ((refine aa 6 ?_);all_goals (refine ao 10 ?_;(refine aL (hv:=d9 _ _ ag) ?_);apply ab;refine ak ?_);all_goals (refine aa 11 ?_);all_goals (refine aa 13 ?_);all_goals (refine aa 14 (hy:=by (apply eH (q:=16+i.k);rfl;rfl;omega;omega;omega)) ?_);all_goals (refine ao 15 ?_;(refine br (hl:=ry (by simp only [eU,hlen];omega)) ?_);apply ab;refine ak ?_);all_goals (refine aI ?_))));rotate_right;(focus (((refine aL (hv:=d9 _ _ ag) ?_);apply ab;refine ak ?_);all_goals ((refine ao 4 ?_;(refine aL (hv:=d9 _ _ ag) ?_);apply ab;refine ak ?_);all_goals (refine aa 6 ?_);all_goals (refine aa 11 ?_);all_goals (refine aa 13 ?_);all_goals (refine aa 14 (hy:=by (apply eH (q:=16+i.k);rfl;rfl;omega;omega;omega)) ?_);all_goals (refine ao 15 ?_;(refine br (hl:=ry (by simp only [eU,hlen];omega)) ?_);apply ab;refine ak ?_);all_goals (refine aI ?_)))))
   all_goals (repeat' (first|apply ab|apply ai|refine ae ?_|refine ac ?_|refine bm (h:=?_)|fail))
   all_goals exact ⟨(⟨i.k+1,hlt⟩:Kth 48),(by show 48-(i.k+1)<48-i.k;omega),aF ⟨rfl,rfl,rfl,rfl,trivial⟩ (by
    show List.Sublist [cel b2 _ (u32s (w2 s (i.k+1))),_] _
    rw [w2,←oE]
    exact aQ _) fun _ h=>h⟩
 have hk2:i.k=48:=by omega
 repeat' (first|apply ab|apply aA|(refine aG (hn:=by simp only [eU,hlen]) ?_)|(refine aK (hm:=by simp only [eU,hlen]) (hn:=by rfl) (h1:=by simp [u32s,Value.oneCell']) ?_))
 apply aq;refine bT rfl rfl bF ?_
 · simp only [eU,hlen]
 rw [hk2]
 rfl
def iniC:List Int:=[1779033703,3144134277,1013904242,2773480762,1359893119,2600822924,528734635,1541459225]
def kC:List Int:=[1116352408,1899447441,3049323471,3921009573,961987163,1508970993,2453635748,2870763221,3624381080,310598401,607225278,1426881987,1925078388,2162078206,2614888103,3248222580,3835390401,4022224774,264347078,604807628,770255983,1249150122,1555081692,1996064986,2554220882,2821834349,2952996808,3210313671,3336571891,3584528711,113926993,338241895,666307205,773529912,1294757372,1396182291,1695183700,1986661051,2177026350,2456956037,2730485921,2820302411,3259730800,3345764771,3516065817,3600352804,4094571909,275423344,430227734,506948616,659060556,883997877,958139571,1322822218,1537002063,1747873779,1955562222,2024104815,2227730452,2361852424,2428436474,2756734187,3204031479,3329325298]
def CellsAt (g:Nat) (l:List Value) (w:World):Prop:=∀ j v,l[j]?=some v→w.cell? ⟨g,j,none⟩=some v
structure Glob (w:World):Prop where
 ini:CellsAt 0 (u32s iniC) w
 k:CellsAt 1 (u32s kC) w
structure St8 where
 a:Int
 b:Int
 c:Int
 d:Int
 e:Int
 f:Int
 g:Int
 h:Int
def St8.l (x:St8):List Int:=[x.a,x.b,x.c,x.d,x.e,x.f,x.g,x.h]
def x32 (a b:Int):Int:=bitsV .xor .u32 a b
def n32 (a b:Int):Int:=bitsV .and .u32 a b
def t1V (x:St8) (k w:Int):Int :=
 a32 (a32 (a32 (a32 x.h (x32 (x32 (turnV x.e 6) (turnV x.e 11)) (turnV x.e 25))) (x32 (n32 x.e x.f) (n32 (x32 (if IntKind.u32.signed then -1 else IntKind.u32.max) x.e) x.g))) k) w
def t2V (x:St8):Int:=a32 (x32 (x32 (turnV x.a 2) (turnV x.a 13)) (turnV x.a 22)) (x32 (x32 (n32 x.a x.b) (n32 x.a x.c)) (n32 x.b x.c))
def roundV (x:St8) (k w:Int):St8:=⟨a32 (t1V x k w) (t2V x),x.a,x.b,x.c,a32 x.d (t1V x k w),x.e,x.f,x.g⟩
def roundsV (x:St8) (ws:List Int):Nat→St8
 | 0=>x
 | i+1=>roundV (roundsV x ws i) (kC.getD i 0) (ws.getD i 0)
def mixV (x:St8) (s:ByteArray):St8 :=
 let y:=roundsV x (schedV s) 64
 ⟨a32 x.a y.a,a32 x.b y.b,a32 x.c y.c,a32 x.d y.d,a32 x.e y.e,a32 x.f y.f,a32 x.g y.g,a32 x.h y.h⟩
theorem Cy (i:Nat) (h:i<64):(u32s kC)[i]?=some (.int .u32 (kC.getD i 0)):=d9 kC i h
theorem yl (x:St8) (s:ByteArray) (hs:s.size=64):Pu Tryz.prog 91 #[.agg (u32s x.l).toArray,.string s] Glob (.agg (u32s (mixV x s).l).toArray):=by
 refine aN (args:=[_,_]) _ Tryz.func91 rfl Tryz.ntmps91 rfl fun av bor w0=>?_
 obtain ⟨ws,hws,hlen⟩:∃ ws,schedV s=ws∧ws.length=64:=⟨_,rfl,nz s 48⟩
 have hsp:Pu Tryz.prog 150 #[.string s] (fun _=>True) (.agg (u32s ws).toArray):=hws▸oR s hs
 unfold mixV
 rw [hws]
 repeat' (first|apply ab|apply aj|apply ai|refine ae ?_|refine aP fun _=>?_|refine aT fun _=>?_|refine aC (hc:=hsp) ?_|(refine aK (hm:=by simp only [eU,hlen]) (hn:=by rfl) (h1:=by simp [u32s,Value.oneCell']) ?_))
 (apply ci;kernel_rfl)
 all_goals refine aa 0 ?_
 all_goals refine aa 1 ?_
 all_goals refine aa 2 ?_
 all_goals refine aa 3 ?_
 all_goals refine aa 4 ?_
 all_goals refine aa 5 ?_
 all_goals refine aa 6 ?_
 all_goals refine aa 7 ?_
 all_goals refine aa 8 ?_
 all_goals refine aa 9 ?_
 all_goals refine aa 10 ?_
 all_goals refine aa 11 ?_
 all_goals (refine aI ?_)
 repeat' (first|apply aj|fail)
 (apply ci;kernel_rfl)
 all_goals refine aa 0 ?_
 all_goals refine aa 1 ?_
 all_goals refine aa 2 ?_
 all_goals refine aa 3 ?_
 all_goals refine aa 4 ?_
 all_goals refine aa 5 ?_
 all_goals refine aa 6 ?_
 all_goals refine aa 7 ?_
 all_goals refine aa 8 ?_
 all_goals refine aa 9 ?_
 all_goals refine aa 10 ?_
 all_goals refine aa 11 ?_
 all_goals (refine aI ?_)
 repeat' (first|apply ab|apply aj|apply ai|refine ae ?_|apply aw|fail)
 rename_i b1 b2 b3
 refine be (ι:=Kth 64) (fun i=>⟨[(2,.pointer (some ⟨b1,0,none⟩)),(4,.pointer (some ⟨b2,0,none⟩)),(5,.pointer (some ⟨b3,0,none⟩)),(6,.int .u32 (roundsV x ws i.k).a),(7,.int .u32 (roundsV x ws i.k).b),(8,.int .u32 (roundsV x ws i.k).c),(9,.int .u32 (roundsV x ws i.k).d),(10,.int .u32 (roundsV x ws i.k).e),(11,.int .u32 (roundsV x ws i.k).f),(12,.int .u32 (roundsV x ws i.k).g),(13,.int .u32 (roundsV x ws i.k).h),(35,.int .i64 i.k)],
  [cel b3 200 (u32s ws),cel b2 149 (u32s (List.replicate 8 0)),cel b1 149 (u32s x.l)],Glob⟩) (fun i=>64-i.k) ⟨0,Nat.zero_le _⟩ (aF ⟨rfl,rfl,rfl,rfl,rfl,rfl,rfl,rfl,rfl,rfl,rfl,rfl,trivial⟩ (aQ _) fun _ h=>h) fun i=>?_
 have hik:=i.hk
 repeat' (first|apply ab|apply aj|apply ai|refine ae ?_|refine ac ?_|refine aL ?_|refine bu ?_|refine bm (h:=?_)|apply ay|apply aw|apply aV|refine fP ?_|(refine aO (ht:=?_) (hf:=?_);all_goals (intro hx_;first|have:=aY hx_|have:=aZ hx_)))
 · have hlt:i.k<64:=by omega
   generalize hy:roundsV x ws i.k=y at *
   (apply ci;kernel_rfl)
   all_goals refine aa 0 ?_
   all_goals refine aa 1 ?_
   all_goals refine aa 3 ?_
   all_goals refine aa 6 ?_
   all_goals refine aa 10 ?_
   all_goals refine aa 11 ?_
   all_goals refine aa 12 ?_
   all_goals refine aa 13 ?_
   all_goals refine aa 14 ?_
   all_goals refine aa 15 ?_
   all_goals refine aa 16 ?_
   all_goals refine aa 17 ?_
   all_goals refine aa 19 ?_
   all_goals (refine aa 20 (hy:=by (apply eH (q:=i.k);rfl;rfl;omega;omega;omega)) ?_)
   all_goals (refine aa 21 (hy:=by (apply CX;rfl;exact fun w h=>h.k i.k _ (Cy _ hlt))) ?_)
   all_goals refine aa 23 ?_
   all_goals (refine aa 24 (hy:=by (apply eH (q:=i.k);rfl;rfl;omega;omega;omega)) ?_)
   all_goals (refine aa 25 (hy:=by (apply l8;rfl;(repeat (exact aU));exact d9 _ _ ag)) ?_)
   all_goals (refine ao 2 ?_;(refine aC (hc:=ie _ _) ?_);apply ab;refine ak ?_)
   all_goals (refine ao 4 ?_;(refine aC (hc:=ie _ _) ?_);apply ab;refine ak ?_)
   all_goals refine aa 5 ?_
   all_goals (refine ao 7 ?_;(refine aC (hc:=ie _ _) ?_);apply ab;refine ak ?_)
   all_goals refine aa 8 ?_
   all_goals refine aa 9 ?_
   all_goals refine aa 18 ?_
   all_goals refine aa 22 ?_
   all_goals refine aa 26 ?_
   all_goals refine aa 27 ?_
   all_goals (refine aI ?_)
   repeat' (first|apply ab|apply aj|apply ai|refine ae ?_|refine ac ?_|refine bm (h:=?_)|refine lj ?_|refine wW ?_|refine aC (hc:=ie _ _) ?_|fail)
   exact ⟨(⟨i.k+1,hlt⟩:Kth 64),(by show 64-(i.k+1)<64-i.k;omega),aF (by
    have e:roundsV x ws (i.k+1)=roundV y (kC.getD i.k 0) (ws.getD i.k 0):=by rw [roundsV,hy]
    simp only [e]
    exact ⟨rfl,rfl,rfl,rfl,rfl,rfl,rfl,rfl,rfl,rfl,rfl,rfl,trivial⟩) (aQ _) fun _ h=>h⟩
 have hk:i.k=64:=by omega
 repeat' (first|apply ab|refine aK ?_|apply aA|(refine up ?_)|fail)
 apply aq;refine bT rfl rfl bF ?_
 · rfl
 rw [hk]
 rfl
def padN (n:Nat):Nat:=(120-n%64)%64
def sizeB (n:Int) (k:Nat):List Int:=(List.range k).map fun (j:Nat)=>IntKind.u8.wrap (shrV .u64 (IntKind.u64.wrap (IntKind.u64.wrap n*8)) (56-8*(j:Int)))
def endL (s:ByteArray):List Int:=bytesI s++[128]
def endV (s:ByteArray) (n:Int):ByteArray:=ofInts (endL s++List.replicate (padN (s.size+1)) 0++sizeB n 8)
theorem lV (s:ByteArray):(endL s).length=s.size+1:=by simp [endL,rv]
theorem uC (n:Int) (k:Nat):(sizeB n k).length=k:=by simp [sizeB]
theorem ng (s:ByteArray) (n:Int):(endV s n).size%64=0:=by
 rw [endV,eC]
 simp only [List.length_append,lV,List.length_replicate,uC,padN]
 omega
structure EndS (m:Nat) where
 k:Nat
 hk:k≤m
 A:Option Addr
 c:Nat
theorem vm (s:ByteArray) (n:Int) (hs:s.size≤1099511627776):Pu Tryz.prog 92 #[.string s,.int .i64 n] (fun _=>True) (.string (endV s n)):=by
 refine aN (args:=[_,_]) _ Tryz.func92 rfl Tryz.ntmps92 rfl fun av bor w0=>?_
 repeat' (first|apply ab|apply aj|apply ai|refine ae ?_|refine ac ?_|refine ca fun _=>?_|(refine qt fun A c=>?_))
 rename_i b0
 refine aS (size:=1) (z:=.int .u8 0) (news:=u8s [128]) (q:=1) rfl rfl rfl rfl (fun _=>At.there _ (At.here _)) (fun w G=>bq G aU rfl rfl 1) ?_ ?_ rfl ?_ rfl ?_
 · omega
 · simp only [maxLen];omega
 · rfl
 intro A1 c1
 repeat' (first|apply ab|apply aj|refine ac ?_|apply aw|fail)
 have hel:=lV s
 refine be (ι:=EndS (padN (s.size+1))) (fun i=>⟨[(1,.int .i64 n),(5,.slice i.A (s.size+1+i.k) i.c)],[orow 5 1 (.slice i.A (s.size+1+i.k) i.c) (s.size+1+i.k) (u8s (endL s++List.replicate i.k 0))],fun _=>True⟩) (fun i=>padN (s.size+1)-i.k) ⟨0,Nat.zero_le _,A1,c1⟩ (aF ⟨rfl,rfl,trivial⟩ ?_ fun _ h=>h) fun i=>?_
 · refine List.Sublist.cons _ ?_
   rw [←cK]
   simp only [List.replicate_zero,List.append_nil]
   exact aQ _
 have hik:=i.hk
 have hp:padN (s.size+1)<64:=Nat.mod_lt _ ag
 have hp2:padN (s.size+1)=(120-(s.size+1)%64)%64:=rfl
 have htm:Int.tmod ((s.size+1+i.k:Nat):Int) 64=(((s.size+1+i.k)%64:Nat):Int):=Int.ofNat_tmod _ _
 repeat' (first|apply aj|apply ai|refine ae ?_|refine bg ?_|fail)
 refine gl (hc:=htm) ?_
 repeat' (first|apply ab|apply aj|apply ai|refine ae ?_|refine ac ?_|refine cZ ?_|refine ca fun _=>?_|apply ay|apply aw|apply aV|refine dw (h:=?_)|refine dH (h:=?_)|(refine aO (ht:=?_) (hf:=?_);all_goals (intro hx_;skip)))
 · have hlt:i.k<padN (s.size+1):=by
    have h1:¬ (((s.size+1+i.k)%64:Nat):Int)=56:=by simpa using hx_
    omega
   refine aS (size:=1) (z:=.int .u8 0) (news:=u8s [0]) (q:=1) rfl rfl rfl rfl (fun _=>At.there _ (At.here _)) (fun w G=>bq G aU rfl rfl 1) ?_ ?_ rfl ?_ rfl ?_
   · omega
   · simp only [maxLen];omega
   · rfl
   intro A2 c2
   repeat' (first|apply ab|refine ac ?_|fail)
   refine ⟨(⟨i.k+1,hlt,A2,c2⟩:EndS (padN (s.size+1))),(by show padN (s.size+1)-(i.k+1)<padN (s.size+1)-i.k;omega),aF ⟨rfl,rfl,trivial⟩ ?_ fun _ h=>h⟩
   refine List.Sublist.cons _ ?_
   rw [←cK]
   simp only [List.replicate_succ',List.append_assoc]
   exact aQ _
 have hk:i.k=padN (s.size+1):=by
  have h1:(((s.size+1+i.k)%64:Nat):Int)=56:=by simpa using hx_
  omega
 have hl1:(endL s++List.replicate (padN (s.size+1)) 0:List Int).length=s.size+1+padN (s.size+1):=by simp [hel]
 rw [hk]
 generalize hL:(endL s++List.replicate (padN (s.size+1)) 0:List Int)=L at *
 refine be (ι:=EndS 8) (fun j=>⟨[(5,.slice j.A (s.size+1+padN (s.size+1)+j.k) j.c),(6,.int .u64 (IntKind.u64.wrap (IntKind.u64.wrap n*8))),(7,.int .i64 (56-8*(j.k:Int)))],[orow 5 1 (.slice j.A (s.size+1+padN (s.size+1)+j.k) j.c) (s.size+1+padN (s.size+1)+j.k) (u8s (L++sizeB n j.k))],fun _=>True⟩) (fun j=>8-j.k) ⟨0,Nat.zero_le _,i.A,i.c⟩ (aF ⟨rfl,rfl,rfl,trivial⟩ ?_ fun _ h=>h) fun j=>?_
 · have e:sizeB n 0=[]:=rfl
   simp only [e,List.append_nil]
   exact aQ _
 have hjk:=j.hk
 repeat' (first|apply ab|apply aj|apply ai|refine ae ?_|refine cL ?_|refine ca fun _=>?_|apply ay|apply aw|apply aV|refine eI (h:=?_)|refine dH (h:=?_)|(refine aO (ht:=?_) (hf:=?_);all_goals (intro hx_;first|have:=aY hx_|have:=aZ hx_)))
 · have hlt:j.k<8:=by omega
   refine aS (size:=1) (z:=.int .u8 0) (news:=u8s [IntKind.u8.wrap (shrV .u64 (IntKind.u64.wrap (IntKind.u64.wrap n*8)) (56-8*(j.k:Int)))]) (q:=1) rfl rfl rfl rfl (fun _=>At.there _ (At.here _)) (fun w G=>bq G aU rfl rfl 1) ?_ ?_ rfl ?_ rfl ?_
   · omega
   · simp only [maxLen];omega
   · rfl
   intro A2 c2
   repeat' (first|apply ab|apply ai|refine ae ?_|refine ac ?_|refine cJ (h:=?_)|fail)
   refine ⟨(⟨j.k+1,hlt,A2,c2⟩:EndS 8),(by show 8-(j.k+1)<8-j.k;omega),aF ⟨rfl,rfl,?_,trivial⟩ ?_ fun _ h=>h⟩
   · show some (Value.int .i64 (56-8*(j.k:Int)-8))=some (Value.int .i64 (56-8*((j.k+1:Nat):Int)))
     congr 2
     omega
   refine List.Sublist.cons _ ?_
   rw [←cK]
   have e:sizeB n (j.k+1)=sizeB n j.k++[IntKind.u8.wrap (shrV .u64 (IntKind.u64.wrap (IntKind.u64.wrap n*8)) (56-8*(j.k:Int)))]:=by simp [sizeB,List.range_succ]
   simp only [e,List.append_assoc]
   exact aQ _
 have hj8:j.k=8:=by omega
 refine gS (hm:=aU) ?_
 repeat' (first|apply ab|refine ac ?_|apply aA|fail)
 apply aq;apply aB;rfl;rfl
 rw [hj8,←hL,endV]
def iniS:St8:=⟨1779033703,3144134277,1013904242,2773480762,1359893119,2600822924,528734635,1541459225⟩
def loopV:Nat→St8→ByteArray→St8×ByteArray
 | 0,x,r=>(x,r)
 | f+1,x,r=>bif decide (64≤(r.size:Int)) then loopV f (mixV x (r.extract 0 64)) (r.extract 64 r.size) else (x,r)
def loopE:Nat→St8→ByteArray→St8
 | 0,x,_=>x
 | f+1,x,r=>bif seqB r ⟨#[]⟩ then x else loopE f (mixV x (r.extract 0 64)) (r.extract 64 r.size)
theorem da (r:ByteArray):seqB r ⟨#[]⟩=decide (r.size=0):=by
 have h1:(⟨#[]⟩:ByteArray).toList=[]:=by simp [ByteArray.toList_eq]
 by_cases h:r.size=0
 · have:r=⟨#[]⟩:=by
    have h2:r.data=#[]:=Array.eq_empty_of_size_eq_zero h
    obtain ⟨d⟩:=r
    exact congrArg ByteArray.mk h2
   subst this
   simp only [seqB,h1]
   rfl
 · simp only [h,decide_false]
   cases hs:seqB r ⟨#[]⟩ with
   | false=>rfl
   | true =>
    exfalso
    have h3:r.toList=[]:=by
     have:=hs
     simp only [seqB,h1] at this
     simpa using this
    have h4:r.toList.length=r.size:=by simp [ByteArray.toList_eq]
    rw [h3] at h4
    simp at h4
    omega
structure ShaA (s:ByteArray) where
 f:Nat
 x:St8
 r:ByteArray
 h:r.size≤f
 hs:r.size≤s.size
 e:loopV f x r=loopV s.size iniS s
def ShaA.next {s:ByteArray} (i:ShaA s) (h:64≤i.r.size):ShaA s :=
 ⟨i.f-1,mixV i.x (i.r.extract 0 64),i.r.extract 64 i.r.size,by have:=i.h;simp only [ByteArray.size_extract];omega,by have:=i.hs;simp only [ByteArray.size_extract];omega,by
  rw [←i.e]
  cases hf:i.f with
  | zero=>have:=i.h;omega
  | succ f =>
   have:decide (64≤(i.r.size:Int))=true:=decide_eq_true ag
   simp only [loopV,this,cond_true,Nat.add_sub_cancel]⟩
theorem ShaA.last {s:ByteArray} (i:ShaA s) (h:¬ 64≤i.r.size):loopV s.size iniS s=(i.x,i.r):=by
 rw [←i.e]
 cases hf:i.f with
 | zero=>rfl
 | succ f =>
  have:decide (64≤(i.r.size:Int))=false:=decide_eq_false ag
  simp only [loopV,this,cond_false]
structure ShaE (x0:St8) (s:ByteArray) where
 f:Nat
 x:St8
 r:ByteArray
 h:r.size≤f
 hm:r.size%64=0
 e:loopE f x r=loopE s.size x0 s
def ShaE.next {x0:St8} {s:ByteArray} (i:ShaE x0 s) (h:0<i.r.size):ShaE x0 s :=
 ⟨i.f-1,mixV i.x (i.r.extract 0 64),i.r.extract 64 i.r.size,by have:=i.h;simp only [ByteArray.size_extract];omega,by have:=i.hm;simp only [ByteArray.size_extract];omega,by
  rw [←i.e]
  cases hf:i.f with
  | zero=>have:=i.h;omega
  | succ f =>
   have:seqB i.r ⟨#[]⟩=false:=by rw [da];exact decide_eq_false ag
   simp only [loopE,this,cond_false,Nat.add_sub_cancel]⟩
theorem ShaE.last {x0:St8} {s:ByteArray} (i:ShaE x0 s) (h:i.r.size=0):loopE s.size x0 s=i.x:=by
 rw [←i.e]
 cases hf:i.f with
 | zero=>rfl
 | succ f =>
  have:seqB i.r ⟨#[]⟩=true:=by rw [da];exact decide_eq_true h
  simp only [loopE,this,cond_true]
def digB (w:Int):List Int:=[IntKind.u8.wrap (shrV .u32 w 24),IntKind.u8.wrap (shrV .u32 w 16),IntKind.u8.wrap (shrV .u32 w 8),IntKind.u8.wrap w]
def shaV (s:ByteArray):ByteArray :=
 let p:=loopV s.size iniS s
 let r:=endV p.2 s.size
 ofInts ((loopE r.size p.1 r).l.flatMap digB)
theorem pX (l:List Int):(l.flatMap digB).length=4*l.length:=by
 induction l with
 | nil=>rfl
 | cons a l ih=>rw [List.flatMap_cons,List.length_append,ih];simp [digB];omega
theorem St8.len (x:St8):x.l.length=8:=rfl
theorem mB (s:ByteArray):(shaV s).size=32:=by
 simp only [shaV]
 rw [eC,pX,St8.len]
theorem qz (s:ByteArray) (hs:s.size≤1099511627776):Pu Tryz.prog 48 #[.string s] Glob (.string (shaV s)):=by
 refine aN (args:=[_]) _ Tryz.func48 rfl Tryz.ntmps48 rfl fun av bor w0=>?_
 repeat' (first|apply ab|apply aj|apply ai|refine ae ?_|refine ac ?_|refine aP fun _=>?_|refine aK ?_|apply aw|(refine r5 (cs:=u32s iniC) (hF:=fun w h=>h.ini) (hl:=by rfl) ?_))
 rename_i b
 refine be (ι:=ShaA s) (fun i=>⟨[(0,.string s),(3,.pointer (some ⟨b,0,none⟩)),(4,.string i.r)],[cel b 149 (u32s i.x.l)],Glob⟩) (fun i=>i.f) ⟨s.size,iniS,s,Nat.le_refl _,Nat.le_refl _,rfl⟩ (aF ⟨rfl,rfl,rfl,trivial⟩ (aQ _) fun _ h=>h) fun i=>?_
 repeat' (first|apply ab|apply aj|apply ai|refine ae ?_|refine cL ?_|refine cr ?_|apply ay|apply aw|apply aV|(refine aO (ht:=?_) (hf:=?_);all_goals (intro hx_;first|have:=aY hx_|have:=aZ hx_)))
 · have h64:64≤i.r.size:=by omega
   have hx64:(i.r.extract 0 (Int.toNat 64)).size=64:=by simp only [ByteArray.size_extract];have:Int.toNat 64=64:=rfl;omega
   (refine bo [] (fun _=>True) ar ?_)
   all_goals refine aa 1 ?_
   all_goals (refine aa 2 (hy:=by (apply qd;rfl;rfl;decide;omega)) ?_)
   all_goals (refine ao 0 ?_;(refine aG ?_);apply ab;refine ak ?_)
   all_goals (refine ao 3 ?_;(refine aC (hc:=yl i.x _ hx64) ?_);apply ab;refine ak ?_)
   all_goals (refine ao 4 ?_;(refine aK ?_);apply ab;refine ak ?_)
   all_goals (refine aI ?_)
   all_goals (repeat' (first|apply ai|refine ae ?_|fail))
   refine r3 (h0:=by decide) (h1:=by omega) ?_
   repeat' (first|apply ab|refine ac ?_|fail)
   exact ⟨i.next h64,(by show i.f-1<i.f;have:=i.h;omega),aF ⟨rfl,rfl,rfl,trivial⟩ (aQ _) fun _ h=>h⟩
 have hlast:=i.last ag
 have hrs:=i.hs
 repeat' (first|apply ab|refine ac ?_|apply aw|refine aC (hc:=vm i.r _ ag) ?_|fail)
 have hmod:=ng i.r (s.size:Int)
 generalize hr0:endV i.r (s.size:Int)=r0 at *
 refine be (ι:=ShaE i.x r0) (fun j=>⟨[(3,.pointer (some ⟨b,0,none⟩)),(4,.string j.r)],[cel b 149 (u32s j.x.l)],Glob⟩) (fun j=>j.f) ⟨r0.size,i.x,r0,Nat.le_refl _,hmod,rfl⟩ (aF ⟨rfl,rfl,trivial⟩ (aQ _) fun _ h=>h) fun j=>?_
 have hjm:=j.hm
 repeat' (first|apply ab|apply aj|apply ai|refine ae ?_|refine dp ?_|apply ay|apply aw|apply aV|(refine aO (ht:=?_) (hf:=?_);all_goals (intro hx_;skip)))
 · have hne:0<j.r.size:=by
    have:seqB j.r ⟨#[]⟩=false:=by simpa using hx_
    rw [da] at this
    have:=aZ this
    omega
   have h64:64≤j.r.size:=by omega
   have hx64:(j.r.extract 0 (Int.toNat 64)).size=64:=by simp only [ByteArray.size_extract];have:Int.toNat 64=64:=rfl;omega
   (refine bo [] (fun _=>True) ar ?_)
   all_goals refine aa 1 ?_
   all_goals (refine aa 2 (hy:=by (apply qd;rfl;rfl;decide;omega)) ?_)
   all_goals (refine ao 0 ?_;(refine aG ?_);apply ab;refine ak ?_)
   all_goals (refine ao 3 ?_;(refine aC (hc:=yl j.x _ hx64) ?_);apply ab;refine ak ?_)
   all_goals (refine ao 4 ?_;(refine aK ?_);apply ab;refine ak ?_)
   all_goals (refine aI ?_)
   all_goals (repeat' (first|apply ai|refine ae ?_|fail))
   refine r3 (h0:=by decide) (h1:=by omega) ?_
   repeat' (first|apply ab|refine ac ?_|fail)
   exact ⟨j.next hne,(by show j.f-1<j.f;have:=j.h;omega),aF ⟨rfl,rfl,trivial⟩ (aQ _) fun _ h=>h⟩
 have hz:j.r.size=0:=by
  have:seqB j.r ⟨#[]⟩=true:=by simpa using hx_
  rw [da] at this
  exact aY this
 have hend:=j.last hz
 have hl8:=St8.len j.x
 repeat' (first|apply ab|apply aj|apply ai|refine ae ?_|refine ac ?_|refine aG ?_|apply aw|(refine ik (c:=32) (hy:=by rfl) (hm:=by rfl) (hm2:=by rfl) fun q=>?_))
 generalize hL:j.x.l=L at *
 have hfl:=fun k=>pX (L.take k)
 refine be (ι:=EndS 8) (fun m=>⟨[(5,.slice m.A (4*m.k) m.c),(32,.agg (u32s L).toArray),(33,.int .i64 m.k)],[orow 5 1 (.slice m.A (4*m.k) m.c) (4*m.k) (u8s ((L.take m.k).flatMap digB))],Glob⟩) (fun m=>8-m.k) ⟨0,Nat.zero_le _,_,_⟩ (aF ⟨rfl,rfl,rfl,trivial⟩ (List.Sublist.cons_cons _ (List.Sublist.cons _ (aQ _))) fun _ h=>h) fun m=>?_
 have hmk:=m.hk
 repeat' (first|apply ab|apply aj|apply ai|refine ae ?_|refine bu ?_|apply ay|apply aw|apply aV|(refine aO (ht:=?_) (hf:=?_);all_goals (intro hx_;first|have:=aY hx_|have:=aZ hx_)))
 · have hlt:m.k<8:=by omega
   have hg:(u32s L).toArray[((m.k:Nat):Int).toNat]?=some (.int .u32 (L.getD m.k 0)):=by
    rw [Int.toNat_natCast]
    simpa using d9 L m.k ag
   repeat' (first|apply ab|apply ai|refine ae ?_|refine ac ?_|refine ca fun _=>?_|refine eI (h:=?_)|refine dH (h:=?_)|(refine zZ (hv:=hg) ?_))
   refine aS (size:=1) (z:=.int .u8 0) (news:=u8s (digB (L.getD m.k 0))) (q:=4) rfl rfl rfl rfl (fun _=>At.there _ (At.here _)) (fun w G=>bq G aU rfl rfl 4) ?_ ?_ rfl ?_ rfl ?_
   · omega
   · simp only [maxLen];omega
   · rfl
   intro A2 c2
   repeat' (first|apply ab|apply ai|refine ae ?_|refine ac ?_|refine bm (h:=?_)|fail)
   refine ⟨(⟨m.k+1,hlt,A2,c2⟩:EndS 8),(by show 8-(m.k+1)<8-m.k;omega),aF ⟨?_,rfl,rfl,trivial⟩ ?_ fun _ h=>h⟩
   · rfl
   refine List.Sublist.cons _ ?_
   rw [←cK]
   have e:(L.take (m.k+1)).flatMap digB=(L.take m.k).flatMap digB++digB (L.getD m.k 0):=by
    have hlt2:m.k<L.length:=by omega
    rw [List.take_add_one,List.flatMap_append,List.getElem?_eq_getElem hlt2,List.getD_eq_getElem?_getD,List.getElem?_eq_getElem hlt2]
    simp only [Option.toList_some,List.flatMap_cons,List.flatMap_nil,List.append_nil,Option.getD_some]
   simp only [e]
   exact aQ _
 have hm8:m.k=8:=by omega
 repeat' (first|apply ab|fail)
 refine gS (hm:=aU) ?_
 repeat' (first|apply ab|refine ac ?_|apply aA|fail)
 apply aq;apply aB;rfl;rfl
 rw [hm8,List.take_of_length_le (by omega)]
 simp only [shaV,hlast,hr0,hend,hL]
structure ActD.Rng (a:ActD):Prop where
 ints:a.seq<9223372036854775808∧a.kind<9223372036854775808∧a.time<9223372036854775808∧a.scope<9223372036854775808∧a.epoch<9223372036854775808∧a.n<9223372036854775808∧a.m<9223372036854775808∧a.e<9223372036854775808∧a.s<9223372036854775808
 wints:∀ w∈a.wrapsL,w.to<9223372036854775808∧w.eph<9223372036854775808
 to_len:a.to.n=a.toL.length
 wraps_len:a.wraps.n=a.wrapsL.length
def useU (z0 z1 z2 z3 z4 z5 z6 z7 z8 z9 z10:Bool):Int :=
 noteV (noteV (noteV (noteV (noteV (noteV (noteV (noteV (noteV (noteV (noteV 0 1 z0) 2 z1) 4 z2) 8 z3) 16 z4) 32 z5) 64 z6) 128 z7) 256 z8) 512 z9) 1024 z10
def useOk (fs:Nat) (z0 z1 z2 z3 z4 z5 z6 z7 z8 z9 z10:Bool):Bool :=
 !decide (bitsV .andNot .i64 (useU z0 z1 z2 z3 z4 z5 z6 z7 z8 z9 z10) fs=0)||((fs.testBit 0||z0)&&(fs.testBit 1||z1)&&(fs.testBit 3||z3)&&(fs.testBit 4||z4)&&(fs.testBit 5||z5)&&(fs.testBit 6||z6)&&(fs.testBit 8||z8))
def bools (p:Bool→Bool):Bool:=p true&&p false
theorem cv {p:Bool→Bool} (h:bools p=true) (b:Bool):p b=true:=by
 simp only [bools,Bool.and_eq_true] at h
 cases b
 · exact h.2
 · exact h.1
def useAll (fs:Nat):Bool:=bools fun z0=>bools fun z1=>bools fun z2=>bools fun z3=>bools fun z4=>bools fun z5=>bools fun z6=>bools fun z7=>bools fun z8=>bools fun z9=>bools fun z10=>useOk fs z0 z1 z2 z3 z4 z5 z6 z7 z8 z9 z10
theorem qp:([1568,252,253,1,2,33,24,412,35,1536,1808,513,546].all useAll)=true:=by decide +kernel
theorem vT {fs:Nat} (hfs:useAll fs=true) {z0 z1 z2 z3 z4 z5 z6 z7 z8 z9 z10:Bool} (h:bitsV .andNot .i64 (useU z0 z1 z2 z3 z4 z5 z6 z7 z8 z9 z10) fs=0) :
  (fs.testBit 0||z0)=true∧(fs.testBit 1||z1)=true∧(fs.testBit 3||z3)=true∧(fs.testBit 4||z4)=true∧(fs.testBit 5||z5)=true∧(fs.testBit 6||z6)=true∧(fs.testBit 8||z8)=true:=by
 have h1:=cv (cv (cv (cv (cv (cv (cv (cv (cv (cv (cv hfs z0) z1) z2) z3) z4) z5) z6) z7) z8) z9) z10
 simp only [useOk,h,decide_true,Bool.not_true,Bool.false_or,Bool.and_eq_true] at h1
 obtain ⟨⟨⟨⟨⟨⟨h2,h3⟩,h4⟩,h5⟩,h6⟩,h7⟩,h8⟩:=h1
 exact ⟨h2,h3,h4,h5,h6,h7,h8⟩
theorem jk {s:ByteArray} (h:isId s=true):s.size=16:=by
 simp only [isId,Bool.and_eq_true,decide_eq_true_eq] at h
 omega
theorem jO {s:ByteArray} (h:isName s=true):s.size≤24:=by
 simp only [isName,Bool.and_eq_true,Bool.not_eq_true',decide_eq_false_iff_not] at h
 omega
theorem ml {s:ByteArray} (h:isDigestB s=true):s.size=32:=by
 simp only [isDigestB,decide_eq_true_eq] at h
 omega
theorem eO {s:ByteArray} (h:isShortB s=true):s.size≤500:=by
 simp only [isShortB,decide_eq_true_eq] at h
 omega
theorem d6 {s:ByteArray} (h:seqB s ⟨#[]⟩=true):s.size=0:=by
 rw [da] at h
 exact aY h
structure Short (b:BoxD):Prop where
 nonce:b.nonce.size≤500
 data:b.data.size≤500
 tag:b.tag.size≤500
theorem Short.fit {b:BoxD} (h:Short b):b.Fit:=⟨by have:=h.nonce;omega,by have:=h.data;omega,by have:=h.tag;omega⟩
theorem Short.size {b:BoxD} (h:Short b):(boxV b).size≤1530:=by
 have h1:=bx b.nonce
 have h2:=bx b.data
 have h3:=bx b.tag
 have:=h.nonce
 have:=h.data
 have:=h.tag
 simp only [boxV,ByteArray.size_append]
 omega
theorem gw {b:BoxD} (h:isSealedB b=true):Short b:=by
 simp only [isSealedB,Bool.and_eq_true,decide_eq_true_eq] at h
 have:=eO h.2
 exact ⟨by omega,this,by omega⟩
theorem dU {b:BoxD} (h:boxEq b BoxD.zero=true):Short b:=by
 simp only [boxEq,Bool.and_eq_true,BoxD.zero] at h
 obtain ⟨⟨h1,h2⟩,h3⟩:=h
 have:=d6 h1
 have:=d6 h2
 have:=d6 h3
 exact ⟨by omega,by omega,by omega⟩
structure ToOk (l:List ByteArray):Prop where
 len:l.length≤64
 each:∀ x∈l,x.size≤16
theorem tv {n:Nat} {bad:Nat→Bool} (h:allB n bad=true) {k:Nat} (hk:k<n):bad k=false:=by
 simp only [allB,List.all_eq_true,List.mem_range] at h
 simpa using h k hk
theorem iG {l:List ByteArray} (h:isIds l=true):ToOk l:=by
 simp only [isIds,Bool.and_eq_true,Bool.not_eq_true',decide_eq_false_iff_not] at h
 refine ⟨by omega,fun x hx=>?_⟩
 obtain ⟨k,hk,rfl⟩:=List.getElem_of_mem hx
 have h1:=tv h.2 hk
 simp only [badIds,Bool.or_eq_false_iff,Bool.not_eq_false'] at h1
 have h2:l.getD k .empty=l[k]:=by simp [hk]
 rw [h2] at h1
 have:=jk h1.1
 omega
theorem ov {B:Nat}:∀ (l:List ByteArray),(∀ x∈l,x.size≤B)→(cats l).size≤l.length*B
 | [],_=>by simp [cats]
 | x::l,h=>by
  have h1:=ov l fun y hy=>h y (List.mem_cons_of_mem _ hy)
  have h2:=h x aU
  simp only [cats,ByteArray.size_append,List.length_cons,Nat.add_mul,Nat.one_mul]
  omega
theorem ToOk.size {l:List ByteArray} (h:ToOk l):(listV l).size≤1073741824:=by
 have h1:=bw l.length
 have h2:=ov (B:=26) (l.map textV) (fun x hx=>by
  obtain ⟨y,hy,rfl⟩:=List.mem_map.1 hx
  have:=h.each y hy
  have:=bx y
  omega)
 have h3:=h.len
 simp only [List.length_map] at h2
 simp only [listV,ByteArray.size_append]
 omega
theorem ToOk.nil {l:List ByteArray} (h:l.length=0):ToOk l:=by
 have:l=[]:=List.eq_nil_of_length_eq_zero h
 subst this
 exact ⟨by simp,by simp⟩
structure WrapsOk (l:List WrapD):Prop where
 len:l.length≤64
 each:∀ x∈l,Short x.box
theorem WrapsOk.size {l:List WrapD} (h:WrapsOk l):(cats (l.map wrapV)).size≤1073741824:=by
 have h2:=ov (B:=1550) (l.map wrapV) (fun x hx=>by
  obtain ⟨y,hy,rfl⟩:=List.mem_map.1 hx
  have:=(h.each y hy).size
  have:=bw y.to
  have:=bw y.eph
  simp only [wrapV,ByteArray.size_append]
  omega)
 have h3:=h.len
 simp only [List.length_map] at h2
 omega
theorem WrapsOk.nil {l:List WrapD} (h:l.length=0):WrapsOk l:=by
 have:l=[]:=List.eq_nil_of_length_eq_zero h
 subst this
 exact ⟨by simp,by simp⟩
theorem kv {a:ActD} (hr:a.Rng) (ht:ToOk a.toL) (h:wrappedB a=true):WrapsOk a.wrapsL:=by
 simp only [wrappedB,Bool.and_eq_true,decide_eq_true_eq] at h
 have h1:=hr.to_len
 have h2:=hr.wraps_len
 have h3:=ht.len
 refine ⟨by omega,fun x hx=>?_⟩
 obtain ⟨k,hk,rfl⟩:=List.getElem_of_mem hx
 have h4:=tv h.1 hk
 rw [iR (List.getElem?_eq_getElem hk)] at h4
 simp only [Bool.or_eq_false_iff,Bool.not_eq_false'] at h4
 exact gw h4.2.2
structure Bnd (a:ActD):Prop where
 object:a.object.size≤500
 target:a.target.size≤500
 group:a.group.size≤500
 text:a.text.size≤500
 body:Short a.body
 to:ToOk a.toL
 wraps:WrapsOk a.wrapsL
theorem pF {κ β:Type} [KeyT κ] {k:κ} {x:β}:∀ {l:List (κ×β)},mget l k=some x→∃ k',(k',x)∈l
 | [],h=>by cases h
 | (k',v)::r,h=>by
  simp only [mget] at h
  cases hb:KeyT.eqb k k' with
  | true=>rw [hb] at h;simp at h;subst h;exact ⟨k',aU⟩
  | false=>rw [hb] at h;obtain ⟨k2,h2⟩:=pF (l:=r) (by simpa using h);exact ⟨k2,List.mem_cons_of_mem _ h2⟩
theorem lm {sc:Int} {g:ByteArray} (h:sealedScopeB sc g=true):g.size≤500:=by
 unfold sealedScopeB at h
 cases h1:decide (sc=2)<;>cases h2:decide (sc=1)<;>cases h3:decide (sc=3)<;>simp only [h1,h2,h3,cond_true,cond_false] at h
 all_goals first
  | (have:=jO h;omega)
  | (have:=d6 h;omega)
  | cases h
theorem jY {a:ActD} (h:audienceB a=true):a.group.size≤500∧a.text.size≤500∧Short a.body∧ToOk a.toL:=by
 unfold audienceB at h
 cases h0:isIds a.toL with
 | false=>simp [h0] at h
 | true =>
  have ht:=iG h0
  cases h1:decide (a.scope=0) with
  | true =>
   simp only [h0,h1,Bool.not_true,cond_true,cond_false,Bool.and_eq_true] at h
   obtain ⟨⟨⟨h2,h3⟩,h4⟩,h5⟩:=h
   have:=d6 h2
   have:=eO h4
   exact ⟨by omega,by omega,dU h5,ht⟩
  | false =>
   cases h6:(decide (0<(a.to.n:Int))&&!decide (a.scope=3)) with
   | true=>simp only [h0,h1,h6,Bool.not_true,cond_true,cond_false] at h;cases h
   | false =>
    simp only [h0,h1,h6,Bool.not_true,cond_true,cond_false,Bool.and_eq_true] at h
    obtain ⟨⟨⟨h2,h3⟩,h4⟩,h5⟩:=h
    have:=d6 h4
    exact ⟨lm h2,by omega,gw h5,ht⟩
theorem df {s:ByteArray} (h:seqB s ⟨#[]⟩=true):s.size≤500:=by have:=d6 h;omega
theorem CT {a:ActD} (hr:a.Rng) (h:decide ((a.to.n:Int)=0)=true):ToOk a.toL:=ToOk.nil (by have:=aY h;have:=hr.to_len;omega)
theorem j6 {a:ActD} (hr:a.Rng) (h:decide ((a.wraps.n:Int)=0)=true):WrapsOk a.wrapsL:=WrapsOk.nil (by have:=aY h;have:=hr.wraps_len;omega)
theorem p4 {s:ByteArray} (h:isDigestB s=true):s.size≤500:=by have:=ml h;omega
theorem yA {s:ByteArray} (h:isId s=true):s.size≤500:=by have:=jk h;omega
theorem yi {s:ByteArray} (h:isName s=true):s.size≤500:=by have:=jO h;omega
theorem vR (a:ActD):usedV a=useU (seqB a.object ⟨#[]⟩) (seqB a.target ⟨#[]⟩) (decide (a.scope=0)) (seqB a.group ⟨#[]⟩) (decide ((a.to.n:Int)=0)) (seqB a.text ⟨#[]⟩) (boxEq a.body BoxD.zero) (decide (a.epoch=0)) (decide ((a.wraps.n:Int)=0)) (decide (a.n=0)) (decide (a.m=0)):=rfl
theorem p9 {a:ActD} (hr:a.Rng) (h:ruleB a=true):Bnd a:=by
 unfold ruleB at h
 cases hk:mget (ruleL a) a.kind with
 | none=>rw [hk] at h;cases h
 | some x =>
  obtain ⟨fs,b⟩:=x
  rw [hk] at h
  simp only [Bool.and_eq_true,decide_eq_true_eq] at h
  obtain ⟨hu,hb⟩:=h
  rw [vR] at hu
  obtain ⟨k',hm⟩:=pF hk
  obtain ⟨n,hn,hmem⟩:∃ n:Nat,fs=n∧n∈[1568,252,253,1,2,33,24,412,35,1536,1808,513,546]:=by
   simp only [ruleL,List.mem_cons,Prod.mk.injEq,List.not_mem_nil,or_false] at hm
   clear hu hb hk
   rcases hm with ⟨-,h9,-⟩|⟨-,h9,-⟩|⟨-,h9,-⟩|⟨-,h9,-⟩|⟨-,h9,-⟩|⟨-,h9,-⟩|⟨-,h9,-⟩|⟨-,h9,-⟩|⟨-,h9,-⟩|⟨-,h9,-⟩|⟨-,h9,-⟩|⟨-,h9,-⟩|⟨-,h9,-⟩|⟨-,h9,-⟩|⟨-,h9,-⟩|⟨-,h9,-⟩|⟨-,h9,-⟩|⟨-,h9,-⟩|⟨-,h9,-⟩|⟨-,h9,-⟩|⟨-,h9,-⟩|⟨-,h9,-⟩|⟨-,h9,-⟩|⟨-,h9,-⟩<;>exact ⟨fs.toNat,by omega,by rw [h9];decide⟩
  rw [hn] at hu
  obtain ⟨u0,u1,u3,u4,u5,u6,u8⟩:=vT (List.all_eq_true.1 qp n hmem) hu
  clear hu hmem hk
  simp only [ruleL,List.mem_cons,Prod.mk.injEq,List.not_mem_nil,or_false] at hm
  rcases hm with ⟨-,rfl,rfl⟩|⟨-,rfl,rfl⟩|⟨-,rfl,rfl⟩|⟨-,rfl,rfl⟩|⟨-,rfl,rfl⟩|⟨-,rfl,rfl⟩|⟨-,rfl,rfl⟩|⟨-,rfl,rfl⟩|⟨-,rfl,rfl⟩|⟨-,rfl,rfl⟩|⟨-,rfl,rfl⟩|⟨-,rfl,rfl⟩|⟨-,rfl,rfl⟩|⟨-,rfl,rfl⟩|⟨-,rfl,rfl⟩|⟨-,rfl,rfl⟩|⟨-,rfl,rfl⟩|⟨-,rfl,rfl⟩|⟨-,rfl,rfl⟩|⟨-,rfl,rfl⟩|⟨-,rfl,rfl⟩|⟨-,rfl,rfl⟩|⟨-,rfl,rfl⟩|⟨-,rfl,rfl⟩
  all_goals
   have hn':=congrArg Int.toNat hn
   rw [Int.toNat_natCast] at hn'
   subst hn'
   try simp only [rule1B,rule2B,rule3B,rule4B,rule5B,rule6B,objectB,targetB,grantB,setupB,Bool.and_eq_true] at hb
  all_goals first
   | (have hA:=jY hb;exact ⟨df u0,df u1,hA.1,hA.2.1,hA.2.2.1,hA.2.2.2,j6 hr u8⟩)
   | (have hA:=jY hb.2;exact ⟨p4 hb.1,df u1,hA.1,hA.2.1,hA.2.2.1,hA.2.2.2,j6 hr u8⟩)
   | (have hT:=iG hb.1.2;exact ⟨df u0,df u1,lm hb.1.1.1,df u5,dU u6,hT,kv hr hT hb.2⟩)
   | (have hT:=iG hb.1.1.1.2;exact ⟨df u0,df u1,df u3,df u5,dU u6,hT,kv hr hT hb.1.1.2⟩)
   | exact ⟨by first|exact df u0|exact p4 hb.1|exact p4 hb,by first|exact df u1|exact yA hb|exact yA hb.1.1,by first|exact df u3|exact yi hb.1,by first|exact df u5|exact eO hb.2|exact yi hb.1|exact eO hb.1.2,dU u6,by first|exact CT hr u4|exact iG hb.2,j6 hr u8⟩
   | skip
  unfold labelB at hb
  cases hN:isName a.text with
  | false=>simp [hN] at hb
  | true =>
   simp only [hN,Bool.not_true,cond_false,Bool.or_eq_true,Bool.and_eq_true,objectB,targetB] at hb
   refine ⟨?_,?_,df u3,yi hN,dU u6,CT hr u4,j6 hr u8⟩
   · rcases hb with hb|hb
     · exact p4 hb.1
     · exact df hb.2
   · rcases hb with hb|hb
     · exact df hb.2
     · exact yA hb.1
theorem dz {a:ActD} (hr:a.Rng) (h:rightB a=true):a.Fit:=by
 simp only [rightB,Bool.and_eq_true] at h
 obtain ⟨⟨⟨⟨⟨h1,h2⟩,h3⟩,h4⟩,h5⟩,h6⟩:=h
 have hB:=p9 hr h6
 have hp:a.prev.size≤500:=by
  unfold placedB at h2
  cases hs:decide (a.seq=0) with
  | true=>simp only [hs,cond_true,Bool.and_eq_true] at h2;exact df h2.2
  | false=>simp only [hs,cond_false,Bool.and_eq_true] at h2;exact p4 h2.2
 have:=jk h1
 have:=hB.object
 have:=hB.target
 have:=hB.group
 have:=hB.text
 exact ⟨by omega,by omega,by omega,by omega,by omega,by omega,hB.body.fit,hB.to.size,fun w hw=>(hB.wraps.each w hw).fit,hB.wraps.size,hr.ints,hr.wints⟩
end Go.Proofs.YtfnjklhjngphmaaGreatDoor
namespace Go.Proofs.YtfnjklhjngphmaaGreatDoor.Sy
open Go Go.RowKit
section
variable {P:Program} {N:Nat} {av bor:List Nat} {w0:World} {ops:Array Oper} {rest:List Oper} {k:St→Prop} {E:Env} {loc loc':List Res} {X:World→Prop}
variable {d:Option Tmp} {ty:TypeId} {pos:String} {af:Array Edge} {g:Option (Nat×Bool)} {bb want:Bool} {K:Exit→St→Prop}
theorem ze {st:St} {x y:Operand} {t t2 e n b':Nat} {p:Option Addr} {m c:Nat} [hI:TySl P t e n b'] (hx:ev st.env x=some (.slice p m c)) (hy:ev st.env y=some (.slice none 0 0)):Sy.Yields P N av bor w0 st (.binOp .eql t x y t2) ty (.bool p.isNone):=Sy.Yields.mk fun A w ok d pos af g=>by
 have:=Lib.run_eql_slice_nil (P:=P) w t e p m c 0 0 (cM hI.out).1
 simp [execOp,ok.eval hx,ok.eval hy,eqGuard,this]
theorem lc {nn:Nat} {x y:Operand} {t t2 e n b':Nat} {p:Option Addr} {m c:Nat} [hI:TySl P t e n b'] (h:Sw P N av bor w0 ops rest ⟨(nn,.bool p.isNone)::E,loc,X⟩ k) (hx:ev E x=some (.slice p m c):=by rfl) (hy:ev E y=some (.slice none 0 0):=by rfl) (hg:gdB ops E g=some (bb,want):=by rfl) (hbb:bb=want:=by exact aR) (hd:Nat.blt nn N=true:=by rfl):Sw P N av bor w0 ops (⟨some nn,.binOp .eql t x y t2,ty,pos,af,g⟩::rest) ⟨E,loc,X⟩ k:=ax (ze hx hy) hg hbb hd h
theorem bM {n:Nat} {x y:Operand} {t t2:TypeId} {kk:IntKind} {a b:Int} (h:Sw P N av bor w0 ops rest ⟨(n,.bool true)::E,loc,X⟩ k) (hx:ev E x=some (.int kk a):=by rfl) (hy:ev E y=some (.int kk b):=by rfl) (hab:a=b:=by decide) (hg:gdB ops E g=some (bb,want):=by rfl) (hbb:bb=want:=by exact aR) (hd:Nat.blt n N=true:=by rfl) :
  Sw P N av bor w0 ops (⟨some n,.binOp .eql t x y t2,ty,pos,af,g⟩::rest) ⟨E,loc,X⟩ k:=ax (by have:=kp (P:=P) (N:=N) (av:=av) (bor:=bor) (w0:=w0) (st:=⟨E,loc,X⟩) (ty:=ty) (t:=t) (t2:=t2) hx hy;rwa [decide_eq_true hab] at this) hg hbb hd h
theorem bQ {n:Nat} {x y:Operand} {t t2:TypeId} {kk:IntKind} {a b:Int} (h:Sw P N av bor w0 ops rest ⟨(n,.bool false)::E,loc,X⟩ k) (hx:ev E x=some (.int kk a):=by rfl) (hy:ev E y=some (.int kk b):=by rfl) (hab:¬ a=b:=by decide) (hg:gdB ops E g=some (bb,want):=by rfl) (hbb:bb=want:=by exact aR) (hd:Nat.blt n N=true:=by rfl) :
  Sw P N av bor w0 ops (⟨some n,.binOp .eql t x y t2,ty,pos,af,g⟩::rest) ⟨E,loc,X⟩ k:=ax (by have:=kp (P:=P) (N:=N) (av:=av) (bor:=bor) (w0:=w0) (st:=⟨E,loc,X⟩) (ty:=ty) (t:=t) (t2:=t2) hx hy;rwa [decide_eq_false hab] at this) hg hbb hd h
theorem dC {m:Nat} {t:TypeId} {x y:Operand} {b off T:Nat} {cs vs:List Value} (cs':List Value) {arr:Array Value} [ht:TyAgg P t m] (hx:ev E x=some (.pointer (some ⟨b,off,none⟩)):=by rfl) (hy:ev E y=some (.agg arr):=by rfl) (hv:arr.toList=vs:=by (first|exact List.toList_toArray|rfl))
  (hA:At (cel b T cs) (cel b T cs') loc loc':=by (repeat (first|exact At.here _|apply At.there))) (hm:vs.length=m:=by rfl) (hl:Nat.ble (off+m) cs.length=true:=by rfl) (h1:vs.all (·.oneCell')=true:=by rfl) (hc2:cs.take off++vs++cs.drop (off+m)=cs':=by rfl) (hg:gdB ops E g=some (bb,want):=by rfl) (hb:bb=want:=by exact aR) (hd:inB N d=true:=by rfl)
  (h:Sw P N av bor w0 ops rest ⟨putE E d undef,loc',X⟩ k):Sw P N av bor w0 ops (⟨d,.store t x y,ty,pos,af,g⟩::rest) ⟨E,loc,X⟩ k:=by
 obtain ⟨_,_,_,h3⟩:=cW (TyAgg.out (P:=P) (t:=t))
 exact lk (vs:=vs) (cs:=cs) (cs':=cs') (by rw [h3,hm]) hx hy (by simpa [Value.cells] using hv) h1 (by have:=Nat.le_of_ble_eq_true hl;omega) (by rw [hm];exact hc2) hA hg hb hd h
theorem dY {n:Nat} {t e size b':Nat} [hs:TySl P t e size b'] (h:∀ b,Sw P N av bor w0 ops rest ⟨(n,.slice (some ⟨b,0,none⟩) 0 0)::E,orow e size (.slice (some ⟨b,0,none⟩) 0 0) 0 []::loc,X⟩ k) (hg:gdB ops E g=some (bb,want):=by rfl) (hb:bb=want:=by exact aR) (hd:Nat.blt n N=true:=by rfl):Sw P N av bor w0 ops (⟨some n,.buildSlice t 0 #[],ty,pos,af,g⟩::rest) ⟨E,loc,X⟩ k:=Sw.mk fun a w ok=>by
 have hd':inB N (some n)=true:=by have h1:n<N:=Nat.le_of_ble_eq_true hd;simpa [inB] using h1
 obtain ⟨ht,inf,hi,hi1,hi2⟩:=cM hs.out
 have hsz:(sizeOf e).run P w=.ok size w:=by simp [sizeOf,typeInfo,hi,hi1]
 simp only [wpList]
 rw [cj ok (o:=⟨some n,.buildSlice t 0 #[],ty,pos,af,g⟩) hg]
 subst hb
 simp only [beq_self_eq_true,if_true]
 left
 unfold Oper.wp
 have hr:(execOp a.eval ⟨some n,.buildSlice t 0 #[],ty,pos,af,g⟩).run P w=.ok (.value (.slice (some ⟨w.heap.size,0,none⟩) 0 0)) (w.alloc (.cells #[] e)):=by
  have hr0:∀ f:Nat→Value,Array.map f (Array.range 0)=#[]:=fun f=>Array.eq_empty_of_size_eq_zero (by simp)
  simp [execOp,Instr.buildSlice,run_underlying ht,hsz,Instr.fill,hr0,d7]
 rw [hr]
 have ok':Ok N av bor w0 ⟨E,orow e size (.slice (some ⟨w.heap.size,0,none⟩) 0 0) 0 []::loc,X⟩ a (w.alloc (.cells #[] e)):=(ok.via fun M G=>G.new (.cells #[] e) (fun w2=>ORow w2 e size (.slice (some ⟨w.heap.size,0,none⟩) 0 0) 0 []) (fun w2 h=>⟨by simp,.inr ⟨w.heap.size,0,_,(0,0),rfl,h,Nat.le_refl _,Nat.zero_le _,by simp,by simp,.inl rfl⟩⟩))
 exact (h _).run _ _ (di (some n) _▸ok'.put hd' _)
end
theorem jR {size:Nat}:∀ (xs:List (List Value)) (i:Nat) (cs:List Value),(∀ r∈xs,r.length=size)→xs[i]?=some cs→∀ j u,cs[j]?=some u→xs.flatten[i*size+j]?=some u
 | [],i,cs,_,h,j,u,_=>by simp at h
 | r::xs,0,cs,hl,h,j,u,hj=>by
  simp at h
  subst h
  have h1:=(List.getElem?_eq_some_iff.1 hj).1
  rw [List.flatten_cons,Nat.zero_mul,Nat.zero_add,List.getElem?_append_left h1,hj]
 | r::xs,i+1,cs,hl,h,j,u,hj=>by
  have h1:r.length=size:=hl r aU
  rw [List.flatten_cons,List.getElem?_append_right (by rw [h1,Nat.add_mul];omega),h1,show (i+1)*size+j-size=i*size+j from by rw [Nat.add_mul];omega]
  exact jR xs i cs (fun q hq=>hl q (List.mem_cons_of_mem _ hq)) (by simpa using h) j u hj
theorem pW {size:Nat} (xs:List (List Value)) (h:∀ r∈xs,r.length=size):xs.flatten.length=xs.length*size:=by
 rw [List.length_flatten]
 have:∀ x∈xs.map List.length,x=size:=by
  intro x hx
  obtain ⟨cs,hcs,rfl⟩:=List.mem_map.1 hx
  exact h cs hcs
 rw [List.eq_replicate_of_mem this]
 simp
theorem bJ {w:World} {e size n c:Nat} {A:Option Addr} {xs:List (List Value)} (h:ORow w e size (.slice A n c) n xs.flatten) (hn:n=xs.length) (hs:∀ r∈xs,r.length=size):RowsD w size ⟨A,n,c⟩ xs:=by
 rcases h.2 with ⟨h1,h2⟩|⟨g,cap,cur,fz,h1,hg,hnc,hcm,hcs,htake,hfz⟩
 · have hx:xs=[]:=List.eq_nil_of_length_eq_zero ag
   subst hx
   simp only [Value.slice.injEq] at h1
   obtain ⟨rfl,rfl,rfl⟩:=h1
   exact ⟨rfl,Nat.le_refl _,Nat.zero_le _,fun i cs hi=>by simp at hi⟩
 · simp only [Value.slice.injEq] at h1
   obtain ⟨rfl,_,rfl⟩:=h1
   refine ⟨hn,hnc,hcm,fun i cs hi=>⟨hs cs (List.mem_of_getElem? hi),rfl,fun j u hj=>⟨rfl,fun a ha=>?_⟩⟩⟩
   cases ha
   have hf:=jR xs i cs hs hi j u hj
   have hadd:(⟨g,0,none⟩:Addr).add (i*size+j)=⟨g,i*size+j,none⟩:=by unfold Addr.add;split<;>simp_all
   rw [hadd,cell_of_row w g _ cur e fz hg]
   rw [←htake,List.getElem?_take] at hf
   split at hf
   · simpa using hf
   · cases hf
theorem jJ {w:World} {b e size n:Nat} {cs:List Value} (h:w.heap[b]?=some (.cells cs.toArray e (0,0))) (hl:cs.length=n*size) (hm:n≤maxLen):ORow w e size (.slice (some ⟨b,0,none⟩) n n) n cs :=
 ⟨hl,.inr ⟨b,n,_,(0,0),rfl,h,Nat.le_refl _,hm,by simpa using hl,by simp [←hl],.inl rfl⟩⟩
theorem jB {w:World} {b e size n:Nat} {xs:List (List Value)} (h:w.heap[b]?=some (.cells xs.flatten.toArray e (0,0))) (hn:n=xs.length) (hm:n≤maxLen) (hs:∀ r∈xs,r.length=size):RowsD w size ⟨some ⟨b,0,none⟩,n,n⟩ xs :=
 bJ (jJ h (by rw [pW xs hs,hn]) hm) hn hs
theorem RowsD.none_nil {w:World} {size:Nat} {s:SlV} {xs:List (List Value)} (h:RowsD w size s xs) (hp:s.p.isNone=true):xs=[]:=by
 cases xs with
 | nil=>rfl
 | cons cs r =>
  have:=(h.row 0 cs rfl).2.1
  cases hq:s.p<;>simp_all
theorem bz (w:World) (size:Nat):RowsD w size ⟨none,0,0⟩ []:=⟨rfl,Nat.le_refl _,Nat.zero_le _,fun i cs hi=>by simp at hi⟩
def CloneAt (size:Nat) (xs:List (List Value)) (u:Value) (X:World→Prop):Prop:=∃ s:SlV,u=s.v∧s.n=xs.length∧∀ w,X w→RowsD w size s xs
end Go.Proofs.YtfnjklhjngphmaaGreatDoor.Sy
namespace Go.Proofs.YtfnjklhjngphmaaGreatDoor
open Go Go.Proofs Sy
theorem eR (s:SlV) (xs:List (List Value)) (hb:s.n*16≤140737488351232) (h1:∀ cs∈xs,cs.all (·.oneCell')=true):Mk Tryz.prog 49 #[s.v] (fun w=>RowsD w 1 s xs) (CloneAt 1 xs):=by
 refine bL (args:=[_]) _ Tryz.func49 rfl Tryz.ntmps49 rfl fun av bor w0=>?_
 refine bt (p:=s.n=xs.length∧(∀ r∈xs,r.length=1)∧(s.p.isNone=true→xs=[])) (fun w h=>⟨h.len,fun r hr=>?_,h.none_nil⟩) fun ⟨hl,hr1,hnil⟩=>?_
 · obtain ⟨i,hi⟩:=List.mem_iff_getElem?.1 hr
   exact (h.row i r hi).1
 repeat' (first|refine lc ?_|refine dY fun _=>?_|apply ab|apply aj|apply ai|refine ae ?_|refine ac ?_|apply ay|apply aA|(refine aO (ht:=?_) (hf:=?_);all_goals (intro hx_;skip)))
 · refine aq (aB rfl rfl) ⟨⟨none,0,0⟩,rfl,?_,fun w _=>?_⟩
   · rw [hnil hx_];rfl
   · rw [hnil hx_];exact bz w 1
 refine aS (size:=1) (z:=.string ⟨#[]⟩) (news:=xs.flatten) (q:=s.n) rfl rfl rfl rfl (fun _=>At.here _) (fun w G=>dJ G.keep.now h1) ?_ ?_ rfl ?_ rfl ?_
 · omega
 · simp only [maxLen];omega
 · rfl
 intro A c
 repeat' (first|apply ab|refine ac ?_|apply aA|fail)
 refine aq (aB rfl rfl) ⟨⟨A,0+s.n,c⟩,rfl,?_,fun w h=>?_⟩
 · show 0+s.n=xs.length
   omega
 · exact bJ (h.2 _ aU) ag hr1
theorem js (s:SlV) (xs:List (List Value)) (hb:s.n*64≤140737488351232) (h1:∀ cs∈xs,cs.all (·.oneCell')=true):Mk Tryz.prog 50 #[s.v] (fun w=>RowsD w 5 s xs) (CloneAt 5 xs):=by
 refine bL (args:=[_]) _ Tryz.func50 rfl Tryz.ntmps50 rfl fun av bor w0=>?_
 refine bt (p:=s.n=xs.length∧(∀ r∈xs,r.length=5)∧(s.p.isNone=true→xs=[])) (fun w h=>⟨h.len,fun r hr=>?_,h.none_nil⟩) fun ⟨hl,hr1,hnil⟩=>?_
 · obtain ⟨i,hi⟩:=List.mem_iff_getElem?.1 hr
   exact (h.row i r hi).1
 repeat' (first|refine lc ?_|refine dY fun _=>?_|apply ab|apply aj|apply ai|refine ae ?_|refine ac ?_|apply ay|apply aA|(refine aO (ht:=?_) (hf:=?_);all_goals (intro hx_;skip)))
 · refine aq (aB rfl rfl) ⟨⟨none,0,0⟩,rfl,?_,fun w _=>?_⟩
   · rw [hnil hx_];rfl
   · rw [hnil hx_];exact bz w 5
 refine aS (size:=5) (news:=xs.flatten) (q:=s.n) rfl rfl rfl rfl (fun _=>At.here _) (fun w G=>dJ G.keep.now h1) ?_ ?_ rfl ?_ rfl ?_
 · omega
 · simp only [maxLen];omega
 · rfl
 intro A c
 repeat' (first|apply ab|refine ac ?_|apply aA|fail)
 refine aq (aB rfl rfl) ⟨⟨A,0+s.n,c⟩,rfl,?_,fun w h=>?_⟩
 · show 0+s.n=xs.length
   omega
 · exact bJ (h.2 _ aU) ag hr1
set_option maxRecDepth 20000 in
theorem eN (a:ActD):Pu Tryz.prog 53 #[itemV 0 a] (ActD.at_ · a) (.bool (rightB a)):=by
 refine aN (args:=[_]) _ Tryz.func53 rfl Tryz.ntmps53 rfl fun av bor w0=>?_
 repeat' (first|refine bM ?_|apply ab|apply aj|apply ai|refine ae ?_|refine ac ?_|refine aM ?_|refine aL ?_|refine aG ?_|refine aJ ?_|refine aH ?_|refine aW ?_|refine aP fun _=>?_|refine aT fun _=>?_|refine br ?_|refine aK ?_|refine aE ?_|apply aw|apply aA|refine aC (hc:=dO a) ?_|refine aC (hc:=pP) ?_|(refine bV ?_)|(refine dC (itemCells 0 ActD.zero) (h:=?_))|(refine bZ (vs:=a.cells) (hv:=rfl) ?_)|((fail_if_success (refine bA ?_));refine bj (ht:=?_) (hf:=?_);all_goals (intro hx_;skip))|fail)
 all_goals (apply aq;apply aB;rfl;rfl;rw [hx_])
def bytesV (a:ActD):ByteArray:=bif rightB a then numV 0++actBytes a else ⟨#[]⟩
theorem ft {a:ActD} (hr:a.Rng):(actBytes a).size≤300000000020:=by
 have n7:=bw a.e
 have n8:=bw a.s
 unfold actBytes
 cases seqB (actCore a) ⟨#[]⟩ with
 | true=>simp [ByteArray.size]
 | false =>
  have hc:(actCore a).size≤300000000000:=by
   unfold actCore
   cases hrB:rightB a with
   | true=>exact eZ (dz hr hrB)
   | false=>simp [ByteArray.size]
  simp only [cond_false,ByteArray.size_append]
  omega
theorem jV {a:ActD} (hr:a.Rng):(bytesV a).size≤300000000030:=by
 have h1:=bw 0
 have h2:=ft hr
 unfold bytesV
 cases rightB a with
 | true=>simp only [cond_true,ByteArray.size_append];omega
 | false=>simp [ByteArray.size]
set_option maxRecDepth 20000 in
theorem oc (a:ActD) (hr:a.Rng):Pu Tryz.prog 47 #[itemV 0 a] (ActD.at_ · a) (.string (bytesV a)):=by
 cases hrB:rightB a with
 | false =>
  have hrN:(!rightB a)=true:=by rw [hrB];rfl
  refine aN (args:=[_]) _ Tryz.func47 rfl Tryz.ntmps47 rfl fun av bor w0=>?_
  repeat' (first|apply ab|apply aj|apply ai|refine ac ?_|refine aG ?_|refine bE ?_|refine aT fun _=>?_|refine aE ?_|apply aA|refine aC (hc:=eN a) ?_|fail)
  apply aq;apply aB;rfl;rfl
  simp only [bytesV,hrB,cond_false]
 | true =>
 have hrN:(!rightB a)=false:=by rw [hrB];rfl
 refine aN (args:=[_]) _ Tryz.func47 rfl Tryz.ntmps47 rfl fun av bor w0=>?_
 have hab:=qa a (dz hr) ⟨hr.ints.2.2.2.2.2.2.2.1,hr.ints.2.2.2.2.2.2.2.2⟩
 have hsz:=ft hr
 repeat' (first|apply ab|apply aj|apply ai|refine ac ?_|refine aM ?_|refine aL ?_|refine aG ?_|refine bE ?_|refine aP fun _=>?_|refine aT fun _=>?_|refine ca fun _=>?_|refine aD ?_|apply ay|refine aC (hc:=eN a) ?_|fail)
 rename_i bi bb bs
 have hS:(⟨#[]⟩:ByteArray)++numsV [0]=numV 0:=by
  show ByteArray.empty++(numV 0++ByteArray.empty)=numV 0
  rw [ByteArray.append_empty,ByteArray.empty_append]
 have hns:(⟨#[]⟩:ByteArray).size+(numsV [0]).size≤1099511627776:=by
  rw [←ByteArray.size_append,hS]
  have:=bw 0
  omega
 refine dX ?_
 refine uq 5 1 ?_
 refine eu (l:=bld bb none 0 ⟨#[]⟩++[cel bi 57 (itemCells 0 a)]) (List.Perm.swap _ _ _) ?_
 refine dj (pre:=bld bb none 0 ⟨#[]⟩) (fr:=[cel bi 57 (itemCells 0 a)]) (hc:=AJ bb none 0 ⟨#[]⟩ ⟨some ⟨bs,0,none⟩,1,1⟩ [0] (by simp) hns) (hX:=fun w h=>jB (xs:=[[.int .i64 0]]) h.2 rfl (by decide) (by simp)) (h:=?_)
 rintro v R X' ⟨A',c',rfl,rfl⟩
 refine dr (X':=(ActD.at_ · a)) (fun w h=>h.1.1) ?_
 have hn0:=bw 0
 rw [hS]
 generalize hs1:numV 0=s1 at *
 unfold bld
 repeat' (first|refine bM ?_|apply ab|apply aj|apply ai|refine aM ?_|refine aL ?_|refine aE ?_|fail)
 (refine bo [] (fun _=>True) ar ?_)
 all_goals refine aa 0 ?_
 all_goals refine aa 2 ?_
 all_goals (refine bS 1 3 (h:=?_) (h':=?_);(focus (((refine aL ?_);apply ab;refine ak ?_);all_goals ((refine ao 3 ?_;(refine bZ (vs:=a.cells) (hv:=rfl) ?_);apply ab;refine ak ?_);all_goals (refine ao 4 ?_;(refine aC (hc:=hab) ?_);apply ab;refine ak ?_);all_goals (refine ao 5 ?_;(refine aS (size:=1) (z:=.int .u8 0) rfl rfl rfl rfl (fun _=>At.there _ (At.here _)) (fun w G=>gF ag) ag (by simp only [maxLen];omega) rfl ?_ rfl ?_;(with_reducible rfl);intro A1 c1);apply ab;refine ak ?_);all_goals (refine aa 6 ?_);all_goals (refine ao 7 ?_;(refine br ?_);apply ab;refine ak ?_);all_goals (refine aI ?_))));rotate_right;(focus (((refine bZ (vs:=a.cells) (hv:=rfl) ?_);apply ab;refine ak ?_);all_goals ((refine bS 1 4 (h:=?_) (h':=?_);(focus (((refine aL ?_);apply ab;refine ak ?_);all_goals ((refine ao 4 ?_;(refine aC (hc:=hab) ?_);apply ab;refine ak ?_);all_goals (refine ao 5 ?_;(refine aS (size:=1) (z:=.int .u8 0) rfl rfl rfl rfl (fun _=>At.there _ (At.here _)) (fun w G=>gF ag) ag (by simp only [maxLen];omega) rfl ?_ rfl ?_;(with_reducible rfl);intro A1 c1);apply ab;refine ak ?_);all_goals (refine aa 6 ?_);all_goals (refine ao 7 ?_;(refine br ?_);apply ab;refine ak ?_);all_goals (refine aI ?_))));rotate_right;(focus (((refine aC (hc:=hab) ?_);apply ab;refine ak ?_);all_goals ((refine ao 1 ?_;(refine aL ?_);apply ab;refine ak ?_);all_goals (refine ao 5 ?_;(refine aS (size:=1) (z:=.int .u8 0) rfl rfl rfl rfl (fun _=>At.there _ (At.here _)) (fun w G=>gF ag) ag (by simp only [maxLen];omega) rfl ?_ rfl ?_;(with_reducible rfl);intro A1 c1);apply ab;refine ak ?_);all_goals (refine aa 6 ?_);all_goals (refine ao 7 ?_;(refine br ?_);apply ab;refine ak ?_);all_goals (refine aI ?_)))))))))
 all_goals (repeat' (first|apply aj|apply ai|refine aM ?_|refine aL ?_|fail))
 all_goals (
  rw [←cK,←fq]
  refine gS (hm:=List.mem_cons_of_mem _ aU) ?_
  repeat' (first|apply ab|refine ac ?_|apply aA|fail)
  apply aq;apply aB;rfl;rfl
  simp only [bytesV,hrB,cond_true,fo,hs1])
def digV (a:ActD):ByteArray:=bif seqB (bytesV a) ⟨#[]⟩ then ⟨#[]⟩ else shaV (bytesV a)
theorem fE (a:ActD) (hr:a.Rng):Pu Tryz.prog 15 #[itemV 0 a] (fun w=>ActD.at_ w a∧Glob w) (.string (digV a)):=by
 refine aN (args:=[_]) _ Tryz.func15 rfl Tryz.ntmps15 rfl fun av bor w0=>?_
 have hsz:=jV hr
 repeat' (first|apply ab|apply aj|apply ai|refine ae ?_|refine ac ?_|refine aG ?_|refine co ?_|refine aT fun _=>?_|apply ay|apply aA|refine aC (hc:=oc a hr) ?_|refine aC (hc:=qz _ ag) ?_|(refine aO (ht:=?_) (hf:=?_);all_goals (intro hx_;skip)))
 all_goals (apply aq;apply aB;rfl;rfl)
 · simp only [digV,hx_,cond_true]
 · simp only [digV,hx_,cond_false]
structure ActD.Sm (a:ActD):Prop where
 to:a.to.n*16≤140737488351232
 wraps:a.wraps.n*64≤140737488351232
 target:a.target.size≤maxLen
def ActD.re (a:ActD) (s1 s2:SlV):ActD:={ a with to:=s1,wraps:=s2 }
theorem fA {a:ActD} {s1 s2:SlV} (h1:s1.n=a.to.n) (h2:s2.n=a.wraps.n):rightB (a.re s1 s2)=rightB a:=by
 obtain ⟨au,sq,pv,kd,tm,ob,tg,sc,gr,⟨p,n,c⟩,tx,bd,ep,⟨p',n',c'⟩,nn,mm,ee,ss,tl,wl⟩:=a
 obtain ⟨q,m,d⟩:=s1
 obtain ⟨q',m',d'⟩:=s2
 simp only at h1 h2
 subst h1
 subst h2
 simp only [rightB,ruleB,ruleL,usedV,audienceB,rule1B,rule2B,rule3B,rule4B,rule5B,rule6B,objectB,targetB,grantB,labelB,homeB,setupB,wrappedB,placedB,ActD.re]
 rfl
theorem jq {a:ActD} {s1 s2:SlV} (h1:s1.n=a.to.n) (h2:s2.n=a.wraps.n):digV (a.re s1 s2)=digV a:=by
 have hr:=fA h1 h2
 have hc:coreV (a.re s1 s2)=coreV a:=rfl
 have he:(a.re s1 s2).e=a.e:=rfl
 have hs:(a.re s1 s2).s=a.s:=rfl
 simp only [digV,bytesV,actBytes,actCore,hr,hc,he,hs]
def OfActAt (a:ActD) (u:Value) (X:World→Prop):Prop:=∃ a':ActD,u=itemV 0 a'∧digV a'=digV a∧a'.Rng∧∀ w,X w→a'.at_ w
set_option maxRecDepth 20000 in
theorem iz (a:ActD) (hr:a.Rng) (hs:a.Sm):Mk Tryz.prog 16 #[a.v] (ActD.at_ · a) (OfActAt a):=by
 refine bL (args:=[_]) _ Tryz.func16 rfl Tryz.ntmps16 rfl fun av bor w0=>?_
 repeat' (first|apply ab|apply aj|apply ai|refine aM ?_|refine aL ?_|refine aP fun _=>?_|refine aT fun _=>?_|fail)
 refine bN (hc:=eR a.to (strs a.toL) hs.to (fun cs hcs=>by simp only [strs,List.mem_map] at hcs;obtain ⟨x,_,rfl⟩:=hcs;rfl)) (hX:=fun w h=>h.1) fun v1 X1 h1=>?_
 obtain ⟨s1,rfl,hn1,hw1⟩:=h1
 repeat' (first|apply ab|apply aj|apply ai|refine aM ?_|refine aL ?_|refine br ?_|fail)
 refine bN (hc:=js a.wraps (a.wrapsL.map WrapD.cells) hs.wraps (fun cs hcs=>by simp only [List.mem_map] at hcs;obtain ⟨x,_,rfl⟩:=hcs;rfl)) (hX:=fun w h=>h.1.2) fun v2 X2 h2=>?_
 obtain ⟨s2,rfl,hn2,hw2⟩:=h2
 repeat' (first|apply ab|apply aj|apply ai|refine aM ?_|refine aG ?_|refine br ?_|refine aK ?_|apply aA|(refine bV ?_))
 have e1:s1.n=a.to.n:=by rw [hn1,hr.to_len];simp [strs]
 have e2:s2.n=a.wraps.n:=by rw [hn2,hr.wraps_len];simp
 apply aq;refine bT rfl rfl bF ?_
 · rfl
 refine ⟨a.re s1 s2,rfl,jq e1 e2,⟨hr.ints,hr.wints,?_,?_⟩,fun w h=>⟨?_,?_⟩⟩
 · rw [show (a.re s1 s2).to=s1 from rfl,e1,hr.to_len];rfl
 · rw [show (a.re s1 s2).wraps=s2 from rfl,e2,hr.wraps_len];rfl
 · exact hw1 w h.1.1.2
 · exact hw2 w h.1.2
structure ChainD where
 id:ByteArray
 acts:SlV
 keys:SlV
 prev:ByteArray
 gen:Int
 fork:Bool
 actsL:List ActD
def ChainD.cells (c:ChainD):List Value:=[.string c.id,c.acts.v,c.keys.v,.string c.prev,.int .i64 c.gen,.bool c.fork]
def ChainD.v (c:ChainD):Value:=.agg c.cells.toArray
theorem ChainD.v_cells (c:ChainD):c.v.cells.toList=c.cells:=rfl
def ChainD.zero:ChainD:=⟨⟨#[]⟩,⟨none,0,0⟩,⟨none,0,0⟩,⟨#[]⟩,0,false,[]⟩
def Acts (w:World) (s:SlV) (l:List ActD):Prop:=RowsD w 20 s (l.map ActD.cells)∧∀ a∈l,a.at_ w
def ChainD.at_ (w:World) (c:ChainD):Prop:=Acts w c.acts c.actsL
structure ActsOk (l:List ActD):Prop where
 rng:∀ a∈l,a.Rng
 sm:∀ a∈l,a.Sm
theorem Acts.len_ {w:World} {s:SlV} {l:List ActD} (h:Acts w s l):s.n=l.length:=by have:=RowsD.len h.1;simpa using this
theorem Acts.max_ {w:World} {s:SlV} {l:List ActD} (h:Acts w s l):s.n≤maxLen:=Nat.le_trans (RowsD.cap h.1) (RowsD.max h.1)
theorem Acts.some_ {w:World} {s:SlV} {l:List ActD} (h:Acts w s l) (hl:0<l.length):s.p.isSome=true:=by
 have hx:l[0]?=some l[0]:=List.getElem?_eq_getElem hl
 exact (RowsD.row h.1 0 l[0].cells (by simp [hx])).2.1
theorem Acts.get {w:World} {s:SlV} {l:List ActD} (h:Acts w s l) {i:Nat} {x:ActD} (hx:l[i]?=some x):x.cells.length=20∧s.p.isSome=true∧∀ j u,x.cells[j]?=some u→CellAt w s.p (i*20+j) u :=
 RowsD.row h.1 i x.cells (by simp [hx])
def idxV (l:List ActD) (d:ByteArray):Option Nat:=l.findIdx? fun a=>seqB (digV a) d
def idxP (o:Option Nat):Value:=.tuple #[.int .i64 ((o.getD 0:Nat):Int),.bool o.isSome]
def badI (l:List ActD) (d:ByteArray) (k:Nat):Bool :=
 match l[k]? with
 | some x=>seqB (digV x) d
 | none=>false
theorem iS {l:List ActD} {d:ByteArray} {k:Nat} {x:ActD} (h:l[k]?=some x):badI l d k=seqB (digV x) d:=by simp only [badI,h]
theorem q8 {l:List ActD} {d:ByteArray} (i:Upto l.length (badI l d)) (hlt:i.k<l.length) (hb:badI l d i.k=true):idxV l d=some i.k:=by
 rw [idxV,List.findIdx?_eq_some_iff_getElem]
 refine ⟨hlt,?_,fun j hj=>?_⟩
 · rw [iS (List.getElem?_eq_getElem hlt)] at hb;exact hb
 · have:=i.ok j hj
   rw [iS (List.getElem?_eq_getElem ag)] at this
   simp [this]
theorem vd {l:List ActD} {d:ByteArray} (i:Upto l.length (badI l d)) (h:¬ i.k<l.length):idxV l d=none:=by
 rw [idxV,List.findIdx?_eq_none_iff]
 intro x hx
 obtain ⟨k,hk,rfl⟩:=List.getElem_of_mem hx
 have:=i.ok k ag
 rwa [iS (List.getElem?_eq_getElem hk)] at this
theorem lM (c:ChainD) (hc:ActsOk c.actsL) (d:ByteArray):Pu Tryz.prog 14 #[c.v,.string d] (fun w=>c.at_ w∧Glob w) (idxP (idxV c.actsL d)):=by
 refine aN (args:=[_,_]) _ Tryz.func14 rfl Tryz.ntmps14 rfl fun av bor w0=>?_
 refine bt (p:=c.acts.n=c.actsL.length∧c.acts.n≤maxLen∧(0<c.actsL.length→c.acts.p.isSome=true)) (fun w h=>⟨h.1.len_,h.1.max_,h.1.some_⟩) fun ⟨hl,hm,hp⟩=>?_
 simp only [maxLen] at hm
 repeat' (first|apply ab|apply aj|apply ai|refine ae ?_|refine ac ?_|refine aM ?_|refine aL ?_|refine bg ?_|refine aT fun _=>?_|apply aw|fail)
 rename_i b
 refine be (ι:=Upto c.actsL.length (badI c.actsL d)) (fun i=>⟨[(1,.string d),(9,c.acts.v),(10,.int .i64 c.acts.n),(11,.int .i64 i.k)],[],fun w=>c.at_ w∧Glob w⟩) (fun i=>c.actsL.length-i.k) (Upto.zero _ _) (aF ⟨rfl,rfl,rfl,rfl,trivial⟩ (List.Sublist.cons _ (aQ _)) fun _ h=>h) fun i=>?_
 have hik:=i.hk
 repeat' (first|apply ab|apply aj|apply ai|refine ae ?_|refine ac ?_|refine bu ?_|apply ay|apply aw|apply aA|apply aV|(refine aO (ht:=?_) (hf:=?_);all_goals (intro hx_;first|have:=aY hx_|have:=aZ hx_)))
 · have hlt:i.k<c.actsL.length:=by omega
   have hp':=hp ag
   obtain ⟨x,hx⟩:∃ x,c.actsL[i.k]?=some x:=⟨_,List.getElem?_eq_getElem hlt⟩
   have hxm:x∈c.actsL:=List.mem_of_getElem? hx
   repeat' (first|apply ab|apply aj|apply ai|refine ac ?_|refine aG ?_|refine aP fun _=>?_|refine aK ?_|(refine bf (q:=i.k*20) ?_)|(refine bD (cs:=x.cells) (hF:=fun w h=>Acts.get h.1 hx) ?_))
   refine bN (hc:=iz x (hc.rng x hxm) (hc.sm x hxm)) (hX:=fun w h=>h.1.2 x hxm) fun v1 X1 h1=>?_
   obtain ⟨x',rfl,hdig,hr',hat⟩:=h1
   refine aC (hc:=fE x' hr') (hX:=fun w h=>⟨hat w h.2,h.1.2⟩) ?_
   rw [hdig]
   repeat' (first|apply ab|apply aj|apply ai|refine ae ?_|refine ac ?_|refine co ?_|refine bm (h:=?_)|apply ay|apply aA|(refine aO (ht:=?_) (hf:=?_);all_goals (intro hx_;skip)))
   · apply aq;apply cO;rfl;rfl;rfl
     rw [q8 i hlt (by rw [iS hx];assumption)]
     rfl
   · exact ⟨i.next hlt (by rw [iS hx];assumption),(by show c.actsL.length-(i.k+1)<c.actsL.length-i.k;omega),aF ⟨rfl,rfl,rfl,rfl,trivial⟩ (List.nil_sublist _) fun _ h=>h.1⟩
 · apply aq;apply cO;rfl;rfl;rfl
   rw [vd i (by omega)]
   rfl
def Chains (w:World) (s:SlV) (l:List ChainD):Prop:=RowsD w 6 s (l.map ChainD.cells)∧∀ c∈l,c.at_ w
theorem Chains.len_ {w:World} {s:SlV} {l:List ChainD} (h:Chains w s l):s.n=l.length:=by have:=RowsD.len h.1;simpa using this
theorem Chains.max_ {w:World} {s:SlV} {l:List ChainD} (h:Chains w s l):s.n≤maxLen:=Nat.le_trans (RowsD.cap h.1) (RowsD.max h.1)
theorem Chains.some_ {w:World} {s:SlV} {l:List ChainD} (h:Chains w s l) (hl:0<l.length):s.p.isSome=true:=by
 have hx:l[0]?=some l[0]:=List.getElem?_eq_getElem hl
 exact (RowsD.row h.1 0 l[0].cells (by simp [hx])).2.1
theorem Chains.get {w:World} {s:SlV} {l:List ChainD} (h:Chains w s l) {i:Nat} {x:ChainD} (hx:l[i]?=some x):x.cells.length=6∧s.p.isSome=true∧∀ j u,x.cells[j]?=some u→CellAt w s.p (i*6+j) u :=
 RowsD.row h.1 i x.cells (by simp [hx])
def findC (l:List ChainD) (id:ByteArray):Option ChainD:=l.find? fun c=>seqB c.id id
def findP (o:Option ChainD):Value:=.tuple #[(o.getD ChainD.zero).v,.bool o.isSome]
def badF (l:List ChainD) (d:ByteArray) (k:Nat):Bool :=
 match l[k]? with
 | some x=>seqB x.id d
 | none=>false
theorem kf {l:List ChainD} {d:ByteArray} {k:Nat} {x:ChainD} (h:l[k]?=some x):badF l d k=seqB x.id d:=by simp only [badF,h]
theorem tf {α:Type} {p:α→Bool}:∀ (l:List α) (k:Nat) (x:α),l[k]?=some x→p x=true→(∀ j y,j<k→l[j]?=some y→p y=false)→l.find? p=some x
 | [],k,x,h,_,_=>by simp at h
 | a::l,0,x,h,hp,_=>by simp at h;subst h;simp [hp]
 | a::l,k+1,x,h,hp,hb=>by
  have h0:=hb 0 a ag rfl
  simp only [List.find?_cons,h0]
  exact tf l k x (by simpa using h) hp fun j y hj hy=>hb (j+1) y ag (by simpa using hy)
theorem jT {l:List ChainD} {d:ByteArray} (i:Upto l.length (badF l d)) {x:ChainD} (hx:l[i.k]?=some x) (hb:seqB x.id d=true):findC l d=some x :=
 tf l i.k x hx hb fun j y hj hy=>by have:=i.ok j hj;rwa [kf hy] at this
theorem lS {l:List ChainD} {d:ByteArray} (i:Upto l.length (badF l d)) (h:¬ i.k<l.length):findC l d=none:=by
 rw [findC,List.find?_eq_none]
 intro x hx
 obtain ⟨k,hk,rfl⟩:=List.getElem_of_mem hx
 have:=i.ok k ag
 rw [kf (List.getElem?_eq_getElem hk)] at this
 simp [this]
theorem cN {P:Program} {fn:Func} {N t u ty n:Nat} {s:St} {b T:Nat} {cs:List Value} {x:Value} [hI:TyAgg P ty n] (hr:fn.results=#[.cell t ty,.tmp u]) (h:Sy.look s.env t=some (.pointer (some ⟨b,0,none⟩))) (h':Sy.look s.env u=some x) (hm:cel b T cs∈s.loc) (hn:cs.length=n) :
  Res1 P fn N s (.tuple #[.agg cs.toArray,x]):=fun av bor w0 a w ok=>by
 obtain ⟨D,h1,h2,h3⟩:=cW hI.out
 have ht:=ok.env t _ h
 have hu:=ok.env u _ h'
 have:(loadVar ty ⟨b,0,none⟩).run P w=.ok (.agg cs.toArray) w:=by
  cases D<;>simp at h2
  · exact run_loadVar_row w b T ty cs.toArray (0,0) _ (ef ok hm) h1 rfl (by rw [h3];simp [hn])
  · exact run_loadVar_row w b T ty cs.toArray (0,0) _ (ef ok hm) h1 rfl (by rw [h3];simp [hn])
 simp [results,hr,ht,hu,asAddr,this]
theorem te (s:SlV) (l:List ChainD) (id:ByteArray):Pu Tryz.prog 22 #[s.v,.string id] (fun w=>Chains w s l) (findP (findC l id)):=by
 refine aN (args:=[_,_]) _ Tryz.func22 rfl Tryz.ntmps22 rfl fun av bor w0=>?_
 refine bt (p:=s.n=l.length∧s.n≤maxLen∧(0<l.length→s.p.isSome=true)) (fun w h=>⟨h.len_,h.max_,h.some_⟩) fun ⟨hl,hm,hp⟩=>?_
 simp only [maxLen] at hm
 repeat' (first|apply ab|apply aj|apply ai|refine ae ?_|refine ac ?_|refine bg ?_|refine aP fun _=>?_|apply aw|fail)
 rename_i b
 refine be (ι:=Upto l.length (badF l id)) (fun i=>⟨[(1,.string id),(4,.pointer (some ⟨b,0,none⟩)),(8,s.v),(9,.int .i64 s.n),(10,.int .i64 i.k)],[cel b 31 ChainD.zero.cells],fun w=>Chains w s l⟩) (fun i=>l.length-i.k) (Upto.zero _ _) (aF ⟨rfl,rfl,rfl,rfl,rfl,trivial⟩ (aQ _) fun _ h=>h) fun i=>?_
 have hik:=i.hk
 repeat' (first|apply ab|apply aj|apply ai|refine bu ?_|apply ay|apply aw|apply aV|(refine aO (ht:=?_) (hf:=?_);all_goals (intro hx_;first|have:=aY hx_|have:=aZ hx_)))
 · have hlt:i.k<l.length:=by omega
   have hp':=hp ag
   obtain ⟨x,hx⟩:∃ x,l[i.k]?=some x:=⟨_,List.getElem?_eq_getElem hlt⟩
   repeat' (first|apply ab|apply aj|apply ai|refine ae ?_|refine ac ?_|refine aM ?_|refine aL ?_|refine aG ?_|refine co ?_|refine bm (h:=?_)|refine aP fun _=>?_|refine aK ?_|apply ay|apply aA|(refine bf (q:=i.k*6) ?_)|(refine bD (cs:=x.cells) (hF:=fun w h=>Chains.get h hx) ?_)|(refine aO (ht:=?_) (hf:=?_);all_goals (intro hx_;skip)))
   · apply aq;refine cN rfl rfl rfl bF ?_
     · rfl
     rw [jT i hx (by assumption)]
     rfl
   · exact ⟨i.next hlt (by rw [kf hx];assumption),(by show l.length-(i.k+1)<l.length-i.k;omega),aF ⟨rfl,rfl,rfl,rfl,rfl,trivial⟩ (List.Sublist.cons _ (aQ _)) fun _ h=>h⟩
 · repeat' (first|apply ab|refine ac ?_|refine aK ?_|apply aA|(refine bV ?_))
   apply aq;refine cN rfl rfl rfl bF ?_
   · rfl
   rw [lS i (by omega)]
   rfl
end Go.Proofs.YtfnjklhjngphmaaGreatDoor
namespace Go.Proofs.YtfnjklhjngphmaaGreatDoor
open Go Go.Proofs Sy Go.Shelf Go.Maps Go.Sort
theorem sortS_c:SortC Tryz.prog 55 encStr (fun ss=>ss.mergeSort leB) where
 some_:=fun blk off cap ss w h1 h2 h3=>AnyM.slices_Sort_string Tryz.sortS blk off cap ss w h1 h2 h3
 none_:=fun p cap w=>AnyM.slices_Sort_string_none Tryz.sortS p cap w
 len:=fun ss=>List.length_mergeSort ss
theorem sortsS (m:Nat):AnyZ.SortsIn Tryz.prog Tryz.sortedS_ren Fence.wide m :=
  ⟨fun blk off cap ss W hH hblk hsz=>callsIn_wide.2 (AnyM.slices_Sort_string Tryz.sortS blk off cap ss W hH hblk hsz),
   fun p cap W=>callsIn_wide.2 (AnyM.slices_Sort_string_none Tryz.sortS p cap W)⟩
end Go.Proofs.YtfnjklhjngphmaaGreatDoor
namespace Go.Proofs.YtfnjklhjngphmaaGreatDoor.Sy
open Go Go.RowKit Go.MapKept
def mdel {κ β:Type} [KeyT κ]:List (κ×β)→κ→List (κ×β)
 | [],_=>[]
 | (k',v')::r,k=>bif KeyT.eqb k k' then r else (k',v')::mdel r k
theorem iE {κ β:Type} [KeyT κ]:∀ (l:List (κ×β)) (k:κ),mget l k=none→mdel l k=l
 | [],_,_=>rfl
 | (k',v')::r,k,h=>by
  simp only [mget] at h
  simp only [mdel]
  cases hb:KeyT.eqb k k' with
  | true=>rw [hb] at h;simp at h
  | false=>rw [hb] at h;rw [cond_false,iE r k (by simpa using h)]
theorem lI {κ β:Type} [KeyT κ]:∀ (l:List (κ×β)) (k:κ) (j:Nat) (v:β),l[j]?=some (k,v)→(l.map (·.1)).Nodup→mdel l k=l.eraseIdx j
 | [],_,j,v,h,_=>by simp at h
 | (k',v')::r,k,0,v,h,hn=>by
  simp at h
  obtain ⟨rfl,rfl⟩:=h
  have:KeyT.eqb k' k'=true:=(KeyT.eqb_iff k' k').2 rfl
  simp [mdel,this]
 | (k',v')::r,k,j+1,v,h,hn=>by
  have hne:KeyT.eqb k k'=false:=by
   cases hb:KeyT.eqb k k' with
   | false=>rfl
   | true =>
    have e:=(KeyT.eqb_iff k k').1 hb
    subst e
    simp only [List.map_cons,List.nodup_cons] at hn
    exact absurd (List.mem_map.2 ⟨(k,v),List.mem_of_getElem? (by simpa using h),rfl⟩) hn.1
  simp only [mdel,hne,cond_false,List.eraseIdx_cons_succ]
  rw [lI r k j v (by simpa using h) (by simp only [List.map_cons,List.nodup_cons] at hn;exact hn.2)]
theorem Br {κ:Type} [KeyT κ] {a b:κ} (h:KeyT.enc a=KeyT.enc b):a=b:=by
 have h1:=KeyT.same a a
 have h2:=KeyT.same a b
 rw [←h] at h2
 rw [h1] at h2
 have h3:KeyT.eqb a a=true:=(KeyT.eqb_iff a a).2 rfl
 rw [h3] at h2
 exact (KeyT.eqb_iff a b).1 (Option.some.inj h2).symm
theorem jg {α β:Type} (f:α→β):∀ (l:List α) (j:Nat),(l.eraseIdx j).map f=(l.map f).eraseIdx j
 | [],j=>by simp
 | a::l,0=>rfl
 | a::l,j+1=>by simp [jg f l j]
theorem me {κ:Type} [KeyT κ] {P:Program} {w:World} {t et kt ty:TypeId} (ht:mapOf P t=some (et,keyD κ)) {g:Nat} {l:List (κ×Value)} (h:MapAt w g l) (k:κ) :
  ∃ o,(Builtin.delete_ #[t,kt] ty #[.map (some g),KeyT.enc k]).run P w=.ok (.tuple #[]) { w with heap:=w.heap.setIfInBounds g o }∧∀ w':World,w'.heap[g]?=some o→MapAt w' g (mdel l k):=by
 obtain ⟨kt',h1,h2⟩:=gY ht
 obtain ⟨es,clock,hb,hs,hl⟩:=h
 have hk:=KeyT.ok k
 have hnd:(l.map (·.1)).Nodup:=by
  have h3:=hs.2.2
  have h4:es.toList.map (·.key)=l.map fun p=>KeyT.enc p.1:=by
   have:=congrArg (List.map Prod.fst) hl
   simpa [List.map_map,Function.comp_def] using this
  rw [h4] at h3
  unfold List.Nodup at h3 ⊢
  rw [List.pairwise_map] at h3 ⊢
  exact h3.imp fun hab e=>hab (by rw [e])
 rcases iK k es.toList l 0 hl with ⟨g1,g2,g3,g4⟩|⟨j,e,v0,g1,g2,g3,g4,g5⟩
 · refine ⟨.map es clock,?_,fun w' hw=>⟨es,clock,hw,hs,?_⟩⟩
   · simp [Builtin.delete_,run_underlying h1,MapKept.run_getObj_map hb,MapKept.run_checkKey h2 hk,MapKept.run_findKey h2 g1,MapKept.run_setObj_map _ hb,Result.andThen]
   · rw [iE l k g2]
     exact hl
 · have hj:es[j]?=some e:=by simpa using g2
   have hlj:l[j]?=some (k,v0):=by
    have h3:=congrArg (fun q=>q[j]?) hl
    simp only [List.getElem?_map,Array.getElem?_toList,hj,Option.map_some] at h3
    cases hq:l[j]? with
    | none=>rw [hq] at h3;simp at h3
    | some p =>
     rw [hq] at h3
     simp only [Option.map_some,Option.some.injEq,Prod.mk.injEq] at h3
     have e1:p.1=k:=Br (h3.1.symm.trans g3)
     have e2:mget l k=some p.2:=by
      have key:∀ (l:List (κ×Value)) (j:Nat) (p:κ×Value),l[j]?=some p→(l.map (·.1)).Nodup→mget l p.1=some p.2:=by
       intro l
       induction l with
       | nil=>intro j p h;simp at h
       | cons a r ih =>
        intro j p h hn
        cases j with
        | zero =>
         simp at h
         subst h
         have:KeyT.eqb a.1 a.1=true:=(KeyT.eqb_iff _ _).2 rfl
         simp [mget,this]
        | succ j =>
         simp only [List.map_cons,List.nodup_cons] at hn
         have hne:KeyT.eqb p.1 a.1=false:=by
          cases hb:KeyT.eqb p.1 a.1 with
          | false=>rfl
          | true =>
           have e:=(KeyT.eqb_iff _ _).1 hb
           exact absurd (List.mem_map.2 ⟨p,List.mem_of_getElem? (by simpa using h),e⟩) hn.1
         simp only [mget,hne,cond_false]
         exact ih j p (by simpa using h) hn.2
      have:=key l j p hq hnd
      rwa [e1] at this
     rw [g4] at e2
     obtain ⟨p1,p2⟩:=p
     simp only at e1 e2
     rw [e1,Option.some.inj e2]
   refine ⟨.map (es.eraseIdxIfInBounds j) clock,?_,fun w' hw=>⟨_,_,hw,stamped_erase hs j,?_⟩⟩
   · simp [Builtin.delete_,run_underlying h1,MapKept.run_getObj_map hb,MapKept.run_checkKey h2 hk,MapKept.run_findKey h2 g1,MapKept.run_setObj_map _ hb,Result.andThen]
   · rw [lI l k j v0 hlj hnd]
     have hlt:j<es.size:=(Array.getElem?_eq_some_iff.1 hj).1
     have e1:(es.eraseIdxIfInBounds j).toList=es.toList.eraseIdx j:=by simp [Array.eraseIdxIfInBounds,hlt]
     rw [e1,jg,hl,←jg]
section
variable {P:Program} {N:Nat} {av bor:List Nat} {w0:World} {ops:Array Oper} {rest:List Oper} {k:St→Prop} {E:Env} {loc loc':List Res} {X:World→Prop}
variable {d:Option Tmp} {ty:TypeId} {pos:String} {af:Array Edge} {g:Option (Nat×Bool)} {bb want:Bool} {K:Exit→St→Prop}
theorem ut {κ:Type} [KeyT κ] {t et kt:Nat} [ht:TyMap P t et (keyD κ)] {m x:Operand} {q:Nat} {l:List (κ×Value)} {kk:κ} (h:Sw P N av bor w0 ops rest ⟨putE E d (.tuple #[]),loc',X⟩ k) (hm:ev E m=some (.map (some q)):=by rfl) (hx:ev E x=some (KeyT.enc kk):=by rfl) (hA:At (mapr q l) (mapr q (mdel l kk)) loc loc':=by (repeat (first|exact At.here _|apply At.there))) (hg:gdB ops E g=some (bb,want):=by rfl) (hb:bb=want:=by exact aR) (hd:inB N d=true:=by rfl):Sw P N av bor w0 ops (⟨d,.call ⟨.builtin .delete,#[m,x],#[t,kt]⟩,ty,pos,af,g⟩::rest) ⟨E,loc,X⟩ k:=Sw.mk fun a w ok=>by
 simp only [wpList]
 rw [cj ok (o:=⟨d,.call ⟨.builtin .delete,#[m,x],#[t,kt]⟩,ty,pos,af,g⟩) hg]
 subst hb
 simp only [beq_self_eq_true,if_true]
 left
 unfold Oper.wp
 have hmm:MapAt w q l:=(ok.gam.here _ hA.mem).now
 obtain ⟨o,hr,ho⟩:=me (P:=P) (kt:=kt) (ty:=ty) ht.out hmm kk
 obtain ⟨es,c,hb',_⟩:=hmm
 have hs:=heap_set (o':=o) hb'
 have ok':Ok N av bor w0 ⟨E,loc',X⟩ a { w with heap:=w.heap.setIfInBounds q o }:=(ok.via fun M G=>G.turn (hA.app M) rfl rfl rfl (by simp) (fun i hi=>hs.2 i hi) fun w2 h2=>ho w2 (h2.trans hs.1))
 have hr':(execOp a.eval ⟨d,.call ⟨.builtin .delete,#[m,x],#[t,kt]⟩,ty,pos,af,g⟩).run P w=.ok (.value (.tuple #[])) { w with heap:=w.heap.setIfInBounds q o }:=by
  simp only [execOp,resolve,invoke,builtin,Sem.run_bind,Sem.run_pure,Result.andThen_ok,List.map_toArray,List.map_cons,List.map_nil,ok.eval (st:=⟨E,loc,X⟩) hm,ok.eval (st:=⟨E,loc,X⟩) hx,hr]
 rw [hr']
 exact h.run _ _ (di d _▸ok'.put hd _)
theorem iU {st:St} {x y:Operand} {t e size b':Nat} [hI:TySl P t e size b'] {p:Option Addr} {m c:Nat} {kk:IntKind} {i:Int} (hx:ev st.env x=some (.slice p m c)) (hy:ev st.env y=some (.int kk i)) (h0:0≤i) (h1:i≤(c:Int)) :
  Sy.Yields P N av bor w0 st (.slice t x none (some y) none) ty (.slice p i.toNat c):=Sy.Yields.mk fun A w ok d pos af g=>by
 obtain ⟨hu,inf,hi,hs,hb⟩:=cM hI.out
 have hz:=run_sizeOf (P:=P) (w:=w) (t:=e) (n:=size) (by simp [hi,hs])
 have hadd:∀ a:Addr,a.add 0=a:=fun a=>by simp [Addr.add]
 have hmap:p.map (fun a=>a.add 0)=p:=by cases p<;>simp [hadd]
 simp [execOp,ok.eval hx,ok.eval hy,Instr.sliceAt,run_underlying hu,Instr.slice,Instr.sliceBounds,run_sliceBound,h0,h1,hz,hmap]
theorem zU {n:Nat} {x y:Operand} {t e size b':Nat} [hI:TySl P t e size b'] {p:Option Addr} {m c:Nat} {kk:IntKind} {i:Int} (h:Sw P N av bor w0 ops rest ⟨(n,.slice p i.toNat c)::E,loc,X⟩ k) (hx:ev E x=some (.slice p m c):=by rfl) (hy:ev E y=some (.int kk i):=by rfl) (h0:0≤i:=by omega) (h1:i≤(c:Int)) (hg:gdB ops E g=some (bb,want):=by rfl) (hbb:bb=want:=by exact aR) (hd:Nat.blt n N=true:=by rfl):Sw P N av bor w0 ops (⟨some n,.slice t x none (some y) none,ty,pos,af,g⟩::rest) ⟨E,loc,X⟩ k:=ax (iU hx hy h0 h1) hg hbb hd h
def nullR:Res:=⟨[],fun _=>True⟩
theorem Gam.null {w:World} (G:Gam av bor w0 loc X w):Gam av bor w0 (nullR::loc) X w:=by
 have e1:fps (nullR::loc)=fps loc:=by simp [fps,nullR]
 refine ⟨G.fr,G.avb,by rw [e1];exact G.nodup,by rw [e1];exact G.own,fun x hx=>?_,by rw [e1];exact G.keep⟩
 rcases List.mem_cons.1 hx with rfl|hx
 · exact fun _ _=>trivial
 · exact G.here x hx
theorem fb {x:Operand} {xs:List Operand} {ats:Array TypeId} {f:FuncId} {first caps:Array Value} {args all:List Value} {X1:World→Prop} {Post:Value→List Res→(World→Prop)→Prop} {r:Res} (h:∀ v R X',Post v R X'→Sw P N av bor w0 ops rest ⟨putE E d v,R++loc',fun w=>X w∧X' w⟩ k) (hx:ev E x=some (.func (.func f) first caps):=by rfl) (ha:evs E xs=some args:=by rfl) (hall:first.toList++args++caps.toList=all:=by rfl) (hg:gdB ops E g=some (bb,want):=by rfl) (hb:bb=want:=by exact aR) (hd:inB N d=true:=by rfl) (hf:FnBody P f:=by infer_instance) (hc:Ct P f all.toArray [r] X1 Post) (hA:At r nullR loc loc':=by (repeat (first|exact At.here _|apply At.there))) (hX:∀ w,X w→X1 w:=by (first|exact fun _ _=>trivial|exact fun _ h=>h|exact fun _ h=>h.1|exact fun _ h=>h.2)) :
  Sw P N av bor w0 ops (⟨d,.call ⟨.value x,xs.toArray,ats⟩,ty,pos,af,g⟩::rest) ⟨E,loc,X⟩ k:=by
 obtain ⟨f',h1,h2⟩:=hA.perm
 refine eu h1 ?_
 refine dj (pre:=[r]) (fr:=f') (Post:=Post) hx ha hall hg hb hd hf hc hX fun u R X' hp=>?_
 refine r8 (fun a w ok=>?_) (h u R X' hp)
 refine ok.via fun M G=>?_
 have G1:=(G.null).perm ((List.perm_middle (l₁:=R) (a:=nullR) (l₂:=f')).symm.append_right M)
 exact G1.perm (((List.Perm.refl R).append h2.symm).append_right M)
theorem AE {E':Env} {l':List Res} {X':World→Prop} (he:sub E E') (hl:loc.Perm l') (hx:∀ w,X w→X' w):∀ a w,Ok N av bor w0 ⟨E,loc,X⟩ a w→Ok N av bor w0 ⟨E',l',X'⟩ a w:=fun a w ok =>
 aF he (aQ _) hx a w (ok.via fun M G=>G.perm (hl.append_right M))
theorem Bv {c:Code} {l:List Res} (hs:l.Sublist loc) (h:Cw P N av bor w0 c ⟨E,l,X⟩ K):Cw P N av bor w0 c ⟨E,loc,X⟩ K:=Cw.mk fun a w ok=>h.run a w (ok.via fun M G=>G.drop (hs.append_right M))
end
theorem dD {P:Program} {f:FuncId} {fn:Func} {c:Code} {args:List Value} {pre:List Res} {X:World→Prop} {Post:Value→List Res→Prop} (N:Nat)
  (hf:P.funcs[f]?=some fn) (hb:fn.body=some c) (hN:fn.ntmps=N) (hn:Nat.ble args.length N=true)
  (h:∀ av bor w0,Cw P N av bor w0 c ⟨params 0 args,pre,X⟩ (ends P fn N fun u R _=>∃ R',R'.Sublist R∧Post u R')):Ct P f args.toArray pre X fun u R _=>Post u R:=Ct.mk fun w av G=>by
 have h1:=(cB (P:=P) (Post:=fun u R _=>∃ R',R'.Sublist R∧Post u R') N hf hb hN hn h).run w av G
 refine h1.mono fun e w' ⟨u,R,X',he,⟨R',hs,hp⟩,G'⟩=>⟨u,R',X',he,hp,G'.drop hs⟩
end Go.Proofs.YtfnjklhjngphmaaGreatDoor.Sy
namespace Go.Proofs.YtfnjklhjngphmaaGreatDoor
open Go Go.Proofs Sy
instance:TyMap Tryz.prog 318 4 (keyD ByteArray):=⟨ar⟩
def setM (ks:List ByteArray):List (ByteArray×Value):=ks.map fun k=>(k,.bool true)
def sput:List ByteArray→ByteArray→List ByteArray
 | [],k=>[k]
 | k'::r,k=>bif KeyT.eqb k k' then k::r else k'::sput r k
def sdel:List ByteArray→ByteArray→List ByteArray
 | [],_=>[]
 | k'::r,k=>bif KeyT.eqb k k' then r else k'::sdel r k
theorem pE:∀ (ks:List ByteArray) (k:ByteArray),mput (setM ks) k (.bool true)=setM (sput ks k)
 | [],k=>rfl
 | k'::r,k=>by
  have ih:=pE r k
  simp only [setM] at ih
  simp only [setM,List.map_cons,mput,sput]
  cases KeyT.eqb k k' with
  | true=>rfl
  | false=>simp only [cond_false,ih,List.map_cons]
theorem pJ:∀ (ks:List ByteArray) (k:ByteArray),mdel (setM ks) k=setM (sdel ks k)
 | [],k=>rfl
 | k'::r,k=>by
  have ih:=pJ r k
  simp only [setM] at ih
  simp only [setM,List.map_cons,mdel,sdel]
  cases KeyT.eqb k k' with
  | true=>rfl
  | false=>simp only [cond_false,ih,List.map_cons]
theorem uH (q:Nat) (ks:List ByteArray) (k:ByteArray):Ct Tryz.prog 339 #[.map (some q),.string k] [mapr q (setM ks)] (fun _=>True) fun u R _=>u=.tuple #[]∧R=[mapr q (setM (sput ks k))]:=by
 refine cB (args:=[_,_]) _ Tryz.func339 rfl Tryz.ntmps339 rfl fun av bor w0=>?_
 repeat' (first|apply ab|apply ai|refine ae ?_|(refine fu (κ:=ByteArray) (kk:=k) (l:=setM ks) (hA:=At.here _) ?_))
 rw [pE]
 repeat' (first|apply ab|fail)
 exact cb (bP rfl) ⟨rfl,rfl⟩
theorem mC (q:Nat) (ks:List ByteArray) (k:ByteArray):Ct Tryz.prog 340 #[.map (some q),.string k] [mapr q (setM ks)] (fun _=>True) fun u R _=>u=.tuple #[]∧R=[mapr q (setM (sdel ks k))]:=by
 refine cB (args:=[_,_]) _ Tryz.func340 rfl Tryz.ntmps340 rfl fun av bor w0=>?_
 repeat' (first|apply ab|apply ai|refine ae ?_|(refine ut (κ:=ByteArray) (kk:=k) (l:=setM ks) (hA:=At.here _) ?_))
 rw [pJ]
 repeat' (first|apply ab|fail)
 exact cb (bP rfl) ⟨rfl,rfl⟩
theorem uv (l:List ByteArray):l.map encB=(strs l).flatten:=by
 induction l with
 | nil=>rfl
 | cons a l ih =>
  simp only [strs,List.map_cons,List.flatten_cons] at ih ⊢
  rw [ih]
  rfl
theorem eW (l:List ByteArray):∀ r∈strs l,r.length=1:=by
 intro r hr
 simp only [strs,List.mem_map] at hr
 obtain ⟨x,_,rfl⟩:=hr
 rfl
theorem il {w:World} {e n c:Nat} {A:Option Addr} {l:List ByteArray} (h:ORow w e 1 (.slice A n c) n (l.map encB)) (hn:n=l.length):Strs w ⟨A,n,c⟩ l:=by
 rw [uv] at h
 exact bJ h (by simpa [strs] using hn) (eW l)
structure TieS where
 f:List ByteArray
 a:List ByteArray
 b:List ByteArray
 m:List ByteArray
def setsV (q1 q2 q3 q4:Nat):Value:=.agg #[.map (some q1),.map (some q2),.map (some q3),.map (some q4)]
def setsR (q1 q2 q3 q4:Nat) (t:TieS):List Res:=[mapr q4 (setM t.m),mapr q3 (setM t.b),mapr q2 (setM t.a),mapr q1 (setM t.f)]
def undoT (t:TieS) (x:ActD):TieS :=
 bif decide (x.kind=7) then { t with f:=sdel t.f x.target } else bif decide (x.kind=8) then { t with a:=sdel t.a x.target } else bif decide (x.kind=10) then { t with b:=sdel t.b x.target } else bif decide (x.kind=11) then { t with m:=sdel t.m x.target } else t
theorem nB (q1 q2 q3 q4:Nat) (t:TieS) (x:ActD):Ct Tryz.prog 341 #[setsV q1 q2 q3 q4,x.v] (setsR q1 q2 q3 q4 t) (fun _=>True) fun u R _=>u=.tuple #[]∧R=setsR q1 q2 q3 q4 (undoT t x):=by
 refine dD (args:=[_,_]) (Post:=fun u R=>u=.tuple #[]∧R=setsR q1 q2 q3 q4 (undoT t x)) _ Tryz.func341 rfl Tryz.ntmps341 rfl fun av bor w0=>?_
 unfold setsR
 repeat' (first|apply ab|apply aj|apply ai|refine ac ?_|refine aM ?_|refine aL ?_|refine bR ?_|refine aT fun _=>?_|apply ay|apply aw|(refine fa (hc:=mC _ _ _) (hX:=fun _ _=>trivial) ?_)|(refine aO (ht:=?_) (hf:=?_);all_goals (intro hx_;first|have:=aY hx_|have:=aZ hx_)))
 all_goals (
  refine cb (bP rfl) ⟨_,List.Sublist.cons _ (List.Sublist.cons _ (aQ _)),rfl,?_⟩
  simp only [undoT, *,Int.reduceEq,decide_true,decide_false,cond_true,cond_false,Bool.and_true,Bool.true_and,Bool.and_false,Bool.false_and,Bool.not_true,Bool.not_false,Bool.or_true,Bool.true_or,Bool.or_false,Bool.false_or])
def limN (n:Int) (len:Nat):Nat:=(if (len:Int)<(if n<0 then 0 else n) then (len:Int) else (if n<0 then 0 else n)).toNat
theorem ew (n:Int) (len:Nat):limN n len=min n.toNat len:=by
 unfold limN
 split<;>split<;>omega
def stepT (l:List ActD) (i:Nat) (t:TieS) (x:ActD):TieS :=
 bif decide (x.kind=7) then { t with f:=sput t.f x.target } else bif decide (x.kind=8) then { t with a:=sput t.a x.target } else bif decide (x.kind=9) then { t with a:=sdel t.a x.target }
 else bif decide (x.kind=10) then { t with b:=sput t.b x.target,f:=sdel t.f x.target,a:=sdel t.a x.target } else bif decide (x.kind=11) then { t with m:=sput t.m x.target }
 else bif decide (x.kind=6) then (match idxV l x.object with|some j=>bif decide ((j:Int)<(i:Int)) then undoT t (l.getD j ActD.zero) else t|none=>t) else t
def tieF (l:List ActD):Nat→TieS
 | 0=>⟨[],[],[],[]⟩
 | i+1=>stepT l i (tieF l i) (l.getD i ActD.zero)
def tieV (l:List ActD) (n:Int):TieS:=tieF l (limN n l.length)
theorem iI {l:List ActD} {d:ByteArray} {j:Nat} (h:idxV l d=some j):j<l.length:=by
 rw [idxV,List.findIdx?_eq_some_iff_getElem] at h
 exact h.1
theorem Acts.cap_ {w:World} {s:SlV} {l:List ActD} (h:Acts w s l):s.n≤s.c:=RowsD.cap h.1
theorem B6 (c:ChainD) (hc:ActsOk c.actsL) (n:Int):Ct Tryz.prog 310 #[c.v,.int .i64 n] [] (fun w=>c.at_ w∧Glob w) fun u R _=>∃ q1 q2 q3 q4,u=setsV q1 q2 q3 q4∧R=setsR q1 q2 q3 q4 (tieV c.actsL n):=by
 refine dD (args:=[_,_]) (Post:=fun u R=>∃ q1 q2 q3 q4,u=setsV q1 q2 q3 q4∧R=setsR q1 q2 q3 q4 (tieV c.actsL n)) _ Tryz.func310 rfl Tryz.ntmps310 rfl fun av bor w0=>?_
 refine bt (p:=c.acts.n=c.actsL.length∧c.acts.n≤maxLen∧(0<c.actsL.length→c.acts.p.isSome=true)∧c.acts.n≤c.acts.c) (fun w h=>⟨h.1.len_,h.1.max_,h.1.some_,h.1.cap_⟩) fun ⟨hl,hm,hp,hcap⟩=>?_
 simp only [maxLen] at hm
 have hlim:=ew n c.acts.n
 have hlN:limN n c.acts.n≤c.acts.n:=by omega
 repeat' (first|apply ab|apply aj|apply ai|refine ae ?_|refine ac ?_|refine aM ?_|refine aL ?_|refine bg ?_|refine aP fun _=>?_|refine aT fun _=>?_|refine aK ?_|refine wZ ?_|refine xa ?_|(refine eV ByteArray (h:=fun _=>?_))|(refine bV ?_))
 refine zU (h0:=by split<;>split<;>omega) (h1:=by split<;>split<;>omega) ?_
 repeat' (first|apply ab|refine ae ?_|refine bg ?_|apply aw|fail)
 rename_i b2 b4 q1 q2 q3 q4 b5
 refine be (ι:=Kth (limN n c.acts.n)) (fun i=>⟨[(2,.pointer (some ⟨b2,0,none⟩)),(4,.pointer (some ⟨b4,0,none⟩)),(5,.pointer (some ⟨b5,0,none⟩)),(24,.slice c.acts.p (limN n c.acts.n) c.acts.c),(25,.int .i64 (limN n c.acts.n)),(26,.int .i64 i.k)],
  setsR q1 q2 q3 q4 (tieF c.actsL i.k)++[cel b5 320 (setsV q1 q2 q3 q4).cells.toList,cel b4 320 [.map none,.map none,.map none,.map none],cel b2 31 c.cells],fun w=>c.at_ w∧Glob w⟩) (fun i=>limN n c.acts.n-i.k) ⟨0,Nat.zero_le _⟩
  (AE ⟨rfl,rfl,rfl,rfl,rfl,rfl,trivial⟩ (List.perm_middle (l₁:=setsR q1 q2 q3 q4 ⟨[],[],[],[]⟩) (a:=cel b5 320 (setsV q1 q2 q3 q4).cells.toList) (l₂:=[cel b4 320 [.map none,.map none,.map none,.map none],cel b2 31 c.cells])).symm fun _ h=>h) fun i=>?_
 have hik:=i.hk
 repeat' (first|apply ab|apply aj|apply ai|refine ae ?_|refine aG ?_|refine bu ?_|refine aK ?_|apply ay|apply aw|apply aA|apply aV|(refine aO (ht:=?_) (hf:=?_);all_goals (intro hx_;first|have:=aY hx_|have:=aZ hx_)))
 · have hlt:i.k<limN n c.acts.n:=by omega
   have hltL:i.k<c.actsL.length:=by omega
   have hp':=hp ag
   obtain ⟨x,hx⟩:∃ x,c.actsL[i.k]?=some x:=⟨_,List.getElem?_eq_getElem hltL⟩
   have hstep:tieF c.actsL (i.k+1)=stepT c.actsL i.k (tieF c.actsL i.k) x:=by simp only [tieF,List.getD_eq_getElem?_getD,hx,Option.getD_some]
   generalize ht:tieF c.actsL i.k=t at *
   unfold setsR
   repeat' (first|apply ab|apply aj|apply ai|refine ae ?_|refine ac ?_|refine aM ?_|refine aL ?_|refine aG ?_|refine bR ?_|refine bm (h:=?_)|refine aP fun _=>?_|refine aK ?_|apply ay|apply aw|(refine bf (q:=i.k*20) ?_)|(refine bD (cs:=x.cells) (hF:=fun w h=>Acts.get h.1 hx) ?_)|(refine fa (hc:=uH _ _ _) (hX:=fun _ _=>trivial) ?_)|(refine fa (hc:=mC _ _ _) (hX:=fun _ _=>trivial) ?_)|(refine aO (ht:=?_) (hf:=?_);all_goals (intro hx_;first|have:=aY hx_|have:=aZ hx_)))
   all_goals first
    | exact ⟨(⟨i.k+1,hlt⟩:Kth (limN n c.acts.n)),(by show limN n c.acts.n-(i.k+1)<limN n c.acts.n-i.k;omega),aF ⟨rfl,rfl,rfl,rfl,rfl,rfl,trivial⟩ (List.Sublist.cons _ (by
      rw [hstep]
      simp only [stepT,setsR, *,decide_true,decide_false,cond_true,cond_false,Bool.and_true,Bool.true_and,Bool.and_false,Bool.false_and,Bool.not_true,Bool.not_false,Bool.or_true,Bool.true_or,Bool.or_false,Bool.false_or]
      exact aQ _)) fun _ h=>h⟩
    | skip
   rcases ho:idxV c.actsL x.object with _|j
   · have hip:Pu Tryz.prog 14 #[c.v,.string x.object] (fun w=>c.at_ w∧Glob w) (.tuple #[.int .i64 0,.bool false]):=by have:=lM c hc x.object;rwa [ho] at this
     repeat' (first|apply ab|apply aj|apply ai|refine ae ?_|refine ac ?_|refine aH ?_|refine bC ?_|refine bm (h:=?_)|refine aW ?_|refine aD ?_|apply ay|refine aC (hc:=hip) ?_|fail)
     exact ⟨(⟨i.k+1,hlt⟩:Kth (limN n c.acts.n)),(by show limN n c.acts.n-(i.k+1)<limN n c.acts.n-i.k;omega),aF ⟨rfl,rfl,rfl,rfl,rfl,rfl,trivial⟩ (List.Sublist.cons _ (by
       rw [hstep]
       simp only [stepT,setsR, *,decide_true,decide_false,cond_true,cond_false,Bool.and_true,Bool.true_and,Bool.and_false,Bool.false_and,Bool.not_true,Bool.not_false,Bool.or_true,Bool.true_or,Bool.or_false,Bool.false_or]
       exact aQ _)) fun _ h=>h⟩
   · have hip:Pu Tryz.prog 14 #[c.v,.string x.object] (fun w=>c.at_ w∧Glob w) (.tuple #[.int .i64 (j:Int),.bool true]):=by have:=lM c hc x.object;rwa [ho] at this
     have hjl:=iI ho
     obtain ⟨y,hy⟩:∃ y,c.actsL[j]?=some y:=⟨_,List.getElem?_eq_getElem hjl⟩
     have hgy:c.actsL.getD j ActD.zero=y:=by simp [hy]
     repeat' (first|apply ab|apply aj|apply ai|refine ae ?_|refine ac ?_|refine aJ ?_|refine bu ?_|refine bC ?_|refine bm (h:=?_)|apply ay|refine aC (hc:=hip) ?_|(refine aO (ht:=?_) (hf:=?_);all_goals (intro hx_;first|have:=aY hx_|have:=aZ hx_)))
     · refine Bv (List.Sublist.cons _ (aQ _)) ?_
       (refine bo [] (fun _=>True) ar ?_)
       all_goals refine aa 1 ?_
       all_goals refine aa 3 ?_
       all_goals (refine bS 0 2 (h:=?_) (h':=?_);(focus (((refine aG ?_);apply ab;refine ak ?_);all_goals ((refine ao 2 ?_;(refine aL ?_);apply ab;refine ak ?_);all_goals (refine aa 4 (hy:=by (apply bp (q:=j*20);rfl;rfl;omega;omega;assumption;omega)) ?_);all_goals (refine ao 5 ?_;(refine bD (cs:=y.cells) (hF:=fun w h=>Acts.get h.1 hy) ?_);apply ab;refine ak ?_);all_goals (refine ao 6 ?_;(refine dj (pre:=setsR q1 q2 q3 q4 t) (fr:=[cel b5 320 (setsV q1 q2 q3 q4).cells.toList,cel b4 320 [.map none,.map none,.map none,.map none],cel b2 31 c.cells]) (hc:=nB q1 q2 q3 q4 t y) (hX:=fun _ _=>trivial) (h:=?_);rintro _ _ X' ⟨rfl,rfl⟩);apply ab;refine ak ?_);all_goals (refine aI ?_))));rotate_right;(focus (((refine aL ?_);apply ab;refine ak ?_);all_goals ((refine aa 4 (hy:=by (apply bp (q:=j*20);rfl;rfl;omega;omega;assumption;omega)) ?_);all_goals (refine bS 0 5 (h:=?_) (h':=?_);(focus (((refine aG ?_);apply ab;refine ak ?_);all_goals ((refine ao 5 ?_;(refine bD (cs:=y.cells) (hF:=fun w h=>Acts.get h.1 hy) ?_);apply ab;refine ak ?_);all_goals (refine ao 6 ?_;(refine dj (pre:=setsR q1 q2 q3 q4 t) (fr:=[cel b5 320 (setsV q1 q2 q3 q4).cells.toList,cel b4 320 [.map none,.map none,.map none,.map none],cel b2 31 c.cells]) (hc:=nB q1 q2 q3 q4 t y) (hX:=fun _ _=>trivial) (h:=?_);rintro _ _ X' ⟨rfl,rfl⟩);apply ab;refine ak ?_);all_goals (refine aI ?_))));rotate_right;(focus (((refine bD (cs:=y.cells) (hF:=fun w h=>Acts.get h.1 hy) ?_);apply ab;refine ak ?_);all_goals ((refine ao 0 ?_;(refine aG ?_);apply ab;refine ak ?_);all_goals (refine ao 6 ?_;(refine dj (pre:=setsR q1 q2 q3 q4 t) (fr:=[cel b5 320 (setsV q1 q2 q3 q4).cells.toList,cel b4 320 [.map none,.map none,.map none,.map none],cel b2 31 c.cells]) (hc:=nB q1 q2 q3 q4 t y) (hX:=fun _ _=>trivial) (h:=?_);rintro _ _ X' ⟨rfl,rfl⟩);apply ab;refine ak ?_);all_goals (refine aI ?_)))))))))
       all_goals (repeat' (first|apply ab|apply ai|refine ae ?_|refine bm (h:=?_)|fail))
       all_goals exact ⟨(⟨i.k+1,hlt⟩:Kth (limN n c.acts.n)),(by show limN n c.acts.n-(i.k+1)<limN n c.acts.n-i.k;omega),aF ⟨rfl,rfl,rfl,rfl,rfl,rfl,trivial⟩ (by
        rw [hstep]
        simp only [stepT, *,decide_true,decide_false,cond_true,cond_false,Bool.and_true,Bool.true_and,Bool.and_false,Bool.false_and,Bool.not_true,Bool.not_false,Bool.or_true,Bool.true_or,Bool.or_false,Bool.false_or]
        exact aQ _) fun _ h=>h.1⟩
     · exact ⟨(⟨i.k+1,hlt⟩:Kth (limN n c.acts.n)),(by show limN n c.acts.n-(i.k+1)<limN n c.acts.n-i.k;omega),aF ⟨rfl,rfl,rfl,rfl,rfl,rfl,trivial⟩ (List.Sublist.cons _ (by
        rw [hstep]
        simp only [stepT,setsR, *,decide_true,decide_false,cond_true,cond_false,Bool.and_true,Bool.true_and,Bool.and_false,Bool.false_and,Bool.not_true,Bool.not_false,Bool.or_true,Bool.true_or,Bool.or_false,Bool.false_or]
        exact aQ _)) fun _ h=>h⟩
 have hk:i.k=limN n c.acts.n:=by omega
 refine aq (bT rfl rfl bF (by rfl)) ⟨setsR q1 q2 q3 q4 (tieF c.actsL i.k),List.Sublist.cons_cons _ (List.Sublist.cons_cons _ (List.Sublist.cons_cons _ (List.Sublist.cons_cons _ (List.nil_sublist _)))),q1,q2,q3,q4,rfl,?_⟩
 rw [tieV,←hl,hk]
structure LBnd (k:Nat) (l:List ByteArray):Prop where
 len:l.length≤k
 size:∀ x∈l,x.size≤maxLen
theorem LBnd.mono {k k':Nat} {l:List ByteArray} (h:LBnd k l) (hk:k≤k'):LBnd k' l:=⟨Nat.le_trans h.len hk,h.size⟩
theorem gm {k:Nat} {x:ByteArray} (hx:x.size≤maxLen):∀ {l:List ByteArray},LBnd k l→LBnd (k+1) (sput l x)
 | [],_=>⟨by simp [sput],by simp [sput,hx]⟩
 | a::r,h=>by
  simp only [sput]
  cases KeyT.eqb x a with
  | true=>exact ⟨by have:=h.len;simp at this ⊢;omega,fun y hy=>by rcases List.mem_cons.1 hy with rfl|hy;exact hx;exact h.size y (List.mem_cons_of_mem _ hy)⟩
  | false =>
   cases k with
   | zero=>have:=h.len;simp at this
   | succ k =>
    have ih:=gm (k:=k) hx (l:=r) ⟨by have:=h.len;simp at this;omega,fun y hy=>h.size y (List.mem_cons_of_mem _ hy)⟩
    exact ⟨by have:=ih.len;simp;omega,fun y hy=>by rcases List.mem_cons.1 hy with rfl|hy;exact h.size _ aU;exact ih.size y hy⟩
theorem eE {k:Nat} {x:ByteArray}:∀ {l:List ByteArray},LBnd k l→LBnd k (sdel l x)
 | [],h=>h
 | a::r,h=>by
  simp only [sdel]
  cases KeyT.eqb x a with
  | true=>exact (show LBnd k r from ⟨by have:=h.len;simp at this;omega,fun y hy=>h.size y (List.mem_cons_of_mem _ hy)⟩)
  | false =>
   cases k with
   | zero=>have:=h.len;simp at this
   | succ k =>
    have ih:=eE (k:=k) (x:=x) (l:=r) ⟨by have:=h.len;simp at this;omega,fun y hy=>h.size y (List.mem_cons_of_mem _ hy)⟩
    exact ⟨by have:=ih.len;simp;omega,fun y hy=>by rcases List.mem_cons.1 hy with rfl|hy;exact h.size _ aU;exact ih.size y hy⟩
structure TBnd (k:Nat) (t:TieS):Prop where
 f:LBnd k t.f
 a:LBnd k t.a
 b:LBnd k t.b
 m:LBnd k t.m
theorem TBnd.mono {k k':Nat} {t:TieS} (h:TBnd k t) (hk:k≤k'):TBnd k' t:=⟨h.f.mono hk,h.a.mono hk,h.b.mono hk,h.m.mono hk⟩
theorem tE {k:Nat} {t:TieS} (h:TBnd k t) (x:ActD):TBnd k (undoT t x):=by
 unfold undoT
 cases decide (x.kind=7)<;>cases decide (x.kind=8)<;>cases decide (x.kind=10)<;>cases decide (x.kind=11)
 all_goals first
  | exact ⟨eE h.f,h.a,h.b,h.m⟩
  | exact ⟨h.f,eE h.a,h.b,h.m⟩
  | exact ⟨h.f,h.a,eE h.b,h.m⟩
  | exact ⟨h.f,h.a,h.b,eE h.m⟩
  | exact h
theorem uw {k i:Nat} {l:List ActD} {t:TieS} (h:TBnd k t) {x:ActD} (hx:x.target.size≤maxLen):TBnd (k+1) (stepT l i t x):=by
  have h':=h.mono (Nat.le_succ k)
  unfold stepT
  cases decide (x.kind=7)<;>cases decide (x.kind=8)<;>cases decide (x.kind=9)<;>cases decide (x.kind=10)<;>cases decide (x.kind=11)<;>cases decide (x.kind=6)
  all_goals first
    | exact ⟨gm hx h.f,h'.a,h'.b,h'.m⟩
    | exact ⟨h'.f,gm hx h.a,h'.b,h'.m⟩
    | exact ⟨h'.f,eE h'.a,h'.b,h'.m⟩
    | exact ⟨eE h'.f,eE h'.a,gm hx h.b,h'.m⟩
    | exact ⟨h'.f,h'.a,h'.b,gm hx h.m⟩
    | exact h'
    | (simp only [cond_true,cond_false]
       split
       · rename_i j hj
         cases decide ((j:Int)<(i:Int)) with
         | true=>exact tE h' _
         | false=>exact h'
       · exact h')
theorem oy:ActD.zero.target.size≤maxLen:=by decide
theorem ky {l:List ActD} (hs:∀ a∈l,a.Sm):∀ k,TBnd k (tieF l k)
 | 0=>⟨⟨by simp [tieF],by simp [tieF]⟩,⟨by simp [tieF],by simp [tieF]⟩,⟨by simp [tieF],by simp [tieF]⟩,⟨by simp [tieF],by simp [tieF]⟩⟩
 | k+1=>by
  refine uw (ky hs k) ?_
  rcases Nat.lt_or_ge k l.length with h|h
  · rw [List.getD_eq_getElem?_getD,List.getElem?_eq_getElem h]
    exact (hs _ (List.getElem_mem h)).target
  · rw [List.getD_eq_getElem?_getD,List.getElem?_eq_none h]
    exact oy
theorem kx {l:List ActD} (hs:ActsOk l) (n:Int):TBnd l.length (tieV l n):=(ky hs.sm _).mono (by rw [ew];omega)
def TiesAt (t:TieS) (u:Value) (X:World→Prop):Prop:=∃ s1 s2 s3 s4:SlV,u=.agg #[s1.v,s2.v,s3.v,s4.v]∧∀ w,X w→Strs w s1 (sortB t.f)∧Strs w s2 (sortB t.a)∧Strs w s3 (sortB t.b)∧Strs w s4 (sortB t.m)
theorem fS {w:World} {e n c:Nat} {A:Option Addr} {l:List ByteArray} (h:(orow e 1 (.slice A n c) n ((sortB l).map encB)).F w) (hn:n=l.length):Strs w ⟨A,n,c⟩ (sortB l):=il h (by rw [eQ,hn])
def hasS (l:List ByteArray) (x:ByteArray):Bool:=l.any fun y=>seqB x y
def idxS (l:List ByteArray) (x:ByteArray):Int:=match l.findIdx? (fun y=>seqB x y) with|some k=>(k:Int)|none=>-1
theorem q9 {l:List ByteArray} {x:ByteArray} (i:Upto l.length (fun k=>seqB x (l.getD k .empty))) (hlt:i.k<l.length) (hb:seqB x (l.getD i.k .empty)=true):idxS l x=i.k:=by
 have:l.findIdx? (fun y=>seqB x y)=some i.k:=by
  rw [List.findIdx?_eq_some_iff_getElem]
  refine ⟨hlt,by simpa [hlt] using hb,fun j hj=>?_⟩
  have h1:=i.ok j hj
  have hj':j<l.length:=by omega
  simp [hj'] at h1
  simp [h1]
 simp only [idxS,this]
theorem ve {l:List ByteArray} {x:ByteArray} (i:Upto l.length (fun k=>seqB x (l.getD k .empty))) (h:¬ i.k<l.length):idxS l x=-1:=by
 have:l.findIdx? (fun y=>seqB x y)=none:=by
  rw [List.findIdx?_eq_none_iff]
  intro y hy
  obtain ⟨k,hk,rfl⟩:=List.getElem_of_mem hy
  have h1:=i.ok k ag
  simpa [hk] using h1
 simp only [idxS,this]
theorem yz (l:List ByteArray) (x:ByteArray):decide (0≤idxS l x)=hasS l x:=by
 unfold idxS hasS
 cases h:l.findIdx? (fun y=>seqB x y) with
 | some k =>
  rw [List.findIdx?_eq_some_iff_getElem] at h
  obtain ⟨h1,h2,_⟩:=h
  have:l.any (fun y=>seqB x y)=true:=List.any_eq_true.2 ⟨l[k],List.getElem_mem h1,h2⟩
  rw [this]
  exact decide_eq_true (show (0:Int)≤(k:Int) by omega)
 | none =>
  rw [List.findIdx?_eq_none_iff] at h
  have:l.any (fun y=>seqB x y)=false:=List.any_eq_false.2 fun y hy=>by simp [h y hy]
  rw [this]
  rfl
def eqBad (l m:List ByteArray) (k:Nat):Bool:=!seqB (l.getD k .empty) (m.getD k .empty)
def eqL (l m:List ByteArray):Bool:=decide (l.length=m.length)&&allB l.length (eqBad l m)
theorem nd (s r:SlV) (l m:List ByteArray):Pu Tryz.prog 71 #[s.v,r.v] (fun w=>Strs w s l∧Strs w r m) (.bool (eqL l m)):=by
 refine aN (args:=[_,_]) _ Tryz.func71 rfl Tryz.ntmps71 rfl fun av bor w0=>?_
 refine bt (p:=(s.n=l.length∧s.n≤maxLen∧(0<l.length→s.p.isSome=true))∧(r.n=m.length∧r.n≤maxLen∧(0<m.length→r.p.isSome=true))) (fun w h=>⟨⟨h.1.len_,Nat.le_trans (RowsD.cap h.1) (RowsD.max h.1),h.1.some_⟩,⟨h.2.len_,Nat.le_trans (RowsD.cap h.2) (RowsD.max h.2),h.2.some_⟩⟩) fun ⟨⟨hl,hm,hp⟩,⟨hl',hm',hp'⟩⟩=>?_
 simp only [maxLen] at hm hm'
 repeat' (first|apply ab|apply aj|apply ai|refine ae ?_|refine ac ?_|refine cZ ?_|refine bg ?_|apply ay|apply aw|apply aA|(refine aO (ht:=?_) (hf:=?_);all_goals (intro hx_;skip)))
 · apply aq;apply aB;rfl;rfl
   have:¬ l.length=m.length:=by
    have h1:¬ (s.n:Int)=(r.n:Int):=by simpa using hx_
    omega
   simp only [eqL,decide_eq_false this,Bool.false_and]
 have hlm:l.length=m.length:=by
  have h1:(s.n:Int)=(r.n:Int):=by simpa using hx_
  omega
 refine be (ι:=Upto l.length (eqBad l m)) (fun i=>⟨[(0,s.v),(1,r.v),(12,.int .i64 s.n),(13,.int .i64 i.k)],[],fun w=>Strs w s l∧Strs w r m⟩) (fun i=>l.length-i.k) (Upto.zero _ _) (aF (by repeat (first|exact trivial|refine ⟨rfl,?_⟩)) (aQ _) fun _ h=>h) fun i=>?_
 have hik:=i.hk
 repeat' (first|apply ab|apply aj|apply ai|refine ae ?_|refine ac ?_|refine bu ?_|apply ay|apply aw|apply aA|apply aV|(refine aO (ht:=?_) (hf:=?_);all_goals (intro hx_;first|have:=aY hx_|have:=aZ hx_)))
 · have hlt:i.k<l.length:=by omega
   have hlt':i.k<m.length:=by omega
   have hp1:=hp ag
   have hp2:=hp' ag
   (apply ci;kernel_rfl)
   all_goals refine aa 0 ?_
   all_goals refine aa 1 ?_
   all_goals (refine aa 2 (hy:=by (apply bp (q:=i.k);rfl;rfl;omega;omega;assumption;omega)) ?_)
   all_goals (refine aa 3 (hy:=by (apply cC;rfl;exact fun w h=>Strs.get h.1 hlt)) ?_)
   all_goals refine aa 4 ?_
   all_goals refine aa 5 ?_
   all_goals (refine aa 6 (hy:=by (apply bp (q:=i.k);rfl;rfl;omega;omega;assumption;omega)) ?_)
   all_goals (refine aa 7 (hy:=by (apply cC;rfl;exact fun w h=>Strs.get h.2 hlt')) ?_)
   all_goals refine aa 8 ?_
   all_goals (refine aI ?_)
   repeat' (first|apply ab|apply aj|apply ai|refine ae ?_|refine ac ?_|refine bm (h:=?_)|apply ay|apply aA|(refine aO (ht:=?_) (hf:=?_);all_goals (intro hx_;skip)))
   · apply aq;apply aB;rfl;rfl
     rw [eqL,dB hlt (by assumption),Bool.and_false]
   · exact ⟨i.next hlt (by assumption),(by show l.length-(i.k+1)<l.length-i.k;omega),aF (by repeat (first|exact trivial|refine ⟨rfl,?_⟩)) (aQ _) fun _ h=>h⟩
 · apply aq;apply aB;rfl;rfl
   rw [eqL,i.all ag,decide_eq_true hlm]
   rfl
def has21V (l:List ByteArray) (x:ByteArray):Bool:=l.any fun y=>seqB y x
theorem pT {l:List ByteArray} {x:ByteArray} {k:Nat} (hk:k<l.length) (h:seqB (l.getD k .empty) x=true):has21V l x=true:=by
 rw [has21V,List.any_eq_true]
 refine ⟨l[k],List.getElem_mem hk,?_⟩
 simpa [hk] using h
theorem rj {l:List ByteArray} {x:ByteArray} (h:∀ k,k<l.length→seqB (l.getD k .empty) x=false):has21V l x=false:=by
 rw [has21V,List.any_eq_false]
 intro y hy
 obtain ⟨k,hk,rfl⟩:=List.getElem_of_mem hy
 have:=h k hk
 simp [hk] at this
 simp [this]
theorem vb (s:SlV) (l:List ByteArray) (x:ByteArray):Pu Tryz.prog 217 #[s.v,.string x] (fun w=>Strs w s l) (.int .i64 (idxS l x)):=by
 refine aN (args:=[_,_]) _ Tryz.func217 rfl Tryz.ntmps217 rfl fun av bor w0=>?_
 refine bt (p:=s.n=l.length∧s.n≤maxLen∧(0<l.length→s.p.isSome=true)) (fun w h=>⟨h.len_,Nat.le_trans (RowsD.cap h) (RowsD.max h),h.some_⟩) fun ⟨hl,hm,hp⟩=>?_
 simp only [maxLen] at hm
 repeat' (first|apply ab|apply aj|apply ai|refine ae ?_|refine ac ?_|refine bg ?_|apply aw|fail)
 refine be (ι:=Upto l.length (fun k=>seqB x (l.getD k .empty))) (fun i=>⟨[(0,s.v),(1,.string x),(7,.int .i64 s.n),(8,.int .i64 i.k)],[],fun w=>Strs w s l⟩) (fun i=>l.length-i.k) (Upto.zero _ _) (aF ⟨rfl,rfl,rfl,rfl,trivial⟩ (aQ _) fun _ h=>h) fun i=>?_
 have hik:=i.hk
 repeat' (first|apply ab|apply aj|apply ai|refine ae ?_|refine ac ?_|refine bu ?_|apply ay|apply aw|apply aA|apply aV|(refine aO (ht:=?_) (hf:=?_);all_goals (intro hx_;first|have:=aY hx_|have:=aZ hx_)))
 · have hlt:i.k<l.length:=by omega
   have hp':=hp ag
   repeat' (first|apply ab|apply aj|apply ai|refine ae ?_|refine ac ?_|refine co ?_|refine bm (h:=?_)|apply ay|apply aA|(refine bf (q:=i.k) ?_)|(refine bU (hF:=fun w h=>Strs.get h hlt) ?_)|(refine aO (ht:=?_) (hf:=?_);all_goals (intro hx_;skip)))
   · apply aq;apply aB;rfl;rfl
     rw [q9 i hlt (by assumption)]
   · exact ⟨i.next hlt (by assumption),(by show l.length-(i.k+1)<l.length-i.k;omega),aF ⟨rfl,rfl,rfl,rfl,trivial⟩ (aQ _) fun _ h=>h⟩
 · apply aq;apply aB;rfl;rfl
   rw [ve i (by omega)]
theorem ec (s:SlV) (l:List ByteArray) (x:ByteArray):Pu Tryz.prog 135 #[s.v,.string x] (fun w=>Strs w s l) (.bool (hasS l x)):=by
 refine aN (args:=[_,_]) _ Tryz.func135 rfl Tryz.ntmps135 rfl fun av bor w0=>?_
 repeat' (first|apply ab|apply aj|apply ai|refine ae ?_|refine ac ?_|refine cL ?_|apply aA|refine aC (hc:=vb s l x) ?_)
 apply aq;apply aB;rfl;rfl
 rw [yz]
theorem lQ (s:SlV) (l:List ByteArray) (x:ByteArray):Pu Tryz.prog 139 #[s.v,.string x] (fun w=>Strs w s l) (.bool (has21V l x)):=by
 refine aN (args:=[_,_]) _ Tryz.func139 rfl Tryz.ntmps139 rfl fun av bor w0=>?_
 refine bt (p:=s.n=l.length∧s.n≤maxLen∧(0<l.length→s.p.isSome=true)) (fun w h=>⟨h.len_,Nat.le_trans (RowsD.cap h) (RowsD.max h),h.some_⟩) fun ⟨hl,hm,hp⟩=>?_
 simp only [maxLen] at hm
 repeat' (first|apply ab|apply aj|apply ai|refine ac ?_|apply aw|fail)
 refine be (ι:=Upto l.length (fun k=>seqB (l.getD k .empty) x)) (fun i=>⟨[(0,s.v),(1,.string x),(5,.int .i64 i.k)],[],fun w=>Strs w s l⟩) (fun i=>l.length-i.k) (Upto.zero _ _) (aF ⟨rfl,rfl,rfl,trivial⟩ (aQ _) fun _ h=>h) fun i=>?_
 have hik:=i.hk
 repeat' (first|apply ab|apply aj|apply ai|refine ae ?_|refine ac ?_|refine bu ?_|refine bg ?_|apply ay|apply aw|apply aA|apply aV|(refine aO (ht:=?_) (hf:=?_);all_goals (intro hx_;first|have:=aY hx_|have:=aZ hx_)))
 · have hlt:i.k<l.length:=by omega
   have hp':=hp ag
   repeat' (first|apply ab|apply aj|apply ai|refine ae ?_|refine ac ?_|refine co ?_|refine bm (h:=?_)|apply ay|apply aA|(refine bf (q:=i.k) ?_)|(refine bU (hF:=fun w h=>Strs.get h hlt) ?_)|(refine aO (ht:=?_) (hf:=?_);all_goals (intro hx_;skip)))
   · apply aq;apply aB;rfl;rfl
     rw [pT hlt (by assumption)]
   · exact ⟨i.next hlt (by assumption),(by show l.length-(i.k+1)<l.length-i.k;omega),aF ⟨rfl,rfl,rfl,trivial⟩ (aQ _) fun _ h=>h⟩
 · apply aq;apply aB;rfl;rfl
   rw [rj fun k hk=>i.ok k (by omega)]
def idx21 (l:List ByteArray) (x:ByteArray):Int:=match l.findIdx? (fun y=>seqB y x) with
 | some k=>(k:Int)
 | none=>-1
theorem pR {l:List ByteArray} {x:ByteArray} {k:Nat} (hk:k<l.length) (h:seqB (l.getD k .empty) x=true) (ho:∀ j,j<k→seqB (l.getD j .empty) x=false):idx21 l x=(k:Int):=by
 have e:l.findIdx? (fun y=>seqB y x)=some k:=by
  rw [List.findIdx?_eq_some_iff_getElem]
  refine ⟨hk,by simpa [hk] using h,fun j hj=>?_⟩
  have:=ho j hj
  have hjl:j<l.length:=by omega
  simpa [hjl] using this
 rw [idx21,e]
theorem ra {l:List ByteArray} {x:ByteArray} (ho:∀ j,j<l.length→seqB (l.getD j .empty) x=false):idx21 l x=-1:=by
 have e:l.findIdx? (fun y=>seqB y x)=none:=by
  rw [List.findIdx?_eq_none_iff]
  intro y hy
  obtain ⟨j,hj,rfl⟩:=List.getElem_of_mem hy
  have:=ho j hj
  simpa [hj] using this
 rw [idx21,e]
theorem q7 (s:SlV) (l:List ByteArray) (x:ByteArray):Pu Tryz.prog 314 #[s.v,.string x] (fun w=>Strs w s l) (.int .i64 (idx21 l x)):=by
 refine aN (args:=[_,_]) _ Tryz.func314 rfl Tryz.ntmps314 rfl fun av bor w0=>?_
 refine bt (p:=s.n=l.length∧s.n≤maxLen∧(0<l.length→s.p.isSome=true)) (fun w h=>⟨h.len_,Nat.le_trans (RowsD.cap h) (RowsD.max h),h.some_⟩) fun ⟨hl,hm,hp⟩=>?_
 simp only [maxLen] at hm
 repeat' (first|apply ab|apply aj|apply ai|refine ac ?_|apply aw|fail)
 refine be (ι:=Upto l.length (fun k=>seqB (l.getD k .empty) x)) (fun i=>⟨[(0,s.v),(1,.string x),(5,.int .i64 i.k)],[],fun w=>Strs w s l⟩) (fun i=>l.length-i.k) (Upto.zero _ _) (aF ⟨rfl,rfl,rfl,trivial⟩ (aQ _) fun _ h=>h) fun i=>?_
 have hik:=i.hk
 repeat' (first|apply ab|apply aj|apply ai|refine ae ?_|refine ac ?_|refine bu ?_|refine bg ?_|apply ay|apply aw|apply aA|apply aV|(refine aO (ht:=?_) (hf:=?_);all_goals (intro hx_;first|have:=aY hx_|have:=aZ hx_)))
 · have hlt:i.k<l.length:=by omega
   have hp':=hp ag
   repeat' (first|apply ab|apply aj|apply ai|refine ae ?_|refine ac ?_|refine co ?_|refine bm (h:=?_)|apply ay|apply aA|(refine bf (q:=i.k) ?_)|(refine bU (hF:=fun w h=>Strs.get h hlt) ?_)|(refine aO (ht:=?_) (hf:=?_);all_goals (intro hx_;skip)))
   · apply aq;apply aB;rfl;rfl
     rw [pR hlt (by assumption) i.ok]
   · exact ⟨i.next hlt (by assumption),(by show l.length-(i.k+1)<l.length-i.k;omega),aF ⟨rfl,rfl,rfl,trivial⟩ (aQ _) fun _ h=>h⟩
 · apply aq;apply aB;rfl;rfl
   rw [ra fun k hk=>i.ok k (by omega)]
end Go.Proofs.YtfnjklhjngphmaaGreatDoor
