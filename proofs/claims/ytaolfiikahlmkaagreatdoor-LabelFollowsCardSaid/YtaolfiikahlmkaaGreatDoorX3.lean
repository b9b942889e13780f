/- Joined. -/
import Derived.Test.YtaolfiikahlmkaaGreatDoorX2
import Derived.Laws.Cover3
import Derived.Lib.LazyBuf
import Derived.Shelf.Slices.CompactS
import Derived.Lib.RowBridge
import Derived.Sort.Walk0
set_option linter.unusedVariables false
set_option linter.unusedSimpArgs false
set_option maxHeartbeats 16000000
namespace Go.Proofs.YtaolfiikahlmkaaGreatDoor
open Go Go.Proofs Sy
def rotlV (x k:Int):Int:=bitsV .or .u32 (shlV .u32 x (bitsV .and .u64 (IntKind.u64.wrap k) 31)) (shrV .u32 x (IntKind.u64.wrap (32-bitsV .and .u64 (IntKind.u64.wrap k) 31)))
theorem DL (x k:Int):Pu Tryz.prog 249 #[.int .u32 x,.int .i64 k] (fun _=>True) (.int .u32 (rotlV x k)):=by
 refine ak (args:=[_,_]) _ Tryz.func249 rfl Tryz.ntmps249 rfl fun av bor w0=>?_
 repeat' (first|refine gs ?_|fail)
 apply ad;apply ag;rfl;rfl;rfl
def turnV (w n:Int):Int:=rotlV w (IntKind.i64.wrap (0-n))
theorem pz (w n:Int):Pu Tryz.prog 178 #[.int .u32 w,.int .i64 n] (fun _=>True) (.int .u32 (turnV w n)):=by
 refine ak (args:=[_,_]) _ Tryz.func178 rfl Tryz.ntmps178 rfl fun av bor w0=>?_
 repeat' (first|refine ab (hc:=DL _ _) ?_|refine gs ?_|(refine FH (hc:=rfl) ?_)|fail)
 apply ad;apply ag;rfl;rfl;rfl
theorem Cj {a b:Nat} (h:a<b):Nat.blt a b=true:=Nat.ble_eq_true_of_le h
def u32s (ws:List Int):List Value:=ws.map (.int .u32)
theorem f0 (ws:List Int):(u32s ws).length=ws.length:=by simp [u32s]
theorem qN (ws:List Int) (i:Nat) (v:Int):(u32s ws).set i (.int .u32 v)=u32s (ws.set i v):=by simp [u32s,List.map_set]
theorem gW (ws:List Int) (i:Nat) (h:i<ws.length):(u32s ws)[i]?=some (.int .u32 (ws.getD i 0)):=by simp [u32s,h]
def a32 (a b:Int):Int:=IntKind.u32.wrap (a+b)
def wordV (s:ByteArray) (i:Nat):Int :=
 bitsV .or .u32 (bitsV .or .u32 (bitsV .or .u32 (shlV .u32 (IntKind.u32.wrap (byteAt (s.extract (4*(i:Int)).toNat (4*(i:Int)+4).toNat) 0)) 24) (shlV .u32 (IntKind.u32.wrap (byteAt (s.extract (4*(i:Int)).toNat (4*(i:Int)+4).toNat) 1)) 16))
  (shlV .u32 (IntKind.u32.wrap (byteAt (s.extract (4*(i:Int)).toNat (4*(i:Int)+4).toNat) 2)) 8)) (IntKind.u32.wrap (byteAt (s.extract (4*(i:Int)).toNat (4*(i:Int)+4).toNat) 3))
def w1 (s:ByteArray):Nat→List Int
 | 0=>List.replicate 64 0
 | i+1=>(w1 s i).set i (wordV s i)
theorem px (s:ByteArray):∀ i,(w1 s i).length=64
 | 0=>rfl
 | i+1=>by rw [w1,Z9,px s i]
def early (w:List Int) (i:Nat):Int:=bitsV .xor .u32 (bitsV .xor .u32 (turnV (w.getD (i-15) 0) 7) (turnV (w.getD (i-15) 0) 18)) (shrV .u32 (w.getD (i-15) 0) 3)
def late (w:List Int) (i:Nat):Int:=bitsV .xor .u32 (bitsV .xor .u32 (turnV (w.getD (i-2) 0) 17) (turnV (w.getD (i-2) 0) 19)) (shrV .u32 (w.getD (i-2) 0) 10)
def w2 (s:ByteArray):Nat→List Int
 | 0=>w1 s 16
 | k+1=>(w2 s k).set (16+k) (a32 (a32 (a32 ((w2 s k).getD k 0) (early (w2 s k) (16+k))) ((w2 s k).getD (16+k-7) 0)) (late (w2 s k) (16+k)))
theorem pw (s:ByteArray):∀ i,(w2 s i).length=64
 | 0=>px s 16
 | i+1=>by rw [w2,Z9,pw s i]
def schedV (s:ByteArray):List Int:=w2 s 48
theorem q6 (s:ByteArray) (hs:s.size=64):Pu Tryz.prog 177 #[.string s] (fun _=>True) (.agg (u32s (schedV s)).toArray):=by
 refine ak (args:=[_]) _ Tryz.func177 rfl Tryz.ntmps177 rfl fun av bor w0=>?_
 repeat' (first|refine gs ?_|refine gs1 fun _=>?_|fail)
 rename_i b1 b2
 refine aq (ι:=Kth 16) (fun i=>⟨[(0,.string s),(2,.pointer (some ⟨b1,0,none⟩)),(3,.pointer (some ⟨b2,0,none⟩)),(11,.int .i64 i.k)],[cel b2 234 (u32s (w1 s i.k)),cel b1 234 (u32s (List.replicate 64 0))],fun _=>True⟩) (fun i=>16-i.k) ⟨0,Z4 _⟩ (aj am (al _) fun _ h=>h) fun i=>?_
 have hik:=i.hk
 repeat' (first|refine gs ?_|refine gs1 fun _=>?_|(refine gp ?_ ?_<;>intro hx_ this)|fail)
 · have hlt:i.k<16:=by omega
   have hlen:=px s i.k
   have hes:(s.extract (4*(i.k:Int)).toNat (4*(i.k:Int)+4).toNat).size=4:=by simp only [ByteArray.size_extract];omega
   repeat' (first|refine gs ?_|refine gs1 fun _=>?_|(refine gp ?_ ?_<;>intro hx_ this)|fail)
   refine Aq (h0:=by omega) (h1:=by omega) (h2:=by omega) ?_
   repeat' (first|refine gs ?_|refine gs1 fun _=>?_|(refine gp ?_ ?_<;>intro hx_ this)|fail)
   (refine ar ⟨[0,1,2,3,4,5,6,7,8,9,10,11,12,13,14,15,16,17,18,19],[(20,⟨[],[]⟩)]⟩ [] (fun _=>True) (h:=?_))
   all_goals repeat' (first|refine gd ?_|refine ay (hy:=by first|(apply tk;rfl;rfl;decide;(rw [hes];decide))|(apply fU (q:=i.k);rfl;rfl;omega;omega;omega)) ?_|refine aA ?_ (h':=?_)|exact aB|((refine bO (hl:=Cj (by simp only [f0,hlen];omega)) ?_))|refine gs1 fun _=>?_|(refine gq ?_ ?_<;>intro hx_ this)|fail)
   repeat' (first|refine gs ?_|refine gs1 fun _=>?_|(refine gp ?_ ?_<;>intro hx_ this)|fail)
   exact ⟨(⟨i.k+1,hlt⟩:Kth 16),(by show 16-(i.k+1)<16-i.k;omega),aj am (by
    show List.Sublist [cel b2 _ (u32s (w1 s (i.k+1))),_] _
    rw [w1,←qN]
    exact al _) fun _ h=>h⟩
 have hk:i.k=16:=by omega
 refine aq (ι:=Kth 48) (fun i=>⟨[(0,.string s),(2,.pointer (some ⟨b1,0,none⟩)),(3,.pointer (some ⟨b2,0,none⟩)),(6,.int .i64 (16+i.k))],[cel b2 234 (u32s (w2 s i.k)),cel b1 234 (u32s (List.replicate 64 0))],fun _=>True⟩) (fun i=>48-i.k) ⟨0,Z4 _⟩ (aj am (by
  show List.Sublist [cel b2 _ (u32s (w1 s 16)),_] _
  rw [hk]
  exact al _) fun _ h=>h) fun i=>?_
 have hik:=i.hk
 have hlen:=pw s i.k
 repeat' (first|refine gs ?_|refine gs1 fun _=>?_|(refine gp ?_ ?_<;>intro hx_ this)|fail)
 · have hlt:i.k<48:=by omega
   (refine aV ⟨[0,1,2,3,4,5,6,7,8,9],[]⟩ (h:=?_))
   all_goals repeat' (first|refine gd ?_|refine ay (hy:=by first|(apply fU (q:=16+i.k-15);rfl;rfl;omega;omega;omega)|(apply fU (q:=16+i.k-2);rfl;rfl;omega;omega;omega)|(apply pt;rfl;(repeat (first|exact aw|apply Zv));exact gW _ _ aa)) ?_|refine aA ?_ (h':=?_)|exact aB|refine gs1 fun _=>?_|(refine gq ?_ ?_<;>intro hx_ this)|fail)
   repeat' (first|refine ab (hc:=pz _ _) ?_|refine gs ?_|refine gs1 fun _=>?_|(refine gp ?_ ?_<;>intro hx_ this)|fail)
   (refine ar ⟨[0,1,2,3,5,7,8,9,12],[(4,⟨[6],[(10,⟨[11,13,14],[(15,⟨[],[]⟩)]⟩)]⟩),(10,⟨[],[(4,⟨[6,11,13,14],[(15,⟨[],[]⟩)]⟩)]⟩)]⟩ [] (fun _=>True) (h:=?_))
   all_goals repeat' (first|refine gd ?_|refine ay (hy:=by first|(apply fU (q:=i.k);rfl;rfl;omega;omega;omega)|(apply fU (q:=16+i.k-7);rfl;rfl;omega;omega;omega)|(apply fU (q:=16+i.k);rfl;rfl;omega;omega;omega)) ?_|refine aA ?_ (h':=?_)|exact aB|(refine cD (hv:=gW _ _ aa) ?_)|((refine bO (hl:=Cj (by simp only [f0,hlen];omega)) ?_))|refine gs1 fun _=>?_|(refine gq ?_ ?_<;>intro hx_ this)|fail)
   all_goals (repeat' (first|refine gs ?_|refine gs1 fun _=>?_|(refine gp ?_ ?_<;>intro hx_ this)|fail))
   all_goals exact ⟨(⟨i.k+1,hlt⟩:Kth 48),(by show 48-(i.k+1)<48-i.k;omega),aj am (by
    show List.Sublist [cel b2 _ (u32s (w2 s (i.k+1))),_] _
    rw [w2,←qN]
    exact al _) fun _ h=>h⟩
 have hk2:i.k=48:=by omega
 repeat' (first|refine gs ?_|refine gs1 fun _=>?_|(refine aM (hn:=by simp only [f0,hlen]) ?_)|(refine aQ (hm:=by simp only [f0,hlen]) (hn:=by rfl) (h1:=by simp [u32s,Value.oneCell']) ?_)|fail)
 apply ad;refine cL rfl rfl aW ?_
 · simp only [f0,hlen]
 rw [hk2]
 rfl
def iniC:List Int:=[1779033703,3144134277,1013904242,2773480762,1359893119,2600822924,528734635,1541459225]
def kC:List Int:=[1116352408,1899447441,3049323471,3921009573,961987163,1508970993,2453635748,2870763221,3624381080,310598401,607225278,1426881987,1925078388,2162078206,2614888103,3248222580,3835390401,4022224774,264347078,604807628,770255983,1249150122,1555081692,1996064986,2554220882,2821834349,2952996808,3210313671,3336571891,3584528711,113926993,338241895,666307205,773529912,1294757372,1396182291,1695183700,1986661051,2177026350,2456956037,2730485921,2820302411,3259730800,3345764771,3516065817,3600352804,4094571909,275423344,430227734,506948616,659060556,883997877,958139571,1322822218,1537002063,1747873779,1955562222,2024104815,2227730452,2361852424,2428436474,2756734187,3204031479,3329325298]
def CellsAt (g:Nat) (l:List Value) (w:World):Prop:=∀ j v,l[j]?=some v→w.cell? ⟨g,j,none⟩=some v
structure Glob (w:World):Prop where
 ini:CellsAt 0 (u32s iniC) w
 k:CellsAt 1 (u32s kC) w
structure St8 where
 a:Int
 b:Int
 c:Int
 d:Int
 e:Int
 f:Int
 g:Int
 h:Int
def St8.l (x:St8):List Int:=[x.a,x.b,x.c,x.d,x.e,x.f,x.g,x.h]
def x32 (a b:Int):Int:=bitsV .xor .u32 a b
def n32 (a b:Int):Int:=bitsV .and .u32 a b
def t1V (x:St8) (k w:Int):Int :=
 a32 (a32 (a32 (a32 x.h (x32 (x32 (turnV x.e 6) (turnV x.e 11)) (turnV x.e 25))) (x32 (n32 x.e x.f) (n32 (x32 (if IntKind.u32.signed then -1 else IntKind.u32.max) x.e) x.g))) k) w
def t2V (x:St8):Int:=a32 (x32 (x32 (turnV x.a 2) (turnV x.a 13)) (turnV x.a 22)) (x32 (x32 (n32 x.a x.b) (n32 x.a x.c)) (n32 x.b x.c))
def roundV (x:St8) (k w:Int):St8:=⟨a32 (t1V x k w) (t2V x),x.a,x.b,x.c,a32 x.d (t1V x k w),x.e,x.f,x.g⟩
def roundsV (x:St8) (ws:List Int):Nat→St8
 | 0=>x
 | i+1=>roundV (roundsV x ws i) (kC.getD i 0) (ws.getD i 0)
def mixV (x:St8) (s:ByteArray):St8 :=
 let y:=roundsV x (schedV s) 64
 ⟨a32 x.a y.a,a32 x.b y.b,a32 x.c y.c,a32 x.d y.d,a32 x.e y.e,a32 x.f y.f,a32 x.g y.g,a32 x.h y.h⟩
theorem F6 (i:Nat) (h:i<64):(u32s kC)[i]?=some (.int .u32 (kC.getD i 0)):=gW kC i h
theorem Bv (x:St8) (s:ByteArray) (hs:s.size=64):Pu Tryz.prog 99 #[.agg (u32s x.l).toArray,.string s] Glob (.agg (u32s (mixV x s).l).toArray):=by
 refine ak (args:=[_,_]) _ Tryz.func99 rfl Tryz.ntmps99 rfl fun av bor w0=>?_
 obtain ⟨ws,hws,hlen⟩:∃ ws,schedV s=ws∧ws.length=64:=⟨_,rfl,pw s 48⟩
 have hsp:Pu Tryz.prog 177 #[.string s] (fun _=>True) (.agg (u32s ws).toArray):=hws▸q6 s hs
 unfold mixV
 rw [hws]
 repeat' (first|refine ab (hc:=hsp) ?_|refine gs ?_|refine gs1 fun _=>?_|(refine aQ (hm:=by simp only [f0,hlen]) (hn:=by rfl) (h1:=by simp [u32s,Value.oneCell']) ?_)|fail)
 (refine aV ⟨[0,1,2,3,4,5,6,7,8,9,10,11],[]⟩ (h:=?_))
 all_goals repeat' (first|refine gd ?_|refine aA ?_ (h':=?_)|exact aB|refine gs1 fun _=>?_|(refine gq ?_ ?_<;>intro hx_ this)|fail)
 repeat' (first|refine gs ?_|refine gs1 fun _=>?_|fail)
 (refine aV ⟨[0,1,2,3,4,5,6,7,8,9,10,11],[]⟩ (h:=?_))
 all_goals repeat' (first|refine gd ?_|refine aA ?_ (h':=?_)|exact aB|refine gs1 fun _=>?_|(refine gq ?_ ?_<;>intro hx_ this)|fail)
 repeat' (first|refine gs ?_|refine gs1 fun _=>?_|fail)
 rename_i b1 b2 b3
 refine aq (ι:=Kth 64) (fun i=>⟨[(2,.pointer (some ⟨b1,0,none⟩)),(4,.pointer (some ⟨b2,0,none⟩)),(5,.pointer (some ⟨b3,0,none⟩)),(6,.int .u32 (roundsV x ws i.k).a),(7,.int .u32 (roundsV x ws i.k).b),(8,.int .u32 (roundsV x ws i.k).c),(9,.int .u32 (roundsV x ws i.k).d),(10,.int .u32 (roundsV x ws i.k).e),(11,.int .u32 (roundsV x ws i.k).f),(12,.int .u32 (roundsV x ws i.k).g),(13,.int .u32 (roundsV x ws i.k).h),(35,.int .i64 i.k)],
  [cel b3 234 (u32s ws),cel b2 168 (u32s (List.replicate 8 0)),cel b1 168 (u32s x.l)],Glob⟩) (fun i=>64-i.k) ⟨0,Z4 _⟩ (aj am (al _) fun _ h=>h) fun i=>?_
 have hik:=i.hk
 repeat' (first|refine gs ?_|refine gs1 fun _=>?_|(refine gp ?_ ?_<;>intro hx_ this)|fail)
 · have hlt:i.k<64:=by omega
   generalize hy:roundsV x ws i.k=y at *
   (refine aV ⟨[0,1,3,6,10,11,12,13,14,15,16,17,19,20,21,23,24,25],[(2,⟨[],[(4,⟨[5],[(7,⟨[8,9,18,22,26,27],[]⟩)]⟩)]⟩)]⟩ (h:=?_))
   all_goals repeat' (first|refine ab (hc:=pz _ _) ?_|refine gd ?_|refine ay (hy:=by first|(apply fU (q:=i.k);rfl;rfl;omega;omega;omega)|(apply EY;rfl;exact fun w h=>h.k i.k _ (F6 _ hlt))|(apply pt;rfl;(repeat (first|exact aw|apply Zv));exact gW _ _ aa)) ?_|refine aA ?_ (h':=?_)|exact aB|refine gs1 fun _=>?_|(refine gq ?_ ?_<;>intro hx_ this)|fail)
   repeat' (first|refine ab (hc:=pz _ _) ?_|refine gs ?_|refine gs1 fun _=>?_|(refine gp ?_ ?_<;>intro hx_ this)|fail)
   exact ⟨(⟨i.k+1,hlt⟩:Kth 64),(by show 64-(i.k+1)<64-i.k;omega),aj (by
    have e:roundsV x ws (i.k+1)=roundV y (kC.getD i.k 0) (ws.getD i.k 0):=by rw [roundsV,hy]
    simp only [e]
    exact ⟨rfl,rfl,rfl,rfl,rfl,rfl,rfl,rfl,rfl,rfl,rfl,rfl,trivial⟩) (al _) fun _ h=>h⟩
 have hk:i.k=64:=by omega
 repeat' (first|refine gs ?_|refine gs1 fun _=>?_|(refine xm ?_)|(refine gp ?_ ?_<;>intro hx_ this)|fail)
 apply ad;refine cL rfl rfl aW ?_
 · rfl
 rw [hk]
 rfl
def padN (n:Nat):Nat:=(120-n%64)%64
def sizeB (n:Int) (k:Nat):List Int:=(List.range k).map fun (j:Nat)=>IntKind.u8.wrap (shrV .u64 (IntKind.u64.wrap (IntKind.u64.wrap n*8)) (56-8*(j:Int)))
def endL (s:ByteArray):List Int:=bytesI s++[128]
def endV (s:ByteArray) (n:Int):ByteArray:=ofInts (endL s++List.replicate (padN (s.size+1)) 0++sizeB n 8)
theorem nC (s:ByteArray):(endL s).length=s.size+1:=by simp [endL,uI]
theorem xt (n:Int) (k:Nat):(sizeB n k).length=k:=by simp [sizeB]
theorem pb (s:ByteArray) (n:Int):(endV s n).size%64=0:=by
 rw [endV,fg]
 simp only [ZA,nC,List.length_replicate,xt,padN]
 omega
structure EndS (m:Nat) where
 k:Nat
 hk:k≤m
 A:Option Addr
 c:Nat
theorem yw (s:ByteArray) (n:Int) (hs:s.size≤1099511627776):Pu Tryz.prog 100 #[.string s,.int .i64 n] (fun _=>True) (.string (endV s n)):=by
 refine ak (args:=[_,_]) _ Tryz.func100 rfl Tryz.ntmps100 rfl fun av bor w0=>?_
 repeat' (first|refine gs ?_|refine gs1 fun _=>?_|(refine tJ fun A c=>?_)|fail)
 rename_i b0
 refine aF (size:=1) (z:=.int .u8 0) (news:=u8s [128]) (q:=1) rfl rfl rfl rfl (fun _=>At.there _ (At.here _)) (fun w G=>bT G aw rfl rfl 1) ?_ ?_ rfl ?_ rfl ?_
 · omega
 · simp only [maxLen];omega
 · rfl
 intro A1 c1
 repeat' (first|refine gs ?_|refine gs1 fun _=>?_|fail)
 have hel:=nC s
 refine aq (ι:=EndS (padN (s.size+1))) (fun i=>⟨[(1,.int .i64 n),(5,.slice i.A (s.size+1+i.k) i.c)],[orow 5 1 (.slice i.A (s.size+1+i.k) i.c) (s.size+1+i.k) (u8s (endL s++List.replicate i.k 0))],fun _=>True⟩) (fun i=>padN (s.size+1)-i.k) ⟨0,Z4 _,A1,c1⟩ (aj am ?_ fun _ h=>h) fun i=>?_
 · refine Z2 _ ?_
   rw [←ck]
   simp only [List.replicate_zero,ZJ]
   exact al _
 have hik:=i.hk
 have hp:padN (s.size+1)<64:=Qc _ aa
 have hp2:padN (s.size+1)=(120-(s.size+1)%64)%64:=rfl
 have htm:Int.tmod ((s.size+1+i.k:Nat):Int) 64=(((s.size+1+i.k)%64:Nat):Int):=Int.ofNat_tmod _ _
 repeat' (first|refine gs ?_|refine gs1 fun _=>?_|(refine gp ?_ ?_<;>intro hx_ this)|fail)
 refine fo (hc:=htm) ?_
 repeat' (first|refine gs ?_|refine gs1 fun _=>?_|(refine gp ?_ ?_<;>intro hx_ this)|fail)
 · have hlt:i.k<padN (s.size+1):=by
    have h1:¬ (((s.size+1+i.k)%64:Nat):Int)=56:=by simpa using hx_
    omega
   refine aF (size:=1) (z:=.int .u8 0) (news:=u8s [0]) (q:=1) rfl rfl rfl rfl (fun _=>At.there _ (At.here _)) (fun w G=>bT G aw rfl rfl 1) ?_ ?_ rfl ?_ rfl ?_
   · omega
   · simp only [maxLen];omega
   · rfl
   intro A2 c2
   repeat' (first|refine gs ?_|refine gs1 fun _=>?_|(refine gp ?_ ?_<;>intro hx_ this)|fail)
   refine ⟨(⟨i.k+1,hlt,A2,c2⟩:EndS (padN (s.size+1))),(by show padN (s.size+1)-(i.k+1)<padN (s.size+1)-i.k;omega),aj am ?_ fun _ h=>h⟩
   refine Z2 _ ?_
   rw [←ck]
   simp only [List.replicate_succ',ZC]
   exact al _
 have hk:i.k=padN (s.size+1):=by
  have h1:(((s.size+1+i.k)%64:Nat):Int)=56:=by simpa using hx_
  omega
 have hl1:(endL s++List.replicate (padN (s.size+1)) 0:List Int).length=s.size+1+padN (s.size+1):=by simp [hel]
 rw [hk]
 generalize hL:(endL s++List.replicate (padN (s.size+1)) 0:List Int)=L at *
 refine aq (ι:=EndS 8) (fun j=>⟨[(5,.slice j.A (s.size+1+padN (s.size+1)+j.k) j.c),(6,.int .u64 (IntKind.u64.wrap (IntKind.u64.wrap n*8))),(7,.int .i64 (56-8*(j.k:Int)))],[orow 5 1 (.slice j.A (s.size+1+padN (s.size+1)+j.k) j.c) (s.size+1+padN (s.size+1)+j.k) (u8s (L++sizeB n j.k))],fun _=>True⟩) (fun j=>8-j.k) ⟨0,Z4 _,i.A,i.c⟩ (aj am ?_ fun _ h=>h) fun j=>?_
 · have e:sizeB n 0=[]:=rfl
   simp only [e,ZJ]
   exact al _
 have hjk:=j.hk
 repeat' (first|refine gs ?_|refine gs1 fun _=>?_|(refine gp ?_ ?_<;>intro hx_ this)|fail)
 · have hlt:j.k<8:=by omega
   refine aF (size:=1) (z:=.int .u8 0) (news:=u8s [IntKind.u8.wrap (shrV .u64 (IntKind.u64.wrap (IntKind.u64.wrap n*8)) (56-8*(j.k:Int)))]) (q:=1) rfl rfl rfl rfl (fun _=>At.there _ (At.here _)) (fun w G=>bT G aw rfl rfl 1) ?_ ?_ rfl ?_ rfl ?_
   · omega
   · simp only [maxLen];omega
   · rfl
   intro A2 c2
   repeat' (first|refine gs ?_|refine gs1 fun _=>?_|(refine gp ?_ ?_<;>intro hx_ this)|fail)
   refine ⟨(⟨j.k+1,hlt,A2,c2⟩:EndS 8),(by show 8-(j.k+1)<8-j.k;omega),aj ⟨rfl,rfl,?_,trivial⟩ ?_ fun _ h=>h⟩
   · show some (Value.int .i64 (56-8*(j.k:Int)-8))=some (Value.int .i64 (56-8*((j.k+1:Nat):Int)))
     congr 2
     omega
   refine Z2 _ ?_
   rw [←ck]
   have e:sizeB n (j.k+1)=sizeB n j.k++[IntKind.u8.wrap (shrV .u64 (IntKind.u64.wrap (IntKind.u64.wrap n*8)) (56-8*(j.k:Int)))]:=by simp [sizeB,List.range_succ]
   simp only [e,ZC]
   exact al _
 have hj8:j.k=8:=by omega
 refine eL (hm:=aw) ?_
 repeat' (first|refine gs ?_|refine gs1 fun _=>?_|(refine gp ?_ ?_<;>intro hx_ this)|fail)
 apply ad;apply ag;rfl;rfl
 rw [hj8,←hL,endV]
def iniS:St8:=⟨1779033703,3144134277,1013904242,2773480762,1359893119,2600822924,528734635,1541459225⟩
def loopV:Nat→St8→ByteArray→St8×ByteArray
 | 0,x,r=>(x,r)
 | f+1,x,r=>bif decide (64≤(r.size:Int)) then loopV f (mixV x (r.extract 0 64)) (r.extract 64 r.size) else (x,r)
def loopE:Nat→St8→ByteArray→St8
 | 0,x,_=>x
 | f+1,x,r=>bif seqB r ⟨#[]⟩ then x else loopE f (mixV x (r.extract 0 64)) (r.extract 64 r.size)
theorem dF (r:ByteArray):seqB r ⟨#[]⟩=decide (r.size=0):=by
 have h1:(⟨#[]⟩:ByteArray).toList=[]:=by simp [ByteArray.toList_eq]
 by_cases h:r.size=0
 · have:r=⟨#[]⟩:=by
    have h2:r.data=#[]:=Array.eq_empty_of_size_eq_zero h
    obtain ⟨d⟩:=r
    exact congrArg ByteArray.mk h2
   subst this
   simp only [seqB,h1]
   rfl
 · simp only [h,Zr]
   cases hs:seqB r ⟨#[]⟩ with
   | false=>rfl
   | true =>
    exfalso
    have h3:r.toList=[]:=by
     have:=hs
     simp only [seqB,h1] at this
     simpa using this
    have h4:r.toList.length=r.size:=by simp [ByteArray.toList_eq]
    rw [h3] at h4
    simp at h4
    omega
structure ShaA (s:ByteArray) where
 f:Nat
 x:St8
 r:ByteArray
 h:r.size≤f
 hs:r.size≤s.size
 e:loopV f x r=loopV s.size iniS s
def ShaA.next {s:ByteArray} (i:ShaA s) (h:64≤i.r.size):ShaA s :=
 ⟨i.f-1,mixV i.x (i.r.extract 0 64),i.r.extract 64 i.r.size,by have:=i.h;simp only [ByteArray.size_extract];omega,by have:=i.hs;simp only [ByteArray.size_extract];omega,by
  rw [←i.e]
  cases hf:i.f with
  | zero=>have:=i.h;omega
  | succ f =>
   have:decide (64≤(i.r.size:Int))=true:=Zd aa
   simp only [loopV,this,Zf,Nat.add_sub_cancel]⟩
theorem ShaA.last {s:ByteArray} (i:ShaA s) (h:¬ 64≤i.r.size):loopV s.size iniS s=(i.x,i.r):=by
 rw [←i.e]
 cases hf:i.f with
 | zero=>rfl
 | succ f =>
  have:decide (64≤(i.r.size:Int))=false:=Zc aa
  simp only [loopV,this,Ze]
structure ShaE (x0:St8) (s:ByteArray) where
 f:Nat
 x:St8
 r:ByteArray
 h:r.size≤f
 hm:r.size%64=0
 e:loopE f x r=loopE s.size x0 s
def ShaE.next {x0:St8} {s:ByteArray} (i:ShaE x0 s) (h:0<i.r.size):ShaE x0 s :=
 ⟨i.f-1,mixV i.x (i.r.extract 0 64),i.r.extract 64 i.r.size,by have:=i.h;simp only [ByteArray.size_extract];omega,by have:=i.hm;simp only [ByteArray.size_extract];omega,by
  rw [←i.e]
  cases hf:i.f with
  | zero=>have:=i.h;omega
  | succ f =>
   have:seqB i.r ⟨#[]⟩=false:=by rw [dF];exact Zc aa
   simp only [loopE,this,Ze,Nat.add_sub_cancel]⟩
theorem ShaE.last {x0:St8} {s:ByteArray} (i:ShaE x0 s) (h:i.r.size=0):loopE s.size x0 s=i.x:=by
 rw [←i.e]
 cases hf:i.f with
 | zero=>rfl
 | succ f =>
  have:seqB i.r ⟨#[]⟩=true:=by rw [dF];exact Zd h
  simp only [loopE,this,Zf]
def digB (w:Int):List Int:=[IntKind.u8.wrap (shrV .u32 w 24),IntKind.u8.wrap (shrV .u32 w 16),IntKind.u8.wrap (shrV .u32 w 8),IntKind.u8.wrap w]
def shaV (s:ByteArray):ByteArray :=
 let p:=loopV s.size iniS s
 let r:=endV p.2 s.size
 ofInts ((loopE r.size p.1 r).l.flatMap digB)
theorem sH (l:List Int):(l.flatMap digB).length=4*l.length:=by
 induction l with
 | nil=>rfl
 | cons a l ih=>rw [List.flatMap_cons,ZA,ih];simp [digB];omega
theorem St8.len (x:St8):x.l.length=8:=rfl
theorem oE (s:ByteArray):(shaV s).size=32:=by
 simp only [shaV]
 rw [fg,sH,St8.len]
theorem pM (s:ByteArray) (hs:s.size≤1099511627776):Pu Tryz.prog 54 #[.string s] Glob (.string (shaV s)):=by
 refine ak (args:=[_]) _ Tryz.func54 rfl Tryz.ntmps54 rfl fun av bor w0=>?_
 repeat' (first|refine gs ?_|refine gs1 fun _=>?_|(refine vp (cs:=u32s iniC) (hF:=fun w h=>h.ini) (hl:=by rfl) ?_)|fail)
 rename_i b
 refine aq (ι:=ShaA s) (fun i=>⟨[(0,.string s),(3,.pointer (some ⟨b,0,none⟩)),(4,.string i.r)],[cel b 168 (u32s i.x.l)],Glob⟩) (fun i=>i.f) ⟨s.size,iniS,s,ZX _,ZX _,rfl⟩ (aj am (al _) fun _ h=>h) fun i=>?_
 repeat' (first|refine gs ?_|refine gs1 fun _=>?_|(refine gp ?_ ?_<;>intro hx_ this)|fail)
 · have h64:64≤i.r.size:=by omega
   have hx64:(i.r.extract 0 (Int.toNat 64)).size=64:=by simp only [ByteArray.size_extract];have:Int.toNat 64=64:=rfl;omega
   (refine ar ⟨[1,2],[(0,⟨[],[(3,⟨[],[(4,⟨[],[]⟩)]⟩)]⟩)]⟩ [] (fun _=>True) (h:=?_))
   all_goals repeat' (first|refine ab (hc:=Bv i.x _ hx64) ?_|refine gd ?_|refine ay (hy:=by first|(apply tn;rfl;rfl;decide;omega)) ?_|refine aA ?_ (h':=?_)|exact aB|(refine aM ?_)|refine gs1 fun _=>?_|(refine gq ?_ ?_<;>intro hx_ this)|fail)
   all_goals (repeat' (first|refine gs ?_|refine gs1 fun _=>?_|(refine gp ?_ ?_<;>intro hx_ this)|fail))
   refine vn (h0:=by decide) (h1:=by omega) ?_
   repeat' (first|refine gs ?_|refine gs1 fun _=>?_|(refine gp ?_ ?_<;>intro hx_ this)|fail)
   exact ⟨i.next h64,(by show i.f-1<i.f;have:=i.h;omega),aj am (al _) fun _ h=>h⟩
 have hlast:=i.last aa
 have hrs:=i.hs
 repeat' (first|refine ab (hc:=yw i.r _ aa) ?_|refine gs ?_|refine gs1 fun _=>?_|(refine gp ?_ ?_<;>intro hx_ this)|fail)
 have hmod:=pb i.r (s.size:Int)
 generalize hr0:endV i.r (s.size:Int)=r0 at *
 refine aq (ι:=ShaE i.x r0) (fun j=>⟨[(3,.pointer (some ⟨b,0,none⟩)),(4,.string j.r)],[cel b 168 (u32s j.x.l)],Glob⟩) (fun j=>j.f) ⟨r0.size,i.x,r0,ZX _,hmod,rfl⟩ (aj am (al _) fun _ h=>h) fun j=>?_
 have hjm:=j.hm
 repeat' (first|refine gs ?_|refine gs1 fun _=>?_|(refine gp ?_ ?_<;>intro hx_ this)|fail)
 · have hne:0<j.r.size:=by
    have:seqB j.r ⟨#[]⟩=false:=by simpa using hx_
    rw [dF] at this
    have:=aX this
    omega
   have h64:64≤j.r.size:=by omega
   have hx64:(j.r.extract 0 (Int.toNat 64)).size=64:=by simp only [ByteArray.size_extract];have:Int.toNat 64=64:=rfl;omega
   (refine ar ⟨[1,2],[(0,⟨[],[(3,⟨[],[(4,⟨[],[]⟩)]⟩)]⟩)]⟩ [] (fun _=>True) (h:=?_))
   all_goals repeat' (first|refine ab (hc:=Bv j.x _ hx64) ?_|refine gd ?_|refine ay (hy:=by first|(apply tn;rfl;rfl;decide;omega)) ?_|refine aA ?_ (h':=?_)|exact aB|(refine aM ?_)|refine gs1 fun _=>?_|(refine gq ?_ ?_<;>intro hx_ this)|fail)
   all_goals (repeat' (first|refine gs ?_|refine gs1 fun _=>?_|(refine gp ?_ ?_<;>intro hx_ this)|fail))
   refine vn (h0:=by decide) (h1:=by omega) ?_
   repeat' (first|refine gs ?_|refine gs1 fun _=>?_|(refine gp ?_ ?_<;>intro hx_ this)|fail)
   exact ⟨j.next hne,(by show j.f-1<j.f;have:=j.h;omega),aj am (al _) fun _ h=>h⟩
 have hz:j.r.size=0:=by
  have:seqB j.r ⟨#[]⟩=true:=by simpa using hx_
  rw [dF] at this
  exact aL this
 have hend:=j.last hz
 have hl8:=St8.len j.x
 repeat' (first|refine gs ?_|refine gs1 fun _=>?_|(refine ix (c:=32) (hy:=by rfl) (hm:=by rfl) (hm2:=by rfl) fun q=>?_)|fail)
 generalize hL:j.x.l=L at *
 have hfl:=fun k=>sH (L.take k)
 refine aq (ι:=EndS 8) (fun m=>⟨[(5,.slice m.A (4*m.k) m.c),(32,.agg (u32s L).toArray),(33,.int .i64 m.k)],[orow 5 1 (.slice m.A (4*m.k) m.c) (4*m.k) (u8s ((L.take m.k).flatMap digB))],Glob⟩) (fun m=>8-m.k) ⟨0,Z4 _,_,_⟩ (aj am (Z3 _ (Z2 _ (al _))) fun _ h=>h) fun m=>?_
 have hmk:=m.hk
 repeat' (first|refine gs ?_|refine gs1 fun _=>?_|(refine gp ?_ ?_<;>intro hx_ this)|fail)
 · have hlt:m.k<8:=by omega
   have hg:(u32s L).toArray[((m.k:Nat):Int).toNat]?=some (.int .u32 (L.getD m.k 0)):=by
    rw [ZZ]
    simpa using gW L m.k aa
   repeat' (first|refine gs ?_|refine gs1 fun _=>?_|(refine Di (hv:=hg) ?_)|fail)
   refine aF (size:=1) (z:=.int .u8 0) (news:=u8s (digB (L.getD m.k 0))) (q:=4) rfl rfl rfl rfl (fun _=>At.there _ (At.here _)) (fun w G=>bT G aw rfl rfl 4) ?_ ?_ rfl ?_ rfl ?_
   · omega
   · simp only [maxLen];omega
   · rfl
   intro A2 c2
   repeat' (first|refine gs ?_|refine gs1 fun _=>?_|(refine gp ?_ ?_<;>intro hx_ this)|fail)
   refine ⟨(⟨m.k+1,hlt,A2,c2⟩:EndS 8),(by show 8-(m.k+1)<8-m.k;omega),aj ⟨?_,rfl,rfl,trivial⟩ ?_ fun _ h=>h⟩
   · rfl
   refine Z2 _ ?_
   rw [←ck]
   have e:(L.take (m.k+1)).flatMap digB=(L.take m.k).flatMap digB++digB (L.getD m.k 0):=by
    have hlt2:m.k<L.length:=by omega
    rw [Qg,List.flatMap_append,Zb hlt2,Zo,Zb hlt2]
    simp only [Qu,List.flatMap_cons,List.flatMap_nil,ZJ,Qe]
   simp only [e]
   exact al _
 have hm8:m.k=8:=by omega
 repeat' (first|refine gs ?_|refine gs1 fun _=>?_|(refine gp ?_ ?_<;>intro hx_ this)|fail)
 refine eL (hm:=aw) ?_
 repeat' (first|refine gs ?_|refine gs1 fun _=>?_|(refine gp ?_ ?_<;>intro hx_ this)|fail)
 apply ad;apply ag;rfl;rfl
 rw [hm8,Qf (by omega)]
 simp only [shaV,hlast,hr0,hend,hL]
structure ActD.Rng (a:ActD):Prop where
 ints:a.seq<9223372036854775808∧a.kind<9223372036854775808∧a.time<9223372036854775808∧a.scope<9223372036854775808∧a.epoch<9223372036854775808∧a.n<9223372036854775808∧a.m<9223372036854775808∧a.e<9223372036854775808∧a.s<9223372036854775808
 wints:∀ w∈a.wrapsL,w.to<9223372036854775808∧w.eph<9223372036854775808
 to_len:a.to.n=a.toL.length
 wraps_len:a.wraps.n=a.wrapsL.length
def useU (z0 z1 z2 z3 z4 z5 z6 z7 z8 z9 z10:Bool):Int :=
 noteV (noteV (noteV (noteV (noteV (noteV (noteV (noteV (noteV (noteV (noteV 0 1 z0) 2 z1) 4 z2) 8 z3) 16 z4) 32 z5) 64 z6) 128 z7) 256 z8) 512 z9) 1024 z10
def useOk (fs:Nat) (z0 z1 z2 z3 z4 z5 z6 z7 z8 z9 z10:Bool):Bool :=
 !decide (bitsV .andNot .i64 (useU z0 z1 z2 z3 z4 z5 z6 z7 z8 z9 z10) fs=0)||((fs.testBit 0||z0)&&(fs.testBit 1||z1)&&(fs.testBit 3||z3)&&(fs.testBit 4||z4)&&(fs.testBit 5||z5)&&(fs.testBit 6||z6)&&(fs.testBit 8||z8))
def bools (p:Bool→Bool):Bool:=p true&&p false
theorem bX {p:Bool→Bool} (h:bools p=true) (b:Bool):p b=true:=by
 simp only [bools,Zp] at h
 cases b
 · exact h.2
 · exact h.1
def useAll (fs:Nat):Bool:=bools fun z0=>bools fun z1=>bools fun z2=>bools fun z3=>bools fun z4=>bools fun z5=>bools fun z6=>bools fun z7=>bools fun z8=>bools fun z9=>bools fun z10=>useOk fs z0 z1 z2 z3 z4 z5 z6 z7 z8 z9 z10
theorem tB:([1568,252,253,1,2,33,24,412,35,1536,1808,513,546].all useAll)=true:=by decide +kernel
theorem zo {fs:Nat} (hfs:useAll fs=true) {z0 z1 z2 z3 z4 z5 z6 z7 z8 z9 z10:Bool} (h:bitsV .andNot .i64 (useU z0 z1 z2 z3 z4 z5 z6 z7 z8 z9 z10) fs=0) :
  (fs.testBit 0||z0)=true∧(fs.testBit 1||z1)=true∧(fs.testBit 3||z3)=true∧(fs.testBit 4||z4)=true∧(fs.testBit 5||z5)=true∧(fs.testBit 6||z6)=true∧(fs.testBit 8||z8)=true:=by
 have h1:=bX (bX (bX (bX (bX (bX (bX (bX (bX (bX (bX hfs z0) z1) z2) z3) z4) z5) z6) z7) z8) z9) z10
 simp only [useOk,h,Zt,Zn,Zi,Zp] at h1
 obtain ⟨⟨⟨⟨⟨⟨h2,h3⟩,h4⟩,h5⟩,h6⟩,h7⟩,h8⟩:=h1
 exact ⟨h2,h3,h4,h5,h6,h7,h8⟩
theorem kq {s:ByteArray} (h:isId s=true):s.size=16:=by
 simp only [isId,Zp,Zw] at h
 omega
theorem kZ {s:ByteArray} (h:isName s=true):s.size≤24:=by
 simp only [isName,Zp,Bool.not_eq_true',Qd] at h
 omega
theorem od {s:ByteArray} (h:isDigestB s=true):s.size=32:=by
 simp only [isDigestB,Zw] at h
 omega
theorem fA {s:ByteArray} (h:isShortB s=true):s.size≤500:=by
 simp only [isShortB,Zw] at h
 omega
theorem ek {s:ByteArray} (h:seqB s ⟨#[]⟩=true):s.size=0:=by
 rw [dF] at h
 exact aL h
structure Short (b:BoxD):Prop where
 nonce:b.nonce.size≤500
 data:b.data.size≤500
 tag:b.tag.size≤500
theorem Short.fit {b:BoxD} (h:Short b):b.Fit:=⟨by have:=h.nonce;omega,by have:=h.data;omega,by have:=h.tag;omega⟩
theorem Short.size {b:BoxD} (h:Short b):(boxV b).size≤1530:=by
 have h1:=az b.nonce
 have h2:=az b.data
 have h3:=az b.tag
 have:=h.nonce
 have:=h.data
 have:=h.tag
 simp only [boxV,Za]
 omega
theorem ig {b:BoxD} (h:isSealedB b=true):Short b:=by
 simp only [isSealedB,Zp,Zw] at h
 have:=fA h.2
 exact ⟨by omega,this,by omega⟩
theorem ef {b:BoxD} (h:boxEq b BoxD.zero=true):Short b:=by
 simp only [boxEq,Zp,BoxD.zero] at h
 obtain ⟨⟨h1,h2⟩,h3⟩:=h
 have:=ek h1
 have:=ek h2
 have:=ek h3
 exact ⟨by omega,by omega,by omega⟩
structure ToOk (l:List ByteArray):Prop where
 len:l.length≤64
 each:∀ x∈l,x.size≤16
theorem iG {n:Nat} {bad:Nat→Bool} (h:allB n bad=true) {k:Nat} (hk:k<n):bad k=false:=by
 simp only [allB,List.all_eq_true,List.mem_range] at h
 simpa using h k hk
theorem jL {l:List ByteArray} (h:isIds l=true):ToOk l:=by
 simp only [isIds,Zp,Bool.not_eq_true',Qd] at h
 refine ⟨by omega,fun x hx=>?_⟩
 obtain ⟨k,hk,rfl⟩:=Qx hx
 have h1:=iG h.2 hk
 simp only [badIds,Ql,Bool.not_eq_false'] at h1
 have h2:l.getD k .empty=l[k]:=by simp [hk]
 rw [h2] at h1
 have:=kq h1.1
 omega
theorem qv {B:Nat}:∀ (l:List ByteArray),(∀ x∈l,x.size≤B)→(cats l).size≤l.length*B
 | [],_=>by simp [cats]
 | x::l,h=>by
  have h1:=qv l fun y hy=>h y (Zv _ hy)
  have h2:=h x aw
  simp only [cats,Za,ZB,QF,Nat.one_mul]
  omega
theorem ToOk.size {l:List ByteArray} (h:ToOk l):(listV l).size≤1073741824:=by
 have h1:=ap l.length
 have h2:=qv (B:=26) (l.map textV) (fun x hx=>by
  obtain ⟨y,hy,rfl⟩:=QJ.1 hx
  have:=h.each y hy
  have:=az y
  omega)
 have h3:=h.len
 simp only [ZF] at h2
 simp only [listV,Za]
 omega
theorem ToOk.nil {l:List ByteArray} (h:l.length=0):ToOk l:=by
 have:l=[]:=Z8 h
 subst this
 exact ⟨by simp,by simp⟩
structure WrapsOk (l:List WrapD):Prop where
 len:l.length≤64
 each:∀ x∈l,Short x.box
theorem WrapsOk.size {l:List WrapD} (h:WrapsOk l):(cats (l.map wrapV)).size≤1073741824:=by
 have h2:=qv (B:=1550) (l.map wrapV) (fun x hx=>by
  obtain ⟨y,hy,rfl⟩:=QJ.1 hx
  have:=(h.each y hy).size
  have:=ap y.to
  have:=ap y.eph
  simp only [wrapV,Za]
  omega)
 have h3:=h.len
 simp only [ZF] at h2
 omega
theorem WrapsOk.nil {l:List WrapD} (h:l.length=0):WrapsOk l:=by
 have:l=[]:=Z8 h
 subst this
 exact ⟨by simp,by simp⟩
theorem lN {a:ActD} (hr:a.Rng) (ht:ToOk a.toL) (h:wrappedB a=true):WrapsOk a.wrapsL:=by
 simp only [wrappedB,Zp,Zw] at h
 have h1:=hr.to_len
 have h2:=hr.wraps_len
 have h3:=ht.len
 refine ⟨by omega,fun x hx=>?_⟩
 obtain ⟨k,hk,rfl⟩:=Qx hx
 have h4:=iG h.1 hk
 rw [jX (Zb hk)] at h4
 simp only [Ql,Bool.not_eq_false'] at h4
 exact ig h4.2.2
structure Bnd (a:ActD):Prop where
 object:a.object.size≤500
 target:a.target.size≤500
 group:a.group.size≤500
 text:a.text.size≤500
 body:Short a.body
 to:ToOk a.toL
 wraps:WrapsOk a.wrapsL
theorem rV {κ β:Type} [KeyT κ] {k:κ} {x:β}:∀ {l:List (κ×β)},mget l k=some x→∃ k',(k',x)∈l
 | [],h=>by cases h
 | (k',v)::r,h=>by
  simp only [mget] at h
  cases hb:KeyT.eqb k k' with
  | true=>rw [hb] at h;simp at h;subst h;exact ⟨k',aw⟩
  | false=>rw [hb] at h;obtain ⟨k2,h2⟩:=rV (l:=r) (by simpa using h);exact ⟨k2,Zv _ h2⟩
theorem mH {sc:Int} {g:ByteArray} (h:sealedScopeB sc g=true):g.size≤500:=by
 unfold sealedScopeB at h
 cases h1:decide (sc=2)<;>cases h2:decide (sc=1)<;>cases h3:decide (sc=3)<;>simp only [h1,h2,h3,Zf,Ze] at h
 all_goals first
  | (have:=kZ h;omega)
  | (have:=ek h;omega)
  | cases h
theorem lg {a:ActD} (h:audienceB a=true):a.group.size≤500∧a.text.size≤500∧Short a.body∧ToOk a.toL:=by
 unfold audienceB at h
 cases h0:isIds a.toL with
 | false=>simp [h0] at h
 | true =>
  have ht:=jL h0
  cases h1:decide (a.scope=0) with
  | true =>
   simp only [h0,h1,Zn,Zf,Ze,Zp] at h
   obtain ⟨⟨⟨h2,h3⟩,h4⟩,h5⟩:=h
   have:=ek h2
   have:=fA h4
   exact ⟨by omega,by omega,ef h5,ht⟩
  | false =>
   cases h6:(decide (0<(a.to.n:Int))&&!decide (a.scope=3)) with
   | true=>simp only [h0,h1,h6,Zn,Zf,Ze] at h;cases h
   | false =>
    simp only [h0,h1,h6,Zn,Zf,Ze,Zp] at h
    obtain ⟨⟨⟨h2,h3⟩,h4⟩,h5⟩:=h
    have:=ek h4
    exact ⟨mH h2,by omega,ig h5,ht⟩
theorem db {s:ByteArray} (h:seqB s ⟨#[]⟩=true):s.size≤500:=by have:=ek h;omega
theorem GA {a:ActD} (hr:a.Rng) (h:decide ((a.to.n:Int)=0)=true):ToOk a.toL:=ToOk.nil (by have:=aL h;have:=hr.to_len;omega)
theorem lq {a:ActD} (hr:a.Rng) (h:decide ((a.wraps.n:Int)=0)=true):WrapsOk a.wrapsL:=WrapsOk.nil (by have:=aL h;have:=hr.wraps_len;omega)
theorem sQ {s:ByteArray} (h:isDigestB s=true):s.size≤500:=by have:=od h;omega
theorem BK {s:ByteArray} (h:isId s=true):s.size≤500:=by have:=kq h;omega
theorem Bt {s:ByteArray} (h:isName s=true):s.size≤500:=by have:=kZ h;omega
theorem zm (a:ActD):usedV a=useU (seqB a.object ⟨#[]⟩) (seqB a.target ⟨#[]⟩) (decide (a.scope=0)) (seqB a.group ⟨#[]⟩) (decide ((a.to.n:Int)=0)) (seqB a.text ⟨#[]⟩) (boxEq a.body BoxD.zero) (decide (a.epoch=0)) (decide ((a.wraps.n:Int)=0)) (decide (a.n=0)) (decide (a.m=0)):=rfl
theorem ld {a:ActD} (hr:a.Rng) (h:ruleB a=true):Bnd a:=by
 unfold ruleB at h
 cases hk:mget (ruleL a) a.kind with
 | none=>rw [hk] at h;cases h
 | some x =>
  obtain ⟨fs,b⟩:=x
  rw [hk] at h
  simp only [Zp,Zw] at h
  obtain ⟨hu,hb⟩:=h
  rw [zm] at hu
  obtain ⟨k',hm⟩:=rV hk
  obtain ⟨n,hn,hmem⟩:∃ n:Nat,fs=n∧n∈[1568,252,253,1,2,33,24,412,35,1536,1808,513,546]:=by
   simp only [ruleL,ZI,Prod.mk.injEq,Qk,or_false] at hm
   clear hu hb hk
   rcases hm with ⟨-,h9,-⟩|⟨-,h9,-⟩|⟨-,h9,-⟩|⟨-,h9,-⟩|⟨-,h9,-⟩|⟨-,h9,-⟩|⟨-,h9,-⟩|⟨-,h9,-⟩|⟨-,h9,-⟩|⟨-,h9,-⟩|⟨-,h9,-⟩|⟨-,h9,-⟩|⟨-,h9,-⟩|⟨-,h9,-⟩|⟨-,h9,-⟩|⟨-,h9,-⟩|⟨-,h9,-⟩|⟨-,h9,-⟩|⟨-,h9,-⟩|⟨-,h9,-⟩|⟨-,h9,-⟩|⟨-,h9,-⟩|⟨-,h9,-⟩|⟨-,h9,-⟩<;>exact ⟨fs.toNat,by omega,by rw [h9];decide⟩
  rw [hn] at hu
  obtain ⟨u0,u1,u3,u4,u5,u6,u8⟩:=zo (List.all_eq_true.1 tB n hmem) hu
  clear hu hmem hk
  simp only [ruleL,ZI,Prod.mk.injEq,Qk,or_false] at hm
  rcases hm with ⟨-,rfl,rfl⟩|⟨-,rfl,rfl⟩|⟨-,rfl,rfl⟩|⟨-,rfl,rfl⟩|⟨-,rfl,rfl⟩|⟨-,rfl,rfl⟩|⟨-,rfl,rfl⟩|⟨-,rfl,rfl⟩|⟨-,rfl,rfl⟩|⟨-,rfl,rfl⟩|⟨-,rfl,rfl⟩|⟨-,rfl,rfl⟩|⟨-,rfl,rfl⟩|⟨-,rfl,rfl⟩|⟨-,rfl,rfl⟩|⟨-,rfl,rfl⟩|⟨-,rfl,rfl⟩|⟨-,rfl,rfl⟩|⟨-,rfl,rfl⟩|⟨-,rfl,rfl⟩|⟨-,rfl,rfl⟩|⟨-,rfl,rfl⟩|⟨-,rfl,rfl⟩|⟨-,rfl,rfl⟩
  all_goals
   have hn':=congrArg Int.toNat hn
   rw [ZZ] at hn'
   subst hn'
   try simp only [rule1B,rule2B,rule3B,rule4B,rule5B,rule6B,objectB,targetB,grantB,setupB,Zp] at hb
  all_goals first
   | (have hA:=lg hb;exact ⟨db u0,db u1,hA.1,hA.2.1,hA.2.2.1,hA.2.2.2,lq hr u8⟩)
   | (have hA:=lg hb.2;exact ⟨sQ hb.1,db u1,hA.1,hA.2.1,hA.2.2.1,hA.2.2.2,lq hr u8⟩)
   | (have hT:=jL hb.1.2;exact ⟨db u0,db u1,mH hb.1.1.1,db u5,ef u6,hT,lN hr hT hb.2⟩)
   | (have hT:=jL hb.1.1.1.2;exact ⟨db u0,db u1,db u3,db u5,ef u6,hT,lN hr hT hb.1.1.2⟩)
   | exact ⟨by first|exact db u0|exact sQ hb.1|exact sQ hb,by first|exact db u1|exact BK hb|exact BK hb.1.1,by first|exact db u3|exact Bt hb.1,by first|exact db u5|exact fA hb.2|exact Bt hb.1|exact fA hb.1.2,ef u6,by first|exact GA hr u4|exact jL hb.2,lq hr u8⟩
   | skip
  unfold labelB at hb
  cases hN:isName a.text with
  | false=>simp [hN] at hb
  | true =>
   simp only [hN,Zn,Ze,Bool.or_eq_true,Zp,objectB,targetB] at hb
   refine ⟨?_,?_,db u3,Bt hN,ef u6,GA hr u4,lq hr u8⟩
   · rcases hb with hb|hb
     · exact sQ hb.1
     · exact db hb.2
   · rcases hb with hb|hb
     · exact db hb.2
     · exact BK hb.1
theorem dt {a:ActD} (hr:a.Rng) (h:rightB a=true):a.Fit:=by
 simp only [rightB,Zp] at h
 obtain ⟨⟨⟨⟨⟨h1,h2⟩,h3⟩,h4⟩,h5⟩,h6⟩:=h
 have hB:=ld hr h6
 have hp:a.prev.size≤500:=by
  unfold placedB at h2
  cases hs:decide (a.seq=0) with
  | true=>simp only [hs,Zf,Zp] at h2;exact db h2.2
  | false=>simp only [hs,Ze,Zp] at h2;exact sQ h2.2
 have:=kq h1
 have:=hB.object
 have:=hB.target
 have:=hB.group
 have:=hB.text
 exact ⟨by omega,by omega,by omega,by omega,by omega,by omega,hB.body.fit,hB.to.size,fun w hw=>(hB.wraps.each w hw).fit,hB.wraps.size,hr.ints,hr.wints⟩
end Go.Proofs.YtaolfiikahlmkaaGreatDoor
namespace Go.Proofs.YtaolfiikahlmkaaGreatDoor.Sy
open Go Go.RowKit
section
variable {P:Program} {N:Nat} {av bor:List Nat} {w0:World} {ops:Array Oper} {rest:List Oper} {k:St→Prop} {E:Env} {loc loc':List Res} {X:World→Prop}
variable {d:Option Tmp} {ty:TypeId} {pos:String} {af:Array Edge} {g:Option (Nat×Bool)} {bb want:Bool} {K:Exit→St→Prop}
theorem CF {st:St} {x y:Operand} {t t2 e n b':Nat} {p:Option Addr} {m c:Nat} [hI:TySl P t e n b'] (hx:ev st.env x=some (.slice p m c)) (hy:ev st.env y=some (.slice none 0 0)):Sy.Yields P N av bor w0 st (.binOp .eql t x y t2) ty (.bool p.isNone):=Sy.Yields.mk fun A w ok d pos af g=>by
 have:=Lib.run_eql_slice_nil (P:=P) w t e p m c 0 0 (cN hI.out).1
 simp [execOp,ok.eval hx,ok.eval hy,eqGuard,this]
theorem qS {nn:Nat} {x y:Operand} {t t2 e n b':Nat} {p:Option Addr} {m c:Nat} [hI:TySl P t e n b'] (h:Sw P N av bor w0 ops rest ⟨(nn,.bool p.isNone)::E,loc,X⟩ k) (hx:ev E x=some (.slice p m c):=by rfl) (hy:ev E y=some (.slice none 0 0):=by rfl) (hg:gdB ops E g=some (bb,want):=by rfl) (hbb:bb=want:=by exact ao) (hd:Nat.blt nn N=true:=by rfl):Sw P N av bor w0 ops (⟨some nn,.binOp .eql t x y t2,ty,pos,af,g⟩::rest) ⟨E,loc,X⟩ k:=ai (CF hx hy) hg hbb hd h
theorem aH {n:Nat} {x y:Operand} {t t2:TypeId} {kk:IntKind} {a b:Int} (h:Sw P N av bor w0 ops rest ⟨(n,.bool true)::E,loc,X⟩ k) (hx:ev E x=some (.int kk a):=by rfl) (hy:ev E y=some (.int kk b):=by rfl) (hab:a=b:=by decide) (hg:gdB ops E g=some (bb,want):=by rfl) (hbb:bb=want:=by exact ao) (hd:Nat.blt n N=true:=by rfl) :
  Sw P N av bor w0 ops (⟨some n,.binOp .eql t x y t2,ty,pos,af,g⟩::rest) ⟨E,loc,X⟩ k:=ai (by have:=oq (P:=P) (N:=N) (av:=av) (bor:=bor) (w0:=w0) (st:=⟨E,loc,X⟩) (ty:=ty) (t:=t) (t2:=t2) hx hy;rwa [Zd hab] at this) hg hbb hd h
theorem aG {n:Nat} {x y:Operand} {t t2:TypeId} {kk:IntKind} {a b:Int} (h:Sw P N av bor w0 ops rest ⟨(n,.bool false)::E,loc,X⟩ k) (hx:ev E x=some (.int kk a):=by rfl) (hy:ev E y=some (.int kk b):=by rfl) (hab:¬ a=b:=by decide) (hg:gdB ops E g=some (bb,want):=by rfl) (hbb:bb=want:=by exact ao) (hd:Nat.blt n N=true:=by rfl) :
  Sw P N av bor w0 ops (⟨some n,.binOp .eql t x y t2,ty,pos,af,g⟩::rest) ⟨E,loc,X⟩ k:=ai (by have:=oq (P:=P) (N:=N) (av:=av) (bor:=bor) (w0:=w0) (st:=⟨E,loc,X⟩) (ty:=ty) (t:=t) (t2:=t2) hx hy;rwa [Zc hab] at this) hg hbb hd h
theorem dH {m:Nat} {t:TypeId} {x y:Operand} {b off T:Nat} {cs vs:List Value} (cs':List Value) {arr:Array Value} [ht:TyAgg P t m] (hx:ev E x=some (.pointer (some ⟨b,off,none⟩)):=by rfl) (hy:ev E y=some (.agg arr):=by rfl) (hv:arr.toList=vs:=by (first|exact List.toList_toArray|rfl))
  (hA:At (cel b T cs) (cel b T cs') loc loc':=by (repeat (first|exact At.here _|apply At.there))) (hm:vs.length=m:=by rfl) (hl:Nat.ble (off+m) cs.length=true:=by rfl) (h1:vs.all (·.oneCell')=true:=by rfl) (hc2:cs.take off++vs++cs.drop (off+m)=cs':=by rfl) (hg:gdB ops E g=some (bb,want):=by rfl) (hb:bb=want:=by exact ao) (hd:inB N d=true:=by rfl)
  (h:Sw P N av bor w0 ops rest ⟨putE E d undef,loc',X⟩ k):Sw P N av bor w0 ops (⟨d,.store t x y,ty,pos,af,g⟩::rest) ⟨E,loc,X⟩ k:=by
 obtain ⟨_,_,_,h3⟩:=cY (TyAgg.out (P:=P) (t:=t))
 exact mA (vs:=vs) (cs:=cs) (cs':=cs') (by rw [h3,hm]) hx hy (by simpa [Value.cells] using hv) h1 (by have:=Zx hl;omega) (by rw [hm];exact hc2) hA hg hb hd h
theorem jl {n:Nat} {t e size b':Nat} [hs:TySl P t e size b'] (h:∀ b,Sw P N av bor w0 ops rest ⟨(n,.slice (some ⟨b,0,none⟩) 0 0)::E,orow e size (.slice (some ⟨b,0,none⟩) 0 0) 0 []::loc,X⟩ k) (hg:gdB ops E g=some (bb,want):=by rfl) (hb:bb=want:=by exact ao) (hd:Nat.blt n N=true:=by rfl):Sw P N av bor w0 ops (⟨some n,.buildSlice t 0 #[],ty,pos,af,g⟩::rest) ⟨E,loc,X⟩ k:=Sw.mk fun a w ok=>by
 have hd':inB N (some n)=true:=by have h1:n<N:=Zx hd;simpa [inB] using h1
 obtain ⟨ht,inf,hi,hi1,hi2⟩:=cN hs.out
 have hsz:(sizeOf e).run P w=.ok size w:=by simp [sizeOf,typeInfo,hi,hi1]
 simp only [wpList]
 rw [bA ok (o:=⟨some n,.buildSlice t 0 #[],ty,pos,af,g⟩) hg]
 subst hb
 simp only [Zz,ZN]
 left
 unfold Oper.wp
 have hr:(execOp a.eval ⟨some n,.buildSlice t 0 #[],ty,pos,af,g⟩).run P w=.ok (.value (.slice (some ⟨w.heap.size,0,none⟩) 0 0)) (w.alloc (.cells #[] e)):=by
  have hr0:∀ f:Nat→Value,Array.map f (Array.range 0)=#[]:=fun f=>Array.eq_empty_of_size_eq_zero (by simp)
  simp [execOp,Instr.buildSlice,run_underlying ht,hsz,Instr.fill,hr0,eA]
 rw [hr]
 have ok':Ok N av bor w0 ⟨E,orow e size (.slice (some ⟨w.heap.size,0,none⟩) 0 0) 0 []::loc,X⟩ a (w.alloc (.cells #[] e)):=(ok.via fun M G=>G.new (.cells #[] e) (fun w2=>ORow w2 e size (.slice (some ⟨w.heap.size,0,none⟩) 0 0) 0 []) (fun w2 h=>⟨by simp,.inr ⟨w.heap.size,0,_,(0,0),rfl,h,ZX _,Z4 _,by simp,by simp,.inl rfl⟩⟩))
 exact (h _).run _ _ (df (some n) _▸ok'.put hd' _)
end
theorem k8 {size:Nat}:∀ (xs:List (List Value)) (i:Nat) (cs:List Value),(∀ r∈xs,r.length=size)→xs[i]?=some cs→∀ j u,cs[j]?=some u→xs.flatten[i*size+j]?=some u
 | [],i,cs,_,h,j,u,_=>by simp at h
 | r::xs,0,cs,hl,h,j,u,hj=>by
  simp at h
  subst h
  have h1:=(QL.1 hj).1
  rw [Qb,Nat.zero_mul,ZU,ZG h1,hj]
 | r::xs,i+1,cs,hl,h,j,u,hj=>by
  have h1:r.length=size:=hl r aw
  rw [Qb,ZV (by rw [h1,QF];omega),h1,show (i+1)*size+j-size=i*size+j from by rw [QF];omega]
  exact k8 xs i cs (fun q hq=>hl q (Zv _ hq)) (by simpa using h) j u hj
theorem sG {size:Nat} (xs:List (List Value)) (h:∀ r∈xs,r.length=size):xs.flatten.length=xs.length*size:=by
 rw [List.length_flatten]
 have:∀ x∈xs.map List.length,x=size:=by
  intro x hx
  obtain ⟨cs,hcs,rfl⟩:=QJ.1 hx
  exact h cs hcs
 rw [List.eq_replicate_of_mem this]
 simp
theorem bz {w:World} {e size n c:Nat} {A:Option Addr} {xs:List (List Value)} (h:ORow w e size (.slice A n c) n xs.flatten) (hn:n=xs.length) (hs:∀ r∈xs,r.length=size):RowsD w size ⟨A,n,c⟩ xs:=by
 rcases h.2 with ⟨h1,h2⟩|⟨g,cap,cur,fz,h1,hg,hnc,hcm,hcs,htake,hfz⟩
 · have hx:xs=[]:=Z8 aa
   subst hx
   simp only [Value.slice.injEq] at h1
   obtain ⟨rfl,rfl,rfl⟩:=h1
   exact ⟨rfl,ZX _,Z4 _,fun i cs hi=>by simp at hi⟩
 · simp only [Value.slice.injEq] at h1
   obtain ⟨rfl,_,rfl⟩:=h1
   refine ⟨hn,hnc,hcm,fun i cs hi=>⟨hs cs (Z6 hi),rfl,fun j u hj=>⟨rfl,fun a ha=>?_⟩⟩⟩
   cases ha
   have hf:=k8 xs i cs hs hi j u hj
   have hadd:(⟨g,0,none⟩:Addr).add (i*size+j)=⟨g,i*size+j,none⟩:=by unfold Addr.add;split<;>simp_all
   rw [hadd,cell_of_row w g _ cur e fz hg]
   rw [←htake,QH] at hf
   split at hf
   · simpa using hf
   · cases hf
theorem kV {w:World} {b e size n:Nat} {cs:List Value} (h:w.heap[b]?=some (.cells cs.toArray e (0,0))) (hl:cs.length=n*size) (hm:n≤maxLen):ORow w e size (.slice (some ⟨b,0,none⟩) n n) n cs :=
 ⟨hl,.inr ⟨b,n,_,(0,0),rfl,h,ZX _,hm,by simpa using hl,by simp [←hl],.inl rfl⟩⟩
theorem aN {w:World} {b e size n:Nat} {xs:List (List Value)} (h:w.heap[b]?=some (.cells xs.flatten.toArray e (0,0))) (hn:n=xs.length) (hm:n≤maxLen) (hs:∀ r∈xs,r.length=size):RowsD w size ⟨some ⟨b,0,none⟩,n,n⟩ xs :=
 bz (kV h (by rw [sG xs hs,hn]) hm) hn hs
theorem RowsD.none_nil {w:World} {size:Nat} {s:SlV} {xs:List (List Value)} (h:RowsD w size s xs) (hp:s.p.isNone=true):xs=[]:=by
 cases xs with
 | nil=>rfl
 | cons cs r =>
  have:=(h.row 0 cs rfl).2.1
  cases hq:s.p<;>simp_all
theorem bt (w:World) (size:Nat):RowsD w size ⟨none,0,0⟩ []:=⟨rfl,ZX _,Z4 _,fun i cs hi=>by simp at hi⟩
def CloneAt (size:Nat) (xs:List (List Value)) (u:Value) (X:World→Prop):Prop:=∃ s:SlV,u=s.v∧s.n=xs.length∧∀ w,X w→RowsD w size s xs
end Go.Proofs.YtaolfiikahlmkaaGreatDoor.Sy
namespace Go.Proofs.YtaolfiikahlmkaaGreatDoor
open Go Go.Proofs Sy
theorem kG (s:SlV) (xs:List (List Value)) (hb:s.n*16≤140737488351232) (h1:∀ cs∈xs,cs.all (·.oneCell')=true):Mk Tryz.prog 55 #[s.v] (fun w=>RowsD w 1 s xs) (CloneAt 1 xs):=by
 refine bM (args:=[_]) _ Tryz.func55 rfl Tryz.ntmps55 rfl fun av bor w0=>?_
 refine aP (p:=s.n=xs.length∧(∀ r∈xs,r.length=1)∧(s.p.isNone=true→xs=[])) (fun w h=>⟨h.len,fun r hr=>?_,h.none_nil⟩) fun ⟨hl,hr1,hnil⟩=>?_
 · obtain ⟨i,hi⟩:=QP.1 hr
   exact (h.row i r hi).1
 repeat' (first|refine qS ?_|refine jl fun _=>?_|refine gs ?_|refine gs1 fun _=>?_|(refine gp ?_ ?_<;>intro hx_ this)|fail)
 · refine ad (ag rfl rfl) ⟨⟨none,0,0⟩,rfl,?_,fun w _=>?_⟩
   · rw [hnil hx_];rfl
   · rw [hnil hx_];exact bt w 1
 refine aF (size:=1) (z:=.string ⟨#[]⟩) (news:=xs.flatten) (q:=s.n) rfl rfl rfl rfl (fun _=>At.here _) (fun w G=>fJ G.keep.now h1) ?_ ?_ rfl ?_ rfl ?_
 · omega
 · simp only [maxLen];omega
 · rfl
 intro A c
 repeat' (first|refine gs ?_|refine gs1 fun _=>?_|fail)
 refine ad (ag rfl rfl) ⟨⟨A,0+s.n,c⟩,rfl,?_,fun w h=>?_⟩
 · show 0+s.n=xs.length
   omega
 · exact bz (h.2 _ aw) aa hr1
theorem kF (s:SlV) (xs:List (List Value)) (hb:s.n*64≤140737488351232) (h1:∀ cs∈xs,cs.all (·.oneCell')=true):Mk Tryz.prog 56 #[s.v] (fun w=>RowsD w 5 s xs) (CloneAt 5 xs):=by
 refine bM (args:=[_]) _ Tryz.func56 rfl Tryz.ntmps56 rfl fun av bor w0=>?_
 refine aP (p:=s.n=xs.length∧(∀ r∈xs,r.length=5)∧(s.p.isNone=true→xs=[])) (fun w h=>⟨h.len,fun r hr=>?_,h.none_nil⟩) fun ⟨hl,hr1,hnil⟩=>?_
 · obtain ⟨i,hi⟩:=QP.1 hr
   exact (h.row i r hi).1
 repeat' (first|refine qS ?_|refine jl fun _=>?_|refine gs ?_|refine gs1 fun _=>?_|(refine gp ?_ ?_<;>intro hx_ this)|fail)
 · refine ad (ag rfl rfl) ⟨⟨none,0,0⟩,rfl,?_,fun w _=>?_⟩
   · rw [hnil hx_];rfl
   · rw [hnil hx_];exact bt w 5
 refine aF (size:=5) (news:=xs.flatten) (q:=s.n) rfl rfl rfl rfl (fun _=>At.here _) (fun w G=>fJ G.keep.now h1) ?_ ?_ rfl ?_ rfl ?_
 · omega
 · simp only [maxLen];omega
 · rfl
 intro A c
 repeat' (first|refine gs ?_|refine gs1 fun _=>?_|fail)
 refine ad (ag rfl rfl) ⟨⟨A,0+s.n,c⟩,rfl,?_,fun w h=>?_⟩
 · show 0+s.n=xs.length
   omega
 · exact bz (h.2 _ aw) aa hr1
set_option maxRecDepth 20000 in
theorem jK (a:ActD):Pu Tryz.prog 73 #[itemV 0 a] (ActD.at_ · a) (.bool (rightB a)):=by
 refine ak (args:=[_]) _ Tryz.func73 rfl Tryz.ntmps73 rfl fun av bor w0=>?_
 repeat' (first|refine aH ?_|refine aG ?_|refine ab (hc:=dY a) ?_|refine ab (hc:=sj) ?_|refine gs ?_|refine gs1 fun _=>?_|(refine aD ?_)|(refine dH (itemCells 0 ActD.zero) (h:=?_))|(refine ax (vs:=a.cells) (hv:=rfl) ?_)|(refine gp ?_ ?_<;>intro hx_ this)|fail)
 all_goals (apply ad;apply ag;rfl;rfl;rw [hx_])
def bytesV (a:ActD):ByteArray:=bif rightB a then numV 0++actBytes a else ⟨#[]⟩
theorem fY {a:ActD} (hr:a.Rng):(actBytes a).size≤300000000020:=by
 have n7:=ap a.e
 have n8:=ap a.s
 unfold actBytes
 cases seqB (actCore a) ⟨#[]⟩ with
 | true=>simp [ByteArray.size]
 | false =>
  have hc:(actCore a).size≤300000000000:=by
   unfold actCore
   cases hrB:rightB a with
   | true=>exact fM (dt hr hrB)
   | false=>simp [ByteArray.size]
  simp only [Ze,Za]
  omega
theorem sZ {a:ActD} (hr:a.Rng):(bytesV a).size≤300000000030:=by
 have h1:=ap 0
 have h2:=fY hr
 unfold bytesV
 cases rightB a with
 | true=>simp only [Zf,Za];omega
 | false=>simp [ByteArray.size]
set_option maxRecDepth 20000 in
theorem qg (a:ActD) (hr:a.Rng):Pu Tryz.prog 53 #[itemV 0 a] (ActD.at_ · a) (.string (bytesV a)):=by
 cases hrB:rightB a with
 | false =>
  have hrN:(!rightB a)=true:=by rw [hrB];rfl
  refine ak (args:=[_]) _ Tryz.func53 rfl Tryz.ntmps53 rfl fun av bor w0=>?_
  repeat' (first|refine ab (hc:=jK a) ?_|refine gs ?_|refine gs1 fun _=>?_|(refine gp ?_ ?_<;>intro hx_ this)|fail)
  apply ad;apply ag;rfl;rfl
  simp only [bytesV,hrB,Ze]
 | true =>
 have hrN:(!rightB a)=false:=by rw [hrB];rfl
 refine ak (args:=[_]) _ Tryz.func53 rfl Tryz.ntmps53 rfl fun av bor w0=>?_
 have hab:=li a (dt hr) ⟨hr.ints.2.2.2.2.2.2.2.1,hr.ints.2.2.2.2.2.2.2.2⟩
 have hsz:=fY hr
 repeat' (first|refine ab (hc:=jK a) ?_|refine gs ?_|refine gs1 fun _=>?_|(refine gp ?_ ?_<;>intro hx_ this)|fail)
 rename_i bi bb bs
 have hS:(⟨#[]⟩:ByteArray)++numsV [0]=numV 0:=by
  show ByteArray.empty++(numV 0++ByteArray.empty)=numV 0
  rw [Qj,ByteArray.empty_append]
 have hns:(⟨#[]⟩:ByteArray).size+(numsV [0]).size≤1099511627776:=by
  rw [←Za,hS]
  have:=ap 0
  omega
 refine aZ ?_
 refine ga 5 1 ?_
 refine dl (l:=bld bb none 0 ⟨#[]⟩++[cel bi 60 (itemCells 0 a)]) (List.Perm.swap _ _ _) ?_
 refine cj (pre:=bld bb none 0 ⟨#[]⟩) (fr:=[cel bi 60 (itemCells 0 a)]) (hc:=ei bb none 0 ⟨#[]⟩ ⟨some ⟨bs,0,none⟩,1,1⟩ [0] (by simp) hns) (hX:=fun w h=>aN (xs:=[[.int .i64 0]]) h.2 rfl (by decide) (by simp)) (h:=?_)
 rintro v R X' ⟨A',c',rfl,rfl⟩
 refine cH (X':=(ActD.at_ · a)) (fun w h=>h.1.1) ?_
 have hn0:=ap 0
 rw [hS]
 generalize hs1:numV 0=s1 at *
 unfold bld
 repeat' (first|refine aH ?_|refine gs ?_|refine gs1 fun _=>?_|(refine gp ?_ ?_<;>intro hx_ this)|fail)
 (refine ar ⟨[0,2],[(1,⟨[],[(3,⟨[],[(4,⟨[],[(5,⟨[6],[(7,⟨[],[]⟩)]⟩)]⟩)]⟩)]⟩),(3,⟨[],[(1,⟨[],[(4,⟨[],[(5,⟨[6],[(7,⟨[],[]⟩)]⟩)]⟩)]⟩),(4,⟨[],[(1,⟨[],[(5,⟨[6],[(7,⟨[],[]⟩)]⟩)]⟩)]⟩)]⟩)]⟩ [] (fun _=>True) (h:=?_))
 all_goals repeat' (first|refine ab (hc:=hab) ?_|refine gd ?_|refine aA ?_ (h':=?_)|exact aB|(refine ax (vs:=a.cells) (hv:=rfl) ?_)|(refine iS ?_;refine aF (size:=1) (z:=.int .u8 0) rfl rfl rfl rfl (fun _=>At.there _ (At.here _)) (fun w G=>iy aa) aa (by simp only [maxLen];omega) rfl ?_ rfl ?_;(first|with_reducible rfl|with_reducible assumption|with_reducible exact Zl|with_reducible exact Zn);intro A1 c1)|refine gs1 fun _=>?_|(refine gq ?_ ?_<;>intro hx_ this)|fail)
 all_goals (repeat' (first|refine gs ?_|refine gs1 fun _=>?_|(refine gp ?_ ?_<;>intro hx_ this)|fail))
 all_goals (
  rw [←ck,←dN]
  refine eL (hm:=Zv _ aw) ?_
  repeat' (first|refine gs ?_|refine gs1 fun _=>?_|(refine gp ?_ ?_<;>intro hx_ this)|fail)
  apply ad;apply ag;rfl;rfl
  simp only [bytesV,hrB,Zf,cI,hs1])
def digV (a:ActD):ByteArray:=bif seqB (bytesV a) ⟨#[]⟩ then ⟨#[]⟩ else shaV (bytesV a)
theorem iE (a:ActD) (hr:a.Rng):Pu Tryz.prog 18 #[itemV 0 a] (fun w=>ActD.at_ w a∧Glob w) (.string (digV a)):=by
 refine ak (args:=[_]) _ Tryz.func18 rfl Tryz.ntmps18 rfl fun av bor w0=>?_
 have hsz:=sZ hr
 repeat' (first|refine ab (hc:=qg a hr) ?_|refine ab (hc:=pM _ aa) ?_|refine gs ?_|refine gs1 fun _=>?_|(refine gp ?_ ?_<;>intro hx_ this)|fail)
 all_goals (apply ad;apply ag;rfl;rfl)
 · simp only [digV,hx_,Zf]
 · simp only [digV,hx_,Ze]
structure ActD.Sm (a:ActD):Prop where
 to:a.to.n*16≤140737488351232
 wraps:a.wraps.n*64≤140737488351232
 target:a.target.size≤maxLen
def ActD.re (a:ActD) (s1 s2:SlV):ActD:={ a with to:=s1,wraps:=s2 }
theorem mM {a:ActD} {s1 s2:SlV} (h1:s1.n=a.to.n) (h2:s2.n=a.wraps.n):rightB (a.re s1 s2)=rightB a:=by
 obtain ⟨au,sq,pv,kd,tm,ob,tg,sc,gr,⟨p,n,c⟩,tx,bd,ep,⟨p',n',c'⟩,nn,mm,ee,ss,tl,wl⟩:=a
 obtain ⟨q,m,d⟩:=s1
 obtain ⟨q',m',d'⟩:=s2
 simp only at h1 h2
 subst h1
 subst h2
 simp only [rightB,ruleB,ruleL,usedV,audienceB,rule1B,rule2B,rule3B,rule4B,rule5B,rule6B,objectB,targetB,grantB,labelB,homeB,setupB,wrappedB,placedB,ActD.re]
 rfl
theorem B8 {a:ActD} {s1 s2:SlV} (h1:s1.n=a.to.n) (h2:s2.n=a.wraps.n):digV (a.re s1 s2)=digV a:=by
 have hr:=mM h1 h2
 have hc:coreV (a.re s1 s2)=coreV a:=rfl
 have he:(a.re s1 s2).e=a.e:=rfl
 have hs:(a.re s1 s2).s=a.s:=rfl
 simp only [digV,bytesV,actBytes,actCore,hr,hc,he,hs]
def OfActAt (a:ActD) (u:Value) (X:World→Prop):Prop:=∃ a':ActD,u=itemV 0 a'∧digV a'=digV a∧a'.Rng∧∀ w,X w→a'.at_ w
set_option maxRecDepth 20000 in
theorem jC (a:ActD) (hr:a.Rng) (hs:a.Sm):Mk Tryz.prog 19 #[a.v] (ActD.at_ · a) (OfActAt a):=by
 refine bM (args:=[_]) _ Tryz.func19 rfl Tryz.ntmps19 rfl fun av bor w0=>?_
 repeat' (first|refine gs ?_|refine gs1 fun _=>?_|fail)
 refine bZ (hc:=kG a.to (strs a.toL) hs.to (fun cs hcs=>by simp only [strs,QJ] at hcs;obtain ⟨x,_,rfl⟩:=hcs;rfl)) (hX:=fun w h=>h.1) fun v1 X1 h1=>?_
 obtain ⟨s1,rfl,hn1,hw1⟩:=h1
 repeat' (first|refine gs ?_|refine gs1 fun _=>?_|fail)
 refine bZ (hc:=kF a.wraps (a.wrapsL.map WrapD.cells) hs.wraps (fun cs hcs=>by simp only [QJ] at hcs;obtain ⟨x,_,rfl⟩:=hcs;rfl)) (hX:=fun w h=>h.1.2) fun v2 X2 h2=>?_
 obtain ⟨s2,rfl,hn2,hw2⟩:=h2
 repeat' (first|refine gs ?_|refine gs1 fun _=>?_|(refine aD ?_)|fail)
 have e1:s1.n=a.to.n:=by rw [hn1,hr.to_len];simp [strs]
 have e2:s2.n=a.wraps.n:=by rw [hn2,hr.wraps_len];simp
 apply ad;refine cL rfl rfl aW ?_
 · rfl
 refine ⟨a.re s1 s2,rfl,B8 e1 e2,⟨hr.ints,hr.wints,?_,?_⟩,fun w h=>⟨?_,?_⟩⟩
 · rw [show (a.re s1 s2).to=s1 from rfl,e1,hr.to_len];rfl
 · rw [show (a.re s1 s2).wraps=s2 from rfl,e2,hr.wraps_len];rfl
 · exact hw1 w h.1.1.2
 · exact hw2 w h.1.2
structure ChainD where
 id:ByteArray
 acts:SlV
 keys:SlV
 prev:ByteArray
 gen:Int
 fork:Bool
 actsL:List ActD
def ChainD.cells (c:ChainD):List Value:=[.string c.id,c.acts.v,c.keys.v,.string c.prev,.int .i64 c.gen,.bool c.fork]
def ChainD.v (c:ChainD):Value:=.agg c.cells.toArray
def ChainD.zero:ChainD:=⟨⟨#[]⟩,⟨none,0,0⟩,⟨none,0,0⟩,⟨#[]⟩,0,false,[]⟩
def Acts (w:World) (s:SlV) (l:List ActD):Prop:=RowsD w 20 s (l.map ActD.cells)∧∀ a∈l,a.at_ w
def ChainD.at_ (w:World) (c:ChainD):Prop:=Acts w c.acts c.actsL
structure ActsOk (l:List ActD):Prop where
 rng:∀ a∈l,a.Rng
 sm:∀ a∈l,a.Sm
theorem Acts.len_ {w:World} {s:SlV} {l:List ActD} (h:Acts w s l):s.n=l.length:=by have:=RowsD.len h.1;simpa using this
theorem Acts.max_ {w:World} {s:SlV} {l:List ActD} (h:Acts w s l):s.n≤maxLen:=ZY (RowsD.cap h.1) (RowsD.max h.1)
theorem Acts.some_ {w:World} {s:SlV} {l:List ActD} (h:Acts w s l) (hl:0<l.length):s.p.isSome=true:=by
 have hx:l[0]?=some l[0]:=Zb hl
 exact (RowsD.row h.1 0 l[0].cells (by simp [hx])).2.1
theorem Acts.get {w:World} {s:SlV} {l:List ActD} (h:Acts w s l) {i:Nat} {x:ActD} (hx:l[i]?=some x):x.cells.length=20∧s.p.isSome=true∧∀ j u,x.cells[j]?=some u→CellAt w s.p (i*20+j) u :=
 RowsD.row h.1 i x.cells (by simp [hx])
def idxV (l:List ActD) (d:ByteArray):Option Nat:=l.findIdx? fun a=>seqB (digV a) d
def idxP (o:Option Nat):Value:=.tuple #[.int .i64 ((o.getD 0:Nat):Int),.bool o.isSome]
def badI (l:List ActD) (d:ByteArray) (k:Nat):Bool :=
 match l[k]? with
 | some x=>seqB (digV x) d
 | none=>false
theorem jY {l:List ActD} {d:ByteArray} {k:Nat} {x:ActD} (h:l[k]?=some x):badI l d k=seqB (digV x) d:=by simp only [badI,h]
theorem ux {l:List ActD} {d:ByteArray} (i:Upto l.length (badI l d)) (hlt:i.k<l.length) (hb:badI l d i.k=true):idxV l d=some i.k:=by
 rw [idxV,QD]
 refine ⟨hlt,?_,fun j hj=>?_⟩
 · rw [jY (Zb hlt)] at hb;exact hb
 · have:=i.ok j hj
   rw [jY (Zb aa)] at this
   simp [this]
theorem yk {l:List ActD} {d:ByteArray} (i:Upto l.length (badI l d)) (h:¬ i.k<l.length):idxV l d=none:=by
 rw [idxV,List.findIdx?_eq_none_iff]
 intro x hx
 obtain ⟨k,hk,rfl⟩:=Qx hx
 have:=i.ok k aa
 rwa [jY (Zb hk)] at this
theorem BH (c:ChainD) (hc:ActsOk c.actsL) (d:ByteArray):Pu Tryz.prog 50 #[c.v,.string d] (fun w=>c.at_ w∧Glob w) (idxP (idxV c.actsL d)):=by
 refine ak (args:=[_,_]) _ Tryz.func50 rfl Tryz.ntmps50 rfl fun av bor w0=>?_
 refine aP (p:=c.acts.n=c.actsL.length∧c.acts.n≤maxLen∧(0<c.actsL.length→c.acts.p.isSome=true)) (fun w h=>⟨h.1.len_,h.1.max_,h.1.some_⟩) fun ⟨hl,hm,hp⟩=>?_
 simp only [maxLen] at hm
 repeat' (first|refine gs ?_|refine gs1 fun _=>?_|fail)
 rename_i b
 refine aq (ι:=Upto c.actsL.length (badI c.actsL d)) (fun i=>⟨[(1,.string d),(9,c.acts.v),(10,.int .i64 c.acts.n),(11,.int .i64 i.k)],[],fun w=>c.at_ w∧Glob w⟩) (fun i=>c.actsL.length-i.k) (Upto.zero _ _) (aj am (Z2 _ (al _)) fun _ h=>h) fun i=>?_
 have hik:=i.hk
 repeat' (first|refine gs ?_|refine gs1 fun _=>?_|(refine gp ?_ ?_<;>intro hx_ this)|fail)
 · have hlt:i.k<c.actsL.length:=by omega
   have hp':=hp aa
   obtain ⟨x,hx⟩:∃ x,c.actsL[i.k]?=some x:=⟨_,Zb hlt⟩
   have hxm:x∈c.actsL:=Z6 hx
   repeat' (first|refine gs ?_|refine gs1 fun _=>?_|(refine aI (q:=i.k*20) ?_)|(refine ca (cs:=x.cells) (hF:=fun w h=>Acts.get h.1 hx) ?_)|fail)
   refine bZ (hc:=jC x (hc.rng x hxm) (hc.sm x hxm)) (hX:=fun w h=>h.1.2 x hxm) fun v1 X1 h1=>?_
   obtain ⟨x',rfl,hdig,hr',hat⟩:=h1
   refine ab (hc:=iE x' hr') (hX:=fun w h=>⟨hat w h.2,h.1.2⟩) ?_
   rw [hdig]
   repeat' (first|refine gs ?_|refine gs1 fun _=>?_|(refine gp ?_ ?_<;>intro hx_ this)|fail)
   · apply ad;apply fi;rfl;rfl;rfl
     rw [ux i hlt (by rw [jY hx];assumption)]
     rfl
   · exact ⟨i.next hlt (by rw [jY hx];assumption),(by show c.actsL.length-(i.k+1)<c.actsL.length-i.k;omega),aj am (Zu _) fun _ h=>h.1⟩
 · apply ad;apply fi;rfl;rfl;rfl
   rw [yk i (by omega)]
   rfl
def Chains (w:World) (s:SlV) (l:List ChainD):Prop:=RowsD w 6 s (l.map ChainD.cells)∧∀ c∈l,c.at_ w
theorem Chains.len_ {w:World} {s:SlV} {l:List ChainD} (h:Chains w s l):s.n=l.length:=by have:=RowsD.len h.1;simpa using this
theorem Chains.max_ {w:World} {s:SlV} {l:List ChainD} (h:Chains w s l):s.n≤maxLen:=ZY (RowsD.cap h.1) (RowsD.max h.1)
theorem Chains.some_ {w:World} {s:SlV} {l:List ChainD} (h:Chains w s l) (hl:0<l.length):s.p.isSome=true:=by
 have hx:l[0]?=some l[0]:=Zb hl
 exact (RowsD.row h.1 0 l[0].cells (by simp [hx])).2.1
theorem Chains.get {w:World} {s:SlV} {l:List ChainD} (h:Chains w s l) {i:Nat} {x:ChainD} (hx:l[i]?=some x):x.cells.length=6∧s.p.isSome=true∧∀ j u,x.cells[j]?=some u→CellAt w s.p (i*6+j) u :=
 RowsD.row h.1 i x.cells (by simp [hx])
def findC (l:List ChainD) (id:ByteArray):Option ChainD:=l.find? fun c=>seqB c.id id
def findP (o:Option ChainD):Value:=.tuple #[(o.getD ChainD.zero).v,.bool o.isSome]
def badF (l:List ChainD) (d:ByteArray) (k:Nat):Bool :=
 match l[k]? with
 | some x=>seqB x.id d
 | none=>false
theorem qA {l:List ChainD} {d:ByteArray} {k:Nat} {x:ChainD} (h:l[k]?=some x):badF l d k=seqB x.id d:=by simp only [badF,h]
theorem v8 {α:Type} {p:α→Bool}:∀ (l:List α) (k:Nat) (x:α),l[k]?=some x→p x=true→(∀ j y,j<k→l[j]?=some y→p y=false)→l.find? p=some x
 | [],k,x,h,_,_=>by simp at h
 | a::l,0,x,h,hp,_=>by simp at h;subst h;simp [hp]
 | a::l,k+1,x,h,hp,hb=>by
  have h0:=hb 0 a aa rfl
  simp only [List.find?_cons,h0]
  exact v8 l k x (by simpa using h) hp fun j y hj hy=>hb (j+1) y aa (by simpa using hy)
theorem sI {l:List ChainD} {d:ByteArray} (i:Upto l.length (badF l d)) {x:ChainD} (hx:l[i.k]?=some x) (hb:seqB x.id d=true):findC l d=some x :=
 v8 l i.k x hx hb fun j y hj hy=>by have:=i.ok j hj;rwa [qA hy] at this
theorem uC {l:List ChainD} {d:ByteArray} (i:Upto l.length (badF l d)) (h:¬ i.k<l.length):findC l d=none:=by
 rw [findC,List.find?_eq_none]
 intro x hx
 obtain ⟨k,hk,rfl⟩:=Qx hx
 have:=i.ok k aa
 rw [qA (Zb hk)] at this
 simp [this]
theorem dU {P:Program} {fn:Func} {N t u ty n:Nat} {s:St} {b T:Nat} {cs:List Value} {x:Value} [hI:TyAgg P ty n] (hr:fn.results=#[.cell t ty,.tmp u]) (h:Sy.look s.env t=some (.pointer (some ⟨b,0,none⟩))) (h':Sy.look s.env u=some x) (hm:cel b T cs∈s.loc) (hn:cs.length=n) :
  Res1 P fn N s (.tuple #[.agg cs.toArray,x]):=fun av bor w0 a w ok=>by
 obtain ⟨D,h1,h2,h3⟩:=cY hI.out
 have ht:=ok.env t _ h
 have hu:=ok.env u _ h'
 have:(loadVar ty ⟨b,0,none⟩).run P w=.ok (.agg cs.toArray) w:=by
  cases D<;>simp at h2
  · exact run_loadVar_row w b T ty cs.toArray (0,0) _ (eP ok hm) h1 rfl (by rw [h3];simp [hn])
  · exact run_loadVar_row w b T ty cs.toArray (0,0) _ (eP ok hm) h1 rfl (by rw [h3];simp [hn])
 simp [results,hr,ht,hu,asAddr,this]
theorem vZ (s:SlV) (l:List ChainD) (id:ByteArray):Pu Tryz.prog 12 #[s.v,.string id] (fun w=>Chains w s l) (findP (findC l id)):=by
 refine ak (args:=[_,_]) _ Tryz.func12 rfl Tryz.ntmps12 rfl fun av bor w0=>?_
 refine aP (p:=s.n=l.length∧s.n≤maxLen∧(0<l.length→s.p.isSome=true)) (fun w h=>⟨h.len_,h.max_,h.some_⟩) fun ⟨hl,hm,hp⟩=>?_
 simp only [maxLen] at hm
 repeat' (first|refine gs ?_|refine gs1 fun _=>?_|fail)
 rename_i b
 refine aq (ι:=Upto l.length (badF l id)) (fun i=>⟨[(1,.string id),(4,.pointer (some ⟨b,0,none⟩)),(8,s.v),(9,.int .i64 s.n),(10,.int .i64 i.k)],[cel b 35 ChainD.zero.cells],fun w=>Chains w s l⟩) (fun i=>l.length-i.k) (Upto.zero _ _) (aj am (al _) fun _ h=>h) fun i=>?_
 have hik:=i.hk
 repeat' (first|refine gs ?_|refine gs1 fun _=>?_|(refine gp ?_ ?_<;>intro hx_ this)|fail)
 · have hlt:i.k<l.length:=by omega
   have hp':=hp aa
   obtain ⟨x,hx⟩:∃ x,l[i.k]?=some x:=⟨_,Zb hlt⟩
   repeat' (first|refine gs ?_|refine gs1 fun _=>?_|(refine aI (q:=i.k*6) ?_)|(refine ca (cs:=x.cells) (hF:=fun w h=>Chains.get h hx) ?_)|(refine gp ?_ ?_<;>intro hx_ this)|fail)
   · apply ad;refine dU rfl rfl rfl aW ?_
     · rfl
     rw [sI i hx (by assumption)]
     rfl
   · exact ⟨i.next hlt (by rw [qA hx];assumption),(by show l.length-(i.k+1)<l.length-i.k;omega),aj am (Z2 _ (al _)) fun _ h=>h⟩
 · repeat' (first|refine gs ?_|refine gs1 fun _=>?_|(refine aD ?_)|fail)
   apply ad;refine dU rfl rfl rfl aW ?_
   · rfl
   rw [uC i (by omega)]
   rfl
end Go.Proofs.YtaolfiikahlmkaaGreatDoor
namespace Go.Proofs.YtaolfiikahlmkaaGreatDoor
open Go Go.Proofs Sy Go.Shelf Go.Maps Go.Sort
theorem sortS_c:SortC Tryz.prog 48 encStr (fun ss=>ss.mergeSort leB) where
 some_:=fun blk off cap ss w h1 h2 h3=>AnyM.slices_Sort_string Tryz.sortS blk off cap ss w h1 h2 h3
 none_:=fun p cap w=>AnyM.slices_Sort_string_none Tryz.sortS p cap w
 len:=fun ss=>List.length_mergeSort ss
theorem sortsS (m:Nat):AnyZ.SortsIn Tryz.prog Tryz.sortedS_ren Fence.wide m :=
  ⟨fun blk off cap ss W hH hblk hsz=>callsIn_wide.2 (AnyM.slices_Sort_string Tryz.sortS blk off cap ss W hH hblk hsz),
   fun p cap W=>callsIn_wide.2 (AnyM.slices_Sort_string_none Tryz.sortS p cap W)⟩
end Go.Proofs.YtaolfiikahlmkaaGreatDoor
namespace Go.Proofs.YtaolfiikahlmkaaGreatDoor.Sy
open Go Go.RowKit Go.MapKept
def mdel {κ β:Type} [KeyT κ]:List (κ×β)→κ→List (κ×β)
 | [],_=>[]
 | (k',v')::r,k=>bif KeyT.eqb k k' then r else (k',v')::mdel r k
theorem jF {κ β:Type} [KeyT κ]:∀ (l:List (κ×β)) (k:κ),mget l k=none→mdel l k=l
 | [],_,_=>rfl
 | (k',v')::r,k,h=>by
  simp only [mget] at h
  simp only [mdel]
  cases hb:KeyT.eqb k k' with
  | true=>rw [hb] at h;simp at h
  | false=>rw [hb] at h;rw [Ze,jF r k (by simpa using h)]
theorem m6 {κ β:Type} [KeyT κ]:∀ (l:List (κ×β)) (k:κ) (j:Nat) (v:β),l[j]?=some (k,v)→(l.map (·.1)).Nodup→mdel l k=l.eraseIdx j
 | [],_,j,v,h,_=>by simp at h
 | (k',v')::r,k,0,v,h,hn=>by
  simp at h
  obtain ⟨rfl,rfl⟩:=h
  have:KeyT.eqb k' k'=true:=(KeyT.eqb_iff k' k').2 rfl
  simp [mdel,this]
 | (k',v')::r,k,j+1,v,h,hn=>by
  have hne:KeyT.eqb k k'=false:=by
   cases hb:KeyT.eqb k k' with
   | false=>rfl
   | true =>
    have e:=(KeyT.eqb_iff k k').1 hb
    subst e
    simp only [Z1,List.nodup_cons] at hn
    exact absurd (QJ.2 ⟨(k,v),Z6 (by simpa using h),rfl⟩) hn.1
  simp only [mdel,hne,Ze,List.eraseIdx_cons_succ]
  rw [m6 r k j v (by simpa using h) (by simp only [Z1,List.nodup_cons] at hn;exact hn.2)]
theorem EF {κ:Type} [KeyT κ] {a b:κ} (h:KeyT.enc a=KeyT.enc b):a=b:=by
 have h1:=KeyT.same a a
 have h2:=KeyT.same a b
 rw [←h] at h2
 rw [h1] at h2
 have h3:KeyT.eqb a a=true:=(KeyT.eqb_iff a a).2 rfl
 rw [h3] at h2
 exact (KeyT.eqb_iff a b).1 (Option.some.inj h2).symm
theorem ko {α β:Type} (f:α→β):∀ (l:List α) (j:Nat),(l.eraseIdx j).map f=(l.map f).eraseIdx j
 | [],j=>by simp
 | a::l,0=>rfl
 | a::l,j+1=>by simp [ko f l j]
theorem nS {κ:Type} [KeyT κ] {P:Program} {w:World} {t et kt ty:TypeId} (ht:mapOf P t=some (et,keyD κ)) {g:Nat} {l:List (κ×Value)} (h:MapAt w g l) (k:κ) :
  ∃ o,(Builtin.delete_ #[t,kt] ty #[.map (some g),KeyT.enc k]).run P w=.ok (.tuple #[]) { w with heap:=w.heap.setIfInBounds g o }∧∀ w':World,w'.heap[g]?=some o→MapAt w' g (mdel l k):=by
 obtain ⟨kt',h1,h2⟩:=gK ht
 obtain ⟨es,clock,hb,hs,hl⟩:=h
 have hk:=KeyT.ok k
 have hnd:(l.map (·.1)).Nodup:=by
  have h3:=hs.2.2
  have h4:es.toList.map (·.key)=l.map fun p=>KeyT.enc p.1:=by
   have:=congrArg (List.map Prod.fst) hl
   simpa [Z0,Function.comp_def] using this
  rw [h4] at h3
  unfold List.Nodup at h3 ⊢
  rw [List.pairwise_map] at h3 ⊢
  exact h3.imp fun hab e=>hab (by rw [e])
 rcases jN k es.toList l 0 hl with ⟨g1,g2,g3,g4⟩|⟨j,e,v0,g1,g2,g3,g4,g5⟩
 · refine ⟨.map es clock,?_,fun w' hw=>⟨es,clock,hw,hs,?_⟩⟩
   · simp [Builtin.delete_,run_underlying h1,MapKept.run_getObj_map hb,MapKept.run_checkKey h2 hk,MapKept.run_findKey h2 g1,MapKept.run_setObj_map _ hb,Result.andThen]
   · rw [jF l k g2]
     exact hl
 · have hj:es[j]?=some e:=by simpa using g2
   have hlj:l[j]?=some (k,v0):=by
    have h3:=congrArg (fun q=>q[j]?) hl
    simp only [Z7,Qo,hj,Option.map_some] at h3
    cases hq:l[j]? with
    | none=>rw [hq] at h3;simp at h3
    | some p =>
     rw [hq] at h3
     simp only [Option.map_some,ZM,Prod.mk.injEq] at h3
     have e1:p.1=k:=EF (h3.1.symm.trans g3)
     have e2:mget l k=some p.2:=by
      have key:∀ (l:List (κ×Value)) (j:Nat) (p:κ×Value),l[j]?=some p→(l.map (·.1)).Nodup→mget l p.1=some p.2:=by
       intro l
       induction l with
       | nil=>intro j p h;simp at h
       | cons a r ih =>
        intro j p h hn
        cases j with
        | zero =>
         simp at h
         subst h
         have:KeyT.eqb a.1 a.1=true:=(KeyT.eqb_iff _ _).2 rfl
         simp [mget,this]
        | succ j =>
         simp only [Z1,List.nodup_cons] at hn
         have hne:KeyT.eqb p.1 a.1=false:=by
          cases hb:KeyT.eqb p.1 a.1 with
          | false=>rfl
          | true =>
           have e:=(KeyT.eqb_iff _ _).1 hb
           exact absurd (QJ.2 ⟨p,Z6 (by simpa using h),e⟩) hn.1
         simp only [mget,hne,Ze]
         exact ih j p (by simpa using h) hn.2
      have:=key l j p hq hnd
      rwa [e1] at this
     rw [g4] at e2
     obtain ⟨p1,p2⟩:=p
     simp only at e1 e2
     rw [e1,Option.some.inj e2]
   refine ⟨.map (es.eraseIdxIfInBounds j) clock,?_,fun w' hw=>⟨_,_,hw,stamped_erase hs j,?_⟩⟩
   · simp [Builtin.delete_,run_underlying h1,MapKept.run_getObj_map hb,MapKept.run_checkKey h2 hk,MapKept.run_findKey h2 g1,MapKept.run_setObj_map _ hb,Result.andThen]
   · rw [m6 l k j v0 hlj hnd]
     have hlt:j<es.size:=(QM.1 hj).1
     have e1:(es.eraseIdxIfInBounds j).toList=es.toList.eraseIdx j:=by simp [Array.eraseIdxIfInBounds,hlt]
     rw [e1,ko,hl,←ko]
section
variable {P:Program} {N:Nat} {av bor:List Nat} {w0:World} {ops:Array Oper} {rest:List Oper} {k:St→Prop} {E:Env} {loc loc':List Res} {X:World→Prop}
variable {d:Option Tmp} {ty:TypeId} {pos:String} {af:Array Edge} {g:Option (Nat×Bool)} {bb want:Bool} {K:Exit→St→Prop}
theorem oy {κ:Type} [KeyT κ] {t et kt:Nat} [ht:TyMap P t et (keyD κ)] {m x:Operand} {q:Nat} {l:List (κ×Value)} {kk:κ} (h:Sw P N av bor w0 ops rest ⟨putE E d (.tuple #[]),loc',X⟩ k) (hm:ev E m=some (.map (some q)):=by rfl) (hx:ev E x=some (KeyT.enc kk):=by rfl) (hA:At (mapr q l) (mapr q (mdel l kk)) loc loc':=by (repeat (first|exact At.here _|apply At.there))) (hg:gdB ops E g=some (bb,want):=by rfl) (hb:bb=want:=by exact ao) (hd:inB N d=true:=by rfl):Sw P N av bor w0 ops (⟨d,.call ⟨.builtin .delete,#[m,x],#[t,kt]⟩,ty,pos,af,g⟩::rest) ⟨E,loc,X⟩ k:=Sw.mk fun a w ok=>by
 simp only [wpList]
 rw [bA ok (o:=⟨d,.call ⟨.builtin .delete,#[m,x],#[t,kt]⟩,ty,pos,af,g⟩) hg]
 subst hb
 simp only [Zz,ZN]
 left
 unfold Oper.wp
 have hmm:MapAt w q l:=(ok.gam.here _ hA.mem).now
 obtain ⟨o,hr,ho⟩:=nS (P:=P) (kt:=kt) (ty:=ty) ht.out hmm kk
 obtain ⟨es,c,hb',_⟩:=hmm
 have hs:=heap_set (o':=o) hb'
 have ok':Ok N av bor w0 ⟨E,loc',X⟩ a { w with heap:=w.heap.setIfInBounds q o }:=(ok.via fun M G=>G.turn (hA.app M) rfl rfl rfl (by simp) (fun i hi=>hs.2 i hi) fun w2 h2=>ho w2 (h2.trans hs.1))
 have hr':(execOp a.eval ⟨d,.call ⟨.builtin .delete,#[m,x],#[t,kt]⟩,ty,pos,af,g⟩).run P w=.ok (.value (.tuple #[])) { w with heap:=w.heap.setIfInBounds q o }:=by
  simp only [execOp,resolve,invoke,builtin,Sem.run_bind,Sem.run_pure,Result.andThen_ok,List.map_toArray,Z1,List.map_nil,ok.eval (st:=⟨E,loc,X⟩) hm,ok.eval (st:=⟨E,loc,X⟩) hx,hr]
 rw [hr']
 exact h.run _ _ (df d _▸ok'.put hd _)
theorem Fl {κ:Type} [KeyT κ] {st:St} {t et:Nat} [ht:TyMap P t et (keyD κ)] {m:Operand} {q:Nat} {l:List (κ×Value)} (hm:ev st.env m=some (.map (some q))) (hl:mapr q l∈st.loc) :
  Sy.Yields P N av bor w0 st (.call ⟨.builtin .len,#[m],#[t]⟩) ty (.int .i64 (l.length:Int)):=Sy.Yields.mk fun A w ok d pos af g=>by
 obtain ⟨kt',h1,h2⟩:=gK ht.out
 obtain ⟨es,clock,hb,hs,hle⟩:MapAt w q l:=(ok.gam.here _ hl).now
 have hz:es.size=l.length:=by have:=congrArg List.length hle;simpa using this
 simp [execOp,resolve,invoke,builtin,Builtin.len_,ok.eval hm,run_underlying h1,MapKept.run_getObj_map hb,goInt,hz]
theorem pB {κ:Type} [KeyT κ] {n:Nat} {t et:Nat} [ht:TyMap P t et (keyD κ)] {m:Operand} {q:Nat} {l:List (κ×Value)} (h:Sw P N av bor w0 ops rest ⟨(n,.int .i64 (l.length:Int))::E,loc,X⟩ k) (hm:ev E m=some (.map (some q)):=by rfl) (hl:mapr q l∈loc:=by exact aW) (hg:gdB ops E g=some (bb,want):=by rfl) (hbb:bb=want:=by exact ao) (hd:Nat.blt n N=true:=by rfl):Sw P N av bor w0 ops (⟨some n,.call ⟨.builtin .len,#[m],#[t]⟩,ty,pos,af,g⟩::rest) ⟨E,loc,X⟩ k:=ai (Fl hm hl) hg hbb hd h
theorem tr {st:St} {x y:Operand} {t e size b':Nat} [hI:TySl P t e size b'] {p:Option Addr} {m c:Nat} {kk:IntKind} {i:Int} (hx:ev st.env x=some (.slice p m c)) (hy:ev st.env y=some (.int kk i)) (h0:0≤i) (h1:i≤(c:Int)) :
  Sy.Yields P N av bor w0 st (.slice t x none (some y) none) ty (.slice p i.toNat c):=Sy.Yields.mk fun A w ok d pos af g=>by
 obtain ⟨hu,inf,hi,hs,hb⟩:=cN hI.out
 have hz:=run_sizeOf (P:=P) (w:=w) (t:=e) (n:=size) (by simp [hi,hs])
 have hadd:∀ a:Addr,a.add 0=a:=fun a=>by simp [Addr.add]
 have hmap:p.map (fun a=>a.add 0)=p:=by cases p<;>simp [hadd]
 simp [execOp,ok.eval hx,ok.eval hy,Instr.sliceAt,run_underlying hu,Instr.slice,Instr.sliceBounds,run_sliceBound,h0,h1,hz,hmap]
def nullR:Res:=⟨[],fun _=>True⟩
theorem Gam.null {w:World} (G:Gam av bor w0 loc X w):Gam av bor w0 (nullR::loc) X w:=by
 have e1:fps (nullR::loc)=fps loc:=by simp [fps,nullR]
 refine ⟨G.fr,G.avb,by rw [e1];exact G.nodup,by rw [e1];exact G.own,fun x hx=>?_,by rw [e1];exact G.keep⟩
 rcases ZI.1 hx with rfl|hx
 · exact fun _ _=>trivial
 · exact G.here x hx
theorem pI {x:Operand} {xs:List Operand} {ats:Array TypeId} {f:FuncId} {first caps:Array Value} {args all:List Value} {X1:World→Prop} {Post:Value→List Res→(World→Prop)→Prop} {r:Res} (h:∀ v R X',Post v R X'→Sw P N av bor w0 ops rest ⟨putE E d v,R++loc',fun w=>X w∧X' w⟩ k) (hx:ev E x=some (.func (.func f) first caps):=by rfl) (ha:evs E xs=some args:=by rfl) (hall:first.toList++args++caps.toList=all:=by rfl) (hg:gdB ops E g=some (bb,want):=by rfl) (hb:bb=want:=by exact ao) (hd:inB N d=true:=by rfl) (hf:FnBody P f:=by infer_instance) (hc:Ct P f all.toArray [r] X1 Post) (hA:At r nullR loc loc':=by (repeat (first|exact At.here _|apply At.there))) (hX:∀ w,X w→X1 w:=by (first|exact fun _ _=>trivial|exact fun _ h=>h|exact fun _ h=>h.1|exact fun _ h=>h.2)) :
  Sw P N av bor w0 ops (⟨d,.call ⟨.value x,xs.toArray,ats⟩,ty,pos,af,g⟩::rest) ⟨E,loc,X⟩ k:=by
 obtain ⟨f',h1,h2⟩:=hA.perm
 refine dl h1 ?_
 refine cj (pre:=[r]) (fr:=f') (Post:=Post) hx ha hall hg hb hd hf hc hX fun u R X' hp=>?_
 refine jg (fun a w ok=>?_) (h u R X' hp)
 refine ok.via fun M G=>?_
 have G1:=(G.null).perm ((List.perm_middle (l₁:=R) (a:=nullR) (l₂:=f')).symm.append_right M)
 exact G1.perm (((Qn R).append h2.symm).append_right M)
end
theorem eY {P:Program} {f:FuncId} {fn:Func} {c:Code} {args:List Value} {pre:List Res} {X:World→Prop} {Post:Value→List Res→Prop} (N:Nat)
  (hf:P.funcs[f]?=some fn) (hb:fn.body=some c) (hN:fn.ntmps=N) (hn:Nat.ble args.length N=true)
  (h:∀ av bor w0,Cw P N av bor w0 c ⟨params 0 args,pre,X⟩ (ends P fn N fun u R _=>∃ R',R'.Sublist R∧Post u R')):Ct P f args.toArray pre X fun u R _=>Post u R:=Ct.mk fun w av G=>by
 have h1:=(bU (P:=P) (Post:=fun u R _=>∃ R',R'.Sublist R∧Post u R') N hf hb hN hn h).run w av G
 refine h1.mono fun e w' ⟨u,R,X',he,⟨R',hs,hp⟩,G'⟩=>⟨u,R',X',he,hp,G'.drop hs⟩
end Go.Proofs.YtaolfiikahlmkaaGreatDoor.Sy
namespace Go.Proofs.YtaolfiikahlmkaaGreatDoor
open Go Go.Proofs Sy
def setM (ks:List ByteArray):List (ByteArray×Value):=ks.map fun k=>(k,.bool true)
def sput:List ByteArray→ByteArray→List ByteArray
 | [],k=>[k]
 | k'::r,k=>bif KeyT.eqb k k' then k::r else k'::sput r k
def sdel:List ByteArray→ByteArray→List ByteArray
 | [],_=>[]
 | k'::r,k=>bif KeyT.eqb k k' then r else k'::sdel r k
theorem mY:∀ (ks:List ByteArray) (k:ByteArray),mput (setM ks) k (.bool true)=setM (sput ks k)
 | [],k=>rfl
 | k'::r,k=>by
  have ih:=mY r k
  simp only [setM] at ih
  simp only [setM,Z1,mput,sput]
  cases KeyT.eqb k k' with
  | true=>rfl
  | false=>simp only [Ze,ih,Z1]
theorem oz (l:List ByteArray):l.map encB=(strs l).flatten:=by
 induction l with
 | nil=>rfl
 | cons a l ih =>
  simp only [strs,Z1,Qb] at ih ⊢
  rw [ih]
  rfl
theorem jm (l:List ByteArray):∀ r∈strs l,r.length=1:=by
 intro r hr
 simp only [strs,QJ] at hr
 obtain ⟨x,_,rfl⟩:=hr
 rfl
theorem gC {w:World} {e n c:Nat} {A:Option Addr} {l:List ByteArray} (h:ORow w e 1 (.slice A n c) n (l.map encB)) (hn:n=l.length):Strs w ⟨A,n,c⟩ l:=by
 rw [oz] at h
 exact bz h (by simpa [strs] using hn) (jm l)
structure TieS where
 f:List ByteArray
 a:List ByteArray
 b:List ByteArray
 m:List ByteArray
def undoT (t:TieS) (x:ActD):TieS :=
 bif decide (x.kind=7) then { t with f:=sdel t.f x.target } else bif decide (x.kind=8) then { t with a:=sdel t.a x.target } else bif decide (x.kind=10) then { t with b:=sdel t.b x.target } else bif decide (x.kind=11) then { t with m:=sdel t.m x.target } else t
def limN (n:Int) (len:Nat):Nat:=(if (len:Int)<(if n<0 then 0 else n) then (len:Int) else (if n<0 then 0 else n)).toNat
def stepT (l:List ActD) (i:Nat) (t:TieS) (x:ActD):TieS :=
 bif decide (x.kind=7) then { t with f:=sput t.f x.target } else bif decide (x.kind=8) then { t with a:=sput t.a x.target } else bif decide (x.kind=9) then { t with a:=sdel t.a x.target }
 else bif decide (x.kind=10) then { t with b:=sput t.b x.target,f:=sdel t.f x.target,a:=sdel t.a x.target } else bif decide (x.kind=11) then { t with m:=sput t.m x.target }
 else bif decide (x.kind=6) then (match idxV l x.object with|some j=>bif decide ((j:Int)<(i:Int)) then undoT t (l.getD j ActD.zero) else t|none=>t) else t
def tieF (l:List ActD):Nat→TieS
 | 0=>⟨[],[],[],[]⟩
 | i+1=>stepT l i (tieF l i) (l.getD i ActD.zero)
def tieV (l:List ActD) (n:Int):TieS:=tieF l (limN n l.length)
theorem Ec {l:List ActD} {d:ByteArray} {j:Nat} (h:idxV l d=some j):j<l.length:=by
 rw [idxV,QD] at h
 exact h.1
theorem Acts.cap_ {w:World} {s:SlV} {l:List ActD} (h:Acts w s l):s.n≤s.c:=RowsD.cap h.1
structure LBnd (k:Nat) (l:List ByteArray):Prop where
 len:l.length≤k
 size:∀ x∈l,x.size≤maxLen
structure TBnd (k:Nat) (t:TieS):Prop where
 f:LBnd k t.f
 a:LBnd k t.a
 b:LBnd k t.b
 m:LBnd k t.m
def hasS (l:List ByteArray) (x:ByteArray):Bool:=l.any fun y=>seqB x y
def eqBad (l m:List ByteArray) (k:Nat):Bool:=!seqB (l.getD k .empty) (m.getD k .empty)
def eqL (l m:List ByteArray):Bool:=decide (l.length=m.length)&&allB l.length (eqBad l m)
def XC (c:ChainD) (w:World):Prop:=c.at_ w∧Glob w
theorem XC.know {c:ChainD}:∀ w,XC c w→c.acts.n=c.actsL.length∧c.acts.n≤maxLen∧(0<c.actsL.length→c.acts.p.isSome=true)∧c.acts.n≤c.acts.c:=fun w h=>⟨h.1.len_,h.1.max_,h.1.some_,h.1.cap_⟩
theorem AE {e n:Nat} {v:Value} {ss:List ByteArray} (hn:n≤1000000000):Ct Tryz.prog 48 #[v] [orow e 1 v n (ss.map encB)] (fun _=>True) fun u R _=>u=.tuple #[]∧R=[orow e 1 v n ((sortB ss).map encB)]:=by
 have h:=sortS_c.ct (e:=e) (n:=n) (v:=v) (ss:=ss.map bl) hn
 rw [r4 ss]
 refine h.mono fun u R X' ⟨h1,h2⟩=>⟨h1,?_⟩
 rw [h2,gJ,sortB]
def StrsAt (l:List ByteArray) (u:Value) (X:World→Prop):Prop:=∃ s:SlV,u=s.v∧∀ w,X w→Strs w s l
end Go.Proofs.YtaolfiikahlmkaaGreatDoor
namespace Go.Proofs.YtaolfiikahlmkaaGreatDoor.Sy
open Go Go.RowKit
theorem CellAt.shift {w:World} {p:Option Addr} {k q:Nat} {u:Value}:CellAt w (p.map (·.add k)) q u↔CellAt w p (k+q) u:=by
 cases p with
 | none=>simp [CellAt]
 | some a=>simp [CellAt,fE]
theorem RowsD.take {w:World} {size:Nat} {s:SlV} {xs:List (List Value)} (h:RowsD w size s xs) {n:Nat} (hn:n≤xs.length):RowsD w size ⟨s.p,n,s.c⟩ (xs.take n):=by
 refine ⟨by rw [Qi];show n=_;omega,by have:=h.cap;have:=h.len;show n≤s.c;omega,h.max,fun i cs hi=>h.row i cs ?_⟩
 rw [QH] at hi
 split at hi
 · exact hi
 · cases hi
def SlV.from (s:SlV) (size n:Nat):SlV:=⟨if s.c=n then s.p else s.p.map (·.add (n*size)),s.n-n,s.c-n⟩
theorem RowsD.drop {w:World} {size:Nat} {s:SlV} {xs:List (List Value)} (h:RowsD w size s xs) {n:Nat} (hn:n≤xs.length):RowsD w size (s.from size n) (xs.drop n):=by
 have h1:=h.len
 have h2:=h.cap
 have h3:=h.max
 refine ⟨by rw [Qr];show s.n-n=_;omega,by show s.n-n≤s.c-n;omega,by show s.c-n≤maxLen;omega,fun i cs hi=>?_⟩
 rw [List.getElem?_drop] at hi
 have hlt:=(QL.1 hi).1
 have hr:=h.row (n+i) cs hi
 have e:(s.from size n).p=s.p.map (·.add (n*size)):=by unfold SlV.from;rw [ZP (by omega)]
 refine ⟨hr.1,by rw [e];simpa using hr.2.1,fun j u hj=>?_⟩
 rw [e,CellAt.shift,←ZH,←QF]
 exact hr.2.2 j u hj
section
variable {P:Program} {N:Nat} {av bor:List Nat} {w0:World} {ops:Array Oper} {rest:List Oper} {k:St→Prop} {E:Env} {loc loc':List Res} {X:World→Prop}
variable {d:Option Tmp} {ty:TypeId} {pos:String} {af:Array Edge} {g:Option (Nat×Bool)} {bb want:Bool} {K:Exit→St→Prop}
theorem tq {st:St} {x y:Operand} {t e size b':Nat} [hI:TySl P t e size b'] {s:SlV} {kk:IntKind} {i:Int} (hx:ev st.env x=some s.v) (hy:ev st.env y=some (.int kk i)) (h0:0≤i) (h1:i≤(s.n:Int)) :
  Sy.Yields P N av bor w0 st (.slice t x (some y) none none) ty (s.from size i.toNat).v:=Sy.Yields.mk fun A w ok d pos af g=>by
 obtain ⟨p,m,c⟩:=s
 obtain ⟨hu,inf,hi,hs,hb⟩:=cN hI.out
 have hz:=run_sizeOf (P:=P) (w:=w) (t:=e) (n:=size) (by simp [hi,hs])
 have hx':ev st.env x=some (.slice p m c):=hx
 have h1':i≤(m:Int):=h1
 simp [execOp,ok.eval hx',ok.eval hy,Instr.sliceAt,run_underlying hu,Instr.slice,Instr.sliceBounds,run_sliceBound,h0,h1',hz,SlV.v,SlV.from]
theorem o9 (size:Nat):∀ (vs:List Value) (k:Nat) (pre z:List Value),(∀ v∈vs,v.cells.size=size)→pre.length=k*size→z.length=vs.length*size →
  Instr.fill (fun i=>some (i*size,size)) (pre++z).toArray ((vs.zipIdx k).map fun p=>(p.2,p.1))=some (pre++vs.flatMap fun v=>v.cells.toList).toArray
 | [],k,pre,z,_,_,hz=>by
  have:z=[]:=Z8 (by simpa using hz)
  subst this
  simp [Instr.fill]
 | v::vs,k,pre,z,h1,hp,hz=>by
  have hv:=h1 v aw
  have hvl:v.cells.toList.length=size:=by simpa using hv
  simp only [ZB,QF,Nat.one_mul] at hz
  have ih:=o9 size vs (k+1) (pre++v.cells.toList) (z.drop size) (fun u hu=>h1 u (Zv _ hu)) (by rw [ZA,hp,hvl,QF,Nat.one_mul]) (by rw [Qr];omega)
  have h3:=nu pre.length v.cells.toList 0 (pre++z).toArray (by simp;omega)
  have h4:(v.cells.zipIdx.foldl (fun cs (p:Value×Nat)=>cs.setIfInBounds (k*size+p.2) p.1) (pre++z).toArray)=(pre++v.cells.toList++z.drop size).toArray:=by
   rw [←Array.foldl_toList,Array.toList_zipIdx,←hp,h3]
   simp [hv]
  simp only [List.zipIdx_cons,Z1,Instr.fill]
  have hc:¬ ((decide (v.cells.size≠size)||decide (k*size+v.cells.size>(pre++z).toArray.size))=true):=by
   simp [hv];omega
  rw [ZP hc,h4,ih]
  simp [List.flatMap_cons]
theorem cA {n len:Nat} {t e size b':Nat} [hs:TySl P t e size b'] {z:Value} [hz:TyZero P e z] {parts:List (Nat×Operand)} {vs css:List Value} (h:∀ b,Sw P N av bor w0 ops rest ⟨(n,.slice (some ⟨b,0,none⟩) len len)::E,cel b e css::loc,X⟩ k) (hzs:z.cells.size=size:=by rfl) (hp:partsOf E 0 parts=some vs:=by rfl) (hl:vs.length=len:=by rfl) (hsz:(vs.all fun v=>v.cells.size==size)=true) (hcs:(vs.flatMap fun v=>v.cells.toList)=css) (hpos:Nat.ble (len*size) 1000000=true:=by rfl) (h0:Nat.blt 0 (len*size)=true:=by rfl) (hg:gdB ops E g=some (bb,want):=by rfl) (hb:bb=want:=by exact ao) (hd:Nat.blt n N=true:=by rfl):Sw P N av bor w0 ops (⟨some n,.buildSlice t len parts.toArray,ty,pos,af,g⟩::rest) ⟨E,loc,X⟩ k:=Sw.mk fun a w ok=>by
 have hd':inB N (some n)=true:=by have h1:n<N:=Zx hd;simpa [inB] using h1
 have hle:len*size≤1000000:=Zx hpos
 have hlt:0<len*size:=Zx h0
 obtain ⟨ht,inf,hi,hi1,hi2⟩:=cN hs.out
 have hsz1:(sizeOf e).run P w=.ok size w:=by simp [sizeOf,typeInfo,hi,hi1]
 have hzr:(zeroValue e).run P w=.ok z w:=dS hz.out w
 simp only [wpList]
 rw [bA ok (o:=⟨some n,.buildSlice t len parts.toArray,ty,pos,af,g⟩) hg]
 subst hb
 simp only [Zz,ZN]
 left
 unfold Oper.wp
 have hfill:∀ Z:Array Value,Z.size=len*size→Instr.fill (fun i=>some (i*size,size)) Z (parts.map fun p=>(p.1,a.eval p.2))=some css.toArray:=fun Z hZ=>by
  rw [fw ok parts 0 vs hp,←hcs]
  have:=o9 size vs 0 [] Z.toList (fun v hv=>by simpa using List.all_eq_true.1 hsz v hv) (by simp) (by simp [hZ,hl])
  simpa using this
 have hr:(execOp a.eval ⟨some n,.buildSlice t len parts.toArray,ty,pos,af,g⟩).run P w=.ok (.value (.slice (some ⟨w.heap.size,0,none⟩) len len)) (w.alloc (.cells css.toArray e)):=by
  have hn:¬ (16777216<len*size):=by omega
  have hne:¬ (len*size=0):=by omega
  have hne2:¬ (len=0∨size=0):=fun h=>hne (by rcases h with h|h<;>simp [h])
  have hf:=hfill ((Array.range (len*size)).map (fun x=>z.cells[x%z.cells.size]!)) (by simp)
  simp [execOp,Instr.buildSlice,run_underlying ht,hsz1,hzr,hne,hne2,hn,hf,eA]
 rw [hr]
 have ok':Ok N av bor w0 ⟨E,cel w.heap.size e css::loc,X⟩ a (w.alloc (.cells css.toArray e)):=(ok.via fun M G=>G.new _ _ fun _ h=>h)
 exact (h _).run _ _ (df (some n) _▸ok'.put hd' _)
theorem fS {ι:Type} (M:ι→St) {x y:Code} {st:St} (h1:Cw P N av bor w0 x st (thn (fun s=>∃ i,∀ a w,Ok N av bor w0 s a w→Ok N av bor w0 (M i) a w) K)) (h2:∀ i,Cw P N av bor w0 y (M i) K) :
  Cw P N av bor w0 x st (thn (fun s=>Cw P N av bor w0 y s K) K):=qo (fun e s h=>by
 cases e with
 | normal =>
  obtain ⟨i,hi⟩:=h
  exact sR hi (h2 i)
 | _=>exact h) h1
end
end Go.Proofs.YtaolfiikahlmkaaGreatDoor.Sy
namespace Go.Proofs.YtaolfiikahlmkaaGreatDoor.Sy
open Go Go.Proofs
theorem iw (a:ByteArray):a.toList=bl a:=by simp [bl,ByteArray.toList_eq]
theorem uK {a b:ByteArray} (h:bl a=bl b):a=b:=by rw [←oU a,←oU b,h]
theorem seqB_iff {a b:ByteArray}:seqB a b=true↔a=b:=by
 unfold seqB
 rw [iw,iw,beq_iff_eq]
 exact ⟨uK,fun h=>by rw [h]⟩
theorem cF (a:ByteArray):seqB a a=true:=seqB_iff.2 rfl
theorem seqB_ne {a b:ByteArray}:seqB a b=false↔a≠b:=by
 rw [←ZE,seqB_iff]
theorem xy (a b:ByteArray):seqB a b=seqB b a:=by
 cases h:seqB b a with
 | true=>rw [seqB_iff.1 h];exact cF _
 | false=>exact seqB_ne.2 fun e=>seqB_ne.1 h e.symm
def ltB (a b:ByteArray):Bool:=Op.bytesLess a.toList b.toList
theorem jH {a b:ByteArray}:ltB a b=true↔bl a<bl b:=by
 unfold ltB
 rw [iw,iw,Go.Proofs.bytesLess_eq,Zw]
theorem da (a:ByteArray):ltB a a=false:=by
 rw [←ZE,jH]
 exact List.lt_irrefl _
theorem eC {a b c:ByteArray} (h:ltB a b=true) (k:ltB b c=true):ltB a c=true:=by
 rw [jH] at *
 exact List.lt_trans h k
theorem iC {a b:ByteArray} (h:ltB a b=true):ltB b a=false:=by
 rw [←ZE]
 intro k
 have:=eC h k
 rw [da] at this
 cases this
theorem iB {a b:ByteArray} (h:ltB a b=false) (k:ltB b a=false):a=b:=by
 rw [←ZE,jH] at *
 exact uK (List.le_antisymm (List.not_lt.1 k) (List.not_lt.1 h))
theorem Bw {a b:ByteArray} (h:ltB a b=true):a≠b:=by
 rintro rfl
 rw [da] at h
 cases h
def Asc (l:List ByteArray):Prop:=l.Pairwise fun a b=>ltB a b=true
theorem Asc.nodup {l:List ByteArray} (h:Asc l):l.Nodup:=List.Pairwise.imp (fun h=>Bw h) h
theorem Asc.getD {l:List ByteArray} (h:Asc l) {i j:Nat} (hij:i<j) (hj:j<l.length):ltB (l.getD i .empty) (l.getD j .empty)=true:=by
 rw [Zo,Zo,Zb hj,Zb (by omega)]
 exact List.pairwise_iff_getElem.1 h i j aa hj hij
theorem Asc.ext {l m:List ByteArray} (hl:Asc l) (hm:Asc m) (h:∀ x,x∈l↔x∈m):l=m:=by
 have hp:l.Perm m:=(List.perm_ext_iff_of_nodup hl.nodup hm.nodup).2 h
 refine hp.eq_of_pairwise (fun a b _ _ h1 h2=>?_) hl hm
 rw [iC h1] at h2
 cases h2
theorem mem_sortB {x:ByteArray} {l:List ByteArray}:x∈sortB l↔x∈l:=by
 unfold sortB
 have hp:(((l.map bl).mergeSort leB).map lb).Perm ((l.map bl).map lb):=(List.mergeSort_perm _ _).map lb
 rw [hp.mem_iff,Z0]
 have e:(lb ∘ bl)=id:=by funext a;exact oU a
 rw [e,List.map_id]
theorem Bx (l:List (List UInt8)):(l.mergeSort leB).Pairwise fun a b=>a≤b:=by
 have h:=List.pairwise_mergeSort (le:=leB) (fun a b c h1 h2=>by
  simp only [leB,Zw] at *
  exact List.le_trans h1 h2) (fun a b=>by
  simp only [leB,Bool.or_eq_true,Zw]
  exact List.le_total a b) l
 exact h.imp fun h=>by simpa [leB] using h
theorem rY {zs:List (List UInt8)} {x:List UInt8}:x∈Lib.compact zs↔x∈zs:=by
 unfold Lib.compact Lib.compactUpTo
 simp only [QJ,QN,List.mem_range]
 constructor
 · rintro ⟨j,⟨hj,_⟩,rfl⟩
   rw [getElem!_pos zs.toArray j (by simpa using hj)]
   simp
 · intro h
   obtain ⟨j,hj,rfl⟩:=Qx h
   induction j with
   | zero=>exact ⟨0,⟨hj,by simp [Lib.keeps]⟩,by rw [getElem!_pos zs.toArray 0 (by simpa using hj)];simp⟩
   | succ j ih =>
    cases hk:Lib.keeps zs.toArray (j+1) with
    | true=>exact ⟨j+1,⟨hj,hk⟩,by rw [getElem!_pos zs.toArray (j+1) (by simpa using hj)];simp⟩
    | false =>
     have e:zs.toArray[j+1]! = zs.toArray[j+1-1]! := by
      simp only [Lib.keeps,Qd,not_or,Decidable.not_not] at hk
      exact hk.2
     rw [Nat.add_sub_cancel,getElem!_pos zs.toArray (j+1) (by simpa using hj),getElem!_pos zs.toArray j (by simp;omega)] at e
     simp only [List.getElem_toArray] at e
     rw [e]
     exact ih aa (ZQ _)
theorem uF {zs:List (List UInt8)} (h:zs.Pairwise fun a b=>a≤b):(Lib.compact zs).Pairwise fun a b=>a<b:=by
 unfold Lib.compact Lib.compactUpTo
 rw [List.pairwise_map,List.pairwise_filter]
 refine (List.Pairwise.and_mem.1 (List.pairwise_lt_range (n:=zs.length))).imp ?_
 rintro i j ⟨_,hj,hij⟩ _ hk
 have hj':=List.mem_range.1 hj
 have hne:zs.toArray[j]! ≠ zs.toArray[j-1]! := by
  simp only [Lib.keeps,Zw] at hk
  exact hk.resolve_left aa
 have hpw:=List.pairwise_iff_getElem.1 h
 rw [getElem!_pos zs.toArray j (by simpa using hj'),getElem!_pos zs.toArray (j-1) (by simp;omega)] at hne
 rw [getElem!_pos zs.toArray j (by simpa using hj'),getElem!_pos zs.toArray i (by simp;omega)]
 simp only [List.getElem_toArray] at *
 have h1:zs[j-1]≤zs[j]:=hpw (j-1) j aa hj' aa
 have h2:zs[i]≤zs[j-1]:=by
  by_cases e:i=j-1
  · subst e;exact List.le_refl _
  · exact hpw i (j-1) aa aa aa
 have h3:zs[j-1]<zs[j]:=by
  rcases Decidable.em (zs[j-1]<zs[j]) with h|h
  · exact h
  · exact absurd (List.le_antisymm (List.not_lt.1 h) h1) hne
 exact List.not_le.1 fun h4=>absurd (List.lt_of_le_of_lt h2 h3) (List.not_lt.2 h4)
theorem yb {x:ByteArray} {l:List ByteArray}:x∈compB l↔x∈l:=by
 unfold compB
 simp only [QJ,rY]
 constructor
 · rintro ⟨a,⟨b,hb,rfl⟩,rfl⟩
   rwa [oU]
 · intro h
   exact ⟨bl x,⟨x,h,rfl⟩,oU x⟩
theorem yc (l:List (List UInt8)):(l.map lb).map bl=l:=by
 rw [Z0]
 have e:(bl ∘ lb)=id:=by funext a;exact pj a
 rw [e,List.map_id]
theorem dJ (l:List ByteArray):Asc (compB (sortB l)):=by
 unfold Asc compB sortB
 rw [yc,List.pairwise_map]
 refine (uF (Bx _)).imp fun h=>?_
 rw [jH,pj,pj]
 exact h
theorem mem_compB_sortB {x:ByteArray} {l:List ByteArray}:x∈compB (sortB l)↔x∈l:=by rw [yb,mem_sortB]
theorem fN {l m:List ByteArray} (hm:Asc m) (h:∀ x,x∈l↔x∈m):compB (sortB l)=m:=(dJ l).ext hm fun x=>by rw [mem_compB_sortB,h]
theorem yG {l:List ByteArray} (hn:l.Nodup):Asc (sortB l):=by
 have hp:(sortB l).Perm l:=by
  unfold sortB
  have hp:(((l.map bl).mergeSort leB).map lb).Perm ((l.map bl).map lb):=(List.mergeSort_perm _ _).map lb
  have e:(lb ∘ bl)=id:=by funext a;exact oU a
  rwa [Z0,e,List.map_id] at hp
 have hn':(sortB l).Nodup:=hp.nodup_iff.2 hn
 have h1:(sortB l).Pairwise fun a b=>bl a≤bl b:=by
  unfold sortB
  rw [List.pairwise_map]
  exact (Bx (l.map bl)).imp (fun {a b} (h:a≤b)=>by rw [pj,pj];exact h)
 unfold Asc
 refine (h1.and hn').imp (fun {a b} ⟨h2,h3⟩=>?_)
 rw [jH]
 rcases Decidable.em (bl a<bl b) with h|h
 · exact h
 · exact absurd (uK (List.le_antisymm h2 (List.not_lt.1 h))) h3
end Go.Proofs.YtaolfiikahlmkaaGreatDoor.Sy
namespace Go.Proofs.YtaolfiikahlmkaaGreatDoor
open Go Go.Proofs Sy
section
variable {P:Program} {N:Nat} {av bor:List Nat} {w0:World} {ops:Array Oper} {rest:List Oper} {k:St→Prop} {E:Env} {loc:List Res} {X:World→Prop}
theorem aZ {r:Res} (h:Sw P N av bor w0 ops rest ⟨E,loc,fun w=>X w∧r.F w⟩ k):Sw P N av bor w0 ops rest ⟨E,r::loc,X⟩ k:=Sw.mk fun a w ok=>h.run a w (ok.via fun M G=>G.give)
end
def shortBad (l:List ActD) (k:Nat):Bool:=decide (8<(l.getD k ActD.zero).to.n)||decide (8<(l.getD k ActD.zero).wraps.n)||decide (600<(l.getD k ActD.zero).text.size)||decide (600<(l.getD k ActD.zero).body.data.size)
def shortV (c:ChainD):Bool:=decide (c.actsL.length≤24)&&allB c.actsL.length (shortBad c.actsL)
def idA:ByteArray:=⟨#[48,48,48,48,48,48,48,48,48,48,48,48,48,48,97,49]⟩
def idB:ByteArray:=⟨#[48,48,48,48,48,48,48,48,48,48,48,48,48,48,98,50]⟩
theorem gY {w:World} {b e:Nat} {l:List ByteArray} (h:(cel b e (l.map encB)).F w) (hm:l.length≤maxLen):Strs w ⟨some ⟨b,0,none⟩,l.length,l.length⟩ l:=by
 have h1:(l.map encB)=(strs l).flatten:=oz l
 rw [h1] at h
 exact aN h (by simp [strs]) hm (jm l)
theorem nA (l:List ByteArray):eqL l l=true:=by
 rw [eqL,Zd rfl,Zg]
 refine kJ fun j hj=>?_
 simp [eqBad,seqB]
section
variable {P:Program} {N:Nat} {av bor:List Nat} {w0:World} {ops:Array Oper} {rest:List Oper} {kk:St→Prop} {E:Env} {loc:List Res} {X:World→Prop} {x y:Operand} {t t2:TypeId}
variable {n:Nat} {ty:TypeId} {pos:String} {af:Array Edge} {g:Option (Nat×Bool)} {bb want:Bool}
theorem gB {k:IntKind} {a b:Int} (h:Sw P N av bor w0 ops rest ⟨(n,.bool false)::E,loc,X⟩ kk) (hx:ev E x=some (.int k a):=by rfl) (hy:ev E y=some (.int k b):=by rfl) (hab:a=b:=by decide) (hg:gdB ops E g=some (bb,want):=by rfl) (hbb:bb=want:=by exact ao) (hd:Nat.blt n N=true:=by rfl) :
  Sw P N av bor w0 ops (⟨some n,.binOp .neq t x y t2,ty,pos,af,g⟩::rest) ⟨E,loc,X⟩ kk:=cq (hx:=hx) (hy:=hy) (hg:=hg) (hbb:=hbb) (hd:=hd) (h:=by
   have e:∀ u,u=Value.bool false→Sw P N av bor w0 ops rest ⟨(n,u)::E,loc,X⟩ kk:=fun u hu=>hu▸h
   exact e _ (by simp [hab]))
theorem Dg {k:IntKind} {a b:Int} (h:Sw P N av bor w0 ops rest ⟨(n,.bool false)::E,loc,X⟩ kk) (hx:ev E x=some (.int k a):=by rfl) (hy:ev E y=some (.int k b):=by rfl) (hab:¬ b≤a) (hg:gdB ops E g=some (bb,want):=by rfl) (hbb:bb=want:=by exact ao) (hd:Nat.blt n N=true:=by rfl) :
  Sw P N av bor w0 ops (⟨some n,.binOp .geq t x y t2,ty,pos,af,g⟩::rest) ⟨E,loc,X⟩ kk:=cP (hx:=hx) (hy:=hy) (hg:=hg) (hbb:=hbb) (hd:=hd) (h:=by
   have e:∀ u,u=Value.bool false→Sw P N av bor w0 ops rest ⟨(n,u)::E,loc,X⟩ kk:=fun u hu=>hu▸h
   exact e _ (by simp only [Zc hab]))
theorem pD {k:IntKind} {a b:Int} (h:Sw P N av bor w0 ops rest ⟨(n,.bool true)::E,loc,X⟩ kk) (hx:ev E x=some (.int k a):=by rfl) (hy:ev E y=some (.int k b):=by rfl) (hab:b<a:=by (first|decide|omega)) (hg:gdB ops E g=some (bb,want):=by rfl) (hbb:bb=want:=by exact ao) (hd:Nat.blt n N=true:=by rfl) :
  Sw P N av bor w0 ops (⟨some n,.binOp .gtr t x y t2,ty,pos,af,g⟩::rest) ⟨E,loc,X⟩ kk:=cw (hx:=hx) (hy:=hy) (hg:=hg) (hbb:=hbb) (hd:=hd) (h:=by
   have e:∀ u,u=Value.bool true→Sw P N av bor w0 ops rest ⟨(n,u)::E,loc,X⟩ kk:=fun u hu=>hu▸h
   exact e _ (by simp [hab]))
theorem jd {k:IntKind} {a b:Int} (h:Sw P N av bor w0 ops rest ⟨(n,.bool false)::E,loc,X⟩ kk) (hx:ev E x=some (.int k a):=by rfl) (hy:ev E y=some (.int k b):=by rfl) (hab:¬ b<a) (hg:gdB ops E g=some (bb,want):=by rfl) (hbb:bb=want:=by exact ao) (hd:Nat.blt n N=true:=by rfl) :
  Sw P N av bor w0 ops (⟨some n,.binOp .gtr t x y t2,ty,pos,af,g⟩::rest) ⟨E,loc,X⟩ kk:=cw (hx:=hx) (hy:=hy) (hg:=hg) (hbb:=hbb) (hd:=hd) (h:=by
   have e:∀ u,u=Value.bool false→Sw P N av bor w0 ops rest ⟨(n,u)::E,loc,X⟩ kk:=fun u hu=>hu▸h
   exact e _ (by simp [hab]))
end
structure RowI where
 A:Option Addr
 c:Nat
def ChainD.with (c:ChainD) (s:SlV) (l:List ActD):ChainD:={ c with acts:=s,actsL:=l }
theorem fF (l:List ActD):∀ r∈l.map ActD.cells,r.length=20:=by
 intro r hr
 obtain ⟨a,_,rfl⟩:=QJ.1 hr
 rfl
theorem fD {w:World} {e n c:Nat} {A:Option Addr} {l:List ActD} (h:ORow w e 20 (.slice A n c) n (l.map ActD.cells).flatten) (hn:n=l.length) (ha:∀ a∈l,a.at_ w):Acts w ⟨A,n,c⟩ l :=
 ⟨bz h (by simpa using hn) (fF l),ha⟩
section
variable {P:Program} {N:Nat} {av bor:List Nat} {w0:World} {ops:Array Oper} {rest:List Oper} {kk:St→Prop} {E:Env} {loc:List Res} {X:World→Prop} {x y:Operand} {t t2:TypeId}
variable {n:Nat} {ty:TypeId} {pos:String} {af:Array Edge} {g:Option (Nat×Bool)} {bb want:Bool}
end
section
variable {P:Program} {N:Nat} {av bor:List Nat} {w0:World} {ops:Array Oper} {rest:List Oper} {k:St→Prop} {E:Env} {loc:List Res} {X:World→Prop}
variable {d:Option Tmp} {ty:TypeId} {pos:String} {af:Array Edge} {g:Option (Nat×Bool)} {bb want:Bool}
theorem AB {x:Operand} {xs:List Operand} {ats:Array TypeId} {f:FuncId} {first caps:Array Value} {args all:List Value} {X1:World→Prop} {Post:Value→List Res→(World→Prop)→Prop} (h:∀ v R X',Post v R X'→Sw P N av bor w0 ops rest ⟨putE E d v,R++loc,fun w=>X w∧X' w⟩ k) (hx:ev E x=some (.func (.func f) first caps):=by rfl) (ha:evs E xs=some args:=by rfl) (hall:first.toList++args++caps.toList=all:=by rfl) (hg:gdB ops E g=some (bb,want):=by rfl) (hb:bb=want:=by exact ao) (hd:inB N d=true:=by rfl) (hf:FnBody P f:=by infer_instance) (hc:Ct P f all.toArray [] X1 Post) (hX:∀ w,X w→X1 w:=by (first|exact fun _ _=>trivial|exact fun _ h=>h|exact fun _ h=>h.1|exact fun _ h=>h.2)) :
  Sw P N av bor w0 ops (⟨d,.call ⟨.value x,xs.toArray,ats⟩,ty,pos,af,g⟩::rest) ⟨E,loc,X⟩ k:=cj (pre:=[]) (fr:=loc) hx ha hall hg hb hd hf hc hX h
end
section
variable {P:Program} {N:Nat} {av bor:List Nat} {w0:World} {st:St} {x y:Operand} {t t2:TypeId} {ty:TypeId}
theorem CI {a b:ByteArray} (hx:ev st.env x=some (.string a)) (hy:ev st.env y=some (.string b)) (hab:ltB a b=true):Sy.Yields P N av bor w0 st (.binOp .geq t x y t2) ty (.bool false):=by
 have h:=tu (P:=P) (N:=N) (av:=av) (bor:=bor) (w0:=w0) (t:=t) (t2:=t2) (ty:=ty) hx hy
 have e:(!Op.bytesLess a.toList b.toList)=false:=by rw [show Op.bytesLess a.toList b.toList=true from hab];rfl
 rwa [e] at h
end
theorem DN {P:Program} {f:FuncId} {args:Array Value} {X X':World→Prop} {v:Value} (h:Pu P f args X v) (hx:∀ w,X' w→X w):Pu P f args X' v:=by
 unfold Pu at *
 exact Ct.mk fun w av G=>(Ct.run h w av (G.imp hx)).mono fun e w' ⟨u,R,X1,he,hp,G'⟩=>⟨u,R,X1,he,hp,G'⟩
end Go.Proofs.YtaolfiikahlmkaaGreatDoor
namespace Go.Proofs.YtaolfiikahlmkaaGreatDoor
open Go Go.Proofs Sy
section
variable {P:Program} {N:Nat} {av bor:List Nat} {w0:World} {x y:Operand} {t t2:TypeId} {ty:TypeId} {st:St} {k:IntKind} {a b:Int}
theorem cd [hI:TyInt P t k] (v:Bool) (hx:ev st.env x=some (.int k a)) (hy:ev st.env y=some (.int k b)) (hv:decide (a<b)=v):Sy.Yields P N av bor w0 st (.binOp .lss t x y t2) ty (.bool v):=hv▸uZ hx hy
theorem lH [hI:TyInt P t k] (v:Bool) (hx:ev st.env x=some (.int k a)) (hy:ev st.env y=some (.int k b)) (hv:decide (b≤a)=v):Sy.Yields P N av bor w0 st (.binOp .geq t x y t2) ty (.bool v):=hv▸u7 hx hy
theorem eH [hI:TyInt P t k] (v:Bool) (hx:ev st.env x=some (.int k a)) (hy:ev st.env y=some (.int k b)) (hv:decide (a=b)=v):Sy.Yields P N av bor w0 st (.binOp .eql t x y t2) ty (.bool v):=hv▸oq hx hy
theorem eF [hI:TyInt P t k] (v:Bool) (hx:ev st.env x=some (.int k a)) (hy:ev st.env y=some (.int k b)) (hv:(!decide (a=b))=v):Sy.Yields P N av bor w0 st (.binOp .neq t x y t2) ty (.bool v):=hv▸uY hx hy
theorem dj [hI:TyStr P t] {a b:ByteArray} (v:Bool) (hx:ev st.env x=some (.string a)) (hy:ev st.env y=some (.string b)) (hv:seqB a b=v):Sy.Yields P N av bor w0 st (.binOp .eql t x y t2) ty (.bool v):=hv▸pq hx hy
theorem lr {a b:ByteArray} (v:Bool) (hx:ev st.env x=some (.string a)) (hy:ev st.env y=some (.string b)) (hv:(!seqB a b)=v):Sy.Yields P N av bor w0 st (.binOp .neq t x y t2) ty (.bool v):=hv▸po hx hy
end
end Go.Proofs.YtaolfiikahlmkaaGreatDoor
namespace Go.Proofs.YtaolfiikahlmkaaGreatDoor
open Go Go.Proofs Sy
namespace Sy
section
variable {P:Program} {N:Nat} {av bor:List Nat} {w0:World} {ops:Array Oper} {rest:List Oper} {E:Env} {loc:List Res} {X:World→Prop} {k:St→Prop}
theorem p9 {w:World} {b e size m:Nat} {cs:List Value} (h:w.heap[b]?=some (.cells cs.toArray e (0,0))) (hl:cs.length=m*size) (hm:m≤maxLen):ORow w e size (.slice (some ⟨b,0,none⟩) m m) m cs :=
 ⟨hl,.inr ⟨b,m,cs.toArray,(0,0),rfl,h,ZX _,hm,by simpa using hl,by rw [←hl];simp,.inl rfl⟩⟩
theorem Gam.orow {w:World} {b e size m:Nat} {cs:List Value} (hl:cs.length=m*size) (hm:m≤maxLen) (G:Gam av bor w0 (cel b e cs::loc) X w):Gam av bor w0 (orow e size (.slice (some ⟨b,0,none⟩) m m) m cs::loc) X w:=by
 have e1:fps (Sy.orow e size (.slice (some ⟨b,0,none⟩) m m) m cs::loc)=fps (cel b e cs::loc):=by simp [fps,Sy.orow,cel,Value.ownBlock]
 refine ⟨G.fr,G.avb,by rw [e1];exact G.nodup,by rw [e1];exact G.own,fun r hr=>?_,by rw [e1];exact G.keep⟩
 rcases ZI.1 hr with rfl|hr
 · exact dW (p9 (G.here _ aw).now hl hm)
 · exact G.here r (Zv _ hr)
theorem pH {b e:Nat} {cs:List Value} (size m:Nat) (hl:cs.length=m*size:=by rfl) (hm:m≤maxLen) (h:Sw P N av bor w0 ops rest ⟨E,orow e size (.slice (some ⟨b,0,none⟩) m m) m cs::loc,X⟩ k):Sw P N av bor w0 ops rest ⟨E,cel b e cs::loc,X⟩ k :=
 Sw.mk fun a w ok=>h.run a w (ok.via fun M G=>G.orow hl hm)
end
end Sy
end Go.Proofs.YtaolfiikahlmkaaGreatDoor
namespace Go.Proofs.YtaolfiikahlmkaaGreatDoor.Sy
open Go Go.Proofs
section
variable {P:Program} {N:Nat} {av bor:List Nat} {w0:World} {st:St} {ty:TypeId} {x y:Operand} {t t2:TypeId}
variable {E:Env} {loc:List Res} {X:World→Prop} {ops:Array Oper} {kk:St→Prop} {n:Nat} {pos:String} {af:Array Edge} {g:Option (Nat×Bool)} {rest:List Oper} {bb want:Bool} {K:Exit→St→Prop} {c:Code}
theorem cO {p:Prop} {r:Res} (hm:r∈loc:=by exact aW) (hp:∀ w,r.F w→p) (h:p→Cw P N av bor w0 c ⟨E,loc,X⟩ K):Cw P N av bor w0 c ⟨E,loc,X⟩ K:=Cw.mk fun a w ok=>(h (hp w (ok.gam.here r hm).now)).run a w ok
theorem cC {w:World} {e size n c:Nat} {A:Option Addr} {xs:List Value} (h:ORow w e size (.slice A n c) n xs) (hn:0<n):A.isSome=true:=by
 rcases h.2 with ⟨h1,h2⟩|⟨g,cap,cur,fz,h1,hg,_⟩
 · omega
 · simp only [Value.slice.injEq] at h1
   obtain ⟨rfl,_⟩:=h1
   rfl
theorem gS {e size m i c:Nat} [h:TyAgg P t size] {A:Option Addr} {xs:List (List Value)} {cs:List Value} (hx:ev st.env x=some (elP A (i*size))) (hm:orow e size (.slice A m c) m xs.flatten∈st.loc) (hn:m=xs.length) (hs:∀ r∈xs,r.length=size) (hi:xs[i]?=some cs) :
  Yields P N av bor w0 st (.load t x) ty (.agg cs.toArray):=Sy.Yields.mk fun B w ok d pos af g=>by
 have hr:=bz (ok.gam.here _ hm).now hn hs
 obtain ⟨h1,hp,hc⟩:=RowsD.row hr i cs hi
 obtain ⟨a,rfl⟩:=QO.1 hp
 have:=dP (P:=P) (t:=t) h.out (w:=w) (A:=a.add (i*size)) h1 (fun j v hj=>by rw [fE];exact (hc j v hj).2 a rfl)
 simp [execOp,ok.eval hx,elP,Instr.loadAt,Instr.sureAddr,this]
theorem xl (l vs:List Value) (o s M:Nat) (hv:vs.length=s) (h1:o+s≤M) (h2:M≤l.length):(l.take o++vs++l.drop (o+s)).take M=(l.take M).take o++vs++(l.take M).drop (o+s):=by
 have e1:(l.take o++vs).length=o+s:=by rw [ZA,Qi,hv];omega
 rw [List.take_append,e1,Qf aa,List.take_take,Nat.min_eq_left aa,List.drop_take]
theorem rG (l vs:List Value) (o s M:Nat) (hv:vs.length=s) (h1:o+s≤M) (hl:l.length=M):(l.take o++vs++l.drop (o+s)).length=M:=by
 simp only [ZA,Qi,Qr,hv,hl]
 omega
theorem pG {d:Option Tmp} {loc':List Res} {e size m i c:Nat} {A:Option Addr} {xs vs xs':List Value} {v:Value} (hsz:(P.info? t).map (·.size)=some size) (hx:ev E x=some (elP A (i*size)):=by rfl) (hy:ev E y=some v:=by rfl) (hv:v.cells.toList=vs) (h1:(vs.all (·.oneCell'))=true:=by rfl) (hvl:vs.length=size) (hi:i<m:=by omega)
  (hxs:xs.take (i*size)++vs++xs.drop (i*size+size)=xs') (hA:At (orow e size (.slice A m c) m xs) (orow e size (.slice A m c) m xs') loc loc':=by (repeat (first|exact At.here _|apply At.there))) (hg:gdB ops E g=some (bb,want):=by rfl) (hb:bb=want:=by exact ao) (hd:Sy.inB N d=true)
  (h:Sw P N av bor w0 ops rest ⟨putE E d undef,loc',X⟩ kk):Sw P N av bor w0 ops (⟨d,.store t x y,ty,pos,af,g⟩::rest) ⟨E,loc,X⟩ kk:=Sw.mk fun a w ok=>by
 have ho:ORow w e size (.slice A m c) m xs:=(ok.gam.here _ hA.mem).now
 rcases ho.2 with ⟨_,h0⟩|⟨b,cap,cur,fz,hs,hb',hnc,hcm,hcs,htake,hfz⟩
 · omega
 simp only [Value.slice.injEq] at hs
 obtain ⟨rfl,_,rfl⟩:=hs
 have hm1:i*size+size≤m*size:=by rw [←Nat.succ_mul];exact QB _ hi
 have hm2:m*size≤cur.size:=by rw [hcs];exact QB _ hnc
 have hst:=eW P b (i*size) e fz vs 0 cur w hb' hfz aa (by simpa using h1)
 have hadd:(⟨b,0,none⟩:Addr).add (i*size)=⟨b,i*size,none⟩:=by unfold Addr.add;split<;>simp_all
 simp only [wpList]
 rw [bA ok (o:=⟨d,.store t x y,ty,pos,af,g⟩) hg]
 subst hb
 simp only [Zz,ZN]
 left
 unfold Oper.wp
 have hs:v.cells.size=size:=by rw [←hvl,←hv];simp
 generalize hnew:(cur.toList.take (i*size)++vs++cur.toList.drop (i*size+size)).toArray=new at *
 have hr:(execOp a.eval ⟨d,.store t x y,ty,pos,af,g⟩).run P w=.ok .skip (w.setRow b new):=by
  simp only [ZT,hvl,hnew] at hst
  simp [execOp,ok.eval (st:=⟨E,loc,X⟩) hx,ok.eval (st:=⟨E,loc,X⟩) hy,elP,hadd,Instr.storeAt,Instr.sureAddr,storeVar,run_sizeOf hsz,hs,hv,hst]
 rw [hr]
 have hsn:new.size=cur.size:=by
  rw [←hnew]
  simpa using rG cur.toList vs (i*size) size cur.size hvl aa (by simp)
 have ho':ORow (w.setRow b new) e size (.slice (some ⟨b,0,none⟩) m c) m xs':=by
  refine ⟨by rw [←hxs];exact rG xs vs (i*size) size (m*size) hvl hm1 ho.1,.inr ⟨b,c,new,fz,rfl,Go.setRow_heap w b cur new e fz hb',hnc,hcm,hsn.trans hcs,?_,by rw [hsn];exact hfz⟩⟩
  rw [←hnew,←hxs,←htake]
  exact xl cur.toList vs (i*size) size (m*size) hvl hm1 (by simpa using hm2)
 have ok':Ok N av bor w0 ⟨E,loc',X⟩ a (w.setRow b new):=(ok.via fun M G=>G.swap (hA.app M) rfl rfl rfl (by rw [Go.setRow_size];exact ZX _) (fun j _ hj=>Go.setRow_other w b j new (by rintro rfl;exact hj (by simp [orow,Value.ownBlock]))) (by simp [orow,Value.ownBlock]) (fun j hj=>by
  have hj:j=b:=by simpa [orow,Value.ownBlock] using hj
  subst hj
  exact ⟨by rw [Go.setRow_size];exact (QM.1 hb').1,.inl (by simp [orow,Value.ownBlock])⟩) (dW ho'))
 exact h.run _ _ (df d _▸ok'.put hd _)
end
end Go.Proofs.YtaolfiikahlmkaaGreatDoor.Sy
namespace Go.Proofs.YtaolfiikahlmkaaGreatDoor
open Go Go.Proofs Sy
structure ClaimD where
 actor:ByteArray
 base:Int
 prev:ByteArray
 gen:Int
 home:Int
 pub:Int
 time:Int
 e:Int
 s:Int
structure BallotD where
 server:Int
 actor:ByteArray
 gen:Int
 claim:ByteArray
 time:Int
 e:Int
 s:Int
structure DecD where
 server:Int
 number:Int
 kind:Int
 actor:ByteArray
 object:ByteArray
 text:ByteArray
 to:SlV
 n:Int
 from_:Int
 until_:Int
 e:Int
 s:Int
 toL:List ByteArray
structure ItemD where
 kind:Int
 act:ActD
 claim:ClaimD
 ballot:BallotD
 dec:DecD
def ClaimD.cells (c:ClaimD):List Value:=[.string c.actor,.int .i64 c.base,.string c.prev,.int .i64 c.gen,.int .i64 c.home,.int .i64 c.pub,.int .i64 c.time,.int .i64 c.e,.int .i64 c.s]
def ClaimD.v (c:ClaimD):Value:=.agg c.cells.toArray
def ClaimD.zero:ClaimD:=⟨⟨#[]⟩,0,⟨#[]⟩,0,0,0,0,0,0⟩
def BallotD.cells (b:BallotD):List Value:=[.int .i64 b.server,.string b.actor,.int .i64 b.gen,.string b.claim,.int .i64 b.time,.int .i64 b.e,.int .i64 b.s]
def BallotD.v (b:BallotD):Value:=.agg b.cells.toArray
def BallotD.zero:BallotD:=⟨0,⟨#[]⟩,0,⟨#[]⟩,0,0,0⟩
def DecD.cells (d:DecD):List Value:=[.int .i64 d.server,.int .i64 d.number,.int .i64 d.kind,.string d.actor,.string d.object,.string d.text,d.to.v,.int .i64 d.n,.int .i64 d.from_,.int .i64 d.until_,.int .i64 d.e,.int .i64 d.s]
def DecD.v (d:DecD):Value:=.agg d.cells.toArray
def DecD.zero:DecD:=⟨0,0,0,⟨#[]⟩,⟨#[]⟩,⟨#[]⟩,⟨none,0,0⟩,0,0,0,0,0,[]⟩
def DecD.at_ (w:World) (d:DecD):Prop:=Strs w d.to d.toL
def ItemD.cells (i:ItemD):List Value:=.int .i64 i.kind::(i.act.cells++i.claim.cells++i.ballot.cells++i.dec.cells)
def ItemD.v (i:ItemD):Value:=.agg i.cells.toArray
def ItemD.at_ (w:World) (i:ItemD):Prop:=ActD.at_ w i.act∧DecD.at_ w i.dec
def ofActI (a:ActD):ItemD:=⟨0,a,ClaimD.zero,BallotD.zero,DecD.zero⟩
def ItemD.zero:ItemD:=ofActI ActD.zero
def Items (w:World) (s:SlV) (l:List ItemD):Prop:=RowsD w 49 s (l.map ItemD.cells)∧∀ i∈l,ItemD.at_ w i
theorem Items.len_ {w:World} {s:SlV} {l:List ItemD} (h:Items w s l):s.n=l.length:=by simpa using RowsD.len h.1
theorem Items.max_ {w:World} {s:SlV} {l:List ItemD} (h:Items w s l):s.n≤maxLen:=ZY (RowsD.cap h.1) (RowsD.max h.1)
theorem Items.get {w:World} {s:SlV} {l:List ItemD} (h:Items w s l) {k:Nat} {x:ItemD} (hx:l[k]?=some x):x.cells.length=49∧s.p.isSome=true∧∀ j u,x.cells[j]?=some u→CellAt w s.p (k*49+j) u:=RowsD.row h.1 k x.cells (by simp [hx])
theorem Items.some_ {w:World} {s:SlV} {l:List ItemD} (h:Items w s l) (h0:0<l.length):s.p.isSome=true:=(h.get (k:=0) (x:=l[0]) (Zb h0)).2.1
end Go.Proofs.YtaolfiikahlmkaaGreatDoor
