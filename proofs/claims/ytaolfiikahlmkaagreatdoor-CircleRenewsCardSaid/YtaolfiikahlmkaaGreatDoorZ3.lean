/- Joined. -/
import Derived.Test.YtaolfiikahlmkaaGreatDoorZ2
import Derived.Laws.Cover3
import Derived.Lib.LazyBuf
import Derived.Shelf.Slices.CompactS
import Derived.Lib.RowBridge
import Derived.Sort.Walk0
set_option linter.unusedVariables false
set_option linter.unusedSimpArgs false
set_option maxHeartbeats 16000000
namespace Go.Proofs.YtaolfiikahlmkaaGreatDoor
open Go Go.Proofs Sy
def rotlV (x k:Int):Int:=bitsV .or .u32 (shlV .u32 x (bitsV .and .u64 (IntKind.u64.wrap k) 31)) (shrV .u32 x (IntKind.u64.wrap (32-bitsV .and .u64 (IntKind.u64.wrap k) 31)))
theorem D5 (x k:Int):Pu Tryz.prog 249 #[.int .u32 x,.int .i64 k] (fun _=>True) (.int .u32 (rotlV x k)):=by
 refine ak (args:=[_,_]) _ Tryz.func249 rfl Tryz.ntmps249 rfl fun av bor w0=>?_
 repeat' (first|refine gs ?_|fail)
 apply ad;apply ag;rfl;rfl;rfl
def turnV (w n:Int):Int:=rotlV w (IntKind.i64.wrap (0-n))
theorem qc (w n:Int):Pu Tryz.prog 178 #[.int .u32 w,.int .i64 n] (fun _=>True) (.int .u32 (turnV w n)):=by
 refine ak (args:=[_,_]) _ Tryz.func178 rfl Tryz.ntmps178 rfl fun av bor w0=>?_
 repeat' (first|refine ab (hc:=D5 _ _) ?_|refine gs ?_|(refine FL (hc:=rfl) ?_)|fail)
 apply ad;apply ag;rfl;rfl;rfl
theorem CE {a b:Nat} (h:a<b):Nat.blt a b=true:=Nat.ble_eq_true_of_le h
def u32s (ws:List Int):List Value:=ws.map (.int .u32)
theorem gl (ws:List Int):(u32s ws).length=ws.length:=by simp [u32s]
theorem ru (ws:List Int) (i:Nat) (v:Int):(u32s ws).set i (.int .u32 v)=u32s (ws.set i v):=by simp [u32s,List.map_set]
theorem ie (ws:List Int) (i:Nat) (h:i<ws.length):(u32s ws)[i]?=some (.int .u32 (ws.getD i 0)):=by simp [u32s,h]
def a32 (a b:Int):Int:=IntKind.u32.wrap (a+b)
def wordV (s:ByteArray) (i:Nat):Int :=
 bitsV .or .u32 (bitsV .or .u32 (bitsV .or .u32 (shlV .u32 (IntKind.u32.wrap (byteAt (s.extract (4*(i:Int)).toNat (4*(i:Int)+4).toNat) 0)) 24) (shlV .u32 (IntKind.u32.wrap (byteAt (s.extract (4*(i:Int)).toNat (4*(i:Int)+4).toNat) 1)) 16))
  (shlV .u32 (IntKind.u32.wrap (byteAt (s.extract (4*(i:Int)).toNat (4*(i:Int)+4).toNat) 2)) 8)) (IntKind.u32.wrap (byteAt (s.extract (4*(i:Int)).toNat (4*(i:Int)+4).toNat) 3))
def w1 (s:ByteArray):Nat→List Int
 | 0=>List.replicate 64 0
 | i+1=>(w1 s i).set i (wordV s i)
theorem qb (s:ByteArray):∀ i,(w1 s i).length=64
 | 0=>rfl
 | i+1=>by rw [w1,Z9,qb s i]
def early (w:List Int) (i:Nat):Int:=bitsV .xor .u32 (bitsV .xor .u32 (turnV (w.getD (i-15) 0) 7) (turnV (w.getD (i-15) 0) 18)) (shrV .u32 (w.getD (i-15) 0) 3)
def late (w:List Int) (i:Nat):Int:=bitsV .xor .u32 (bitsV .xor .u32 (turnV (w.getD (i-2) 0) 17) (turnV (w.getD (i-2) 0) 19)) (shrV .u32 (w.getD (i-2) 0) 10)
def w2 (s:ByteArray):Nat→List Int
 | 0=>w1 s 16
 | k+1=>(w2 s k).set (16+k) (a32 (a32 (a32 ((w2 s k).getD k 0) (early (w2 s k) (16+k))) ((w2 s k).getD (16+k-7) 0)) (late (w2 s k) (16+k)))
theorem qa (s:ByteArray):∀ i,(w2 s i).length=64
 | 0=>qb s 16
 | i+1=>by rw [w2,Z9,qa s i]
def schedV (s:ByteArray):List Int:=w2 s 48
theorem rQ (s:ByteArray) (hs:s.size=64):Pu Tryz.prog 177 #[.string s] (fun _=>True) (.agg (u32s (schedV s)).toArray):=by
 refine ak (args:=[_]) _ Tryz.func177 rfl Tryz.ntmps177 rfl fun av bor w0=>?_
 repeat' (first|refine gs ?_|refine gs1 fun _=>?_|fail)
 rename_i b1 b2
 refine ar (ι:=Kth 16) (fun i=>⟨[(0,.string s),(2,.pointer (some ⟨b1,0,none⟩)),(3,.pointer (some ⟨b2,0,none⟩)),(11,.int .i64 i.k)],[cel b2 234 (u32s (w1 s i.k)),cel b1 234 (u32s (List.replicate 64 0))],fun _=>True⟩) (fun i=>16-i.k) ⟨0,Z4 _⟩ (aj ao (al _) fun _ h=>h) fun i=>?_
 have hik:=i.hk
 repeat' (first|refine gs ?_|refine gs1 fun _=>?_|(refine gp ?_ ?_<;>intro hx_ this)|fail)
 · have hlt:i.k<16:=by omega
   have hlen:=qb s i.k
   have hes:(s.extract (4*(i.k:Int)).toNat (4*(i.k:Int)+4).toNat).size=4:=by simp only [ByteArray.size_extract];omega
   repeat' (first|refine gs ?_|refine gs1 fun _=>?_|(refine gp ?_ ?_<;>intro hx_ this)|fail)
   refine AM (h0:=by omega) (h1:=by omega) (h2:=by omega) ?_
   repeat' (first|refine gs ?_|refine gs1 fun _=>?_|(refine gp ?_ ?_<;>intro hx_ this)|fail)
   (refine aq ⟨[0,1,2,3,4,5,6,7,8,9,10,11,12,13,14,15,16,17,18,19],[(20,⟨[],[]⟩)]⟩ [] (fun _=>True) (h:=?_))
   all_goals repeat' (first|refine gd ?_|refine ay (hy:=by first|(apply tS;rfl;rfl;decide;(rw [hes];decide))|(apply f0 (q:=i.k);rfl;rfl;omega;omega;omega)) ?_|refine az ?_ (h':=?_)|exact aA|((refine bx (hl:=CE (by simp only [gl,hlen];omega)) ?_))|refine gs1 fun _=>?_|(refine gq ?_ ?_<;>intro hx_ this)|fail)
   repeat' (first|refine gs ?_|refine gs1 fun _=>?_|(refine gp ?_ ?_<;>intro hx_ this)|fail)
   exact ⟨(⟨i.k+1,hlt⟩:Kth 16),(by show 16-(i.k+1)<16-i.k;omega),aj ao (by
    show List.Sublist [cel b2 _ (u32s (w1 s (i.k+1))),_] _
    rw [w1,←ru]
    exact al _) fun _ h=>h⟩
 have hk:i.k=16:=by omega
 refine ar (ι:=Kth 48) (fun i=>⟨[(0,.string s),(2,.pointer (some ⟨b1,0,none⟩)),(3,.pointer (some ⟨b2,0,none⟩)),(6,.int .i64 (16+i.k))],[cel b2 234 (u32s (w2 s i.k)),cel b1 234 (u32s (List.replicate 64 0))],fun _=>True⟩) (fun i=>48-i.k) ⟨0,Z4 _⟩ (aj ao (by
  show List.Sublist [cel b2 _ (u32s (w1 s 16)),_] _
  rw [hk]
  exact al _) fun _ h=>h) fun i=>?_
 have hik:=i.hk
 have hlen:=qa s i.k
 repeat' (first|refine gs ?_|refine gs1 fun _=>?_|(refine gp ?_ ?_<;>intro hx_ this)|fail)
 · have hlt:i.k<48:=by omega
   (refine bo ⟨[0,1,2,3,4,5,6,7,8,9],[]⟩ (h:=?_))
   all_goals repeat' (first|refine gd ?_|refine ay (hy:=by first|(apply f0 (q:=16+i.k-15);rfl;rfl;omega;omega;omega)|(apply f0 (q:=16+i.k-2);rfl;rfl;omega;omega;omega)|(apply p8;rfl;(repeat (first|exact ax|apply Zv));exact ie _ _ aa)) ?_|refine az ?_ (h':=?_)|exact aA|refine gs1 fun _=>?_|(refine gq ?_ ?_<;>intro hx_ this)|fail)
   repeat' (first|refine ab (hc:=qc _ _) ?_|refine gs ?_|refine gs1 fun _=>?_|(refine gp ?_ ?_<;>intro hx_ this)|fail)
   (refine aq ⟨[0,1,2,3,5,7,8,9,12],[(4,⟨[6],[(10,⟨[11,13,14],[(15,⟨[],[]⟩)]⟩)]⟩),(10,⟨[],[(4,⟨[6,11,13,14],[(15,⟨[],[]⟩)]⟩)]⟩)]⟩ [] (fun _=>True) (h:=?_))
   all_goals repeat' (first|refine gd ?_|refine ay (hy:=by first|(apply f0 (q:=i.k);rfl;rfl;omega;omega;omega)|(apply f0 (q:=16+i.k-7);rfl;rfl;omega;omega;omega)|(apply f0 (q:=16+i.k);rfl;rfl;omega;omega;omega)) ?_|refine az ?_ (h':=?_)|exact aA|(refine bU (hv:=ie _ _ aa) ?_)|((refine bx (hl:=CE (by simp only [gl,hlen];omega)) ?_))|refine gs1 fun _=>?_|(refine gq ?_ ?_<;>intro hx_ this)|fail)
   all_goals (repeat' (first|refine gs ?_|refine gs1 fun _=>?_|(refine gp ?_ ?_<;>intro hx_ this)|fail))
   all_goals exact ⟨(⟨i.k+1,hlt⟩:Kth 48),(by show 48-(i.k+1)<48-i.k;omega),aj ao (by
    show List.Sublist [cel b2 _ (u32s (w2 s (i.k+1))),_] _
    rw [w2,←ru]
    exact al _) fun _ h=>h⟩
 have hk2:i.k=48:=by omega
 repeat' (first|refine gs ?_|refine gs1 fun _=>?_|(refine aE (hn:=by simp only [gl,hlen]) ?_)|(refine aJ (hm:=by simp only [gl,hlen]) (hn:=by rfl) (h1:=by simp [u32s,Value.oneCell']) ?_)|fail)
 apply ad;refine cB rfl rfl bz ?_
 · simp only [gl,hlen]
 rw [hk2]
 rfl
def iniC:List Int:=[1779033703,3144134277,1013904242,2773480762,1359893119,2600822924,528734635,1541459225]
def kC:List Int:=[1116352408,1899447441,3049323471,3921009573,961987163,1508970993,2453635748,2870763221,3624381080,310598401,607225278,1426881987,1925078388,2162078206,2614888103,3248222580,3835390401,4022224774,264347078,604807628,770255983,1249150122,1555081692,1996064986,2554220882,2821834349,2952996808,3210313671,3336571891,3584528711,113926993,338241895,666307205,773529912,1294757372,1396182291,1695183700,1986661051,2177026350,2456956037,2730485921,2820302411,3259730800,3345764771,3516065817,3600352804,4094571909,275423344,430227734,506948616,659060556,883997877,958139571,1322822218,1537002063,1747873779,1955562222,2024104815,2227730452,2361852424,2428436474,2756734187,3204031479,3329325298]
def CellsAt (g:Nat) (l:List Value) (w:World):Prop:=∀ j v,l[j]?=some v→w.cell? ⟨g,j,none⟩=some v
structure Glob (w:World):Prop where
 ini:CellsAt 0 (u32s iniC) w
 k:CellsAt 1 (u32s kC) w
structure St8 where
 a:Int
 b:Int
 c:Int
 d:Int
 e:Int
 f:Int
 g:Int
 h:Int
def St8.l (x:St8):List Int:=[x.a,x.b,x.c,x.d,x.e,x.f,x.g,x.h]
def x32 (a b:Int):Int:=bitsV .xor .u32 a b
def n32 (a b:Int):Int:=bitsV .and .u32 a b
def t1V (x:St8) (k w:Int):Int :=
 a32 (a32 (a32 (a32 x.h (x32 (x32 (turnV x.e 6) (turnV x.e 11)) (turnV x.e 25))) (x32 (n32 x.e x.f) (n32 (x32 (if IntKind.u32.signed then -1 else IntKind.u32.max) x.e) x.g))) k) w
def t2V (x:St8):Int:=a32 (x32 (x32 (turnV x.a 2) (turnV x.a 13)) (turnV x.a 22)) (x32 (x32 (n32 x.a x.b) (n32 x.a x.c)) (n32 x.b x.c))
def roundV (x:St8) (k w:Int):St8:=⟨a32 (t1V x k w) (t2V x),x.a,x.b,x.c,a32 x.d (t1V x k w),x.e,x.f,x.g⟩
def roundsV (x:St8) (ws:List Int):Nat→St8
 | 0=>x
 | i+1=>roundV (roundsV x ws i) (kC.getD i 0) (ws.getD i 0)
def mixV (x:St8) (s:ByteArray):St8 :=
 let y:=roundsV x (schedV s) 64
 ⟨a32 x.a y.a,a32 x.b y.b,a32 x.c y.c,a32 x.d y.d,a32 x.e y.e,a32 x.f y.f,a32 x.g y.g,a32 x.h y.h⟩
theorem Gi (i:Nat) (h:i<64):(u32s kC)[i]?=some (.int .u32 (kC.getD i 0)):=ie kC i h
theorem BS (x:St8) (s:ByteArray) (hs:s.size=64):Pu Tryz.prog 99 #[.agg (u32s x.l).toArray,.string s] Glob (.agg (u32s (mixV x s).l).toArray):=by
 refine ak (args:=[_,_]) _ Tryz.func99 rfl Tryz.ntmps99 rfl fun av bor w0=>?_
 obtain ⟨ws,hws,hlen⟩:∃ ws,schedV s=ws∧ws.length=64:=⟨_,rfl,qa s 48⟩
 have hsp:Pu Tryz.prog 177 #[.string s] (fun _=>True) (.agg (u32s ws).toArray):=hws▸rQ s hs
 unfold mixV
 rw [hws]
 repeat' (first|refine ab (hc:=hsp) ?_|refine gs ?_|refine gs1 fun _=>?_|(refine aJ (hm:=by simp only [gl,hlen]) (hn:=by rfl) (h1:=by simp [u32s,Value.oneCell']) ?_)|fail)
 (refine bo ⟨[0,1,2,3,4,5,6,7,8,9,10,11],[]⟩ (h:=?_))
 all_goals repeat' (first|refine gd ?_|refine az ?_ (h':=?_)|exact aA|refine gs1 fun _=>?_|(refine gq ?_ ?_<;>intro hx_ this)|fail)
 repeat' (first|refine gs ?_|refine gs1 fun _=>?_|fail)
 (refine bo ⟨[0,1,2,3,4,5,6,7,8,9,10,11],[]⟩ (h:=?_))
 all_goals repeat' (first|refine gd ?_|refine az ?_ (h':=?_)|exact aA|refine gs1 fun _=>?_|(refine gq ?_ ?_<;>intro hx_ this)|fail)
 repeat' (first|refine gs ?_|refine gs1 fun _=>?_|fail)
 rename_i b1 b2 b3
 refine ar (ι:=Kth 64) (fun i=>⟨[(2,.pointer (some ⟨b1,0,none⟩)),(4,.pointer (some ⟨b2,0,none⟩)),(5,.pointer (some ⟨b3,0,none⟩)),(6,.int .u32 (roundsV x ws i.k).a),(7,.int .u32 (roundsV x ws i.k).b),(8,.int .u32 (roundsV x ws i.k).c),(9,.int .u32 (roundsV x ws i.k).d),(10,.int .u32 (roundsV x ws i.k).e),(11,.int .u32 (roundsV x ws i.k).f),(12,.int .u32 (roundsV x ws i.k).g),(13,.int .u32 (roundsV x ws i.k).h),(35,.int .i64 i.k)],
  [cel b3 234 (u32s ws),cel b2 168 (u32s (List.replicate 8 0)),cel b1 168 (u32s x.l)],Glob⟩) (fun i=>64-i.k) ⟨0,Z4 _⟩ (aj ao (al _) fun _ h=>h) fun i=>?_
 have hik:=i.hk
 repeat' (first|refine gs ?_|refine gs1 fun _=>?_|(refine gp ?_ ?_<;>intro hx_ this)|fail)
 · have hlt:i.k<64:=by omega
   generalize hy:roundsV x ws i.k=y at *
   (refine bo ⟨[0,1,3,6,10,11,12,13,14,15,16,17,19,20,21,23,24,25],[(2,⟨[],[(4,⟨[5],[(7,⟨[8,9,18,22,26,27],[]⟩)]⟩)]⟩)]⟩ (h:=?_))
   all_goals repeat' (first|refine ab (hc:=qc _ _) ?_|refine gd ?_|refine ay (hy:=by first|(apply f0 (q:=i.k);rfl;rfl;omega;omega;omega)|(apply E7;rfl;exact fun w h=>h.k i.k _ (Gi _ hlt))|(apply p8;rfl;(repeat (first|exact ax|apply Zv));exact ie _ _ aa)) ?_|refine az ?_ (h':=?_)|exact aA|refine gs1 fun _=>?_|(refine gq ?_ ?_<;>intro hx_ this)|fail)
   repeat' (first|refine ab (hc:=qc _ _) ?_|refine gs ?_|refine gs1 fun _=>?_|(refine gp ?_ ?_<;>intro hx_ this)|fail)
   exact ⟨(⟨i.k+1,hlt⟩:Kth 64),(by show 64-(i.k+1)<64-i.k;omega),aj (by
    have e:roundsV x ws (i.k+1)=roundV y (kC.getD i.k 0) (ws.getD i.k 0):=by rw [roundsV,hy]
    simp only [e]
    exact ⟨rfl,rfl,rfl,rfl,rfl,rfl,rfl,rfl,rfl,rfl,rfl,rfl,trivial⟩) (al _) fun _ h=>h⟩
 have hk:i.k=64:=by omega
 repeat' (first|refine gs ?_|refine gs1 fun _=>?_|(refine xG ?_)|(refine gp ?_ ?_<;>intro hx_ this)|fail)
 apply ad;refine cB rfl rfl bz ?_
 · rfl
 rw [hk]
 rfl
def padN (n:Nat):Nat:=(120-n%64)%64
def sizeB (n:Int) (k:Nat):List Int:=(List.range k).map fun (j:Nat)=>IntKind.u8.wrap (shrV .u64 (IntKind.u64.wrap (IntKind.u64.wrap n*8)) (56-8*(j:Int)))
def endL (s:ByteArray):List Int:=bytesI s++[128]
def endV (s:ByteArray) (n:Int):ByteArray:=ofInts (endL s++List.replicate (padN (s.size+1)) 0++sizeB n 8)
theorem oq (s:ByteArray):(endL s).length=s.size+1:=by simp [endL,vd]
theorem xT (n:Int) (k:Nat):(sizeB n k).length=k:=by simp [sizeB]
theorem pO (s:ByteArray) (n:Int):(endV s n).size%64=0:=by
 rw [endV,ff]
 simp only [ZA,oq,List.length_replicate,xT,padN]
 omega
structure EndS (m:Nat) where
 k:Nat
 hk:k≤m
 A:Option Addr
 c:Nat
theorem yV (s:ByteArray) (n:Int) (hs:s.size≤1099511627776):Pu Tryz.prog 100 #[.string s,.int .i64 n] (fun _=>True) (.string (endV s n)):=by
 refine ak (args:=[_,_]) _ Tryz.func100 rfl Tryz.ntmps100 rfl fun av bor w0=>?_
 repeat' (first|refine gs ?_|refine gs1 fun _=>?_|(refine uk fun A c=>?_)|fail)
 rename_i b0
 refine aN (size:=1) (z:=.int .u8 0) (news:=u8s [128]) (q:=1) rfl rfl rfl rfl (fun _=>At.there _ (At.here _)) (fun w G=>bX G ax rfl rfl 1) ?_ ?_ rfl ?_ rfl ?_
 · omega
 · simp only [maxLen];omega
 · rfl
 intro A1 c1
 repeat' (first|refine gs ?_|refine gs1 fun _=>?_|fail)
 have hel:=oq s
 refine ar (ι:=EndS (padN (s.size+1))) (fun i=>⟨[(1,.int .i64 n),(5,.slice i.A (s.size+1+i.k) i.c)],[orow 5 1 (.slice i.A (s.size+1+i.k) i.c) (s.size+1+i.k) (u8s (endL s++List.replicate i.k 0))],fun _=>True⟩) (fun i=>padN (s.size+1)-i.k) ⟨0,Z4 _,A1,c1⟩ (aj ao ?_ fun _ h=>h) fun i=>?_
 · refine Z2 _ ?_
   rw [←cq]
   simp only [List.replicate_zero,ZJ]
   exact al _
 have hik:=i.hk
 have hp:padN (s.size+1)<64:=Qc _ aa
 have hp2:padN (s.size+1)=(120-(s.size+1)%64)%64:=rfl
 have htm:Int.tmod ((s.size+1+i.k:Nat):Int) 64=(((s.size+1+i.k)%64:Nat):Int):=Int.ofNat_tmod _ _
 repeat' (first|refine gs ?_|refine gs1 fun _=>?_|(refine gp ?_ ?_<;>intro hx_ this)|fail)
 refine fo (hc:=htm) ?_
 repeat' (first|refine gs ?_|refine gs1 fun _=>?_|(refine gp ?_ ?_<;>intro hx_ this)|fail)
 · have hlt:i.k<padN (s.size+1):=by
    have h1:¬ (((s.size+1+i.k)%64:Nat):Int)=56:=by simpa using hx_
    omega
   refine aN (size:=1) (z:=.int .u8 0) (news:=u8s [0]) (q:=1) rfl rfl rfl rfl (fun _=>At.there _ (At.here _)) (fun w G=>bX G ax rfl rfl 1) ?_ ?_ rfl ?_ rfl ?_
   · omega
   · simp only [maxLen];omega
   · rfl
   intro A2 c2
   repeat' (first|refine gs ?_|refine gs1 fun _=>?_|(refine gp ?_ ?_<;>intro hx_ this)|fail)
   refine ⟨(⟨i.k+1,hlt,A2,c2⟩:EndS (padN (s.size+1))),(by show padN (s.size+1)-(i.k+1)<padN (s.size+1)-i.k;omega),aj ao ?_ fun _ h=>h⟩
   refine Z2 _ ?_
   rw [←cq]
   simp only [List.replicate_succ',ZC]
   exact al _
 have hk:i.k=padN (s.size+1):=by
  have h1:(((s.size+1+i.k)%64:Nat):Int)=56:=by simpa using hx_
  omega
 have hl1:(endL s++List.replicate (padN (s.size+1)) 0:List Int).length=s.size+1+padN (s.size+1):=by simp [hel]
 rw [hk]
 generalize hL:(endL s++List.replicate (padN (s.size+1)) 0:List Int)=L at *
 refine ar (ι:=EndS 8) (fun j=>⟨[(5,.slice j.A (s.size+1+padN (s.size+1)+j.k) j.c),(6,.int .u64 (IntKind.u64.wrap (IntKind.u64.wrap n*8))),(7,.int .i64 (56-8*(j.k:Int)))],[orow 5 1 (.slice j.A (s.size+1+padN (s.size+1)+j.k) j.c) (s.size+1+padN (s.size+1)+j.k) (u8s (L++sizeB n j.k))],fun _=>True⟩) (fun j=>8-j.k) ⟨0,Z4 _,i.A,i.c⟩ (aj ao ?_ fun _ h=>h) fun j=>?_
 · have e:sizeB n 0=[]:=rfl
   simp only [e,ZJ]
   exact al _
 have hjk:=j.hk
 repeat' (first|refine gs ?_|refine gs1 fun _=>?_|(refine gp ?_ ?_<;>intro hx_ this)|fail)
 · have hlt:j.k<8:=by omega
   refine aN (size:=1) (z:=.int .u8 0) (news:=u8s [IntKind.u8.wrap (shrV .u64 (IntKind.u64.wrap (IntKind.u64.wrap n*8)) (56-8*(j.k:Int)))]) (q:=1) rfl rfl rfl rfl (fun _=>At.there _ (At.here _)) (fun w G=>bX G ax rfl rfl 1) ?_ ?_ rfl ?_ rfl ?_
   · omega
   · simp only [maxLen];omega
   · rfl
   intro A2 c2
   repeat' (first|refine gs ?_|refine gs1 fun _=>?_|(refine gp ?_ ?_<;>intro hx_ this)|fail)
   refine ⟨(⟨j.k+1,hlt,A2,c2⟩:EndS 8),(by show 8-(j.k+1)<8-j.k;omega),aj ⟨rfl,rfl,?_,trivial⟩ ?_ fun _ h=>h⟩
   · show some (Value.int .i64 (56-8*(j.k:Int)-8))=some (Value.int .i64 (56-8*((j.k+1:Nat):Int)))
     congr 2
     omega
   refine Z2 _ ?_
   rw [←cq]
   have e:sizeB n (j.k+1)=sizeB n j.k++[IntKind.u8.wrap (shrV .u64 (IntKind.u64.wrap (IntKind.u64.wrap n*8)) (56-8*(j.k:Int)))]:=by simp [sizeB,List.range_succ]
   simp only [e,ZC]
   exact al _
 have hj8:j.k=8:=by omega
 refine eJ (hm:=ax) ?_
 repeat' (first|refine gs ?_|refine gs1 fun _=>?_|(refine gp ?_ ?_<;>intro hx_ this)|fail)
 apply ad;apply ag;rfl;rfl
 rw [hj8,←hL,endV]
def iniS:St8:=⟨1779033703,3144134277,1013904242,2773480762,1359893119,2600822924,528734635,1541459225⟩
def loopV:Nat→St8→ByteArray→St8×ByteArray
 | 0,x,r=>(x,r)
 | f+1,x,r=>bif decide (64≤(r.size:Int)) then loopV f (mixV x (r.extract 0 64)) (r.extract 64 r.size) else (x,r)
def loopE:Nat→St8→ByteArray→St8
 | 0,x,_=>x
 | f+1,x,r=>bif seqB r ⟨#[]⟩ then x else loopE f (mixV x (r.extract 0 64)) (r.extract 64 r.size)
theorem dD (r:ByteArray):seqB r ⟨#[]⟩=decide (r.size=0):=by
 have h1:(⟨#[]⟩:ByteArray).toList=[]:=by simp [ByteArray.toList_eq]
 by_cases h:r.size=0
 · have:r=⟨#[]⟩:=by
    have h2:r.data=#[]:=Array.eq_empty_of_size_eq_zero h
    obtain ⟨d⟩:=r
    exact congrArg ByteArray.mk h2
   subst this
   simp only [seqB,h1]
   rfl
 · simp only [h,Zr]
   cases hs:seqB r ⟨#[]⟩ with
   | false=>rfl
   | true =>
    exfalso
    have h3:r.toList=[]:=by
     have:=hs
     simp only [seqB,h1] at this
     simpa using this
    have h4:r.toList.length=r.size:=by simp [ByteArray.toList_eq]
    rw [h3] at h4
    simp at h4
    omega
structure ShaA (s:ByteArray) where
 f:Nat
 x:St8
 r:ByteArray
 h:r.size≤f
 hs:r.size≤s.size
 e:loopV f x r=loopV s.size iniS s
def ShaA.next {s:ByteArray} (i:ShaA s) (h:64≤i.r.size):ShaA s :=
 ⟨i.f-1,mixV i.x (i.r.extract 0 64),i.r.extract 64 i.r.size,by have:=i.h;simp only [ByteArray.size_extract];omega,by have:=i.hs;simp only [ByteArray.size_extract];omega,by
  rw [←i.e]
  cases hf:i.f with
  | zero=>have:=i.h;omega
  | succ f =>
   have:decide (64≤(i.r.size:Int))=true:=Zd aa
   simp only [loopV,this,Zf,Nat.add_sub_cancel]⟩
theorem ShaA.last {s:ByteArray} (i:ShaA s) (h:¬ 64≤i.r.size):loopV s.size iniS s=(i.x,i.r):=by
 rw [←i.e]
 cases hf:i.f with
 | zero=>rfl
 | succ f =>
  have:decide (64≤(i.r.size:Int))=false:=Zc aa
  simp only [loopV,this,Ze]
structure ShaE (x0:St8) (s:ByteArray) where
 f:Nat
 x:St8
 r:ByteArray
 h:r.size≤f
 hm:r.size%64=0
 e:loopE f x r=loopE s.size x0 s
def ShaE.next {x0:St8} {s:ByteArray} (i:ShaE x0 s) (h:0<i.r.size):ShaE x0 s :=
 ⟨i.f-1,mixV i.x (i.r.extract 0 64),i.r.extract 64 i.r.size,by have:=i.h;simp only [ByteArray.size_extract];omega,by have:=i.hm;simp only [ByteArray.size_extract];omega,by
  rw [←i.e]
  cases hf:i.f with
  | zero=>have:=i.h;omega
  | succ f =>
   have:seqB i.r ⟨#[]⟩=false:=by rw [dD];exact Zc aa
   simp only [loopE,this,Ze,Nat.add_sub_cancel]⟩
theorem ShaE.last {x0:St8} {s:ByteArray} (i:ShaE x0 s) (h:i.r.size=0):loopE s.size x0 s=i.x:=by
 rw [←i.e]
 cases hf:i.f with
 | zero=>rfl
 | succ f =>
  have:seqB i.r ⟨#[]⟩=true:=by rw [dD];exact Zd h
  simp only [loopE,this,Zf]
def digB (w:Int):List Int:=[IntKind.u8.wrap (shrV .u32 w 24),IntKind.u8.wrap (shrV .u32 w 16),IntKind.u8.wrap (shrV .u32 w 8),IntKind.u8.wrap w]
def shaV (s:ByteArray):ByteArray :=
 let p:=loopV s.size iniS s
 let r:=endV p.2 s.size
 ofInts ((loopE r.size p.1 r).l.flatMap digB)
theorem tB (l:List Int):(l.flatMap digB).length=4*l.length:=by
 induction l with
 | nil=>rfl
 | cons a l ih=>rw [List.flatMap_cons,ZA,ih];simp [digB];omega
theorem St8.len (x:St8):x.l.length=8:=rfl
theorem pi (s:ByteArray):(shaV s).size=32:=by
 simp only [shaV]
 rw [ff,tB,St8.len]
theorem qo (s:ByteArray) (hs:s.size≤1099511627776):Pu Tryz.prog 54 #[.string s] Glob (.string (shaV s)):=by
 refine ak (args:=[_]) _ Tryz.func54 rfl Tryz.ntmps54 rfl fun av bor w0=>?_
 repeat' (first|refine gs ?_|refine gs1 fun _=>?_|(refine vN (cs:=u32s iniC) (hF:=fun w h=>h.ini) (hl:=by rfl) ?_)|fail)
 rename_i b
 refine ar (ι:=ShaA s) (fun i=>⟨[(0,.string s),(3,.pointer (some ⟨b,0,none⟩)),(4,.string i.r)],[cel b 168 (u32s i.x.l)],Glob⟩) (fun i=>i.f) ⟨s.size,iniS,s,ZX _,ZX _,rfl⟩ (aj ao (al _) fun _ h=>h) fun i=>?_
 repeat' (first|refine gs ?_|refine gs1 fun _=>?_|(refine gp ?_ ?_<;>intro hx_ this)|fail)
 · have h64:64≤i.r.size:=by omega
   have hx64:(i.r.extract 0 (Int.toNat 64)).size=64:=by simp only [ByteArray.size_extract];have:Int.toNat 64=64:=rfl;omega
   (refine aq ⟨[1,2],[(0,⟨[],[(3,⟨[],[(4,⟨[],[]⟩)]⟩)]⟩)]⟩ [] (fun _=>True) (h:=?_))
   all_goals repeat' (first|refine ab (hc:=BS i.x _ hx64) ?_|refine gd ?_|refine ay (hy:=by first|(apply tT;rfl;rfl;decide;omega)) ?_|refine az ?_ (h':=?_)|exact aA|(refine aE ?_)|refine gs1 fun _=>?_|(refine gq ?_ ?_<;>intro hx_ this)|fail)
   all_goals (repeat' (first|refine gs ?_|refine gs1 fun _=>?_|(refine gp ?_ ?_<;>intro hx_ this)|fail))
   refine vL (h0:=by decide) (h1:=by omega) ?_
   repeat' (first|refine gs ?_|refine gs1 fun _=>?_|(refine gp ?_ ?_<;>intro hx_ this)|fail)
   exact ⟨i.next h64,(by show i.f-1<i.f;have:=i.h;omega),aj ao (al _) fun _ h=>h⟩
 have hlast:=i.last aa
 have hrs:=i.hs
 repeat' (first|refine ab (hc:=yV i.r _ aa) ?_|refine gs ?_|refine gs1 fun _=>?_|(refine gp ?_ ?_<;>intro hx_ this)|fail)
 have hmod:=pO i.r (s.size:Int)
 generalize hr0:endV i.r (s.size:Int)=r0 at *
 refine ar (ι:=ShaE i.x r0) (fun j=>⟨[(3,.pointer (some ⟨b,0,none⟩)),(4,.string j.r)],[cel b 168 (u32s j.x.l)],Glob⟩) (fun j=>j.f) ⟨r0.size,i.x,r0,ZX _,hmod,rfl⟩ (aj ao (al _) fun _ h=>h) fun j=>?_
 have hjm:=j.hm
 repeat' (first|refine gs ?_|refine gs1 fun _=>?_|(refine gp ?_ ?_<;>intro hx_ this)|fail)
 · have hne:0<j.r.size:=by
    have:seqB j.r ⟨#[]⟩=false:=by simpa using hx_
    rw [dD] at this
    have:=aQ this
    omega
   have h64:64≤j.r.size:=by omega
   have hx64:(j.r.extract 0 (Int.toNat 64)).size=64:=by simp only [ByteArray.size_extract];have:Int.toNat 64=64:=rfl;omega
   (refine aq ⟨[1,2],[(0,⟨[],[(3,⟨[],[(4,⟨[],[]⟩)]⟩)]⟩)]⟩ [] (fun _=>True) (h:=?_))
   all_goals repeat' (first|refine ab (hc:=BS j.x _ hx64) ?_|refine gd ?_|refine ay (hy:=by first|(apply tT;rfl;rfl;decide;omega)) ?_|refine az ?_ (h':=?_)|exact aA|(refine aE ?_)|refine gs1 fun _=>?_|(refine gq ?_ ?_<;>intro hx_ this)|fail)
   all_goals (repeat' (first|refine gs ?_|refine gs1 fun _=>?_|(refine gp ?_ ?_<;>intro hx_ this)|fail))
   refine vL (h0:=by decide) (h1:=by omega) ?_
   repeat' (first|refine gs ?_|refine gs1 fun _=>?_|(refine gp ?_ ?_<;>intro hx_ this)|fail)
   exact ⟨j.next hne,(by show j.f-1<j.f;have:=j.h;omega),aj ao (al _) fun _ h=>h⟩
 have hz:j.r.size=0:=by
  have:seqB j.r ⟨#[]⟩=true:=by simpa using hx_
  rw [dD] at this
  exact aG this
 have hend:=j.last hz
 have hl8:=St8.len j.x
 repeat' (first|refine gs ?_|refine gs1 fun _=>?_|(refine iR (c:=32) (hy:=by rfl) (hm:=by rfl) (hm2:=by rfl) fun q=>?_)|fail)
 generalize hL:j.x.l=L at *
 have hfl:=fun k=>tB (L.take k)
 refine ar (ι:=EndS 8) (fun m=>⟨[(5,.slice m.A (4*m.k) m.c),(32,.agg (u32s L).toArray),(33,.int .i64 m.k)],[orow 5 1 (.slice m.A (4*m.k) m.c) (4*m.k) (u8s ((L.take m.k).flatMap digB))],Glob⟩) (fun m=>8-m.k) ⟨0,Z4 _,_,_⟩ (aj ao (Z3 _ (Z2 _ (al _))) fun _ h=>h) fun m=>?_
 have hmk:=m.hk
 repeat' (first|refine gs ?_|refine gs1 fun _=>?_|(refine gp ?_ ?_<;>intro hx_ this)|fail)
 · have hlt:m.k<8:=by omega
   have hg:(u32s L).toArray[((m.k:Nat):Int).toNat]?=some (.int .u32 (L.getD m.k 0)):=by
    rw [ZZ]
    simpa using ie L m.k aa
   repeat' (first|refine gs ?_|refine gs1 fun _=>?_|(refine DA (hv:=hg) ?_)|fail)
   refine aN (size:=1) (z:=.int .u8 0) (news:=u8s (digB (L.getD m.k 0))) (q:=4) rfl rfl rfl rfl (fun _=>At.there _ (At.here _)) (fun w G=>bX G ax rfl rfl 4) ?_ ?_ rfl ?_ rfl ?_
   · omega
   · simp only [maxLen];omega
   · rfl
   intro A2 c2
   repeat' (first|refine gs ?_|refine gs1 fun _=>?_|(refine gp ?_ ?_<;>intro hx_ this)|fail)
   refine ⟨(⟨m.k+1,hlt,A2,c2⟩:EndS 8),(by show 8-(m.k+1)<8-m.k;omega),aj ⟨?_,rfl,rfl,trivial⟩ ?_ fun _ h=>h⟩
   · rfl
   refine Z2 _ ?_
   rw [←cq]
   have e:(L.take (m.k+1)).flatMap digB=(L.take m.k).flatMap digB++digB (L.getD m.k 0):=by
    have hlt2:m.k<L.length:=by omega
    rw [Qg,List.flatMap_append,Zb hlt2,Zo,Zb hlt2]
    simp only [Qu,List.flatMap_cons,List.flatMap_nil,ZJ,Qe]
   simp only [e]
   exact al _
 have hm8:m.k=8:=by omega
 repeat' (first|refine gs ?_|refine gs1 fun _=>?_|(refine gp ?_ ?_<;>intro hx_ this)|fail)
 refine eJ (hm:=ax) ?_
 repeat' (first|refine gs ?_|refine gs1 fun _=>?_|(refine gp ?_ ?_<;>intro hx_ this)|fail)
 apply ad;apply ag;rfl;rfl
 rw [hm8,Qf (by omega)]
 simp only [shaV,hlast,hr0,hend,hL]
structure ActD.Rng (a:ActD):Prop where
 ints:a.seq<9223372036854775808∧a.kind<9223372036854775808∧a.time<9223372036854775808∧a.scope<9223372036854775808∧a.epoch<9223372036854775808∧a.n<9223372036854775808∧a.m<9223372036854775808∧a.e<9223372036854775808∧a.s<9223372036854775808
 wints:∀ w∈a.wrapsL,w.to<9223372036854775808∧w.eph<9223372036854775808
 to_len:a.to.n=a.toL.length
 wraps_len:a.wraps.n=a.wrapsL.length
def useU (z0 z1 z2 z3 z4 z5 z6 z7 z8 z9 z10:Bool):Int :=
 noteV (noteV (noteV (noteV (noteV (noteV (noteV (noteV (noteV (noteV (noteV 0 1 z0) 2 z1) 4 z2) 8 z3) 16 z4) 32 z5) 64 z6) 128 z7) 256 z8) 512 z9) 1024 z10
def useOk (fs:Nat) (z0 z1 z2 z3 z4 z5 z6 z7 z8 z9 z10:Bool):Bool :=
 !decide (bitsV .andNot .i64 (useU z0 z1 z2 z3 z4 z5 z6 z7 z8 z9 z10) fs=0)||((fs.testBit 0||z0)&&(fs.testBit 1||z1)&&(fs.testBit 3||z3)&&(fs.testBit 4||z4)&&(fs.testBit 5||z5)&&(fs.testBit 6||z6)&&(fs.testBit 8||z8))
def bools (p:Bool→Bool):Bool:=p true&&p false
theorem cd {p:Bool→Bool} (h:bools p=true) (b:Bool):p b=true:=by
 simp only [bools,Zp] at h
 cases b
 · exact h.2
 · exact h.1
def useAll (fs:Nat):Bool:=bools fun z0=>bools fun z1=>bools fun z2=>bools fun z3=>bools fun z4=>bools fun z5=>bools fun z6=>bools fun z7=>bools fun z8=>bools fun z9=>bools fun z10=>useOk fs z0 z1 z2 z3 z4 z5 z6 z7 z8 z9 z10
theorem ub:([1568,252,253,1,2,33,24,412,35,1536,1808,513,546].all useAll)=true:=by decide +kernel
theorem zO {fs:Nat} (hfs:useAll fs=true) {z0 z1 z2 z3 z4 z5 z6 z7 z8 z9 z10:Bool} (h:bitsV .andNot .i64 (useU z0 z1 z2 z3 z4 z5 z6 z7 z8 z9 z10) fs=0) :
  (fs.testBit 0||z0)=true∧(fs.testBit 1||z1)=true∧(fs.testBit 3||z3)=true∧(fs.testBit 4||z4)=true∧(fs.testBit 5||z5)=true∧(fs.testBit 6||z6)=true∧(fs.testBit 8||z8)=true:=by
 have h1:=cd (cd (cd (cd (cd (cd (cd (cd (cd (cd (cd hfs z0) z1) z2) z3) z4) z5) z6) z7) z8) z9) z10
 simp only [useOk,h,Zt,Zn,Zi,Zp] at h1
 obtain ⟨⟨⟨⟨⟨⟨h2,h3⟩,h4⟩,h5⟩,h6⟩,h7⟩,h8⟩:=h1
 exact ⟨h2,h3,h4,h5,h6,h7,h8⟩
theorem kS {s:ByteArray} (h:isId s=true):s.size=16:=by
 simp only [isId,Zp,Zw] at h
 omega
theorem lH {s:ByteArray} (h:isName s=true):s.size≤24:=by
 simp only [isName,Zp,Bool.not_eq_true',Qd] at h
 omega
theorem oS {s:ByteArray} (h:isDigestB s=true):s.size=32:=by
 simp only [isDigestB,Zw] at h
 omega
theorem fB {s:ByteArray} (h:isShortB s=true):s.size≤500:=by
 simp only [isShortB,Zw] at h
 omega
theorem eA {s:ByteArray} (h:seqB s ⟨#[]⟩=true):s.size=0:=by
 rw [dD] at h
 exact aG h
structure Short (b:BoxD):Prop where
 nonce:b.nonce.size≤500
 data:b.data.size≤500
 tag:b.tag.size≤500
theorem Short.fit {b:BoxD} (h:Short b):b.Fit:=⟨by have:=h.nonce;omega,by have:=h.data;omega,by have:=h.tag;omega⟩
theorem Short.size {b:BoxD} (h:Short b):(boxV b).size≤1530:=by
 have h1:=aB b.nonce
 have h2:=aB b.data
 have h3:=aB b.tag
 have:=h.nonce
 have:=h.data
 have:=h.tag
 simp only [boxV,Za]
 omega
theorem iB {b:BoxD} (h:isSealedB b=true):Short b:=by
 simp only [isSealedB,Zp,Zw] at h
 have:=fB h.2
 exact ⟨by omega,this,by omega⟩
theorem ek {b:BoxD} (h:boxEq b BoxD.zero=true):Short b:=by
 simp only [boxEq,Zp,BoxD.zero] at h
 obtain ⟨⟨h1,h2⟩,h3⟩:=h
 have:=eA h1
 have:=eA h2
 have:=eA h3
 exact ⟨by omega,by omega,by omega⟩
structure ToOk (l:List ByteArray):Prop where
 len:l.length≤64
 each:∀ x∈l,x.size≤16
theorem mo {n:Nat} {bad:Nat→Bool} (h:allB n bad=true) {k:Nat} (hk:k<n):bad k=false:=by
 simp only [allB,List.all_eq_true,List.mem_range] at h
 simpa using h k hk
theorem j6 {l:List ByteArray} (h:isIds l=true):ToOk l:=by
 simp only [isIds,Zp,Bool.not_eq_true',Qd] at h
 refine ⟨by omega,fun x hx=>?_⟩
 obtain ⟨k,hk,rfl⟩:=Qx hx
 have h1:=mo h.2 hk
 simp only [badIds,Ql,Bool.not_eq_false'] at h1
 have h2:l.getD k .empty=l[k]:=by simp [hk]
 rw [h2] at h1
 have:=kS h1.1
 omega
theorem qZ {B:Nat}:∀ (l:List ByteArray),(∀ x∈l,x.size≤B)→(cats l).size≤l.length*B
 | [],_=>by simp [cats]
 | x::l,h=>by
  have h1:=qZ l fun y hy=>h y (Zv _ hy)
  have h2:=h x ax
  simp only [cats,Za,ZB,QE,Nat.one_mul]
  omega
theorem ToOk.size {l:List ByteArray} (h:ToOk l):(listV l).size≤1073741824:=by
 have h1:=ap l.length
 have h2:=qZ (B:=26) (l.map textV) (fun x hx=>by
  obtain ⟨y,hy,rfl⟩:=QI.1 hx
  have:=h.each y hy
  have:=aB y
  omega)
 have h3:=h.len
 simp only [ZF] at h2
 simp only [listV,Za]
 omega
theorem ToOk.nil {l:List ByteArray} (h:l.length=0):ToOk l:=by
 have:l=[]:=Z8 h
 subst this
 exact ⟨by simp,by simp⟩
structure WrapsOk (l:List WrapD):Prop where
 len:l.length≤64
 each:∀ x∈l,Short x.box
theorem WrapsOk.size {l:List WrapD} (h:WrapsOk l):(cats (l.map wrapV)).size≤1073741824:=by
 have h2:=qZ (B:=1550) (l.map wrapV) (fun x hx=>by
  obtain ⟨y,hy,rfl⟩:=QI.1 hx
  have:=(h.each y hy).size
  have:=ap y.to
  have:=ap y.eph
  simp only [wrapV,Za]
  omega)
 have h3:=h.len
 simp only [ZF] at h2
 omega
theorem WrapsOk.nil {l:List WrapD} (h:l.length=0):WrapsOk l:=by
 have:l=[]:=Z8 h
 subst this
 exact ⟨by simp,by simp⟩
theorem mz {a:ActD} (hr:a.Rng) (ht:ToOk a.toL) (h:wrappedB a=true):WrapsOk a.wrapsL:=by
 simp only [wrappedB,Zp,Zw] at h
 have h1:=hr.to_len
 have h2:=hr.wraps_len
 have h3:=ht.len
 refine ⟨by omega,fun x hx=>?_⟩
 obtain ⟨k,hk,rfl⟩:=Qx hx
 have h4:=mo h.1 hk
 rw [kq (Zb hk)] at h4
 simp only [Ql,Bool.not_eq_false'] at h4
 exact iB h4.2.2
structure Bnd (a:ActD):Prop where
 object:a.object.size≤500
 target:a.target.size≤500
 group:a.group.size≤500
 text:a.text.size≤500
 body:Short a.body
 to:ToOk a.toL
 wraps:WrapsOk a.wrapsL
theorem sX {κ β:Type} [KeyT κ] {k:κ} {x:β}:∀ {l:List (κ×β)},mget l k=some x→∃ k',(k',x)∈l
 | [],h=>by cases h
 | (k',v)::r,h=>by
  simp only [mget] at h
  cases hb:KeyT.eqb k k' with
  | true=>rw [hb] at h;simp at h;subst h;exact ⟨k',ax⟩
  | false=>rw [hb] at h;obtain ⟨k2,h2⟩:=sX (l:=r) (by simpa using h);exact ⟨k2,Zv _ h2⟩
theorem nr {sc:Int} {g:ByteArray} (h:sealedScopeB sc g=true):g.size≤500:=by
 unfold sealedScopeB at h
 cases h1:decide (sc=2)<;>cases h2:decide (sc=1)<;>cases h3:decide (sc=3)<;>simp only [h1,h2,h3,Zf,Ze] at h
 all_goals first
  | (have:=lH h;omega)
  | (have:=eA h;omega)
  | cases h
theorem lR {a:ActD} (h:audienceB a=true):a.group.size≤500∧a.text.size≤500∧Short a.body∧ToOk a.toL:=by
 unfold audienceB at h
 cases h0:isIds a.toL with
 | false=>simp [h0] at h
 | true =>
  have ht:=j6 h0
  cases h1:decide (a.scope=0) with
  | true =>
   simp only [h0,h1,Zn,Zf,Ze,Zp] at h
   obtain ⟨⟨⟨h2,h3⟩,h4⟩,h5⟩:=h
   have:=eA h2
   have:=fB h4
   exact ⟨by omega,by omega,ek h5,ht⟩
  | false =>
   cases h6:(decide (0<(a.to.n:Int))&&!decide (a.scope=3)) with
   | true=>simp only [h0,h1,h6,Zn,Zf,Ze] at h;cases h
   | false =>
    simp only [h0,h1,h6,Zn,Zf,Ze,Zp] at h
    obtain ⟨⟨⟨h2,h3⟩,h4⟩,h5⟩:=h
    have:=eA h4
    exact ⟨nr h2,by omega,iB h5,ht⟩
theorem cY {s:ByteArray} (h:seqB s ⟨#[]⟩=true):s.size≤500:=by have:=eA h;omega
theorem GF {a:ActD} (hr:a.Rng) (h:decide ((a.to.n:Int)=0)=true):ToOk a.toL:=ToOk.nil (by have:=aG h;have:=hr.to_len;omega)
theorem ma {a:ActD} (hr:a.Rng) (h:decide ((a.wraps.n:Int)=0)=true):WrapsOk a.wrapsL:=WrapsOk.nil (by have:=aG h;have:=hr.wraps_len;omega)
theorem tJ {s:ByteArray} (h:isDigestB s=true):s.size≤500:=by have:=oS h;omega
theorem B7 {s:ByteArray} (h:isId s=true):s.size≤500:=by have:=kS h;omega
theorem BP {s:ByteArray} (h:isName s=true):s.size≤500:=by have:=lH h;omega
theorem zL (a:ActD):usedV a=useU (seqB a.object ⟨#[]⟩) (seqB a.target ⟨#[]⟩) (decide (a.scope=0)) (seqB a.group ⟨#[]⟩) (decide ((a.to.n:Int)=0)) (seqB a.text ⟨#[]⟩) (boxEq a.body BoxD.zero) (decide (a.epoch=0)) (decide ((a.wraps.n:Int)=0)) (decide (a.n=0)) (decide (a.m=0)):=rfl
theorem iM {a:ActD} (hr:a.Rng) (h:ruleB a=true):Bnd a:=by
 unfold ruleB at h
 cases hk:mget (ruleL a) a.kind with
 | none=>rw [hk] at h;cases h
 | some x =>
  obtain ⟨fs,b⟩:=x
  rw [hk] at h
  simp only [Zp,Zw] at h
  obtain ⟨hu,hb⟩:=h
  rw [zL] at hu
  obtain ⟨k',hm⟩:=sX hk
  obtain ⟨n,hn,hmem⟩:∃ n:Nat,fs=n∧n∈[1568,252,253,1,2,33,24,412,35,1536,1808,513,546]:=by
   simp only [ruleL,ZI,Prod.mk.injEq,Qk,or_false] at hm
   clear hu hb hk
   rcases hm with ⟨-,h9,-⟩|⟨-,h9,-⟩|⟨-,h9,-⟩|⟨-,h9,-⟩|⟨-,h9,-⟩|⟨-,h9,-⟩|⟨-,h9,-⟩|⟨-,h9,-⟩|⟨-,h9,-⟩|⟨-,h9,-⟩|⟨-,h9,-⟩|⟨-,h9,-⟩|⟨-,h9,-⟩|⟨-,h9,-⟩|⟨-,h9,-⟩|⟨-,h9,-⟩|⟨-,h9,-⟩|⟨-,h9,-⟩|⟨-,h9,-⟩|⟨-,h9,-⟩|⟨-,h9,-⟩|⟨-,h9,-⟩|⟨-,h9,-⟩|⟨-,h9,-⟩<;>exact ⟨fs.toNat,by omega,by rw [h9];decide⟩
  rw [hn] at hu
  obtain ⟨u0,u1,u3,u4,u5,u6,u8⟩:=zO (List.all_eq_true.1 ub n hmem) hu
  clear hu hmem hk
  simp only [ruleL,ZI,Prod.mk.injEq,Qk,or_false] at hm
  rcases hm with ⟨-,rfl,rfl⟩|⟨-,rfl,rfl⟩|⟨-,rfl,rfl⟩|⟨-,rfl,rfl⟩|⟨-,rfl,rfl⟩|⟨-,rfl,rfl⟩|⟨-,rfl,rfl⟩|⟨-,rfl,rfl⟩|⟨-,rfl,rfl⟩|⟨-,rfl,rfl⟩|⟨-,rfl,rfl⟩|⟨-,rfl,rfl⟩|⟨-,rfl,rfl⟩|⟨-,rfl,rfl⟩|⟨-,rfl,rfl⟩|⟨-,rfl,rfl⟩|⟨-,rfl,rfl⟩|⟨-,rfl,rfl⟩|⟨-,rfl,rfl⟩|⟨-,rfl,rfl⟩|⟨-,rfl,rfl⟩|⟨-,rfl,rfl⟩|⟨-,rfl,rfl⟩|⟨-,rfl,rfl⟩
  all_goals
   have hn':=congrArg Int.toNat hn
   rw [ZZ] at hn'
   subst hn'
   try simp only [rule1B,rule2B,rule3B,rule4B,rule5B,rule6B,objectB,targetB,grantB,setupB,Zp] at hb
  all_goals first
   | (have hA:=lR hb;exact ⟨cY u0,cY u1,hA.1,hA.2.1,hA.2.2.1,hA.2.2.2,ma hr u8⟩)
   | (have hA:=lR hb.2;exact ⟨tJ hb.1,cY u1,hA.1,hA.2.1,hA.2.2.1,hA.2.2.2,ma hr u8⟩)
   | (have hT:=j6 hb.1.2;exact ⟨cY u0,cY u1,nr hb.1.1.1,cY u5,ek u6,hT,mz hr hT hb.2⟩)
   | (have hT:=j6 hb.1.1.1.2;exact ⟨cY u0,cY u1,cY u3,cY u5,ek u6,hT,mz hr hT hb.1.1.2⟩)
   | exact ⟨by first|exact cY u0|exact tJ hb.1|exact tJ hb,by first|exact cY u1|exact B7 hb|exact B7 hb.1.1,by first|exact cY u3|exact BP hb.1,by first|exact cY u5|exact fB hb.2|exact BP hb.1|exact fB hb.1.2,ek u6,by first|exact GF hr u4|exact j6 hb.2,ma hr u8⟩
   | skip
  unfold labelB at hb
  cases hN:isName a.text with
  | false=>simp [hN] at hb
  | true =>
   simp only [hN,Zn,Ze,Bool.or_eq_true,Zp,objectB,targetB] at hb
   refine ⟨?_,?_,cY u3,BP hN,ek u6,GF hr u4,ma hr u8⟩
   · rcases hb with hb|hb
     · exact tJ hb.1
     · exact cY hb.2
   · rcases hb with hb|hb
     · exact cY hb.2
     · exact B7 hb.1
theorem dl {a:ActD} (hr:a.Rng) (h:rightB a=true):a.Fit:=by
 simp only [rightB,Zp] at h
 obtain ⟨⟨⟨⟨⟨h1,h2⟩,h3⟩,h4⟩,h5⟩,h6⟩:=h
 have hB:=iM hr h6
 have hp:a.prev.size≤500:=by
  unfold placedB at h2
  cases hs:decide (a.seq=0) with
  | true=>simp only [hs,Zf,Zp] at h2;exact cY h2.2
  | false=>simp only [hs,Ze,Zp] at h2;exact tJ h2.2
 have:=kS h1
 have:=hB.object
 have:=hB.target
 have:=hB.group
 have:=hB.text
 exact ⟨by omega,by omega,by omega,by omega,by omega,by omega,hB.body.fit,hB.to.size,fun w hw=>(hB.wraps.each w hw).fit,hB.wraps.size,hr.ints,hr.wints⟩
end Go.Proofs.YtaolfiikahlmkaaGreatDoor
namespace Go.Proofs.YtaolfiikahlmkaaGreatDoor.Sy
open Go Go.RowKit
section
variable {P:Program} {N:Nat} {av bor:List Nat} {w0:World} {ops:Array Oper} {rest:List Oper} {k:St→Prop} {E:Env} {loc loc':List Res} {X:World→Prop}
variable {d:Option Tmp} {ty:TypeId} {pos:String} {af:Array Edge} {g:Option (Nat×Bool)} {bb want:Bool} {K:Exit→St→Prop}
theorem CV {st:St} {x y:Operand} {t t2 e n b':Nat} {p:Option Addr} {m c:Nat} [hI:TySl P t e n b'] (hx:ev st.env x=some (.slice p m c)) (hy:ev st.env y=some (.slice none 0 0)):Sy.Yields P N av bor w0 st (.binOp .eql t x y t2) ty (.bool p.isNone):=Sy.Yields.mk fun A w ok d pos af g=>by
 have:=Lib.run_eql_slice_nil (P:=P) w t e p m c 0 0 (cI hI.out).1
 simp [execOp,ok.eval hx,ok.eval hy,eqGuard,this]
theorem rE {nn:Nat} {x y:Operand} {t t2 e n b':Nat} {p:Option Addr} {m c:Nat} [hI:TySl P t e n b'] (h:Sw P N av bor w0 ops rest ⟨(nn,.bool p.isNone)::E,loc,X⟩ k) (hx:ev E x=some (.slice p m c):=by rfl) (hy:ev E y=some (.slice none 0 0):=by rfl) (hg:gdB ops E g=some (bb,want):=by rfl) (hbb:bb=want:=by exact am) (hd:Nat.blt nn N=true:=by rfl):Sw P N av bor w0 ops (⟨some nn,.binOp .eql t x y t2,ty,pos,af,g⟩::rest) ⟨E,loc,X⟩ k:=ai (CV hx hy) hg hbb hd h
theorem aP {n:Nat} {x y:Operand} {t t2:TypeId} {kk:IntKind} {a b:Int} (h:Sw P N av bor w0 ops rest ⟨(n,.bool true)::E,loc,X⟩ k) (hx:ev E x=some (.int kk a):=by rfl) (hy:ev E y=some (.int kk b):=by rfl) (hab:a=b:=by decide) (hg:gdB ops E g=some (bb,want):=by rfl) (hbb:bb=want:=by exact am) (hd:Nat.blt n N=true:=by rfl) :
  Sw P N av bor w0 ops (⟨some n,.binOp .eql t x y t2,ty,pos,af,g⟩::rest) ⟨E,loc,X⟩ k:=ai (by have:=o0 (P:=P) (N:=N) (av:=av) (bor:=bor) (w0:=w0) (st:=⟨E,loc,X⟩) (ty:=ty) (t:=t) (t2:=t2) hx hy;rwa [Zd hab] at this) hg hbb hd h
theorem aL {n:Nat} {x y:Operand} {t t2:TypeId} {kk:IntKind} {a b:Int} (h:Sw P N av bor w0 ops rest ⟨(n,.bool false)::E,loc,X⟩ k) (hx:ev E x=some (.int kk a):=by rfl) (hy:ev E y=some (.int kk b):=by rfl) (hab:¬ a=b:=by decide) (hg:gdB ops E g=some (bb,want):=by rfl) (hbb:bb=want:=by exact am) (hd:Nat.blt n N=true:=by rfl) :
  Sw P N av bor w0 ops (⟨some n,.binOp .eql t x y t2,ty,pos,af,g⟩::rest) ⟨E,loc,X⟩ k:=ai (by have:=o0 (P:=P) (N:=N) (av:=av) (bor:=bor) (w0:=w0) (st:=⟨E,loc,X⟩) (ty:=ty) (t:=t) (t2:=t2) hx hy;rwa [Zc hab] at this) hg hbb hd h
theorem dG {m:Nat} {t:TypeId} {x y:Operand} {b off T:Nat} {cs vs:List Value} (cs':List Value) {arr:Array Value} [ht:TyAgg P t m] (hx:ev E x=some (.pointer (some ⟨b,off,none⟩)):=by rfl) (hy:ev E y=some (.agg arr):=by rfl) (hv:arr.toList=vs:=by (first|exact List.toList_toArray|rfl))
  (hA:At (cel b T cs) (cel b T cs') loc loc':=by (repeat (first|exact At.here _|apply At.there))) (hm:vs.length=m:=by rfl) (hl:Nat.ble (off+m) cs.length=true:=by rfl) (h1:vs.all (·.oneCell')=true:=by rfl) (hc2:cs.take off++vs++cs.drop (off+m)=cs':=by rfl) (hg:gdB ops E g=some (bb,want):=by rfl) (hb:bb=want:=by exact am) (hd:inB N d=true:=by rfl)
  (h:Sw P N av bor w0 ops rest ⟨putE E d undef,loc',X⟩ k):Sw P N av bor w0 ops (⟨d,.store t x y,ty,pos,af,g⟩::rest) ⟨E,loc,X⟩ k:=by
 obtain ⟨_,_,_,h3⟩:=cV (TyAgg.out (P:=P) (t:=t))
 exact nf (vs:=vs) (cs:=cs) (cs':=cs') (by rw [h3,hm]) hx hy (by simpa [Value.cells] using hv) h1 (by have:=Zx hl;omega) (by rw [hm];exact hc2) hA hg hb hd h
theorem me {n:Nat} {t e size b':Nat} [hs:TySl P t e size b'] (h:∀ b,Sw P N av bor w0 ops rest ⟨(n,.slice (some ⟨b,0,none⟩) 0 0)::E,orow e size (.slice (some ⟨b,0,none⟩) 0 0) 0 []::loc,X⟩ k) (hg:gdB ops E g=some (bb,want):=by rfl) (hb:bb=want:=by exact am) (hd:Nat.blt n N=true:=by rfl):Sw P N av bor w0 ops (⟨some n,.buildSlice t 0 #[],ty,pos,af,g⟩::rest) ⟨E,loc,X⟩ k:=Sw.mk fun a w ok=>by
 have hd':inB N (some n)=true:=by have h1:n<N:=Zx hd;simpa [inB] using h1
 obtain ⟨ht,inf,hi,hi1,hi2⟩:=cI hs.out
 have hsz:(sizeOf e).run P w=.ok size w:=by simp [sizeOf,typeInfo,hi,hi1]
 simp only [wpList]
 rw [bO ok (o:=⟨some n,.buildSlice t 0 #[],ty,pos,af,g⟩) hg]
 subst hb
 simp only [Zz,ZN]
 left
 unfold Oper.wp
 have hr:(execOp a.eval ⟨some n,.buildSlice t 0 #[],ty,pos,af,g⟩).run P w=.ok (.value (.slice (some ⟨w.heap.size,0,none⟩) 0 0)) (w.alloc (.cells #[] e)):=by
  have hr0:∀ f:Nat→Value,Array.map f (Array.range 0)=#[]:=fun f=>Array.eq_empty_of_size_eq_zero (by simp)
  simp [execOp,Instr.buildSlice,run_underlying ht,hsz,Instr.fill,hr0,eE]
 rw [hr]
 have ok':Ok N av bor w0 ⟨E,orow e size (.slice (some ⟨w.heap.size,0,none⟩) 0 0) 0 []::loc,X⟩ a (w.alloc (.cells #[] e)):=(ok.via fun M G=>G.new (.cells #[] e) (fun w2=>ORow w2 e size (.slice (some ⟨w.heap.size,0,none⟩) 0 0) 0 []) (fun w2 h=>⟨by simp,.inr ⟨w.heap.size,0,_,(0,0),rfl,h,ZX _,Z4 _,by simp,by simp,.inl rfl⟩⟩))
 exact (h _).run _ _ (cZ (some n) _▸ok'.put hd' _)
end
theorem lL {size:Nat}:∀ (xs:List (List Value)) (i:Nat) (cs:List Value),(∀ r∈xs,r.length=size)→xs[i]?=some cs→∀ j u,cs[j]?=some u→xs.flatten[i*size+j]?=some u
 | [],i,cs,_,h,j,u,_=>by simp at h
 | r::xs,0,cs,hl,h,j,u,hj=>by
  simp at h
  subst h
  have h1:=(QJ.1 hj).1
  rw [Qb,Nat.zero_mul,ZU,ZG h1,hj]
 | r::xs,i+1,cs,hl,h,j,u,hj=>by
  have h1:r.length=size:=hl r ax
  rw [Qb,ZV (by rw [h1,QE];omega),h1,show (i+1)*size+j-size=i*size+j from by rw [QE];omega]
  exact lL xs i cs (fun q hq=>hl q (Zv _ hq)) (by simpa using h) j u hj
theorem tA {size:Nat} (xs:List (List Value)) (h:∀ r∈xs,r.length=size):xs.flatten.length=xs.length*size:=by
 rw [List.length_flatten]
 have:∀ x∈xs.map List.length,x=size:=by
  intro x hx
  obtain ⟨cs,hcs,rfl⟩:=QI.1 hx
  exact h cs hcs
 rw [List.eq_replicate_of_mem this]
 simp
theorem ck {w:World} {e size n c:Nat} {A:Option Addr} {xs:List (List Value)} (h:ORow w e size (.slice A n c) n xs.flatten) (hn:n=xs.length) (hs:∀ r∈xs,r.length=size):RowsD w size ⟨A,n,c⟩ xs:=by
 rcases h.2 with ⟨h1,h2⟩|⟨g,cap,cur,fz,h1,hg,hnc,hcm,hcs,htake,hfz⟩
 · have hx:xs=[]:=Z8 aa
   subst hx
   simp only [Value.slice.injEq] at h1
   obtain ⟨rfl,rfl,rfl⟩:=h1
   exact ⟨rfl,ZX _,Z4 _,fun i cs hi=>by simp at hi⟩
 · simp only [Value.slice.injEq] at h1
   obtain ⟨rfl,_,rfl⟩:=h1
   refine ⟨hn,hnc,hcm,fun i cs hi=>⟨hs cs (Z6 hi),rfl,fun j u hj=>⟨rfl,fun a ha=>?_⟩⟩⟩
   cases ha
   have hf:=lL xs i cs hs hi j u hj
   have hadd:(⟨g,0,none⟩:Addr).add (i*size+j)=⟨g,i*size+j,none⟩:=by unfold Addr.add;split<;>simp_all
   rw [hadd,cell_of_row w g _ cur e fz hg]
   rw [←htake,QG] at hf
   split at hf
   · simpa using hf
   · cases hf
theorem lB {w:World} {b e size n:Nat} {cs:List Value} (h:w.heap[b]?=some (.cells cs.toArray e (0,0))) (hl:cs.length=n*size) (hm:n≤maxLen):ORow w e size (.slice (some ⟨b,0,none⟩) n n) n cs :=
 ⟨hl,.inr ⟨b,n,_,(0,0),rfl,h,ZX _,hm,by simpa using hl,by simp [←hl],.inl rfl⟩⟩
theorem bt {w:World} {b e size n:Nat} {xs:List (List Value)} (h:w.heap[b]?=some (.cells xs.flatten.toArray e (0,0))) (hn:n=xs.length) (hm:n≤maxLen) (hs:∀ r∈xs,r.length=size):RowsD w size ⟨some ⟨b,0,none⟩,n,n⟩ xs :=
 ck (lB h (by rw [tA xs hs,hn]) hm) hn hs
theorem RowsD.none_nil {w:World} {size:Nat} {s:SlV} {xs:List (List Value)} (h:RowsD w size s xs) (hp:s.p.isNone=true):xs=[]:=by
 cases xs with
 | nil=>rfl
 | cons cs r =>
  have:=(h.row 0 cs rfl).2.1
  cases hq:s.p<;>simp_all
theorem aY (w:World) (size:Nat):RowsD w size ⟨none,0,0⟩ []:=⟨rfl,ZX _,Z4 _,fun i cs hi=>by simp at hi⟩
def CloneAt (size:Nat) (xs:List (List Value)) (u:Value) (X:World→Prop):Prop:=∃ s:SlV,u=s.v∧s.n=xs.length∧∀ w,X w→RowsD w size s xs
end Go.Proofs.YtaolfiikahlmkaaGreatDoor.Sy
namespace Go.Proofs.YtaolfiikahlmkaaGreatDoor
open Go Go.Proofs Sy
theorem iZ (s:SlV) (xs:List (List Value)) (hb:s.n*16≤140737488351232) (h1:∀ cs∈xs,cs.all (·.oneCell')=true):Mk Tryz.prog 55 #[s.v] (fun w=>RowsD w 1 s xs) (CloneAt 1 xs):=by
 refine bZ (args:=[_]) _ Tryz.func55 rfl Tryz.ntmps55 rfl fun av bor w0=>?_
 refine aM (p:=s.n=xs.length∧(∀ r∈xs,r.length=1)∧(s.p.isNone=true→xs=[])) (fun w h=>⟨h.len,fun r hr=>?_,h.none_nil⟩) fun ⟨hl,hr1,hnil⟩=>?_
 · obtain ⟨i,hi⟩:=QO.1 hr
   exact (h.row i r hi).1
 repeat' (first|refine rE ?_|refine me fun _=>?_|refine gs ?_|refine gs1 fun _=>?_|(refine gp ?_ ?_<;>intro hx_ this)|fail)
 · refine ad (ag rfl rfl) ⟨⟨none,0,0⟩,rfl,?_,fun w _=>?_⟩
   · rw [hnil hx_];rfl
   · rw [hnil hx_];exact aY w 1
 refine aN (size:=1) (z:=.string ⟨#[]⟩) (news:=xs.flatten) (q:=s.n) rfl rfl rfl rfl (fun _=>At.here _) (fun w G=>gw G.keep.now h1) ?_ ?_ rfl ?_ rfl ?_
 · omega
 · simp only [maxLen];omega
 · rfl
 intro A c
 repeat' (first|refine gs ?_|refine gs1 fun _=>?_|fail)
 refine ad (ag rfl rfl) ⟨⟨A,0+s.n,c⟩,rfl,?_,fun w h=>?_⟩
 · show 0+s.n=xs.length
   omega
 · exact ck (h.2 _ ax) aa hr1
theorem k7 (s:SlV) (xs:List (List Value)) (hb:s.n*64≤140737488351232) (h1:∀ cs∈xs,cs.all (·.oneCell')=true):Mk Tryz.prog 56 #[s.v] (fun w=>RowsD w 5 s xs) (CloneAt 5 xs):=by
 refine bZ (args:=[_]) _ Tryz.func56 rfl Tryz.ntmps56 rfl fun av bor w0=>?_
 refine aM (p:=s.n=xs.length∧(∀ r∈xs,r.length=5)∧(s.p.isNone=true→xs=[])) (fun w h=>⟨h.len,fun r hr=>?_,h.none_nil⟩) fun ⟨hl,hr1,hnil⟩=>?_
 · obtain ⟨i,hi⟩:=QO.1 hr
   exact (h.row i r hi).1
 repeat' (first|refine rE ?_|refine me fun _=>?_|refine gs ?_|refine gs1 fun _=>?_|(refine gp ?_ ?_<;>intro hx_ this)|fail)
 · refine ad (ag rfl rfl) ⟨⟨none,0,0⟩,rfl,?_,fun w _=>?_⟩
   · rw [hnil hx_];rfl
   · rw [hnil hx_];exact aY w 5
 refine aN (size:=5) (news:=xs.flatten) (q:=s.n) rfl rfl rfl rfl (fun _=>At.here _) (fun w G=>gw G.keep.now h1) ?_ ?_ rfl ?_ rfl ?_
 · omega
 · simp only [maxLen];omega
 · rfl
 intro A c
 repeat' (first|refine gs ?_|refine gs1 fun _=>?_|fail)
 refine ad (ag rfl rfl) ⟨⟨A,0+s.n,c⟩,rfl,?_,fun w h=>?_⟩
 · show 0+s.n=xs.length
   omega
 · exact ck (h.2 _ ax) aa hr1
set_option maxRecDepth 20000 in
theorem j5 (a:ActD):Pu Tryz.prog 73 #[itemV 0 a] (ActD.at_ · a) (.bool (rightB a)):=by
 refine ak (args:=[_]) _ Tryz.func73 rfl Tryz.ntmps73 rfl fun av bor w0=>?_
 repeat' (first|refine aP ?_|refine aL ?_|refine ab (hc:=dY a) ?_|refine ab (hc:=tj) ?_|refine gs ?_|refine gs1 fun _=>?_|(refine aF ?_)|(refine dG (itemCells 0 ActD.zero) (h:=?_))|(refine aw (vs:=a.cells) (hv:=rfl) ?_)|(refine gp ?_ ?_<;>intro hx_ this)|fail)
 all_goals (apply ad;apply ag;rfl;rfl;rw [hx_])
def bytesV (a:ActD):ByteArray:=bif rightB a then numV 0++actBytes a else ⟨#[]⟩
theorem gj {a:ActD} (hr:a.Rng):(actBytes a).size≤300000000020:=by
 have n7:=ap a.e
 have n8:=ap a.s
 unfold actBytes
 cases seqB (actCore a) ⟨#[]⟩ with
 | true=>simp [ByteArray.size]
 | false =>
  have hc:(actCore a).size≤300000000000:=by
   unfold actCore
   cases hrB:rightB a with
   | true=>exact fN (dl hr hrB)
   | false=>simp [ByteArray.size]
  simp only [Ze,Za]
  omega
theorem tM {a:ActD} (hr:a.Rng):(bytesV a).size≤300000000030:=by
 have h1:=ap 0
 have h2:=gj hr
 unfold bytesV
 cases rightB a with
 | true=>simp only [Zf,Za];omega
 | false=>simp [ByteArray.size]
set_option maxRecDepth 20000 in
theorem qM (a:ActD) (hr:a.Rng):Pu Tryz.prog 53 #[itemV 0 a] (ActD.at_ · a) (.string (bytesV a)):=by
 cases hrB:rightB a with
 | false =>
  have hrN:(!rightB a)=true:=by rw [hrB];rfl
  refine ak (args:=[_]) _ Tryz.func53 rfl Tryz.ntmps53 rfl fun av bor w0=>?_
  repeat' (first|refine ab (hc:=j5 a) ?_|refine gs ?_|refine gs1 fun _=>?_|(refine gp ?_ ?_<;>intro hx_ this)|fail)
  apply ad;apply ag;rfl;rfl
  simp only [bytesV,hrB,Ze]
 | true =>
 have hrN:(!rightB a)=false:=by rw [hrB];rfl
 refine ak (args:=[_]) _ Tryz.func53 rfl Tryz.ntmps53 rfl fun av bor w0=>?_
 have hab:=lT a (dl hr) ⟨hr.ints.2.2.2.2.2.2.2.1,hr.ints.2.2.2.2.2.2.2.2⟩
 have hsz:=gj hr
 repeat' (first|refine ab (hc:=j5 a) ?_|refine gs ?_|refine gs1 fun _=>?_|(refine gp ?_ ?_<;>intro hx_ this)|fail)
 rename_i bi bb bs
 have hS:(⟨#[]⟩:ByteArray)++numsV [0]=numV 0:=by
  show ByteArray.empty++(numV 0++ByteArray.empty)=numV 0
  rw [Qj,ByteArray.empty_append]
 have hns:(⟨#[]⟩:ByteArray).size+(numsV [0]).size≤1099511627776:=by
  rw [←Za,hS]
  have:=ap 0
  omega
 refine bL ?_
 refine gm 5 1 ?_
 refine dc (l:=bld bb none 0 ⟨#[]⟩++[cel bi 60 (itemCells 0 a)]) (List.Perm.swap _ _ _) ?_
 refine cj (pre:=bld bb none 0 ⟨#[]⟩) (fr:=[cel bi 60 (itemCells 0 a)]) (hc:=er bb none 0 ⟨#[]⟩ ⟨some ⟨bs,0,none⟩,1,1⟩ [0] (by simp) hns) (hX:=fun w h=>bt (xs:=[[.int .i64 0]]) h.2 rfl (by decide) (by simp)) (h:=?_)
 rintro v R X' ⟨A',c',rfl,rfl⟩
 refine cD (X':=(ActD.at_ · a)) (fun w h=>h.1.1) ?_
 have hn0:=ap 0
 rw [hS]
 generalize hs1:numV 0=s1 at *
 unfold bld
 repeat' (first|refine aP ?_|refine gs ?_|refine gs1 fun _=>?_|(refine gp ?_ ?_<;>intro hx_ this)|fail)
 (refine aq ⟨[0,2],[(1,⟨[],[(3,⟨[],[(4,⟨[],[(5,⟨[6],[(7,⟨[],[]⟩)]⟩)]⟩)]⟩)]⟩),(3,⟨[],[(1,⟨[],[(4,⟨[],[(5,⟨[6],[(7,⟨[],[]⟩)]⟩)]⟩)]⟩),(4,⟨[],[(1,⟨[],[(5,⟨[6],[(7,⟨[],[]⟩)]⟩)]⟩)]⟩)]⟩)]⟩ [] (fun _=>True) (h:=?_))
 all_goals repeat' (first|refine ab (hc:=hab) ?_|refine gd ?_|refine az ?_ (h':=?_)|exact aA|(refine aw (vs:=a.cells) (hv:=rfl) ?_)|(refine ia ?_;refine aN (size:=1) (z:=.int .u8 0) rfl rfl rfl rfl (fun _=>At.there _ (At.here _)) (fun w G=>iS aa) aa (by simp only [maxLen];omega) rfl ?_ rfl ?_;(first|with_reducible rfl|with_reducible assumption|with_reducible exact Zl|with_reducible exact Zn);intro A1 c1)|refine gs1 fun _=>?_|(refine gq ?_ ?_<;>intro hx_ this)|fail)
 all_goals (repeat' (first|refine gs ?_|refine gs1 fun _=>?_|(refine gp ?_ ?_<;>intro hx_ this)|fail))
 all_goals (
  rw [←cq,←dO]
  refine eJ (hm:=Zv _ ax) ?_
  repeat' (first|refine gs ?_|refine gs1 fun _=>?_|(refine gp ?_ ?_<;>intro hx_ this)|fail)
  apply ad;apply ag;rfl;rfl
  simp only [bytesV,hrB,Zf,cF,hs1])
def digV (a:ActD):ByteArray:=bif seqB (bytesV a) ⟨#[]⟩ then ⟨#[]⟩ else shaV (bytesV a)
theorem pQ (a:ActD) (hr:a.Rng):Pu Tryz.prog 18 #[itemV 0 a] (fun w=>ActD.at_ w a∧Glob w) (.string (digV a)):=by
 refine ak (args:=[_]) _ Tryz.func18 rfl Tryz.ntmps18 rfl fun av bor w0=>?_
 have hsz:=tM hr
 repeat' (first|refine ab (hc:=qM a hr) ?_|refine ab (hc:=qo _ aa) ?_|refine gs ?_|refine gs1 fun _=>?_|(refine gp ?_ ?_<;>intro hx_ this)|fail)
 all_goals (apply ad;apply ag;rfl;rfl)
 · simp only [digV,hx_,Zf]
 · simp only [digV,hx_,Ze]
structure ActD.Sm (a:ActD):Prop where
 to:a.to.n*16≤140737488351232
 wraps:a.wraps.n*64≤140737488351232
 target:a.target.size≤maxLen
def ActD.re (a:ActD) (s1 s2:SlV):ActD:={ a with to:=s1,wraps:=s2 }
theorem nz {a:ActD} {s1 s2:SlV} (h1:s1.n=a.to.n) (h2:s2.n=a.wraps.n):rightB (a.re s1 s2)=rightB a:=by
 obtain ⟨au,sq,pv,kd,tm,ob,tg,sc,gr,⟨p,n,c⟩,tx,bd,ep,⟨p',n',c'⟩,nn,mm,ee,ss,tl,wl⟩:=a
 obtain ⟨q,m,d⟩:=s1
 obtain ⟨q',m',d'⟩:=s2
 simp only at h1 h2
 subst h1
 subst h2
 simp only [rightB,ruleB,ruleL,usedV,audienceB,rule1B,rule2B,rule3B,rule4B,rule5B,rule6B,objectB,targetB,grantB,labelB,homeB,setupB,wrappedB,placedB,ActD.re]
 rfl
theorem Cs {a:ActD} {s1 s2:SlV} (h1:s1.n=a.to.n) (h2:s2.n=a.wraps.n):digV (a.re s1 s2)=digV a:=by
 have hr:=nz h1 h2
 have hc:coreV (a.re s1 s2)=coreV a:=rfl
 have he:(a.re s1 s2).e=a.e:=rfl
 have hs:(a.re s1 s2).s=a.s:=rfl
 simp only [digV,bytesV,actBytes,actCore,hr,hc,he,hs]
def OfActAt (a:ActD) (u:Value) (X:World→Prop):Prop:=∃ a':ActD,u=itemV 0 a'∧digV a'=digV a∧a'.Rng∧∀ w,X w→a'.at_ w
set_option maxRecDepth 20000 in
theorem sR (a:ActD) (hr:a.Rng) (hs:a.Sm):Mk Tryz.prog 19 #[a.v] (ActD.at_ · a) (OfActAt a):=by
 refine bZ (args:=[_]) _ Tryz.func19 rfl Tryz.ntmps19 rfl fun av bor w0=>?_
 repeat' (first|refine gs ?_|refine gs1 fun _=>?_|fail)
 refine bS (hc:=iZ a.to (strs a.toL) hs.to (fun cs hcs=>by simp only [strs,QI] at hcs;obtain ⟨x,_,rfl⟩:=hcs;rfl)) (hX:=fun w h=>h.1) fun v1 X1 h1=>?_
 obtain ⟨s1,rfl,hn1,hw1⟩:=h1
 repeat' (first|refine gs ?_|refine gs1 fun _=>?_|fail)
 refine bS (hc:=k7 a.wraps (a.wrapsL.map WrapD.cells) hs.wraps (fun cs hcs=>by simp only [QI] at hcs;obtain ⟨x,_,rfl⟩:=hcs;rfl)) (hX:=fun w h=>h.1.2) fun v2 X2 h2=>?_
 obtain ⟨s2,rfl,hn2,hw2⟩:=h2
 repeat' (first|refine gs ?_|refine gs1 fun _=>?_|(refine aF ?_)|fail)
 have e1:s1.n=a.to.n:=by rw [hn1,hr.to_len];simp [strs]
 have e2:s2.n=a.wraps.n:=by rw [hn2,hr.wraps_len];simp
 apply ad;refine cB rfl rfl bz ?_
 · rfl
 refine ⟨a.re s1 s2,rfl,Cs e1 e2,⟨hr.ints,hr.wints,?_,?_⟩,fun w h=>⟨?_,?_⟩⟩
 · rw [show (a.re s1 s2).to=s1 from rfl,e1,hr.to_len];rfl
 · rw [show (a.re s1 s2).wraps=s2 from rfl,e2,hr.wraps_len];rfl
 · exact hw1 w h.1.1.2
 · exact hw2 w h.1.2
structure ChainD where
 id:ByteArray
 acts:SlV
 keys:SlV
 prev:ByteArray
 gen:Int
 fork:Bool
 actsL:List ActD
def ChainD.cells (c:ChainD):List Value:=[.string c.id,c.acts.v,c.keys.v,.string c.prev,.int .i64 c.gen,.bool c.fork]
def ChainD.v (c:ChainD):Value:=.agg c.cells.toArray
def ChainD.zero:ChainD:=⟨⟨#[]⟩,⟨none,0,0⟩,⟨none,0,0⟩,⟨#[]⟩,0,false,[]⟩
def Acts (w:World) (s:SlV) (l:List ActD):Prop:=RowsD w 20 s (l.map ActD.cells)∧∀ a∈l,a.at_ w
def ChainD.at_ (w:World) (c:ChainD):Prop:=Acts w c.acts c.actsL
structure ActsOk (l:List ActD):Prop where
 rng:∀ a∈l,a.Rng
 sm:∀ a∈l,a.Sm
theorem Acts.len_ {w:World} {s:SlV} {l:List ActD} (h:Acts w s l):s.n=l.length:=by have:=RowsD.len h.1;simpa using this
theorem Acts.max_ {w:World} {s:SlV} {l:List ActD} (h:Acts w s l):s.n≤maxLen:=ZY (RowsD.cap h.1) (RowsD.max h.1)
theorem Acts.some_ {w:World} {s:SlV} {l:List ActD} (h:Acts w s l) (hl:0<l.length):s.p.isSome=true:=by
 have hx:l[0]?=some l[0]:=Zb hl
 exact (RowsD.row h.1 0 l[0].cells (by simp [hx])).2.1
theorem Acts.get {w:World} {s:SlV} {l:List ActD} (h:Acts w s l) {i:Nat} {x:ActD} (hx:l[i]?=some x):x.cells.length=20∧s.p.isSome=true∧∀ j u,x.cells[j]?=some u→CellAt w s.p (i*20+j) u :=
 RowsD.row h.1 i x.cells (by simp [hx])
def idxV (l:List ActD) (d:ByteArray):Option Nat:=l.findIdx? fun a=>seqB (digV a) d
def idxP (o:Option Nat):Value:=.tuple #[.int .i64 ((o.getD 0:Nat):Int),.bool o.isSome]
def badI (l:List ActD) (d:ByteArray) (k:Nat):Bool :=
 match l[k]? with
 | some x=>seqB (digV x) d
 | none=>false
theorem kr {l:List ActD} {d:ByteArray} {k:Nat} {x:ActD} (h:l[k]?=some x):badI l d k=seqB (digV x) d:=by simp only [badI,h]
theorem uT {l:List ActD} {d:ByteArray} (i:Upto l.length (badI l d)) (hlt:i.k<l.length) (hb:badI l d i.k=true):idxV l d=some i.k:=by
 rw [idxV,QC]
 refine ⟨hlt,?_,fun j hj=>?_⟩
 · rw [kr (Zb hlt)] at hb;exact hb
 · have:=i.ok j hj
   rw [kr (Zb aa)] at this
   simp [this]
theorem yI {l:List ActD} {d:ByteArray} (i:Upto l.length (badI l d)) (h:¬ i.k<l.length):idxV l d=none:=by
 rw [idxV,List.findIdx?_eq_none_iff]
 intro x hx
 obtain ⟨k,hk,rfl⟩:=Qx hx
 have:=i.ok k aa
 rwa [kr (Zb hk)] at this
theorem tp (c:ChainD) (hc:ActsOk c.actsL) (d:ByteArray):Pu Tryz.prog 50 #[c.v,.string d] (fun w=>c.at_ w∧Glob w) (idxP (idxV c.actsL d)):=by
 refine ak (args:=[_,_]) _ Tryz.func50 rfl Tryz.ntmps50 rfl fun av bor w0=>?_
 refine aM (p:=c.acts.n=c.actsL.length∧c.acts.n≤maxLen∧(0<c.actsL.length→c.acts.p.isSome=true)) (fun w h=>⟨h.1.len_,h.1.max_,h.1.some_⟩) fun ⟨hl,hm,hp⟩=>?_
 simp only [maxLen] at hm
 repeat' (first|refine gs ?_|refine gs1 fun _=>?_|fail)
 rename_i b
 refine ar (ι:=Upto c.actsL.length (badI c.actsL d)) (fun i=>⟨[(1,.string d),(9,c.acts.v),(10,.int .i64 c.acts.n),(11,.int .i64 i.k)],[],fun w=>c.at_ w∧Glob w⟩) (fun i=>c.actsL.length-i.k) (Upto.zero _ _) (aj ao (Z2 _ (al _)) fun _ h=>h) fun i=>?_
 have hik:=i.hk
 repeat' (first|refine gs ?_|refine gs1 fun _=>?_|(refine gp ?_ ?_<;>intro hx_ this)|fail)
 · have hlt:i.k<c.actsL.length:=by omega
   have hp':=hp aa
   obtain ⟨x,hx⟩:∃ x,c.actsL[i.k]?=some x:=⟨_,Zb hlt⟩
   have hxm:x∈c.actsL:=Z6 hx
   repeat' (first|refine gs ?_|refine gs1 fun _=>?_|(refine aO (q:=i.k*20) ?_)|(refine ca (cs:=x.cells) (hF:=fun w h=>Acts.get h.1 hx) ?_)|fail)
   refine bS (hc:=sR x (hc.rng x hxm) (hc.sm x hxm)) (hX:=fun w h=>h.1.2 x hxm) fun v1 X1 h1=>?_
   obtain ⟨x',rfl,hdig,hr',hat⟩:=h1
   refine ab (hc:=pQ x' hr') (hX:=fun w h=>⟨hat w h.2,h.1.2⟩) ?_
   rw [hdig]
   repeat' (first|refine gs ?_|refine gs1 fun _=>?_|(refine gp ?_ ?_<;>intro hx_ this)|fail)
   · apply ad;apply dH;rfl;rfl;rfl
     rw [uT i hlt (by rw [kr hx];assumption)]
     rfl
   · exact ⟨i.next hlt (by rw [kr hx];assumption),(by show c.actsL.length-(i.k+1)<c.actsL.length-i.k;omega),aj ao (Zu _) fun _ h=>h.1⟩
 · apply ad;apply dH;rfl;rfl;rfl
   rw [yI i (by omega)]
   rfl
def Chains (w:World) (s:SlV) (l:List ChainD):Prop:=RowsD w 6 s (l.map ChainD.cells)∧∀ c∈l,c.at_ w
theorem Chains.len_ {w:World} {s:SlV} {l:List ChainD} (h:Chains w s l):s.n=l.length:=by have:=RowsD.len h.1;simpa using this
theorem Chains.max_ {w:World} {s:SlV} {l:List ChainD} (h:Chains w s l):s.n≤maxLen:=ZY (RowsD.cap h.1) (RowsD.max h.1)
theorem Chains.some_ {w:World} {s:SlV} {l:List ChainD} (h:Chains w s l) (hl:0<l.length):s.p.isSome=true:=by
 have hx:l[0]?=some l[0]:=Zb hl
 exact (RowsD.row h.1 0 l[0].cells (by simp [hx])).2.1
theorem Chains.get {w:World} {s:SlV} {l:List ChainD} (h:Chains w s l) {i:Nat} {x:ChainD} (hx:l[i]?=some x):x.cells.length=6∧s.p.isSome=true∧∀ j u,x.cells[j]?=some u→CellAt w s.p (i*6+j) u :=
 RowsD.row h.1 i x.cells (by simp [hx])
def findC (l:List ChainD) (id:ByteArray):Option ChainD:=l.find? fun c=>seqB c.id id
theorem fi {P:Program} {fn:Func} {N t u ty n:Nat} {s:St} {b T:Nat} {cs:List Value} {x:Value} [hI:TyAgg P ty n] (hr:fn.results=#[.cell t ty,.tmp u]) (h:Sy.look s.env t=some (.pointer (some ⟨b,0,none⟩))) (h':Sy.look s.env u=some x) (hm:cel b T cs∈s.loc) (hn:cs.length=n) :
  Res1 P fn N s (.tuple #[.agg cs.toArray,x]):=fun av bor w0 a w ok=>by
 obtain ⟨D,h1,h2,h3⟩:=cV hI.out
 have ht:=ok.env t _ h
 have hu:=ok.env u _ h'
 have:(loadVar ty ⟨b,0,none⟩).run P w=.ok (.agg cs.toArray) w:=by
  cases D<;>simp at h2
  · exact run_loadVar_row w b T ty cs.toArray (0,0) _ (eO ok hm) h1 rfl (by rw [h3];simp [hn])
  · exact run_loadVar_row w b T ty cs.toArray (0,0) _ (eO ok hm) h1 rfl (by rw [h3];simp [hn])
 simp [results,hr,ht,hu,asAddr,this]
end Go.Proofs.YtaolfiikahlmkaaGreatDoor
namespace Go.Proofs.YtaolfiikahlmkaaGreatDoor
open Go Go.Proofs Sy Go.Shelf Go.Maps Go.Sort
theorem sortS_c:SortC Tryz.prog 48 encStr (fun ss=>ss.mergeSort leB) where
 some_:=fun blk off cap ss w h1 h2 h3=>AnyM.slices_Sort_string Tryz.sortS blk off cap ss w h1 h2 h3
 none_:=fun p cap w=>AnyM.slices_Sort_string_none Tryz.sortS p cap w
 len:=fun ss=>List.length_mergeSort ss
theorem sortsS (m:Nat):AnyZ.SortsIn Tryz.prog Tryz.sortedS_ren Fence.wide m :=
  ⟨fun blk off cap ss W hH hblk hsz=>callsIn_wide.2 (AnyM.slices_Sort_string Tryz.sortS blk off cap ss W hH hblk hsz),
   fun p cap W=>callsIn_wide.2 (AnyM.slices_Sort_string_none Tryz.sortS p cap W)⟩
end Go.Proofs.YtaolfiikahlmkaaGreatDoor
namespace Go.Proofs.YtaolfiikahlmkaaGreatDoor.Sy
open Go Go.RowKit Go.MapKept
def mdel {κ β:Type} [KeyT κ]:List (κ×β)→κ→List (κ×β)
 | [],_=>[]
 | (k',v')::r,k=>bif KeyT.eqb k k' then r else (k',v')::mdel r k
theorem j0 {κ β:Type} [KeyT κ]:∀ (l:List (κ×β)) (k:κ),mget l k=none→mdel l k=l
 | [],_,_=>rfl
 | (k',v')::r,k,h=>by
  simp only [mget] at h
  simp only [mdel]
  cases hb:KeyT.eqb k k' with
  | true=>rw [hb] at h;simp at h
  | false=>rw [hb] at h;rw [Ze,j0 r k (by simpa using h)]
theorem nP {κ β:Type} [KeyT κ]:∀ (l:List (κ×β)) (k:κ) (j:Nat) (v:β),l[j]?=some (k,v)→(l.map (·.1)).Nodup→mdel l k=l.eraseIdx j
 | [],_,j,v,h,_=>by simp at h
 | (k',v')::r,k,0,v,h,hn=>by
  simp at h
  obtain ⟨rfl,rfl⟩:=h
  have:KeyT.eqb k' k'=true:=(KeyT.eqb_iff k' k').2 rfl
  simp [mdel,this]
 | (k',v')::r,k,j+1,v,h,hn=>by
  have hne:KeyT.eqb k k'=false:=by
   cases hb:KeyT.eqb k k' with
   | false=>rfl
   | true =>
    have e:=(KeyT.eqb_iff k k').1 hb
    subst e
    simp only [Z1,List.nodup_cons] at hn
    exact absurd (QI.2 ⟨(k,v),Z6 (by simpa using h),rfl⟩) hn.1
  simp only [mdel,hne,Ze,List.eraseIdx_cons_succ]
  rw [nP r k j v (by simpa using h) (by simp only [Z1,List.nodup_cons] at hn;exact hn.2)]
theorem EO {κ:Type} [KeyT κ] {a b:κ} (h:KeyT.enc a=KeyT.enc b):a=b:=by
 have h1:=KeyT.same a a
 have h2:=KeyT.same a b
 rw [←h] at h2
 rw [h1] at h2
 have h3:KeyT.eqb a a=true:=(KeyT.eqb_iff a a).2 rfl
 rw [h3] at h2
 exact (KeyT.eqb_iff a b).1 (Option.some.inj h2).symm
theorem kO {α β:Type} (f:α→β):∀ (l:List α) (j:Nat),(l.eraseIdx j).map f=(l.map f).eraseIdx j
 | [],j=>by simp
 | a::l,0=>rfl
 | a::l,j+1=>by simp [kO f l j]
theorem oH {κ:Type} [KeyT κ] {P:Program} {w:World} {t et kt ty:TypeId} (ht:mapOf P t=some (et,keyD κ)) {g:Nat} {l:List (κ×Value)} (h:MapAt w g l) (k:κ) :
  ∃ o,(Builtin.delete_ #[t,kt] ty #[.map (some g),KeyT.enc k]).run P w=.ok (.tuple #[]) { w with heap:=w.heap.setIfInBounds g o }∧∀ w':World,w'.heap[g]?=some o→MapAt w' g (mdel l k):=by
 obtain ⟨kt',h1,h2⟩:=jr ht
 obtain ⟨es,clock,hb,hs,hl⟩:=h
 have hk:=KeyT.ok k
 have hnd:(l.map (·.1)).Nodup:=by
  have h3:=hs.2.2
  have h4:es.toList.map (·.key)=l.map fun p=>KeyT.enc p.1:=by
   have:=congrArg (List.map Prod.fst) hl
   simpa [Z0,Function.comp_def] using this
  rw [h4] at h3
  unfold List.Nodup at h3 ⊢
  rw [List.pairwise_map] at h3 ⊢
  exact h3.imp fun hab e=>hab (by rw [e])
 rcases j8 k es.toList l 0 hl with ⟨g1,g2,g3,g4⟩|⟨j,e,v0,g1,g2,g3,g4,g5⟩
 · refine ⟨.map es clock,?_,fun w' hw=>⟨es,clock,hw,hs,?_⟩⟩
   · simp [Builtin.delete_,run_underlying h1,MapKept.run_getObj_map hb,MapKept.run_checkKey h2 hk,MapKept.run_findKey h2 g1,MapKept.run_setObj_map _ hb,Result.andThen]
   · rw [j0 l k g2]
     exact hl
 · have hj:es[j]?=some e:=by simpa using g2
   have hlj:l[j]?=some (k,v0):=by
    have h3:=congrArg (fun q=>q[j]?) hl
    simp only [Z7,Qo,hj,Option.map_some] at h3
    cases hq:l[j]? with
    | none=>rw [hq] at h3;simp at h3
    | some p =>
     rw [hq] at h3
     simp only [Option.map_some,ZM,Prod.mk.injEq] at h3
     have e1:p.1=k:=EO (h3.1.symm.trans g3)
     have e2:mget l k=some p.2:=by
      have key:∀ (l:List (κ×Value)) (j:Nat) (p:κ×Value),l[j]?=some p→(l.map (·.1)).Nodup→mget l p.1=some p.2:=by
       intro l
       induction l with
       | nil=>intro j p h;simp at h
       | cons a r ih =>
        intro j p h hn
        cases j with
        | zero =>
         simp at h
         subst h
         have:KeyT.eqb a.1 a.1=true:=(KeyT.eqb_iff _ _).2 rfl
         simp [mget,this]
        | succ j =>
         simp only [Z1,List.nodup_cons] at hn
         have hne:KeyT.eqb p.1 a.1=false:=by
          cases hb:KeyT.eqb p.1 a.1 with
          | false=>rfl
          | true =>
           have e:=(KeyT.eqb_iff _ _).1 hb
           exact absurd (QI.2 ⟨p,Z6 (by simpa using h),e⟩) hn.1
         simp only [mget,hne,Ze]
         exact ih j p (by simpa using h) hn.2
      have:=key l j p hq hnd
      rwa [e1] at this
     rw [g4] at e2
     obtain ⟨p1,p2⟩:=p
     simp only at e1 e2
     rw [e1,Option.some.inj e2]
   refine ⟨.map (es.eraseIdxIfInBounds j) clock,?_,fun w' hw=>⟨_,_,hw,stamped_erase hs j,?_⟩⟩
   · simp [Builtin.delete_,run_underlying h1,MapKept.run_getObj_map hb,MapKept.run_checkKey h2 hk,MapKept.run_findKey h2 g1,MapKept.run_setObj_map _ hb,Result.andThen]
   · rw [nP l k j v0 hlj hnd]
     have hlt:j<es.size:=(QL.1 hj).1
     have e1:(es.eraseIdxIfInBounds j).toList=es.toList.eraseIdx j:=by simp [Array.eraseIdxIfInBounds,hlt]
     rw [e1,kO,hl,←kO]
section
variable {P:Program} {N:Nat} {av bor:List Nat} {w0:World} {ops:Array Oper} {rest:List Oper} {k:St→Prop} {E:Env} {loc loc':List Res} {X:World→Prop}
variable {d:Option Tmp} {ty:TypeId} {pos:String} {af:Array Edge} {g:Option (Nat×Bool)} {bb want:Bool} {K:Exit→St→Prop}
theorem xJ {κ:Type} [KeyT κ] {t et kt:Nat} [ht:TyMap P t et (keyD κ)] {m x:Operand} {q:Nat} {l:List (κ×Value)} {kk:κ} (h:Sw P N av bor w0 ops rest ⟨putE E d (.tuple #[]),loc',X⟩ k) (hm:ev E m=some (.map (some q)):=by rfl) (hx:ev E x=some (KeyT.enc kk):=by rfl) (hA:At (mapr q l) (mapr q (mdel l kk)) loc loc':=by (repeat (first|exact At.here _|apply At.there))) (hg:gdB ops E g=some (bb,want):=by rfl) (hb:bb=want:=by exact am) (hd:inB N d=true:=by rfl):Sw P N av bor w0 ops (⟨d,.call ⟨.builtin .delete,#[m,x],#[t,kt]⟩,ty,pos,af,g⟩::rest) ⟨E,loc,X⟩ k:=Sw.mk fun a w ok=>by
 simp only [wpList]
 rw [bO ok (o:=⟨d,.call ⟨.builtin .delete,#[m,x],#[t,kt]⟩,ty,pos,af,g⟩) hg]
 subst hb
 simp only [Zz,ZN]
 left
 unfold Oper.wp
 have hmm:MapAt w q l:=(ok.gam.here _ hA.mem).now
 obtain ⟨o,hr,ho⟩:=oH (P:=P) (kt:=kt) (ty:=ty) ht.out hmm kk
 obtain ⟨es,c,hb',_⟩:=hmm
 have hs:=heap_set (o':=o) hb'
 have ok':Ok N av bor w0 ⟨E,loc',X⟩ a { w with heap:=w.heap.setIfInBounds q o }:=(ok.via fun M G=>G.turn (hA.app M) rfl rfl rfl (by simp) (fun i hi=>hs.2 i hi) fun w2 h2=>ho w2 (h2.trans hs.1))
 have hr':(execOp a.eval ⟨d,.call ⟨.builtin .delete,#[m,x],#[t,kt]⟩,ty,pos,af,g⟩).run P w=.ok (.value (.tuple #[])) { w with heap:=w.heap.setIfInBounds q o }:=by
  simp only [execOp,resolve,invoke,builtin,Sem.run_bind,Sem.run_pure,Result.andThen_ok,List.map_toArray,Z1,List.map_nil,ok.eval (st:=⟨E,loc,X⟩) hm,ok.eval (st:=⟨E,loc,X⟩) hx,hr]
 rw [hr']
 exact h.run _ _ (cZ d _▸ok'.put hd _)
theorem tV {st:St} {x y:Operand} {t e size b':Nat} [hI:TySl P t e size b'] {p:Option Addr} {m c:Nat} {kk:IntKind} {i:Int} (hx:ev st.env x=some (.slice p m c)) (hy:ev st.env y=some (.int kk i)) (h0:0≤i) (h1:i≤(c:Int)) :
  Sy.Yields P N av bor w0 st (.slice t x none (some y) none) ty (.slice p i.toNat c):=Sy.Yields.mk fun A w ok d pos af g=>by
 obtain ⟨hu,inf,hi,hs,hb⟩:=cI hI.out
 have hz:=run_sizeOf (P:=P) (w:=w) (t:=e) (n:=size) (by simp [hi,hs])
 have hadd:∀ a:Addr,a.add 0=a:=fun a=>by simp [Addr.add]
 have hmap:p.map (fun a=>a.add 0)=p:=by cases p<;>simp [hadd]
 simp [execOp,ok.eval hx,ok.eval hy,Instr.sliceAt,run_underlying hu,Instr.slice,Instr.sliceBounds,run_sliceBound,h0,h1,hz,hmap]
theorem Du {n:Nat} {x y:Operand} {t e size b':Nat} [hI:TySl P t e size b'] {p:Option Addr} {m c:Nat} {kk:IntKind} {i:Int} (h:Sw P N av bor w0 ops rest ⟨(n,.slice p i.toNat c)::E,loc,X⟩ k) (hx:ev E x=some (.slice p m c):=by rfl) (hy:ev E y=some (.int kk i):=by rfl) (h0:0≤i:=by omega) (h1:i≤(c:Int)) (hg:gdB ops E g=some (bb,want):=by rfl) (hbb:bb=want:=by exact am) (hd:Nat.blt n N=true:=by rfl):Sw P N av bor w0 ops (⟨some n,.slice t x none (some y) none,ty,pos,af,g⟩::rest) ⟨E,loc,X⟩ k:=ai (tV hx hy h0 h1) hg hbb hd h
def nullR:Res:=⟨[],fun _=>True⟩
theorem Gam.null {w:World} (G:Gam av bor w0 loc X w):Gam av bor w0 (nullR::loc) X w:=by
 have e1:fps (nullR::loc)=fps loc:=by simp [fps,nullR]
 refine ⟨G.fr,G.avb,by rw [e1];exact G.nodup,by rw [e1];exact G.own,fun x hx=>?_,by rw [e1];exact G.keep⟩
 rcases ZI.1 hx with rfl|hx
 · exact fun _ _=>trivial
 · exact G.here x hx
theorem fa {x:Operand} {xs:List Operand} {ats:Array TypeId} {f:FuncId} {first caps:Array Value} {args all:List Value} {X1:World→Prop} {Post:Value→List Res→(World→Prop)→Prop} {r:Res} (h:∀ v R X',Post v R X'→Sw P N av bor w0 ops rest ⟨putE E d v,R++loc',fun w=>X w∧X' w⟩ k) (hx:ev E x=some (.func (.func f) first caps):=by rfl) (ha:evs E xs=some args:=by rfl) (hall:first.toList++args++caps.toList=all:=by rfl) (hg:gdB ops E g=some (bb,want):=by rfl) (hb:bb=want:=by exact am) (hd:inB N d=true:=by rfl) (hf:FnBody P f:=by infer_instance) (hc:Ct P f all.toArray [r] X1 Post) (hA:At r nullR loc loc':=by (repeat (first|exact At.here _|apply At.there))) (hX:∀ w,X w→X1 w:=by (first|exact fun _ _=>trivial|exact fun _ h=>h|exact fun _ h=>h.1|exact fun _ h=>h.2)) :
  Sw P N av bor w0 ops (⟨d,.call ⟨.value x,xs.toArray,ats⟩,ty,pos,af,g⟩::rest) ⟨E,loc,X⟩ k:=by
 obtain ⟨f',h1,h2⟩:=hA.perm
 refine dc h1 ?_
 refine cj (pre:=[r]) (fr:=f') (Post:=Post) hx ha hall hg hb hd hf hc hX fun u R X' hp=>?_
 refine jC (fun a w ok=>?_) (h u R X' hp)
 refine ok.via fun M G=>?_
 have G1:=(G.null).perm ((List.perm_middle (l₁:=R) (a:=nullR) (l₂:=f')).symm.append_right M)
 exact G1.perm (((Qn R).append h2.symm).append_right M)
theorem D8 {E':Env} {l':List Res} {X':World→Prop} (he:sub E E') (hl:loc.Perm l') (hx:∀ w,X w→X' w):∀ a w,Ok N av bor w0 ⟨E,loc,X⟩ a w→Ok N av bor w0 ⟨E',l',X'⟩ a w:=fun a w ok =>
 aj he (al _) hx a w (ok.via fun M G=>G.perm (hl.append_right M))
theorem EW {c:Code} {l:List Res} (hs:l.Sublist loc) (h:Cw P N av bor w0 c ⟨E,l,X⟩ K):Cw P N av bor w0 c ⟨E,loc,X⟩ K:=Cw.mk fun a w ok=>h.run a w (ok.via fun M G=>G.drop (hs.append_right M))
end
theorem dN {P:Program} {f:FuncId} {fn:Func} {c:Code} {args:List Value} {pre:List Res} {X:World→Prop} {Post:Value→List Res→Prop} (N:Nat)
  (hf:P.funcs[f]?=some fn) (hb:fn.body=some c) (hN:fn.ntmps=N) (hn:Nat.ble args.length N=true)
  (h:∀ av bor w0,Cw P N av bor w0 c ⟨params 0 args,pre,X⟩ (ends P fn N fun u R _=>∃ R',R'.Sublist R∧Post u R')):Ct P f args.toArray pre X fun u R _=>Post u R:=Ct.mk fun w av G=>by
 have h1:=(bQ (P:=P) (Post:=fun u R _=>∃ R',R'.Sublist R∧Post u R') N hf hb hN hn h).run w av G
 refine h1.mono fun e w' ⟨u,R,X',he,⟨R',hs,hp⟩,G'⟩=>⟨u,R',X',he,hp,G'.drop hs⟩
end Go.Proofs.YtaolfiikahlmkaaGreatDoor.Sy
namespace Go.Proofs.YtaolfiikahlmkaaGreatDoor
open Go Go.Proofs Sy
instance:TyMap Tryz.prog 117 4 (keyD ByteArray):=⟨ae⟩
def setM (ks:List ByteArray):List (ByteArray×Value):=ks.map fun k=>(k,.bool true)
def sput:List ByteArray→ByteArray→List ByteArray
 | [],k=>[k]
 | k'::r,k=>bif KeyT.eqb k k' then k::r else k'::sput r k
def sdel:List ByteArray→ByteArray→List ByteArray
 | [],_=>[]
 | k'::r,k=>bif KeyT.eqb k k' then r else k'::sdel r k
theorem sU:∀ (ks:List ByteArray) (k:ByteArray),mput (setM ks) k (.bool true)=setM (sput ks k)
 | [],k=>rfl
 | k'::r,k=>by
  have ih:=sU r k
  simp only [setM] at ih
  simp only [setM,Z1,mput,sput]
  cases KeyT.eqb k k' with
  | true=>rfl
  | false=>simp only [Ze,ih,Z1]
theorem tc:∀ (ks:List ByteArray) (k:ByteArray),mdel (setM ks) k=setM (sdel ks k)
 | [],k=>rfl
 | k'::r,k=>by
  have ih:=tc r k
  simp only [setM] at ih
  simp only [setM,Z1,mdel,sdel]
  cases KeyT.eqb k k' with
  | true=>rfl
  | false=>simp only [Ze,ih,Z1]
theorem xY (q:Nat) (ks:List ByteArray) (k:ByteArray):Ct Tryz.prog 180 #[.map (some q),.string k] [mapr q (setM ks)] (fun _=>True) fun u R _=>u=.tuple #[]∧R=[mapr q (setM (sput ks k))]:=by
 refine bQ (args:=[_,_]) _ Tryz.func180 rfl Tryz.ntmps180 rfl fun av bor w0=>?_
 repeat' (first|refine gs ?_|(refine pb (κ:=ByteArray) (kk:=k) (l:=setM ks) (hA:=At.here _) ?_)|fail)
 rw [sU]
 repeat' (first|refine gs ?_|fail)
 exact bK (bu rfl) ⟨rfl,rfl⟩
theorem pj (q:Nat) (ks:List ByteArray) (k:ByteArray):Ct Tryz.prog 181 #[.map (some q),.string k] [mapr q (setM ks)] (fun _=>True) fun u R _=>u=.tuple #[]∧R=[mapr q (setM (sdel ks k))]:=by
 refine bQ (args:=[_,_]) _ Tryz.func181 rfl Tryz.ntmps181 rfl fun av bor w0=>?_
 repeat' (first|refine gs ?_|(refine xJ (κ:=ByteArray) (kk:=k) (l:=setM ks) (hA:=At.here _) ?_)|fail)
 rw [tc]
 repeat' (first|refine gs ?_|fail)
 exact bK (bu rfl) ⟨rfl,rfl⟩
theorem pc (l:List ByteArray):l.map encB=(strs l).flatten:=by
 induction l with
 | nil=>rfl
 | cons a l ih =>
  simp only [strs,Z1,Qb] at ih ⊢
  rw [ih]
  rfl
theorem rG (l:List ByteArray):∀ r∈strs l,r.length=1:=by
 intro r hr
 simp only [strs,QI] at hr
 obtain ⟨x,_,rfl⟩:=hr
 rfl
theorem gJ {w:World} {e n c:Nat} {A:Option Addr} {l:List ByteArray} (h:ORow w e 1 (.slice A n c) n (l.map encB)) (hn:n=l.length):Strs w ⟨A,n,c⟩ l:=by
 rw [pc] at h
 exact ck h (by simpa [strs] using hn) (rG l)
structure TieS where
 f:List ByteArray
 a:List ByteArray
 b:List ByteArray
 m:List ByteArray
def setsV (q1 q2 q3 q4:Nat):Value:=.agg #[.map (some q1),.map (some q2),.map (some q3),.map (some q4)]
def setsR (q1 q2 q3 q4:Nat) (t:TieS):List Res:=[mapr q4 (setM t.m),mapr q3 (setM t.b),mapr q2 (setM t.a),mapr q1 (setM t.f)]
def undoT (t:TieS) (x:ActD):TieS :=
 bif decide (x.kind=7) then { t with f:=sdel t.f x.target } else bif decide (x.kind=8) then { t with a:=sdel t.a x.target } else bif decide (x.kind=10) then { t with b:=sdel t.b x.target } else bif decide (x.kind=11) then { t with m:=sdel t.m x.target } else t
theorem C2 (q1 q2 q3 q4:Nat) (t:TieS) (x:ActD):Ct Tryz.prog 182 #[setsV q1 q2 q3 q4,x.v] (setsR q1 q2 q3 q4 t) (fun _=>True) fun u R _=>u=.tuple #[]∧R=setsR q1 q2 q3 q4 (undoT t x):=by
 refine dN (args:=[_,_]) (Post:=fun u R=>u=.tuple #[]∧R=setsR q1 q2 q3 q4 (undoT t x)) _ Tryz.func182 rfl Tryz.ntmps182 rfl fun av bor w0=>?_
 unfold setsR
 repeat' (first|(refine eZ (hc:=pj _ _ _) (hX:=fun _ _=>trivial) ?_)|refine gs ?_|refine gs1 fun _=>?_|(refine gp ?_ ?_<;>intro hx_ this)|fail)
 all_goals (
  refine bK (bu rfl) ⟨_,Z2 _ (Z2 _ (al _)),rfl,?_⟩
  simp only [undoT, *,Int.reduceEq,Zt,Zr,Zf,Ze,Zh,Zg,Zk,Zj,Zn,Zl,Zs,Zm,Zq,Zi])
def limN (n:Int) (len:Nat):Nat:=(if (len:Int)<(if n<0 then 0 else n) then (len:Int) else (if n<0 then 0 else n)).toNat
theorem gR (n:Int) (len:Nat):limN n len=min n.toNat len:=by
 unfold limN
 split<;>split<;>omega
def stepT (l:List ActD) (i:Nat) (t:TieS) (x:ActD):TieS :=
 bif decide (x.kind=7) then { t with f:=sput t.f x.target } else bif decide (x.kind=8) then { t with a:=sput t.a x.target } else bif decide (x.kind=9) then { t with a:=sdel t.a x.target }
 else bif decide (x.kind=10) then { t with b:=sput t.b x.target,f:=sdel t.f x.target,a:=sdel t.a x.target } else bif decide (x.kind=11) then { t with m:=sput t.m x.target }
 else bif decide (x.kind=6) then (match idxV l x.object with|some j=>bif decide ((j:Int)<(i:Int)) then undoT t (l.getD j ActD.zero) else t|none=>t) else t
def tieF (l:List ActD):Nat→TieS
 | 0=>⟨[],[],[],[]⟩
 | i+1=>stepT l i (tieF l i) (l.getD i ActD.zero)
def tieV (l:List ActD) (n:Int):TieS:=tieF l (limN n l.length)
theorem wv {l:List ActD} {d:ByteArray} {j:Nat} (h:idxV l d=some j):j<l.length:=by
 rw [idxV,QC] at h
 exact h.1
theorem Acts.cap_ {w:World} {s:SlV} {l:List ActD} (h:Acts w s l):s.n≤s.c:=RowsD.cap h.1
theorem FJ (c:ChainD) (hc:ActsOk c.actsL) (n:Int):Ct Tryz.prog 107 #[c.v,.int .i64 n] [] (fun w=>c.at_ w∧Glob w) fun u R _=>∃ q1 q2 q3 q4,u=setsV q1 q2 q3 q4∧R=setsR q1 q2 q3 q4 (tieV c.actsL n):=by
 refine dN (args:=[_,_]) (Post:=fun u R=>∃ q1 q2 q3 q4,u=setsV q1 q2 q3 q4∧R=setsR q1 q2 q3 q4 (tieV c.actsL n)) _ Tryz.func107 rfl Tryz.ntmps107 rfl fun av bor w0=>?_
 refine aM (p:=c.acts.n=c.actsL.length∧c.acts.n≤maxLen∧(0<c.actsL.length→c.acts.p.isSome=true)∧c.acts.n≤c.acts.c) (fun w h=>⟨h.1.len_,h.1.max_,h.1.some_,h.1.cap_⟩) fun ⟨hl,hm,hp,hcap⟩=>?_
 simp only [maxLen] at hm
 have hlim:=gR n c.acts.n
 have hlN:limN n c.acts.n≤c.acts.n:=by omega
 repeat' (first|refine gs ?_|refine gs1 fun _=>?_|(refine jk ByteArray (h:=fun _=>?_))|(refine aF ?_)|fail)
 refine Du (h0:=by split<;>split<;>omega) (h1:=by split<;>split<;>omega) ?_
 repeat' (first|refine gs ?_|refine gs1 fun _=>?_|fail)
 rename_i b2 b4 q1 q2 q3 q4 b5
 refine ar (ι:=Kth (limN n c.acts.n)) (fun i=>⟨[(2,.pointer (some ⟨b2,0,none⟩)),(4,.pointer (some ⟨b4,0,none⟩)),(5,.pointer (some ⟨b5,0,none⟩)),(24,.slice c.acts.p (limN n c.acts.n) c.acts.c),(25,.int .i64 (limN n c.acts.n)),(26,.int .i64 i.k)],
  setsR q1 q2 q3 q4 (tieF c.actsL i.k)++[cel b5 119 (setsV q1 q2 q3 q4).cells.toList,cel b4 119 [.map none,.map none,.map none,.map none],cel b2 35 c.cells],fun w=>c.at_ w∧Glob w⟩) (fun i=>limN n c.acts.n-i.k) ⟨0,Z4 _⟩
  (D8 ⟨rfl,rfl,rfl,rfl,rfl,rfl,trivial⟩ (List.perm_middle (l₁:=setsR q1 q2 q3 q4 ⟨[],[],[],[]⟩) (a:=cel b5 119 (setsV q1 q2 q3 q4).cells.toList) (l₂:=[cel b4 119 [.map none,.map none,.map none,.map none],cel b2 35 c.cells])).symm fun _ h=>h) fun i=>?_
 have hik:=i.hk
 repeat' (first|refine gs ?_|refine gs1 fun _=>?_|(refine gp ?_ ?_<;>intro hx_ this)|fail)
 · have hlt:i.k<limN n c.acts.n:=by omega
   have hltL:i.k<c.actsL.length:=by omega
   have hp':=hp aa
   obtain ⟨x,hx⟩:∃ x,c.actsL[i.k]?=some x:=⟨_,Zb hltL⟩
   have hstep:tieF c.actsL (i.k+1)=stepT c.actsL i.k (tieF c.actsL i.k) x:=by simp only [tieF,Zo,hx,Qe]
   generalize ht:tieF c.actsL i.k=t at *
   unfold setsR
   repeat' (first|(refine eZ (hc:=xY _ _ _) (hX:=fun _ _=>trivial) ?_)|(refine eZ (hc:=pj _ _ _) (hX:=fun _ _=>trivial) ?_)|refine gs ?_|refine gs1 fun _=>?_|(refine aO (q:=i.k*20) ?_)|(refine ca (cs:=x.cells) (hF:=fun w h=>Acts.get h.1 hx) ?_)|(refine gp ?_ ?_<;>intro hx_ this)|fail)
   all_goals first
    | exact ⟨(⟨i.k+1,hlt⟩:Kth (limN n c.acts.n)),(by show limN n c.acts.n-(i.k+1)<limN n c.acts.n-i.k;omega),aj ao (Z2 _ (by
      rw [hstep]
      simp only [stepT,setsR, *,Zt,Zr,Zf,Ze,Zh,Zg,Zk,Zj,Zn,Zl,Zs,Zm,Zq,Zi]
      exact al _)) fun _ h=>h⟩
    | skip
   rcases ho:idxV c.actsL x.object with _|j
   · have hip:Pu Tryz.prog 50 #[c.v,.string x.object] (fun w=>c.at_ w∧Glob w) (.tuple #[.int .i64 0,.bool false]):=by have:=tp c hc x.object;rwa [ho] at this
     repeat' (first|refine ab (hc:=hip) ?_|refine gs ?_|refine gs1 fun _=>?_|(refine gp ?_ ?_<;>intro hx_ this)|fail)
     exact ⟨(⟨i.k+1,hlt⟩:Kth (limN n c.acts.n)),(by show limN n c.acts.n-(i.k+1)<limN n c.acts.n-i.k;omega),aj ao (Z2 _ (by
       rw [hstep]
       simp only [stepT,setsR, *,Zt,Zr,Zf,Ze,Zh,Zg,Zk,Zj,Zn,Zl,Zs,Zm,Zq,Zi]
       exact al _)) fun _ h=>h⟩
   · have hip:Pu Tryz.prog 50 #[c.v,.string x.object] (fun w=>c.at_ w∧Glob w) (.tuple #[.int .i64 (j:Int),.bool true]):=by have:=tp c hc x.object;rwa [ho] at this
     have hjl:=wv ho
     obtain ⟨y,hy⟩:∃ y,c.actsL[j]?=some y:=⟨_,Zb hjl⟩
     have hgy:c.actsL.getD j ActD.zero=y:=by simp [hy]
     repeat' (first|refine ab (hc:=hip) ?_|refine gs ?_|refine gs1 fun _=>?_|(refine gp ?_ ?_<;>intro hx_ this)|fail)
     · refine EW (Z2 _ (al _)) ?_
       (refine aq ⟨[1,3],[(0,⟨[],[(2,⟨[4],[(5,⟨[],[(6,⟨[],[]⟩)]⟩)]⟩)]⟩),(2,⟨[4],[(0,⟨[],[(5,⟨[],[(6,⟨[],[]⟩)]⟩)]⟩),(5,⟨[],[(0,⟨[],[(6,⟨[],[]⟩)]⟩)]⟩)]⟩)]⟩ [] (fun _=>True) (h:=?_))
       all_goals repeat' (first|((refine cj (pre:=setsR q1 q2 q3 q4 t) (fr:=[cel b5 119 (setsV q1 q2 q3 q4).cells.toList,cel b4 119 [.map none,.map none,.map none,.map none],cel b2 35 c.cells]) (hc:=C2 q1 q2 q3 q4 t y) (hX:=fun _ _=>trivial) (h:=?_);rintro _ _ X' ⟨rfl,rfl⟩))|refine gd ?_|refine ay (hy:=by first|(apply aC (q:=j*20);rfl;rfl;omega;omega;assumption;omega)) ?_|refine az ?_ (h':=?_)|exact aA|(refine ca (cs:=y.cells) (hF:=fun w h=>Acts.get h.1 hy) ?_)|refine gs1 fun _=>?_|(refine gq ?_ ?_<;>intro hx_ this)|fail)
       all_goals (repeat' (first|refine gs ?_|refine gs1 fun _=>?_|(refine gp ?_ ?_<;>intro hx_ this)|fail))
       all_goals exact ⟨(⟨i.k+1,hlt⟩:Kth (limN n c.acts.n)),(by show limN n c.acts.n-(i.k+1)<limN n c.acts.n-i.k;omega),aj ao (by
        rw [hstep]
        simp only [stepT, *,Zt,Zr,Zf,Ze,Zh,Zg,Zk,Zj,Zn,Zl,Zs,Zm,Zq,Zi]
        exact al _) fun _ h=>h.1⟩
     · exact ⟨(⟨i.k+1,hlt⟩:Kth (limN n c.acts.n)),(by show limN n c.acts.n-(i.k+1)<limN n c.acts.n-i.k;omega),aj ao (Z2 _ (by
        rw [hstep]
        simp only [stepT,setsR, *,Zt,Zr,Zf,Ze,Zh,Zg,Zk,Zj,Zn,Zl,Zs,Zm,Zq,Zi]
        exact al _)) fun _ h=>h⟩
 have hk:i.k=limN n c.acts.n:=by omega
 refine ad (cB rfl rfl bz (by rfl)) ⟨setsR q1 q2 q3 q4 (tieF c.actsL i.k),Z3 _ (Z3 _ (Z3 _ (Z3 _ (Zu _)))),q1,q2,q3,q4,rfl,?_⟩
 rw [tieV,←hl,hk]
structure LBnd (k:Nat) (l:List ByteArray):Prop where
 len:l.length≤k
 size:∀ x∈l,x.size≤maxLen
theorem LBnd.mono {k k':Nat} {l:List ByteArray} (h:LBnd k l) (hk:k≤k'):LBnd k' l:=⟨ZY h.len hk,h.size⟩
theorem ii {k:Nat} {x:ByteArray} (hx:x.size≤maxLen):∀ {l:List ByteArray},LBnd k l→LBnd (k+1) (sput l x)
 | [],_=>⟨by simp [sput],by simp [sput,hx]⟩
 | a::r,h=>by
  simp only [sput]
  cases KeyT.eqb x a with
  | true=>exact ⟨by have:=h.len;simp at this ⊢;omega,fun y hy=>by rcases ZI.1 hy with rfl|hy;exact hx;exact h.size y (Zv _ hy)⟩
  | false =>
   cases k with
   | zero=>have:=h.len;simp at this
   | succ k =>
    have ih:=ii (k:=k) hx (l:=r) ⟨by have:=h.len;simp at this;omega,fun y hy=>h.size y (Zv _ hy)⟩
    exact ⟨by have:=ih.len;simp;omega,fun y hy=>by rcases ZI.1 hy with rfl|hy;exact h.size _ ax;exact ih.size y hy⟩
theorem fg {k:Nat} {x:ByteArray}:∀ {l:List ByteArray},LBnd k l→LBnd k (sdel l x)
 | [],h=>h
 | a::r,h=>by
  simp only [sdel]
  cases KeyT.eqb x a with
  | true=>exact (show LBnd k r from ⟨by have:=h.len;simp at this;omega,fun y hy=>h.size y (Zv _ hy)⟩)
  | false =>
   cases k with
   | zero=>have:=h.len;simp at this
   | succ k =>
    have ih:=fg (k:=k) (x:=x) (l:=r) ⟨by have:=h.len;simp at this;omega,fun y hy=>h.size y (Zv _ hy)⟩
    exact ⟨by have:=ih.len;simp;omega,fun y hy=>by rcases ZI.1 hy with rfl|hy;exact h.size _ ax;exact ih.size y hy⟩
structure TBnd (k:Nat) (t:TieS):Prop where
 f:LBnd k t.f
 a:LBnd k t.a
 b:LBnd k t.b
 m:LBnd k t.m
theorem TBnd.mono {k k':Nat} {t:TieS} (h:TBnd k t) (hk:k≤k'):TBnd k' t:=⟨h.f.mono hk,h.a.mono hk,h.b.mono hk,h.m.mono hk⟩
theorem wS {k:Nat} {t:TieS} (h:TBnd k t) (x:ActD):TBnd k (undoT t x):=by
 unfold undoT
 cases decide (x.kind=7)<;>cases decide (x.kind=8)<;>cases decide (x.kind=10)<;>cases decide (x.kind=11)
 all_goals first
  | exact ⟨fg h.f,h.a,h.b,h.m⟩
  | exact ⟨h.f,fg h.a,h.b,h.m⟩
  | exact ⟨h.f,h.a,fg h.b,h.m⟩
  | exact ⟨h.f,h.a,h.b,fg h.m⟩
  | exact h
theorem xQ {k i:Nat} {l:List ActD} {t:TieS} (h:TBnd k t) {x:ActD} (hx:x.target.size≤maxLen):TBnd (k+1) (stepT l i t x):=by
  have h':=h.mono (Nat.le_succ k)
  unfold stepT
  cases decide (x.kind=7)<;>cases decide (x.kind=8)<;>cases decide (x.kind=9)<;>cases decide (x.kind=10)<;>cases decide (x.kind=11)<;>cases decide (x.kind=6)
  all_goals first
    | exact ⟨ii hx h.f,h'.a,h'.b,h'.m⟩
    | exact ⟨h'.f,ii hx h.a,h'.b,h'.m⟩
    | exact ⟨h'.f,fg h'.a,h'.b,h'.m⟩
    | exact ⟨fg h'.f,fg h'.a,ii hx h.b,h'.m⟩
    | exact ⟨h'.f,h'.a,h'.b,ii hx h.m⟩
    | exact h'
    | (simp only [Zf,Ze]
       split
       · rename_i j hj
         cases decide ((j:Int)<(i:Int)) with
         | true=>exact wS h' _
         | false=>exact h'
       · exact h')
theorem rm:ActD.zero.target.size≤maxLen:=by decide
theorem rC {l:List ActD} (hs:∀ a∈l,a.Sm):∀ k,TBnd k (tieF l k)
 | 0=>⟨⟨by simp [tieF],by simp [tieF]⟩,⟨by simp [tieF],by simp [tieF]⟩,⟨by simp [tieF],by simp [tieF]⟩,⟨by simp [tieF],by simp [tieF]⟩⟩
 | k+1=>by
  refine xQ (rC hs k) ?_
  rcases Nat.lt_or_ge k l.length with h|h
  · rw [Zo,Zb h]
    exact (hs _ (ZQ h)).target
  · rw [Zo,List.getElem?_eq_none h]
    exact rm
theorem mC {l:List ActD} (hs:ActsOk l) (n:Int):TBnd l.length (tieV l n):=(rC hs.sm _).mono (by rw [gR];omega)
def TiesAt (t:TieS) (u:Value) (X:World→Prop):Prop:=∃ s1 s2 s3 s4:SlV,u=.agg #[s1.v,s2.v,s3.v,s4.v]∧∀ w,X w→Strs w s1 (sortB t.f)∧Strs w s2 (sortB t.a)∧Strs w s3 (sortB t.b)∧Strs w s4 (sortB t.m)
theorem gK {w:World} {e n c:Nat} {A:Option Addr} {l:List ByteArray} (h:(orow e 1 (.slice A n c) n ((sortB l).map encB)).F w) (hn:n=l.length):Strs w ⟨A,n,c⟩ (sortB l):=gJ h (by rw [iT,hn])
def hasS (l:List ByteArray) (x:ByteArray):Bool:=l.any fun y=>seqB x y
def idxS (l:List ByteArray) (x:ByteArray):Int:=match l.findIdx? (fun y=>seqB x y) with|some k=>(k:Int)|none=>-1
theorem uU {l:List ByteArray} {x:ByteArray} (i:Upto l.length (fun k=>seqB x (l.getD k .empty))) (hlt:i.k<l.length) (hb:seqB x (l.getD i.k .empty)=true):idxS l x=i.k:=by
 have:l.findIdx? (fun y=>seqB x y)=some i.k:=by
  rw [QC]
  refine ⟨hlt,by simpa [hlt] using hb,fun j hj=>?_⟩
  have h1:=i.ok j hj
  have hj':j<l.length:=by omega
  simp [hj'] at h1
  simp [h1]
 simp only [idxS,this]
theorem yJ {l:List ByteArray} {x:ByteArray} (i:Upto l.length (fun k=>seqB x (l.getD k .empty))) (h:¬ i.k<l.length):idxS l x=-1:=by
 have:l.findIdx? (fun y=>seqB x y)=none:=by
  rw [List.findIdx?_eq_none_iff]
  intro y hy
  obtain ⟨k,hk,rfl⟩:=Qx hy
  have h1:=i.ok k aa
  simpa [hk] using h1
 simp only [idxS,this]
theorem B6 (l:List ByteArray) (x:ByteArray):decide (0≤idxS l x)=hasS l x:=by
 unfold idxS hasS
 cases h:l.findIdx? (fun y=>seqB x y) with
 | some k =>
  rw [QC] at h
  obtain ⟨h1,h2,_⟩:=h
  have:l.any (fun y=>seqB x y)=true:=List.any_eq_true.2 ⟨l[k],ZQ h1,h2⟩
  rw [this]
  exact Zd (show (0:Int)≤(k:Int) by omega)
 | none =>
  rw [List.findIdx?_eq_none_iff] at h
  have:l.any (fun y=>seqB x y)=false:=List.any_eq_false.2 fun y hy=>by simp [h y hy]
  rw [this]
  rfl
def eqBad (l m:List ByteArray) (k:Nat):Bool:=!seqB (l.getD k .empty) (m.getD k .empty)
def eqL (l m:List ByteArray):Bool:=decide (l.length=m.length)&&allB l.length (eqBad l m)
theorem pN (s r:SlV) (l m:List ByteArray):Pu Tryz.prog 70 #[s.v,r.v] (fun w=>Strs w s l∧Strs w r m) (.bool (eqL l m)):=by
 refine ak (args:=[_,_]) _ Tryz.func70 rfl Tryz.ntmps70 rfl fun av bor w0=>?_
 refine aM (p:=(s.n=l.length∧s.n≤maxLen∧(0<l.length→s.p.isSome=true))∧(r.n=m.length∧r.n≤maxLen∧(0<m.length→r.p.isSome=true))) (fun w h=>⟨⟨h.1.len_,ZY (RowsD.cap h.1) (RowsD.max h.1),h.1.some_⟩,⟨h.2.len_,ZY (RowsD.cap h.2) (RowsD.max h.2),h.2.some_⟩⟩) fun ⟨⟨hl,hm,hp⟩,⟨hl',hm',hp'⟩⟩=>?_
 simp only [maxLen] at hm hm'
 repeat' (first|refine gs ?_|(refine gp ?_ ?_<;>intro hx_ this)|fail)
 · apply ad;apply ag;rfl;rfl
   have:¬ l.length=m.length:=by
    have h1:¬ (s.n:Int)=(r.n:Int):=by simpa using hx_
    omega
   simp only [eqL,Zc this,Zj]
 have hlm:l.length=m.length:=by
  have h1:(s.n:Int)=(r.n:Int):=by simpa using hx_
  omega
 refine ar (ι:=Upto l.length (eqBad l m)) (fun i=>⟨[(0,s.v),(1,r.v),(12,.int .i64 s.n),(13,.int .i64 i.k)],[],fun w=>Strs w s l∧Strs w r m⟩) (fun i=>l.length-i.k) (Upto.zero _ _) (aj (by repeat (first|exact trivial|refine ⟨rfl,?_⟩)) (al _) fun _ h=>h) fun i=>?_
 have hik:=i.hk
 repeat' (first|refine gs ?_|(refine gp ?_ ?_<;>intro hx_ this)|fail)
 · have hlt:i.k<l.length:=by omega
   have hlt':i.k<m.length:=by omega
   have hp1:=hp aa
   have hp2:=hp' aa
   (refine bo ⟨[0,1,2,3,4,5,6,7,8],[]⟩ (h:=?_))
   all_goals repeat' (first|refine gd ?_|refine ay (hy:=by first|(apply aC (q:=i.k);rfl;rfl;omega;omega;assumption;omega)|(apply dR;rfl;exact fun w h=>Strs.get h.1 hlt)|(apply dR;rfl;exact fun w h=>Strs.get h.2 hlt')) ?_|refine az ?_ (h':=?_)|exact aA|(refine gq ?_ ?_<;>intro hx_ this)|fail)
   repeat' (first|refine gs ?_|(refine gp ?_ ?_<;>intro hx_ this)|fail)
   · apply ad;apply ag;rfl;rfl
     rw [eqL,cM hlt (by assumption),Zk]
   · exact ⟨i.next hlt (by assumption),(by show l.length-(i.k+1)<l.length-i.k;omega),aj (by repeat (first|exact trivial|refine ⟨rfl,?_⟩)) (al _) fun _ h=>h⟩
 · apply ad;apply ag;rfl;rfl
   rw [eqL,i.all aa,Zd hlm]
   rfl
def has21V (l:List ByteArray) (x:ByteArray):Bool:=l.any fun y=>seqB y x
theorem tt {l:List ByteArray} {x:ByteArray} {k:Nat} (hk:k<l.length) (h:seqB (l.getD k .empty) x=true):has21V l x=true:=by
 rw [has21V,List.any_eq_true]
 refine ⟨l[k],ZQ hk,?_⟩
 simpa [hk] using h
theorem uW {l:List ByteArray} {x:ByteArray} (h:∀ k,k<l.length→seqB (l.getD k .empty) x=false):has21V l x=false:=by
 rw [has21V,List.any_eq_false]
 intro y hy
 obtain ⟨k,hk,rfl⟩:=Qx hy
 have:=h k hk
 simp [hk] at this
 simp [this]
def XC (c:ChainD) (w:World):Prop:=c.at_ w∧Glob w
theorem XC.know {c:ChainD}:∀ w,XC c w→c.acts.n=c.actsL.length∧c.acts.n≤maxLen∧(0<c.actsL.length→c.acts.p.isSome=true)∧c.acts.n≤c.acts.c:=fun w h=>⟨h.1.len_,h.1.max_,h.1.some_,h.1.cap_⟩
theorem sB {P:Program} {fn:Func} {N t u r:Nat} {s:St} {v x y:Value} (hr:fn.results=#[.tmp t,.tmp u,.tmp r]) (h:Sy.look s.env t=some v) (h':Sy.look s.env u=some x) (h2:Sy.look s.env r=some y):Res1 P fn N s (.tuple #[v,x,y]):=fun av bor w0 a w ok=>by
 have h3:=ok.env t v h
 have h4:=ok.env u x h'
 have h5:=ok.env r y h2
 simp [results,hr,h3,h4,h5]
theorem xL (l:List ByteArray):∀ cs∈strs l,cs.all (·.oneCell')=true:=fun cs hcs=>by simp only [strs,QI] at hcs;obtain ⟨x,_,rfl⟩:=hcs;rfl
theorem ij {e n:Nat} {v:Value} {ss:List ByteArray} (hn:n≤1000000000):Ct Tryz.prog 48 #[v] [orow e 1 v n (ss.map encB)] (fun _=>True) fun u R _=>u=.tuple #[]∧R=[orow e 1 v n ((sortB ss).map encB)]:=by
 have h:=sortS_c.ct (e:=e) (n:=n) (v:=v) (ss:=ss.map bl) hn
 rw [tf ss]
 refine h.mono fun u R X' ⟨h1,h2⟩=>⟨h1,?_⟩
 rw [h2,jq,sortB]
def StrsAt (l:List ByteArray) (u:Value) (X:World→Prop):Prop:=∃ s:SlV,u=s.v∧∀ w,X w→Strs w s l
theorem fU {p:ByteArray→Bool} (L:List ByteArray) {k:Nat} (h:k<L.length):(L.take (k+1)).filter p=(L.take k).filter p++(bif p (L.getD k .empty) then [L.getD k .empty] else []):=by
 rw [Qg,Qv,Zb h,Zo,Zb h]
 simp only [Qu,Qe,List.filter_cons,List.filter_nil]
 cases p L[k]<;>rfl
end Go.Proofs.YtaolfiikahlmkaaGreatDoor
namespace Go.Proofs.YtaolfiikahlmkaaGreatDoor.Sy
open Go Go.RowKit
theorem CellAt.shift {w:World} {p:Option Addr} {k q:Nat} {u:Value}:CellAt w (p.map (·.add k)) q u↔CellAt w p (k+q) u:=by
 cases p with
 | none=>simp [CellAt]
 | some a=>simp [CellAt,fD]
theorem RowsD.take {w:World} {size:Nat} {s:SlV} {xs:List (List Value)} (h:RowsD w size s xs) {n:Nat} (hn:n≤xs.length):RowsD w size ⟨s.p,n,s.c⟩ (xs.take n):=by
 refine ⟨by rw [Qi];show n=_;omega,by have:=h.cap;have:=h.len;show n≤s.c;omega,h.max,fun i cs hi=>h.row i cs ?_⟩
 rw [QG] at hi
 split at hi
 · exact hi
 · cases hi
def SlV.from (s:SlV) (size n:Nat):SlV:=⟨if s.c=n then s.p else s.p.map (·.add (n*size)),s.n-n,s.c-n⟩
theorem RowsD.drop {w:World} {size:Nat} {s:SlV} {xs:List (List Value)} (h:RowsD w size s xs) {n:Nat} (hn:n≤xs.length):RowsD w size (s.from size n) (xs.drop n):=by
 have h1:=h.len
 have h2:=h.cap
 have h3:=h.max
 refine ⟨by rw [Qr];show s.n-n=_;omega,by show s.n-n≤s.c-n;omega,by show s.c-n≤maxLen;omega,fun i cs hi=>?_⟩
 rw [List.getElem?_drop] at hi
 have hlt:=(QJ.1 hi).1
 have hr:=h.row (n+i) cs hi
 have e:(s.from size n).p=s.p.map (·.add (n*size)):=by unfold SlV.from;rw [ZP (by omega)]
 refine ⟨hr.1,by rw [e];simpa using hr.2.1,fun j u hj=>?_⟩
 rw [e,CellAt.shift,←ZH,←QE]
 exact hr.2.2 j u hj
section
variable {P:Program} {N:Nat} {av bor:List Nat} {w0:World} {ops:Array Oper} {rest:List Oper} {k:St→Prop} {E:Env} {loc loc':List Res} {X:World→Prop}
variable {d:Option Tmp} {ty:TypeId} {pos:String} {af:Array Edge} {g:Option (Nat×Bool)} {bb want:Bool} {K:Exit→St→Prop}
theorem Fv {st:St} {x y:Operand} {t e size b':Nat} [hI:TySl P t e size b'] {s:SlV} {kk:IntKind} {i:Int} (hx:ev st.env x=some s.v) (hy:ev st.env y=some (.int kk i)) (h0:0≤i) (h1:i≤(s.n:Int)) :
  Sy.Yields P N av bor w0 st (.slice t x (some y) none none) ty (s.from size i.toNat).v:=Sy.Yields.mk fun A w ok d pos af g=>by
 obtain ⟨p,m,c⟩:=s
 obtain ⟨hu,inf,hi,hs,hb⟩:=cI hI.out
 have hz:=run_sizeOf (P:=P) (w:=w) (t:=e) (n:=size) (by simp [hi,hs])
 have hx':ev st.env x=some (.slice p m c):=hx
 have h1':i≤(m:Int):=h1
 simp [execOp,ok.eval hx',ok.eval hy,Instr.sliceAt,run_underlying hu,Instr.slice,Instr.sliceBounds,run_sliceBound,h0,h1',hz,SlV.v,SlV.from]
theorem pL (size:Nat):∀ (vs:List Value) (k:Nat) (pre z:List Value),(∀ v∈vs,v.cells.size=size)→pre.length=k*size→z.length=vs.length*size →
  Instr.fill (fun i=>some (i*size,size)) (pre++z).toArray ((vs.zipIdx k).map fun p=>(p.2,p.1))=some (pre++vs.flatMap fun v=>v.cells.toList).toArray
 | [],k,pre,z,_,_,hz=>by
  have:z=[]:=Z8 (by simpa using hz)
  subst this
  simp [Instr.fill]
 | v::vs,k,pre,z,h1,hp,hz=>by
  have hv:=h1 v ax
  have hvl:v.cells.toList.length=size:=by simpa using hv
  simp only [ZB,QE,Nat.one_mul] at hz
  have ih:=pL size vs (k+1) (pre++v.cells.toList) (z.drop size) (fun u hu=>h1 u (Zv _ hu)) (by rw [ZA,hp,hvl,QE,Nat.one_mul]) (by rw [Qr];omega)
  have h3:=og pre.length v.cells.toList 0 (pre++z).toArray (by simp;omega)
  have h4:(v.cells.zipIdx.foldl (fun cs (p:Value×Nat)=>cs.setIfInBounds (k*size+p.2) p.1) (pre++z).toArray)=(pre++v.cells.toList++z.drop size).toArray:=by
   rw [←Array.foldl_toList,Array.toList_zipIdx,←hp,h3]
   simp [hv]
  simp only [List.zipIdx_cons,Z1,Instr.fill]
  have hc:¬ ((decide (v.cells.size≠size)||decide (k*size+v.cells.size>(pre++z).toArray.size))=true):=by
   simp [hv];omega
  rw [ZP hc,h4,ih]
  simp [List.flatMap_cons]
theorem du {n len:Nat} {t e size b':Nat} [hs:TySl P t e size b'] {z:Value} [hz:TyZero P e z] {parts:List (Nat×Operand)} {vs css:List Value} (h:∀ b,Sw P N av bor w0 ops rest ⟨(n,.slice (some ⟨b,0,none⟩) len len)::E,cel b e css::loc,X⟩ k) (hzs:z.cells.size=size:=by rfl) (hp:partsOf E 0 parts=some vs:=by rfl) (hl:vs.length=len:=by rfl) (hsz:(vs.all fun v=>v.cells.size==size)=true) (hcs:(vs.flatMap fun v=>v.cells.toList)=css) (hpos:Nat.ble (len*size) 1000000=true:=by rfl) (h0:Nat.blt 0 (len*size)=true:=by rfl) (hg:gdB ops E g=some (bb,want):=by rfl) (hb:bb=want:=by exact am) (hd:Nat.blt n N=true:=by rfl):Sw P N av bor w0 ops (⟨some n,.buildSlice t len parts.toArray,ty,pos,af,g⟩::rest) ⟨E,loc,X⟩ k:=Sw.mk fun a w ok=>by
 have hd':inB N (some n)=true:=by have h1:n<N:=Zx hd;simpa [inB] using h1
 have hle:len*size≤1000000:=Zx hpos
 have hlt:0<len*size:=Zx h0
 obtain ⟨ht,inf,hi,hi1,hi2⟩:=cI hs.out
 have hsz1:(sizeOf e).run P w=.ok size w:=by simp [sizeOf,typeInfo,hi,hi1]
 have hzr:(zeroValue e).run P w=.ok z w:=dT hz.out w
 simp only [wpList]
 rw [bO ok (o:=⟨some n,.buildSlice t len parts.toArray,ty,pos,af,g⟩) hg]
 subst hb
 simp only [Zz,ZN]
 left
 unfold Oper.wp
 have hfill:∀ Z:Array Value,Z.size=len*size→Instr.fill (fun i=>some (i*size,size)) Z (parts.map fun p=>(p.1,a.eval p.2))=some css.toArray:=fun Z hZ=>by
  rw [fy ok parts 0 vs hp,←hcs]
  have:=pL size vs 0 [] Z.toList (fun v hv=>by simpa using List.all_eq_true.1 hsz v hv) (by simp) (by simp [hZ,hl])
  simpa using this
 have hr:(execOp a.eval ⟨some n,.buildSlice t len parts.toArray,ty,pos,af,g⟩).run P w=.ok (.value (.slice (some ⟨w.heap.size,0,none⟩) len len)) (w.alloc (.cells css.toArray e)):=by
  have hn:¬ (16777216<len*size):=by omega
  have hne:¬ (len*size=0):=by omega
  have hne2:¬ (len=0∨size=0):=fun h=>hne (by rcases h with h|h<;>simp [h])
  have hf:=hfill ((Array.range (len*size)).map (fun x=>z.cells[x%z.cells.size]!)) (by simp)
  simp [execOp,Instr.buildSlice,run_underlying ht,hsz1,hzr,hne,hne2,hn,hf,eE]
 rw [hr]
 have ok':Ok N av bor w0 ⟨E,cel w.heap.size e css::loc,X⟩ a (w.alloc (.cells css.toArray e)):=(ok.via fun M G=>G.new _ _ fun _ h=>h)
 exact (h _).run _ _ (cZ (some n) _▸ok'.put hd' _)
theorem fX {ι:Type} (M:ι→St) {x y:Code} {st:St} (h1:Cw P N av bor w0 x st (thn (fun s=>∃ i,∀ a w,Ok N av bor w0 s a w→Ok N av bor w0 (M i) a w) K)) (h2:∀ i,Cw P N av bor w0 y (M i) K) :
  Cw P N av bor w0 x st (thn (fun s=>Cw P N av bor w0 y s K) K):=qS (fun e s h=>by
 cases e with
 | normal =>
  obtain ⟨i,hi⟩:=h
  exact gD hi (h2 i)
 | _=>exact h) h1
end
end Go.Proofs.YtaolfiikahlmkaaGreatDoor.Sy
namespace Go.Proofs.YtaolfiikahlmkaaGreatDoor.Sy
open Go Go.Proofs
theorem iQ (a:ByteArray):a.toList=bl a:=by simp [bl,ByteArray.toList_eq]
theorem vf {a b:ByteArray} (h:bl a=bl b):a=b:=by rw [←pF a,←pF b,h]
theorem seqB_iff {a b:ByteArray}:seqB a b=true↔a=b:=by
 unfold seqB
 rw [iQ,iQ,beq_iff_eq]
 exact ⟨vf,fun h=>by rw [h]⟩
theorem cW (a:ByteArray):seqB a a=true:=seqB_iff.2 rfl
theorem seqB_ne {a b:ByteArray}:seqB a b=false↔a≠b:=by
 rw [←ZE,seqB_iff]
theorem xZ (a b:ByteArray):seqB a b=seqB b a:=by
 cases h:seqB b a with
 | true=>rw [seqB_iff.1 h];exact cW _
 | false=>exact seqB_ne.2 fun e=>seqB_ne.1 h e.symm
def ltB (a b:ByteArray):Bool:=Op.bytesLess a.toList b.toList
theorem j2 {a b:ByteArray}:ltB a b=true↔bl a<bl b:=by
 unfold ltB
 rw [iQ,iQ,Go.Proofs.bytesLess_eq,Zw]
theorem dF (a:ByteArray):ltB a a=false:=by
 rw [←ZE,j2]
 exact List.lt_irrefl _
theorem fF {a b c:ByteArray} (h:ltB a b=true) (k:ltB b c=true):ltB a c=true:=by
 rw [j2] at *
 exact List.lt_trans h k
theorem kQ {a b:ByteArray} (h:ltB a b=true):ltB b a=false:=by
 rw [←ZE]
 intro k
 have:=fF h k
 rw [dF] at this
 cases this
theorem kP {a b:ByteArray} (h:ltB a b=false) (k:ltB b a=false):a=b:=by
 rw [←ZE,j2] at *
 exact vf (List.le_antisymm (List.not_lt.1 k) (List.not_lt.1 h))
theorem BV {a b:ByteArray} (h:ltB a b=true):a≠b:=by
 rintro rfl
 rw [dF] at h
 cases h
def Asc (l:List ByteArray):Prop:=l.Pairwise fun a b=>ltB a b=true
theorem Asc.nodup {l:List ByteArray} (h:Asc l):l.Nodup:=List.Pairwise.imp (fun h=>BV h) h
theorem Asc.getD {l:List ByteArray} (h:Asc l) {i j:Nat} (hij:i<j) (hj:j<l.length):ltB (l.getD i .empty) (l.getD j .empty)=true:=by
 rw [Zo,Zo,Zb hj,Zb (by omega)]
 exact List.pairwise_iff_getElem.1 h i j aa hj hij
theorem mem_sortB {x:ByteArray} {l:List ByteArray}:x∈sortB l↔x∈l:=by
 unfold sortB
 have hp:(((l.map bl).mergeSort leB).map lb).Perm ((l.map bl).map lb):=(List.mergeSort_perm _ _).map lb
 rw [hp.mem_iff,Z0]
 have e:(lb ∘ bl)=id:=by funext a;exact pF a
 rw [e,List.map_id]
theorem BX (l:List (List UInt8)):(l.mergeSort leB).Pairwise fun a b=>a≤b:=by
 have h:=List.pairwise_mergeSort (le:=leB) (fun a b c h1 h2=>by
  simp only [leB,Zw] at *
  exact List.le_trans h1 h2) (fun a b=>by
  simp only [leB,Bool.or_eq_true,Zw]
  exact List.le_total a b) l
 exact h.imp fun h=>by simpa [leB] using h
theorem tb {zs:List (List UInt8)} {x:List UInt8}:x∈Lib.compact zs↔x∈zs:=by
 unfold Lib.compact Lib.compactUpTo
 simp only [QI,QM,List.mem_range]
 constructor
 · rintro ⟨j,⟨hj,_⟩,rfl⟩
   rw [getElem!_pos zs.toArray j (by simpa using hj)]
   simp
 · intro h
   obtain ⟨j,hj,rfl⟩:=Qx h
   induction j with
   | zero=>exact ⟨0,⟨hj,by simp [Lib.keeps]⟩,by rw [getElem!_pos zs.toArray 0 (by simpa using hj)];simp⟩
   | succ j ih =>
    cases hk:Lib.keeps zs.toArray (j+1) with
    | true=>exact ⟨j+1,⟨hj,hk⟩,by rw [getElem!_pos zs.toArray (j+1) (by simpa using hj)];simp⟩
    | false =>
     have e:zs.toArray[j+1]! = zs.toArray[j+1-1]! := by
      simp only [Lib.keeps,Qd,not_or,Decidable.not_not] at hk
      exact hk.2
     rw [Nat.add_sub_cancel,getElem!_pos zs.toArray (j+1) (by simpa using hj),getElem!_pos zs.toArray j (by simp;omega)] at e
     simp only [List.getElem_toArray] at e
     rw [e]
     exact ih aa (ZQ _)
theorem va {zs:List (List UInt8)} (h:zs.Pairwise fun a b=>a≤b):(Lib.compact zs).Pairwise fun a b=>a<b:=by
 unfold Lib.compact Lib.compactUpTo
 rw [List.pairwise_map,List.pairwise_filter]
 refine (List.Pairwise.and_mem.1 (List.pairwise_lt_range (n:=zs.length))).imp ?_
 rintro i j ⟨_,hj,hij⟩ _ hk
 have hj':=List.mem_range.1 hj
 have hne:zs.toArray[j]! ≠ zs.toArray[j-1]! := by
  simp only [Lib.keeps,Zw] at hk
  exact hk.resolve_left aa
 have hpw:=List.pairwise_iff_getElem.1 h
 rw [getElem!_pos zs.toArray j (by simpa using hj'),getElem!_pos zs.toArray (j-1) (by simp;omega)] at hne
 rw [getElem!_pos zs.toArray j (by simpa using hj'),getElem!_pos zs.toArray i (by simp;omega)]
 simp only [List.getElem_toArray] at *
 have h1:zs[j-1]≤zs[j]:=hpw (j-1) j aa hj' aa
 have h2:zs[i]≤zs[j-1]:=by
  by_cases e:i=j-1
  · subst e;exact List.le_refl _
  · exact hpw i (j-1) aa aa aa
 have h3:zs[j-1]<zs[j]:=by
  rcases Decidable.em (zs[j-1]<zs[j]) with h|h
  · exact h
  · exact absurd (List.le_antisymm (List.not_lt.1 h) h1) hne
 exact List.not_le.1 fun h4=>absurd (List.lt_of_le_of_lt h2 h3) (List.not_lt.2 h4)
theorem yB {x:ByteArray} {l:List ByteArray}:x∈compB l↔x∈l:=by
 unfold compB
 simp only [QI,tb]
 constructor
 · rintro ⟨a,⟨b,hb,rfl⟩,rfl⟩
   rwa [pF]
 · intro h
   exact ⟨bl x,⟨x,h,rfl⟩,pF x⟩
theorem yC (l:List (List UInt8)):(l.map lb).map bl=l:=by
 rw [Z0]
 have e:(bl ∘ lb)=id:=by funext a;exact pU a
 rw [e,List.map_id]
theorem l8 (l:List ByteArray):Asc (compB (sortB l)):=by
 unfold Asc compB sortB
 rw [yC,List.pairwise_map]
 refine (va (BX _)).imp fun h=>?_
 rw [j2,pU,pU]
 exact h
theorem g9 {x:ByteArray} {l:List ByteArray}:x∈compB (sortB l)↔x∈l:=by rw [yB,mem_sortB]
theorem lf {l:List ByteArray} (hn:l.Nodup):Asc (sortB l):=by
 have hp:(sortB l).Perm l:=by
  unfold sortB
  have hp:(((l.map bl).mergeSort leB).map lb).Perm ((l.map bl).map lb):=(List.mergeSort_perm _ _).map lb
  have e:(lb ∘ bl)=id:=by funext a;exact pF a
  rwa [Z0,e,List.map_id] at hp
 have hn':(sortB l).Nodup:=hp.nodup_iff.2 hn
 have h1:(sortB l).Pairwise fun a b=>bl a≤bl b:=by
  unfold sortB
  rw [List.pairwise_map]
  exact (BX (l.map bl)).imp (fun {a b} (h:a≤b)=>by rw [pU,pU];exact h)
 unfold Asc
 refine (h1.and hn').imp (fun {a b} ⟨h2,h3⟩=>?_)
 rw [j2]
 rcases Decidable.em (bl a<bl b) with h|h
 · exact h
 · exact absurd (vf (List.le_antisymm h2 (List.not_lt.1 h))) h3
end Go.Proofs.YtaolfiikahlmkaaGreatDoor.Sy
