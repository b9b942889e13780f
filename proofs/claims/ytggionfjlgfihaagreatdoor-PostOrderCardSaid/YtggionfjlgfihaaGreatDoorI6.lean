/- Joined. -/
import Derived.Test.YtggionfjlgfihaaGreatDoorI0
import Derived.Test.YtggionfjlgfihaaGreatDoorI1
import Derived.Test.YtggionfjlgfihaaGreatDoorI5
set_option linter.unusedVariables false
set_option linter.unusedSimpArgs false
set_option maxHeartbeats 16000000
namespace Go.Proofs.YtggionfjlgfihaaGreatDoor
open Go Go.Proofs Sy
def rotlV (x k:Int):Int:=bitsV .or .u32 (shlV .u32 x (bitsV .and .u64 (IntKind.u64.wrap k) 31)) (shrV .u32 x (IntKind.u64.wrap (32-bitsV .and .u64 (IntKind.u64.wrap k) 31)))
theorem yO (x k:Int):Pu Tryz.prog 180 #[.int .u32 x,.int .i64 k] (fun _=>True) (.int .u32 (rotlV x k)):=by
 refine ar Tryz.func180 Tryz.ntmps180 fun av bor w0=>?_
 repeat' (first|refine gs ?_|fail)
 apply ab;apply ai;rfl;rfl;rfl
def turnV (w n:Int):Int:=rotlV w (IntKind.i64.wrap (0-n))
theorem nt (w n:Int):Pu Tryz.prog 119 #[.int .u32 w,.int .i64 n] (fun _=>True) (.int .u32 (turnV w n)):=by
 refine ar Tryz.func119 Tryz.ntmps119 fun av bor w0=>?_
 repeat' (first|refine ag (hc:=yO _ _) ?_|refine gs ?_|(refine Au (hc:=rfl) ?_)|fail)
 apply ab;apply ai;rfl;rfl;rfl
theorem x5 {a b:Nat} (h:a<b):Nat.blt a b=true:=Nat.ble_eq_true_of_le h
def u32s (ws:List Int):List Value:=ws.map (.int .u32)
theorem fd (ws:List Int):(u32s ws).length=ws.length:=by simp [u32s]
theorem oD (ws:List Int) (i:Nat) (v:Int):(u32s ws).set i (.int .u32 v)=u32s (ws.set i v):=by simp [u32s,List.map_set]
theorem fZ (ws:List Int) (i:Nat) (h:i<ws.length):(u32s ws)[i]?=some (.int .u32 (ws.getD i 0)):=by simp [u32s,h]
def a32 (a b:Int):Int:=IntKind.u32.wrap (a+b)
def wordV (s:ByteArray) (i:Nat):Int :=
 bitsV .or .u32 (bitsV .or .u32 (bitsV .or .u32 (shlV .u32 (IntKind.u32.wrap (byteAt (s.extract (4*(i:Int)).toNat (4*(i:Int)+4).toNat) 0)) 24) (shlV .u32 (IntKind.u32.wrap (byteAt (s.extract (4*(i:Int)).toNat (4*(i:Int)+4).toNat) 1)) 16))
  (shlV .u32 (IntKind.u32.wrap (byteAt (s.extract (4*(i:Int)).toNat (4*(i:Int)+4).toNat) 2)) 8)) (IntKind.u32.wrap (byteAt (s.extract (4*(i:Int)).toNat (4*(i:Int)+4).toNat) 3))
def w1 (s:ByteArray):Nat→List Int
 | 0=>List.replicate 64 0
 | i+1=>(w1 s i).set i (wordV s i)
theorem nr (s:ByteArray):∀ i,(w1 s i).length=64
 | 0=>rfl
 | i+1=>by rw [w1,List.length_set,nr s i]
def early (w:List Int) (i:Nat):Int:=bitsV .xor .u32 (bitsV .xor .u32 (turnV (w.getD (i-15) 0) 7) (turnV (w.getD (i-15) 0) 18)) (shrV .u32 (w.getD (i-15) 0) 3)
def late (w:List Int) (i:Nat):Int:=bitsV .xor .u32 (bitsV .xor .u32 (turnV (w.getD (i-2) 0) 17) (turnV (w.getD (i-2) 0) 19)) (shrV .u32 (w.getD (i-2) 0) 10)
def w2 (s:ByteArray):Nat→List Int
 | 0=>w1 s 16
 | k+1=>(w2 s k).set (16+k) (a32 (a32 (a32 ((w2 s k).getD k 0) (early (w2 s k) (16+k))) ((w2 s k).getD (16+k-7) 0)) (late (w2 s k) (16+k)))
theorem nq (s:ByteArray):∀ i,(w2 s i).length=64
 | 0=>nr s 16
 | i+1=>by rw [w2,List.length_set,nq s i]
def schedV (s:ByteArray):List Int:=w2 s 48
theorem oR (s:ByteArray) (hs:s.size=64):Pu Tryz.prog 118 #[.string s] (fun _=>True) (.agg (u32s (schedV s)).toArray):=by
 refine ar Tryz.func118 Tryz.ntmps118 fun av bor w0=>?_
 repeat' (first|refine gs ?_|refine gs1 fun _=>?_|fail)
 rename_i b1 b2
 refine am (ι:=Kth 16) (fun i=>⟨[(0,.string s),(2,.pointer (some ⟨b1,0,none⟩)),(3,.pointer (some ⟨b2,0,none⟩)),(11,.int .i64 i.k)],[cel b2 184 (u32s (w1 s i.k)),cel b1 184 (u32s (List.replicate 64 0))],fun _=>True⟩) (fun i=>16-i.k) ⟨0,Nat.zero_le _⟩ (ae al (aj _) fun _ h=>h) fun i=>?_
 have hik:=i.hk
 repeat' (first|refine gs ?_|refine gs1 fun _=>?_|(refine gp ?_ ?_<;>intro hx_ this)|fail)
 · have hlt:i.k<16:=by omega
   have hlen:=nr s i.k
   have hes:(s.extract (4*(i.k:Int)).toNat (4*(i.k:Int)+4).toNat).size=4:=by simp only [ByteArray.size_extract];omega
   repeat' (first|refine gs ?_|refine gs1 fun _=>?_|(refine gp ?_ ?_<;>intro hx_ this)|fail)
   refine vS (h0:=by omega) (h1:=by omega) (h2:=by omega) ?_
   repeat' (first|refine gs ?_|refine gs1 fun _=>?_|(refine gp ?_ ?_<;>intro hx_ this)|fail)
   (refine ao ⟨[0,1,2,3,4,5,6,7,8,9,10,11,12,13,14,15,16,17,18,19],[(20,⟨[],[]⟩)]⟩ [] (fun _=>True) (h:=?_))
   all_goals repeat' (first|refine gd ?_|refine ax (hy:=by first|(apply qp;rfl;rfl;decide;(rw [hes];decide))|(apply fa (q:=i.k);rfl;rfl;omega;omega;omega)) ?_|refine ay ?_ (h':=?_)|exact az|((refine ci (hl:=x5 (by simp only [fd,hlen];omega)) ?_))|refine gs1 fun _=>?_|(refine gq ?_ ?_<;>intro hx_ this)|fail)
   repeat' (first|refine gs ?_|refine gs1 fun _=>?_|(refine gp ?_ ?_<;>intro hx_ this)|fail)
   exact ⟨(⟨i.k+1,hlt⟩:Kth 16),(by show 16-(i.k+1)<16-i.k;omega),ae al (by
    show List.Sublist [cel b2 _ (u32s (w1 s (i.k+1))),_] _
    rw [w1,←oD]
    exact aj _) fun _ h=>h⟩
 have hk:i.k=16:=by omega
 refine am (ι:=Kth 48) (fun i=>⟨[(0,.string s),(2,.pointer (some ⟨b1,0,none⟩)),(3,.pointer (some ⟨b2,0,none⟩)),(6,.int .i64 (16+i.k))],[cel b2 184 (u32s (w2 s i.k)),cel b1 184 (u32s (List.replicate 64 0))],fun _=>True⟩) (fun i=>48-i.k) ⟨0,Nat.zero_le _⟩ (ae al (by
  show List.Sublist [cel b2 _ (u32s (w1 s 16)),_] _
  rw [hk]
  exact aj _) fun _ h=>h) fun i=>?_
 have hik:=i.hk
 have hlen:=nq s i.k
 repeat' (first|refine gs ?_|refine gs1 fun _=>?_|(refine gp ?_ ?_<;>intro hx_ this)|fail)
 · have hlt:i.k<48:=by omega
   (refine bE ⟨[0,1,2,3,4,5,6,7,8,9],[]⟩ (h:=?_))
   all_goals repeat' (first|refine gd ?_|refine ax (hy:=by first|(apply fa (q:=16+i.k-15);rfl;rfl;omega;omega;omega)|(apply fa (q:=16+i.k-2);rfl;rfl;omega;omega;omega)|(apply nd;rfl;(repeat (first|exact ap|apply List.mem_cons_of_mem));exact fZ _ _ aa)) ?_|refine ay ?_ (h':=?_)|exact az|refine gs1 fun _=>?_|(refine gq ?_ ?_<;>intro hx_ this)|fail)
   repeat' (first|refine ag (hc:=nt _ _) ?_|refine gs ?_|refine gs1 fun _=>?_|(refine gp ?_ ?_<;>intro hx_ this)|fail)
   (refine ao ⟨[0,1,2,3,5,7,8,9,12],[(4,⟨[6],[(10,⟨[11,13,14],[(15,⟨[],[]⟩)]⟩)]⟩),(10,⟨[],[(4,⟨[6,11,13,14],[(15,⟨[],[]⟩)]⟩)]⟩)]⟩ [] (fun _=>True) (h:=?_))
   all_goals repeat' (first|refine gd ?_|refine ax (hy:=by first|(apply fa (q:=i.k);rfl;rfl;omega;omega;omega)|(apply fa (q:=16+i.k-7);rfl;rfl;omega;omega;omega)|(apply fa (q:=16+i.k);rfl;rfl;omega;omega;omega)) ?_|refine ay ?_ (h':=?_)|exact az|(refine df (hv:=fZ _ _ aa) ?_)|((refine ci (hl:=x5 (by simp only [fd,hlen];omega)) ?_))|refine gs1 fun _=>?_|(refine gq ?_ ?_<;>intro hx_ this)|fail)
   all_goals (repeat' (first|refine gs ?_|refine gs1 fun _=>?_|(refine gp ?_ ?_<;>intro hx_ this)|fail))
   all_goals exact ⟨(⟨i.k+1,hlt⟩:Kth 48),(by show 48-(i.k+1)<48-i.k;omega),ae al (by
    show List.Sublist [cel b2 _ (u32s (w2 s (i.k+1))),_] _
    rw [w2,←oD]
    exact aj _) fun _ h=>h⟩
 have hk2:i.k=48:=by omega
 repeat' (first|refine gs ?_|refine gs1 fun _=>?_|(refine br (hn:=by simp only [fd,hlen]) ?_)|(refine bw (hm:=by simp only [fd,hlen]) (hn:=by rfl) (h1:=by simp [u32s,Value.oneCell']) ?_)|fail)
 apply ab;refine bx rfl rfl aL ?_
 · simp only [fd,hlen]
 rw [hk2]
 rfl
def iniC:List Int:=[1779033703,3144134277,1013904242,2773480762,1359893119,2600822924,528734635,1541459225]
def kC:List Int:=[1116352408,1899447441,3049323471,3921009573,961987163,1508970993,2453635748,2870763221,3624381080,310598401,607225278,1426881987,1925078388,2162078206,2614888103,3248222580,3835390401,4022224774,264347078,604807628,770255983,1249150122,1555081692,1996064986,2554220882,2821834349,2952996808,3210313671,3336571891,3584528711,113926993,338241895,666307205,773529912,1294757372,1396182291,1695183700,1986661051,2177026350,2456956037,2730485921,2820302411,3259730800,3345764771,3516065817,3600352804,4094571909,275423344,430227734,506948616,659060556,883997877,958139571,1322822218,1537002063,1747873779,1955562222,2024104815,2227730452,2361852424,2428436474,2756734187,3204031479,3329325298]
def CellsAt (g:Nat) (l:List Value) (w:World):Prop:=∀ j v,l[j]?=some v→w.cell? ⟨g,j,none⟩=some v
structure Xf (w:World):Prop where
 ini:CellsAt 0 (u32s iniC) w
 k:CellsAt 1 (u32s kC) w
structure St8 where
 a:Int
 b:Int
 c:Int
 d:Int
 e:Int
 f:Int
 g:Int
 h:Int
def St8.l (x:St8):List Int:=[x.a,x.b,x.c,x.d,x.e,x.f,x.g,x.h]
def x32 (a b:Int):Int:=bitsV .xor .u32 a b
def n32 (a b:Int):Int:=bitsV .and .u32 a b
def t1V (x:St8) (k w:Int):Int :=
 a32 (a32 (a32 (a32 x.h (x32 (x32 (turnV x.e 6) (turnV x.e 11)) (turnV x.e 25))) (x32 (n32 x.e x.f) (n32 (x32 (if IntKind.u32.signed then -1 else IntKind.u32.max) x.e) x.g))) k) w
def t2V (x:St8):Int:=a32 (x32 (x32 (turnV x.a 2) (turnV x.a 13)) (turnV x.a 22)) (x32 (x32 (n32 x.a x.b) (n32 x.a x.c)) (n32 x.b x.c))
def roundV (x:St8) (k w:Int):St8:=⟨a32 (t1V x k w) (t2V x),x.a,x.b,x.c,a32 x.d (t1V x k w),x.e,x.f,x.g⟩
def roundsV (x:St8) (ws:List Int):Nat→St8
 | 0=>x
 | i+1=>roundV (roundsV x ws i) (kC.getD i 0) (ws.getD i 0)
def mixV (x:St8) (s:ByteArray):St8 :=
 let y:=roundsV x (schedV s) 64
 ⟨a32 x.a y.a,a32 x.b y.b,a32 x.c y.c,a32 x.d y.d,a32 x.e y.e,a32 x.f y.f,a32 x.g y.g,a32 x.h y.h⟩
theorem AR (i:Nat) (h:i<64):(u32s kC)[i]?=some (.int .u32 (kC.getD i 0)):=fZ kC i h
theorem xr (x:St8) (s:ByteArray) (hs:s.size=64):Pu Tryz.prog 62 #[.agg (u32s x.l).toArray,.string s] Xf (.agg (u32s (mixV x s).l).toArray):=by
 refine ar Tryz.func62 Tryz.ntmps62 fun av bor w0=>?_
 obtain ⟨ws,hws,hlen⟩:∃ ws,schedV s=ws∧ws.length=64:=⟨_,rfl,nq s 48⟩
 have hsp:Pu Tryz.prog 118 #[.string s] (fun _=>True) (.agg (u32s ws).toArray):=hws▸oR s hs
 unfold mixV
 rw [hws]
 repeat' (first|refine ag (hc:=hsp) ?_|refine gs ?_|refine gs1 fun _=>?_|(refine bw (hm:=by simp only [fd,hlen]) (hn:=by rfl) (h1:=by simp [u32s,Value.oneCell']) ?_)|fail)
 (refine bE ⟨[0,1,2,3,4,5,6,7,8,9,10,11],[]⟩ (h:=?_))
 all_goals repeat' (first|refine gd ?_|refine ay ?_ (h':=?_)|exact az|refine gs1 fun _=>?_|(refine gq ?_ ?_<;>intro hx_ this)|fail)
 repeat' (first|refine gs ?_|refine gs1 fun _=>?_|fail)
 (refine bE ⟨[0,1,2,3,4,5,6,7,8,9,10,11],[]⟩ (h:=?_))
 all_goals repeat' (first|refine gd ?_|refine ay ?_ (h':=?_)|exact az|refine gs1 fun _=>?_|(refine gq ?_ ?_<;>intro hx_ this)|fail)
 repeat' (first|refine gs ?_|refine gs1 fun _=>?_|fail)
 rename_i b1 b2 b3
 refine am (ι:=Kth 64) (fun i=>⟨[(2,.pointer (some ⟨b1,0,none⟩)),(4,.pointer (some ⟨b2,0,none⟩)),(5,.pointer (some ⟨b3,0,none⟩)),(6,.int .u32 (roundsV x ws i.k).a),(7,.int .u32 (roundsV x ws i.k).b),(8,.int .u32 (roundsV x ws i.k).c),(9,.int .u32 (roundsV x ws i.k).d),(10,.int .u32 (roundsV x ws i.k).e),(11,.int .u32 (roundsV x ws i.k).f),(12,.int .u32 (roundsV x ws i.k).g),(13,.int .u32 (roundsV x ws i.k).h),(35,.int .i64 i.k)],
  [cel b3 184 (u32s ws),cel b2 117 (u32s (List.replicate 8 0)),cel b1 117 (u32s x.l)],Xf⟩) (fun i=>64-i.k) ⟨0,Nat.zero_le _⟩ (ae al (aj _) fun _ h=>h) fun i=>?_
 have hik:=i.hk
 repeat' (first|refine gs ?_|refine gs1 fun _=>?_|(refine gp ?_ ?_<;>intro hx_ this)|fail)
 · have hlt:i.k<64:=by omega
   generalize hy:roundsV x ws i.k=y at *
   (refine bE ⟨[0,1,3,6,10,11,12,13,14,15,16,17,19,20,21,23,24,25],[(2,⟨[],[(4,⟨[5],[(7,⟨[8,9,18,22,26,27],[]⟩)]⟩)]⟩)]⟩ (h:=?_))
   all_goals repeat' (first|refine ag (hc:=nt _ _) ?_|refine gd ?_|refine ax (hy:=by first|(apply fa (q:=i.k);rfl;rfl;omega;omega;omega)|(apply zP;rfl;exact fun w h=>h.k i.k _ (AR _ hlt))|(apply nd;rfl;(repeat (first|exact ap|apply List.mem_cons_of_mem));exact fZ _ _ aa)) ?_|refine ay ?_ (h':=?_)|exact az|refine gs1 fun _=>?_|(refine gq ?_ ?_<;>intro hx_ this)|fail)
   repeat' (first|refine ag (hc:=nt _ _) ?_|refine gs ?_|refine gs1 fun _=>?_|(refine gp ?_ ?_<;>intro hx_ this)|fail)
   exact ⟨(⟨i.k+1,hlt⟩:Kth 64),(by show 64-(i.k+1)<64-i.k;omega),ae (by
    have e:roundsV x ws (i.k+1)=roundV y (kC.getD i.k 0) (ws.getD i.k 0):=by rw [roundsV,hy]
    simp only [e]
    exact ⟨rfl,rfl,rfl,rfl,rfl,rfl,rfl,rfl,rfl,rfl,rfl,rfl,trivial⟩) (aj _) fun _ h=>h⟩
 have hk:i.k=64:=by omega
 repeat' (first|refine gs ?_|refine gs1 fun _=>?_|(refine tI ?_)|(refine gp ?_ ?_<;>intro hx_ this)|fail)
 apply ab;refine bx rfl rfl aL ?_
 · rfl
 rw [hk]
 rfl
end Go.Proofs.YtggionfjlgfihaaGreatDoor
