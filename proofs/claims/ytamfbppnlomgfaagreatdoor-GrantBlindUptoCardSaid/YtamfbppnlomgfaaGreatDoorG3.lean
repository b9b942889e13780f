/- Joined. -/
import Derived.Test.YtamfbppnlomgfaaGreatDoorG2
import Derived.Laws.Cover3
import Derived.Lib.LazyBuf
import Derived.Shelf.Slices.CompactS
import Derived.Lib.RowBridge
import Derived.Sort.Walk0
import Derived.Shelf.SlIter.Nil
import Derived.Shelf.SlIterI.Nil
import Derived.Shelf.SortM.Plain
import Derived.Shelf.SortM.SortNone
import Derived.Test.YtamfbppnlomgfaaGreatDoorProg
set_option linter.unusedVariables false
set_option linter.unusedSimpArgs false
set_option maxHeartbeats 16000000
namespace Go.Proofs.YtamfbppnlomgfaaGreatDoor
open Go Go.Proofs Sy Tryz
def padN (n:Nat):Nat:=(120-n%64)%64
def sizeB (n:Int) (k:Nat):List Int:=(List.range k).map fun (j:Nat)=>IntKind.u8.wrap (shrV .u64 (IntKind.u64.wrap (IntKind.u64.wrap n*8)) (56-8*(j:Int)))
def endL (s:ByteArray):List Int:=bytesI s++[128]
def endV (s:ByteArray) (n:Int):ByteArray:=ofInts (endL s++List.replicate (padN (s.size+1)) 0++sizeB n 8)
theorem l6 (s:ByteArray):(endL s).length=s.size+1:=by simp [endL,nc]
theorem oT (n:Int) (k:Nat):(sizeB n k).length=k:=by simp [sizeB]
theorem j1 (s:ByteArray) (n:Int):(endV s n).size%64=0:=by
 rw [endV,eM]
 simp only [Zw,l6,List.length_replicate,oT,padN]
 omega
structure EndS (m:Nat) where
 k:Nat
 hk:k≤m
 A:Option Addr
 c:Nat
theorem pH (s:ByteArray) (n:Int) (hs:s.size≤1099511627776):Pu prog 68 #[.string s,.int .i64 n] (fun _=>True) (.string (endV s n)):=by
 refine ax func68 ntmps68 fun av bor w0=>?_
 repeat' (first|refine gs ?_|refine gs1 fun _=>?_|(refine qq fun A c=>?_)|fail)
 rename_i b0
 refine aD (size:=1) (z:=.int .u8 0) (news:=u8s [128]) (q:=1) rfl rfl rfl rfl (fun _=>At.there _ (At.here _)) (fun w G=>aR G aC rfl rfl 1) ?_ ?_ rfl ?_ rfl ?_
 · omega
 · simp only [maxLen];omega
 · rfl
 intro A1 c1
 repeat' (first|refine gs ?_|refine gs1 fun _=>?_|fail)
 have hel:=l6 s
 refine az (ι:=EndS (padN (s.size+1))) (fun i=>⟨[(1,.int .i64 n),(5,.slice i.A (s.size+1+i.k) i.c)],[orow 5 1 (.slice i.A (s.size+1+i.k) i.c) (s.size+1+i.k) (u8s (endL s++List.replicate i.k 0))],fun _=>True⟩) (fun i=>padN (s.size+1)-i.k) ⟨0,ZU _,A1,c1⟩ (ak aw ?_ fun _ h=>h) fun i=>?_
 · refine ZS _ ?_
   rw [←bp]
   simp only [List.replicate_zero,ZD]
   exact aj _
 have hik:=i.hk
 have hp:padN (s.size+1)<64:=Z1 _ ab
 have hp2:padN (s.size+1)=(120-(s.size+1)%64)%64:=rfl
 have htm:Int.tmod ((s.size+1+i.k:Nat):Int) 64=(((s.size+1+i.k)%64:Nat):Int):=Int.ofNat_tmod _ _
 repeat' (first|refine gs ?_|refine gs1 fun _=>?_|(refine gp ?_ ?_<;>intro hx_ this)|fail)
 refine eI (hc:=htm) ?_
 repeat' (first|refine gs ?_|refine gs1 fun _=>?_|(refine gp ?_ ?_<;>intro hx_ this)|fail)
 · have hlt:i.k<padN (s.size+1):=by
    have h1:¬ (((s.size+1+i.k)%64:Nat):Int)=56:=by simpa using hx_
    omega
   refine aD (size:=1) (z:=.int .u8 0) (news:=u8s [0]) (q:=1) rfl rfl rfl rfl (fun _=>At.there _ (At.here _)) (fun w G=>aR G aC rfl rfl 1) ?_ ?_ rfl ?_ rfl ?_
   · omega
   · simp only [maxLen];omega
   · rfl
   intro A2 c2
   repeat' (first|refine gs ?_|refine gs1 fun _=>?_|(refine gp ?_ ?_<;>intro hx_ this)|fail)
   refine ⟨(⟨i.k+1,hlt,A2,c2⟩:EndS (padN (s.size+1))),(by show padN (s.size+1)-(i.k+1)<padN (s.size+1)-i.k;omega),ak aw ?_ fun _ h=>h⟩
   refine ZS _ ?_
   rw [←bp]
   simp only [List.replicate_succ',Zy]
   exact aj _
 have hk:i.k=padN (s.size+1):=by
  have h1:(((s.size+1+i.k)%64:Nat):Int)=56:=by simpa using hx_
  omega
 have hl1:(endL s++List.replicate (padN (s.size+1)) 0:List Int).length=s.size+1+padN (s.size+1):=by simp [hel]
 rw [hk]
 generalize hL:(endL s++List.replicate (padN (s.size+1)) 0:List Int)=L at *
 refine az (ι:=EndS 8) (fun j=>⟨[(5,.slice j.A (s.size+1+padN (s.size+1)+j.k) j.c),(6,.int .u64 (IntKind.u64.wrap (IntKind.u64.wrap n*8))),(7,.int .i64 (56-8*(j.k:Int)))],[orow 5 1 (.slice j.A (s.size+1+padN (s.size+1)+j.k) j.c) (s.size+1+padN (s.size+1)+j.k) (u8s (L++sizeB n j.k))],fun _=>True⟩) (fun j=>8-j.k) ⟨0,ZU _,i.A,i.c⟩ (ak aw ?_ fun _ h=>h) fun j=>?_
 · have e:sizeB n 0=[]:=rfl
   simp only [e,ZD]
   exact aj _
 have hjk:=j.hk
 repeat' (first|refine gs ?_|refine gs1 fun _=>?_|(refine gp ?_ ?_<;>intro hx_ this)|fail)
 · have hlt:j.k<8:=by omega
   refine aD (size:=1) (z:=.int .u8 0) (news:=u8s [IntKind.u8.wrap (shrV .u64 (IntKind.u64.wrap (IntKind.u64.wrap n*8)) (56-8*(j.k:Int)))]) (q:=1) rfl rfl rfl rfl (fun _=>At.there _ (At.here _)) (fun w G=>aR G aC rfl rfl 1) ?_ ?_ rfl ?_ rfl ?_
   · omega
   · simp only [maxLen];omega
   · rfl
   intro A2 c2
   repeat' (first|refine gs ?_|refine gs1 fun _=>?_|(refine gp ?_ ?_<;>intro hx_ this)|fail)
   refine ⟨(⟨j.k+1,hlt,A2,c2⟩:EndS 8),(by show 8-(j.k+1)<8-j.k;omega),ak ⟨rfl,rfl,?_,trivial⟩ ?_ fun _ h=>h⟩
   · show some (Value.int .i64 (56-8*(j.k:Int)-8))=some (Value.int .i64 (56-8*((j.k+1:Nat):Int)))
     congr 2
     omega
   refine ZS _ ?_
   rw [←bp]
   have e:sizeB n (j.k+1)=sizeB n j.k++[IntKind.u8.wrap (shrV .u64 (IntKind.u64.wrap (IntKind.u64.wrap n*8)) (56-8*(j.k:Int)))]:=by simp [sizeB,List.range_succ]
   simp only [e,Zy]
   exact aj _
 have hj8:j.k=8:=by omega
 refine fE (hm:=aC) ?_
 repeat' (first|refine gs ?_|refine gs1 fun _=>?_|(refine gp ?_ ?_<;>intro hx_ this)|fail)
 apply aa;apply ai;rfl;rfl
 rw [hj8,←hL,endV]
def iniS:St8:=⟨1779033703,3144134277,1013904242,2773480762,1359893119,2600822924,528734635,1541459225⟩
def loopV:Nat→St8→ByteArray→St8×ByteArray
 | 0,x,r=>(x,r)
 | f+1,x,r=>bif decide (64≤(r.size:Int)) then loopV f (mixV x (r.extract 0 64)) (r.extract 64 r.size) else (x,r)
def loopE:Nat→St8→ByteArray→St8
 | 0,x,_=>x
 | f+1,x,r=>bif seqB r ⟨#[]⟩ then x else loopE f (mixV x (r.extract 0 64)) (r.extract 64 r.size)
theorem bt (r:ByteArray):seqB r ⟨#[]⟩=decide (r.size=0):=by
 have h1:(⟨#[]⟩:ByteArray).toList=[]:=by simp [ByteArray.toList_eq]
 by_cases h:r.size=0
 · have:r=⟨#[]⟩:=by
    have h2:r.data=#[]:=Array.eq_empty_of_size_eq_zero h
    obtain ⟨d⟩:=r
    exact congrArg ByteArray.mk h2
   subst this
   simp only [seqB,h1]
   rfl
 · simp only [h,Zo]
   cases hs:seqB r ⟨#[]⟩ with
   | false=>rfl
   | true =>
    exfalso
    have h3:r.toList=[]:=by
     have:=hs
     simp only [seqB,h1] at this
     simpa using this
    have h4:r.toList.length=r.size:=by simp [ByteArray.toList_eq]
    rw [h3] at h4
    simp at h4
    omega
structure ShaA (s:ByteArray) where
 f:Nat
 x:St8
 r:ByteArray
 h:r.size≤f
 hs:r.size≤s.size
 e:loopV f x r=loopV s.size iniS s
def ShaA.next {s:ByteArray} (i:ShaA s) (h:64≤i.r.size):ShaA s :=
 ⟨i.f-1,mixV i.x (i.r.extract 0 64),i.r.extract 64 i.r.size,by have:=i.h;simp only [ByteArray.size_extract];omega,by have:=i.hs;simp only [ByteArray.size_extract];omega,by
  rw [←i.e]
  cases hf:i.f with
  | zero=>have:=i.h;omega
  | succ f =>
   have:decide (64≤(i.r.size:Int))=true:=Ze ab
   simp only [loopV,this,Zg,Nat.add_sub_cancel]⟩
theorem ShaA.last {s:ByteArray} (i:ShaA s) (h:¬ 64≤i.r.size):loopV s.size iniS s=(i.x,i.r):=by
 rw [←i.e]
 cases hf:i.f with
 | zero=>rfl
 | succ f =>
  have:decide (64≤(i.r.size:Int))=false:=Zd ab
  simp only [loopV,this,Zf]
structure ShaE (x0:St8) (s:ByteArray) where
 f:Nat
 x:St8
 r:ByteArray
 h:r.size≤f
 hm:r.size%64=0
 e:loopE f x r=loopE s.size x0 s
def ShaE.next {x0:St8} {s:ByteArray} (i:ShaE x0 s) (h:0<i.r.size):ShaE x0 s :=
 ⟨i.f-1,mixV i.x (i.r.extract 0 64),i.r.extract 64 i.r.size,by have:=i.h;simp only [ByteArray.size_extract];omega,by have:=i.hm;simp only [ByteArray.size_extract];omega,by
  rw [←i.e]
  cases hf:i.f with
  | zero=>have:=i.h;omega
  | succ f =>
   have:seqB i.r ⟨#[]⟩=false:=by rw [bt];exact Zd ab
   simp only [loopE,this,Zf,Nat.add_sub_cancel]⟩
theorem ShaE.last {x0:St8} {s:ByteArray} (i:ShaE x0 s) (h:i.r.size=0):loopE s.size x0 s=i.x:=by
 rw [←i.e]
 cases hf:i.f with
 | zero=>rfl
 | succ f =>
  have:seqB i.r ⟨#[]⟩=true:=by rw [bt];exact Ze h
  simp only [loopE,this,Zg]
def digB (w:Int):List Int:=[IntKind.u8.wrap (shrV .u32 w 24),IntKind.u8.wrap (shrV .u32 w 16),IntKind.u8.wrap (shrV .u32 w 8),IntKind.u8.wrap w]
def shaV (s:ByteArray):ByteArray :=
 let p:=loopV s.size iniS s
 let r:=endV p.2 s.size
 ofInts ((loopE r.size p.1 r).l.flatMap digB)
theorem l3 (l:List Int):(l.flatMap digB).length=4*l.length:=by
 induction l with
 | nil=>rfl
 | cons a l ih=>rw [List.flatMap_cons,Zw,ih];simp [digB];omega
theorem St8.len (x:St8):x.l.length=8:=rfl
theorem dS (s:ByteArray):(shaV s).size=32:=by
 simp only [shaV]
 rw [eM,l3,St8.len]
theorem gy (s:ByteArray) (hs:s.size≤1099511627776):Pu prog 30 #[.string s] Xc (.string (shaV s)):=by
 refine ax func30 ntmps30 fun av bor w0=>?_
 repeat' (first|refine gs ?_|refine gs1 fun _=>?_|(refine kp (cs:=u32s iniC) (hF:=fun w h=>h.ini) (hl:=by rfl) ?_)|fail)
 rename_i b
 refine az (ι:=ShaA s) (fun i=>⟨[(0,.string s),(3,.pointer (some ⟨b,0,none⟩)),(4,.string i.r)],[cel b 127 (u32s i.x.l)],Xc⟩) (fun i=>i.f) ⟨s.size,iniS,s,ZN _,ZN _,rfl⟩ (ak aw (aj _) fun _ h=>h) fun i=>?_
 repeat' (first|refine gs ?_|refine gs1 fun _=>?_|(refine gp ?_ ?_<;>intro hx_ this)|fail)
 · have h64:64≤i.r.size:=by omega
   have hx64:(i.r.extract 0 (Int.toNat 64)).size=64:=by simp only [ByteArray.size_extract];have:Int.toNat 64=64:=rfl;omega
   (refine aw_draw ⟨[1,2],[(0,⟨[],[(3,⟨[],[(4,⟨[],[]⟩)]⟩)]⟩)]⟩ [] (fun _=>True) (h:=?_))
   all_goals repeat' (first|refine ae (hc:=qZ i.x _ hx64) ?_|refine gd ?_|refine aH (hy:=by first|(apply mr;rfl;rfl;decide;omega)) ?_|refine aE ?_ (h':=?_)|exact aF|(refine be ?_)|refine gs1 fun _=>?_|(refine gq ?_ ?_<;>intro hx_ this)|fail)
   all_goals (repeat' (first|refine gs ?_|refine gs1 fun _=>?_|(refine gp ?_ ?_<;>intro hx_ this)|fail))
   refine nz (h0:=by decide) (h1:=by omega) ?_
   repeat' (first|refine gs ?_|refine gs1 fun _=>?_|(refine gp ?_ ?_<;>intro hx_ this)|fail)
   exact ⟨i.next h64,(by show i.f-1<i.f;have:=i.h;omega),ak aw (aj _) fun _ h=>h⟩
 have hlast:=i.last ab
 have hrs:=i.hs
 repeat' (first|refine ae (hc:=pH i.r _ ab) ?_|refine gs ?_|refine gs1 fun _=>?_|(refine gp ?_ ?_<;>intro hx_ this)|fail)
 have hmod:=j1 i.r (s.size:Int)
 generalize hr0:endV i.r (s.size:Int)=r0 at *
 refine az (ι:=ShaE i.x r0) (fun j=>⟨[(3,.pointer (some ⟨b,0,none⟩)),(4,.string j.r)],[cel b 127 (u32s j.x.l)],Xc⟩) (fun j=>j.f) ⟨r0.size,i.x,r0,ZN _,hmod,rfl⟩ (ak aw (aj _) fun _ h=>h) fun j=>?_
 have hjm:=j.hm
 repeat' (first|refine gs ?_|refine gs1 fun _=>?_|(refine gp ?_ ?_<;>intro hx_ this)|fail)
 · have hne:0<j.r.size:=by
    have:seqB j.r ⟨#[]⟩=false:=by simpa using hx_
    rw [bt] at this
    have:=cq this
    omega
   have h64:64≤j.r.size:=by omega
   have hx64:(j.r.extract 0 (Int.toNat 64)).size=64:=by simp only [ByteArray.size_extract];have:Int.toNat 64=64:=rfl;omega
   (refine aw_draw ⟨[1,2],[(0,⟨[],[(3,⟨[],[(4,⟨[],[]⟩)]⟩)]⟩)]⟩ [] (fun _=>True) (h:=?_))
   all_goals repeat' (first|refine ae (hc:=qZ j.x _ hx64) ?_|refine gd ?_|refine aH (hy:=by first|(apply mr;rfl;rfl;decide;omega)) ?_|refine aE ?_ (h':=?_)|exact aF|(refine be ?_)|refine gs1 fun _=>?_|(refine gq ?_ ?_<;>intro hx_ this)|fail)
   all_goals (repeat' (first|refine gs ?_|refine gs1 fun _=>?_|(refine gp ?_ ?_<;>intro hx_ this)|fail))
   refine nz (h0:=by decide) (h1:=by omega) ?_
   repeat' (first|refine gs ?_|refine gs1 fun _=>?_|(refine gp ?_ ?_<;>intro hx_ this)|fail)
   exact ⟨j.next hne,(by show j.f-1<j.f;have:=j.h;omega),ak aw (aj _) fun _ h=>h⟩
 have hz:j.r.size=0:=by
  have:seqB j.r ⟨#[]⟩=true:=by simpa using hx_
  rw [bt] at this
  exact bC this
 have hend:=j.last hz
 have hl8:=St8.len j.x
 repeat' (first|refine gs ?_|refine gs1 fun _=>?_|(refine fO (c:=32) (hy:=by rfl) (hm:=by rfl) (hm2:=by rfl) fun q=>?_)|fail)
 generalize hL:j.x.l=L at *
 have hfl:=fun k=>l3 (L.take k)
 refine az (ι:=EndS 8) (fun m=>⟨[(5,.slice m.A (4*m.k) m.c),(32,.agg (u32s L).toArray),(33,.int .i64 m.k)],[orow 5 1 (.slice m.A (4*m.k) m.c) (4*m.k) (u8s ((L.take m.k).flatMap digB))],Xc⟩) (fun m=>8-m.k) ⟨0,ZU _,_,_⟩ (ak aw (ZT _ (ZS _ (aj _))) fun _ h=>h) fun m=>?_
 have hmk:=m.hk
 repeat' (first|refine gs ?_|refine gs1 fun _=>?_|(refine gp ?_ ?_<;>intro hx_ this)|fail)
 · have hlt:m.k<8:=by omega
   have hg:(u32s L).toArray[((m.k:Nat):Int).toNat]?=some (.int .u32 (L.getD m.k 0)):=by
    rw [ZP]
    simpa using eH L m.k ab
   repeat' (first|refine gs ?_|refine gs1 fun _=>?_|(refine sf (hv:=hg) ?_)|fail)
   refine aD (size:=1) (z:=.int .u8 0) (news:=u8s (digB (L.getD m.k 0))) (q:=4) rfl rfl rfl rfl (fun _=>At.there _ (At.here _)) (fun w G=>aR G aC rfl rfl 4) ?_ ?_ rfl ?_ rfl ?_
   · omega
   · simp only [maxLen];omega
   · rfl
   intro A2 c2
   repeat' (first|refine gs ?_|refine gs1 fun _=>?_|(refine gp ?_ ?_<;>intro hx_ this)|fail)
   refine ⟨(⟨m.k+1,hlt,A2,c2⟩:EndS 8),(by show 8-(m.k+1)<8-m.k;omega),ak ⟨?_,rfl,rfl,trivial⟩ ?_ fun _ h=>h⟩
   · rfl
   refine ZS _ ?_
   rw [←bp]
   have e:(L.take (m.k+1)).flatMap digB=(L.take m.k).flatMap digB++digB (L.getD m.k 0):=by
    have hlt2:m.k<L.length:=by omega
    rw [Z5,Qy,Zc hlt2,Zl,Zc hlt2]
    simp only [Qh,List.flatMap_cons,List.flatMap_nil,ZD,Z3]
   simp only [e]
   exact aj _
 have hm8:m.k=8:=by omega
 repeat' (first|refine gs ?_|refine gs1 fun _=>?_|(refine gp ?_ ?_<;>intro hx_ this)|fail)
 refine fE (hm:=aC) ?_
 repeat' (first|refine gs ?_|refine gs1 fun _=>?_|(refine gp ?_ ?_<;>intro hx_ this)|fail)
 apply aa;apply ai;rfl;rfl
 rw [hm8,Z4 (by omega)]
 simp only [shaV,hlast,hr0,hend,hL]
structure Xa.Rng (a:Xa):Prop where
 ints:a.seq<9223372036854775808∧a.kind<9223372036854775808∧a.time<9223372036854775808∧a.scope<9223372036854775808∧a.epoch<9223372036854775808∧a.n<9223372036854775808∧a.m<9223372036854775808∧a.e<9223372036854775808∧a.s<9223372036854775808
 wints:∀ w∈a.wrapsL,w.to<9223372036854775808∧w.eph<9223372036854775808
 to_len:a.to.n=a.toL.length
 wraps_len:a.wraps.n=a.wrapsL.length
def useU (z0 z1 z2 z3 z4 z5 z6 z7 z8 z9 z10:Bool):Int :=
 noteV (noteV (noteV (noteV (noteV (noteV (noteV (noteV (noteV (noteV (noteV 0 1 z0) 2 z1) 4 z2) 8 z3) 16 z4) 32 z5) 64 z6) 128 z7) 256 z8) 512 z9) 1024 z10
def useOk (fs:Nat) (z0 z1 z2 z3 z4 z5 z6 z7 z8 z9 z10:Bool):Bool :=
 !decide (bitsV .andNot .i64 (useU z0 z1 z2 z3 z4 z5 z6 z7 z8 z9 z10) fs=0)||((fs.testBit 0||z0)&&(fs.testBit 1||z1)&&(fs.testBit 3||z3)&&(fs.testBit 4||z4)&&(fs.testBit 5||z5)&&(fs.testBit 6||z6)&&(fs.testBit 8||z8))
def bools (p:Bool→Bool):Bool:=p true&&p false
theorem bJ {p:Bool→Bool} (h:bools p=true) (b:Bool):p b=true:=by
 simp only [bools,Zm] at h
 cases b
 · exact h.2
 · exact h.1
def useAll (fs:Nat):Bool:=bools fun z0=>bools fun z1=>bools fun z2=>bools fun z3=>bools fun z4=>bools fun z5=>bools fun z6=>bools fun z7=>bools fun z8=>bools fun z9=>bools fun z10=>useOk fs z0 z1 z2 z3 z4 z5 z6 z7 z8 z9 z10
theorem mz:([1568,252,253,1,2,33,24,412,35,1536,1808,513,546].all useAll)=true:=by decide +kernel
theorem qk {fs:Nat} (hfs:useAll fs=true) {z0 z1 z2 z3 z4 z5 z6 z7 z8 z9 z10:Bool} (h:bitsV .andNot .i64 (useU z0 z1 z2 z3 z4 z5 z6 z7 z8 z9 z10) fs=0) :
  (fs.testBit 0||z0)=true∧(fs.testBit 1||z1)=true∧(fs.testBit 3||z3)=true∧(fs.testBit 4||z4)=true∧(fs.testBit 5||z5)=true∧(fs.testBit 6||z6)=true∧(fs.testBit 8||z8)=true:=by
 have h1:=bJ (bJ (bJ (bJ (bJ (bJ (bJ (bJ (bJ (bJ (bJ hfs z0) z1) z2) z3) z4) z5) z6) z7) z8) z9) z10
 simp only [useOk,h,Zp,Zk,Bool.false_or,Zm] at h1
 obtain ⟨⟨⟨⟨⟨⟨h2,h3⟩,h4⟩,h5⟩,h6⟩,h7⟩,h8⟩:=h1
 exact ⟨h2,h3,h4,h5,h6,h7,h8⟩
theorem gH {s:ByteArray} (h:isId s=true):s.size=16:=by
 simp only [isId,Zm,Zs] at h
 omega
theorem g7 {s:ByteArray} (h:isName s=true):s.size≤24:=by
 simp only [isName,Zm,Bool.not_eq_true',Z2] at h
 omega
theorem ju {s:ByteArray} (h:isDigestB s=true):s.size=32:=by
 simp only [isDigestB,Zs] at h
 omega
theorem dl {s:ByteArray} (h:isShortB s=true):s.size≤500:=by
 simp only [isShortB,Zs] at h
 omega
theorem cE {s:ByteArray} (h:seqB s ⟨#[]⟩=true):s.size=0:=by
 rw [bt] at h
 exact bC h
structure Short (b:Xo):Prop where
 nonce:b.nonce.size≤500
 data:b.data.size≤500
 tag:b.tag.size≤500
theorem Short.fit {b:Xo} (h:Short b):b.Fit:=⟨by have:=h.nonce;omega,by have:=h.data;omega,by have:=h.tag;omega⟩
theorem Short.size {b:Xo} (h:Short b):(boxV b).size≤1530:=by
 have h1:=aq b.nonce
 have h2:=aq b.data
 have h3:=aq b.tag
 have:=h.nonce
 have:=h.data
 have:=h.tag
 simp only [boxV,Zb]
 omega
theorem eR {b:Xo} (h:isSealedB b=true):Short b:=by
 simp only [isSealedB,Zm,Zs] at h
 have:=dl h.2
 exact ⟨by omega,this,by omega⟩
theorem cu {b:Xo} (h:boxEq b Xo.zero=true):Short b:=by
 simp only [boxEq,Zm,Xo.zero] at h
 obtain ⟨⟨h1,h2⟩,h3⟩:=h
 have:=cE h1
 have:=cE h2
 have:=cE h3
 exact ⟨by omega,by omega,by omega⟩
structure ToOk (l:List ByteArray):Prop where
 len:l.length≤64
 each:∀ x∈l,x.size≤16
theorem oA {n:Nat} {bad:Nat→Bool} (h:allB n bad=true) {k:Nat} (hk:k<n):bad k=false:=by
 simp only [allB,List.all_eq_true,List.mem_range] at h
 simpa using h k hk
theorem gb {l:List ByteArray} (h:isIds l=true):ToOk l:=by
 simp only [isIds,Zm,Bool.not_eq_true',Z2] at h
 refine ⟨by omega,fun x hx=>?_⟩
 obtain ⟨k,hk,rfl⟩:=Qj hx
 have h1:=oA h.2 hk
 simp only [badIds,Z9,Bool.not_eq_false'] at h1
 have h2:l.getD k .empty=l[k]:=by simp [hk]
 rw [h2] at h1
 have:=gH h1.1
 omega
theorem kU {B:Nat}:∀ (l:List ByteArray),(∀ x∈l,x.size≤B)→(cats l).size≤l.length*B
 | [],_=>by simp [cats]
 | x::l,h=>by
  have h1:=kU l fun y hy=>h y (Zr _ hy)
  have h2:=h x aC
  simp only [cats,Zb,Zx,Qp,Nat.one_mul]
  omega
theorem ToOk.size {l:List ByteArray} (h:ToOk l):(listV l).size≤1073741824:=by
 have h1:=ar l.length
 have h2:=kU (B:=26) (l.map textV) (fun x hx=>by
  obtain ⟨y,hy,rfl⟩:=Qt.1 hx
  have:=h.each y hy
  have:=aq y
  omega)
 have h3:=h.len
 simp only [ZA] at h2
 simp only [listV,Zb]
 omega
theorem ToOk.nil {l:List ByteArray} (h:l.length=0):ToOk l:=by
 have:l=[]:=ZY h
 subst this
 exact ⟨by simp,by simp⟩
structure Eb (l:List Xk):Prop where
 len:l.length≤64
 each:∀ x∈l,Short x.box
theorem Eb.size {l:List Xk} (h:Eb l):(cats (l.map wrapV)).size≤1073741824:=by
 have h2:=kU (B:=1550) (l.map wrapV) (fun x hx=>by
  obtain ⟨y,hy,rfl⟩:=Qt.1 hx
  have:=(h.each y hy).size
  have:=ar y.to
  have:=ar y.eph
  simp only [wrapV,Zb]
  omega)
 have h3:=h.len
 simp only [ZA] at h2
 omega
theorem Eb.nil {l:List Xk} (h:l.length=0):Eb l:=by
 have:l=[]:=ZY h
 subst this
 exact ⟨by simp,by simp⟩
theorem iC {a:Xa} (hr:a.Rng) (ht:ToOk a.toL) (h:wrappedB a=true):Eb a.wrapsL:=by
 simp only [wrappedB,Zm,Zs] at h
 have h1:=hr.to_len
 have h2:=hr.wraps_len
 have h3:=ht.len
 refine ⟨by omega,fun x hx=>?_⟩
 obtain ⟨k,hk,rfl⟩:=Qj hx
 have h4:=oA h.1 hk
 rw [kW (Zc hk)] at h4
 simp only [Z9,Bool.not_eq_false'] at h4
 exact eR h4.2.2
structure Bnd (a:Xa):Prop where
 object:a.object.size≤500
 target:a.target.size≤500
 group:a.group.size≤500
 text:a.text.size≤500
 body:Short a.body
 to:ToOk a.toL
 wraps:Eb a.wrapsL
theorem lI {κ β:Type} [Xj κ] {k:κ} {x:β}:∀ {l:List (κ×β)},mget l k=some x→∃ k',(k',x)∈l
 | [],h=>by cases h
 | (k',v)::r,h=>by
  simp only [mget] at h
  cases hb:Xj.eqb k k' with
  | true=>rw [hb] at h;simp at h;subst h;exact ⟨k',aC⟩
  | false=>rw [hb] at h;obtain ⟨k2,h2⟩:=lI (l:=r) (by simpa using h);exact ⟨k2,Zr _ h2⟩
theorem iJ {sc:Int} {g:ByteArray} (h:sealedScopeB sc g=true):g.size≤500:=by
 unfold sealedScopeB at h
 cases h1:decide (sc=2)<;>cases h2:decide (sc=1)<;>cases h3:decide (sc=3)<;>simp only [h1,h2,h3,Zg,Zf] at h
 all_goals first
  | (have:=g7 h;omega)
  | (have:=cE h;omega)
  | cases h
theorem ic {a:Xa} (h:audienceB a=true):a.group.size≤500∧a.text.size≤500∧Short a.body∧ToOk a.toL:=by
 unfold audienceB at h
 cases h0:isIds a.toL with
 | false=>simp [h0] at h
 | true =>
  have ht:=gb h0
  cases h1:decide (a.scope=0) with
  | true =>
   simp only [h0,h1,Zk,Zg,Zf,Zm] at h
   obtain ⟨⟨⟨h2,h3⟩,h4⟩,h5⟩:=h
   have:=cE h2
   have:=dl h4
   exact ⟨by omega,by omega,cu h5,ht⟩
  | false =>
   cases h6:(decide (0<(a.to.n:Int))&&!decide (a.scope=3)) with
   | true=>simp only [h0,h1,h6,Zk,Zg,Zf] at h;cases h
   | false =>
    simp only [h0,h1,h6,Zk,Zg,Zf,Zm] at h
    obtain ⟨⟨⟨h2,h3⟩,h4⟩,h5⟩:=h
    have:=cE h4
    exact ⟨iJ h2,by omega,eR h5,ht⟩
theorem bu {s:ByteArray} (h:seqB s ⟨#[]⟩=true):s.size≤500:=by have:=cE h;omega
theorem uy {a:Xa} (hr:a.Rng) (h:decide ((a.to.n:Int)=0)=true):ToOk a.toL:=ToOk.nil (by have:=bC h;have:=hr.to_len;omega)
theorem ii {a:Xa} (hr:a.Rng) (h:decide ((a.wraps.n:Int)=0)=true):Eb a.wrapsL:=Eb.nil (by have:=bC h;have:=hr.wraps_len;omega)
theorem mc {s:ByteArray} (h:isDigestB s=true):s.size≤500:=by have:=ju h;omega
theorem ri {s:ByteArray} (h:isId s=true):s.size≤500:=by have:=gH h;omega
theorem qW {s:ByteArray} (h:isName s=true):s.size≤500:=by have:=g7 h;omega
theorem qi (a:Xa):usedV a=useU (seqB a.object ⟨#[]⟩) (seqB a.target ⟨#[]⟩) (decide (a.scope=0)) (seqB a.group ⟨#[]⟩) (decide ((a.to.n:Int)=0)) (seqB a.text ⟨#[]⟩) (boxEq a.body Xo.zero) (decide (a.epoch=0)) (decide ((a.wraps.n:Int)=0)) (decide (a.n=0)) (decide (a.m=0)):=rfl
theorem mn {a:Xa} (hr:a.Rng) (h:ruleB a=true):Bnd a:=by
 unfold ruleB at h
 cases hk:mget (ruleL a) a.kind with
 | none=>rw [hk] at h;cases h
 | some x =>
  obtain ⟨fs,b⟩:=x
  rw [hk] at h
  simp only [Zm,Zs] at h
  obtain ⟨hu,hb⟩:=h
  rw [qi] at hu
  obtain ⟨k',hm⟩:=lI hk
  obtain ⟨n,hn,hmem⟩:∃ n:Nat,fs=n∧n∈[1568,252,253,1,2,33,24,412,35,1536,1808,513,546]:=by
   simp only [ruleL,ZC,Prod.mk.injEq,Z8,or_false] at hm
   clear hu hb hk
   rcases hm with ⟨-,h9,-⟩|⟨-,h9,-⟩|⟨-,h9,-⟩|⟨-,h9,-⟩|⟨-,h9,-⟩|⟨-,h9,-⟩|⟨-,h9,-⟩|⟨-,h9,-⟩|⟨-,h9,-⟩|⟨-,h9,-⟩|⟨-,h9,-⟩|⟨-,h9,-⟩|⟨-,h9,-⟩|⟨-,h9,-⟩|⟨-,h9,-⟩|⟨-,h9,-⟩|⟨-,h9,-⟩|⟨-,h9,-⟩|⟨-,h9,-⟩|⟨-,h9,-⟩|⟨-,h9,-⟩|⟨-,h9,-⟩|⟨-,h9,-⟩|⟨-,h9,-⟩<;>exact ⟨fs.toNat,by omega,by rw [h9];decide⟩
  rw [hn] at hu
  obtain ⟨u0,u1,u3,u4,u5,u6,u8⟩:=qk (List.all_eq_true.1 mz n hmem) hu
  clear hu hmem hk
  simp only [ruleL,ZC,Prod.mk.injEq,Z8,or_false] at hm
  rcases hm with ⟨-,rfl,rfl⟩|⟨-,rfl,rfl⟩|⟨-,rfl,rfl⟩|⟨-,rfl,rfl⟩|⟨-,rfl,rfl⟩|⟨-,rfl,rfl⟩|⟨-,rfl,rfl⟩|⟨-,rfl,rfl⟩|⟨-,rfl,rfl⟩|⟨-,rfl,rfl⟩|⟨-,rfl,rfl⟩|⟨-,rfl,rfl⟩|⟨-,rfl,rfl⟩|⟨-,rfl,rfl⟩|⟨-,rfl,rfl⟩|⟨-,rfl,rfl⟩|⟨-,rfl,rfl⟩|⟨-,rfl,rfl⟩|⟨-,rfl,rfl⟩|⟨-,rfl,rfl⟩|⟨-,rfl,rfl⟩|⟨-,rfl,rfl⟩|⟨-,rfl,rfl⟩|⟨-,rfl,rfl⟩
  all_goals
   have hn':=congrArg Int.toNat hn
   rw [ZP] at hn'
   subst hn'
   try simp only [rule1B,rule2B,rule3B,rule4B,rule5B,rule6B,objectB,targetB,grantB,setupB,Zm] at hb
  all_goals first
   | (have hA:=ic hb;exact ⟨bu u0,bu u1,hA.1,hA.2.1,hA.2.2.1,hA.2.2.2,ii hr u8⟩)
   | (have hA:=ic hb.2;exact ⟨mc hb.1,bu u1,hA.1,hA.2.1,hA.2.2.1,hA.2.2.2,ii hr u8⟩)
   | (have hT:=gb hb.1.2;exact ⟨bu u0,bu u1,iJ hb.1.1.1,bu u5,cu u6,hT,iC hr hT hb.2⟩)
   | (have hT:=gb hb.1.1.1.2;exact ⟨bu u0,bu u1,bu u3,bu u5,cu u6,hT,iC hr hT hb.1.1.2⟩)
   | exact ⟨by first|exact bu u0|exact mc hb.1|exact mc hb,by first|exact bu u1|exact ri hb|exact ri hb.1.1,by first|exact bu u3|exact qW hb.1,by first|exact bu u5|exact dl hb.2|exact qW hb.1|exact dl hb.1.2,cu u6,by first|exact uy hr u4|exact gb hb.2,ii hr u8⟩
   | skip
  unfold labelB at hb
  cases hN:isName a.text with
  | false=>simp [hN] at hb
  | true =>
   simp only [hN,Zk,Zf,Bool.or_eq_true,Zm,objectB,targetB] at hb
   refine ⟨?_,?_,bu u3,qW hN,cu u6,uy hr u4,ii hr u8⟩
   · rcases hb with hb|hb
     · exact mc hb.1
     · exact bu hb.2
   · rcases hb with hb|hb
     · exact bu hb.2
     · exact ri hb.1
theorem co {a:Xa} (hr:a.Rng) (h:rightB a=true):a.Fit:=by
 simp only [rightB,Zm] at h
 obtain ⟨⟨⟨⟨⟨h1,h2⟩,h3⟩,h4⟩,h5⟩,h6⟩:=h
 have hB:=mn hr h6
 have hp:a.prev.size≤500:=by
  unfold placedB at h2
  cases hs:decide (a.seq=0) with
  | true=>simp only [hs,Zg,Zm] at h2;exact bu h2.2
  | false=>simp only [hs,Zf,Zm] at h2;exact mc h2.2
 have:=gH h1
 have:=hB.object
 have:=hB.target
 have:=hB.group
 have:=hB.text
 exact ⟨by omega,by omega,by omega,by omega,by omega,by omega,hB.body.fit,hB.to.size,fun w hw=>(hB.wraps.each w hw).fit,hB.wraps.size,hr.ints,hr.wints⟩
end Go.Proofs.YtamfbppnlomgfaaGreatDoor
namespace Go.Proofs.YtamfbppnlomgfaaGreatDoor.Sy
open Go Go.RowKit
section
variable {P:Program} {N:Nat} {av bor:List Nat} {w0:World} {ops:Array Oper} {rest:List Oper} {k:St→Prop} {E:Env} {loc loc':List Xi} {X:World→Prop}
variable {d:Option Tmp} {ty:TypeId} {pos:String} {af:Array Edge} {g:Option (Nat×Bool)} {bb want:Bool} {K:Exit→St→Prop}
theorem rX {st:St} {x y:Operand} {t t2 e n b':Nat} {p:Option Addr} {m c:Nat} [hI:Xu P t e n b'] (hx:ev st.env x=some (.slice p m c)) (hy:ev st.env y=some (.slice none 0 0)):Sy.Yields P N av bor w0 st (.binOp .eql t x y t2) ty (.bool p.isNone):=Sy.Yields.mk fun A w ok d pos af g=>by
 have:=Lib.run_eql_slice_nil (P:=P) w t e p m c 0 0 (aY hI.out).1
 simp [execOp,ok.eval hx,ok.eval hy,eqGuard,this]
theorem iE {nn:Nat} {x y:Operand} {t t2 e n b':Nat} {p:Option Addr} {m c:Nat} [hI:Xu P t e n b'] (h:Sw P N av bor w0 ops rest ⟨(nn,.bool p.isNone)::E,loc,X⟩ k) (hx:ev E x=some (.slice p m c):=by rfl) (hy:ev E y=some (.slice none 0 0):=by rfl) (hg:gdB ops E g=some (bb,want):=by rfl) (hbb:bb=want:=by exact ay) (hd:Nat.blt nn N=true:=by rfl):Sw P N av bor w0 ops (⟨some nn,.binOp .eql t x y t2,ty,pos,af,g⟩::rest) ⟨E,loc,X⟩ k:=ao (rX hx hy) hg hbb hd h
theorem dA {n:Nat} {x y:Operand} {t t2:TypeId} {kk:IntKind} {a b:Int} (h:Sw P N av bor w0 ops rest ⟨(n,.bool true)::E,loc,X⟩ k) (hx:ev E x=some (.int kk a):=by rfl) (hy:ev E y=some (.int kk b):=by rfl) (hab:a=b:=by first|omega|decide) (hg:gdB ops E g=some (bb,want):=by rfl) (hbb:bb=want:=by exact ay) (hd:Nat.blt n N=true:=by rfl) :
  Sw P N av bor w0 ops (⟨some n,.binOp .eql t x y t2,ty,pos,af,g⟩::rest) ⟨E,loc,X⟩ k:=ao (by have:=jw (P:=P) (N:=N) (av:=av) (bor:=bor) (w0:=w0) (st:=⟨E,loc,X⟩) (ty:=ty) (t:=t) (t2:=t2) hx hy;rwa [Ze hab] at this) hg hbb hd h
theorem dB {n:Nat} {x y:Operand} {t t2:TypeId} {kk:IntKind} {a b:Int} (h:Sw P N av bor w0 ops rest ⟨(n,.bool false)::E,loc,X⟩ k) (hx:ev E x=some (.int kk a):=by rfl) (hy:ev E y=some (.int kk b):=by rfl) (hab:¬ a=b:=by first|omega|decide) (hg:gdB ops E g=some (bb,want):=by rfl) (hbb:bb=want:=by exact ay) (hd:Nat.blt n N=true:=by rfl) :
  Sw P N av bor w0 ops (⟨some n,.binOp .eql t x y t2,ty,pos,af,g⟩::rest) ⟨E,loc,X⟩ k:=ao (by have:=jw (P:=P) (N:=N) (av:=av) (bor:=bor) (w0:=w0) (st:=⟨E,loc,X⟩) (ty:=ty) (t:=t) (t2:=t2) hx hy;rwa [Zd hab] at this) hg hbb hd h
theorem cT {m:Nat} {t:TypeId} {x y:Operand} {b off T:Nat} {cs vs:List Value} (cs':List Value) {arr:Array Value} [ht:Xq P t m] (hx:ev E x=some (.pointer (some ⟨b,off,none⟩)):=by rfl) (hy:ev E y=some (.agg arr):=by rfl) (hv:arr.toList=vs:=by (first|exact List.toList_toArray|rfl))
  (hA:At (cel b T cs) (cel b T cs') loc loc':=by (repeat (first|exact At.here _|apply At.there))) (hm:vs.length=m:=by rfl) (hl:Nat.ble (off+m) cs.length=true:=by rfl) (h1:vs.all (·.oneCell')=true:=by rfl) (hc2:cs.take off++vs++cs.drop (off+m)=cs':=by rfl) (hg:gdB ops E g=some (bb,want):=by rfl) (hb:bb=want:=by exact ay) (hd:inB N d=true:=by rfl)
  (h:Sw P N av bor w0 ops rest ⟨putE E d undef,loc',X⟩ k):Sw P N av bor w0 ops (⟨d,.store t x y,ty,pos,af,g⟩::rest) ⟨E,loc,X⟩ k:=by
 obtain ⟨_,_,_,h3⟩:=bN (Xq.out (P:=P) (t:=t))
 exact iG (vs:=vs) (cs:=cs) (cs':=cs') (by rw [h3,hm]) hx hy (by simpa [Value.cells] using hv) h1 (by have:=Zt hl;omega) (by rw [hm];exact hc2) hA hg hb hd h
theorem kr {n:Nat} {t e size b':Nat} [hs:Xu P t e size b'] (h:∀ b,Sw P N av bor w0 ops rest ⟨(n,.slice (some ⟨b,0,none⟩) 0 0)::E,orow e size (.slice (some ⟨b,0,none⟩) 0 0) 0 []::loc,X⟩ k) (hg:gdB ops E g=some (bb,want):=by rfl) (hb:bb=want:=by exact ay) (hd:Nat.blt n N=true:=by rfl):Sw P N av bor w0 ops (⟨some n,.buildSlice t 0 #[],ty,pos,af,g⟩::rest) ⟨E,loc,X⟩ k:=Sw.mk fun a w ok=>by
 have hd':inB N (some n)=true:=by have h1:n<N:=Zt hd;simpa [inB] using h1
 obtain ⟨ht,inf,hi,hi1,hi2⟩:=aY hs.out
 have hsz:(sizeOf e).run P w=.ok size w:=by simp [sizeOf,typeInfo,hi,hi1]
 simp only [wpList]
 rw [aM ok (o:=⟨some n,.buildSlice t 0 #[],ty,pos,af,g⟩) hg]
 subst hb
 simp only [Zv,ZF]
 left
 unfold Oper.wp
 have hr:(execOp a.eval ⟨some n,.buildSlice t 0 #[],ty,pos,af,g⟩).run P w=.ok (.value (.slice (some ⟨w.heap.size,0,none⟩) 0 0)) (w.alloc (.cells #[] e)):=by
  have hr0:∀ f:Nat→Value,Array.map f (Array.range 0)=#[]:=fun f=>Array.eq_empty_of_size_eq_zero (by simp)
  simp [execOp,Instr.buildSlice,run_underlying ht,hsz,Instr.fill,hr0,cG]
 rw [hr]
 have ok':Ok N av bor w0 ⟨E,orow e size (.slice (some ⟨w.heap.size,0,none⟩) 0 0) 0 []::loc,X⟩ a (w.alloc (.cells #[] e)):=(ok.via fun M G=>G.new (.cells #[] e) (fun w2=>ORow w2 e size (.slice (some ⟨w.heap.size,0,none⟩) 0 0) 0 []) (fun w2 h=>⟨by simp,.inr ⟨w.heap.size,0,_,(0,0),rfl,h,ZN _,ZU _,by simp,by simp,.inl rfl⟩⟩))
 exact (h _).run _ _ (bw (some n) _▸ok'.put hd' _)
end
theorem g9 {size:Nat}:∀ (xs:List (List Value)) (i:Nat) (cs:List Value),(∀ r∈xs,r.length=size)→xs[i]?=some cs→∀ j u,cs[j]?=some u→xs.flatten[i*size+j]?=some u
 | [],i,cs,_,h,j,u,_=>by simp at h
 | r::xs,0,cs,hl,h,j,u,hj=>by
  simp at h
  subst h
  have h1:=(Qu.1 hj).1
  rw [Z0,Nat.zero_mul,ZL,List.getElem?_append_left h1,hj]
 | r::xs,i+1,cs,hl,h,j,u,hj=>by
  have h1:r.length=size:=hl r aC
  rw [Z0,List.getElem?_append_right (by rw [h1,Qp];omega),h1,show (i+1)*size+j-size=i*size+j from by rw [Qp];omega]
  exact g9 xs i cs (fun q hq=>hl q (Zr _ hq)) (by simpa using h) j u hj
theorem lZ {size:Nat} (xs:List (List Value)) (h:∀ r∈xs,r.length=size):xs.flatten.length=xs.length*size:=by
 rw [List.length_flatten]
 have:∀ x∈xs.map List.length,x=size:=by
  intro x hx
  obtain ⟨cs,hcs,rfl⟩:=Qt.1 hx
  exact h cs hcs
 rw [List.eq_replicate_of_mem this]
 simp
theorem aW {w:World} {e size n c:Nat} {A:Option Addr} {xs:List (List Value)} (h:ORow w e size (.slice A n c) n xs.flatten) (hn:n=xs.length) (hs:∀ r∈xs,r.length=size):Xd w size ⟨A,n,c⟩ xs:=by
 rcases h.2 with ⟨h1,h2⟩|⟨g,cap,cur,fz,h1,hg,hnc,hcm,hcs,htake,hfz⟩
 · have hx:xs=[]:=ZY ab
   subst hx
   simp only [Value.slice.injEq] at h1
   obtain ⟨rfl,rfl,rfl⟩:=h1
   exact ⟨rfl,ZN _,ZU _,fun i cs hi=>by simp at hi⟩
 · simp only [Value.slice.injEq] at h1
   obtain ⟨rfl,_,rfl⟩:=h1
   refine ⟨hn,hnc,hcm,fun i cs hi=>⟨hs cs (ZW hi),rfl,fun j u hj=>⟨rfl,fun a ha=>?_⟩⟩⟩
   cases ha
   have hf:=g9 xs i cs hs hi j u hj
   have hadd:(⟨g,0,none⟩:Addr).add (i*size+j)=⟨g,i*size+j,none⟩:=by unfold Addr.add;split<;>simp_all
   rw [hadd,cell_of_row w g _ cur e fz hg]
   rw [←htake,Qr] at hf
   split at hf
   · simpa using hf
   · cases hf
theorem lB {w:World} {b e size n:Nat} {cs:List Value} (h:w.heap[b]?=some (.cells cs.toArray e (0,0))) (hl:cs.length=n*size) (hm:n≤maxLen):ORow w e size (.slice (some ⟨b,0,none⟩) n n) n cs :=
 ⟨hl,.inr ⟨b,n,_,(0,0),rfl,h,ZN _,hm,by simpa using hl,by simp [←hl],.inl rfl⟩⟩
theorem cX {w:World} {b e size n:Nat} {xs:List (List Value)} (h:w.heap[b]?=some (.cells xs.flatten.toArray e (0,0))) (hn:n=xs.length) (hm:n≤maxLen) (hs:∀ r∈xs,r.length=size):Xd w size ⟨some ⟨b,0,none⟩,n,n⟩ xs :=
 aW (lB h (by rw [lZ xs hs,hn]) hm) hn hs
theorem Xd.none_nil {w:World} {size:Nat} {s:Xh} {xs:List (List Value)} (h:Xd w size s xs) (hp:s.p.isNone=true):xs=[]:=by
 cases xs with
 | nil=>rfl
 | cons cs r =>
  have:=(h.row 0 cs rfl).2.1
  cases hq:s.p<;>simp_all
theorem aG (w:World) (size:Nat):Xd w size ⟨none,0,0⟩ []:=⟨rfl,ZN _,ZU _,fun i cs hi=>by simp at hi⟩
def CloneAt (size:Nat) (xs:List (List Value)) (u:Value) (X:World→Prop):Prop:=∃ s:Xh,u=s.v∧s.n=xs.length∧∀ w,X w→Xd w size s xs
end Go.Proofs.YtamfbppnlomgfaaGreatDoor.Sy
namespace Go.Proofs.YtamfbppnlomgfaaGreatDoor
open Go Go.Proofs Sy Tryz
theorem dr (s:Xh) (xs:List (List Value)) (hb:s.n*16≤140737488351232) (h1:∀ cs∈xs,cs.all (·.oneCell')=true):Mk prog 38 #[s.v] (fun w=>Xd w 1 s xs) (CloneAt 1 xs):=by
 refine cF func38 ntmps38 fun av bor w0=>?_
 refine aK (p:=s.n=xs.length∧(∀ r∈xs,r.length=1)∧(s.p.isNone=true→xs=[])) (fun w h=>⟨h.len,fun r hr=>?_,h.none_nil⟩) fun ⟨hl,hr1,hnil⟩=>?_
 · obtain ⟨i,hi⟩:=List.mem_iff_getElem?.1 hr
   exact (h.row i r hi).1
 repeat' (first|refine iE ?_|refine kr fun _=>?_|refine gs ?_|refine gs1 fun _=>?_|(refine gp ?_ ?_<;>intro hx_ this)|fail)
 · refine aa (ai rfl rfl) ⟨⟨none,0,0⟩,rfl,?_,fun w _=>?_⟩
   · rw [hnil hx_];rfl
   · rw [hnil hx_];exact aG w 1
 refine aD (size:=1) (z:=.string ⟨#[]⟩) (news:=xs.flatten) (q:=s.n) rfl rfl rfl rfl (fun _=>At.here _) (fun w G=>eK G.keep.now h1) ?_ ?_ rfl ?_ rfl ?_
 · omega
 · simp only [maxLen];omega
 · rfl
 intro A c
 repeat' (first|refine gs ?_|refine gs1 fun _=>?_|fail)
 refine aa (ai rfl rfl) ⟨⟨A,0+s.n,c⟩,rfl,?_,fun w h=>?_⟩
 · show 0+s.n=xs.length
   omega
 · exact aW (h.2 _ aC) ab hr1
theorem gN (s:Xh) (xs:List (List Value)) (hb:s.n*64≤140737488351232) (h1:∀ cs∈xs,cs.all (·.oneCell')=true):Mk prog 39 #[s.v] (fun w=>Xd w 5 s xs) (CloneAt 5 xs):=by
 refine cF func39 ntmps39 fun av bor w0=>?_
 refine aK (p:=s.n=xs.length∧(∀ r∈xs,r.length=5)∧(s.p.isNone=true→xs=[])) (fun w h=>⟨h.len,fun r hr=>?_,h.none_nil⟩) fun ⟨hl,hr1,hnil⟩=>?_
 · obtain ⟨i,hi⟩:=List.mem_iff_getElem?.1 hr
   exact (h.row i r hi).1
 repeat' (first|refine iE ?_|refine kr fun _=>?_|refine gs ?_|refine gs1 fun _=>?_|(refine gp ?_ ?_<;>intro hx_ this)|fail)
 · refine aa (ai rfl rfl) ⟨⟨none,0,0⟩,rfl,?_,fun w _=>?_⟩
   · rw [hnil hx_];rfl
   · rw [hnil hx_];exact aG w 5
 refine aD (size:=5) (news:=xs.flatten) (q:=s.n) rfl rfl rfl rfl (fun _=>At.here _) (fun w G=>eK G.keep.now h1) ?_ ?_ rfl ?_ rfl ?_
 · omega
 · simp only [maxLen];omega
 · rfl
 intro A c
 repeat' (first|refine gs ?_|refine gs1 fun _=>?_|fail)
 refine aa (ai rfl rfl) ⟨⟨A,0+s.n,c⟩,rfl,?_,fun w h=>?_⟩
 · show 0+s.n=xs.length
   omega
 · exact aW (h.2 _ aC) ab hr1
set_option maxRecDepth 20000 in
theorem dk (a:Xa):Pu prog 58 #[itemV 0 a] (Xa.at_ · a) (.bool (rightB a)):=by
 refine ax func58 ntmps58 fun av bor w0=>?_
 repeat' (first|refine dA ?_|refine dB ?_|refine ae (hc:=bL a) ?_|refine ae (hc:=lO) ?_|refine gs ?_|refine gs1 fun _=>?_|(refine aI ?_)|(refine cT (itemCells 0 Xa.zero) (h:=?_))|(refine aV (vs:=a.cells) (hv:=rfl) ?_)|(refine gp ?_ ?_<;>intro hx_ this)|fail)
 all_goals (apply aa;apply ai;rfl;rfl;rw [hx_])
def bytesV (a:Xa):ByteArray:=bif rightB a then numV 0++actBytes a else ⟨#[]⟩
theorem fv {a:Xa} (hr:a.Rng):(actBytes a).size≤300000000020:=by
 have n7:=ar a.e
 have n8:=ar a.s
 unfold actBytes
 cases seqB (actCore a) ⟨#[]⟩ with
 | true=>simp [ByteArray.size]
 | false =>
  have hc:(actCore a).size≤300000000000:=by
   unfold actCore
   cases hrB:rightB a with
   | true=>exact eB (co hr hrB)
   | false=>simp [ByteArray.size]
  simp only [Zf,Zb]
  omega
theorem mj {a:Xa} (hr:a.Rng):(bytesV a).size≤300000000030:=by
 have h1:=ar 0
 have h2:=fv hr
 unfold bytesV
 cases rightB a with
 | true=>simp only [Zg,Zb];omega
 | false=>simp [ByteArray.size]
set_option maxRecDepth 20000 in
theorem kI (a:Xa) (hr:a.Rng):Pu prog 72 #[itemV 0 a] (Xa.at_ · a) (.string (bytesV a)):=by
 cases hrB:rightB a with
 | false =>
  have hrN:(!rightB a)=true:=by rw [hrB];rfl
  refine ax func72 ntmps72 fun av bor w0=>?_
  repeat' (first|refine ae (hc:=dk a) ?_|refine gs ?_|refine gs1 fun _=>?_|(refine gp ?_ ?_<;>intro hx_ this)|fail)
  apply aa;apply ai;rfl;rfl
  simp only [bytesV,hrB,Zf]
 | true =>
 have hrN:(!rightB a)=false:=by rw [hrB];rfl
 refine ax func72 ntmps72 fun av bor w0=>?_
 have hab:=mq a (co hr) ⟨hr.ints.2.2.2.2.2.2.2.1,hr.ints.2.2.2.2.2.2.2.2⟩
 have hsz:=fv hr
 repeat' (first|refine ae (hc:=dk a) ?_|refine gs ?_|refine gs1 fun _=>?_|(refine gp ?_ ?_<;>intro hx_ this)|fail)
 rename_i bi bb bs
 have hS:(⟨#[]⟩:ByteArray)++numsV [0]=numV 0:=by
  show ByteArray.empty++(numV 0++ByteArray.empty)=numV 0
  rw [ByteArray.append_empty,ByteArray.empty_append]
 have hns:(⟨#[]⟩:ByteArray).size+(numsV [0]).size≤1099511627776:=by
  rw [←Zb,hS]
  have:=ar 0
  omega
 refine cJ ?_
 refine oK 5 1 ?_
 refine d7 (l:=bld bb none 0 ⟨#[]⟩++[cel bi 83 (itemCells 0 a)]) (List.Perm.swap _ _ _) ?_
 refine cr (pre:=bld bb none 0 ⟨#[]⟩) (fr:=[cel bi 83 (itemCells 0 a)]) (hc:=sB bb none 0 ⟨#[]⟩ ⟨some ⟨bs,0,none⟩,1,1⟩ [0] (by simp) hns) (hX:=fun w h=>cX (xs:=[[.int .i64 0]]) h.2 rfl (by decide) (by simp)) (h:=?_)
 rintro v R X' ⟨A',c',rfl,rfl⟩
 refine eJ (X':=(Xa.at_ · a)) (fun w h=>h.1.1) ?_
 have hn0:=ar 0
 rw [hS]
 generalize hs1:numV 0=s1 at *
 unfold bld
 repeat' (first|refine dA ?_|refine gs ?_|refine gs1 fun _=>?_|(refine gp ?_ ?_<;>intro hx_ this)|fail)
 (refine aw_draw ⟨[0,2],[(1,⟨[],[(3,⟨[],[(4,⟨[],[(5,⟨[6],[(7,⟨[],[]⟩)]⟩)]⟩)]⟩)]⟩),(3,⟨[],[(1,⟨[],[(4,⟨[],[(5,⟨[6],[(7,⟨[],[]⟩)]⟩)]⟩)]⟩),(4,⟨[],[(1,⟨[],[(5,⟨[6],[(7,⟨[],[]⟩)]⟩)]⟩)]⟩)]⟩)]⟩ [] (fun _=>True) (h:=?_))
 all_goals repeat' (first|refine ae (hc:=hab) ?_|refine gd ?_|refine aE ?_ (h':=?_)|exact aF|(refine aV (vs:=a.cells) (hv:=rfl) ?_)|(refine ga ?_;refine aD (size:=1) (z:=.int .u8 0) rfl rfl rfl rfl (fun _=>At.there _ (At.here _)) (fun w G=>kv ab) ab (by simp only [maxLen];omega) rfl ?_ rfl ?_;(first|with_reducible rfl|with_reducible assumption|with_reducible exact Zj|with_reducible exact Zk);intro A1 c1)|refine gs1 fun _=>?_|(refine gq ?_ ?_<;>intro hx_ this)|fail)
 all_goals (repeat' (first|refine gs ?_|refine gs1 fun _=>?_|(refine gp ?_ ?_<;>intro hx_ this)|fail))
 all_goals (
  rw [←bp,←dP]
  refine fE (hm:=Zr _ aC) ?_
  repeat' (first|refine gs ?_|refine gs1 fun _=>?_|(refine gp ?_ ?_<;>intro hx_ this)|fail)
  apply aa;apply ai;rfl;rfl
  simp only [bytesV,hrB,Zg,dL,hs1])
def digV (a:Xa):ByteArray:=bif seqB (bytesV a) ⟨#[]⟩ then ⟨#[]⟩ else shaV (bytesV a)
theorem fm (a:Xa) (hr:a.Rng):Pu prog 33 #[itemV 0 a] (fun w=>Xa.at_ w a∧Xc w) (.string (digV a)):=by
 refine ax func33 ntmps33 fun av bor w0=>?_
 have hsz:=mj hr
 repeat' (first|refine ae (hc:=kI a hr) ?_|refine ae (hc:=gy _ ab) ?_|refine gs ?_|refine gs1 fun _=>?_|(refine gp ?_ ?_<;>intro hx_ this)|fail)
 all_goals (apply aa;apply ai;rfl;rfl)
 · simp only [digV,hx_,Zg]
 · simp only [digV,hx_,Zf]
structure Xa.Sm (a:Xa):Prop where
 to:a.to.n*16≤140737488351232
 wraps:a.wraps.n*64≤140737488351232
 target:a.target.size≤maxLen
def Xa.re (a:Xa) (s1 s2:Xh):Xa:={ a with to:=s1,wraps:=s2 }
theorem cd {a:Xa} {s1 s2:Xh} (h1:s1.n=a.to.n) (h2:s2.n=a.wraps.n):rightB (a.re s1 s2)=rightB a:=by
 obtain ⟨au,sq,pv,kd,tm,ob,tg,sc,gr,⟨p,n,c⟩,tx,bd,ep,⟨p',n',c'⟩,nn,mm,ee,ss,tl,wl⟩:=a
 obtain ⟨q,m,d⟩:=s1
 obtain ⟨q',m',d'⟩:=s2
 simp only at h1 h2
 subst h1
 subst h2
 simp only [rightB,ruleB,ruleL,usedV,audienceB,rule1B,rule2B,rule3B,rule4B,rule5B,rule6B,objectB,targetB,grantB,labelB,homeB,setupB,wrappedB,placedB,Xa.re]
 rfl
theorem jl {a:Xa} {s1 s2:Xh} (h1:s1.n=a.to.n) (h2:s2.n=a.wraps.n):digV (a.re s1 s2)=digV a:=by
 have hr:=cd h1 h2
 have hc:coreV (a.re s1 s2)=coreV a:=rfl
 have he:(a.re s1 s2).e=a.e:=rfl
 have hs:(a.re s1 s2).s=a.s:=rfl
 simp only [digV,bytesV,actBytes,actCore,hr,hc,he,hs]
def OfActAt (a:Xa) (u:Value) (X:World→Prop):Prop:=∃ a':Xa,u=itemV 0 a'∧digV a'=digV a∧a'.Rng∧∀ w,X w→a'.at_ w
set_option maxRecDepth 20000 in
theorem iR (a:Xa) (hr:a.Rng) (hs:a.Sm):Mk prog 27 #[a.v] (Xa.at_ · a) (OfActAt a):=by
 refine cF func27 ntmps27 fun av bor w0=>?_
 repeat' (first|refine gs ?_|refine gs1 fun _=>?_|fail)
 refine aU (hc:=dr a.to (strs a.toL) hs.to (fun cs hcs=>by simp only [strs,Qt] at hcs;obtain ⟨x,_,rfl⟩:=hcs;rfl)) fun v1 X1 h1=>?_
 obtain ⟨s1,rfl,hn1,hw1⟩:=h1
 repeat' (first|refine gs ?_|refine gs1 fun _=>?_|fail)
 refine aU (hc:=gN a.wraps (a.wrapsL.map Xk.cells) hs.wraps (fun cs hcs=>by simp only [Qt] at hcs;obtain ⟨x,_,rfl⟩:=hcs;rfl)) (hX:=fun w h=>h.1.2) fun v2 X2 h2=>?_
 obtain ⟨s2,rfl,hn2,hw2⟩:=h2
 repeat' (first|refine gs ?_|refine gs1 fun _=>?_|(refine aI ?_)|fail)
 have e1:s1.n=a.to.n:=by rw [hn1,hr.to_len];simp [strs]
 have e2:s2.n=a.wraps.n:=by rw [hn2,hr.wraps_len];simp
 apply aa;refine aP rfl rfl aB ?_
 · rfl
 refine ⟨a.re s1 s2,rfl,jl e1 e2,⟨hr.ints,hr.wints,?_,?_⟩,fun w h=>⟨?_,?_⟩⟩
 · rw [show (a.re s1 s2).to=s1 from rfl,e1,hr.to_len];rfl
 · rw [show (a.re s1 s2).wraps=s2 from rfl,e2,hr.wraps_len];rfl
 · exact hw1 w h.1.1.2
 · exact hw2 w h.1.2
structure Xb where
 id:ByteArray
 acts:Xh
 keys:Xh
 prev:ByteArray
 gen:Int
 fork:Bool
 actsL:List Xa
def Xb.cells (c:Xb):List Value:=[.string c.id,c.acts.v,c.keys.v,.string c.prev,.int .i64 c.gen,.bool c.fork]
def Xb.v (c:Xb):Value:=.agg c.cells.toArray
def Xb.zero:Xb:=⟨⟨#[]⟩,⟨none,0,0⟩,⟨none,0,0⟩,⟨#[]⟩,0,false,[]⟩
def Acts (w:World) (s:Xh) (l:List Xa):Prop:=Xd w 20 s (l.map Xa.cells)∧∀ a∈l,a.at_ w
def Xb.at_ (w:World) (c:Xb):Prop:=Acts w c.acts c.actsL
structure Xr (l:List Xa):Prop where
 rng:∀ a∈l,a.Rng
 sm:∀ a∈l,a.Sm
theorem Acts.len_ {w:World} {s:Xh} {l:List Xa} (h:Acts w s l):s.n=l.length:=by have:=Xd.len h.1;simpa using this
theorem Acts.max_ {w:World} {s:Xh} {l:List Xa} (h:Acts w s l):s.n≤maxLen:=ZO (Xd.cap h.1) (Xd.max h.1)
theorem Acts.some_ {w:World} {s:Xh} {l:List Xa} (h:Acts w s l) (hl:0<l.length):s.p.isSome=true:=by
 have hx:l[0]?=some l[0]:=Zc hl
 exact (Xd.row h.1 0 l[0].cells (by simp [hx])).2.1
theorem Acts.get {w:World} {s:Xh} {l:List Xa} (h:Acts w s l) {i:Nat} {x:Xa} (hx:l[i]?=some x):x.cells.length=20∧s.p.isSome=true∧∀ j u,x.cells[j]?=some u→CellAt w s.p (i*20+j) u :=
 Xd.row h.1 i x.cells (by simp [hx])
def idxV (l:List Xa) (d:ByteArray):Option Nat:=l.findIdx? fun a=>seqB (digV a) d
def idxP (o:Option Nat):Value:=.tuple #[.int .i64 ((o.getD 0:Nat):Int),.bool o.isSome]
def badI (l:List Xa) (d:ByteArray) (k:Nat):Bool :=
 match l[k]? with
 | some x=>seqB (digV x) d
 | none=>false
theorem gu {l:List Xa} {d:ByteArray} {k:Nat} {x:Xa} (h:l[k]?=some x):badI l d k=seqB (digV x) d:=by simp only [badI,h]
theorem mY {l:List Xa} {d:ByteArray} (i:Ec l.length (badI l d)) (hlt:i.k<l.length) (hb:badI l d i.k=true):idxV l d=some i.k:=by
 rw [idxV,Qn]
 refine ⟨hlt,?_,fun j hj=>?_⟩
 · rw [gu (Zc hlt)] at hb;exact hb
 · have:=i.ok j hj
   rw [gu (Zc ab)] at this
   simp [this]
theorem pj {l:List Xa} {d:ByteArray} (i:Ec l.length (badI l d)) (h:¬ i.k<l.length):idxV l d=none:=by
 rw [idxV,List.findIdx?_eq_none_iff]
 intro x hx
 obtain ⟨k,hk,rfl⟩:=Qj hx
 have:=i.ok k ab
 rwa [gu (Zc hk)] at this
theorem jc (c:Xb) (hc:Xr c.actsL) (d:ByteArray):Pu prog 71 #[c.v,.string d] (fun w=>c.at_ w∧Xc w) (idxP (idxV c.actsL d)):=by
 refine ax func71 ntmps71 fun av bor w0=>?_
 refine aK (p:=c.acts.n=c.actsL.length∧c.acts.n≤maxLen∧(0<c.actsL.length→c.acts.p.isSome=true)) (fun w h=>⟨h.1.len_,h.1.max_,h.1.some_⟩) fun ⟨hl,hm,hp⟩=>?_
 simp only [maxLen] at hm
 repeat' (first|refine gs ?_|refine gs1 fun _=>?_|fail)
 rename_i b
 refine az (ι:=Ec c.actsL.length (badI c.actsL d)) (fun i=>⟨[(1,.string d),(9,c.acts.v),(10,.int .i64 c.acts.n),(11,.int .i64 i.k)],[],fun w=>c.at_ w∧Xc w⟩) (fun i=>c.actsL.length-i.k) (Ec.zero _ _) (ak aw (ZS _ (aj _)) fun _ h=>h) fun i=>?_
 have hik:=i.hk
 repeat' (first|refine gs ?_|refine gs1 fun _=>?_|(refine gp ?_ ?_<;>intro hx_ this)|fail)
 · have hlt:i.k<c.actsL.length:=by omega
   have hp':=hp ab
   obtain ⟨x,hx⟩:∃ x,c.actsL[i.k]?=some x:=⟨_,Zc hlt⟩
   have hxm:x∈c.actsL:=ZW hx
   repeat' (first|refine gs ?_|refine gs1 fun _=>?_|(refine aA (q:=i.k*20) ?_)|(refine aO (cs:=x.cells) (hF:=fun w h=>Acts.get h.1 hx) ?_)|fail)
   refine aU (hc:=iR x (hc.rng x hxm) (hc.sm x hxm)) (hX:=fun w h=>h.1.2 x hxm) fun v1 X1 h1=>?_
   obtain ⟨x',rfl,hdig,hr',hat⟩:=h1
   refine ae (hc:=fm x' hr') (hX:=fun w h=>⟨hat w h.2,h.1.2⟩) ?_
   rw [hdig]
   repeat' (first|refine gs ?_|refine gs1 fun _=>?_|(refine gp ?_ ?_<;>intro hx_ this)|fail)
   · apply aa;apply bg;rfl;rfl;rfl
     rw [mY i hlt (by rw [gu hx];assumption)]
     rfl
   · exact ⟨i.next hlt (by rw [gu hx];assumption),(by show c.actsL.length-(i.k+1)<c.actsL.length-i.k;omega),ak aw (Zq _) fun _ h=>h.1⟩
 · apply aa;apply bg;rfl;rfl;rfl
   rw [pj i (by omega)]
   rfl
def Chains (w:World) (s:Xh) (l:List Xb):Prop:=Xd w 6 s (l.map Xb.cells)∧∀ c∈l,c.at_ w
theorem Chains.len_ {w:World} {s:Xh} {l:List Xb} (h:Chains w s l):s.n=l.length:=by have:=Xd.len h.1;simpa using this
theorem Chains.max_ {w:World} {s:Xh} {l:List Xb} (h:Chains w s l):s.n≤maxLen:=ZO (Xd.cap h.1) (Xd.max h.1)
theorem Chains.some_ {w:World} {s:Xh} {l:List Xb} (h:Chains w s l) (hl:0<l.length):s.p.isSome=true:=by
 have hx:l[0]?=some l[0]:=Zc hl
 exact (Xd.row h.1 0 l[0].cells (by simp [hx])).2.1
theorem Chains.get {w:World} {s:Xh} {l:List Xb} (h:Chains w s l) {i:Nat} {x:Xb} (hx:l[i]?=some x):x.cells.length=6∧s.p.isSome=true∧∀ j u,x.cells[j]?=some u→CellAt w s.p (i*6+j) u :=
 Xd.row h.1 i x.cells (by simp [hx])
theorem bn {P:Program} {fn:Func} {N t u ty n:Nat} {s:St} {b T:Nat} {cs:List Value} {x:Value} [hI:Xq P ty n] (hr:fn.results=#[.cell t ty,.tmp u]) (h:Sy.look s.env t=some (.pointer (some ⟨b,0,none⟩))) (h':Sy.look s.env u=some x) (hm:cel b T cs∈s.loc) (hn:cs.length=n) :
  Res1 P fn N s (.tuple #[.agg cs.toArray,x]):=fun av bor w0 a w ok=>by
 obtain ⟨D,h1,h2,h3⟩:=bN hI.out
 have ht:=ok.env t _ h
 have hu:=ok.env u _ h'
 have:(loadVar ty ⟨b,0,none⟩).run P w=.ok (.agg cs.toArray) w:=by
  cases D<;>simp at h2
  · exact run_loadVar_row w b T ty cs.toArray (0,0) _ (dc ok hm) h1 rfl (by rw [h3];simp [hn])
  · exact run_loadVar_row w b T ty cs.toArray (0,0) _ (dc ok hm) h1 rfl (by rw [h3];simp [hn])
 simp [results,hr,ht,hu,asAddr,this]
end Go.Proofs.YtamfbppnlomgfaaGreatDoor
namespace Go.Proofs.YtamfbppnlomgfaaGreatDoor
open Go Go.Proofs Sy Go.Shelf Go.Maps Go.Sort Tryz
theorem sortS_c:SortC prog 86 encStr (fun ss=>ss.mergeSort leB) where
 some_:=fun blk off cap ss w h1 h2 h3=>AnyM.slices_Sort_string Tryz.sortS blk off cap ss w h1 h2 h3
 none_:=fun p cap w=>AnyM.slices_Sort_string_none Tryz.sortS p cap w
 len:=fun ss=>List.length_mergeSort ss
theorem sortsS (m:Nat):AnyZ.SortsIn prog Tryz.sortedS_ren Fence.wide m :=
  ⟨fun blk off cap ss W hH hblk hsz=>callsIn_wide.2 (AnyM.slices_Sort_string Tryz.sortS blk off cap ss W hH hblk hsz),
   fun p cap W=>callsIn_wide.2 (AnyM.slices_Sort_string_none Tryz.sortS p cap W)⟩
end Go.Proofs.YtamfbppnlomgfaaGreatDoor
namespace Go.Proofs.YtamfbppnlomgfaaGreatDoor.Sy
open Go Go.RowKit Go.MapKept
def mdel {κ β:Type} [Xj κ]:List (κ×β)→κ→List (κ×β)
 | [],_=>[]
 | (k',v')::r,k=>bif Xj.eqb k k' then r else (k',v')::mdel r k
theorem fY {κ β:Type} [Xj κ]:∀ (l:List (κ×β)) (k:κ),mget l k=none→mdel l k=l
 | [],_,_=>rfl
 | (k',v')::r,k,h=>by
  simp only [mget] at h
  simp only [mdel]
  cases hb:Xj.eqb k k' with
  | true=>rw [hb] at h;simp at h
  | false=>rw [hb] at h;rw [Zf,fY r k (by simpa using h)]
theorem iV {κ β:Type} [Xj κ]:∀ (l:List (κ×β)) (k:κ) (j:Nat) (v:β),l[j]?=some (k,v)→(l.map (·.1)).Nodup→mdel l k=l.eraseIdx j
 | [],_,j,v,h,_=>by simp at h
 | (k',v')::r,k,0,v,h,hn=>by
  simp at h
  obtain ⟨rfl,rfl⟩:=h
  have:Xj.eqb k' k'=true:=(Xj.eqb_iff k' k').2 rfl
  simp [mdel,this]
 | (k',v')::r,k,j+1,v,h,hn=>by
  have hne:Xj.eqb k k'=false:=by
   cases hb:Xj.eqb k k' with
   | false=>rfl
   | true =>
    have e:=(Xj.eqb_iff k k').1 hb
    subst e
    simp only [ZR,List.nodup_cons] at hn
    exact absurd (Qt.2 ⟨(k,v),ZW (by simpa using h),rfl⟩) hn.1
  simp only [mdel,hne,Zf,List.eraseIdx_cons_succ]
  rw [iV r k j v (by simpa using h) (by simp only [ZR,List.nodup_cons] at hn;exact hn.2)]
theorem td {κ:Type} [Xj κ] {a b:κ} (h:Xj.enc a=Xj.enc b):a=b:=by
 have h1:=Xj.same a a
 have h2:=Xj.same a b
 rw [←h] at h2
 rw [h1] at h2
 have h3:Xj.eqb a a=true:=(Xj.eqb_iff a a).2 rfl
 rw [h3] at h2
 exact (Xj.eqb_iff a b).1 (Option.some.inj h2).symm
theorem gG {α β:Type} (f:α→β):∀ (l:List α) (j:Nat),(l.eraseIdx j).map f=(l.map f).eraseIdx j
 | [],j=>by simp
 | a::l,0=>rfl
 | a::l,j+1=>by simp [gG f l j]
theorem jr {κ:Type} [Xj κ] {P:Program} {w:World} {t et kt ty:TypeId} (ht:mapOf P t=some (et,keyD κ)) {g:Nat} {l:List (κ×Value)} (h:MapAt w g l) (k:κ) :
  ∃ o,(Builtin.delete_ #[t,kt] ty #[.map (some g),Xj.enc k]).run P w=.ok (.tuple #[]) { w with heap:=w.heap.setIfInBounds g o }∧∀ w':World,w'.heap[g]?=some o→MapAt w' g (mdel l k):=by
 obtain ⟨kt',h1,h2⟩:=fI ht
 obtain ⟨es,clock,hb,hs,hl⟩:=h
 have hk:=Xj.ok k
 have hnd:(l.map (·.1)).Nodup:=by
  have h3:=hs.2.2
  have h4:es.toList.map (·.key)=l.map fun p=>Xj.enc p.1:=by
   have:=congrArg (List.map Prod.fst) hl
   simpa [ZQ,Function.comp_def] using this
  rw [h4] at h3
  unfold List.Nodup at h3 ⊢
  rw [List.pairwise_map] at h3 ⊢
  exact h3.imp fun hab e=>hab (by rw [e])
 rcases gc k es.toList l 0 hl with ⟨g1,g2,g3,g4⟩|⟨j,e,v0,g1,g2,g3,g4,g5⟩
 · refine ⟨.map es clock,?_,fun w' hw=>⟨es,clock,hw,hs,?_⟩⟩
   · simp [Builtin.delete_,run_underlying h1,MapKept.run_getObj_map hb,MapKept.run_checkKey h2 hk,MapKept.run_findKey h2 g1,MapKept.run_setObj_map _ hb,Result.andThen]
   · rw [fY l k g2]
     exact hl
 · have hj:es[j]?=some e:=by simpa using g2
   have hlj:l[j]?=some (k,v0):=by
    have h3:=congrArg (fun q=>q[j]?) hl
    simp only [ZX,Qc,hj,Option.map_some] at h3
    cases hq:l[j]? with
    | none=>rw [hq] at h3;simp at h3
    | some p =>
     rw [hq] at h3
     simp only [Option.map_some,ZE,Prod.mk.injEq] at h3
     have e1:p.1=k:=td (h3.1.symm.trans g3)
     have e2:mget l k=some p.2:=by
      have key:∀ (l:List (κ×Value)) (j:Nat) (p:κ×Value),l[j]?=some p→(l.map (·.1)).Nodup→mget l p.1=some p.2:=by
       intro l
       induction l with
       | nil=>intro j p h;simp at h
       | cons a r ih =>
        intro j p h hn
        cases j with
        | zero =>
         simp at h
         subst h
         have:Xj.eqb a.1 a.1=true:=(Xj.eqb_iff _ _).2 rfl
         simp [mget,this]
        | succ j =>
         simp only [ZR,List.nodup_cons] at hn
         have hne:Xj.eqb p.1 a.1=false:=by
          cases hb:Xj.eqb p.1 a.1 with
          | false=>rfl
          | true =>
           have e:=(Xj.eqb_iff _ _).1 hb
           exact absurd (Qt.2 ⟨p,ZW (by simpa using h),e⟩) hn.1
         simp only [mget,hne,Zf]
         exact ih j p (by simpa using h) hn.2
      have:=key l j p hq hnd
      rwa [e1] at this
     rw [g4] at e2
     obtain ⟨p1,p2⟩:=p
     simp only at e1 e2
     rw [e1,Option.some.inj e2]
   refine ⟨.map (es.eraseIdxIfInBounds j) clock,?_,fun w' hw=>⟨_,_,hw,stamped_erase hs j,?_⟩⟩
   · simp [Builtin.delete_,run_underlying h1,MapKept.run_getObj_map hb,MapKept.run_checkKey h2 hk,MapKept.run_findKey h2 g1,MapKept.run_setObj_map _ hb,Result.andThen]
   · rw [iV l k j v0 hlj hnd]
     have hlt:j<es.size:=(Qv.1 hj).1
     have e1:(es.eraseIdxIfInBounds j).toList=es.toList.eraseIdx j:=by simp [Array.eraseIdxIfInBounds,hlt]
     rw [e1,gG,hl,←gG]
section
variable {P:Program} {N:Nat} {av bor:List Nat} {w0:World} {ops:Array Oper} {rest:List Oper} {k:St→Prop} {E:Env} {loc loc':List Xi} {X:World→Prop}
variable {d:Option Tmp} {ty:TypeId} {pos:String} {af:Array Edge} {g:Option (Nat×Bool)} {bb want:Bool} {K:Exit→St→Prop}
theorem oM {κ:Type} [Xj κ] {t et kt:Nat} [ht:TyMap P t et (keyD κ)] {m x:Operand} {q:Nat} {l:List (κ×Value)} {kk:κ} (h:Sw P N av bor w0 ops rest ⟨putE E d (.tuple #[]),loc',X⟩ k) (hm:ev E m=some (.map (some q)):=by rfl) (hx:ev E x=some (Xj.enc kk):=by rfl) (hA:At (mapr q l) (mapr q (mdel l kk)) loc loc':=by (repeat (first|exact At.here _|apply At.there))) (hg:gdB ops E g=some (bb,want):=by rfl) (hb:bb=want:=by exact ay) (hd:inB N d=true:=by rfl):Sw P N av bor w0 ops (⟨d,.call ⟨.builtin .delete,#[m,x],#[t,kt]⟩,ty,pos,af,g⟩::rest) ⟨E,loc,X⟩ k:=Sw.mk fun a w ok=>by
 simp only [wpList]
 rw [aM ok (o:=⟨d,.call ⟨.builtin .delete,#[m,x],#[t,kt]⟩,ty,pos,af,g⟩) hg]
 subst hb
 simp only [Zv,ZF]
 left
 unfold Oper.wp
 have hmm:MapAt w q l:=(ok.gam.here _ hA.mem).now
 obtain ⟨o,hr,ho⟩:=jr (P:=P) (kt:=kt) (ty:=ty) ht.out hmm kk
 obtain ⟨es,c,hb',_⟩:=hmm
 have hs:=heap_set (o':=o) hb'
 have ok':Ok N av bor w0 ⟨E,loc',X⟩ a { w with heap:=w.heap.setIfInBounds q o }:=(ok.via fun M G=>G.turn (hA.app M) rfl rfl rfl (by simp) (fun i hi=>hs.2 i hi) fun w2 h2=>ho w2 (h2.trans hs.1))
 have hr':(execOp a.eval ⟨d,.call ⟨.builtin .delete,#[m,x],#[t,kt]⟩,ty,pos,af,g⟩).run P w=.ok (.value (.tuple #[])) { w with heap:=w.heap.setIfInBounds q o }:=by
  simp only [execOp,resolve,invoke,builtin,Sem.run_bind,Sem.run_pure,Result.andThen_ok,List.map_toArray,ZR,List.map_nil,ok.eval (st:=⟨E,loc,X⟩) hm,ok.eval (st:=⟨E,loc,X⟩) hx,hr]
 rw [hr']
 exact h.run _ _ (bw d _▸ok'.put hd _)
theorem pV {st:St} {x y:Operand} {t e size b':Nat} [hI:Xu P t e size b'] {p:Option Addr} {m c:Nat} {kk:IntKind} {i:Int} (hx:ev st.env x=some (.slice p m c)) (hy:ev st.env y=some (.int kk i)) (h0:0≤i) (h1:i≤(c:Int)) :
  Sy.Yields P N av bor w0 st (.slice t x none (some y) none) ty (.slice p i.toNat c):=Sy.Yields.mk fun A w ok d pos af g=>by
 obtain ⟨hu,inf,hi,hs,hb⟩:=aY hI.out
 have hz:=run_sizeOf (P:=P) (w:=w) (t:=e) (n:=size) (by simp [hi,hs])
 have hadd:∀ a:Addr,a.add 0=a:=fun a=>by simp [Addr.add]
 have hmap:p.map (fun a=>a.add 0)=p:=by cases p<;>simp [hadd]
 simp [execOp,ok.eval hx,ok.eval hy,Instr.sliceAt,run_underlying hu,Instr.slice,Instr.sliceBounds,run_sliceBound,h0,h1,hz,hmap]
theorem r9 {n:Nat} {x y:Operand} {t e size b':Nat} [hI:Xu P t e size b'] {p:Option Addr} {m c:Nat} {kk:IntKind} {i:Int} (h:Sw P N av bor w0 ops rest ⟨(n,.slice p i.toNat c)::E,loc,X⟩ k) (hx:ev E x=some (.slice p m c):=by rfl) (hy:ev E y=some (.int kk i):=by rfl) (h0:0≤i:=by omega) (h1:i≤(c:Int)) (hg:gdB ops E g=some (bb,want):=by rfl) (hbb:bb=want:=by exact ay) (hd:Nat.blt n N=true:=by rfl):Sw P N av bor w0 ops (⟨some n,.slice t x none (some y) none,ty,pos,af,g⟩::rest) ⟨E,loc,X⟩ k:=ao (pV hx hy h0 h1) hg hbb hd h
def nullR:Xi:=⟨[],fun _=>True⟩
theorem Xn.null {w:World} (G:Xn av bor w0 loc X w):Xn av bor w0 (nullR::loc) X w:=by
 have e1:fps (nullR::loc)=fps loc:=by simp [fps,nullR]
 refine ⟨G.fr,G.avb,by rw [e1];exact G.nodup,by rw [e1];exact G.own,fun x hx=>?_,by rw [e1];exact G.keep⟩
 rcases ZC.1 hx with rfl|hx
 · exact fun _ _=>trivial
 · exact G.here x hx
theorem dD {x:Operand} {xs:List Operand} {ats:Array TypeId} {f:FuncId} {first caps:Array Value} {args all:List Value} {X1:World→Prop} {Post:Value→List Xi→(World→Prop)→Prop} {r:Xi} (h:∀ v R X',Post v R X'→Sw P N av bor w0 ops rest ⟨putE E d v,R++loc',fun w=>X w∧X' w⟩ k) (hx:ev E x=some (.func (.func f) first caps):=by rfl) (ha:evs E xs=some args:=by rfl) (hall:first.toList++args++caps.toList=all:=by rfl) (hg:gdB ops E g=some (bb,want):=by rfl) (hb:bb=want:=by exact ay) (hd:inB N d=true:=by rfl) (hf:Xz P f:=by first|infer_instance|exact ⟨ac⟩) (hc:Ct P f all.toArray [r] X1 Post) (hA:At r nullR loc loc':=by (repeat (first|exact At.here _|apply At.there))) (hX:∀ w,X w→X1 w:=by (first|exact fun _ _=>trivial|exact fun _ h=>h|exact fun _ h=>h.1|exact fun _ h=>h.2)) :
  Sw P N av bor w0 ops (⟨d,.call ⟨.value x,xs.toArray,ats⟩,ty,pos,af,g⟩::rest) ⟨E,loc,X⟩ k:=by
 obtain ⟨f',h1,h2⟩:=hA.perm
 refine d7 h1 ?_
 refine cr (pre:=[r]) (fr:=f') (Post:=Post) hx ha hall hg hb hd hf hc hX fun u R X' hp=>?_
 refine qp (fun a w ok=>?_) (h u R X' hp)
 refine ok.via fun M G=>?_
 have G1:=(G.null).perm ((List.perm_middle (l₁:=R) (a:=nullR) (l₂:=f')).symm.append_right M)
 exact G1.perm (((Qb R).append h2.symm).append_right M)
theorem sz {E':Env} {l':List Xi} {X':World→Prop} (he:sub E E') (hl:loc.Perm l') (hx:∀ w,X w→X' w):∀ a w,Ok N av bor w0 ⟨E,loc,X⟩ a w→Ok N av bor w0 ⟨E',l',X'⟩ a w:=fun a w ok =>
 ak he (aj _) hx a w (ok.via fun M G=>G.perm (hl.append_right M))
theorem ti {c:Code} {l:List Xi} (hs:l.Sublist loc) (h:Cw P N av bor w0 c ⟨E,l,X⟩ K):Cw P N av bor w0 c ⟨E,loc,X⟩ K:=Cw.mk fun a w ok=>h.run a w (ok.via fun M G=>G.drop (hs.append_right M))
end
theorem bQ {P:Program} {f:FuncId} {fn:Func} {c:Code} {args:List Value} {pre:List Xi} {X:World→Prop} {Post:Value→List Xi→Prop} (N:Nat)
  (hf:P.funcs[f]?=some fn) (hb:fn.body=some c) (hN:fn.ntmps=N) (hn:Nat.ble args.length N=true)
  (h:∀ av bor w0,Cw P N av bor w0 c ⟨params 0 args,pre,X⟩ (ends P fn N fun u R _=>∃ R',R'.Sublist R∧Post u R')):Ct P f args.toArray pre X fun u R _=>Post u R:=Ct.mk fun w av G=>by
 have h1:=(eW (P:=P) (Post:=fun u R _=>∃ R',R'.Sublist R∧Post u R') N hf hb hN hn h).run w av G
 refine h1.mono fun e w' ⟨u,R,X',he,⟨R',hs,hp⟩,G'⟩=>⟨u,R',X',he,hp,G'.drop hs⟩
end Go.Proofs.YtamfbppnlomgfaaGreatDoor.Sy
namespace Go.Proofs.YtamfbppnlomgfaaGreatDoor
open Go Go.Proofs Sy Tryz
instance:TyMap prog 194 4 (keyD ByteArray):=⟨ac⟩
def setM (ks:List ByteArray):List (ByteArray×Value):=ks.map fun k=>(k,.bool true)
def sput:List ByteArray→ByteArray→List ByteArray
 | [],k=>[k]
 | k'::r,k=>bif Xj.eqb k k' then k::r else k'::sput r k
def sdel:List ByteArray→ByteArray→List ByteArray
 | [],_=>[]
 | k'::r,k=>bif Xj.eqb k k' then r else k'::sdel r k
theorem lH:∀ (ks:List ByteArray) (k:ByteArray),mput (setM ks) k (.bool true)=setM (sput ks k)
 | [],k=>rfl
 | k'::r,k=>by
  have ih:=lH r k
  simp only [setM] at ih
  simp only [setM,ZR,mput,sput]
  cases Xj.eqb k k' with
  | true=>rfl
  | false=>simp only [Zf,ih,ZR]
theorem lJ:∀ (ks:List ByteArray) (k:ByteArray),mdel (setM ks) k=setM (sdel ks k)
 | [],k=>rfl
 | k'::r,k=>by
  have ih:=lJ r k
  simp only [setM] at ih
  simp only [setM,ZR,mdel,sdel]
  cases Xj.eqb k k' with
  | true=>rfl
  | false=>simp only [Zf,ih,ZR]
theorem oV (q:Nat) (ks:List ByteArray) (k:ByteArray):Ct prog 173 #[.map (some q),.string k] [mapr q (setM ks)] (fun _=>True) fun u R _=>u=.tuple #[]∧R=[mapr q (setM (sput ks k))]:=by
 refine eD func173 ntmps173 fun av bor w0=>?_
 repeat' (first|refine gs ?_|(refine jA (κ:=ByteArray) (kk:=k) (l:=setM ks) (hA:=At.here _) ?_)|fail)
 rw [lH]
 repeat' (first|refine gs ?_|fail)
 exact bj (aX rfl) ⟨rfl,rfl⟩
theorem jF (q:Nat) (ks:List ByteArray) (k:ByteArray):Ct prog 174 #[.map (some q),.string k] [mapr q (setM ks)] (fun _=>True) fun u R _=>u=.tuple #[]∧R=[mapr q (setM (sdel ks k))]:=by
 refine eD func174 ntmps174 fun av bor w0=>?_
 repeat' (first|refine gs ?_|(refine oM (κ:=ByteArray) (kk:=k) (l:=setM ks) (hA:=At.here _) ?_)|fail)
 rw [lJ]
 repeat' (first|refine gs ?_|fail)
 exact bj (aX rfl) ⟨rfl,rfl⟩
theorem jC (l:List ByteArray):l.map encB=(strs l).flatten:=by
 induction l with
 | nil=>rfl
 | cons a l ih =>
  simp only [strs,ZR,Z0] at ih ⊢
  rw [ih]
  rfl
theorem lk (l:List ByteArray):∀ r∈strs l,r.length=1:=by
 intro r hr
 simp only [strs,Qt] at hr
 obtain ⟨x,_,rfl⟩:=hr
 rfl
theorem fQ {w:World} {e n c:Nat} {A:Option Addr} {l:List ByteArray} (h:ORow w e 1 (.slice A n c) n (l.map encB)) (hn:n=l.length):Strs w ⟨A,n,c⟩ l:=by
 rw [jC] at h
 exact aW h (by simpa [strs] using hn) (lk l)
structure TieS where
 f:List ByteArray
 a:List ByteArray
 b:List ByteArray
 m:List ByteArray
def setsV (q1 q2 q3 q4:Nat):Value:=.agg #[.map (some q1),.map (some q2),.map (some q3),.map (some q4)]
def setsR (q1 q2 q3 q4:Nat) (t:TieS):List Xi:=[mapr q4 (setM t.m),mapr q3 (setM t.b),mapr q2 (setM t.a),mapr q1 (setM t.f)]
def undoT (t:TieS) (x:Xa):TieS :=
 bif decide (x.kind=7) then { t with f:=sdel t.f x.target } else bif decide (x.kind=8) then { t with a:=sdel t.a x.target } else bif decide (x.kind=10) then { t with b:=sdel t.b x.target } else bif decide (x.kind=11) then { t with m:=sdel t.m x.target } else t
theorem r7 (q1 q2 q3 q4:Nat) (t:TieS) (x:Xa):Ct prog 175 #[setsV q1 q2 q3 q4,x.v] (setsR q1 q2 q3 q4 t) (fun _=>True) fun u R _=>u=.tuple #[]∧R=setsR q1 q2 q3 q4 (undoT t x):=by
 refine bQ (args:=[_,_]) (Post:=fun u R=>u=.tuple #[]∧R=setsR q1 q2 q3 q4 (undoT t x)) _ func175 rfl ntmps175 rfl fun av bor w0=>?_
 unfold setsR
 repeat' (first|(refine dC (hc:=jF _ _ _) (hX:=fun _ _=>trivial) ?_)|refine gs ?_|refine gs1 fun _=>?_|(refine gp ?_ ?_<;>intro hx_ this)|fail)
 all_goals (
  refine bj (aX rfl) ⟨_,ZS _ (ZS _ (aj _)),rfl,?_⟩
  simp only [undoT, *,Int.reduceEq,Za,Zg,Zf])
def limN (n:Int) (len:Nat):Nat:=(if (len:Int)<(if n<0 then 0 else n) then (len:Int) else (if n<0 then 0 else n)).toNat
theorem f5 (n:Int) (len:Nat):limN n len=min n.toNat len:=by
 unfold limN
 split<;>split<;>omega
def stepT (l:List Xa) (i:Nat) (t:TieS) (x:Xa):TieS :=
 bif decide (x.kind=7) then { t with f:=sput t.f x.target } else bif decide (x.kind=8) then { t with a:=sput t.a x.target } else bif decide (x.kind=9) then { t with a:=sdel t.a x.target }
 else bif decide (x.kind=10) then { t with b:=sput t.b x.target,f:=sdel t.f x.target,a:=sdel t.a x.target } else bif decide (x.kind=11) then { t with m:=sput t.m x.target }
 else bif decide (x.kind=6) then (match idxV l x.object with|some j=>bif decide ((j:Int)<(i:Int)) then undoT t (l.getD j Xa.zero) else t|none=>t) else t
def tieF (l:List Xa):Nat→TieS
 | 0=>⟨[],[],[],[]⟩
 | i+1=>stepT l i (tieF l i) (l.getD i Xa.zero)
def tieV (l:List Xa) (n:Int):TieS:=tieF l (limN n l.length)
theorem kJ {l:List Xa} {d:ByteArray} {j:Nat} (h:idxV l d=some j):j<l.length:=by
 rw [idxV,Qn] at h
 exact h.1
theorem Acts.cap_ {w:World} {s:Xh} {l:List Xa} (h:Acts w s l):s.n≤s.c:=Xd.cap h.1
theorem tW (c:Xb) (hc:Xr c.actsL) (n:Int):Ct prog 137 #[c.v,.int .i64 n] [] (fun w=>c.at_ w∧Xc w) fun u R _=>∃ q1 q2 q3 q4,u=setsV q1 q2 q3 q4∧R=setsR q1 q2 q3 q4 (tieV c.actsL n):=by
 refine bQ (args:=[_,_]) (Post:=fun u R=>∃ q1 q2 q3 q4,u=setsV q1 q2 q3 q4∧R=setsR q1 q2 q3 q4 (tieV c.actsL n)) _ func137 rfl ntmps137 rfl fun av bor w0=>?_
 refine aK (p:=c.acts.n=c.actsL.length∧c.acts.n≤maxLen∧(0<c.actsL.length→c.acts.p.isSome=true)∧c.acts.n≤c.acts.c) (fun w h=>⟨h.1.len_,h.1.max_,h.1.some_,h.1.cap_⟩) fun ⟨hl,hm,hp,hcap⟩=>?_
 simp only [maxLen] at hm
 have hlim:=f5 n c.acts.n
 have hlN:limN n c.acts.n≤c.acts.n:=by omega
 repeat' (first|refine gs ?_|refine gs1 fun _=>?_|(refine fF ByteArray (h:=fun _=>?_))|(refine aI ?_)|fail)
 refine r9 (h0:=by split<;>split<;>omega) (h1:=by split<;>split<;>omega) ?_
 repeat' (first|refine gs ?_|refine gs1 fun _=>?_|fail)
 rename_i b2 b4 q1 q2 q3 q4 b5
 refine az (ι:=Kth (limN n c.acts.n)) (fun i=>⟨[(2,.pointer (some ⟨b2,0,none⟩)),(4,.pointer (some ⟨b4,0,none⟩)),(5,.pointer (some ⟨b5,0,none⟩)),(24,.slice c.acts.p (limN n c.acts.n) c.acts.c),(25,.int .i64 (limN n c.acts.n)),(26,.int .i64 i.k)],
  setsR q1 q2 q3 q4 (tieF c.actsL i.k)++[cel b5 196 (setsV q1 q2 q3 q4).cells.toList,cel b4 196 [.map none,.map none,.map none,.map none],cel b2 26 c.cells],fun w=>c.at_ w∧Xc w⟩) (fun i=>limN n c.acts.n-i.k) ⟨0,ZU _⟩
  (sz ⟨rfl,rfl,rfl,rfl,rfl,rfl,trivial⟩ (List.perm_middle (l₁:=setsR q1 q2 q3 q4 ⟨[],[],[],[]⟩) (a:=cel b5 196 (setsV q1 q2 q3 q4).cells.toList) (l₂:=[cel b4 196 [.map none,.map none,.map none,.map none],cel b2 26 c.cells])).symm fun _ h=>h) fun i=>?_
 have hik:=i.hk
 repeat' (first|refine gs ?_|refine gs1 fun _=>?_|(refine gp ?_ ?_<;>intro hx_ this)|fail)
 · have hlt:i.k<limN n c.acts.n:=by omega
   have hltL:i.k<c.actsL.length:=by omega
   have hp':=hp ab
   obtain ⟨x,hx⟩:∃ x,c.actsL[i.k]?=some x:=⟨_,Zc hltL⟩
   have hstep:tieF c.actsL (i.k+1)=stepT c.actsL i.k (tieF c.actsL i.k) x:=by simp only [tieF,Zl,hx,Z3]
   generalize ht:tieF c.actsL i.k=t at *
   unfold setsR
   repeat' (first|(refine dC (hc:=oV _ _ _) (hX:=fun _ _=>trivial) ?_)|(refine dC (hc:=jF _ _ _) (hX:=fun _ _=>trivial) ?_)|refine gs ?_|refine gs1 fun _=>?_|(refine aA (q:=i.k*20) ?_)|(refine aO (cs:=x.cells) (hF:=fun w h=>Acts.get h.1 hx) ?_)|(refine gp ?_ ?_<;>intro hx_ this)|fail)
   all_goals first
    | exact ⟨(⟨i.k+1,hlt⟩:Kth (limN n c.acts.n)),(by show limN n c.acts.n-(i.k+1)<limN n c.acts.n-i.k;omega),ak aw (ZS _ (by
      rw [hstep]
      simp only [stepT,setsR, *,Za,Zg,Zf]
      exact aj _)) fun _ h=>h⟩
    | skip
   rcases ho:idxV c.actsL x.object with _|j
   · have hip:Pu prog 71 #[c.v,.string x.object] (fun w=>c.at_ w∧Xc w) (.tuple #[.int .i64 0,.bool false]):=by have:=jc c hc x.object;rwa [ho] at this
     repeat' (first|refine ae (hc:=hip) ?_|refine gs ?_|refine gs1 fun _=>?_|(refine gp ?_ ?_<;>intro hx_ this)|fail)
     exact ⟨(⟨i.k+1,hlt⟩:Kth (limN n c.acts.n)),(by show limN n c.acts.n-(i.k+1)<limN n c.acts.n-i.k;omega),ak aw (ZS _ (by
       rw [hstep]
       simp only [stepT,setsR, *,Za,Zg,Zf]
       exact aj _)) fun _ h=>h⟩
   · have hip:Pu prog 71 #[c.v,.string x.object] (fun w=>c.at_ w∧Xc w) (.tuple #[.int .i64 (j:Int),.bool true]):=by have:=jc c hc x.object;rwa [ho] at this
     have hjl:=kJ ho
     obtain ⟨y,hy⟩:∃ y,c.actsL[j]?=some y:=⟨_,Zc hjl⟩
     have hgy:c.actsL.getD j Xa.zero=y:=by simp [hy]
     repeat' (first|refine ae (hc:=hip) ?_|refine gs ?_|refine gs1 fun _=>?_|(refine gp ?_ ?_<;>intro hx_ this)|fail)
     · refine ti (ZS _ (aj _)) ?_
       (refine aw_draw ⟨[1,3],[(0,⟨[],[(2,⟨[4],[(5,⟨[],[(6,⟨[],[]⟩)]⟩)]⟩)]⟩),(2,⟨[4],[(0,⟨[],[(5,⟨[],[(6,⟨[],[]⟩)]⟩)]⟩),(5,⟨[],[(0,⟨[],[(6,⟨[],[]⟩)]⟩)]⟩)]⟩)]⟩ [] (fun _=>True) (h:=?_))
       all_goals repeat' (first|((refine cr (pre:=setsR q1 q2 q3 q4 t) (fr:=[cel b5 196 (setsV q1 q2 q3 q4).cells.toList,cel b4 196 [.map none,.map none,.map none,.map none],cel b2 26 c.cells]) (hc:=r7 q1 q2 q3 q4 t y) (hX:=fun _ _=>trivial) (h:=?_);rintro _ _ X' ⟨rfl,rfl⟩))|refine gd ?_|refine aH (hy:=by first|(apply du (q:=j*20);rfl;rfl;omega;omega;assumption;omega)) ?_|refine aE ?_ (h':=?_)|exact aF|(refine aO (cs:=y.cells) (hF:=fun w h=>Acts.get h.1 hy) ?_)|refine gs1 fun _=>?_|(refine gq ?_ ?_<;>intro hx_ this)|fail)
       all_goals (repeat' (first|refine gs ?_|refine gs1 fun _=>?_|(refine gp ?_ ?_<;>intro hx_ this)|fail))
       all_goals exact ⟨(⟨i.k+1,hlt⟩:Kth (limN n c.acts.n)),(by show limN n c.acts.n-(i.k+1)<limN n c.acts.n-i.k;omega),ak aw (by
        rw [hstep]
        simp only [stepT, *,Za,Zg,Zf]
        exact aj _) fun _ h=>h.1⟩
     · exact ⟨(⟨i.k+1,hlt⟩:Kth (limN n c.acts.n)),(by show limN n c.acts.n-(i.k+1)<limN n c.acts.n-i.k;omega),ak aw (ZS _ (by
        rw [hstep]
        simp only [stepT,setsR, *,Za,Zg,Zf]
        exact aj _)) fun _ h=>h⟩
 have hk:i.k=limN n c.acts.n:=by omega
 refine aa (aP rfl rfl aB (by rfl)) ⟨setsR q1 q2 q3 q4 (tieF c.actsL i.k),ZT _ (ZT _ (ZT _ (ZT _ (Zq _)))),q1,q2,q3,q4,rfl,?_⟩
 rw [tieV,←hl,hk]
structure LBnd (k:Nat) (l:List ByteArray):Prop where
 len:l.length≤k
 size:∀ x∈l,x.size≤maxLen
theorem LBnd.mono {k k':Nat} {l:List ByteArray} (h:LBnd k l) (hk:k≤k'):LBnd k' l:=⟨ZO h.len hk,h.size⟩
theorem eL {k:Nat} {x:ByteArray} (hx:x.size≤maxLen):∀ {l:List ByteArray},LBnd k l→LBnd (k+1) (sput l x)
 | [],_=>⟨by simp [sput],by simp [sput,hx]⟩
 | a::r,h=>by
  simp only [sput]
  cases Xj.eqb x a with
  | true=>exact ⟨by have:=h.len;simp at this ⊢;omega,fun y hy=>by rcases ZC.1 hy with rfl|hy;exact hx;exact h.size y (Zr _ hy)⟩
  | false =>
   cases k with
   | zero=>have:=h.len;simp at this
   | succ k =>
    have ih:=eL (k:=k) hx (l:=r) ⟨by have:=h.len;simp at this;omega,fun y hy=>h.size y (Zr _ hy)⟩
    exact ⟨by have:=ih.len;simp;omega,fun y hy=>by rcases ZC.1 hy with rfl|hy;exact h.size _ aC;exact ih.size y hy⟩
theorem cW {k:Nat} {x:ByteArray}:∀ {l:List ByteArray},LBnd k l→LBnd k (sdel l x)
 | [],h=>h
 | a::r,h=>by
  simp only [sdel]
  cases Xj.eqb x a with
  | true=>exact (show LBnd k r from ⟨by have:=h.len;simp at this;omega,fun y hy=>h.size y (Zr _ hy)⟩)
  | false =>
   cases k with
   | zero=>have:=h.len;simp at this
   | succ k =>
    have ih:=cW (k:=k) (x:=x) (l:=r) ⟨by have:=h.len;simp at this;omega,fun y hy=>h.size y (Zr _ hy)⟩
    exact ⟨by have:=ih.len;simp;omega,fun y hy=>by rcases ZC.1 hy with rfl|hy;exact h.size _ aC;exact ih.size y hy⟩
structure TBnd (k:Nat) (t:TieS):Prop where
 f:LBnd k t.f
 a:LBnd k t.a
 b:LBnd k t.b
 m:LBnd k t.m
theorem TBnd.mono {k k':Nat} {t:TieS} (h:TBnd k t) (hk:k≤k'):TBnd k' t:=⟨h.f.mono hk,h.a.mono hk,h.b.mono hk,h.m.mono hk⟩
theorem oF {k:Nat} {t:TieS} (h:TBnd k t) (x:Xa):TBnd k (undoT t x):=by
 unfold undoT
 cases decide (x.kind=7)<;>cases decide (x.kind=8)<;>cases decide (x.kind=10)<;>cases decide (x.kind=11)
 all_goals first
  | exact ⟨cW h.f,h.a,h.b,h.m⟩
  | exact ⟨h.f,cW h.a,h.b,h.m⟩
  | exact ⟨h.f,h.a,cW h.b,h.m⟩
  | exact ⟨h.f,h.a,h.b,cW h.m⟩
  | exact h
theorem oO {k i:Nat} {l:List Xa} {t:TieS} (h:TBnd k t) {x:Xa} (hx:x.target.size≤maxLen):TBnd (k+1) (stepT l i t x):=by
  have h':=h.mono (Nat.le_succ k)
  unfold stepT
  cases decide (x.kind=7)<;>cases decide (x.kind=8)<;>cases decide (x.kind=9)<;>cases decide (x.kind=10)<;>cases decide (x.kind=11)<;>cases decide (x.kind=6)
  all_goals first
    | exact ⟨eL hx h.f,h'.a,h'.b,h'.m⟩
    | exact ⟨h'.f,eL hx h.a,h'.b,h'.m⟩
    | exact ⟨h'.f,cW h'.a,h'.b,h'.m⟩
    | exact ⟨cW h'.f,cW h'.a,eL hx h.b,h'.m⟩
    | exact ⟨h'.f,h'.a,h'.b,eL hx h.m⟩
    | exact h'
    | (simp only [Zg,Zf]
       split
       · rename_i j hj
         cases decide ((j:Int)<(i:Int)) with
         | true=>exact oF h' _
         | false=>exact h'
       · exact h')
theorem k8:Xa.zero.target.size≤maxLen:=by decide
theorem lg {l:List Xa} (hs:∀ a∈l,a.Sm):∀ k,TBnd k (tieF l k)
 | 0=>⟨⟨by simp [tieF],by simp [tieF]⟩,⟨by simp [tieF],by simp [tieF]⟩,⟨by simp [tieF],by simp [tieF]⟩,⟨by simp [tieF],by simp [tieF]⟩⟩
 | k+1=>by
  refine oO (lg hs k) ?_
  rcases Nat.lt_or_ge k l.length with h|h
  · rw [Zl,Zc h]
    exact (hs _ (ZI h)).target
  · rw [Zl,List.getElem?_eq_none h]
    exact k8
theorem lf {l:List Xa} (hs:Xr l) (n:Int):TBnd l.length (tieV l n):=(lg hs.sm _).mono (by rw [f5];omega)
def TiesAt (t:TieS) (u:Value) (X:World→Prop):Prop:=∃ s1 s2 s3 s4:Xh,u=.agg #[s1.v,s2.v,s3.v,s4.v]∧∀ w,X w→Strs w s1 (sortB t.f)∧Strs w s2 (sortB t.a)∧Strs w s3 (sortB t.b)∧Strs w s4 (sortB t.m)
theorem ea {w:World} {e n c:Nat} {A:Option Addr} {l:List ByteArray} (h:(orow e 1 (.slice A n c) n ((sortB l).map encB)).F w) (hn:n=l.length):Strs w ⟨A,n,c⟩ (sortB l):=fQ h (by rw [jD,hn])
def hasS (l:List ByteArray) (x:ByteArray):Bool:=l.any fun y=>seqB x y
def idxS (l:List ByteArray) (x:ByteArray):Int:=match l.findIdx? (fun y=>seqB x y) with|some k=>(k:Int)|none=>-1
theorem mZ {l:List ByteArray} {x:ByteArray} (i:Ec l.length (fun k=>seqB x (l.getD k .empty))) (hlt:i.k<l.length) (hb:seqB x (l.getD i.k .empty)=true):idxS l x=i.k:=by
 have:l.findIdx? (fun y=>seqB x y)=some i.k:=by
  rw [Qn]
  refine ⟨hlt,by simpa [hlt] using hb,fun j hj=>?_⟩
  have h1:=i.ok j hj
  have hj':j<l.length:=by omega
  simp [hj'] at h1
  simp [h1]
 simp only [idxS,this]
theorem pk {l:List ByteArray} {x:ByteArray} (i:Ec l.length (fun k=>seqB x (l.getD k .empty))) (h:¬ i.k<l.length):idxS l x=-1:=by
 have:l.findIdx? (fun y=>seqB x y)=none:=by
  rw [List.findIdx?_eq_none_iff]
  intro y hy
  obtain ⟨k,hk,rfl⟩:=Qj hy
  have h1:=i.ok k ab
  simpa [hk] using h1
 simp only [idxS,this]
theorem rf (l:List ByteArray) (x:ByteArray):decide (0≤idxS l x)=hasS l x:=by
 unfold idxS hasS
 cases h:l.findIdx? (fun y=>seqB x y) with
 | some k =>
  rw [Qn] at h
  obtain ⟨h1,h2,_⟩:=h
  have:l.any (fun y=>seqB x y)=true:=List.any_eq_true.2 ⟨l[k],ZI h1,h2⟩
  rw [this]
  exact Ze (show (0:Int)≤(k:Int) by omega)
 | none =>
  rw [List.findIdx?_eq_none_iff] at h
  have:l.any (fun y=>seqB x y)=false:=List.any_eq_false.2 fun y hy=>by simp [h y hy]
  rw [this]
  rfl
def eqBad (l m:List ByteArray) (k:Nat):Bool:=!seqB (l.getD k .empty) (m.getD k .empty)
def eqL (l m:List ByteArray):Bool:=decide (l.length=m.length)&&allB l.length (eqBad l m)
theorem pG (s r:Xh) (l m:List ByteArray):Pu prog 136 #[s.v,r.v] (fun w=>Strs w s l∧Strs w r m) (.bool (eqL l m)):=by
 refine ax func136 ntmps136 fun av bor w0=>?_
 refine aK (p:=(s.n=l.length∧s.n≤maxLen∧(0<l.length→s.p.isSome=true))∧(r.n=m.length∧r.n≤maxLen∧(0<m.length→r.p.isSome=true))) (fun w h=>⟨⟨h.1.len_,ZO (Xd.cap h.1) (Xd.max h.1),h.1.some_⟩,⟨h.2.len_,ZO (Xd.cap h.2) (Xd.max h.2),h.2.some_⟩⟩) fun ⟨⟨hl,hm,hp⟩,⟨hl',hm',hp'⟩⟩=>?_
 simp only [maxLen] at hm hm'
 repeat' (first|refine gs ?_|(refine gp ?_ ?_<;>intro hx_ this)|fail)
 · apply aa;apply ai;rfl;rfl
   have:¬ l.length=m.length:=by
    have h1:¬ (s.n:Int)=(r.n:Int):=by simpa using hx_
    omega
   simp only [eqL,Zd this,Bool.false_and]
 have hlm:l.length=m.length:=by
  have h1:(s.n:Int)=(r.n:Int):=by simpa using hx_
  omega
 refine az (ι:=Ec l.length (eqBad l m)) (fun i=>⟨[(0,s.v),(1,r.v),(12,.int .i64 s.n),(13,.int .i64 i.k)],[],fun w=>Strs w s l∧Strs w r m⟩) (fun i=>l.length-i.k) (Ec.zero _ _) (ak (by repeat (first|exact trivial|refine ⟨rfl,?_⟩)) (aj _) fun _ h=>h) fun i=>?_
 have hik:=i.hk
 repeat' (first|refine gs ?_|(refine gp ?_ ?_<;>intro hx_ this)|fail)
 · have hlt:i.k<l.length:=by omega
   have hlt':i.k<m.length:=by omega
   have hp1:=hp ab
   have hp2:=hp' ab
   (refine aJ ⟨[0,1,2,3,4,5,6,7,8],[]⟩ (h:=?_))
   all_goals repeat' (first|refine gd ?_|refine aH (hy:=by first|(apply du (q:=i.k);rfl;rfl;omega;omega;assumption;omega)|(apply iz;rfl;exact fun w h=>Strs.get h.1 hlt)|(apply iz;rfl;exact fun w h=>Strs.get h.2 hlt')) ?_|refine aE ?_ (h':=?_)|exact aF|(refine gq ?_ ?_<;>intro hx_ this)|fail)
   repeat' (first|refine gs ?_|(refine gp ?_ ?_<;>intro hx_ this)|fail)
   · apply aa;apply ai;rfl;rfl
     rw [eqL,fL hlt (by assumption),Zi]
   · exact ⟨i.next hlt (by assumption),(by show l.length-(i.k+1)<l.length-i.k;omega),ak (by repeat (first|exact trivial|refine ⟨rfl,?_⟩)) (aj _) fun _ h=>h⟩
 · apply aa;apply ai;rfl;rfl
   rw [eqL,i.all ab,Ze hlm]
   rfl
def XC (c:Xb) (w:World):Prop:=c.at_ w∧Xc w
theorem XC.know {c:Xb}:∀ w,XC c w→c.acts.n=c.actsL.length∧c.acts.n≤maxLen∧(0<c.actsL.length→c.acts.p.isSome=true)∧c.acts.n≤c.acts.c:=fun w h=>⟨h.1.len_,h.1.max_,h.1.some_,h.1.cap_⟩
theorem lx {P:Program} {fn:Func} {N t u r:Nat} {s:St} {v x y:Value} (hr:fn.results=#[.tmp t,.tmp u,.tmp r]) (h:Sy.look s.env t=some v) (h':Sy.look s.env u=some x) (h2:Sy.look s.env r=some y):Res1 P fn N s (.tuple #[v,x,y]):=fun av bor w0 a w ok=>by
 have h3:=ok.env t v h
 have h4:=ok.env u x h'
 have h5:=ok.env r y h2
 simp [results,hr,h3,h4,h5]
theorem gx (l:List ByteArray):∀ cs∈strs l,cs.all (·.oneCell')=true:=fun cs hcs=>by simp only [strs,Qt] at hcs;obtain ⟨x,_,rfl⟩:=hcs;rfl
theorem fR {e n:Nat} {v:Value} {ss:List ByteArray} (hn:n≤1000000000):Ct prog 86 #[v] [orow e 1 v n (ss.map encB)] (fun _=>True) fun u R _=>u=.tuple #[]∧R=[orow e 1 v n ((sortB ss).map encB)]:=by
 have h:=sortS_c.ct (e:=e) (n:=n) (v:=v) (ss:=ss.map bl) hn
 rw [lK ss]
 refine h.mono fun u R X' ⟨h1,h2⟩=>⟨h1,?_⟩
 rw [h2,fH,sortB]
def StrsAt (l:List ByteArray) (u:Value) (X:World→Prop):Prop:=∃ s:Xh,u=s.v∧∀ w,X w→Strs w s l
theorem dE {p:ByteArray→Bool} (L:List ByteArray) {k:Nat} (h:k<L.length):(L.take (k+1)).filter p=(L.take k).filter p++(bif p (L.getD k .empty) then [L.getD k .empty] else []):=by
 rw [Z5,Qi,Zc h,Zl,Zc h]
 simp only [Qh,Z3,List.filter_cons,List.filter_nil]
 cases p L[k]<;>rfl
end Go.Proofs.YtamfbppnlomgfaaGreatDoor
namespace Go.Proofs.YtamfbppnlomgfaaGreatDoor.Sy
open Go Go.RowKit
theorem CellAt.shift {w:World} {p:Option Addr} {k q:Nat} {u:Value}:CellAt w (p.map (·.add k)) q u↔CellAt w p (k+q) u:=by
 cases p with
 | none=>simp [CellAt]
 | some a=>simp [CellAt,dp]
theorem Xd.take {w:World} {size:Nat} {s:Xh} {xs:List (List Value)} (h:Xd w size s xs) {n:Nat} (hn:n≤xs.length):Xd w size ⟨s.p,n,s.c⟩ (xs.take n):=by
 refine ⟨by rw [Z7];show n=_;omega,by have:=h.cap;have:=h.len;show n≤s.c;omega,h.max,fun i cs hi=>h.row i cs ?_⟩
 rw [Qr] at hi
 split at hi
 · exact hi
 · cases hi
def Xh.from (s:Xh) (size n:Nat):Xh:=⟨if s.c=n then s.p else s.p.map (·.add (n*size)),s.n-n,s.c-n⟩
theorem Xd.drop {w:World} {size:Nat} {s:Xh} {xs:List (List Value)} (h:Xd w size s xs) {n:Nat} (hn:n≤xs.length):Xd w size (s.from size n) (xs.drop n):=by
 have h1:=h.len
 have h2:=h.cap
 have h3:=h.max
 refine ⟨by rw [Qf];show s.n-n=_;omega,by show s.n-n≤s.c-n;omega,by show s.c-n≤maxLen;omega,fun i cs hi=>?_⟩
 rw [List.getElem?_drop] at hi
 have hlt:=(Qu.1 hi).1
 have hr:=h.row (n+i) cs hi
 have e:(s.from size n).p=s.p.map (·.add (n*size)):=by unfold Xh.from;rw [ZH (by omega)]
 refine ⟨hr.1,by rw [e];simpa using hr.2.1,fun j u hj=>?_⟩
 rw [e,CellAt.shift,←ZB,←Qp]
 exact hr.2.2 j u hj
section
variable {P:Program} {N:Nat} {av bor:List Nat} {w0:World} {ops:Array Oper} {rest:List Oper} {k:St→Prop} {E:Env} {loc loc':List Xi} {X:World→Prop}
variable {d:Option Tmp} {ty:TypeId} {pos:String} {af:Array Edge} {g:Option (Nat×Bool)} {bb want:Bool} {K:Exit→St→Prop}
theorem tN {st:St} {x y:Operand} {t e size b':Nat} [hI:Xu P t e size b'] {s:Xh} {kk:IntKind} {i:Int} (hx:ev st.env x=some s.v) (hy:ev st.env y=some (.int kk i)) (h0:0≤i) (h1:i≤(s.n:Int)) :
  Sy.Yields P N av bor w0 st (.slice t x (some y) none none) ty (s.from size i.toNat).v:=Sy.Yields.mk fun A w ok d pos af g=>by
 obtain ⟨p,m,c⟩:=s
 obtain ⟨hu,inf,hi,hs,hb⟩:=aY hI.out
 have hz:=run_sizeOf (P:=P) (w:=w) (t:=e) (n:=size) (by simp [hi,hs])
 have hx':ev st.env x=some (.slice p m c):=hx
 have h1':i≤(m:Int):=h1
 simp [execOp,ok.eval hx',ok.eval hy,Instr.sliceAt,run_underlying hu,Instr.slice,Instr.sliceBounds,run_sliceBound,h0,h1',hz,Xh.v,Xh.from]
theorem jX (size:Nat):∀ (vs:List Value) (k:Nat) (pre z:List Value),(∀ v∈vs,v.cells.size=size)→pre.length=k*size→z.length=vs.length*size →
  Instr.fill (fun i=>some (i*size,size)) (pre++z).toArray ((vs.zipIdx k).map fun p=>(p.2,p.1))=some (pre++vs.flatMap fun v=>v.cells.toList).toArray
 | [],k,pre,z,_,_,hz=>by
  have:z=[]:=ZY (by simpa using hz)
  subst this
  simp [Instr.fill]
 | v::vs,k,pre,z,h1,hp,hz=>by
  have hv:=h1 v aC
  have hvl:v.cells.toList.length=size:=by simpa using hv
  simp only [Zx,Qp,Nat.one_mul] at hz
  have ih:=jX size vs (k+1) (pre++v.cells.toList) (z.drop size) (fun u hu=>h1 u (Zr _ hu)) (by rw [Zw,hp,hvl,Qp,Nat.one_mul]) (by rw [Qf];omega)
  have h3:=jg pre.length v.cells.toList 0 (pre++z).toArray (by simp;omega)
  have h4:(v.cells.zipIdx.foldl (fun cs (p:Value×Nat)=>cs.setIfInBounds (k*size+p.2) p.1) (pre++z).toArray)=(pre++v.cells.toList++z.drop size).toArray:=by
   rw [←Array.foldl_toList,Array.toList_zipIdx,←hp,h3]
   simp [hv]
  simp only [List.zipIdx_cons,ZR,Instr.fill]
  have hc:¬ ((decide (v.cells.size≠size)||decide (k*size+v.cells.size>(pre++z).toArray.size))=true):=by
   simp [hv];omega
  rw [ZH hc,h4,ih]
  simp [List.flatMap_cons]
theorem bT {n len:Nat} {t e size b':Nat} [hs:Xu P t e size b'] {z:Value} [hz:Xl P e z] {parts:List (Nat×Operand)} {vs css:List Value} (h:∀ b,Sw P N av bor w0 ops rest ⟨(n,.slice (some ⟨b,0,none⟩) len len)::E,cel b e css::loc,X⟩ k) (hzs:z.cells.size=size:=by rfl) (hp:partsOf E 0 parts=some vs:=by rfl) (hl:vs.length=len:=by rfl) (hsz:(vs.all fun v=>v.cells.size==size)=true) (hcs:(vs.flatMap fun v=>v.cells.toList)=css) (hpos:Nat.ble (len*size) 1000000=true:=by rfl) (h0:Nat.blt 0 (len*size)=true:=by rfl) (hg:gdB ops E g=some (bb,want):=by rfl) (hb:bb=want:=by exact ay) (hd:Nat.blt n N=true:=by rfl):Sw P N av bor w0 ops (⟨some n,.buildSlice t len parts.toArray,ty,pos,af,g⟩::rest) ⟨E,loc,X⟩ k:=Sw.mk fun a w ok=>by
 have hd':inB N (some n)=true:=by have h1:n<N:=Zt hd;simpa [inB] using h1
 have hle:len*size≤1000000:=Zt hpos
 have hlt:0<len*size:=Zt h0
 obtain ⟨ht,inf,hi,hi1,hi2⟩:=aY hs.out
 have hsz1:(sizeOf e).run P w=.ok size w:=by simp [sizeOf,typeInfo,hi,hi1]
 have hzr:(zeroValue e).run P w=.ok z w:=cb hz.out w
 simp only [wpList]
 rw [aM ok (o:=⟨some n,.buildSlice t len parts.toArray,ty,pos,af,g⟩) hg]
 subst hb
 simp only [Zv,ZF]
 left
 unfold Oper.wp
 have hfill:∀ Z:Array Value,Z.size=len*size→Instr.fill (fun i=>some (i*size,size)) Z (parts.map fun p=>(p.1,a.eval p.2))=some css.toArray:=fun Z hZ=>by
  rw [di ok parts 0 vs hp,←hcs]
  have:=jX size vs 0 [] Z.toList (fun v hv=>by simpa using List.all_eq_true.1 hsz v hv) (by simp) (by simp [hZ,hl])
  simpa using this
 have hr:(execOp a.eval ⟨some n,.buildSlice t len parts.toArray,ty,pos,af,g⟩).run P w=.ok (.value (.slice (some ⟨w.heap.size,0,none⟩) len len)) (w.alloc (.cells css.toArray e)):=by
  have hn:¬ (16777216<len*size):=by omega
  have hne:¬ (len*size=0):=by omega
  have hne2:¬ (len=0∨size=0):=fun h=>hne (by rcases h with h|h<;>simp [h])
  have hf:=hfill ((Array.range (len*size)).map (fun x=>z.cells[x%z.cells.size]!)) (by simp)
  simp [execOp,Instr.buildSlice,run_underlying ht,hsz1,hzr,hne,hne2,hn,hf,cG]
 rw [hr]
 have ok':Ok N av bor w0 ⟨E,cel w.heap.size e css::loc,X⟩ a (w.alloc (.cells css.toArray e)):=(ok.via fun M G=>G.new _ _ fun _ h=>h)
 exact (h _).run _ _ (bw (some n) _▸ok'.put hd' _)
theorem bc {ι:Type} (M:ι→St) {x y:Code} {st:St} (h1:Cw P N av bor w0 x st (thn (fun s=>∃ i,∀ a w,Ok N av bor w0 s a w→Ok N av bor w0 (M i) a w) K)) (h2:∀ i,Cw P N av bor w0 y (M i) K) :
  Cw P N av bor w0 x st (thn (fun s=>Cw P N av bor w0 y s K) K):=ou (fun e s h=>by
 cases e with
 | normal =>
  obtain ⟨i,hi⟩:=h
  exact md hi (h2 i)
 | _=>exact h) h1
end
end Go.Proofs.YtamfbppnlomgfaaGreatDoor.Sy
namespace Go.Proofs.YtamfbppnlomgfaaGreatDoor.Sy
open Go Go.Proofs
theorem jy (a:ByteArray):a.toList=bl a:=by simp [bl,ByteArray.toList_eq]
theorem uw {a b:ByteArray} (h:bl a=bl b):a=b:=by rw [←nV a,←nV b,h]
theorem seqB_iff {a b:ByteArray}:seqB a b=true↔a=b:=by
 unfold seqB
 rw [jy,jy,beq_iff_eq]
 exact ⟨uw,fun h=>by rw [h]⟩
theorem bo (a:ByteArray):seqB a a=true:=seqB_iff.2 rfl
theorem seqB_ne {a b:ByteArray}:seqB a b=false↔a≠b:=by
 rw [←Bool.not_eq_true,seqB_iff]
theorem oW (a b:ByteArray):seqB a b=seqB b a:=by
 cases h:seqB b a with
 | true=>rw [seqB_iff.1 h];exact bo _
 | false=>exact seqB_ne.2 fun e=>seqB_ne.1 h e.symm
def ltB (a b:ByteArray):Bool:=Op.bytesLess a.toList b.toList
def Asc (l:List ByteArray):Prop:=l.Pairwise fun a b=>ltB a b=true
theorem Asc.getD {l:List ByteArray} (h:Asc l) {i j:Nat} (hij:i<j) (hj:j<l.length):ltB (l.getD i .empty) (l.getD j .empty)=true:=by
 rw [Zl,Zl,Zc hj,Zc (by omega)]
 exact List.pairwise_iff_getElem.1 h i j ab hj hij
end Go.Proofs.YtamfbppnlomgfaaGreatDoor.Sy
namespace Go.Proofs.YtamfbppnlomgfaaGreatDoor
open Go Go.Proofs Sy
section
variable {P:Program} {N:Nat} {av bor:List Nat} {w0:World} {ops:Array Oper} {rest:List Oper} {k:St→Prop} {E:Env} {loc:List Xi} {X:World→Prop}
theorem cJ {r:Xi} (h:Sw P N av bor w0 ops rest ⟨E,loc,fun w=>X w∧r.F w⟩ k):Sw P N av bor w0 ops rest ⟨E,r::loc,X⟩ k:=Sw.mk fun a w ok=>h.run a w (ok.via fun M G=>G.give)
end
theorem ll {w:World} {b e:Nat} {l:List ByteArray} (h:(cel b e (l.map encB)).F w) (hm:l.length≤maxLen):Strs w ⟨some ⟨b,0,none⟩,l.length,l.length⟩ l:=by
 have h1:(l.map encB)=(strs l).flatten:=jC l
 rw [h1] at h
 exact cX h (by simp [strs]) hm (lk l)
theorem rE (l:List ByteArray):eqL l l=true:=by
 rw [eqL,Ze rfl,Zh]
 refine j6 fun j hj=>?_
 simp [eqBad,seqB]
section
variable {P:Program} {N:Nat} {av bor:List Nat} {w0:World} {ops:Array Oper} {rest:List Oper} {kk:St→Prop} {E:Env} {loc:List Xi} {X:World→Prop} {x y:Operand} {t t2:TypeId}
variable {n:Nat} {ty:TypeId} {pos:String} {af:Array Edge} {g:Option (Nat×Bool)} {bb want:Bool}
theorem eZ {k:IntKind} {a b:Int} (h:Sw P N av bor w0 ops rest ⟨(n,.bool false)::E,loc,X⟩ kk) (hx:ev E x=some (.int k a):=by rfl) (hy:ev E y=some (.int k b):=by rfl) (hab:a=b:=by first|omega|decide) (hg:gdB ops E g=some (bb,want):=by rfl) (hbb:bb=want:=by exact ay) (hd:Nat.blt n N=true:=by rfl) :
  Sw P N av bor w0 ops (⟨some n,.binOp .neq t x y t2,ty,pos,af,g⟩::rest) ⟨E,loc,X⟩ kk:=fB (hx:=hx) (hy:=hy) (hg:=hg) (hbb:=hbb) (hd:=hd) (h:=by
   have e:∀ u,u=Value.bool false→Sw P N av bor w0 ops rest ⟨(n,u)::E,loc,X⟩ kk:=fun u hu=>hu▸h
   exact e _ (by simp [hab]))
theorem se {k:IntKind} {a b:Int} (h:Sw P N av bor w0 ops rest ⟨(n,.bool false)::E,loc,X⟩ kk) (hx:ev E x=some (.int k a):=by rfl) (hy:ev E y=some (.int k b):=by rfl) (hab:¬ b≤a:=by first|omega|decide) (hg:gdB ops E g=some (bb,want):=by rfl) (hbb:bb=want:=by exact ay) (hd:Nat.blt n N=true:=by rfl) :
  Sw P N av bor w0 ops (⟨some n,.binOp .geq t x y t2,ty,pos,af,g⟩::rest) ⟨E,loc,X⟩ kk:=fD (hx:=hx) (hy:=hy) (hg:=hg) (hbb:=hbb) (hd:=hd) (h:=by
   have e:∀ u,u=Value.bool false→Sw P N av bor w0 ops rest ⟨(n,u)::E,loc,X⟩ kk:=fun u hu=>hu▸h
   exact e _ (by simp only [Zd hab]))
theorem ij {k:IntKind} {a b:Int} (h:Sw P N av bor w0 ops rest ⟨(n,.bool false)::E,loc,X⟩ kk) (hx:ev E x=some (.int k a):=by rfl) (hy:ev E y=some (.int k b):=by rfl) (hab:¬ b<a:=by first|omega|decide) (hg:gdB ops E g=some (bb,want):=by rfl) (hbb:bb=want:=by exact ay) (hd:Nat.blt n N=true:=by rfl) :
  Sw P N av bor w0 ops (⟨some n,.binOp .gtr t x y t2,ty,pos,af,g⟩::rest) ⟨E,loc,X⟩ kk:=kq (hx:=hx) (hy:=hy) (hg:=hg) (hbb:=hbb) (hd:=hd) (h:=by
   have e:∀ u,u=Value.bool false→Sw P N av bor w0 ops rest ⟨(n,u)::E,loc,X⟩ kk:=fun u hu=>hu▸h
   exact e _ (by simp [hab]))
end
structure RowI where
 A:Option Addr
 c:Nat
def Xb.with (c:Xb) (s:Xh) (l:List Xa):Xb:={ c with acts:=s,actsL:=l }
theorem dW (l:List Xa):∀ r∈l.map Xa.cells,r.length=20:=by
 intro r hr
 obtain ⟨a,_,rfl⟩:=Qt.1 hr
 rfl
theorem cL {w:World} {e n c:Nat} {A:Option Addr} {l:List Xa} (h:ORow w e 20 (.slice A n c) n (l.map Xa.cells).flatten) (hn:n=l.length) (ha:∀ a∈l,a.at_ w):Acts w ⟨A,n,c⟩ l :=
 ⟨aW h (by simpa using hn) (dW l),ha⟩
theorem nb (l:List Xa):∀ cs∈l.map Xa.cells,cs.all (·.oneCell')=true:=by
 intro r hr
 obtain ⟨a,_,rfl⟩:=Qt.1 hr
 rfl
section
variable {P:Program} {N:Nat} {av bor:List Nat} {w0:World} {ops:Array Oper} {rest:List Oper} {kk:St→Prop} {E:Env} {loc:List Xi} {X:World→Prop} {x y:Operand} {t t2:TypeId}
variable {n:Nat} {ty:TypeId} {pos:String} {af:Array Edge} {g:Option (Nat×Bool)} {bb want:Bool}
end
section
variable {P:Program} {N:Nat} {av bor:List Nat} {w0:World} {ops:Array Oper} {rest:List Oper} {k:St→Prop} {E:Env} {loc:List Xi} {X:World→Prop}
variable {d:Option Tmp} {ty:TypeId} {pos:String} {af:Array Edge} {g:Option (Nat×Bool)} {bb want:Bool}
end
section
variable {P:Program} {N:Nat} {av bor:List Nat} {w0:World} {st:St} {x y:Operand} {t t2:TypeId} {ty:TypeId}
end
theorem il {P:Program} {f:FuncId} {args:Array Value} {X X':World→Prop} {v:Value} (h:Pu P f args X v) (hx:∀ w,X' w→X w):Pu P f args X' v:=by
 unfold Pu at *
 exact Ct.mk fun w av G=>(Ct.run h w av (G.imp hx)).mono fun e w' ⟨u,R,X1,he,hp,G'⟩=>⟨u,R,X1,he,hp,G'⟩
end Go.Proofs.YtamfbppnlomgfaaGreatDoor
namespace Go.Proofs.YtamfbppnlomgfaaGreatDoor.Sy
open Go Go.RowKit
section
variable {P:Program} {N:Nat} {av bor:List Nat} {w0:World}
variable {loc0:List Xi} {X0:World→Prop} {ops:Array Oper} {fuel:Nat} {listed:Array Bool} {E:Env} {loc:List Xi} {X:World→Prop} {k:St→Prop} {K:Exit→St→Prop}
variable {n:Nat} {o:Op} {ty:TypeId} {pos:String} {af:Array Edge} {g:Option (Nat×Bool)} {v:Value} {bb want:Bool}
end
end Go.Proofs.YtamfbppnlomgfaaGreatDoor.Sy
namespace Go.Proofs
open Go.Shelf
def Tryz.len64_ren:Go.Shelf.Ren:=⟨fun|129=>54|n=>n,fun|53=>108|3=>3|4=>4|46=>125|5=>5|9=>9|n=>n,fun|n=>n⟩
theorem Tryz.len64:Go.Proofs.Lays.n129 Tryz.prog Tryz.len64_ren:={
 mixed:=by kernel_rfl
 f129:=Tryz.func54.trans (congrArg some (by kernel_rfl))
 t3:=Tryz.underlying3
 a3:=Tryz.isAgg3
 z3:=Tryz.sizeOf3
 v3:=Tryz.zeroValue3
 t4:=Tryz.underlying4
 a4:=Tryz.isAgg4
 z4:=Tryz.sizeOf4
 v4:=Tryz.zeroValue4
 t5:=Tryz.underlying5
 a5:=Tryz.isAgg5
 z5:=Tryz.sizeOf5
 v5:=Tryz.zeroValue5
 t9:=Tryz.underlying9
 a9:=Tryz.isAgg9
 z9:=Tryz.sizeOf9
 v9:=Tryz.zeroValue9
 t46:=Tryz.underlying125
 a46:=Tryz.isAgg125
 z46:=Tryz.sizeOf125
 v46:=Tryz.zeroValue125
 t53:=Tryz.underlying108
 a53:=Tryz.isAgg108
 z53:=Tryz.sizeOf108
 v53:=Tryz.zeroValue108 }
def Tryz.mul64_ren:Go.Shelf.Ren:=⟨fun|264=>143|n=>n,fun|53=>108|46=>125|n=>n,fun|n=>n⟩
theorem Tryz.mul64:Go.Proofs.Lays.n264 Tryz.prog Tryz.mul64_ren:={
 mixed:=by kernel_rfl
 f264:=Tryz.func143.trans (congrArg some (by kernel_rfl))
 t46:=Tryz.underlying125
 a46:=Tryz.isAgg125
 z46:=Tryz.sizeOf125
 v46:=Tryz.zeroValue125
 t53:=Tryz.underlying108
 a53:=Tryz.isAgg108
 z53:=Tryz.sizeOf108
 v53:=Tryz.zeroValue108 }
def Tryz.join_ren:Go.Shelf.Ren:=⟨fun|156=>57|165=>94|166=>95|169=>96|240=>145|241=>146|276=>189|277=>190|n=>n,fun|31=>29|9=>9|3=>3|4=>4|0=>0|20=>20|72=>157|76=>161|70=>155|37=>124|75=>160|127=>206|164=>237|5=>5|80=>163|n=>n,fun|n=>n⟩
theorem Tryz.join:Go.Proofs.Lays.n156 Tryz.prog Tryz.join_ren:={
 mixed:=by kernel_rfl
 f156:=Tryz.func57.trans (congrArg some (by kernel_rfl))
 f165:=Tryz.func94.trans (congrArg some (by kernel_rfl))
 f166:=Tryz.func95.trans (congrArg some (by kernel_rfl))
 f169:=Tryz.func96.trans (congrArg some (by kernel_rfl))
 f240:=Tryz.func145.trans (congrArg some (by kernel_rfl))
 f241:=Tryz.func146.trans (congrArg some (by kernel_rfl))
 f276:=Tryz.func189.trans (congrArg some (by kernel_rfl))
 f277:=Tryz.func190.trans (congrArg some (by kernel_rfl))
 t0:=Tryz.underlying0
 a0:=Tryz.isAgg0
 z0:=Tryz.sizeOf0
 v0:=Tryz.zeroValue0
 t3:=Tryz.underlying3
 a3:=Tryz.isAgg3
 z3:=Tryz.sizeOf3
 v3:=Tryz.zeroValue3
 t4:=Tryz.underlying4
 a4:=Tryz.isAgg4
 z4:=Tryz.sizeOf4
 v4:=Tryz.zeroValue4
 t9:=Tryz.underlying9
 a9:=Tryz.isAgg9
 z9:=Tryz.sizeOf9
 v9:=Tryz.zeroValue9
 t20:=Tryz.underlying20
 a20:=Tryz.isAgg20
 z20:=Tryz.sizeOf20
 v20:=Tryz.zeroValue20
 t31:=Tryz.underlying29
 a31:=Tryz.isAgg29
 z31:=Tryz.sizeOf29
 v31:=Tryz.zeroValue29
 t37:=Tryz.underlying124
 a37:=Tryz.isAgg124
 z37:=Tryz.sizeOf124
 v37:=Tryz.zeroValue124
 t70:=Tryz.underlying155
 a70:=Tryz.isAgg155
 z70:=Tryz.sizeOf155
 v70:=Tryz.zeroValue155
 t72:=Tryz.underlying157
 a72:=Tryz.isAgg157
 z72:=Tryz.sizeOf157
 v72:=Tryz.zeroValue157
 t75:=Tryz.underlying160
 a75:=Tryz.isAgg160
 z75:=Tryz.sizeOf160
 v75:=Tryz.zeroValue160
 t76:=Tryz.underlying161
 a76:=Tryz.isAgg161
 z76:=Tryz.sizeOf161
 v76:=Tryz.zeroValue161
 t127:=Tryz.underlying206
 a127:=Tryz.isAgg206
 z127:=Tryz.sizeOf206
 v127:=Tryz.zeroValue206
 t164:=Tryz.underlying237
 a164:=Tryz.isAgg237
 z164:=Tryz.sizeOf237
 v164:=Tryz.zeroValue237 }
end Go.Proofs
