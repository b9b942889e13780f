/- Joined. -/
import Derived.Test.YtgffbiobmamobaaGreatDoorI0
import Derived.Test.YtgffbiobmamobaaGreatDoorI1
import Derived.Test.YtgffbiobmamobaaGreatDoorI7
import Derived.Test.YtgffbiobmamobaaGreatDoorI6
import Derived.Test.YtgffbiobmamobaaGreatDoorI2
import Derived.Shelf.Slices.CompactS
import Derived.Lib.RowBridge
import Derived.Shelf.Bits.Mul64
import Derived.Shelf.Strconv.Itoa0
set_option linter.unusedVariables false
set_option linter.unusedSimpArgs false
set_option maxHeartbeats 16000000
namespace Go.Proofs.YtgffbiobmamobaaGreatDoor
open Go Go.Proofs Sy
def padN (n:Nat):Nat:=(120-n%64)%64
def sizeB (n:Int) (k:Nat):List Int:=(List.range k).map fun (j:Nat)=>IntKind.u8.wrap (shrV .u64 (IntKind.u64.wrap (IntKind.u64.wrap n*8)) (56-8*(j:Int)))
def endL (s:ByteArray):List Int:=bytesI s++[128]
def endV (s:ByteArray) (n:Int):ByteArray:=ofInts (endL s++List.replicate (padN (s.size+1)) 0++sizeB n 8)
theorem oZ (s:ByteArray):(endL s).length=s.size+1:=by simp [endL,qW]
theorem sX (n:Int) (k:Nat):(sizeB n k).length=k:=by simp [sizeB]
theorem ml (s:ByteArray) (n:Int):(endV s n).size%64=0:=by
 rw [endV,gk]
 simp only [List.length_append,oZ,List.length_replicate,sX,padN]
 omega
structure EndS (m:Nat) where
 k:Nat
 hk:k≤m
 A:Option Addr
 c:Nat
theorem uc (s:ByteArray) (n:Int) (hs:s.size≤1099511627776):Pu Tryz.prog 93 #[.string s,.int .i64 n] (fun _=>True) (.string (endV s n)):=by
 refine aq Tryz.func93 Tryz.ntmps93 fun av bor w0=>?_
 repeat' (first|refine gs ?_|refine gs1 fun _=>?_|(refine vt fun A c=>?_)|fail)
 rename_i b0
 refine aH (size:=1) (z:=.int .u8 0) (news:=u8s [128]) (q:=1) rfl rfl rfl rfl (fun _=>At.there _ (At.here _)) (fun w G=>bu G ay rfl rfl 1) ?_ ?_ rfl ?_ rfl ?_
 · omega
 · simp only [maxLen];omega
 · rfl
 intro A1 c1
 repeat' (first|refine gs ?_|refine gs1 fun _=>?_|fail)
 have hel:=oZ s
 refine az (ι:=EndS (padN (s.size+1))) (fun i=>⟨[(1,.int .i64 n),(5,.slice i.A (s.size+1+i.k) i.c)],[orow 5 1 (.slice i.A (s.size+1+i.k) i.c) (s.size+1+i.k) (u8s (endL s++List.replicate i.k 0))],fun _=>True⟩) (fun i=>padN (s.size+1)-i.k) ⟨0,Nat.zero_le _,A1,c1⟩ (ak an ?_ fun _ h=>h) fun i=>?_
 · refine List.Sublist.cons _ ?_
   rw [←bV]
   simp only [List.replicate_zero,List.append_nil]
   exact al _
 have hik:=i.hk
 have hp:padN (s.size+1)<64:=Nat.mod_lt _ ac
 have hp2:padN (s.size+1)=(120-(s.size+1)%64)%64:=rfl
 have htm:Int.tmod ((s.size+1+i.k:Nat):Int) 64=(((s.size+1+i.k)%64:Nat):Int):=Int.ofNat_tmod _ _
 repeat' (first|refine gs ?_|refine gs1 fun _=>?_|(refine gp ?_ ?_<;>intro hx_ this)|fail)
 refine gi (hc:=htm) ?_
 repeat' (first|refine gs ?_|refine gs1 fun _=>?_|(refine gp ?_ ?_<;>intro hx_ this)|fail)
 · have hlt:i.k<padN (s.size+1):=by
    have h1:¬ (((s.size+1+i.k)%64:Nat):Int)=56:=by simpa using hx_
    omega
   refine aH (size:=1) (z:=.int .u8 0) (news:=u8s [0]) (q:=1) rfl rfl rfl rfl (fun _=>At.there _ (At.here _)) (fun w G=>bu G ay rfl rfl 1) ?_ ?_ rfl ?_ rfl ?_
   · omega
   · simp only [maxLen];omega
   · rfl
   intro A2 c2
   repeat' (first|refine gs ?_|refine gs1 fun _=>?_|(refine gp ?_ ?_<;>intro hx_ this)|fail)
   refine ⟨(⟨i.k+1,hlt,A2,c2⟩:EndS (padN (s.size+1))),(by show padN (s.size+1)-(i.k+1)<padN (s.size+1)-i.k;omega),ak an ?_ fun _ h=>h⟩
   refine List.Sublist.cons _ ?_
   rw [←bV]
   simp only [List.replicate_succ',List.append_assoc]
   exact al _
 have hk:i.k=padN (s.size+1):=by
  have h1:(((s.size+1+i.k)%64:Nat):Int)=56:=by simpa using hx_
  omega
 have hl1:(endL s++List.replicate (padN (s.size+1)) 0:List Int).length=s.size+1+padN (s.size+1):=by simp [hel]
 rw [hk]
 generalize hL:(endL s++List.replicate (padN (s.size+1)) 0:List Int)=L at *
 refine az (ι:=EndS 8) (fun j=>⟨[(5,.slice j.A (s.size+1+padN (s.size+1)+j.k) j.c),(6,.int .u64 (IntKind.u64.wrap (IntKind.u64.wrap n*8))),(7,.int .i64 (56-8*(j.k:Int)))],[orow 5 1 (.slice j.A (s.size+1+padN (s.size+1)+j.k) j.c) (s.size+1+padN (s.size+1)+j.k) (u8s (L++sizeB n j.k))],fun _=>True⟩) (fun j=>8-j.k) ⟨0,Nat.zero_le _,i.A,i.c⟩ (ak an ?_ fun _ h=>h) fun j=>?_
 · have e:sizeB n 0=[]:=rfl
   simp only [e,List.append_nil]
   exact al _
 have hjk:=j.hk
 repeat' (first|refine gs ?_|refine gs1 fun _=>?_|(refine gp ?_ ?_<;>intro hx_ this)|fail)
 · have hlt:j.k<8:=by omega
   refine aH (size:=1) (z:=.int .u8 0) (news:=u8s [IntKind.u8.wrap (shrV .u64 (IntKind.u64.wrap (IntKind.u64.wrap n*8)) (56-8*(j.k:Int)))]) (q:=1) rfl rfl rfl rfl (fun _=>At.there _ (At.here _)) (fun w G=>bu G ay rfl rfl 1) ?_ ?_ rfl ?_ rfl ?_
   · omega
   · simp only [maxLen];omega
   · rfl
   intro A2 c2
   repeat' (first|refine gs ?_|refine gs1 fun _=>?_|(refine gp ?_ ?_<;>intro hx_ this)|fail)
   refine ⟨(⟨j.k+1,hlt,A2,c2⟩:EndS 8),(by show 8-(j.k+1)<8-j.k;omega),ak ⟨rfl,rfl,?_,trivial⟩ ?_ fun _ h=>h⟩
   · show some (Value.int .i64 (56-8*(j.k:Int)-8))=some (Value.int .i64 (56-8*((j.k+1:Nat):Int)))
     congr 2
     omega
   refine List.Sublist.cons _ ?_
   rw [←bV]
   have e:sizeB n (j.k+1)=sizeB n j.k++[IntKind.u8.wrap (shrV .u64 (IntKind.u64.wrap (IntKind.u64.wrap n*8)) (56-8*(j.k:Int)))]:=by simp [sizeB,List.range_succ]
   simp only [e,List.append_assoc]
   exact al _
 have hj8:j.k=8:=by omega
 refine ew (hm:=ay) ?_
 repeat' (first|refine gs ?_|refine gs1 fun _=>?_|(refine gp ?_ ?_<;>intro hx_ this)|fail)
 apply ae;apply aj;rfl;rfl
 rw [hj8,←hL,endV]
def iniS:St8:=⟨1779033703,3144134277,1013904242,2773480762,1359893119,2600822924,528734635,1541459225⟩
def loopV:Nat→St8→ByteArray→St8×ByteArray
 | 0,x,r=>(x,r)
 | f+1,x,r=>bif decide (64≤(r.size:Int)) then loopV f (mixV x (r.extract 0 64)) (r.extract 64 r.size) else (x,r)
def loopE:Nat→St8→ByteArray→St8
 | 0,x,_=>x
 | f+1,x,r=>bif seqB r ⟨#[]⟩ then x else loopE f (mixV x (r.extract 0 64)) (r.extract 64 r.size)
theorem cE (r:ByteArray):seqB r ⟨#[]⟩=decide (r.size=0):=by
 have h1:(⟨#[]⟩:ByteArray).toList=[]:=by simp [ByteArray.toList_eq]
 by_cases h:r.size=0
 · have:r=⟨#[]⟩:=by
    have h2:r.data=#[]:=Array.eq_empty_of_size_eq_zero h
    obtain ⟨d⟩:=r
    exact congrArg ByteArray.mk h2
   subst this
   simp only [seqB,h1]
   rfl
 · simp only [h,decide_false]
   cases hs:seqB r ⟨#[]⟩ with
   | false=>rfl
   | true =>
    exfalso
    have h3:r.toList=[]:=by
     have:=hs
     simp only [seqB,h1] at this
     simpa using this
    have h4:r.toList.length=r.size:=by simp [ByteArray.toList_eq]
    rw [h3] at h4
    simp at h4
    omega
structure ShaA (s:ByteArray) where
 f:Nat
 x:St8
 r:ByteArray
 h:r.size≤f
 hs:r.size≤s.size
 e:loopV f x r=loopV s.size iniS s
def ShaA.next {s:ByteArray} (i:ShaA s) (h:64≤i.r.size):ShaA s :=
 ⟨i.f-1,mixV i.x (i.r.extract 0 64),i.r.extract 64 i.r.size,by have:=i.h;simp only [ByteArray.size_extract];omega,by have:=i.hs;simp only [ByteArray.size_extract];omega,by
  rw [←i.e]
  cases hf:i.f with
  | zero=>have:=i.h;omega
  | succ f =>
   have:decide (64≤(i.r.size:Int))=true:=decide_eq_true ac
   simp only [loopV,this,cond_true,Nat.add_sub_cancel]⟩
theorem ShaA.last {s:ByteArray} (i:ShaA s) (h:¬ 64≤i.r.size):loopV s.size iniS s=(i.x,i.r):=by
 rw [←i.e]
 cases hf:i.f with
 | zero=>rfl
 | succ f =>
  have:decide (64≤(i.r.size:Int))=false:=decide_eq_false ac
  simp only [loopV,this,cond_false]
structure ShaE (x0:St8) (s:ByteArray) where
 f:Nat
 x:St8
 r:ByteArray
 h:r.size≤f
 hm:r.size%64=0
 e:loopE f x r=loopE s.size x0 s
def ShaE.next {x0:St8} {s:ByteArray} (i:ShaE x0 s) (h:0<i.r.size):ShaE x0 s :=
 ⟨i.f-1,mixV i.x (i.r.extract 0 64),i.r.extract 64 i.r.size,by have:=i.h;simp only [ByteArray.size_extract];omega,by have:=i.hm;simp only [ByteArray.size_extract];omega,by
  rw [←i.e]
  cases hf:i.f with
  | zero=>have:=i.h;omega
  | succ f =>
   have:seqB i.r ⟨#[]⟩=false:=by rw [cE];exact decide_eq_false ac
   simp only [loopE,this,cond_false,Nat.add_sub_cancel]⟩
theorem ShaE.last {x0:St8} {s:ByteArray} (i:ShaE x0 s) (h:i.r.size=0):loopE s.size x0 s=i.x:=by
 rw [←i.e]
 cases hf:i.f with
 | zero=>rfl
 | succ f =>
  have:seqB i.r ⟨#[]⟩=true:=by rw [cE];exact decide_eq_true h
  simp only [loopE,this,cond_true]
def digB (w:Int):List Int:=[IntKind.u8.wrap (shrV .u32 w 24),IntKind.u8.wrap (shrV .u32 w 16),IntKind.u8.wrap (shrV .u32 w 8),IntKind.u8.wrap w]
def shaV (s:ByteArray):ByteArray :=
 let p:=loopV s.size iniS s
 let r:=endV p.2 s.size
 ofInts ((loopE r.size p.1 r).l.flatMap digB)
theorem oO (l:List Int):(l.flatMap digB).length=4*l.length:=by
 induction l with
 | nil=>rfl
 | cons a l ih=>rw [List.flatMap_cons,List.length_append,ih];simp [digB];omega
theorem St8.len (x:St8):x.l.length=8:=rfl
theorem eN (s:ByteArray):(shaV s).size=32:=by
 simp only [shaV]
 rw [gk,oO,St8.len]
theorem mS (s:ByteArray) (hs:s.size≤1099511627776):Pu Tryz.prog 53 #[.string s] Xg (.string (shaV s)):=by
 refine aq Tryz.func53 Tryz.ntmps53 fun av bor w0=>?_
 repeat' (first|refine gs ?_|refine gs1 fun _=>?_|(refine ro (cs:=u32s iniC) (hF:=fun w h=>h.ini) (hl:=by rfl) ?_)|fail)
 rename_i b
 refine az (ι:=ShaA s) (fun i=>⟨[(0,.string s),(3,.pointer (some ⟨b,0,none⟩)),(4,.string i.r)],[cel b 173 (u32s i.x.l)],Xg⟩) (fun i=>i.f) ⟨s.size,iniS,s,Nat.le_refl _,Nat.le_refl _,rfl⟩ (ak an (al _) fun _ h=>h) fun i=>?_
 repeat' (first|refine gs ?_|refine gs1 fun _=>?_|(refine gp ?_ ?_<;>intro hx_ this)|fail)
 · have h64:64≤i.r.size:=by omega
   have hx64:(i.r.extract 0 (Int.toNat 64)).size=64:=by simp only [ByteArray.size_extract];have:Int.toNat 64=64:=rfl;omega
   (refine ao ⟨[1,2],[(0,⟨[],[(3,⟨[],[(4,⟨[],[]⟩)]⟩)]⟩)]⟩ [] (fun _=>True) (h:=?_))
   all_goals repeat' (first|refine ag (hc:=wt i.x _ hx64) ?_|refine gd ?_|refine aJ (hy:=by first|(apply pC;rfl;rfl;decide;omega)) ?_|refine aF ?_ (h':=?_)|exact aG|(refine aQ ?_)|refine gs1 fun _=>?_|(refine gq ?_ ?_<;>intro hx_ this)|fail)
   all_goals (repeat' (first|refine gs ?_|refine gs1 fun _=>?_|(refine gp ?_ ?_<;>intro hx_ this)|fail))
   refine rj (h0:=by decide) (h1:=by omega) ?_
   repeat' (first|refine gs ?_|refine gs1 fun _=>?_|(refine gp ?_ ?_<;>intro hx_ this)|fail)
   exact ⟨i.next h64,(by show i.f-1<i.f;have:=i.h;omega),ak an (al _) fun _ h=>h⟩
 have hlast:=i.last ac
 have hrs:=i.hs
 repeat' (first|refine ag (hc:=uc i.r _ ac) ?_|refine gs ?_|refine gs1 fun _=>?_|(refine gp ?_ ?_<;>intro hx_ this)|fail)
 have hmod:=ml i.r (s.size:Int)
 generalize hr0:endV i.r (s.size:Int)=r0 at *
 refine az (ι:=ShaE i.x r0) (fun j=>⟨[(3,.pointer (some ⟨b,0,none⟩)),(4,.string j.r)],[cel b 173 (u32s j.x.l)],Xg⟩) (fun j=>j.f) ⟨r0.size,i.x,r0,Nat.le_refl _,hmod,rfl⟩ (ak an (al _) fun _ h=>h) fun j=>?_
 have hjm:=j.hm
 repeat' (first|refine gs ?_|refine gs1 fun _=>?_|(refine gp ?_ ?_<;>intro hx_ this)|fail)
 · have hne:0<j.r.size:=by
    have:seqB j.r ⟨#[]⟩=false:=by simpa using hx_
    rw [cE] at this
    have:=bT this
    omega
   have h64:64≤j.r.size:=by omega
   have hx64:(j.r.extract 0 (Int.toNat 64)).size=64:=by simp only [ByteArray.size_extract];have:Int.toNat 64=64:=rfl;omega
   (refine ao ⟨[1,2],[(0,⟨[],[(3,⟨[],[(4,⟨[],[]⟩)]⟩)]⟩)]⟩ [] (fun _=>True) (h:=?_))
   all_goals repeat' (first|refine ag (hc:=wt j.x _ hx64) ?_|refine gd ?_|refine aJ (hy:=by first|(apply pC;rfl;rfl;decide;omega)) ?_|refine aF ?_ (h':=?_)|exact aG|(refine aQ ?_)|refine gs1 fun _=>?_|(refine gq ?_ ?_<;>intro hx_ this)|fail)
   all_goals (repeat' (first|refine gs ?_|refine gs1 fun _=>?_|(refine gp ?_ ?_<;>intro hx_ this)|fail))
   refine rj (h0:=by decide) (h1:=by omega) ?_
   repeat' (first|refine gs ?_|refine gs1 fun _=>?_|(refine gp ?_ ?_<;>intro hx_ this)|fail)
   exact ⟨j.next hne,(by show j.f-1<j.f;have:=j.h;omega),ak an (al _) fun _ h=>h⟩
 have hz:j.r.size=0:=by
  have:seqB j.r ⟨#[]⟩=true:=by simpa using hx_
  rw [cE] at this
  exact bm this
 have hend:=j.last hz
 have hl8:=St8.len j.x
 repeat' (first|refine gs ?_|refine gs1 fun _=>?_|(refine jR (c:=32) (hy:=by rfl) (hm:=by rfl) (hm2:=by rfl) fun q=>?_)|fail)
 generalize hL:j.x.l=L at *
 have hfl:=fun k=>oO (L.take k)
 refine az (ι:=EndS 8) (fun m=>⟨[(5,.slice m.A (4*m.k) m.c),(32,.agg (u32s L).toArray),(33,.int .i64 m.k)],[orow 5 1 (.slice m.A (4*m.k) m.c) (4*m.k) (u8s ((L.take m.k).flatMap digB))],Xg⟩) (fun m=>8-m.k) ⟨0,Nat.zero_le _,_,_⟩ (ak an (List.Sublist.cons_cons _ (List.Sublist.cons _ (al _))) fun _ h=>h) fun m=>?_
 have hmk:=m.hk
 repeat' (first|refine gs ?_|refine gs1 fun _=>?_|(refine gp ?_ ?_<;>intro hx_ this)|fail)
 · have hlt:m.k<8:=by omega
   have hg:(u32s L).toArray[((m.k:Nat):Int).toNat]?=some (.int .u32 (L.getD m.k 0)):=by
    rw [Int.toNat_natCast]
    simpa using gc L m.k ac
   repeat' (first|refine gs ?_|refine gs1 fun _=>?_|(refine yi (hv:=hg) ?_)|fail)
   refine aH (size:=1) (z:=.int .u8 0) (news:=u8s (digB (L.getD m.k 0))) (q:=4) rfl rfl rfl rfl (fun _=>At.there _ (At.here _)) (fun w G=>bu G ay rfl rfl 4) ?_ ?_ rfl ?_ rfl ?_
   · omega
   · simp only [maxLen];omega
   · rfl
   intro A2 c2
   repeat' (first|refine gs ?_|refine gs1 fun _=>?_|(refine gp ?_ ?_<;>intro hx_ this)|fail)
   refine ⟨(⟨m.k+1,hlt,A2,c2⟩:EndS 8),(by show 8-(m.k+1)<8-m.k;omega),ak ⟨?_,rfl,rfl,trivial⟩ ?_ fun _ h=>h⟩
   · rfl
   refine List.Sublist.cons _ ?_
   rw [←bV]
   have e:(L.take (m.k+1)).flatMap digB=(L.take m.k).flatMap digB++digB (L.getD m.k 0):=by
    have hlt2:m.k<L.length:=by omega
    rw [List.take_add_one,List.flatMap_append,List.getElem?_eq_getElem hlt2,List.getD_eq_getElem?_getD,List.getElem?_eq_getElem hlt2]
    simp only [Option.toList_some,List.flatMap_cons,List.flatMap_nil,List.append_nil,Option.getD_some]
   simp only [e]
   exact al _
 have hm8:m.k=8:=by omega
 repeat' (first|refine gs ?_|refine gs1 fun _=>?_|(refine gp ?_ ?_<;>intro hx_ this)|fail)
 refine ew (hm:=ay) ?_
 repeat' (first|refine gs ?_|refine gs1 fun _=>?_|(refine gp ?_ ?_<;>intro hx_ this)|fail)
 apply ae;apply aj;rfl;rfl
 rw [hm8,List.take_of_length_le (by omega)]
 simp only [shaV,hlast,hr0,hend,hL]
structure Xc.Rng (a:Xc):Prop where
 ints:a.seq<9223372036854775808∧a.kind<9223372036854775808∧a.time<9223372036854775808∧a.scope<9223372036854775808∧a.epoch<9223372036854775808∧a.n<9223372036854775808∧a.m<9223372036854775808∧a.e<9223372036854775808∧a.s<9223372036854775808
 wints:∀ w∈a.wrapsL,w.to<9223372036854775808∧w.eph<9223372036854775808
 to_len:a.to.n=a.toL.length
 wraps_len:a.wraps.n=a.wrapsL.length
def useU (z0 z1 z2 z3 z4 z5 z6 z7 z8 z9 z10:Bool):Int :=
 noteV (noteV (noteV (noteV (noteV (noteV (noteV (noteV (noteV (noteV (noteV 0 1 z0) 2 z1) 4 z2) 8 z3) 16 z4) 32 z5) 64 z6) 128 z7) 256 z8) 512 z9) 1024 z10
def useOk (fs:Nat) (z0 z1 z2 z3 z4 z5 z6 z7 z8 z9 z10:Bool):Bool :=
 !decide (bitsV .andNot .i64 (useU z0 z1 z2 z3 z4 z5 z6 z7 z8 z9 z10) fs=0)||((fs.testBit 0||z0)&&(fs.testBit 1||z1)&&(fs.testBit 3||z3)&&(fs.testBit 4||z4)&&(fs.testBit 5||z5)&&(fs.testBit 6||z6)&&(fs.testBit 8||z8))
def bools (p:Bool→Bool):Bool:=p true&&p false
theorem cR {p:Bool→Bool} (h:bools p=true) (b:Bool):p b=true:=by
 simp only [bools,Bool.and_eq_true] at h
 cases b
 · exact h.2
 · exact h.1
def useAll (fs:Nat):Bool:=bools fun z0=>bools fun z1=>bools fun z2=>bools fun z3=>bools fun z4=>bools fun z5=>bools fun z6=>bools fun z7=>bools fun z8=>bools fun z9=>bools fun z10=>useOk fs z0 z1 z2 z3 z4 z5 z6 z7 z8 z9 z10
theorem pK:([1568,252,253,1,2,33,24,412,35,1536,1808,513,546].all useAll)=true:=by decide +kernel
theorem vl {fs:Nat} (hfs:useAll fs=true) {z0 z1 z2 z3 z4 z5 z6 z7 z8 z9 z10:Bool} (h:bitsV .andNot .i64 (useU z0 z1 z2 z3 z4 z5 z6 z7 z8 z9 z10) fs=0) :
  (fs.testBit 0||z0)=true∧(fs.testBit 1||z1)=true∧(fs.testBit 3||z3)=true∧(fs.testBit 4||z4)=true∧(fs.testBit 5||z5)=true∧(fs.testBit 6||z6)=true∧(fs.testBit 8||z8)=true:=by
 have h1:=cR (cR (cR (cR (cR (cR (cR (cR (cR (cR (cR hfs z0) z1) z2) z3) z4) z5) z6) z7) z8) z9) z10
 simp only [useOk,h,decide_true,Bool.not_true,Bool.false_or,Bool.and_eq_true] at h1
 obtain ⟨⟨⟨⟨⟨⟨h2,h3⟩,h4⟩,h5⟩,h6⟩,h7⟩,h8⟩:=h1
 exact ⟨h2,h3,h4,h5,h6,h7,h8⟩
theorem ja {s:ByteArray} (h:isId s=true):s.size=16:=by
 simp only [isId,Bool.and_eq_true,decide_eq_true_eq] at h
 omega
theorem jB {s:ByteArray} (h:isName s=true):s.size≤24:=by
 simp only [isName,Bool.and_eq_true,Bool.not_eq_true',decide_eq_false_iff_not] at h
 omega
theorem lF {s:ByteArray} (h:isDigestB s=true):s.size=32:=by
 simp only [isDigestB,decide_eq_true_eq] at h
 omega
theorem eG {s:ByteArray} (h:isShortB s=true):s.size≤500:=by
 simp only [isShortB,decide_eq_true_eq] at h
 omega
theorem dK {s:ByteArray} (h:seqB s ⟨#[]⟩=true):s.size=0:=by
 rw [cE] at h
 exact bm h
structure Short (b:Xw):Prop where
 nonce:b.nonce.size≤500
 data:b.data.size≤500
 tag:b.tag.size≤500
theorem Short.fit {b:Xw} (h:Short b):b.Fit:=⟨by have:=h.nonce;omega,by have:=h.data;omega,by have:=h.tag;omega⟩
theorem Short.size {b:Xw} (h:Short b):(boxV b).size≤1530:=by
 have h1:=aB b.nonce
 have h2:=aB b.data
 have h3:=aB b.tag
 have:=h.nonce
 have:=h.data
 have:=h.tag
 simp only [boxV,ByteArray.size_append]
 omega
theorem gw {b:Xw} (h:isSealedB b=true):Short b:=by
 simp only [isSealedB,Bool.and_eq_true,decide_eq_true_eq] at h
 have:=eG h.2
 exact ⟨by omega,this,by omega⟩
theorem dE {b:Xw} (h:boxEq b Xw.zero=true):Short b:=by
 simp only [boxEq,Bool.and_eq_true,Xw.zero] at h
 obtain ⟨⟨h1,h2⟩,h3⟩:=h
 have:=dK h1
 have:=dK h2
 have:=dK h3
 exact ⟨by omega,by omega,by omega⟩
structure ToOk (l:List ByteArray):Prop where
 len:l.length≤64
 each:∀ x∈l,x.size≤16
theorem sG {n:Nat} {bad:Nat→Bool} (h:allB n bad=true) {k:Nat} (hk:k<n):bad k=false:=by
 simp only [allB,List.all_eq_true,List.mem_range] at h
 simpa using h k hk
theorem iz {l:List ByteArray} (h:isIds l=true):ToOk l:=by
 simp only [isIds,Bool.and_eq_true,Bool.not_eq_true',decide_eq_false_iff_not] at h
 refine ⟨by omega,fun x hx=>?_⟩
 obtain ⟨k,hk,rfl⟩:=List.getElem_of_mem hx
 have h1:=sG h.2 hk
 simp only [badIds,Bool.or_eq_false_iff,Bool.not_eq_false'] at h1
 have h2:l.getD k .empty=l[k]:=by simp [hk]
 rw [h2] at h1
 have:=ja h1.1
 omega
theorem nD {B:Nat}:∀ (l:List ByteArray),(∀ x∈l,x.size≤B)→(cats l).size≤l.length*B
 | [],_=>by simp [cats]
 | x::l,h=>by
  have h1:=nD l fun y hy=>h y (List.mem_cons_of_mem _ hy)
  have h2:=h x ay
  simp only [cats,ByteArray.size_append,List.length_cons,Nat.add_mul,Nat.one_mul]
  omega
theorem ToOk.size {l:List ByteArray} (h:ToOk l):(listV l).size≤1073741824:=by
 have h1:=ar l.length
 have h2:=nD (B:=26) (l.map textV) (fun x hx=>by
  obtain ⟨y,hy,rfl⟩:=List.mem_map.1 hx
  have:=h.each y hy
  have:=aB y
  omega)
 have h3:=h.len
 simp only [List.length_map] at h2
 simp only [listV,ByteArray.size_append]
 omega
theorem ToOk.nil {l:List ByteArray} (h:l.length=0):ToOk l:=by
 have:l=[]:=List.eq_nil_of_length_eq_zero h
 subst this
 exact ⟨by simp,by simp⟩
structure Eh (l:List X6):Prop where
 len:l.length≤64
 each:∀ x∈l,Short x.box
theorem Eh.size {l:List X6} (h:Eh l):(cats (l.map wrapV)).size≤1073741824:=by
 have h2:=nD (B:=1550) (l.map wrapV) (fun x hx=>by
  obtain ⟨y,hy,rfl⟩:=List.mem_map.1 hx
  have:=(h.each y hy).size
  have:=ar y.to
  have:=ar y.eph
  simp only [wrapV,ByteArray.size_append]
  omega)
 have h3:=h.len
 simp only [List.length_map] at h2
 omega
theorem Eh.nil {l:List X6} (h:l.length=0):Eh l:=by
 have:l=[]:=List.eq_nil_of_length_eq_zero h
 subst this
 exact ⟨by simp,by simp⟩
theorem kc {a:Xc} (hr:a.Rng) (ht:ToOk a.toL) (h:wrappedB a=true):Eh a.wrapsL:=by
 simp only [wrappedB,Bool.and_eq_true,decide_eq_true_eq] at h
 have h1:=hr.to_len
 have h2:=hr.wraps_len
 have h3:=ht.len
 refine ⟨by omega,fun x hx=>?_⟩
 obtain ⟨k,hk,rfl⟩:=List.getElem_of_mem hx
 have h4:=sG h.1 hk
 rw [nH (List.getElem?_eq_getElem hk)] at h4
 simp only [Bool.or_eq_false_iff,Bool.not_eq_false'] at h4
 exact gw h4.2.2
structure Bnd (a:Xc):Prop where
 object:a.object.size≤500
 target:a.target.size≤500
 group:a.group.size≤500
 text:a.text.size≤500
 body:Short a.body
 to:ToOk a.toL
 wraps:Eh a.wrapsL
theorem oE {κ β:Type} [Xq κ] {k:κ} {x:β}:∀ {l:List (κ×β)},mget l k=some x→∃ k',(k',x)∈l
 | [],h=>by cases h
 | (k',v)::r,h=>by
  simp only [mget] at h
  cases hb:Xq.eqb k k' with
  | true=>rw [hb] at h;simp at h;subst h;exact ⟨k',ay⟩
  | false=>rw [hb] at h;obtain ⟨k2,h2⟩:=oE (l:=r) (by simpa using h);exact ⟨k2,List.mem_cons_of_mem _ h2⟩
theorem kr {sc:Int} {g:ByteArray} (h:sealedScopeB sc g=true):g.size≤500:=by
 unfold sealedScopeB at h
 cases h1:decide (sc=2)<;>cases h2:decide (sc=1)<;>cases h3:decide (sc=3)<;>simp only [h1,h2,h3,cond_true,cond_false] at h
 all_goals first
  | (have:=jB h;omega)
  | (have:=dK h;omega)
  | cases h
theorem jK {a:Xc} (h:audienceB a=true):a.group.size≤500∧a.text.size≤500∧Short a.body∧ToOk a.toL:=by
 unfold audienceB at h
 cases h0:isIds a.toL with
 | false=>simp [h0] at h
 | true =>
  have ht:=iz h0
  cases h1:decide (a.scope=0) with
  | true =>
   simp only [h0,h1,Bool.not_true,cond_true,cond_false,Bool.and_eq_true] at h
   obtain ⟨⟨⟨h2,h3⟩,h4⟩,h5⟩:=h
   have:=dK h2
   have:=eG h4
   exact ⟨by omega,by omega,dE h5,ht⟩
  | false =>
   cases h6:(decide (0<(a.to.n:Int))&&!decide (a.scope=3)) with
   | true=>simp only [h0,h1,h6,Bool.not_true,cond_true,cond_false] at h;cases h
   | false =>
    simp only [h0,h1,h6,Bool.not_true,cond_true,cond_false,Bool.and_eq_true] at h
    obtain ⟨⟨⟨h2,h3⟩,h4⟩,h5⟩:=h
    have:=dK h4
    exact ⟨kr h2,by omega,gw h5,ht⟩
theorem cF {s:ByteArray} (h:seqB s ⟨#[]⟩=true):s.size≤500:=by have:=dK h;omega
theorem BC {a:Xc} (hr:a.Rng) (h:decide ((a.to.n:Int)=0)=true):ToOk a.toL:=ToOk.nil (by have:=bm h;have:=hr.to_len;omega)
theorem jO {a:Xc} (hr:a.Rng) (h:decide ((a.wraps.n:Int)=0)=true):Eh a.wrapsL:=Eh.nil (by have:=bm h;have:=hr.wraps_len;omega)
theorem pr {s:ByteArray} (h:isDigestB s=true):s.size≤500:=by have:=lF h;omega
theorem wE {s:ByteArray} (h:isId s=true):s.size≤500:=by have:=ja h;omega
theorem wo {s:ByteArray} (h:isName s=true):s.size≤500:=by have:=jB h;omega
theorem vj (a:Xc):usedV a=useU (seqB a.object ⟨#[]⟩) (seqB a.target ⟨#[]⟩) (decide (a.scope=0)) (seqB a.group ⟨#[]⟩) (decide ((a.to.n:Int)=0)) (seqB a.text ⟨#[]⟩) (boxEq a.body Xw.zero) (decide (a.epoch=0)) (decide ((a.wraps.n:Int)=0)) (decide (a.n=0)) (decide (a.m=0)):=rfl
theorem pz {a:Xc} (hr:a.Rng) (h:ruleB a=true):Bnd a:=by
 unfold ruleB at h
 cases hk:mget (ruleL a) a.kind with
 | none=>rw [hk] at h;cases h
 | some x =>
  obtain ⟨fs,b⟩:=x
  rw [hk] at h
  simp only [Bool.and_eq_true,decide_eq_true_eq] at h
  obtain ⟨hu,hb⟩:=h
  rw [vj] at hu
  obtain ⟨k',hm⟩:=oE hk
  obtain ⟨n,hn,hmem⟩:∃ n:Nat,fs=n∧n∈[1568,252,253,1,2,33,24,412,35,1536,1808,513,546]:=by
   simp only [ruleL,List.mem_cons,Prod.mk.injEq,List.not_mem_nil,or_false] at hm
   clear hu hb hk
   rcases hm with ⟨-,h9,-⟩|⟨-,h9,-⟩|⟨-,h9,-⟩|⟨-,h9,-⟩|⟨-,h9,-⟩|⟨-,h9,-⟩|⟨-,h9,-⟩|⟨-,h9,-⟩|⟨-,h9,-⟩|⟨-,h9,-⟩|⟨-,h9,-⟩|⟨-,h9,-⟩|⟨-,h9,-⟩|⟨-,h9,-⟩|⟨-,h9,-⟩|⟨-,h9,-⟩|⟨-,h9,-⟩|⟨-,h9,-⟩|⟨-,h9,-⟩|⟨-,h9,-⟩|⟨-,h9,-⟩|⟨-,h9,-⟩|⟨-,h9,-⟩|⟨-,h9,-⟩<;>exact ⟨fs.toNat,by omega,by rw [h9];decide⟩
  rw [hn] at hu
  obtain ⟨u0,u1,u3,u4,u5,u6,u8⟩:=vl (List.all_eq_true.1 pK n hmem) hu
  clear hu hmem hk
  simp only [ruleL,List.mem_cons,Prod.mk.injEq,List.not_mem_nil,or_false] at hm
  rcases hm with ⟨-,rfl,rfl⟩|⟨-,rfl,rfl⟩|⟨-,rfl,rfl⟩|⟨-,rfl,rfl⟩|⟨-,rfl,rfl⟩|⟨-,rfl,rfl⟩|⟨-,rfl,rfl⟩|⟨-,rfl,rfl⟩|⟨-,rfl,rfl⟩|⟨-,rfl,rfl⟩|⟨-,rfl,rfl⟩|⟨-,rfl,rfl⟩|⟨-,rfl,rfl⟩|⟨-,rfl,rfl⟩|⟨-,rfl,rfl⟩|⟨-,rfl,rfl⟩|⟨-,rfl,rfl⟩|⟨-,rfl,rfl⟩|⟨-,rfl,rfl⟩|⟨-,rfl,rfl⟩|⟨-,rfl,rfl⟩|⟨-,rfl,rfl⟩|⟨-,rfl,rfl⟩|⟨-,rfl,rfl⟩
  all_goals
   have hn':=congrArg Int.toNat hn
   rw [Int.toNat_natCast] at hn'
   subst hn'
   try simp only [rule1B,rule2B,rule3B,rule4B,rule5B,rule6B,objectB,targetB,grantB,setupB,Bool.and_eq_true] at hb
  all_goals first
   | (have hA:=jK hb;exact ⟨cF u0,cF u1,hA.1,hA.2.1,hA.2.2.1,hA.2.2.2,jO hr u8⟩)
   | (have hA:=jK hb.2;exact ⟨pr hb.1,cF u1,hA.1,hA.2.1,hA.2.2.1,hA.2.2.2,jO hr u8⟩)
   | (have hT:=iz hb.1.2;exact ⟨cF u0,cF u1,kr hb.1.1.1,cF u5,dE u6,hT,kc hr hT hb.2⟩)
   | (have hT:=iz hb.1.1.1.2;exact ⟨cF u0,cF u1,cF u3,cF u5,dE u6,hT,kc hr hT hb.1.1.2⟩)
   | exact ⟨by first|exact cF u0|exact pr hb.1|exact pr hb,by first|exact cF u1|exact wE hb|exact wE hb.1.1,by first|exact cF u3|exact wo hb.1,by first|exact cF u5|exact eG hb.2|exact wo hb.1|exact eG hb.1.2,dE u6,by first|exact BC hr u4|exact iz hb.2,jO hr u8⟩
   | skip
  unfold labelB at hb
  cases hN:isName a.text with
  | false=>simp [hN] at hb
  | true =>
   simp only [hN,Bool.not_true,cond_false,Bool.or_eq_true,Bool.and_eq_true,objectB,targetB] at hb
   refine ⟨?_,?_,cF u3,wo hN,dE u6,BC hr u4,jO hr u8⟩
   · rcases hb with hb|hb
     · exact pr hb.1
     · exact cF hb.2
   · rcases hb with hb|hb
     · exact cF hb.2
     · exact wE hb.1
theorem dW {a:Xc} (hr:a.Rng) (h:rightB a=true):a.Fit:=by
 simp only [rightB,Bool.and_eq_true] at h
 obtain ⟨⟨⟨⟨⟨h1,h2⟩,h3⟩,h4⟩,h5⟩,h6⟩:=h
 have hB:=pz hr h6
 have hp:a.prev.size≤500:=by
  unfold placedB at h2
  cases hs:decide (a.seq=0) with
  | true=>simp only [hs,cond_true,Bool.and_eq_true] at h2;exact cF h2.2
  | false=>simp only [hs,cond_false,Bool.and_eq_true] at h2;exact pr h2.2
 have:=ja h1
 have:=hB.object
 have:=hB.target
 have:=hB.group
 have:=hB.text
 exact ⟨by omega,by omega,by omega,by omega,by omega,by omega,hB.body.fit,hB.to.size,fun w hw=>(hB.wraps.each w hw).fit,hB.wraps.size,hr.ints,hr.wints⟩
theorem eO (s:Xi) (xs:List (List Value)) (hb:s.n*16≤140737488351232) (h1:∀ cs∈xs,cs.all (·.oneCell')=true):Mk Tryz.prog 43 #[s.v] (fun w=>Xe w 1 s xs) (CloneAt 1 xs):=by
 refine bS Tryz.func43 Tryz.ntmps43 fun av bor w0=>?_
 refine aD (p:=s.n=xs.length∧(∀ r∈xs,r.length=1)∧(s.p.isNone=true→xs=[])) (fun w h=>⟨h.len,fun r hr=>?_,h.none_nil⟩) fun ⟨hl,hr1,hnil⟩=>?_
 · obtain ⟨i,hi⟩:=List.mem_iff_getElem?.1 hr
   exact (h.row i r hi).1
 repeat' (first|refine kf ?_|refine fk fun _=>?_|refine gs ?_|refine gs1 fun _=>?_|(refine gp ?_ ?_<;>intro hx_ this)|fail)
 · refine ae (aj rfl rfl) ⟨⟨none,0,0⟩,rfl,?_,fun w _=>?_⟩
   · rw [hnil hx_];rfl
   · rw [hnil hx_];exact aN w 1
 refine aH (size:=1) (z:=.string ⟨#[]⟩) (news:=xs.flatten) (q:=s.n) rfl rfl rfl rfl (fun _=>At.here _) (fun w G=>cO G.keep.now h1) ?_ ?_ rfl ?_ rfl ?_
 · omega
 · simp only [maxLen];omega
 · rfl
 intro A c
 repeat' (first|refine gs ?_|refine gs1 fun _=>?_|fail)
 refine ae (aj rfl rfl) ⟨⟨A,0+s.n,c⟩,rfl,?_,fun w h=>?_⟩
 · show 0+s.n=xs.length
   omega
 · exact aM (h.2 _ ay) ac hr1
theorem ji (s:Xi) (xs:List (List Value)) (hb:s.n*64≤140737488351232) (h1:∀ cs∈xs,cs.all (·.oneCell')=true):Mk Tryz.prog 44 #[s.v] (fun w=>Xe w 5 s xs) (CloneAt 5 xs):=by
 refine bS Tryz.func44 Tryz.ntmps44 fun av bor w0=>?_
 refine aD (p:=s.n=xs.length∧(∀ r∈xs,r.length=5)∧(s.p.isNone=true→xs=[])) (fun w h=>⟨h.len,fun r hr=>?_,h.none_nil⟩) fun ⟨hl,hr1,hnil⟩=>?_
 · obtain ⟨i,hi⟩:=List.mem_iff_getElem?.1 hr
   exact (h.row i r hi).1
 repeat' (first|refine kf ?_|refine fk fun _=>?_|refine gs ?_|refine gs1 fun _=>?_|(refine gp ?_ ?_<;>intro hx_ this)|fail)
 · refine ae (aj rfl rfl) ⟨⟨none,0,0⟩,rfl,?_,fun w _=>?_⟩
   · rw [hnil hx_];rfl
   · rw [hnil hx_];exact aN w 5
 refine aH (size:=5) (news:=xs.flatten) (q:=s.n) rfl rfl rfl rfl (fun _=>At.here _) (fun w G=>cO G.keep.now h1) ?_ ?_ rfl ?_ rfl ?_
 · omega
 · simp only [maxLen];omega
 · rfl
 intro A c
 repeat' (first|refine gs ?_|refine gs1 fun _=>?_|fail)
 refine ae (aj rfl rfl) ⟨⟨A,0+s.n,c⟩,rfl,?_,fun w h=>?_⟩
 · show 0+s.n=xs.length
   omega
 · exact aM (h.2 _ ay) ac hr1
set_option maxRecDepth 20000 in
theorem iy (a:Xc):Pu Tryz.prog 27 #[itemV 0 a] (Xc.at_ · a) (.bool (rightB a)):=by
 refine aq Tryz.func27 Tryz.ntmps27 fun av bor w0=>?_
 repeat' (first|refine cq ?_|refine bK ?_|refine ag (hc:=dN a) ?_|refine ag (hc:=oI) ?_|refine gs ?_|refine gs1 fun _=>?_|(refine aL ?_)|(refine aZ (itemCells 0 Xc.zero) (h:=?_))|(refine aE (vs:=a.cells) (hv:=rfl) ?_)|(refine gp ?_ ?_<;>intro hx_ this)|fail)
 all_goals (apply ae;apply aj;rfl;rfl;rw [hx_])
def bytesV (a:Xc):ByteArray:=bif rightB a then numV 0++actBytes a else ⟨#[]⟩
theorem fB {a:Xc} (hr:a.Rng):(actBytes a).size≤300000000020:=by
 have n7:=ar a.e
 have n8:=ar a.s
 unfold actBytes
 cases seqB (actCore a) ⟨#[]⟩ with
 | true=>simp [ByteArray.size]
 | false =>
  have hc:(actCore a).size≤300000000000:=by
   unfold actCore
   cases hrB:rightB a with
   | true=>exact ia (dW hr hrB)
   | false=>simp [ByteArray.size]
  simp only [cond_false,ByteArray.size_append]
  omega
theorem py {a:Xc} (hr:a.Rng):(bytesV a).size≤300000000030:=by
 have h1:=ar 0
 have h2:=fB hr
 unfold bytesV
 cases rightB a with
 | true=>simp only [cond_true,ByteArray.size_append];omega
 | false=>simp [ByteArray.size]
set_option maxRecDepth 20000 in
theorem ni (a:Xc) (hr:a.Rng):Pu Tryz.prog 52 #[itemV 0 a] (Xc.at_ · a) (.string (bytesV a)):=by
 cases hrB:rightB a with
 | false =>
  have hrN:(!rightB a)=true:=by rw [hrB];rfl
  refine aq Tryz.func52 Tryz.ntmps52 fun av bor w0=>?_
  repeat' (first|refine ag (hc:=iy a) ?_|refine gs ?_|refine gs1 fun _=>?_|(refine gp ?_ ?_<;>intro hx_ this)|fail)
  apply ae;apply aj;rfl;rfl
  simp only [bytesV,hrB,cond_false]
 | true =>
 have hrN:(!rightB a)=false:=by rw [hrB];rfl
 refine aq Tryz.func52 Tryz.ntmps52 fun av bor w0=>?_
 have hab:=jL a (dW hr) ⟨hr.ints.2.2.2.2.2.2.2.1,hr.ints.2.2.2.2.2.2.2.2⟩
 have hsz:=fB hr
 repeat' (first|refine ag (hc:=iy a) ?_|refine gs ?_|refine gs1 fun _=>?_|(refine gp ?_ ?_<;>intro hx_ this)|fail)
 rename_i bi bb bs
 have hS:(⟨#[]⟩:ByteArray)++numsV [0]=numV 0:=by
  show ByteArray.empty++(numV 0++ByteArray.empty)=numV 0
  rw [ByteArray.append_empty,ByteArray.empty_append]
 have hns:(⟨#[]⟩:ByteArray).size+(numsV [0]).size≤1099511627776:=by
  rw [←ByteArray.size_append,hS]
  have:=ar 0
  omega
 refine bO ?_
 refine gF 5 1 ?_
 refine cI (l:=bld bb none 0 ⟨#[]⟩++[cel bi 78 (itemCells 0 a)]) (List.Perm.swap _ _ _) ?_
 refine ci (pre:=bld bb none 0 ⟨#[]⟩) (fr:=[cel bi 78 (itemCells 0 a)]) (hc:=dF bb none 0 ⟨#[]⟩ ⟨some ⟨bs,0,none⟩,1,1⟩ [0] (by simp) hns) (hX:=fun w h=>aU (xs:=[[.int .i64 0]]) h.2 rfl (by decide) (by simp)) (h:=?_)
 rintro v R X' ⟨A',c',rfl,rfl⟩
 refine cN (X':=(Xc.at_ · a)) (fun w h=>h.1.1) ?_
 have hn0:=ar 0
 rw [hS]
 generalize hs1:numV 0=s1 at *
 unfold bld
 repeat' (first|refine cq ?_|refine gs ?_|refine gs1 fun _=>?_|(refine gp ?_ ?_<;>intro hx_ this)|fail)
 (refine ao ⟨[0,2],[(1,⟨[],[(3,⟨[],[(4,⟨[],[(5,⟨[6],[(7,⟨[],[]⟩)]⟩)]⟩)]⟩)]⟩),(3,⟨[],[(1,⟨[],[(4,⟨[],[(5,⟨[6],[(7,⟨[],[]⟩)]⟩)]⟩)]⟩),(4,⟨[],[(1,⟨[],[(5,⟨[6],[(7,⟨[],[]⟩)]⟩)]⟩)]⟩)]⟩)]⟩ [] (fun _=>True) (h:=?_))
 all_goals repeat' (first|refine ag (hc:=hab) ?_|refine gd ?_|refine aF ?_ (h':=?_)|exact aG|(refine aE (vs:=a.cells) (hv:=rfl) ?_)|(refine fI ?_;refine aH (size:=1) (z:=.int .u8 0) rfl rfl rfl rfl (fun _=>At.there _ (At.here _)) (fun w G=>gH ac) ac (by simp only [maxLen];omega) rfl ?_ rfl ?_;(first|with_reducible rfl|with_reducible assumption|with_reducible exact Bool.not_false|with_reducible exact Bool.not_true);intro A1 c1)|refine gs1 fun _=>?_|(refine gq ?_ ?_<;>intro hx_ this)|fail)
 all_goals (repeat' (first|refine gs ?_|refine gs1 fun _=>?_|(refine gp ?_ ?_<;>intro hx_ this)|fail))
 all_goals (
  rw [←bV,←da]
  refine ew (hm:=List.mem_cons_of_mem _ ay) ?_
  repeat' (first|refine gs ?_|refine gs1 fun _=>?_|(refine gp ?_ ?_<;>intro hx_ this)|fail)
  apply ae;apply aj;rfl;rfl
  simp only [bytesV,hrB,cond_true,cC,hs1])
def digV (a:Xc):ByteArray:=bif seqB (bytesV a) ⟨#[]⟩ then ⟨#[]⟩ else shaV (bytesV a)
theorem gO (a:Xc) (hr:a.Rng):Pu Tryz.prog 22 #[itemV 0 a] (fun w=>Xc.at_ w a∧Xg w) (.string (digV a)):=by
 refine aq Tryz.func22 Tryz.ntmps22 fun av bor w0=>?_
 have hsz:=py hr
 repeat' (first|refine ag (hc:=ni a hr) ?_|refine ag (hc:=mS _ ac) ?_|refine gs ?_|refine gs1 fun _=>?_|(refine gp ?_ ?_<;>intro hx_ this)|fail)
 all_goals (apply ae;apply aj;rfl;rfl)
 · simp only [digV,hx_,cond_true]
 · simp only [digV,hx_,cond_false]
structure Xc.Sm (a:Xc):Prop where
 to:a.to.n*16≤140737488351232
 wraps:a.wraps.n*64≤140737488351232
 target:a.target.size≤maxLen
def Xc.re (a:Xc) (s1 s2:Xi):Xc:={ a with to:=s1,wraps:=s2 }
theorem kA {a:Xc} {s1 s2:Xi} (h1:s1.n=a.to.n) (h2:s2.n=a.wraps.n):rightB (a.re s1 s2)=rightB a:=by
 obtain ⟨au,sq,pv,kd,tm,ob,tg,sc,gr,⟨p,n,c⟩,tx,bd,ep,⟨p',n',c'⟩,nn,mm,ee,ss,tl,wl⟩:=a
 obtain ⟨q,m,d⟩:=s1
 obtain ⟨q',m',d'⟩:=s2
 simp only at h1 h2
 subst h1
 subst h2
 simp only [rightB,ruleB,ruleL,usedV,audienceB,rule1B,rule2B,rule3B,rule4B,rule5B,rule6B,objectB,targetB,grantB,labelB,homeB,setupB,wrappedB,placedB,Xc.re]
 rfl
theorem g9 {a:Xc} {s1 s2:Xi} (h1:s1.n=a.to.n) (h2:s2.n=a.wraps.n):digV (a.re s1 s2)=digV a:=by
 have hr:=kA h1 h2
 have hc:coreV (a.re s1 s2)=coreV a:=rfl
 have he:(a.re s1 s2).e=a.e:=rfl
 have hs:(a.re s1 s2).s=a.s:=rfl
 simp only [digV,bytesV,actBytes,actCore,hr,hc,he,hs]
def OfActAt (a:Xc) (u:Value) (X:World→Prop):Prop:=∃ a':Xc,u=itemV 0 a'∧digV a'=digV a∧a'.Rng∧∀ w,X w→a'.at_ w
set_option maxRecDepth 20000 in
theorem ir (a:Xc) (hr:a.Rng) (hs:a.Sm):Mk Tryz.prog 18 #[a.v] (Xc.at_ · a) (OfActAt a):=by
 refine bS Tryz.func18 Tryz.ntmps18 fun av bor w0=>?_
 repeat' (first|refine gs ?_|refine gs1 fun _=>?_|fail)
 refine aT (hc:=eO a.to (strs a.toL) hs.to (fun cs hcs=>by simp only [strs,List.mem_map] at hcs;obtain ⟨x,_,rfl⟩:=hcs;rfl)) fun v1 X1 h1=>?_
 obtain ⟨s1,rfl,hn1,hw1⟩:=h1
 repeat' (first|refine gs ?_|refine gs1 fun _=>?_|fail)
 refine aT (hc:=ji a.wraps (a.wrapsL.map X6.cells) hs.wraps (fun cs hcs=>by simp only [List.mem_map] at hcs;obtain ⟨x,_,rfl⟩:=hcs;rfl)) (hX:=fun w h=>h.1.2) fun v2 X2 h2=>?_
 obtain ⟨s2,rfl,hn2,hw2⟩:=h2
 repeat' (first|refine gs ?_|refine gs1 fun _=>?_|(refine aL ?_)|fail)
 have e1:s1.n=a.to.n:=by rw [hn1,hr.to_len];simp [strs]
 have e2:s2.n=a.wraps.n:=by rw [hn2,hr.wraps_len];simp
 apply ae;refine aI rfl rfl aC ?_
 · rfl
 refine ⟨a.re s1 s2,rfl,g9 e1 e2,⟨hr.ints,hr.wints,?_,?_⟩,fun w h=>⟨?_,?_⟩⟩
 · rw [show (a.re s1 s2).to=s1 from rfl,e1,hr.to_len];rfl
 · rw [show (a.re s1 s2).wraps=s2 from rfl,e2,hr.wraps_len];rfl
 · exact hw1 w h.1.1.2
 · exact hw2 w h.1.2
structure Xa where
 id:ByteArray
 acts:Xi
 keys:Xi
 prev:ByteArray
 gen:Int
 fork:Bool
 actsL:List Xc
def Xa.cells (c:Xa):List Value:=[.string c.id,c.acts.v,c.keys.v,.string c.prev,.int .i64 c.gen,.bool c.fork]
def Xa.v (c:Xa):Value:=.agg c.cells.toArray
def Xa.zero:Xa:=⟨⟨#[]⟩,⟨none,0,0⟩,⟨none,0,0⟩,⟨#[]⟩,0,false,[]⟩
def Acts (w:World) (s:Xi) (l:List Xc):Prop:=Xe w 20 s (l.map Xc.cells)∧∀ a∈l,a.at_ w
def Xa.at_ (w:World) (c:Xa):Prop:=Acts w c.acts c.actsL
structure Xx (l:List Xc):Prop where
 rng:∀ a∈l,a.Rng
 sm:∀ a∈l,a.Sm
theorem Acts.len_ {w:World} {s:Xi} {l:List Xc} (h:Acts w s l):s.n=l.length:=by have:=Xe.len h.1;simpa using this
theorem Acts.max_ {w:World} {s:Xi} {l:List Xc} (h:Acts w s l):s.n≤maxLen:=Nat.le_trans (Xe.cap h.1) (Xe.max h.1)
theorem Acts.some_ {w:World} {s:Xi} {l:List Xc} (h:Acts w s l) (hl:0<l.length):s.p.isSome=true:=by
 have hx:l[0]?=some l[0]:=List.getElem?_eq_getElem hl
 exact (Xe.row h.1 0 l[0].cells (by simp [hx])).2.1
theorem Acts.get {w:World} {s:Xi} {l:List Xc} (h:Acts w s l) {i:Nat} {x:Xc} (hx:l[i]?=some x):x.cells.length=20∧s.p.isSome=true∧∀ j u,x.cells[j]?=some u→CellAt w s.p (i*20+j) u :=
 Xe.row h.1 i x.cells (by simp [hx])
def idxV (l:List Xc) (d:ByteArray):Option Nat:=l.findIdx? fun a=>seqB (digV a) d
def idxP (o:Option Nat):Value:=.tuple #[.int .i64 ((o.getD 0:Nat):Int),.bool o.isSome]
def badI (l:List Xc) (d:ByteArray) (k:Nat):Bool :=
 match l[k]? with
 | some x=>seqB (digV x) d
 | none=>false
theorem iJ {l:List Xc} {d:ByteArray} {k:Nat} {x:Xc} (h:l[k]?=some x):badI l d k=seqB (digV x) d:=by simp only [badI,h]
theorem qs {l:List Xc} {d:ByteArray} (i:Ei l.length (badI l d)) (hlt:i.k<l.length) (hb:badI l d i.k=true):idxV l d=some i.k:=by
 rw [idxV,List.findIdx?_eq_some_iff_getElem]
 refine ⟨hlt,?_,fun j hj=>?_⟩
 · rw [iJ (List.getElem?_eq_getElem hlt)] at hb;exact hb
 · have:=i.ok j hj
   rw [iJ (List.getElem?_eq_getElem ac)] at this
   simp [this]
theorem tM {l:List Xc} {d:ByteArray} (i:Ei l.length (badI l d)) (h:¬ i.k<l.length):idxV l d=none:=by
 rw [idxV,List.findIdx?_eq_none_iff]
 intro x hx
 obtain ⟨k,hk,rfl⟩:=List.getElem_of_mem hx
 have:=i.ok k ac
 rwa [iJ (List.getElem?_eq_getElem hk)] at this
theorem wD (c:Xa) (hc:Xx c.actsL) (d:ByteArray):Pu Tryz.prog 80 #[c.v,.string d] (fun w=>c.at_ w∧Xg w) (idxP (idxV c.actsL d)):=by
 refine aq Tryz.func80 Tryz.ntmps80 fun av bor w0=>?_
 refine aD (p:=c.acts.n=c.actsL.length∧c.acts.n≤maxLen∧(0<c.actsL.length→c.acts.p.isSome=true)) (fun w h=>⟨h.1.len_,h.1.max_,h.1.some_⟩) fun ⟨hl,hm,hp⟩=>?_
 simp only [maxLen] at hm
 repeat' (first|refine gs ?_|refine gs1 fun _=>?_|fail)
 rename_i b
 refine az (ι:=Ei c.actsL.length (badI c.actsL d)) (fun i=>⟨[(1,.string d),(9,c.acts.v),(10,.int .i64 c.acts.n),(11,.int .i64 i.k)],[],fun w=>c.at_ w∧Xg w⟩) (fun i=>c.actsL.length-i.k) (Ei.zero _ _) (ak an (List.Sublist.cons _ (al _)) fun _ h=>h) fun i=>?_
 have hik:=i.hk
 repeat' (first|refine gs ?_|refine gs1 fun _=>?_|(refine gp ?_ ?_<;>intro hx_ this)|fail)
 · have hlt:i.k<c.actsL.length:=by omega
   have hp':=hp ac
   obtain ⟨x,hx⟩:∃ x,c.actsL[i.k]?=some x:=⟨_,List.getElem?_eq_getElem hlt⟩
   have hxm:x∈c.actsL:=List.mem_of_getElem? hx
   repeat' (first|refine gs ?_|refine gs1 fun _=>?_|(refine aA (q:=i.k*20) ?_)|(refine aY (cs:=x.cells) (hF:=fun w h=>Acts.get h.1 hx) ?_)|fail)
   refine aT (hc:=ir x (hc.rng x hxm) (hc.sm x hxm)) (hX:=fun w h=>h.1.2 x hxm) fun v1 X1 h1=>?_
   obtain ⟨x',rfl,hdig,hr',hat⟩:=h1
   refine ag (hc:=gO x' hr') (hX:=fun w h=>⟨hat w h.2,h.1.2⟩) ?_
   rw [hdig]
   repeat' (first|refine gs ?_|refine gs1 fun _=>?_|(refine gp ?_ ?_<;>intro hx_ this)|fail)
   · apply ae;apply cP;rfl;rfl;rfl
     rw [qs i hlt (by rw [iJ hx];assumption)]
     rfl
   · exact ⟨i.next hlt (by rw [iJ hx];assumption),(by show c.actsL.length-(i.k+1)<c.actsL.length-i.k;omega),ak an (List.nil_sublist _) fun _ h=>h.1⟩
 · apply ae;apply cP;rfl;rfl;rfl
   rw [tM i (by omega)]
   rfl
def Chains (w:World) (s:Xi) (l:List Xa):Prop:=Xe w 6 s (l.map Xa.cells)∧∀ c∈l,c.at_ w
theorem Chains.len_ {w:World} {s:Xi} {l:List Xa} (h:Chains w s l):s.n=l.length:=by have:=Xe.len h.1;simpa using this
theorem Chains.max_ {w:World} {s:Xi} {l:List Xa} (h:Chains w s l):s.n≤maxLen:=Nat.le_trans (Xe.cap h.1) (Xe.max h.1)
theorem Chains.some_ {w:World} {s:Xi} {l:List Xa} (h:Chains w s l) (hl:0<l.length):s.p.isSome=true:=by
 have hx:l[0]?=some l[0]:=List.getElem?_eq_getElem hl
 exact (Xe.row h.1 0 l[0].cells (by simp [hx])).2.1
theorem Chains.get {w:World} {s:Xi} {l:List Xa} (h:Chains w s l) {i:Nat} {x:Xa} (hx:l[i]?=some x):x.cells.length=6∧s.p.isSome=true∧∀ j u,x.cells[j]?=some u→CellAt w s.p (i*6+j) u :=
 Xe.row h.1 i x.cells (by simp [hx])
def findC (l:List Xa) (id:ByteArray):Option Xa:=l.find? fun c=>seqB c.id id
def findP (o:Option Xa):Value:=.tuple #[(o.getD Xa.zero).v,.bool o.isSome]
def badF (l:List Xa) (d:ByteArray) (k:Nat):Bool :=
 match l[k]? with
 | some x=>seqB x.id d
 | none=>false
theorem nI {l:List Xa} {d:ByteArray} {k:Nat} {x:Xa} (h:l[k]?=some x):badF l d k=seqB x.id d:=by simp only [badF,h]
theorem r6 {α:Type} {p:α→Bool}:∀ (l:List α) (k:Nat) (x:α),l[k]?=some x→p x=true→(∀ j y,j<k→l[j]?=some y→p y=false)→l.find? p=some x
 | [],k,x,h,_,_=>by simp at h
 | a::l,0,x,h,hp,_=>by simp at h;subst h;simp [hp]
 | a::l,k+1,x,h,hp,hb=>by
  have h0:=hb 0 a ac rfl
  simp only [List.find?_cons,h0]
  exact r6 l k x (by simpa using h) hp fun j y hj hy=>hb (j+1) y ac (by simpa using hy)
theorem oV {l:List Xa} {d:ByteArray} (i:Ei l.length (badF l d)) {x:Xa} (hx:l[i.k]?=some x) (hb:seqB x.id d=true):findC l d=some x :=
 r6 l i.k x hx hb fun j y hj hy=>by have:=i.ok j hj;rwa [nI hy] at this
theorem qx {l:List Xa} {d:ByteArray} (i:Ei l.length (badF l d)) (h:¬ i.k<l.length):findC l d=none:=by
 rw [findC,List.find?_eq_none]
 intro x hx
 obtain ⟨k,hk,rfl⟩:=List.getElem_of_mem hx
 have:=i.ok k ac
 rw [nI (List.getElem?_eq_getElem hk)] at this
 simp [this]
theorem cB {P:Program} {fn:Func} {N t u ty n:Nat} {s:St} {b T:Nat} {cs:List Value} {x:Value} [hI:Xs P ty n] (hr:fn.results=#[.cell t ty,.tmp u]) (h:Sy.look s.env t=some (.pointer (some ⟨b,0,none⟩))) (h':Sy.look s.env u=some x) (hm:cel b T cs∈s.loc) (hn:cs.length=n) :
  Res1 P fn N s (.tuple #[.agg cs.toArray,x]):=fun av bor w0 a w ok=>by
 obtain ⟨D,h1,h2,h3⟩:=cX hI.out
 have ht:=ok.env t _ h
 have hu:=ok.env u _ h'
 have:(loadVar ty ⟨b,0,none⟩).run P w=.ok (.agg cs.toArray) w:=by
  cases D<;>simp at h2
  · exact run_loadVar_row w b T ty cs.toArray (0,0) _ (fA ok hm) h1 rfl (by rw [h3];simp [hn])
  · exact run_loadVar_row w b T ty cs.toArray (0,0) _ (fA ok hm) h1 rfl (by rw [h3];simp [hn])
 simp [results,hr,ht,hu,asAddr,this]
theorem r5 (s:Xi) (l:List Xa) (id:ByteArray):Pu Tryz.prog 65 #[s.v,.string id] (fun w=>Chains w s l) (findP (findC l id)):=by
 refine aq Tryz.func65 Tryz.ntmps65 fun av bor w0=>?_
 refine aD (p:=s.n=l.length∧s.n≤maxLen∧(0<l.length→s.p.isSome=true)) (fun w h=>⟨h.len_,h.max_,h.some_⟩) fun ⟨hl,hm,hp⟩=>?_
 simp only [maxLen] at hm
 repeat' (first|refine gs ?_|refine gs1 fun _=>?_|fail)
 rename_i b
 refine az (ι:=Ei l.length (badF l id)) (fun i=>⟨[(1,.string id),(4,.pointer (some ⟨b,0,none⟩)),(8,s.v),(9,.int .i64 s.n),(10,.int .i64 i.k)],[cel b 65 Xa.zero.cells],fun w=>Chains w s l⟩) (fun i=>l.length-i.k) (Ei.zero _ _) (ak an (al _) fun _ h=>h) fun i=>?_
 have hik:=i.hk
 repeat' (first|refine gs ?_|refine gs1 fun _=>?_|(refine gp ?_ ?_<;>intro hx_ this)|fail)
 · have hlt:i.k<l.length:=by omega
   have hp':=hp ac
   obtain ⟨x,hx⟩:∃ x,l[i.k]?=some x:=⟨_,List.getElem?_eq_getElem hlt⟩
   repeat' (first|refine gs ?_|refine gs1 fun _=>?_|(refine aA (q:=i.k*6) ?_)|(refine aY (cs:=x.cells) (hF:=fun w h=>Chains.get h hx) ?_)|(refine gp ?_ ?_<;>intro hx_ this)|fail)
   · apply ae;refine cB rfl rfl rfl aC ?_
     · rfl
     rw [oV i hx (by assumption)]
     rfl
   · exact ⟨i.next hlt (by rw [nI hx];assumption),(by show l.length-(i.k+1)<l.length-i.k;omega),ak an (List.Sublist.cons _ (al _)) fun _ h=>h⟩
 · repeat' (first|refine gs ?_|refine gs1 fun _=>?_|(refine aL ?_)|fail)
   apply ae;refine cB rfl rfl rfl aC ?_
   · rfl
   rw [qx i (by omega)]
   rfl
end Go.Proofs.YtgffbiobmamobaaGreatDoor
namespace Go.Proofs.YtgffbiobmamobaaGreatDoor
open Go Go.Proofs Sy Go.Shelf Go.Maps Go.Sort
theorem sortS_c:SortC Tryz.prog 68 encStr (fun ss=>ss.mergeSort leB) where
 some_:=fun blk off cap ss w h1 h2 h3=>AnyM.slices_Sort_string Tryz.sortS blk off cap ss w h1 h2 h3
 none_:=fun p cap w=>AnyM.slices_Sort_string_none Tryz.sortS p cap w
 len:=fun ss=>List.length_mergeSort ss
end Go.Proofs.YtgffbiobmamobaaGreatDoor
namespace Go.Proofs.YtgffbiobmamobaaGreatDoor
open Go Go.Proofs Sy
def setM (ks:List ByteArray):List (ByteArray×Value):=ks.map fun k=>(k,.bool true)
def sput:List ByteArray→ByteArray→List ByteArray
 | [],k=>[k]
 | k'::r,k=>bif Xq.eqb k k' then k::r else k'::sput r k
def sdel:List ByteArray→ByteArray→List ByteArray
 | [],_=>[]
 | k'::r,k=>bif Xq.eqb k k' then r else k'::sdel r k
theorem oy:∀ (ks:List ByteArray) (k:ByteArray),mput (setM ks) k (.bool true)=setM (sput ks k)
 | [],k=>rfl
 | k'::r,k=>by
  have ih:=oy r k
  simp only [setM] at ih
  simp only [setM,List.map_cons,mput,sput]
  cases Xq.eqb k k' with
  | true=>rfl
  | false=>simp only [cond_false,ih,List.map_cons]
theorem sU (l:List ByteArray):l.map encB=(strs l).flatten:=by
 induction l with
 | nil=>rfl
 | cons a l ih =>
  simp only [strs,List.map_cons,List.flatten_cons] at ih ⊢
  rw [ih]
  rfl
theorem vy (l:List ByteArray):∀ r∈strs l,r.length=1:=by
 intro r hr
 simp only [strs,List.mem_map] at hr
 obtain ⟨x,_,rfl⟩:=hr
 rfl
theorem dr {w:World} {e n c:Nat} {A:Option Addr} {l:List ByteArray} (h:ORow w e 1 (.slice A n c) n (l.map encB)) (hn:n=l.length):Strs w ⟨A,n,c⟩ l:=by
 rw [sU] at h
 exact aM h (by simpa [strs] using hn) (vy l)
structure TieS where
 f:List ByteArray
 a:List ByteArray
 b:List ByteArray
 m:List ByteArray
def undoT (t:TieS) (x:Xc):TieS :=
 bif decide (x.kind=7) then { t with f:=sdel t.f x.target } else bif decide (x.kind=8) then { t with a:=sdel t.a x.target } else bif decide (x.kind=10) then { t with b:=sdel t.b x.target } else bif decide (x.kind=11) then { t with m:=sdel t.m x.target } else t
def limN (n:Int) (len:Nat):Nat:=(if (len:Int)<(if n<0 then 0 else n) then (len:Int) else (if n<0 then 0 else n)).toNat
def stepT (l:List Xc) (i:Nat) (t:TieS) (x:Xc):TieS :=
 bif decide (x.kind=7) then { t with f:=sput t.f x.target } else bif decide (x.kind=8) then { t with a:=sput t.a x.target } else bif decide (x.kind=9) then { t with a:=sdel t.a x.target }
 else bif decide (x.kind=10) then { t with b:=sput t.b x.target,f:=sdel t.f x.target,a:=sdel t.a x.target } else bif decide (x.kind=11) then { t with m:=sput t.m x.target }
 else bif decide (x.kind=6) then (match idxV l x.object with|some j=>bif decide ((j:Int)<(i:Int)) then undoT t (l.getD j Xc.zero) else t|none=>t) else t
def tieF (l:List Xc):Nat→TieS
 | 0=>⟨[],[],[],[]⟩
 | i+1=>stepT l i (tieF l i) (l.getD i Xc.zero)
def tieV (l:List Xc) (n:Int):TieS:=tieF l (limN n l.length)
theorem rV {l:List Xc} {d:ByteArray} {j:Nat} (h:idxV l d=some j):j<l.length:=by
 rw [idxV,List.findIdx?_eq_some_iff_getElem] at h
 exact h.1
structure LBnd (k:Nat) (l:List ByteArray):Prop where
 len:l.length≤k
 size:∀ x∈l,x.size≤maxLen
structure TBnd (k:Nat) (t:TieS):Prop where
 f:LBnd k t.f
 a:LBnd k t.a
 b:LBnd k t.b
 m:LBnd k t.m
def hasS (l:List ByteArray) (x:ByteArray):Bool:=l.any fun y=>seqB x y
def eqBad (l m:List ByteArray) (k:Nat):Bool:=!seqB (l.getD k .empty) (m.getD k .empty)
def eqL (l m:List ByteArray):Bool:=decide (l.length=m.length)&&allB l.length (eqBad l m)
theorem tY (s r:Xi) (l m:List ByteArray):Pu Tryz.prog 106 #[s.v,r.v] (fun w=>Strs w s l∧Strs w r m) (.bool (eqL l m)):=by
 refine aq Tryz.func106 Tryz.ntmps106 fun av bor w0=>?_
 refine aD (p:=(s.n=l.length∧s.n≤maxLen∧(0<l.length→s.p.isSome=true))∧(r.n=m.length∧r.n≤maxLen∧(0<m.length→r.p.isSome=true))) (fun w h=>⟨⟨h.1.len_,Nat.le_trans (Xe.cap h.1) (Xe.max h.1),h.1.some_⟩,⟨h.2.len_,Nat.le_trans (Xe.cap h.2) (Xe.max h.2),h.2.some_⟩⟩) fun ⟨⟨hl,hm,hp⟩,⟨hl',hm',hp'⟩⟩=>?_
 simp only [maxLen] at hm hm'
 repeat' (first|refine gs ?_|(refine gp ?_ ?_<;>intro hx_ this)|fail)
 · apply ae;apply aj;rfl;rfl
   have:¬ l.length=m.length:=by
    have h1:¬ (s.n:Int)=(r.n:Int):=by simpa using hx_
    omega
   simp only [eqL,decide_eq_false this,Bool.false_and]
 have hlm:l.length=m.length:=by
  have h1:(s.n:Int)=(r.n:Int):=by simpa using hx_
  omega
 refine az (ι:=Ei l.length (eqBad l m)) (fun i=>⟨[(0,s.v),(1,r.v),(12,.int .i64 s.n),(13,.int .i64 i.k)],[],fun w=>Strs w s l∧Strs w r m⟩) (fun i=>l.length-i.k) (Ei.zero _ _) (ak (by repeat (first|exact trivial|refine ⟨rfl,?_⟩)) (al _) fun _ h=>h) fun i=>?_
 have hik:=i.hk
 repeat' (first|refine gs ?_|(refine gp ?_ ?_<;>intro hx_ this)|fail)
 · have hlt:i.k<l.length:=by omega
   have hlt':i.k<m.length:=by omega
   have hp1:=hp ac
   have hp2:=hp' ac
   (refine bU ⟨[0,1,2,3,4,5,6,7,8],[]⟩ (h:=?_))
   all_goals repeat' (first|refine gd ?_|refine aJ (hy:=by first|(apply bk (q:=i.k);rfl;rfl;omega;omega;assumption;omega)|(apply ez;rfl;exact fun w h=>Strs.get h.1 hlt)|(apply ez;rfl;exact fun w h=>Strs.get h.2 hlt')) ?_|refine aF ?_ (h':=?_)|exact aG|(refine gq ?_ ?_<;>intro hx_ this)|fail)
   repeat' (first|refine gs ?_|(refine gp ?_ ?_<;>intro hx_ this)|fail)
   · apply ae;apply aj;rfl;rfl
     rw [eqL,ie hlt (by assumption),Bool.and_false]
   · exact ⟨i.next hlt (by assumption),(by show l.length-(i.k+1)<l.length-i.k;omega),ak (by repeat (first|exact trivial|refine ⟨rfl,?_⟩)) (al _) fun _ h=>h⟩
 · apply ae;apply aj;rfl;rfl
   rw [eqL,i.all ac,decide_eq_true hlm]
   rfl
def XC (c:Xa) (w:World):Prop:=c.at_ w∧Xg w
theorem sT (l:List ByteArray):∀ cs∈strs l,cs.all (·.oneCell')=true:=fun cs hcs=>by simp only [strs,List.mem_map] at hcs;obtain ⟨x,_,rfl⟩:=hcs;rfl
theorem vB {e n:Nat} {v:Value} {ss:List ByteArray} (hn:n≤1000000000):Ct Tryz.prog 68 #[v] [orow e 1 v n (ss.map encB)] (fun _=>True) fun u R _=>u=.tuple #[]∧R=[orow e 1 v n ((sortB ss).map encB)]:=by
 have h:=sortS_c.ct (e:=e) (n:=n) (v:=v) (ss:=ss.map bl) hn
 rw [oF ss]
 refine h.mono fun u R X' ⟨h1,h2⟩=>⟨h1,?_⟩
 rw [h2,kL,sortB]
section
variable {P:Program} {N:Nat} {av bor:List Nat} {w0:World} {ops:Array Oper} {rest:List Oper} {k:St→Prop} {E:Env} {loc:List Xl} {X:World→Prop}
theorem bO {r:Xl} (h:Sw P N av bor w0 ops rest ⟨E,loc,fun w=>X w∧r.F w⟩ k):Sw P N av bor w0 ops rest ⟨E,r::loc,X⟩ k:=Sw.mk fun a w ok=>h.run a w (ok.via fun M G=>G.give)
end
section
variable {P:Program} {N:Nat} {av bor:List Nat} {w0:World} {ops:Array Oper} {rest:List Oper} {kk:St→Prop} {E:Env} {loc:List Xl} {X:World→Prop} {x y:Operand} {t t2:TypeId}
variable {n:Nat} {ty:TypeId} {pos:String} {af:Array Edge} {g:Option (Nat×Bool)} {bb want:Bool}
theorem il {k:IntKind} {a b:Int} (h:Sw P N av bor w0 ops rest ⟨(n,.bool false)::E,loc,X⟩ kk) (hx:ev E x=some (.int k a):=by rfl) (hy:ev E y=some (.int k b):=by rfl) (hab:a=b:=by first|omega|decide) (hg:gdB ops E g=some (bb,want):=by rfl) (hbb:bb=want:=by exact ax) (hd:Nat.blt n N=true:=by rfl) :
  Sw P N av bor w0 ops (⟨some n,.binOp .neq t x y t2,ty,pos,af,g⟩::rest) ⟨E,loc,X⟩ kk:=fx (hx:=hx) (hy:=hy) (hg:=hg) (hbb:=hbb) (hd:=hd) (h:=by
   have e:∀ u,u=Value.bool false→Sw P N av bor w0 ops rest ⟨(n,u)::E,loc,X⟩ kk:=fun u hu=>hu▸h
   exact e _ (by simp [hab]))
theorem rp {k:IntKind} {a b:Int} (h:Sw P N av bor w0 ops rest ⟨(n,.bool false)::E,loc,X⟩ kk) (hx:ev E x=some (.int k a):=by rfl) (hy:ev E y=some (.int k b):=by rfl) (hab:¬ b≤a:=by first|omega|decide) (hg:gdB ops E g=some (bb,want):=by rfl) (hbb:bb=want:=by exact ax) (hd:Nat.blt n N=true:=by rfl) :
  Sw P N av bor w0 ops (⟨some n,.binOp .geq t x y t2,ty,pos,af,g⟩::rest) ⟨E,loc,X⟩ kk:=pO (hx:=hx) (hy:=hy) (hg:=hg) (hbb:=hbb) (hd:=hd) (h:=by
   have e:∀ u,u=Value.bool false→Sw P N av bor w0 ops rest ⟨(n,u)::E,loc,X⟩ kk:=fun u hu=>hu▸h
   exact e _ (by simp only [decide_eq_false hab]))
theorem ye {k:IntKind} {a b:Int} (h:Sw P N av bor w0 ops rest ⟨(n,.bool true)::E,loc,X⟩ kk) (hx:ev E x=some (.int k a):=by rfl) (hy:ev E y=some (.int k b):=by rfl) (hab:b<a:=by first|omega|decide) (hg:gdB ops E g=some (bb,want):=by rfl) (hbb:bb=want:=by exact ax) (hd:Nat.blt n N=true:=by rfl) :
  Sw P N av bor w0 ops (⟨some n,.binOp .gtr t x y t2,ty,pos,af,g⟩::rest) ⟨E,loc,X⟩ kk:=pN (hx:=hx) (hy:=hy) (hg:=hg) (hbb:=hbb) (hd:=hd) (h:=by
   have e:∀ u,u=Value.bool true→Sw P N av bor w0 ops rest ⟨(n,u)::E,loc,X⟩ kk:=fun u hu=>hu▸h
   exact e _ (by simp [hab]))
theorem yf {k:IntKind} {a b:Int} (h:Sw P N av bor w0 ops rest ⟨(n,.bool false)::E,loc,X⟩ kk) (hx:ev E x=some (.int k a):=by rfl) (hy:ev E y=some (.int k b):=by rfl) (hab:¬ b<a:=by first|omega|decide) (hg:gdB ops E g=some (bb,want):=by rfl) (hbb:bb=want:=by exact ax) (hd:Nat.blt n N=true:=by rfl) :
  Sw P N av bor w0 ops (⟨some n,.binOp .gtr t x y t2,ty,pos,af,g⟩::rest) ⟨E,loc,X⟩ kk:=pN (hx:=hx) (hy:=hy) (hg:=hg) (hbb:=hbb) (hd:=hd) (h:=by
   have e:∀ u,u=Value.bool false→Sw P N av bor w0 ops rest ⟨(n,u)::E,loc,X⟩ kk:=fun u hu=>hu▸h
   exact e _ (by simp [hab]))
end
structure RowI where
 A:Option Addr
 c:Nat
def Xa.with (c:Xa) (s:Xi) (l:List Xc):Xa:={ c with acts:=s,actsL:=l }
theorem uF (l:List Xc):∀ r∈l.map Xc.cells,r.length=20:=by
 intro r hr
 obtain ⟨a,_,rfl⟩:=List.mem_map.1 hr
 rfl
theorem nN {w:World} {e n c:Nat} {A:Option Addr} {l:List Xc} (h:ORow w e 20 (.slice A n c) n (l.map Xc.cells).flatten) (hn:n=l.length) (ha:∀ a∈l,a.at_ w):Acts w ⟨A,n,c⟩ l :=
 ⟨aM h (by simpa using hn) (uF l),ha⟩
theorem qV (l:List Xc):∀ cs∈l.map Xc.cells,cs.all (·.oneCell')=true:=by
 intro r hr
 obtain ⟨a,_,rfl⟩:=List.mem_map.1 hr
 rfl
section
variable {P:Program} {N:Nat} {av bor:List Nat} {w0:World} {ops:Array Oper} {rest:List Oper} {kk:St→Prop} {E:Env} {loc:List Xl} {X:World→Prop} {x y:Operand} {t t2:TypeId}
variable {n:Nat} {ty:TypeId} {pos:String} {af:Array Edge} {g:Option (Nat×Bool)} {bb want:Bool}
end
section
variable {P:Program} {N:Nat} {av bor:List Nat} {w0:World} {ops:Array Oper} {rest:List Oper} {k:St→Prop} {E:Env} {loc:List Xl} {X:World→Prop}
variable {d:Option Tmp} {ty:TypeId} {pos:String} {af:Array Edge} {g:Option (Nat×Bool)} {bb want:Bool}
theorem vw {x:Operand} {xs:List Operand} {ats:Array TypeId} {f:FuncId} {first caps:Array Value} {args all:List Value} {X1:World→Prop} {Post:Value→List Xl→(World→Prop)→Prop} (h:∀ v R X',Post v R X'→Sw P N av bor w0 ops rest ⟨putE E d v,R++loc,fun w=>X w∧X' w⟩ k) (hx:ev E x=some (.func (.func f) first caps):=by rfl) (ha:evs E xs=some args:=by rfl) (hall:first.toList++args++caps.toList=all:=by rfl) (hg:gdB ops E g=some (bb,want):=by rfl) (hb:bb=want:=by exact ax) (hd:inB N d=true:=by rfl) (hf:Eb P f:=by first|infer_instance|exact ⟨ai⟩) (hc:Ct P f all.toArray [] X1 Post) (hX:∀ w,X w→X1 w:=by (first|exact fun _ _=>trivial|exact fun _ h=>h|exact fun _ h=>h.1|exact fun _ h=>h.2)) :
  Sw P N av bor w0 ops (⟨d,.call ⟨.value x,xs.toArray,ats⟩,ty,pos,af,g⟩::rest) ⟨E,loc,X⟩ k:=ci (pre:=[]) (fr:=loc) hx ha hall hg hb hd hf hc hX h
end
section
variable {P:Program} {N:Nat} {av bor:List Nat} {w0:World} {st:St} {x y:Operand} {t t2:TypeId} {ty:TypeId}
end
theorem yG {P:Program} {f:FuncId} {args:Array Value} {X X':World→Prop} {v:Value} (h:Pu P f args X v) (hx:∀ w,X' w→X w):Pu P f args X' v:=by
 unfold Pu at *
 exact Ct.mk fun w av G=>(Ct.run h w av (G.imp hx)).mono fun e w' ⟨u,R,X1,he,hp,G'⟩=>⟨u,R,X1,he,hp,G'⟩
end Go.Proofs.YtgffbiobmamobaaGreatDoor
namespace Go.Proofs.YtgffbiobmamobaaGreatDoor
open Go Go.Proofs Sy Go.Shelf
theorem kF {P:Program} {f:FuncId} {args:Array Value} {X:World→Prop} {v:Value} (h:∀ w,Calls P f args w fun e w'=>e=.returned v∧w'=w):Pu P f args X v:=by
 unfold Pu
 exact Ct.mk fun w av G=>(h w).mono fun e w' ⟨he,hw⟩=>⟨v,[],X,he,⟨rfl,rfl⟩,by subst hw;exact G⟩
theorem oG (x:Nat) (hx:x<18446744073709551616):Pu Tryz.prog 165 #[.int .u64 (x:Int)] (fun _=>True) (.int .i64 (Lib.bitLen x)) :=
 kF fun w=>by
  have h:=Any.bits_Len64 Tryz.len64 (x:Int) w ac ac
  rw [Int.toNat_natCast] at h
  exact h
theorem ox (x y:Nat) (hx:x<18446744073709551616) (hy:y<18446744073709551616):Pu Tryz.prog 190 #[.int .u64 (x:Int),.int .u64 (y:Int)] (fun _=>True) (.tuple #[.int .u64 ((x*y/18446744073709551616:Nat):Int),.int .u64 ((x*y%18446744073709551616:Nat):Int)]) :=
 kF fun w=>Any.bits_Mul64 Tryz.mul64 x y hx hy w
theorem rS (d:Nat) (hd:d=8∨d=16):Pu Tryz.prog 201 #[.int .u64 ((2305843009213693952-d/8:Nat):Int)] (fun _=>True) (.int .i64 3):=by
 refine aq Tryz.func201 Tryz.ntmps201 fun av bor w0=>?_
 have h:=oG (2305843009213693952-d/8) ac
 have e:Lib.bitLen (2305843009213693952-d/8)=61:=by rcases hd with rfl|rfl<;>kernel_rfl
 rw [e] at h
 repeat' (first|(refine ag (hc:=h) ?_)|refine gs ?_|(refine gp ?_ ?_<;>intro hx_ this)|fail)
 apply ae;apply aj;rfl;rfl
 rfl
namespace Sy
section
variable {P:Program} {N:Nat} {av bor:List Nat} {w0:World} {st:St} {K:Exit→St→Prop}
theorem ll {ι:Type} {id:Nat} (M:ι→St) {x y:Code} (h1:Cw P N av bor w0 x st (blk id (thn (fun s=>∃ i,∀ a w,Ok N av bor w0 s a w→Ok N av bor w0 (M i) a w) K))) (h2:∀ i,Cw P N av bor w0 y (M i) K) :
  Cw P N av bor w0 x st (blk id (thn (fun s=>Cw P N av bor w0 y s K) K)):=nB (fun e s h=>by
 cases e with
 | normal =>
  obtain ⟨i,hi⟩:=h
  exact iG hi (h2 i)
 | exit id' =>
  by_cases e:id'=id
  · simp only [blk,if_pos e] at h ⊢
    obtain ⟨i,hi⟩:=h
    exact iG hi (h2 i)
  · simp only [blk,if_neg e] at h ⊢
    exact h
 | _=>exact h) h1
end
end Sy
theorem cD (x:Int) (h:0≤x∧x<18446744073709551616):IntKind.u64.wrap x=x:=by
 rw [IntKind.wrap_u64]
 omega
theorem vn (x:Int):IntKind.u64.wrap x=x%18446744073709551616:=IntKind.wrap_u64 x
def Eqq (a b:Int):Prop:=a=b
def Hid (p:Prop):Prop:=p
theorem ri (a b c:Int):IntKind.u64.wrap (IntKind.u64.wrap (IntKind.u64.wrap a+b)-IntKind.u64.wrap c)=(a+b-c)%18446744073709551616:=by
 simp only [vn]
 omega
theorem qP {V M Q z:Nat} (h:V=M*Q+z) (hz:z<M):V/M=Q∧V%M=z:=by
 subst h
 exact ⟨by rw [Nat.mul_add_div ac,Nat.div_eq_of_lt hz,Nat.add_zero],by rw [Nat.mul_add_mod,Nat.mod_eq_of_lt hz]⟩
theorem and32 (a:Nat) (ha:a<18446744073709551616):bitsV .and .u64 (a:Int) 4294967295=((a%4294967296:Nat):Int):=by
 show IntKind.u64.wrap ((((BitVec.ofInt 64 (a:Int)) &&& (BitVec.ofInt 64 4294967295)).toNat:Nat):Int)=_
 have e:(BitVec.ofInt 64 4294967295).toNat=4294967295:=by decide
 rw [BitVec.toNat_and,e,BitVec.ofInt_natCast,BitVec.toNat_ofNat,Nat.mod_eq_of_lt (show a<2 ^ 64 from ha),show (4294967295:Nat)=2 ^ 32-1 by decide,Nat.and_two_pow_sub_one_eq_mod,cD _ (by omega)]
theorem shl3 (a:Nat):shlV .u64 (a:Int) 3=((a*8%18446744073709551616:Nat):Int):=by
 show IntKind.u64.wrap ((a:Int)*2 ^ (min (3:Int).toNat 64))=_
 rw [show (2:Int) ^ (min (3:Int).toNat 64)=8 by kernel_rfl,vn]
 omega
theorem vO (a:Nat) {c:Int} (p:Nat) (hp:(2:Int) ^ (min c.toNat 64)=(p:Int)):shrV .u64 (a:Int) c=((a/p:Nat):Int):=by
 show (a:Int).fdiv (2 ^ (min c.toNat 64))=_
 rw [hp,←Int.ofNat_fdiv]
theorem or3 (a b:Nat) (ha:a<2305843009213693952) (hb:b<8):bitsV .or .u64 ((a*8:Nat):Int) (b:Int)=((a*8+b:Nat):Int):=by
 show IntKind.u64.wrap ((((BitVec.ofInt 64 ((a*8:Nat):Int)) ||| (BitVec.ofInt 64 (b:Int))).toNat:Nat):Int)=_
 rw [BitVec.ofInt_natCast,BitVec.ofInt_natCast,BitVec.toNat_or,BitVec.toNat_ofNat,BitVec.toNat_ofNat,Nat.mod_eq_of_lt (show a*8<2 ^ 64 by omega),Nat.mod_eq_of_lt (show b<2 ^ 64 by omega)]
 have e:a*8 ||| b=a*8+b:=by
  have h:=Nat.shiftLeft_add_eq_or_of_lt (i:=3) (b:=b) hb a
  rw [Nat.shiftLeft_eq] at h
  exact h.symm
 rw [e,cD _ (by omega)]
theorem v6 (a b:Nat) (ha:a<18446744073709551616) (hb:0<b):IntKind.u64.wrap ((a:Int).tdiv (b:Int))=((a/b:Nat):Int):=by
 have h:(a:Int).tdiv (b:Int)=((a/b:Nat):Int):=by rw [Int.natCast_ediv,Int.tdiv_eq_ediv_of_nonneg (by omega)]
 have:=Nat.div_le_self a b
 rw [h]
 generalize a/b=c at *
 rw [cD _ (by omega)]
theorem rB (a b:Nat):(a:Int).tmod (b:Int)=((a%b:Nat):Int):=by rw [Int.natCast_emod,Int.tmod_eq_emod_of_nonneg (by omega)]
theorem sr {Y Y0 u v:Nat} (hY:Y=4294967295*4294967296+Y0) (hv:v<4294967296):u*4294967296+v<(u/4294967295+1)*Y :=
 Nat.lt_of_lt_of_le (show u*4294967296+v<(u/4294967295+1)*18446744069414584320 by omega) (Nat.mul_le_mul_left _ ac)
theorem su {Y Y0 u v p r:Nat} (hY:Y=4294967295*4294967296+Y0) (isum:(p+1)*4294967295+r=u) (hu:u<Y) (hv:v<4294967296) (h:4294967296≤p+1∨4294967296*r+v<(p+1)*Y0):u*4294967296+v<(p+1)*Y:=by
 rcases h with h|h
 · exact Nat.lt_of_lt_of_le (show u*4294967296+v<4294967296*Y by omega) (Nat.mul_le_mul_right Y h)
 · have e:(p+1)*Y=(p+1)*4294967295*4294967296+(p+1)*Y0:=by rw [hY,Nat.mul_assoc,←Nat.mul_add]
   rw [e,←isum,Nat.add_mul,Nat.add_assoc]
   exact Nat.add_lt_add_left (by rw [Nat.mul_comm r];exact h) _
theorem sj {Y Y0 u v p r:Nat} (hY:Y=4294967295*4294967296+Y0) (h0:Y0<4294967289) (isum:(p+1)*4294967295+r=u) (hr:4294967296≤r+4294967295) (itop:p+1≤4294967297):p*Y≤u*4294967296+v:=by
 have e:p*Y=p*4294967295*4294967296+p*Y0:=by rw [hY,Nat.mul_assoc,←Nat.mul_add]
 have h1:p*Y0≤4294967296*4294967296:=Nat.mul_le_mul ac ac
 have hu':u=p*4294967295+(r+4294967295):=by
  rw [←isum,Nat.succ_mul,Nat.add_assoc,Nat.add_comm 4294967295 r]
 rw [hu',Nat.add_mul,e,Nat.add_assoc]
 exact Nat.add_le_add_left (Nat.le_trans h1 (Nat.le_trans (Nat.mul_le_mul_right 4294967296 hr) (Nat.le_add_right _ _))) _
theorem o0 {q Y0:Nat} (h:q≤4294967297) (h0:Y0<4294967289):(0:Int)≤(q:Int)*(Y0:Int)∧(q:Int)*(Y0:Int)<18446744073709551616∧(1≤q∨(q:Int)*(Y0:Int)=0):=by
 have:=Nat.mul_le_mul h (show Y0≤4294967288 by omega)
 rw [←Int.natCast_mul]
 refine ⟨by omega,by omega,?_⟩
 cases q with
 | zero=>exact Or.inr (by rw [Nat.zero_mul];rfl)
 | succ p=>exact Or.inl ac
structure DivI (Y u v:Nat) where
 q:Nat
 r:Nat
 sum:q*4294967295+r=u
 big:u*4294967296+v<(q+1)*Y
 top:q≤4294967297
 lim:r<4294967296
structure DivE (Y u v:Nat) where
 q:Nat
 lo:q*Y≤u*4294967296+v
 hi:u*4294967296+v<(q+1)*Y
set_option maxRecDepth 20000 in
theorem div64 {M Y Y0:Nat} (hM:M<2305843009213693952∧2305843009213693949<M) (hYM:Y=M*8) (hY:Y=4294967295*4294967296+Y0) (hz:Pu Tryz.prog 201 #[.int .u64 (M:Int)] (fun _=>True) (.int .i64 3))
  (ey:shlV .u64 (M:Int) 3=(Y:Int)) (ey1:shrV .u64 (Y:Int) 32=4294967295) (ey0:bitsV .and .u64 (Y:Int) 4294967295=(Y0:Int)) (hi lo:Nat) (hhi:hi<M) (hlo:lo<18446744073709551616) :
  Pu Tryz.prog 198 #[.int .u64 (hi:Int),.int .u64 (lo:Int),.int .u64 (M:Int)] (fun _=>True)
   (.tuple #[.int .u64 (((hi*18446744073709551616+lo)/M:Nat):Int),.int .u64 (((hi*18446744073709551616+lo)%M:Nat):Int)]):=by
 refine aq Tryz.func198 Tryz.ntmps198 fun av bor w0=>?_
 repeat' (first|(refine ag (hc:=hz) ?_)|refine gs ?_|(refine gp ?_ ?_<;>intro hx_ this)|fail)
 · exfalso;omega
 · exfalso;omega
 · have h0:hi=0:=by omega
   subst h0
   have e1:IntKind.u64.wrap ((lo:Int).tdiv (M:Int))=((lo/M:Nat):Int):=v6 lo M hlo ac
   have e2:(lo:Int).tmod (M:Int)=((lo%M:Nat):Int):=rB lo M
   have hMz:(M:Int)≠0:=by omega
   (refine ao ⟨[0,1,2,3,4,5,6,7],[]⟩ [] (fun _=>True) (h:=?_))
   all_goals repeat' (first|refine gd ?_|refine aJ (hy:=by first|(apply zz (c:=((lo/M:Nat):Int));rfl;rfl;exact hMz;exact e1)|(apply zy (c:=((lo%M:Nat):Int));rfl;rfl;exact hMz;exact e2)) ?_|refine aF ?_ (h':=?_)|exact aG|(refine gq ?_ ?_<;>intro hx_ this)|fail)
   all_goals
    repeat' (first|refine gs ?_|fail)
    apply ae;apply cP;rfl;rfl;rfl
    rw [Nat.zero_mul,Nat.zero_add]
 · have e3:IntKind.u64.wrap 3=3:=by kernel_rfl
   have e61:IntKind.u64.wrap (64-3)=61:=by kernel_rfl
   have eh:shlV .u64 (hi:Int) 3=((hi*8:Nat):Int):=by rw [shl3,Nat.mod_eq_of_lt (by omega)]
   have el:shrV .u64 (lo:Int) 61=((lo/2305843009213693952:Nat):Int):=vO lo _ ai
   have eo:bitsV .or .u64 ((hi*8:Nat):Int) ((lo/2305843009213693952:Nat):Int)=((hi*8+lo/2305843009213693952:Nat):Int):=or3 hi _ ac ac
   have e10:shlV .u64 (lo:Int) 3=((lo*8%18446744073709551616:Nat):Int):=shl3 lo
   have hU:(hi*18446744073709551616+lo)*8=(hi*8+lo/2305843009213693952)*18446744073709551616+lo*8%18446744073709551616:=by omega
   have hu:hi*8+lo/2305843009213693952<Y:=by omega
   have hv:lo*8%18446744073709551616<18446744073709551616:=Nat.mod_lt _ (by decide)
   simp only [e3,e61,ey,ey1,ey0,eh,el,eo,e10]
   clear e3 e61 ey ey1 ey0 eh el eo e10 hz
   generalize hi*8+lo/2305843009213693952=u at *
   generalize lo*8%18446744073709551616=v at *
   have e1:shrV .u64 (v:Int) 32=((v/4294967296:Nat):Int):=vO v _ ai
   have e0:bitsV .and .u64 (v:Int) 4294967295=((v%4294967296:Nat):Int):=and32 v hv
   obtain ⟨v1,v0,hv1,hv0,hvv,hv1l,hv0l⟩:∃ v1 v0:Nat,v/4294967296=v1∧v%4294967296=v0∧v=v1*4294967296+v0∧v1<4294967296∧v0<4294967296:=⟨_,_,rfl,rfl,by omega,by omega,by omega⟩
   simp only [e1,e0,hv1,hv0]
   clear e1 e0 hv1 hv0
   subst hvv
   obtain ⟨V,hV⟩:∃ V,hi*18446744073709551616+lo=V:=⟨_,rfl⟩
   rw [hV] at hU ⊢
   have hUh:Hid (V*8=u*18446744073709551616+(v1*4294967296+v0)):=hU
   clear hU hV hv hhi hlo
   have hq1:Eqq (IntKind.u64.wrap ((u:Int).tdiv 4294967295)) ((u/4294967295:Nat):Int):=v6 u 4294967295 ac (by decide)
   have h00:Y0<4294967289:=by omega
   repeat' (first|refine pM (hb:=by decide) (hc:=hq1) ?_|refine gj (hc:=cD _ ac) (h:=?_)|refine fw (hc:=cD _ ac) (h:=?_)|refine gs ?_|(refine gp ?_ ?_<;>intro hx_ this)|fail)
   refine ll (ι:=DivE Y u v1) (fun i=>⟨[(2,.int .u64 (Y:Nat)),(8,.int .u64 3),(9,.int .u64 4294967295),(10,.int .u64 (Y0:Nat)),(11,.int .u64 (u:Nat)),(13,.int .u64 (v1:Int)),(14,.int .u64 (v0:Int)),(15,.int .u64 (i.q:Nat))],[],fun _=>True⟩) ?_ fun i=>?_
   · refine az (ι:=DivI Y u v1) (fun i=>⟨[(2,.int .u64 (Y:Nat)),(8,.int .u64 3),(9,.int .u64 4294967295),(10,.int .u64 (Y0:Nat)),(11,.int .u64 (u:Nat)),(13,.int .u64 (v1:Int)),(14,.int .u64 (v0:Int)),(15,.int .u64 (i.q:Nat)),(16,.int .u64 (i.r:Nat))],[],fun _=>True⟩) (fun i=>4294967296-i.r) ⟨u/4294967295,u%4294967295,by omega,sr hY hv1l,by omega,by omega⟩
      (ak ⟨rfl,rfl,rfl,rfl,rfl,rfl,rfl,rfl,by show some (Value.int .u64 ((u:Int)-((u/4294967295:Nat):Int)*4294967295))=some (Value.int .u64 ((u%4294967295:Nat):Int));congr 2;omega,trivial⟩ (List.nil_sublist _) fun _ h=>h) fun i=>?_
     obtain ⟨q,r,isum,ibig,itop,ilim⟩:=i
     simp only
     obtain ⟨hq0_,hq1_,hq2_⟩:=o0 itop h00
     repeat' (first|refine gj (hc:=cD _ ac) (h:=?_)|refine fw (hc:=cD _ ac) (h:=?_)|refine bN (hc:=cD _ ac) (h:=?_)|refine gs ?_|(refine gp ?_ ?_<;>intro hx_ this)|fail)
     rotate_right
     · have e:q*Y=q*(4294967295*4294967296)+q*Y0:=by rw [hY,Nat.mul_add]
       exact ⟨⟨q,by omega,ibig⟩,ak an (List.nil_sublist _) fun _ h=>h⟩
     all_goals
      cases q with
      | zero=>exfalso;omega
      | succ p =>
       have f2:u*4294967296+v1<(p+1)*Y:=su hY isum hu hv1l (by first|exact Or.inl ac|exact Or.inr ac)
       have f3:((p+1:Nat):Int)-1=(p:Int):=by omega
       first
       | exact ⟨⟨p,sj hY h00 isum ac itop,f2⟩,ak ⟨rfl,rfl,rfl,rfl,rfl,rfl,rfl,by show some (Value.int .u64 (((p+1:Nat):Int)-1))=some (Value.int .u64 (p:Int));rw [f3],trivial⟩ (List.nil_sublist _) fun _ h=>h⟩
       | exact ⟨⟨p,r+4294967295,by rw [←isum,Nat.succ_mul,Nat.add_assoc,Nat.add_comm 4294967295 r],f2,by omega,by omega⟩,show 4294967296-(r+4294967295)<4294967296-r by omega,ak ⟨rfl,rfl,rfl,rfl,rfl,rfl,rfl,by show some (Value.int .u64 (((p+1:Nat):Int)-1))=some (Value.int .u64 (p:Int));rw [f3],rfl,trivial⟩ (List.nil_sublist _) fun _ h=>h⟩
   · obtain ⟨q1,q1lo,q1hi⟩:=i
     simp only
     have hs:=Nat.add_mul q1 1 Y
     obtain ⟨x,hx,hxY⟩:∃ x:Nat,u*4294967296+v1=q1*Y+x∧x<Y:=⟨u*4294967296+v1-q1*Y,by omega,by omega⟩
     have h17:Eqq (IntKind.u64.wrap (IntKind.u64.wrap (IntKind.u64.wrap ((u:Int)*4294967296)+(v1:Int))-IntKind.u64.wrap ((q1:Int)*(Y:Int)))) (x:Int):=by
      unfold Eqq
      rw [ri,show (u:Int)*4294967296+(v1:Int)-(q1:Int)*(Y:Int)=(x:Int) by omega]
      omega
     have hq0:Eqq (IntKind.u64.wrap ((x:Int).tdiv 4294967295)) ((x/4294967295:Nat):Int):=v6 x 4294967295 ac (by decide)
     have hq1l:q1<4294967296:=Nat.lt_of_mul_lt_mul_right (a:=Y) (show q1*Y<4294967296*Y by omega)
     repeat' (first|refine fw (hc:=h17) (h:=?_)|refine gj (hc:=rfl) (h:=?_)|refine bN (hc:=rfl) (h:=?_)|refine gs ?_|(fail)|fail)
     clear h17
     repeat' (first|refine pM (hb:=by decide) (hc:=hq0) ?_|refine gj (hc:=cD _ ac) (h:=?_)|refine fw (hc:=cD _ ac) (h:=?_)|refine gs ?_|(refine gp ?_ ?_<;>intro hx_ this)|fail)
     have hxh:Hid (u*4294967296+v1=q1*Y+x):=hx
     clear hx q1lo q1hi hu hs
     refine ll (ι:=DivE Y x v0) (fun i=>⟨[(2,.int .u64 (Y:Nat)),(8,.int .u64 3),(14,.int .u64 (v0:Int)),(15,.int .u64 (q1:Nat)),(17,.int .u64 (x:Nat)),(18,.int .u64 (i.q:Nat))],[],fun _=>True⟩) ?_ fun i=>?_
     · refine az (ι:=DivI Y x v0) (fun i=>⟨[(2,.int .u64 (Y:Nat)),(8,.int .u64 3),(9,.int .u64 4294967295),(10,.int .u64 (Y0:Nat)),(14,.int .u64 (v0:Int)),(15,.int .u64 (q1:Nat)),(17,.int .u64 (x:Nat)),(18,.int .u64 (i.q:Nat)),(16,.int .u64 (i.r:Nat))],[],fun _=>True⟩) (fun i=>4294967296-i.r) ⟨x/4294967295,x%4294967295,by omega,sr hY hv0l,by omega,by omega⟩
        (ak ⟨rfl,rfl,rfl,rfl,rfl,rfl,rfl,rfl,by show some (Value.int .u64 ((x:Int)-((x/4294967295:Nat):Int)*4294967295))=some (Value.int .u64 ((x%4294967295:Nat):Int));congr 2;omega,trivial⟩ (List.nil_sublist _) fun _ h=>h) fun i=>?_
       obtain ⟨q,r,isum,ibig,itop,ilim⟩:=i
       simp only
       obtain ⟨hq0_,hq1_,hq2_⟩:=o0 itop h00
       repeat' (first|refine gj (hc:=cD _ ac) (h:=?_)|refine fw (hc:=cD _ ac) (h:=?_)|refine bN (hc:=cD _ ac) (h:=?_)|refine gs ?_|(refine gp ?_ ?_<;>intro hx_ this)|fail)
       rotate_right
       · have e:q*Y=q*(4294967295*4294967296)+q*Y0:=by rw [hY,Nat.mul_add]
         exact ⟨⟨q,by omega,ibig⟩,ak an (List.nil_sublist _) fun _ h=>h⟩
       all_goals
        cases q with
        | zero=>exfalso;omega
        | succ p =>
         have f2:x*4294967296+v0<(p+1)*Y:=su hY isum hxY hv0l (by first|exact Or.inl ac|exact Or.inr ac)
         have f3:((p+1:Nat):Int)-1=(p:Int):=by omega
         first
         | exact ⟨⟨p,sj hY h00 isum ac itop,f2⟩,ak ⟨rfl,rfl,rfl,rfl,rfl,by show some (Value.int .u64 (((p+1:Nat):Int)-1))=some (Value.int .u64 (p:Int));rw [f3],trivial⟩ (List.nil_sublist _) fun _ h=>h⟩
         | exact ⟨⟨p,r+4294967295,by rw [←isum,Nat.succ_mul,Nat.add_assoc,Nat.add_comm 4294967295 r],f2,by omega,by omega⟩,show 4294967296-(r+4294967295)<4294967296-r by omega,ak ⟨rfl,rfl,rfl,rfl,rfl,rfl,rfl,by show some (Value.int .u64 (((p+1:Nat):Int)-1))=some (Value.int .u64 (p:Int));rw [f3],rfl,trivial⟩ (List.nil_sublist _) fun _ h=>h⟩
     · obtain ⟨q0,q0lo,q0hi⟩:=i
       simp only
       have hs:=Nat.add_mul q0 1 Y
       obtain ⟨y,hy,hyY⟩:∃ y:Nat,x*4294967296+v0=q0*Y+y∧y<Y:=⟨x*4294967296+v0-q0*Y,by omega,by omega⟩
       have h132:Eqq (IntKind.u64.wrap (IntKind.u64.wrap (IntKind.u64.wrap ((x:Int)*4294967296)+(v0:Int))-IntKind.u64.wrap ((q0:Int)*(Y:Int)))) (y:Int):=by
        unfold Eqq
        rw [ri,show (x:Int)*4294967296+(v0:Int)-(q0:Int)*(Y:Int)=(y:Int) by omega]
        omega
       have hq0l:q0<4294967296:=Nat.lt_of_mul_lt_mul_right (a:=Y) (show q0*Y<4294967296*Y by omega)
       have hq1:Eqq (IntKind.u64.wrap (IntKind.u64.wrap ((q1:Int)*4294967296)+(q0:Int))) ((q1:Int)*4294967296+(q0:Int)):=by unfold Eqq;rw [cD ((q1:Int)*4294967296) ac,cD _ (by omega)]
       repeat' (first|refine fw (hc:=h132) (h:=?_)|refine gs ?_|(fail)|fail)
       have h3:Eqq (shrV .u64 (y:Int) 3) ((y/8:Nat):Int):=vO y 8 ai
       have hx:u*4294967296+v1=q1*Y+x:=hxh
       have hU:V*8=u*18446744073709551616+(v1*4294967296+v0):=hUh
       have a1 (q:Nat):q*Y=M*q*8:=by rw [hYM,←Nat.mul_assoc,Nat.mul_comm q]
       have a2:=a1 q1
       have a3:=a1 q0
       have a4:M*(q1*4294967296+q0)=M*q1*4294967296+M*q0:=by rw [Nat.mul_add,←Nat.mul_assoc]
       obtain ⟨hA,hB⟩:=qP (V:=V) (M:=M) (Q:=q1*4294967296+q0) (z:=y/8) ac ac
       apply ae;apply cP;rfl;rfl;rfl
       unfold Eqq at h3 hq1
       rw [hA,hB,h3,hq1,Int.natCast_add,Int.natCast_mul]
       rfl
theorem div64P (hi lo:Nat) (hhi:hi<2305843009213693951) (hlo:lo<18446744073709551616) :
  Pu Tryz.prog 198 #[.int .u64 (hi:Int),.int .u64 (lo:Int),.int .u64 2305843009213693951] (fun _=>True)
   (.tuple #[.int .u64 (((hi*18446744073709551616+lo)/2305843009213693951:Nat):Int),.int .u64 (((hi*18446744073709551616+lo)%2305843009213693951:Nat):Int)]) :=
 div64 (M:=2305843009213693951) (Y:=18446744073709551608) (Y0:=4294967288) (by decide) rfl rfl (rS 8 (by decide)) ai ai ai hi lo hhi hlo
theorem div64N (hi lo:Nat) (hhi:hi<2305843009213693950) (hlo:lo<18446744073709551616) :
  Pu Tryz.prog 198 #[.int .u64 (hi:Int),.int .u64 (lo:Int),.int .u64 2305843009213693950] (fun _=>True)
   (.tuple #[.int .u64 (((hi*18446744073709551616+lo)/2305843009213693950:Nat):Int),.int .u64 (((hi*18446744073709551616+lo)%2305843009213693950:Nat):Int)]) :=
 div64 (M:=2305843009213693950) (Y:=18446744073709551600) (Y0:=4294967280) (by decide) rfl rfl (rS 16 (by decide)) ai ai ai hi lo hhi hlo
end Go.Proofs.YtgffbiobmamobaaGreatDoor
namespace Go.Proofs.YtgffbiobmamobaaGreatDoor
open Go Go.Proofs Sy Go.Shelf
theorem wq (hi lo M:Nat):(hi%M*18446744073709551616+lo)%M=(hi*18446744073709551616+lo)%M:=by
 rw [Nat.add_mod,Nat.mul_mod,Nat.mod_mod,←Nat.mul_mod,←Nat.add_mod]
theorem rem64P (hi lo:Nat) (hlo:lo<18446744073709551616) :
  Pu Tryz.prog 191 #[.int .u64 (hi:Int),.int .u64 (lo:Int),.int .u64 2305843009213693951] (fun _=>True) (.int .u64 (((hi*18446744073709551616+lo)%2305843009213693951:Nat):Int)):=by
 refine aq Tryz.func191 Tryz.ntmps191 fun av bor w0=>?_
 have hr:Eqq ((hi:Int).tmod 2305843009213693951) ((hi%2305843009213693951:Nat):Int):=rB hi 2305843009213693951
 have hd:=div64P (hi%2305843009213693951) lo (Nat.mod_lt _ (by decide)) hlo
 rw [wq] at hd
 repeat' (first|refine gi (hb:=by decide) (hc:=hr) ?_|(refine ag (hc:=hd) ?_)|refine gs ?_|(refine gp ?_ ?_<;>intro hx_ this)|fail)
 apply ae;apply aj;rfl;rfl
 rfl
theorem rem64N (hi lo:Nat) (hlo:lo<18446744073709551616) :
  Pu Tryz.prog 191 #[.int .u64 (hi:Int),.int .u64 (lo:Int),.int .u64 2305843009213693950] (fun _=>True) (.int .u64 (((hi*18446744073709551616+lo)%2305843009213693950:Nat):Int)):=by
 refine aq Tryz.func191 Tryz.ntmps191 fun av bor w0=>?_
 have hr:Eqq ((hi:Int).tmod 2305843009213693950) ((hi%2305843009213693950:Nat):Int):=rB hi 2305843009213693950
 have hd:=div64N (hi%2305843009213693950) lo (Nat.mod_lt _ (by decide)) hlo
 rw [wq] at hd
 repeat' (first|refine gi (hb:=by decide) (hc:=hr) ?_|(refine ag (hc:=hd) ?_)|refine gs ?_|(refine gp ?_ ?_<;>intro hx_ this)|fail)
 apply ae;apply aj;rfl;rfl
 rfl
theorem dk (a m:Nat) (hm:0<m) (hm2:m<4611686018427387904):Pu Tryz.prog 166 #[.int .i64 (a:Int),.int .i64 (m:Int)] (fun _=>True) (.int .i64 ((a%m:Nat):Int)):=by
 refine aq Tryz.func166 Tryz.ntmps166 fun av bor w0=>?_
 have hr:Eqq ((a:Int).tmod (m:Int)) ((a%m:Nat):Int):=rB a m
 repeat' (first|refine gi (hb:=by omega) (hc:=hr) ?_|refine gs ?_|(refine gp ?_ ?_<;>intro hx_ this)|fail)
 · exfalso;omega
 · apply ae;apply aj;rfl;rfl
   rfl
theorem yQ (a b:Nat):Pu Tryz.prog 171 #[.int .i64 (a:Int),.int .i64 (b:Int),.int .i64 2305843009213693951] (fun _=>True) (.int .i64 ((a*b%2305843009213693951:Nat):Int)):=by
 refine aq Tryz.func171 Tryz.ntmps171 fun av bor w0=>?_
 have h1:=dk a 2305843009213693951 (by decide) (by decide)
 have h2:=dk b 2305843009213693951 (by decide) (by decide)
 have hx:=Nat.mod_lt a (show 0<2305843009213693951 by decide)
 have hy:=Nat.mod_lt b (show 0<2305843009213693951 by decide)
 have hab:a*b%2305843009213693951=(a%2305843009213693951)*(b%2305843009213693951)%2305843009213693951:=Nat.mul_mod a b _
 rw [hab]
 generalize a%2305843009213693951=x at *
 generalize b%2305843009213693951=y at *
 have h3:=ox x y ac ac
 have h4:=rem64P (x*y/18446744073709551616) (x*y%18446744073709551616) (Nat.mod_lt _ (by decide))
 have e:x*y/18446744073709551616*18446744073709551616+x*y%18446744073709551616=x*y:=Nat.div_add_mod' _ _
 rw [e] at h4
 have cx:Eqq (IntKind.u64.wrap (x:Int)) (x:Int):=cD _ ac
 have cy:Eqq (IntKind.u64.wrap (y:Int)) (y:Int):=cD _ ac
 have hz:=Nat.mod_lt (x*y) (show 0<2305843009213693951 by decide)
 have cm:Eqq (IntKind.u64.wrap 2305843009213693951) 2305843009213693951:=by unfold Eqq;kernel_rfl
 generalize x*y%2305843009213693951=z at *
 have cz:Eqq (IntKind.i64.wrap (z:Int)) (z:Int):=IntWalk.i64_in _ ac
 unfold Eqq at cx cy cm cz
 rw [←cx,←cy] at h3
 rw [←cm] at h4
 repeat' (first|(refine ag (hc:=h1) ?_)|(refine ag (hc:=h2) ?_)|(refine ag (hc:=h3) ?_)|(refine ag (hc:=h4) ?_)|refine gs ?_|(refine gp ?_ ?_<;>intro hx_ this)|fail)
 apply ae;apply aj;rfl;rfl
 rfl
theorem zu (a b:Nat):Pu Tryz.prog 170 #[.int .i64 (a:Int),.int .i64 (b:Int),.int .i64 2305843009213693950] (fun _=>True) (.int .i64 (((a+b)%2305843009213693950:Nat):Int)):=by
 refine aq Tryz.func170 Tryz.ntmps170 fun av bor w0=>?_
 have h1:=dk a 2305843009213693950 (by decide) (by decide)
 have h2:=dk b 2305843009213693950 (by decide) (by decide)
 have h3:=dk (a%2305843009213693950+b%2305843009213693950) 2305843009213693950 (by decide) (by decide)
 rw [←Nat.add_mod] at h3
 have hs:Eqq (IntKind.i64.wrap (((a%2305843009213693950:Nat):Int)+((b%2305843009213693950:Nat):Int))) ((a%2305843009213693950+b%2305843009213693950:Nat):Int):=by
  have:=Nat.mod_lt a (show 0<2305843009213693950 by decide)
  have:=Nat.mod_lt b (show 0<2305843009213693950 by decide)
  generalize a%2305843009213693950=x at *
  generalize b%2305843009213693950=y at *
  unfold Eqq
  rw [Int.natCast_add]
  exact IntWalk.i64_in _ ac
 repeat' (first|refine bN (hc:=hs) (h:=?_)|(refine ag (hc:=h1) ?_)|(refine ag (hc:=h2) ?_)|(refine ag (hc:=h3) ?_)|refine gs ?_|(refine gp ?_ ?_<;>intro hx_ this)|fail)
 apply ae;apply aj;rfl;rfl
 rfl
theorem yR (a b:Nat):Pu Tryz.prog 171 #[.int .i64 (a:Int),.int .i64 (b:Int),.int .i64 2305843009213693950] (fun _=>True) (.int .i64 ((a*b%2305843009213693950:Nat):Int)):=by
 refine aq Tryz.func171 Tryz.ntmps171 fun av bor w0=>?_
 have h1:=dk a 2305843009213693950 (by decide) (by decide)
 have h2:=dk b 2305843009213693950 (by decide) (by decide)
 have hx:=Nat.mod_lt a (show 0<2305843009213693950 by decide)
 have hy:=Nat.mod_lt b (show 0<2305843009213693950 by decide)
 have hab:a*b%2305843009213693950=(a%2305843009213693950)*(b%2305843009213693950)%2305843009213693950:=Nat.mul_mod a b _
 rw [hab]
 generalize a%2305843009213693950=x at *
 generalize b%2305843009213693950=y at *
 have h3:=ox x y ac ac
 have h4:=rem64N (x*y/18446744073709551616) (x*y%18446744073709551616) (Nat.mod_lt _ (by decide))
 have e:x*y/18446744073709551616*18446744073709551616+x*y%18446744073709551616=x*y:=Nat.div_add_mod' _ _
 rw [e] at h4
 have cx:Eqq (IntKind.u64.wrap (x:Int)) (x:Int):=cD _ ac
 have cy:Eqq (IntKind.u64.wrap (y:Int)) (y:Int):=cD _ ac
 have hz:=Nat.mod_lt (x*y) (show 0<2305843009213693950 by decide)
 have cm:Eqq (IntKind.u64.wrap 2305843009213693950) 2305843009213693950:=by unfold Eqq;kernel_rfl
 generalize x*y%2305843009213693950=z at *
 have cz:Eqq (IntKind.i64.wrap (z:Int)) (z:Int):=IntWalk.i64_in _ ac
 unfold Eqq at cx cy cm cz
 rw [←cx,←cy] at h3
 rw [←cm] at h4
 repeat' (first|(refine ag (hc:=h1) ?_)|(refine ag (hc:=h2) ?_)|(refine ag (hc:=h3) ?_)|(refine ag (hc:=h4) ?_)|refine gs ?_|(refine gp ?_ ?_<;>intro hx_ this)|fail)
 apply ae;apply aj;rfl;rfl
 rfl
theorem q6 (a b:Nat):Pu Tryz.prog 152 #[.int .i64 (a:Int),.int .i64 (b:Int)] (fun _=>True) (.int .i64 ((a*b%2305843009213693951:Nat):Int)):=by
 refine aq Tryz.func152 Tryz.ntmps152 fun av bor w0=>?_
 repeat' (first|(refine ag (hc:=yQ a b) ?_)|refine gs ?_|(refine gp ?_ ?_<;>intro hx_ this)|fail)
 apply ae;apply aj;rfl;rfl
 rfl
theorem zw (a b:Nat):Pu Tryz.prog 119 #[.int .i64 (a:Int),.int .i64 (b:Int)] (fun _=>True) (.int .i64 ((a*b%2305843009213693950:Nat):Int)):=by
 refine aq Tryz.func119 Tryz.ntmps119 fun av bor w0=>?_
 repeat' (first|(refine ag (hc:=yR a b) ?_)|refine gs ?_|(refine gp ?_ ?_<;>intro hx_ this)|fail)
 apply ae;apply aj;rfl;rfl
 rfl
theorem zx (a b:Nat):Pu Tryz.prog 118 #[.int .i64 (a:Int),.int .i64 (b:Int)] (fun _=>True) (.int .i64 (((a+b)%2305843009213693950:Nat):Int)):=by
 refine aq Tryz.func118 Tryz.ntmps118 fun av bor w0=>?_
 repeat' (first|(refine ag (hc:=zu a b) ?_)|refine gs ?_|(refine gp ?_ ?_<;>intro hx_ this)|fail)
 apply ae;apply aj;rfl;rfl
 rfl
def expF (a e:Nat):Nat→Nat×Nat
 | 0=>(1,a%2305843009213693951)
 | i+1=>(bif decide (e/2 ^ i%2=1) then (expF a e i).1*(expF a e i).2%2305843009213693951 else (expF a e i).1,(expF a e i).2*(expF a e i).2%2305843009213693951)
def expV (a e:Nat):Nat:=(expF a e (Lib.bitLen e)).1
theorem BI (e i:Nat) (hi:i≤64):shrV .i64 (e:Int) (i:Int)=((e/2 ^ i:Nat):Int):=by
 show (e:Int).fdiv (2 ^ (min (i:Int).toNat 64))=_
 rw [Int.toNat_natCast,Nat.min_eq_left hi,show (2:Int) ^ i=((2 ^ i:Nat):Int) by rw [Int.natCast_pow];rfl,←Int.ofNat_fdiv]
theorem Cx (x:Nat) (hx:x<9223372036854775808):bitsV .and .i64 (x:Int) 1=((x%2:Nat):Int):=by
 show IntKind.i64.wrap ((((BitVec.ofInt 64 (x:Int)) &&& (BitVec.ofInt 64 1)).toNat:Nat):Int)=_
 have e:(BitVec.ofInt 64 1).toNat=1:=by decide
 rw [BitVec.toNat_and,e,BitVec.ofInt_natCast,BitVec.toNat_ofNat,Nat.mod_eq_of_lt (show x<2 ^ 64 by omega),Nat.and_one_is_mod]
 exact IntWalk.i64_in _ ac
theorem iI:∀ f x:Nat,Lib.bitLenAux f x≤f
 | 0,_=>Nat.le_refl _
 | f+1,x=>by
  rw [Lib.bitLenAux]
  split
  · omega
  · have:=iI f (x/2)
    omega
theorem nu (a e:Nat) (he:e<9223372036854775808):Pu Tryz.prog 113 #[.int .i64 (a:Int),.int .i64 (e:Int)] (fun _=>True) (.int .i64 (expV a e:Nat)):=by
 refine aq Tryz.func113 Tryz.ntmps113 fun av bor w0=>?_
 have h1:=dk a 2305843009213693951 (by decide) (by decide)
 have h2:=oG e ac
 have ce:Eqq (IntKind.u64.wrap (e:Int)) (e:Int):=cD _ ac
 unfold Eqq at ce
 rw [←ce] at h2
 repeat' (first|(refine ag (hc:=h1) ?_)|(refine ag (hc:=h2) ?_)|refine gs ?_|(refine gp ?_ ?_<;>intro hx_ this)|fail)
 · exfalso;omega
 · have hbl:Lib.bitLen e≤64:=iI 64 e
   refine az (ι:=Kth (Lib.bitLen e)) (fun i=>⟨[(1,.int .i64 (e:Int)),(5,.int .i64 ((expF a e i.k).1:Nat)),(6,.int .i64 ((expF a e i.k).2:Nat)),(16,.int .i64 (Lib.bitLen e:Nat)),(17,.int .i64 i.k)],[],fun _=>True⟩) (fun i=>Lib.bitLen e-i.k) ⟨0,Nat.zero_le _⟩ (ak an (List.nil_sublist _) fun _ h=>h) fun i=>?_
   have hik:=i.hk
   have hm1:=q6 (expF a e i.k).1 (expF a e i.k).2
   have hm2:=q6 (expF a e i.k).2 (expF a e i.k).2
   have hb:bitsV .and .i64 (shrV .i64 (e:Int) ((i.k:Nat):Int)) 1=((e/2 ^ i.k%2:Nat):Int):=by
    rw [BI e i.k ac,Cx _ (Nat.lt_of_le_of_lt (Nat.div_le_self _ _) he)]
   have hs:expF a e (i.k+1)=(bif decide (e/2 ^ i.k%2=1) then (expF a e i.k).1*(expF a e i.k).2%2305843009213693951 else (expF a e i.k).1,(expF a e i.k).2*(expF a e i.k).2%2305843009213693951):=rfl
   generalize hp:expF a e i.k=p at *
   repeat' (first|(refine ag (hc:=hm1) ?_)|(refine ag (hc:=hm2) ?_)|refine gs ?_|(refine gp ?_ ?_<;>intro hx_ this)|fail)
   · have hc:e/2 ^ i.k%2=1:=by
      rw [hb] at hx_
      have:=bm hx_
      omega
     rw [decide_eq_true hc,cond_true] at hs
     exact ⟨(⟨i.k+1,by omega⟩:Kth (Lib.bitLen e)),(by show Lib.bitLen e-(i.k+1)<Lib.bitLen e-i.k;omega),ak ⟨rfl,by rw [hs];rfl,by rw [hs];rfl,rfl,rfl,trivial⟩ (List.nil_sublist _) fun _ h=>h⟩
   · have hc:¬ e/2 ^ i.k%2=1:=by
      rw [hb] at hx_
      have:=bT hx_
      omega
     rw [decide_eq_false hc,cond_false] at hs
     exact ⟨(⟨i.k+1,by omega⟩:Kth (Lib.bitLen e)),(by show Lib.bitLen e-(i.k+1)<Lib.bitLen e-i.k;omega),ak ⟨rfl,by rw [hs];rfl,by rw [hs];rfl,rfl,rfl,trivial⟩ (List.nil_sublist _) fun _ h=>h⟩
   · have hk:i.k=Lib.bitLen e:=by omega
     apply ae;apply aj;rfl;rfl
     rw [expV,←hk,hp]
end Go.Proofs.YtgffbiobmamobaaGreatDoor
namespace Go.Proofs.YtgffbiobmamobaaGreatDoor
open Go Go.Proofs Sy
def IsN (x:Int) (n:Nat):Prop:=x=(n:Int)∧n<4294967296
theorem wrap32 (n:Nat):IntKind.u32.wrap (n:Int)=((n%4294967296:Nat):Int):=by
 simp [IntKind.wrap,IntKind.signed,IntKind.bits]
theorem IsN.xor {x y:Int} {m n:Nat} (h:IsN x m) (k:IsN y n):IsN (bitsV .xor .u32 x y) (m ^^^ n):=by
 obtain ⟨rfl,hm⟩:=h
 obtain ⟨rfl,hn⟩:=k
 have hx:m ^^^ n<2 ^ 32:=Nat.xor_lt_two_pow hm hn
 refine ⟨?_,hx⟩
 show IntKind.u32.wrap ((((BitVec.ofInt 32 (m:Int)) ^^^ (BitVec.ofInt 32 (n:Int))).toNat:Nat):Int)=_
 rw [BitVec.ofInt_natCast,BitVec.ofInt_natCast,BitVec.toNat_xor,BitVec.toNat_ofNat,BitVec.toNat_ofNat,Nat.mod_eq_of_lt (show m<2 ^ 32 from hm),Nat.mod_eq_of_lt (show n<2 ^ 32 from hn),wrap32,Nat.mod_eq_of_lt hx]
theorem IsN.and {x y:Int} {m n:Nat} (h:IsN x m) (k:IsN y n):IsN (bitsV .and .u32 x y) (m &&& n):=by
 obtain ⟨rfl,hm⟩:=h
 obtain ⟨rfl,hn⟩:=k
 have hx:m &&& n<2 ^ 32:=Nat.and_lt_two_pow m hn
 refine ⟨?_,hx⟩
 show IntKind.u32.wrap ((((BitVec.ofInt 32 (m:Int)) &&& (BitVec.ofInt 32 (n:Int))).toNat:Nat):Int)=_
 rw [BitVec.ofInt_natCast,BitVec.ofInt_natCast,BitVec.toNat_and,BitVec.toNat_ofNat,BitVec.toNat_ofNat,Nat.mod_eq_of_lt (show m<2 ^ 32 from hm),Nat.mod_eq_of_lt (show n<2 ^ 32 from hn),wrap32,Nat.mod_eq_of_lt hx]
theorem IsN.or {x y:Int} {m n:Nat} (h:IsN x m) (k:IsN y n):IsN (bitsV .or .u32 x y) (m ||| n):=by
 obtain ⟨rfl,hm⟩:=h
 obtain ⟨rfl,hn⟩:=k
 have hx:m ||| n<2 ^ 32:=Nat.or_lt_two_pow hm hn
 refine ⟨?_,hx⟩
 show IntKind.u32.wrap ((((BitVec.ofInt 32 (m:Int)) ||| (BitVec.ofInt 32 (n:Int))).toNat:Nat):Int)=_
 rw [BitVec.ofInt_natCast,BitVec.ofInt_natCast,BitVec.toNat_or,BitVec.toNat_ofNat,BitVec.toNat_ofNat,Nat.mod_eq_of_lt (show m<2 ^ 32 from hm),Nat.mod_eq_of_lt (show n<2 ^ 32 from hn),wrap32,Nat.mod_eq_of_lt hx]
theorem IsN.add {x y:Int} {m n:Nat} (h:IsN x m) (k:IsN y n):IsN (a32 x y) ((m+n)%4294967296):=by
 obtain ⟨rfl,hm⟩:=h
 obtain ⟨rfl,hn⟩:=k
 refine ⟨?_,Nat.mod_lt _ (by decide)⟩
 show IntKind.u32.wrap ((m:Int)+(n:Int))=_
 rw [←Int.natCast_add,wrap32]
theorem IsN.shl {x:Int} {m:Nat} (h:IsN x m) {c:Int} (p:Nat) (hp:(2:Int) ^ (min c.toNat 32)=(p:Int)):IsN (shlV .u32 x c) (m*p%4294967296):=by
 obtain ⟨rfl,hm⟩:=h
 refine ⟨?_,Nat.mod_lt _ (by decide)⟩
 show IntKind.u32.wrap ((m:Int)*2 ^ (min c.toNat 32))=_
 rw [hp,←Int.natCast_mul,wrap32]
theorem IsN.shr {x:Int} {m:Nat} (h:IsN x m) {c:Int} (p:Nat) (hp:(2:Int) ^ (min c.toNat 32)=(p:Int)):IsN (shrV .u32 x c) (m/p):=by
 obtain ⟨rfl,hm⟩:=h
 refine ⟨?_,Nat.lt_of_le_of_lt (Nat.div_le_self _ _) hm⟩
 show (m:Int).fdiv (2 ^ (min c.toNat 32))=_
 rw [hp,←Int.ofNat_fdiv]
def rot (p q m:Nat):Nat:=(m*p%4294967296) ||| (m/q)
theorem IsN.turn {x:Int} {m:Nat} (h:IsN x m) {r c:Int} (p q:Nat) (hc:bitsV .and .u64 (IntKind.u64.wrap (IntKind.i64.wrap (0-r))) 31=c) (hd:IntKind.u64.wrap (32-c)=r) (hp:(2:Int) ^ (min c.toNat 32)=(p:Int)) (hq:(2:Int) ^ (min r.toNat 32)=(q:Int)) :
  IsN (turnV x r) (rot p q m):=by
 unfold turnV rotlV
 rw [hc,hd]
 exact (h.shl p hp).or (h.shr q hq)
def s0N (m:Nat):Nat:=rot 33554432 128 m ^^^ rot 16384 262144 m ^^^ (m/8)
def s1N (m:Nat):Nat:=rot 32768 131072 m ^^^ rot 8192 524288 m ^^^ (m/1024)
def b1N (m:Nat):Nat:=rot 67108864 64 m ^^^ rot 2097152 2048 m ^^^ rot 128 33554432 m
def b0N (m:Nat):Nat:=rot 1073741824 4 m ^^^ rot 524288 8192 m ^^^ rot 1024 4194304 m
theorem IsN.s0 {x:Int} {m:Nat} (h:IsN x m):IsN (bitsV .xor .u32 (bitsV .xor .u32 (turnV x 7) (turnV x 18)) (shrV .u32 x 3)) (s0N m) :=
 ((h.turn (c:=25) _ _ ai ai ai ai).xor (h.turn (c:=14) _ _ ai ai ai ai)).xor (h.shr 8 ai)
theorem IsN.s1 {x:Int} {m:Nat} (h:IsN x m):IsN (bitsV .xor .u32 (bitsV .xor .u32 (turnV x 17) (turnV x 19)) (shrV .u32 x 10)) (s1N m) :=
 ((h.turn (c:=15) _ _ ai ai ai ai).xor (h.turn (c:=13) _ _ ai ai ai ai)).xor (h.shr 1024 ai)
theorem IsN.b1 {x:Int} {m:Nat} (h:IsN x m):IsN (x32 (x32 (turnV x 6) (turnV x 11)) (turnV x 25)) (b1N m) :=
 ((h.turn (c:=26) _ _ ai ai ai ai).xor (h.turn (c:=21) _ _ ai ai ai ai)).xor (h.turn (c:=7) _ _ ai ai ai ai)
theorem IsN.b0 {x:Int} {m:Nat} (h:IsN x m):IsN (x32 (x32 (turnV x 2) (turnV x 13)) (turnV x 22)) (b0N m) :=
 ((h.turn (c:=30) _ _ ai ai ai ai).xor (h.turn (c:=19) _ _ ai ai ai ai)).xor (h.turn (c:=10) _ _ ai ai ai ai)
def fc {α:Type} (n:Nat) (k:Nat→α):α:=match n with
 | 0=>k 0
 | m+1=>k (Nat.succ m)
theorem k8 {α:Type} (n:Nat) (k:Nat→α):fc n k=k n:=by cases n<;>rfl
structure S8 where
 a:Nat
 b:Nat
 c:Nat
 d:Nat
 e:Nat
 f:Nat
 g:Nat
 h:Nat
structure RS (x:St8) (n:S8):Prop where
 a:IsN x.a n.a
 b:IsN x.b n.b
 c:IsN x.c n.c
 d:IsN x.d n.d
 e:IsN x.e n.e
 f:IsN x.f n.f
 g:IsN x.g n.g
 h:IsN x.h n.h
def t1N (h e f g k w:Nat):Nat:=((((h+b1N e)%4294967296+((e &&& f) ^^^ ((4294967295 ^^^ e) &&& g)))%4294967296+k)%4294967296+w)%4294967296
def t2N (a b c:Nat):Nat:=(b0N a+(((a &&& b) ^^^ (a &&& c)) ^^^ (b &&& c)))%4294967296
def roundN (s:S8) (k w:Nat):S8:=match s with
 | ⟨a,b,c,d,e,f,g,h⟩=>fc (t1N h e f g k w) fun t1=>fc ((t1+t2N a b c)%4294967296) fun x=>fc ((d+t1)%4294967296) fun y=>⟨x,a,b,c,y,e,f,g⟩
theorem RS.round {x:St8} {n:S8} (h:RS x n) {k w:Int} {k' w':Nat} (hk:IsN k k') (hw:IsN w w'):RS (roundV x k w) (roundN n k' w'):=by
 obtain ⟨a,b,c,d,e,f,g,hh⟩:=n
 obtain ⟨ha,hb,hc,hd,he,hf,hg,hh⟩:=h
 simp only [roundN,k8]
 have hm:IsN (if IntKind.u32.signed then -1 else IntKind.u32.max) 4294967295:=⟨by kernel_rfl,by decide⟩
 have h1:IsN (t1V x k w) (t1N _ e f g k' w'):=(((hh.add he.b1).add ((he.and hf).xor ((hm.xor he).and hg))).add hk).add hw
 have h2:IsN (t2V x) (t2N a b c):=ha.b0.add (((ha.and hb).xor (ha.and hc)).xor (hb.and hc))
 exact ⟨h1.add h2,ha,hb,hc,hd.add h1,he,hf,hg⟩
structure W16 where
 w0:Nat
 w1:Nat
 w2:Nat
 w3:Nat
 w4:Nat
 w5:Nat
 w6:Nat
 w7:Nat
 w8:Nat
 w9:Nat
 w10:Nat
 w11:Nat
 w12:Nat
 w13:Nat
 w14:Nat
 w15:Nat
def nextW (a b c d:Nat):Nat:=(((a+s0N b)%4294967296+c)%4294967296+s1N d)%4294967296
def W16.next (w:W16):W16:=match w with
 | ⟨a0,a1,a2,a3,a4,a5,a6,a7,a8,a9,a10,a11,a12,a13,a14,a15⟩=>fc (nextW a0 a1 a9 a14) fun x=>⟨a1,a2,a3,a4,a5,a6,a7,a8,a9,a10,a11,a12,a13,a14,a15,x⟩
def sN (f:Nat→Nat):Nat→Nat→Nat
 | 0,t=>f t
 | k+1,t=>if t=16+k then nextW (sN f k k) (sN f k (k+1)) (sN f k (k+9)) (sN f k (k+14)) else sN f k t
def winN (f:Nat→Nat) (t:Nat):W16:=⟨sN f t t,sN f t (t+1),sN f t (t+2),sN f t (t+3),sN f t (t+4),sN f t (t+5),sN f t (t+6),sN f t (t+7),sN f t (t+8),sN f t (t+9),sN f t (t+10),sN f t (t+11),sN f t (t+12),sN f t (t+13),sN f t (t+14),sN f t (t+15)⟩
theorem p9 (f:Nat→Nat) {k t:Nat} (h:t≠16+k):sN f (k+1) t=sN f k t:=by rw [sN,if_neg h]
theorem vT (f:Nat→Nat) (k:Nat):sN f (k+1) (16+k)=nextW (sN f k k) (sN f k (k+1)) (sN f k (k+9)) (sN f k (k+14)):=by rw [sN,if_pos rfl]
theorem mU (f:Nat→Nat) {k t:Nat}:∀ j,t<16+k→sN f (k+j) t=sN f k t
 | 0,_=>rfl
 | j+1,h=>by
  rw [show k+(j+1)=(k+j)+1 from rfl,p9 f (by omega)]
  exact mU f j h
theorem W16.next_eq (a0 a1 a2 a3 a4 a5 a6 a7 a8 a9 a10 a11 a12 a13 a14 a15:Nat):W16.next ⟨a0,a1,a2,a3,a4,a5,a6,a7,a8,a9,a10,a11,a12,a13,a14,a15⟩=⟨a1,a2,a3,a4,a5,a6,a7,a8,a9,a10,a11,a12,a13,a14,a15,nextW a0 a1 a9 a14⟩:=by rw [W16.next,k8]
theorem sH (f:Nat→Nat) (t:Nat):(winN f t).next=winN f (t+1):=by
 rw [winN,W16.next_eq,←vT,winN]
 have e:∀ j,j<15→sN f t (t+(j+1))=sN f (t+1) (t+1+j):=fun j hj=>by
  rw [p9 f (by omega)];congr 1;omega
 have e15:sN f (t+1) (16+t)=sN f (t+1) (t+1+15):=by congr 1;omega
 rw [W16.mk.injEq]
 exact ⟨e 0 ac,e 1 ac,e 2 ac,e 3 ac,e 4 ac,e 5 ac,e 6 ac,e 7 ac,e 8 ac,e 9 ac,e 10 ac,e 11 ac,e 12 ac,e 13 ac,e 14 ac,e15⟩
theorem lT {s:ByteArray} {f:Nat→Nat} (h:∀ t,t<16→IsN (wordV s t) (f t)):∀ k,k≤48→∀ t,t<16+k→IsN ((w2 s k).getD t 0) (sN f k t)
 | 0,_,t,ht=>by
  have key:∀ i,i≤16→∀ t,t<i→(w1 s i).getD t 0=wordV s t:=fun i=>by
   induction i with
   | zero=>intro _ t ht;omega
   | succ i ih =>
    intro hi t ht
    rw [w1,List.getD_eq_getElem?_getD,List.getElem?_set]
    by_cases e:i=t
    · subst e
      rw [if_pos rfl,if_pos (by rw [mD];omega)];rfl
    · rw [if_neg e,←List.getD_eq_getElem?_getD]
      exact ih ac t ac
  rw [w2,key 16 ac t (by omega)]
  exact h t ac
 | k+1,hk,t,ht=>by
  have ih:=lT h k ac
  rw [w2,List.getD_eq_getElem?_getD,List.getElem?_set]
  by_cases e:16+k=t
  · subst e
    rw [if_pos rfl,if_pos (by rw [mC];omega),vT]
    have h0:=ih k ac
    have h1:=ih (16+k-15) ac
    have h9:=ih (16+k-7) ac
    have h14:=ih (16+k-2) ac
    rw [show 16+k-15=k+1 by omega] at h1
    rw [show 16+k-7=k+9 by omega] at h9
    rw [show 16+k-2=k+14 by omega] at h14
    have he:early (w2 s k) (16+k)=_:=rfl
    unfold early late
    rw [show 16+k-15=k+1 by omega,show 16+k-7=k+9 by omega,show 16+k-2=k+14 by omega]
    exact ((h0.add h1.s0).add h9).add h14.s1
  · rw [if_neg e,←List.getD_eq_getElem?_getD,p9 f (by omega)]
    exact ih t ac
def kN:List Nat:=kC.map Int.toNat
def stepN (p:S8×W16) (k:Nat):S8×W16:=match p with
 | (s,w)=>(roundN s k w.w0,w.next)
theorem vz (s:S8) (w:W16) (k:Nat):stepN (s,w) k=(roundN s k w.w0,w.next):=by unfold stepN;rfl
def roundsN (ks:List Nat) (s:S8) (w:W16):S8:=(ks.foldl stepN (s,w)).1
theorem ti {x:St8} {ws:List Int} {f:Nat→Nat} (hw:∀ t,t<64→IsN (ws.getD t 0) (sN f t t)):∀ (n t:Nat) (s:S8),t+n=64→RS (roundsV x ws t) s→RS (roundsV x ws 64) ((kN.drop t).foldl stepN (s,winN f t)).1:=by
 intro n
 have hl:kN.length=64:=by kernel_rfl
 have hk:∀ t,t<64→kC.getD t 0=((kN.getD t 0:Nat):Int)∧kN.getD t 0<4294967296:=by decide +kernel
 induction n with
 | zero =>
  intro t s ht h
  have e:t=64:=by omega
  subst e
  rw [List.drop_of_length_le ac,List.foldl_nil]
  exact h
 | succ n ih =>
  intro t s ht h
  have hd:kN.drop t=kN[t]'(by omega)::kN.drop (t+1):=List.drop_eq_getElem_cons ac
  have e2:kN.getD t 0=kN[t]'(by omega):=by rw [List.getD_eq_getElem?_getD,List.getElem?_eq_getElem (by omega)];rfl
  have h1:=hk t ac
  rw [e2] at h1
  have hw0:(winN f t).w0=sN f t t:=by unfold winN;rfl
  have hr:roundsV x ws (t+1)=roundV (roundsV x ws t) (kC.getD t 0) (ws.getD t 0):=by rw [roundsV]
  rw [hd,List.foldl_cons,vz,sH,hw0]
  refine ih (t+1) _ ac ?_
  rw [hr]
  exact h.round h1 (hw t ac)
theorem qa {x:St8} {ws:List Int} {f:Nat→Nat} (hw:∀ t,t<64→IsN (ws.getD t 0) (sN f t t)) {s:S8} (h:RS x s):RS (roundsV x ws 64) (roundsN kN s (winN f 0)):=by
 have h1:=ti (x:=x) hw 64 0 s (Nat.zero_add _) (by rw [roundsV];exact h)
 rw [List.drop_zero] at h1
 unfold roundsN
 exact h1
def addN (x y:S8):S8:=match x,y with
 | ⟨a,b,c,d,e,f,g,h⟩,⟨a',b',c',d',e',f',g',h'⟩=>fc ((a+a')%4294967296) fun a=>fc ((b+b')%4294967296) fun b=>fc ((c+c')%4294967296) fun c=>fc ((d+d')%4294967296) fun d=>fc ((e+e')%4294967296) fun e=>fc ((f+f')%4294967296) fun f=>fc ((g+g')%4294967296) fun g=>fc ((h+h')%4294967296) fun h=>⟨a,b,c,d,e,f,g,h⟩
def mixN (s:S8) (w:W16):S8:=addN s (roundsN kN s w)
theorem RS.add {x y:St8} {m n:S8} (h:RS x m) (h1:RS y n):RS ⟨a32 x.a y.a,a32 x.b y.b,a32 x.c y.c,a32 x.d y.d,a32 x.e y.e,a32 x.f y.f,a32 x.g y.g,a32 x.h y.h⟩ (addN m n):=by
 obtain ⟨a,b,c,d,e,f,g,hh⟩:=m
 obtain ⟨a',b',c',d',e',f',g',h'⟩:=n
 simp only [addN,k8]
 exact ⟨h.a.add h1.a,h.b.add h1.b,h.c.add h1.c,h.d.add h1.d,h.e.add h1.e,h.f.add h1.f,h.g.add h1.g,h.h.add h1.h⟩
theorem RS.mix {x:St8} {n:S8} (h:RS x n) {s:ByteArray} {f:Nat→Nat} (hs:∀ t,t<16→IsN (wordV s t) (f t)):RS (mixV x s) (mixN n (winN f 0)):=by
 have h1:=qa (x:=x) (ws:=schedV s) (f:=f) (fun t ht=>by
  have h2:=lT hs 48 ac t ac
  by_cases e:t≤48
  · have h3:=mU f (k:=t) (t:=t) (48-t) ac
    rw [show t+(48-t)=48 by omega] at h3
    rw [schedV]
    rwa [h3] at h2
  · have h3:=mU f (k:=48) (t:=t) (t-48) ac
    rw [show 48+(t-48)=t by omega] at h3
    rw [schedV,h3]
    exact h2) h
 unfold mixV mixN
 generalize roundsV x (schedV s) 64=y at h1 ⊢
 generalize roundsN kN n (winN f 0)=y' at h1 ⊢
 exact h.add h1
def nl (s:ByteArray):List Nat:=s.data.toList.map UInt8.toNat
theorem cu (s:ByteArray):(nl s).length=s.size:=by simp [nl]
theorem cH (a b:ByteArray):nl (a++b)=nl a++nl b:=by simp [nl,ByteArray.data_append]
theorem kK (s:ByteArray):∀ x∈nl s,x<256:=fun x hx=>by
 obtain ⟨b,_,rfl⟩:=List.mem_map.1 hx
 exact b.toNat_lt
theorem fU (s:ByteArray) (a b:Nat):nl (s.extract a b)=((nl s).drop a).take (b-a):=by
 simp [nl,ByteArray.data_extract,Array.toList_extract,List.map_take,List.map_drop]
theorem m6 {a b:ByteArray} (h:nl a=nl b):a=b:=by
 apply ByteArray.ext
 apply Array.ext'
 have key:∀ l m:List UInt8,l.map UInt8.toNat=m.map UInt8.toNat→l=m:=fun l=>by
  induction l with
  | nil=>intro m h;cases m with|nil=>rfl|cons _ _=>cases h
  | cons a l ih =>
   intro m h
   cases m with
   | nil=>cases h
   | cons b m =>
    simp only [List.map_cons,List.cons.injEq] at h
    rw [UInt8.toNat_inj.1 h.1,ih m h.2]
 exact key _ _ h
theorem uG (s:ByteArray):bytesI s=(nl s).map fun (n:Nat)=>(n:Int):=by simp [bytesI,nl,Function.comp_def]
def wdN (a b c d:Nat):Nat:=((a*16777216%4294967296 ||| (b*65536%4294967296)) ||| (c*256%4294967296)) ||| d
def fW (l:List Nat) (t:Nat):Nat:=wdN (l.getD (4*t) 0) (l.getD (4*t+1) 0) (l.getD (4*t+2) 0) (l.getD (4*t+3) 0)
theorem uH (s:ByteArray) (i j:Nat) (hj:j<4):byteAt (s.extract (4*(i:Int)).toNat (4*(i:Int)+4).toNat) j=(((nl s).getD (4*i+j) 0:Nat):Int):=by
 have h1:(4*(i:Int)).toNat=4*i:=by omega
 have h2:(4*(i:Int)+4).toNat=4*i+4:=by omega
 have h0:∀ (e:ByteArray) (k:Nat),byteAt e k=(((nl e).getD k 0:Nat):Int):=fun e k=>by
  simp only [byteAt,nl,List.getD_eq_getElem?_getD,List.getElem?_map]
  cases e.data.toList[k]?<;>rfl
 rw [h1,h2,h0,fU,show 4*i+4-4*i=4 by omega,List.getD_eq_getElem?_getD,List.getD_eq_getElem?_getD,List.getElem?_take,if_pos hj,List.getElem?_drop]
theorem jX {l:List Nat} (h:∀ x∈l,x<256) (i:Nat):l.getD i 0<256:=by
 rw [List.getD_eq_getElem?_getD]
 cases hx:l[i]? with
 | none=>decide
 | some x=>exact h x (List.mem_of_getElem? hx)
theorem x7 (s:ByteArray) (i:Nat):IsN (wordV s i) (fW (nl s) i):=by
 have hb:∀ j,j<4→IsN (IntKind.u32.wrap (byteAt (s.extract (4*(i:Int)).toNat (4*(i:Int)+4).toNat) j)) ((nl s).getD (4*i+j) 0):=fun j hj=>by
  have h:=jX (kK s) (4*i+j)
  rw [uH s i j hj,wrap32,Nat.mod_eq_of_lt (by omega)]
  exact ⟨rfl,by omega⟩
 unfold wordV fW wdN
 exact ((((hb 0 ac).shl 16777216 ai).or ((hb 1 ac).shl 65536 ai)).or ((hb 2 ac).shl 256 ai)).or (hb 3 ac)
def rd1 {α:Type} (z:α) (l:List Nat) (k:Nat→List Nat→α):α:=match l with
 | a::b::c::d::r=>fc (wdN a b c d) fun w=>k w r
 | _=>z
theorem AD {α:Type} {z:α} {l:List Nat} {k:Nat→List Nat→α} (h:4≤l.length):rd1 z l k=k (fW l 0) (l.drop 4):=by
 match l,h with
 | a::b::c::d::r,_=>rw [rd1,k8];rfl
def blkN {α:Type} (z:α) (l:List Nat) (k:W16→List Nat→α):α :=
 rd1 z l fun w0 l=>rd1 z l fun w1 l=>rd1 z l fun w2 l=>rd1 z l fun w3 l=>rd1 z l fun w4 l=>rd1 z l fun w5 l=>rd1 z l fun w6 l=>rd1 z l fun w7 l =>
 rd1 z l fun w8 l=>rd1 z l fun w9 l=>rd1 z l fun w10 l=>rd1 z l fun w11 l=>rd1 z l fun w12 l=>rd1 z l fun w13 l=>rd1 z l fun w14 l=>rd1 z l fun w15 l =>
 k ⟨w0,w1,w2,w3,w4,w5,w6,w7,w8,w9,w10,w11,w12,w13,w14,w15⟩ l
theorem za (l:List Nat) (m t:Nat):fW (l.drop (4*m)) t=fW l (m+t):=by
 have e:∀ j,(l.drop (4*m)).getD (4*t+j) 0=l.getD (4*(m+t)+j) 0:=fun j=>by
  rw [List.getD_eq_getElem?_getD,List.getD_eq_getElem?_getD,List.getElem?_drop,show 4*m+(4*t+j)=4*(m+t)+j by omega]
 have e0:=e 0
 simp only [Nat.add_zero] at e0
 rw [fW,fW,e0,e 1,e 2,e 3]
theorem zn {α:Type} {z:α} {l:List Nat} {k:W16→List Nat→α} (h:64≤l.length):blkN z l k=k (winN (fW l) 0) (l.drop 64):=by
 have st:∀ (m:Nat) (k':Nat→List Nat→α),m<16→rd1 z (l.drop (4*m)) k'=k' (fW l m) (l.drop (4*(m+1))):=fun m k' hm=>by
  rw [AD (by rw [List.length_drop];omega),za,List.drop_drop]
  rfl
 have h0:l=l.drop (4*0):=rfl
 unfold blkN
 rw [h0,st 0 _ ac,st 1 _ ac,st 2 _ ac,st 3 _ ac,st 4 _ ac,st 5 _ ac,st 6 _ ac,st 7 _ ac,st 8 _ ac,st 9 _ ac,st 10 _ ac,st 11 _ ac,st 12 _ ac,st 13 _ ac,st 14 _ ac,st 15 _ (by omega)]
 rfl
def runN:Nat→S8→List Nat→S8
 | 0,x,_=>x
 | f+1,x,l=>blkN x l fun w r=>runN f (mixN x w) r
theorem gJ {f:Nat} {x:S8} {l:List Nat} (h:64≤l.length):runN (f+1) x l=runN f (mixN x (winN (fW l) 0)) (l.drop 64):=zn h
theorem y9 {l:List Nat} (t:Nat) (h:t<16):fW (l.take 64) t=fW l t:=by
 have e:∀ j,j<64→(l.take 64).getD j 0=l.getD j 0:=fun j hj=>by
  rw [List.getD_eq_getElem?_getD,List.getD_eq_getElem?_getD,List.getElem?_take,if_pos hj]
 rw [fW,fW,e _ ac,e _ ac,e _ ac,e _ (by omega)]
theorem RS.blk {x:St8} {n:S8} (h:RS x n) (r:ByteArray) (hr:64≤r.size):RS (mixV x (r.extract 0 64)) (mixN n (winN (fW (nl r)) 0)) :=
 h.mix fun t ht=>by
  have h1:=x7 (r.extract 0 64) t
  rw [fU,List.drop_zero] at h1
  rwa [y9 t ht] at h1
theorem m0 (r:ByteArray):nl (r.extract 64 r.size)=(nl r).drop 64:=by
 rw [fU,List.take_of_length_le (by rw [List.length_drop,cu];omega)]
theorem lP (r:ByteArray) (h:64≤r.size):(r.extract 64 r.size).size=r.size-64:=by
 rw [←cu,m0,List.length_drop,cu]
theorem l6:∀ (f:Nat) (x:St8) (n:S8) (r:ByteArray),RS x n→r.size/64≤f→RS (loopV f x r).1 (runN (r.size/64) n (nl r))∧nl (loopV f x r).2=(nl r).drop (64*(r.size/64))
 | 0,x,n,r,h,hf=>by
  have e:r.size/64=0:=by omega
  rw [e]
  exact ⟨h,rfl⟩
 | f+1,x,n,r,h,hf=>by
  by_cases hr:64≤r.size
  · have e:r.size/64=(r.size-64)/64+1:=by omega
    have hs:=lP r hr
    have ih:=l6 f (mixV x (r.extract 0 64)) _ (r.extract 64 r.size) (h.blk r hr) (by rw [hs];omega)
    rw [hs,m0] at ih
    have e2:loopV (f+1) x r=loopV f (mixV x (r.extract 0 64)) (r.extract 64 r.size):=by rw [loopV,decide_eq_true ac,cond_true]
    rw [e2,e,gJ (by rw [cu];omega)]
    refine ⟨ih.1,?_⟩
    rw [ih.2,List.drop_drop]
    congr 1
    omega
  · have e:r.size/64=0:=by omega
    have e2:loopV (f+1) x r=(x,r):=by rw [loopV,decide_eq_false ac,cond_false]
    rw [e,e2]
    exact ⟨h,rfl⟩
theorem l7:∀ (f:Nat) (x:St8) (n:S8) (r:ByteArray),RS x n→r.size%64=0→r.size/64≤f→RS (loopE f x r) (runN (r.size/64) n (nl r))
 | 0,x,n,r,h,_,hf=>by
  have e:r.size/64=0:=by omega
  rw [e]
  exact h
 | f+1,x,n,r,h,hm,hf=>by
  by_cases hr:r.size=0
  · have e:r.size/64=0:=by omega
    have e2:loopE (f+1) x r=x:=by rw [loopE,cE,decide_eq_true hr,cond_true]
    rw [e,e2]
    exact h
  · have hs:=lP r ac
    have e:r.size/64=(r.size-64)/64+1:=by omega
    have ih:=l7 f (mixV x (r.extract 0 64)) _ (r.extract 64 r.size) (h.blk r ac) (by rw [hs];omega) (by rw [hs];omega)
    rw [hs,m0] at ih
    have e2:loopE (f+1) x r=loopE f (mixV x (r.extract 0 64)) (r.extract 64 r.size):=by rw [loopE,cE,decide_eq_false hr,cond_false]
    rw [e2,e,gJ (by rw [cu];omega)]
    exact ih
theorem pJ {f g:Nat→Nat} (h:∀ t,t<16→f t=g t):winN f 0=winN g 0:=by
 have e:∀ t,t<16→sN f 0 t=sN g 0 t:=fun t ht=>by rw [sN,sN];exact h t ht
 rw [winN,winN,W16.mk.injEq]
 exact ⟨e 0 ac,e 1 ac,e 2 ac,e 3 ac,e 4 ac,e 5 ac,e 6 ac,e 7 ac,e 8 ac,e 9 ac,e 10 ac,e 11 ac,e 12 ac,e 13 ac,e 14 ac,e 15 ac⟩
theorem tV {l e:List Nat} (h:64≤l.length) (t:Nat) (ht:t<16):fW (l++e) t=fW l t:=by
 have k:∀ j,j<64→(l++e).getD j 0=l.getD j 0:=fun j hj=>by
  rw [List.getD_eq_getElem?_getD,List.getD_eq_getElem?_getD,List.getElem?_append_left (by omega)]
 rw [fW,fW,k _ ac,k _ ac,k _ ac,k _ (by omega)]
theorem jt (h:Nat) (e:List Nat):∀ (g:Nat) (x:S8) (l:List Nat),64*g≤l.length→runN (g+h) x (l++e)=runN h (runN g x l) (l.drop (64*g)++e)
 | 0,x,l,_=>by
  rw [Nat.zero_add,Nat.mul_zero,List.drop_zero,runN]
 | g+1,x,l,hl=>by
  have ih:=jt h e g (mixN x (winN (fW l) 0)) (l.drop 64) (by rw [List.length_drop];omega)
  rw [show g+1+h=(g+h)+1 by omega,gJ (by rw [List.length_append];omega),pJ (fun t ht=>tV ac t ht),List.drop_append_of_le_length ac,ih,gJ ac,List.drop_drop]
  congr 3
  omega
def sizeN (n:Nat):List Nat:=[n*8/72057594037927936%256,n*8/281474976710656%256,n*8/1099511627776%256,n*8/4294967296%256,n*8/16777216%256,n*8/65536%256,n*8/256%256,n*8%256]
def padL (l:List Nat):List Nat:=l++(128::(List.replicate (padN (l.length+1)) 0++sizeN l.length))
def iniN:S8:=⟨1779033703,3144134277,1013904242,2773480762,1359893119,2600822924,528734635,1541459225⟩
def d4N (w:Nat):List Nat:=[w/16777216%256,w/65536%256,w/256%256,w%256]
def digN (s:S8):List Nat:=match s with
 | ⟨a,b,c,d,e,f,g,h⟩=>d4N a++(d4N b++(d4N c++(d4N d++(d4N e++(d4N f++(d4N g++d4N h))))))
def shaL (l:List Nat):List Nat:=digN (runN ((padL l).length/64) iniN (padL l))
theorem wrap8 (n:Nat):IntKind.u8.wrap (n:Int)=((n%256:Nat):Int):=by
 simp [IntKind.wrap,IntKind.signed,IntKind.bits]
theorem fH (ns:List Nat) (h:∀ x∈ns,x<256):nl (ofInts (ns.map fun (n:Nat)=>(n:Int)))=ns:=by
 have key:∀ (ns:List Nat) (r:ByteArray),(∀ x∈ns,x<256)→nl ((ns.map fun (n:Nat)=>(n:Int)).foldl (fun r n=>r.push (UInt8.ofNat n.toNat)) r)=nl r++ns:=fun ns=>by
  induction ns with
  | nil=>intro r _;simp
  | cons a ns ih =>
   intro r h
   rw [List.map_cons,List.foldl_cons,ih _ fun x hx=>h x (List.mem_cons_of_mem _ hx)]
   have ha:=h a ay
   have:nl (r.push (UInt8.ofNat ((a:Int)).toNat))=nl r++[a]:=by
    simp [nl,ByteArray.data_push,Nat.mod_eq_of_lt ha]
   rw [this,List.append_assoc]
   rfl
 have:=key ns ByteArray.empty h
 simpa [ofInts,nl] using this
theorem ft {x:Int} {n:Nat} (h:IsN x n):digB x=(d4N n).map fun (n:Nat)=>(n:Int):=by
 have h24:=(h.shr (c:=24) 16777216 ai).1
 have h16:=(h.shr (c:=16) 65536 ai).1
 have h8:=(h.shr (c:=8) 256 ai).1
 unfold digB d4N
 rw [h24,h16,h8,h.1,wrap8,wrap8,wrap8,wrap8]
 rfl
theorem Cu (n:Nat):∀ x∈d4N n,x<256:=fun x hx=>by
 simp only [d4N,List.mem_cons,List.not_mem_nil,or_false] at hx
 rcases hx with rfl|rfl|rfl|rfl<;>exact Nat.mod_lt _ (by decide)
theorem Bv {x:St8} {n:S8} (h:RS x n):nl (ofInts (x.l.flatMap digB))=digN n:=by
 obtain ⟨a,b,c,d,e,f,g,hh⟩:=n
 have e1:x.l.flatMap digB=(digN ⟨a,b,c,d,e,f,g,hh⟩).map fun (n:Nat)=>(n:Int):=by
  simp only [St8.l,digN,List.flatMap_cons,List.flatMap_nil,List.append_nil,List.map_append,ft h.a,ft h.b,ft h.c,ft h.d,ft h.e,ft h.f,ft h.g,ft h.h]
 rw [e1]
 refine fH _ fun x hx=>?_
 simp only [digN,List.mem_append] at hx
 rcases hx with h|h|h|h|h|h|h|h<;>exact Cu _ _ h
theorem vN (n:Nat) (hn:n<2305843009213693952):sizeB (n:Int) 8=(sizeN n).map fun (n:Nat)=>(n:Int):=by
 have hw:∀ m:Nat,m<18446744073709551616→IntKind.u64.wrap (m:Int)=(m:Int):=fun m hm=>by
  simp [IntKind.wrap,IntKind.signed,IntKind.bits]
  omega
 have h1:IntKind.u64.wrap (IntKind.u64.wrap (n:Int)*8)=((n*8:Nat):Int):=by
  rw [hw n ac,show (n:Int)*8=((n*8:Nat):Int) by omega,hw _ (by omega)]
 have hs:∀ (c:Int) (p:Nat),(2:Int) ^ (min c.toNat 64)=(p:Int)→shrV .u64 ((n*8:Nat):Int) c=((n*8/p:Nat):Int):=fun c p hp=>by
  show ((n*8:Nat):Int).fdiv (2 ^ (min c.toNat 64))=_
  rw [hp,←Int.ofNat_fdiv]
 unfold sizeB sizeN
 rw [h1,show List.range 8=[0,1,2,3,4,5,6,7] by rfl]
 simp only [List.map_cons,List.map_nil]
 rw [hs _ 72057594037927936 ai,hs _ 281474976710656 ai,hs _ 1099511627776 ai,hs _ 4294967296 ai,hs _ 16777216 ai,hs _ 65536 ai,hs _ 256 ai,hs _ 1 ai,Nat.div_one]
 simp only [wrap8]
theorem Bt (s:ByteArray) (n:Nat) (hn:n<2305843009213693952):nl (endV s (n:Int))=nl s++(128::(List.replicate (padN (s.size+1)) 0++sizeN n)):=by
 have e:endL s++List.replicate (padN (s.size+1)) 0++sizeB (n:Int) 8=(nl s++(128::(List.replicate (padN (s.size+1)) 0++sizeN n))).map fun (n:Nat)=>(n:Int):=by
  rw [endL,uG,vN n hn]
  simp
 rw [endV,e]
 refine fH _ fun x hx=>?_
 simp only [List.mem_append,List.mem_cons,List.mem_replicate] at hx
 rcases hx with h|h|h|h
 · exact kK s x h
 · omega
 · omega
 · simp only [sizeN,List.mem_cons,List.not_mem_nil,or_false] at h
   rcases h with rfl|rfl|rfl|rfl|rfl|rfl|rfl|rfl<;>exact Nat.mod_lt _ (by decide)
theorem mT (s:ByteArray) (hs:s.size<2305843009213693952):nl (shaV s)=shaL (nl s):=by
 have hi:RS iniS iniN:=⟨⟨rfl,by decide⟩,⟨rfl,by decide⟩,⟨rfl,by decide⟩,⟨rfl,by decide⟩,⟨rfl,by decide⟩,⟨rfl,by decide⟩,⟨rfl,by decide⟩,⟨rfl,by decide⟩⟩
 obtain ⟨h1,h2⟩:=l6 s.size iniS iniN s hi (Nat.div_le_self _ _)
 have h3:shaV s=ofInts ((loopE (endV (loopV s.size iniS s).2 s.size).size (loopV s.size iniS s).1 (endV (loopV s.size iniS s).2 s.size)).l.flatMap digB):=rfl
 rw [h3]
 generalize loopV s.size iniS s=p at h1 h2
 have he:=Bt p.2 s.size hs
 have hps:p.2.size=s.size%64:=by
  rw [←cu,h2,List.length_drop,cu]
  omega
 have hlen:(endV p.2 s.size).size%64=0:=ml _ _
 have h4:=l7 (endV p.2 s.size).size p.1 _ (endV p.2 s.size) h1 hlen (Nat.div_le_self _ _)
 rw [Bv h4,shaL]
 congr 1
 have hpad:padN (p.2.size+1)=padN ((nl s).length+1):=by
  rw [hps,cu,padN,padN]
  omega
 have hpl:padL (nl s)=nl s++(128::(List.replicate (padN ((nl s).length+1)) 0++sizeN s.size)):=by rw [padL,cu]
 have hll:(padL (nl s)).length/64=s.size/64+(endV p.2 s.size).size/64:=by
  have e1:(endV p.2 s.size).size=(s.size%64)+1+padN ((nl s).length+1)+8:=by
   rw [←cu,he,h2,hpad]
   simp only [List.length_append,List.length_cons,List.length_replicate,List.length_drop,cu,sizeN,List.length_nil]
   omega
  have e2:(padL (nl s)).length=s.size+1+padN ((nl s).length+1)+8:=by
   rw [hpl]
   simp only [List.length_append,List.length_cons,List.length_replicate,cu,sizeN,List.length_nil]
   omega
  rw [e1,e2]
  rw [e1] at hlen
  omega
 rw [hll,hpl,jt _ _ _ _ _ (by rw [cu];omega),he,h2,hpad]
end Go.Proofs.YtgffbiobmamobaaGreatDoor
