/- Joined. -/
import Derived.Test.YtggionfjlgfihaaGreatDoorI0
import Derived.Test.YtggionfjlgfihaaGreatDoorI1
import Derived.Test.YtggionfjlgfihaaGreatDoorI6
import Derived.Test.YtggionfjlgfihaaGreatDoorI5
import Derived.Test.YtggionfjlgfihaaGreatDoorI8
import Derived.Shelf.Slices.CompactS
import Derived.Lib.RowBridge
set_option linter.unusedVariables false
set_option linter.unusedSimpArgs false
set_option maxHeartbeats 16000000
namespace Go.Proofs.YtggionfjlgfihaaGreatDoor
open Go Go.Proofs Sy
def padN (n:Nat):Nat:=(120-n%64)%64
def sizeB (n:Int) (k:Nat):List Int:=(List.range k).map fun (j:Nat)=>IntKind.u8.wrap (shrV .u64 (IntKind.u64.wrap (IntKind.u64.wrap n*8)) (56-8*(j:Int)))
def endL (s:ByteArray):List Int:=bytesI s++[128]
def endV (s:ByteArray) (n:Int):ByteArray:=ofInts (endL s++List.replicate (padN (s.size+1)) 0++sizeB n 8)
theorem p5 (s:ByteArray):(endL s).length=s.size+1:=by simp [endL,rK]
theorem tX (n:Int) (k:Nat):(sizeB n k).length=k:=by simp [sizeB]
theorem mR (s:ByteArray) (n:Int):(endV s n).size%64=0:=by
 rw [endV,gg]
 simp only [List.length_append,p5,List.length_replicate,tX,padN]
 omega
structure EndS (m:Nat) where
 k:Nat
 hk:k≤m
 A:Option Addr
 c:Nat
theorem uU (s:ByteArray) (n:Int) (hs:s.size≤1099511627776):Pu Tryz.prog 63 #[.string s,.int .i64 n] (fun _=>True) (.string (endV s n)):=by
 refine ar Tryz.func63 Tryz.ntmps63 fun av bor w0=>?_
 repeat' (first|refine gs ?_|refine gs1 fun _=>?_|(refine qF fun A c=>?_)|fail)
 rename_i b0
 refine aC (size:=1) (z:=.int .u8 0) (news:=u8s [128]) (q:=1) rfl rfl rfl rfl (fun _=>At.there _ (At.here _)) (fun w G=>aU G ap rfl rfl 1) ?_ ?_ rfl ?_ rfl ?_
 · omega
 · simp only [maxLen];omega
 · rfl
 intro A1 c1
 repeat' (first|refine gs ?_|refine gs1 fun _=>?_|fail)
 have hel:=p5 s
 refine am (ι:=EndS (padN (s.size+1))) (fun i=>⟨[(1,.int .i64 n),(5,.slice i.A (s.size+1+i.k) i.c)],[orow 5 1 (.slice i.A (s.size+1+i.k) i.c) (s.size+1+i.k) (u8s (endL s++List.replicate i.k 0))],fun _=>True⟩) (fun i=>padN (s.size+1)-i.k) ⟨0,Nat.zero_le _,A1,c1⟩ (ae al ?_ fun _ h=>h) fun i=>?_
 · refine List.Sublist.cons _ ?_
   rw [←bU]
   simp only [List.replicate_zero,List.append_nil]
   exact aj _
 have hik:=i.hk
 have hp:padN (s.size+1)<64:=Nat.mod_lt _ aa
 have hp2:padN (s.size+1)=(120-(s.size+1)%64)%64:=rfl
 have htm:Int.tmod ((s.size+1+i.k:Nat):Int) 64=(((s.size+1+i.k)%64:Nat):Int):=Int.ofNat_tmod _ _
 repeat' (first|refine gs ?_|refine gs1 fun _=>?_|(refine gp ?_ ?_<;>intro hx_ this)|fail)
 refine g8 (hc:=htm) ?_
 repeat' (first|refine gs ?_|refine gs1 fun _=>?_|(refine gp ?_ ?_<;>intro hx_ this)|fail)
 · have hlt:i.k<padN (s.size+1):=by
    have h1:¬ (((s.size+1+i.k)%64:Nat):Int)=56:=by simpa using hx_
    omega
   refine aC (size:=1) (z:=.int .u8 0) (news:=u8s [0]) (q:=1) rfl rfl rfl rfl (fun _=>At.there _ (At.here _)) (fun w G=>aU G ap rfl rfl 1) ?_ ?_ rfl ?_ rfl ?_
   · omega
   · simp only [maxLen];omega
   · rfl
   intro A2 c2
   repeat' (first|refine gs ?_|refine gs1 fun _=>?_|(refine gp ?_ ?_<;>intro hx_ this)|fail)
   refine ⟨(⟨i.k+1,hlt,A2,c2⟩:EndS (padN (s.size+1))),(by show padN (s.size+1)-(i.k+1)<padN (s.size+1)-i.k;omega),ae al ?_ fun _ h=>h⟩
   refine List.Sublist.cons _ ?_
   rw [←bU]
   simp only [List.replicate_succ',List.append_assoc]
   exact aj _
 have hk:i.k=padN (s.size+1):=by
  have h1:(((s.size+1+i.k)%64:Nat):Int)=56:=by simpa using hx_
  omega
 have hl1:(endL s++List.replicate (padN (s.size+1)) 0:List Int).length=s.size+1+padN (s.size+1):=by simp [hel]
 rw [hk]
 generalize hL:(endL s++List.replicate (padN (s.size+1)) 0:List Int)=L at *
 refine am (ι:=EndS 8) (fun j=>⟨[(5,.slice j.A (s.size+1+padN (s.size+1)+j.k) j.c),(6,.int .u64 (IntKind.u64.wrap (IntKind.u64.wrap n*8))),(7,.int .i64 (56-8*(j.k:Int)))],[orow 5 1 (.slice j.A (s.size+1+padN (s.size+1)+j.k) j.c) (s.size+1+padN (s.size+1)+j.k) (u8s (L++sizeB n j.k))],fun _=>True⟩) (fun j=>8-j.k) ⟨0,Nat.zero_le _,i.A,i.c⟩ (ae al ?_ fun _ h=>h) fun j=>?_
 · have e:sizeB n 0=[]:=rfl
   simp only [e,List.append_nil]
   exact aj _
 have hjk:=j.hk
 repeat' (first|refine gs ?_|refine gs1 fun _=>?_|(refine gp ?_ ?_<;>intro hx_ this)|fail)
 · have hlt:j.k<8:=by omega
   refine aC (size:=1) (z:=.int .u8 0) (news:=u8s [IntKind.u8.wrap (shrV .u64 (IntKind.u64.wrap (IntKind.u64.wrap n*8)) (56-8*(j.k:Int)))]) (q:=1) rfl rfl rfl rfl (fun _=>At.there _ (At.here _)) (fun w G=>aU G ap rfl rfl 1) ?_ ?_ rfl ?_ rfl ?_
   · omega
   · simp only [maxLen];omega
   · rfl
   intro A2 c2
   repeat' (first|refine gs ?_|refine gs1 fun _=>?_|(refine gp ?_ ?_<;>intro hx_ this)|fail)
   refine ⟨(⟨j.k+1,hlt,A2,c2⟩:EndS 8),(by show 8-(j.k+1)<8-j.k;omega),ae ⟨rfl,rfl,?_,trivial⟩ ?_ fun _ h=>h⟩
   · show some (Value.int .i64 (56-8*(j.k:Int)-8))=some (Value.int .i64 (56-8*((j.k+1:Nat):Int)))
     congr 2
     omega
   refine List.Sublist.cons _ ?_
   rw [←bU]
   have e:sizeB n (j.k+1)=sizeB n j.k++[IntKind.u8.wrap (shrV .u64 (IntKind.u64.wrap (IntKind.u64.wrap n*8)) (56-8*(j.k:Int)))]:=by simp [sizeB,List.range_succ]
   simp only [e,List.append_assoc]
   exact aj _
 have hj8:j.k=8:=by omega
 refine dR (hm:=ap) ?_
 repeat' (first|refine gs ?_|refine gs1 fun _=>?_|(refine gp ?_ ?_<;>intro hx_ this)|fail)
 apply ab;apply ai;rfl;rfl
 rw [hj8,←hL,endV]
def iniS:St8:=⟨1779033703,3144134277,1013904242,2773480762,1359893119,2600822924,528734635,1541459225⟩
def loopV:Nat→St8→ByteArray→St8×ByteArray
 | 0,x,r=>(x,r)
 | f+1,x,r=>bif decide (64≤(r.size:Int)) then loopV f (mixV x (r.extract 0 64)) (r.extract 64 r.size) else (x,r)
def loopE:Nat→St8→ByteArray→St8
 | 0,x,_=>x
 | f+1,x,r=>bif seqB r ⟨#[]⟩ then x else loopE f (mixV x (r.extract 0 64)) (r.extract 64 r.size)
theorem cO (r:ByteArray):seqB r ⟨#[]⟩=decide (r.size=0):=by
 have h1:(⟨#[]⟩:ByteArray).toList=[]:=by simp [ByteArray.toList_eq]
 by_cases h:r.size=0
 · have:r=⟨#[]⟩:=by
    have h2:r.data=#[]:=Array.eq_empty_of_size_eq_zero h
    obtain ⟨d⟩:=r
    exact congrArg ByteArray.mk h2
   subst this
   simp only [seqB,h1]
   rfl
 · simp only [h,decide_false]
   cases hs:seqB r ⟨#[]⟩ with
   | false=>rfl
   | true =>
    exfalso
    have h3:r.toList=[]:=by
     have:=hs
     simp only [seqB,h1] at this
     simpa using this
    have h4:r.toList.length=r.size:=by simp [ByteArray.toList_eq]
    rw [h3] at h4
    simp at h4
    omega
structure ShaA (s:ByteArray) where
 f:Nat
 x:St8
 r:ByteArray
 h:r.size≤f
 hs:r.size≤s.size
 e:loopV f x r=loopV s.size iniS s
def ShaA.next {s:ByteArray} (i:ShaA s) (h:64≤i.r.size):ShaA s :=
 ⟨i.f-1,mixV i.x (i.r.extract 0 64),i.r.extract 64 i.r.size,by have:=i.h;simp only [ByteArray.size_extract];omega,by have:=i.hs;simp only [ByteArray.size_extract];omega,by
  rw [←i.e]
  cases hf:i.f with
  | zero=>have:=i.h;omega
  | succ f =>
   have:decide (64≤(i.r.size:Int))=true:=decide_eq_true aa
   simp only [loopV,this,cond_true,Nat.add_sub_cancel]⟩
theorem ShaA.last {s:ByteArray} (i:ShaA s) (h:¬ 64≤i.r.size):loopV s.size iniS s=(i.x,i.r):=by
 rw [←i.e]
 cases hf:i.f with
 | zero=>rfl
 | succ f =>
  have:decide (64≤(i.r.size:Int))=false:=decide_eq_false aa
  simp only [loopV,this,cond_false]
structure ShaE (x0:St8) (s:ByteArray) where
 f:Nat
 x:St8
 r:ByteArray
 h:r.size≤f
 hm:r.size%64=0
 e:loopE f x r=loopE s.size x0 s
def ShaE.next {x0:St8} {s:ByteArray} (i:ShaE x0 s) (h:0<i.r.size):ShaE x0 s :=
 ⟨i.f-1,mixV i.x (i.r.extract 0 64),i.r.extract 64 i.r.size,by have:=i.h;simp only [ByteArray.size_extract];omega,by have:=i.hm;simp only [ByteArray.size_extract];omega,by
  rw [←i.e]
  cases hf:i.f with
  | zero=>have:=i.h;omega
  | succ f =>
   have:seqB i.r ⟨#[]⟩=false:=by rw [cO];exact decide_eq_false aa
   simp only [loopE,this,cond_false,Nat.add_sub_cancel]⟩
theorem ShaE.last {x0:St8} {s:ByteArray} (i:ShaE x0 s) (h:i.r.size=0):loopE s.size x0 s=i.x:=by
 rw [←i.e]
 cases hf:i.f with
 | zero=>rfl
 | succ f =>
  have:seqB i.r ⟨#[]⟩=true:=by rw [cO];exact decide_eq_true h
  simp only [loopE,this,cond_true]
def digB (w:Int):List Int:=[IntKind.u8.wrap (shrV .u32 w 24),IntKind.u8.wrap (shrV .u32 w 16),IntKind.u8.wrap (shrV .u32 w 8),IntKind.u8.wrap w]
def shaV (s:ByteArray):ByteArray :=
 let p:=loopV s.size iniS s
 let r:=endV p.2 s.size
 ofInts ((loopE r.size p.1 r).l.flatMap digB)
theorem pU (l:List Int):(l.flatMap digB).length=4*l.length:=by
 induction l with
 | nil=>rfl
 | cons a l ih=>rw [List.flatMap_cons,List.length_append,ih];simp [digB];omega
theorem St8.len (x:St8):x.l.length=8:=rfl
theorem gO (s:ByteArray):(shaV s).size=32:=by
 simp only [shaV]
 rw [gg,pU,St8.len]
theorem kL (s:ByteArray) (hs:s.size≤1099511627776):Pu Tryz.prog 25 #[.string s] Xf (.string (shaV s)):=by
 refine ar Tryz.func25 Tryz.ntmps25 fun av bor w0=>?_
 repeat' (first|refine gs ?_|refine gs1 fun _=>?_|(refine nu (cs:=u32s iniC) (hF:=fun w h=>h.ini) (hl:=by rfl) ?_)|fail)
 rename_i b
 refine am (ι:=ShaA s) (fun i=>⟨[(0,.string s),(3,.pointer (some ⟨b,0,none⟩)),(4,.string i.r)],[cel b 117 (u32s i.x.l)],Xf⟩) (fun i=>i.f) ⟨s.size,iniS,s,Nat.le_refl _,Nat.le_refl _,rfl⟩ (ae al (aj _) fun _ h=>h) fun i=>?_
 repeat' (first|refine gs ?_|refine gs1 fun _=>?_|(refine gp ?_ ?_<;>intro hx_ this)|fail)
 · have h64:64≤i.r.size:=by omega
   have hx64:(i.r.extract 0 (Int.toNat 64)).size=64:=by simp only [ByteArray.size_extract];have:Int.toNat 64=64:=rfl;omega
   (refine ao ⟨[1,2],[(0,⟨[],[(3,⟨[],[(4,⟨[],[]⟩)]⟩)]⟩)]⟩ [] (fun _=>True) (h:=?_))
   all_goals repeat' (first|refine ag (hc:=xr i.x _ hx64) ?_|refine gd ?_|refine ax (hy:=by first|(apply qq;rfl;rfl;decide;omega)) ?_|refine ay ?_ (h':=?_)|exact az|(refine br ?_)|refine gs1 fun _=>?_|(refine gq ?_ ?_<;>intro hx_ this)|fail)
   all_goals (repeat' (first|refine gs ?_|refine gs1 fun _=>?_|(refine gp ?_ ?_<;>intro hx_ this)|fail))
   refine rY (h0:=by decide) (h1:=by omega) ?_
   repeat' (first|refine gs ?_|refine gs1 fun _=>?_|(refine gp ?_ ?_<;>intro hx_ this)|fail)
   exact ⟨i.next h64,(by show i.f-1<i.f;have:=i.h;omega),ae al (aj _) fun _ h=>h⟩
 have hlast:=i.last aa
 have hrs:=i.hs
 repeat' (first|refine ag (hc:=uU i.r _ aa) ?_|refine gs ?_|refine gs1 fun _=>?_|(refine gp ?_ ?_<;>intro hx_ this)|fail)
 have hmod:=mR i.r (s.size:Int)
 generalize hr0:endV i.r (s.size:Int)=r0 at *
 refine am (ι:=ShaE i.x r0) (fun j=>⟨[(3,.pointer (some ⟨b,0,none⟩)),(4,.string j.r)],[cel b 117 (u32s j.x.l)],Xf⟩) (fun j=>j.f) ⟨r0.size,i.x,r0,Nat.le_refl _,hmod,rfl⟩ (ae al (aj _) fun _ h=>h) fun j=>?_
 have hjm:=j.hm
 repeat' (first|refine gs ?_|refine gs1 fun _=>?_|(refine gp ?_ ?_<;>intro hx_ this)|fail)
 · have hne:0<j.r.size:=by
    have:seqB j.r ⟨#[]⟩=false:=by simpa using hx_
    rw [cO] at this
    have:=d1 this
    omega
   have h64:64≤j.r.size:=by omega
   have hx64:(j.r.extract 0 (Int.toNat 64)).size=64:=by simp only [ByteArray.size_extract];have:Int.toNat 64=64:=rfl;omega
   (refine ao ⟨[1,2],[(0,⟨[],[(3,⟨[],[(4,⟨[],[]⟩)]⟩)]⟩)]⟩ [] (fun _=>True) (h:=?_))
   all_goals repeat' (first|refine ag (hc:=xr j.x _ hx64) ?_|refine gd ?_|refine ax (hy:=by first|(apply qq;rfl;rfl;decide;omega)) ?_|refine ay ?_ (h':=?_)|exact az|(refine br ?_)|refine gs1 fun _=>?_|(refine gq ?_ ?_<;>intro hx_ this)|fail)
   all_goals (repeat' (first|refine gs ?_|refine gs1 fun _=>?_|(refine gp ?_ ?_<;>intro hx_ this)|fail))
   refine rY (h0:=by decide) (h1:=by omega) ?_
   repeat' (first|refine gs ?_|refine gs1 fun _=>?_|(refine gp ?_ ?_<;>intro hx_ this)|fail)
   exact ⟨j.next hne,(by show j.f-1<j.f;have:=j.h;omega),ae al (aj _) fun _ h=>h⟩
 have hz:j.r.size=0:=by
  have:seqB j.r ⟨#[]⟩=true:=by simpa using hx_
  rw [cO] at this
  exact cI this
 have hend:=j.last hz
 have hl8:=St8.len j.x
 repeat' (first|refine gs ?_|refine gs1 fun _=>?_|(refine eU (c:=32) (hy:=by rfl) (hm:=by rfl) (hm2:=by rfl) fun q=>?_)|fail)
 generalize hL:j.x.l=L at *
 have hfl:=fun k=>pU (L.take k)
 refine am (ι:=EndS 8) (fun m=>⟨[(5,.slice m.A (4*m.k) m.c),(32,.agg (u32s L).toArray),(33,.int .i64 m.k)],[orow 5 1 (.slice m.A (4*m.k) m.c) (4*m.k) (u8s ((L.take m.k).flatMap digB))],Xf⟩) (fun m=>8-m.k) ⟨0,Nat.zero_le _,_,_⟩ (ae al (List.Sublist.cons_cons _ (List.Sublist.cons _ (aj _))) fun _ h=>h) fun m=>?_
 have hmk:=m.hk
 repeat' (first|refine gs ?_|refine gs1 fun _=>?_|(refine gp ?_ ?_<;>intro hx_ this)|fail)
 · have hlt:m.k<8:=by omega
   have hg:(u32s L).toArray[((m.k:Nat):Int).toNat]?=some (.int .u32 (L.getD m.k 0)):=by
    rw [Int.toNat_natCast]
    simpa using fZ L m.k aa
   repeat' (first|refine gs ?_|refine gs1 fun _=>?_|(refine yG (hv:=hg) ?_)|fail)
   refine aC (size:=1) (z:=.int .u8 0) (news:=u8s (digB (L.getD m.k 0))) (q:=4) rfl rfl rfl rfl (fun _=>At.there _ (At.here _)) (fun w G=>aU G ap rfl rfl 4) ?_ ?_ rfl ?_ rfl ?_
   · omega
   · simp only [maxLen];omega
   · rfl
   intro A2 c2
   repeat' (first|refine gs ?_|refine gs1 fun _=>?_|(refine gp ?_ ?_<;>intro hx_ this)|fail)
   refine ⟨(⟨m.k+1,hlt,A2,c2⟩:EndS 8),(by show 8-(m.k+1)<8-m.k;omega),ae ⟨?_,rfl,rfl,trivial⟩ ?_ fun _ h=>h⟩
   · rfl
   refine List.Sublist.cons _ ?_
   rw [←bU]
   have e:(L.take (m.k+1)).flatMap digB=(L.take m.k).flatMap digB++digB (L.getD m.k 0):=by
    have hlt2:m.k<L.length:=by omega
    rw [List.take_add_one,List.flatMap_append,List.getElem?_eq_getElem hlt2,List.getD_eq_getElem?_getD,List.getElem?_eq_getElem hlt2]
    simp only [Option.toList_some,List.flatMap_cons,List.flatMap_nil,List.append_nil,Option.getD_some]
   simp only [e]
   exact aj _
 have hm8:m.k=8:=by omega
 repeat' (first|refine gs ?_|refine gs1 fun _=>?_|(refine gp ?_ ?_<;>intro hx_ this)|fail)
 refine dR (hm:=ap) ?_
 repeat' (first|refine gs ?_|refine gs1 fun _=>?_|(refine gp ?_ ?_<;>intro hx_ this)|fail)
 apply ab;apply ai;rfl;rfl
 rw [hm8,List.take_of_length_le (by omega)]
 simp only [shaV,hlast,hr0,hend,hL]
structure Xa.Rng (a:Xa):Prop where
 ints:a.seq<9223372036854775808∧a.kind<9223372036854775808∧a.time<9223372036854775808∧a.scope<9223372036854775808∧a.epoch<9223372036854775808∧a.n<9223372036854775808∧a.m<9223372036854775808∧a.e<9223372036854775808∧a.s<9223372036854775808
 wints:∀ w∈a.wrapsL,w.to<9223372036854775808∧w.eph<9223372036854775808
 to_len:a.to.n=a.toL.length
 wraps_len:a.wraps.n=a.wrapsL.length
def useU (z0 z1 z2 z3 z4 z5 z6 z7 z8 z9 z10:Bool):Int :=
 noteV (noteV (noteV (noteV (noteV (noteV (noteV (noteV (noteV (noteV (noteV 0 1 z0) 2 z1) 4 z2) 8 z3) 16 z4) 32 z5) 64 z6) 128 z7) 256 z8) 512 z9) 1024 z10
def useOk (fs:Nat) (z0 z1 z2 z3 z4 z5 z6 z7 z8 z9 z10:Bool):Bool :=
 !decide (bitsV .andNot .i64 (useU z0 z1 z2 z3 z4 z5 z6 z7 z8 z9 z10) fs=0)||((fs.testBit 0||z0)&&(fs.testBit 1||z1)&&(fs.testBit 3||z3)&&(fs.testBit 4||z4)&&(fs.testBit 5||z5)&&(fs.testBit 6||z6)&&(fs.testBit 8||z8))
def bools (p:Bool→Bool):Bool:=p true&&p false
theorem cK {p:Bool→Bool} (h:bools p=true) (b:Bool):p b=true:=by
 simp only [bools,Bool.and_eq_true] at h
 cases b
 · exact h.2
 · exact h.1
def useAll (fs:Nat):Bool:=bools fun z0=>bools fun z1=>bools fun z2=>bools fun z3=>bools fun z4=>bools fun z5=>bools fun z6=>bools fun z7=>bools fun z8=>bools fun z9=>bools fun z10=>useOk fs z0 z1 z2 z3 z4 z5 z6 z7 z8 z9 z10
theorem qx:([1568,252,253,1,2,33,24,412,35,1536,1808,513,546].all useAll)=true:=by decide +kernel
theorem vP {fs:Nat} (hfs:useAll fs=true) {z0 z1 z2 z3 z4 z5 z6 z7 z8 z9 z10:Bool} (h:bitsV .andNot .i64 (useU z0 z1 z2 z3 z4 z5 z6 z7 z8 z9 z10) fs=0) :
  (fs.testBit 0||z0)=true∧(fs.testBit 1||z1)=true∧(fs.testBit 3||z3)=true∧(fs.testBit 4||z4)=true∧(fs.testBit 5||z5)=true∧(fs.testBit 6||z6)=true∧(fs.testBit 8||z8)=true:=by
 have h1:=cK (cK (cK (cK (cK (cK (cK (cK (cK (cK (cK hfs z0) z1) z2) z3) z4) z5) z6) z7) z8) z9) z10
 simp only [useOk,h,decide_true,Bool.not_true,Bool.false_or,Bool.and_eq_true] at h1
 obtain ⟨⟨⟨⟨⟨⟨h2,h3⟩,h4⟩,h5⟩,h6⟩,h7⟩,h8⟩:=h1
 exact ⟨h2,h3,h4,h5,h6,h7,h8⟩
theorem jm {s:ByteArray} (h:isId s=true):s.size=16:=by
 simp only [isId,Bool.and_eq_true,decide_eq_true_eq] at h
 omega
theorem jM {s:ByteArray} (h:isName s=true):s.size≤24:=by
 simp only [isName,Bool.and_eq_true,Bool.not_eq_true',decide_eq_false_iff_not] at h
 omega
theorem ma {s:ByteArray} (h:isDigestB s=true):s.size=32:=by
 simp only [isDigestB,decide_eq_true_eq] at h
 omega
theorem eE {s:ByteArray} (h:isShortB s=true):s.size≤500:=by
 simp only [isShortB,decide_eq_true_eq] at h
 omega
theorem dK {s:ByteArray} (h:seqB s ⟨#[]⟩=true):s.size=0:=by
 rw [cO] at h
 exact cI h
structure Short (b:Xx):Prop where
 nonce:b.nonce.size≤500
 data:b.data.size≤500
 tag:b.tag.size≤500
theorem Short.fit {b:Xx} (h:Short b):b.Fit:=⟨by have:=h.nonce;omega,by have:=h.data;omega,by have:=h.tag;omega⟩
theorem Short.size {b:Xx} (h:Short b):(boxV b).size≤1530:=by
 have h1:=aD b.nonce
 have h2:=aD b.data
 have h3:=aD b.tag
 have:=h.nonce
 have:=h.data
 have:=h.tag
 simp only [boxV,ByteArray.size_append]
 omega
theorem gz {b:Xx} (h:isSealedB b=true):Short b:=by
 simp only [isSealedB,Bool.and_eq_true,decide_eq_true_eq] at h
 have:=eE h.2
 exact ⟨by omega,this,by omega⟩
theorem dz {b:Xx} (h:boxEq b Xx.zero=true):Short b:=by
 simp only [boxEq,Bool.and_eq_true,Xx.zero] at h
 obtain ⟨⟨h1,h2⟩,h3⟩:=h
 have:=dK h1
 have:=dK h2
 have:=dK h3
 exact ⟨by omega,by omega,by omega⟩
structure ToOk (l:List ByteArray):Prop where
 len:l.length≤64
 each:∀ x∈l,x.size≤16
theorem tt {n:Nat} {bad:Nat→Bool} (h:allB n bad=true) {k:Nat} (hk:k<n):bad k=false:=by
 simp only [allB,List.all_eq_true,List.mem_range] at h
 simpa using h k hk
theorem iO {l:List ByteArray} (h:isIds l=true):ToOk l:=by
 simp only [isIds,Bool.and_eq_true,Bool.not_eq_true',decide_eq_false_iff_not] at h
 refine ⟨by omega,fun x hx=>?_⟩
 obtain ⟨k,hk,rfl⟩:=List.getElem_of_mem hx
 have h1:=tt h.2 hk
 simp only [badIds,Bool.or_eq_false_iff,Bool.not_eq_false'] at h1
 have h2:l.getD k .empty=l[k]:=by simp [hk]
 rw [h2] at h1
 have:=jm h1.1
 omega
theorem on {B:Nat}:∀ (l:List ByteArray),(∀ x∈l,x.size≤B)→(cats l).size≤l.length*B
 | [],_=>by simp [cats]
 | x::l,h=>by
  have h1:=on l fun y hy=>h y (List.mem_cons_of_mem _ hy)
  have h2:=h x ap
  simp only [cats,ByteArray.size_append,List.length_cons,Nat.add_mul,Nat.one_mul]
  omega
theorem ToOk.size {l:List ByteArray} (h:ToOk l):(listV l).size≤1073741824:=by
 have h1:=aw l.length
 have h2:=on (B:=26) (l.map textV) (fun x hx=>by
  obtain ⟨y,hy,rfl⟩:=List.mem_map.1 hx
  have:=h.each y hy
  have:=aD y
  omega)
 have h3:=h.len
 simp only [List.length_map] at h2
 simp only [listV,ByteArray.size_append]
 omega
theorem ToOk.nil {l:List ByteArray} (h:l.length=0):ToOk l:=by
 have:l=[]:=List.eq_nil_of_length_eq_zero h
 subst this
 exact ⟨by simp,by simp⟩
structure Ek (l:List Xu):Prop where
 len:l.length≤64
 each:∀ x∈l,Short x.box
theorem Ek.size {l:List Xu} (h:Ek l):(cats (l.map wrapV)).size≤1073741824:=by
 have h2:=on (B:=1550) (l.map wrapV) (fun x hx=>by
  obtain ⟨y,hy,rfl⟩:=List.mem_map.1 hx
  have:=(h.each y hy).size
  have:=aw y.to
  have:=aw y.eph
  simp only [wrapV,ByteArray.size_append]
  omega)
 have h3:=h.len
 simp only [List.length_map] at h2
 omega
theorem Ek.nil {l:List Xu} (h:l.length=0):Ek l:=by
 have:l=[]:=List.eq_nil_of_length_eq_zero h
 subst this
 exact ⟨by simp,by simp⟩
theorem kD {a:Xa} (hr:a.Rng) (ht:ToOk a.toL) (h:wrappedB a=true):Ek a.wrapsL:=by
 simp only [wrappedB,Bool.and_eq_true,decide_eq_true_eq] at h
 have h1:=hr.to_len
 have h2:=hr.wraps_len
 have h3:=ht.len
 refine ⟨by omega,fun x hx=>?_⟩
 obtain ⟨k,hk,rfl⟩:=List.getElem_of_mem hx
 have h4:=tt h.1 hk
 rw [ou (List.getElem?_eq_getElem hk)] at h4
 simp only [Bool.or_eq_false_iff,Bool.not_eq_false'] at h4
 exact gz h4.2.2
structure Bnd (a:Xa):Prop where
 object:a.object.size≤500
 target:a.target.size≤500
 group:a.group.size≤500
 text:a.text.size≤500
 body:Short a.body
 to:ToOk a.toL
 wraps:Ek a.wrapsL
theorem pF {κ β:Type} [Xm κ] {k:κ} {x:β}:∀ {l:List (κ×β)},mget l k=some x→∃ k',(k',x)∈l
 | [],h=>by cases h
 | (k',v)::r,h=>by
  simp only [mget] at h
  cases hb:Xm.eqb k k' with
  | true=>rw [hb] at h;simp at h;subst h;exact ⟨k',ap⟩
  | false=>rw [hb] at h;obtain ⟨k2,h2⟩:=pF (l:=r) (by simpa using h);exact ⟨k2,List.mem_cons_of_mem _ h2⟩
theorem kM {sc:Int} {g:ByteArray} (h:sealedScopeB sc g=true):g.size≤500:=by
 unfold sealedScopeB at h
 cases h1:decide (sc=2)<;>cases h2:decide (sc=1)<;>cases h3:decide (sc=3)<;>simp only [h1,h2,h3,cond_true,cond_false] at h
 all_goals first
  | (have:=jM h;omega)
  | (have:=dK h;omega)
  | cases h
theorem jY {a:Xa} (h:audienceB a=true):a.group.size≤500∧a.text.size≤500∧Short a.body∧ToOk a.toL:=by
 unfold audienceB at h
 cases h0:isIds a.toL with
 | false=>simp [h0] at h
 | true =>
  have ht:=iO h0
  cases h1:decide (a.scope=0) with
  | true =>
   simp only [h0,h1,Bool.not_true,cond_true,cond_false,Bool.and_eq_true] at h
   obtain ⟨⟨⟨h2,h3⟩,h4⟩,h5⟩:=h
   have:=dK h2
   have:=eE h4
   exact ⟨by omega,by omega,dz h5,ht⟩
  | false =>
   cases h6:(decide (0<(a.to.n:Int))&&!decide (a.scope=3)) with
   | true=>simp only [h0,h1,h6,Bool.not_true,cond_true,cond_false] at h;cases h
   | false =>
    simp only [h0,h1,h6,Bool.not_true,cond_true,cond_false,Bool.and_eq_true] at h
    obtain ⟨⟨⟨h2,h3⟩,h4⟩,h5⟩:=h
    have:=dK h4
    exact ⟨kM h2,by omega,gz h5,ht⟩
theorem cv {s:ByteArray} (h:seqB s ⟨#[]⟩=true):s.size≤500:=by have:=dK h;omega
theorem A8 {a:Xa} (hr:a.Rng) (h:decide ((a.to.n:Int)=0)=true):ToOk a.toL:=ToOk.nil (by have:=cI h;have:=hr.to_len;omega)
theorem j6 {a:Xa} (hr:a.Rng) (h:decide ((a.wraps.n:Int)=0)=true):Ek a.wrapsL:=Ek.nil (by have:=cI h;have:=hr.wraps_len;omega)
theorem qa {s:ByteArray} (h:isDigestB s=true):s.size≤500:=by have:=ma h;omega
theorem xD {s:ByteArray} (h:isId s=true):s.size≤500:=by have:=jm h;omega
theorem xo {s:ByteArray} (h:isName s=true):s.size≤500:=by have:=jM h;omega
theorem vN (a:Xa):usedV a=useU (seqB a.object ⟨#[]⟩) (seqB a.target ⟨#[]⟩) (decide (a.scope=0)) (seqB a.group ⟨#[]⟩) (decide ((a.to.n:Int)=0)) (seqB a.text ⟨#[]⟩) (boxEq a.body Xx.zero) (decide (a.epoch=0)) (decide ((a.wraps.n:Int)=0)) (decide (a.n=0)) (decide (a.m=0)):=rfl
theorem jW {a:Xa} (hr:a.Rng) (h:ruleB a=true):Bnd a:=by
 unfold ruleB at h
 cases hk:mget (ruleL a) a.kind with
 | none=>rw [hk] at h;cases h
 | some x =>
  obtain ⟨fs,b⟩:=x
  rw [hk] at h
  simp only [Bool.and_eq_true,decide_eq_true_eq] at h
  obtain ⟨hu,hb⟩:=h
  rw [vN] at hu
  obtain ⟨k',hm⟩:=pF hk
  obtain ⟨n,hn,hmem⟩:∃ n:Nat,fs=n∧n∈[1568,252,253,1,2,33,24,412,35,1536,1808,513,546]:=by
   simp only [ruleL,List.mem_cons,Prod.mk.injEq,List.not_mem_nil,or_false] at hm
   clear hu hb hk
   rcases hm with ⟨-,h9,-⟩|⟨-,h9,-⟩|⟨-,h9,-⟩|⟨-,h9,-⟩|⟨-,h9,-⟩|⟨-,h9,-⟩|⟨-,h9,-⟩|⟨-,h9,-⟩|⟨-,h9,-⟩|⟨-,h9,-⟩|⟨-,h9,-⟩|⟨-,h9,-⟩|⟨-,h9,-⟩|⟨-,h9,-⟩|⟨-,h9,-⟩|⟨-,h9,-⟩|⟨-,h9,-⟩|⟨-,h9,-⟩|⟨-,h9,-⟩|⟨-,h9,-⟩|⟨-,h9,-⟩|⟨-,h9,-⟩|⟨-,h9,-⟩|⟨-,h9,-⟩<;>exact ⟨fs.toNat,by omega,by rw [h9];decide⟩
  rw [hn] at hu
  obtain ⟨u0,u1,u3,u4,u5,u6,u8⟩:=vP (List.all_eq_true.1 qx n hmem) hu
  clear hu hmem hk
  simp only [ruleL,List.mem_cons,Prod.mk.injEq,List.not_mem_nil,or_false] at hm
  rcases hm with ⟨-,rfl,rfl⟩|⟨-,rfl,rfl⟩|⟨-,rfl,rfl⟩|⟨-,rfl,rfl⟩|⟨-,rfl,rfl⟩|⟨-,rfl,rfl⟩|⟨-,rfl,rfl⟩|⟨-,rfl,rfl⟩|⟨-,rfl,rfl⟩|⟨-,rfl,rfl⟩|⟨-,rfl,rfl⟩|⟨-,rfl,rfl⟩|⟨-,rfl,rfl⟩|⟨-,rfl,rfl⟩|⟨-,rfl,rfl⟩|⟨-,rfl,rfl⟩|⟨-,rfl,rfl⟩|⟨-,rfl,rfl⟩|⟨-,rfl,rfl⟩|⟨-,rfl,rfl⟩|⟨-,rfl,rfl⟩|⟨-,rfl,rfl⟩|⟨-,rfl,rfl⟩|⟨-,rfl,rfl⟩
  all_goals
   have hn':=congrArg Int.toNat hn
   rw [Int.toNat_natCast] at hn'
   subst hn'
   try simp only [rule1B,rule2B,rule3B,rule4B,rule5B,rule6B,objectB,targetB,grantB,setupB,Bool.and_eq_true] at hb
  all_goals first
   | (have hA:=jY hb;exact ⟨cv u0,cv u1,hA.1,hA.2.1,hA.2.2.1,hA.2.2.2,j6 hr u8⟩)
   | (have hA:=jY hb.2;exact ⟨qa hb.1,cv u1,hA.1,hA.2.1,hA.2.2.1,hA.2.2.2,j6 hr u8⟩)
   | (have hT:=iO hb.1.2;exact ⟨cv u0,cv u1,kM hb.1.1.1,cv u5,dz u6,hT,kD hr hT hb.2⟩)
   | (have hT:=iO hb.1.1.1.2;exact ⟨cv u0,cv u1,cv u3,cv u5,dz u6,hT,kD hr hT hb.1.1.2⟩)
   | exact ⟨by first|exact cv u0|exact qa hb.1|exact qa hb,by first|exact cv u1|exact xD hb|exact xD hb.1.1,by first|exact cv u3|exact xo hb.1,by first|exact cv u5|exact eE hb.2|exact xo hb.1|exact eE hb.1.2,dz u6,by first|exact A8 hr u4|exact iO hb.2,j6 hr u8⟩
   | skip
  unfold labelB at hb
  cases hN:isName a.text with
  | false=>simp [hN] at hb
  | true =>
   simp only [hN,Bool.not_true,cond_false,Bool.or_eq_true,Bool.and_eq_true,objectB,targetB] at hb
   refine ⟨?_,?_,cv u3,xo hN,dz u6,A8 hr u4,j6 hr u8⟩
   · rcases hb with hb|hb
     · exact qa hb.1
     · exact cv hb.2
   · rcases hb with hb|hb
     · exact cv hb.2
     · exact xD hb.1
theorem cP {a:Xa} (hr:a.Rng) (h:rightB a=true):a.Fit:=by
 simp only [rightB,Bool.and_eq_true] at h
 obtain ⟨⟨⟨⟨⟨h1,h2⟩,h3⟩,h4⟩,h5⟩,h6⟩:=h
 have hB:=jW hr h6
 have hp:a.prev.size≤500:=by
  unfold placedB at h2
  cases hs:decide (a.seq=0) with
  | true=>simp only [hs,cond_true,Bool.and_eq_true] at h2;exact cv h2.2
  | false=>simp only [hs,cond_false,Bool.and_eq_true] at h2;exact qa h2.2
 have:=jm h1
 have:=hB.object
 have:=hB.target
 have:=hB.group
 have:=hB.text
 exact ⟨by omega,by omega,by omega,by omega,by omega,by omega,hB.body.fit,hB.to.size,fun w hw=>(hB.wraps.each w hw).fit,hB.wraps.size,hr.ints,hr.wints⟩
theorem eH (s:Xj) (xs:List (List Value)) (hb:s.n*16≤140737488351232) (h1:∀ cs∈xs,cs.all (·.oneCell')=true):Mk Tryz.prog 48 #[s.v] (fun w=>Xe w 1 s xs) (CloneAt 1 xs):=by
 refine cC Tryz.func48 Tryz.ntmps48 fun av bor w0=>?_
 refine aH (p:=s.n=xs.length∧(∀ r∈xs,r.length=1)∧(s.p.isNone=true→xs=[])) (fun w h=>⟨h.len,fun r hr=>?_,h.none_nil⟩) fun ⟨hl,hr1,hnil⟩=>?_
 · obtain ⟨i,hi⟩:=List.mem_iff_getElem?.1 hr
   exact (h.row i r hi).1
 repeat' (first|refine ir ?_|refine ka fun _=>?_|refine gs ?_|refine gs1 fun _=>?_|(refine gp ?_ ?_<;>intro hx_ this)|fail)
 · refine ab (ai rfl rfl) ⟨⟨none,0,0⟩,rfl,?_,fun w _=>?_⟩
   · rw [hnil hx_];rfl
   · rw [hnil hx_];exact aJ w 1
 refine aC (size:=1) (z:=.string ⟨#[]⟩) (news:=xs.flatten) (q:=s.n) rfl rfl rfl rfl (fun _=>At.here _) (fun w G=>eL G.keep.now h1) ?_ ?_ rfl ?_ rfl ?_
 · omega
 · simp only [maxLen];omega
 · rfl
 intro A c
 repeat' (first|refine gs ?_|refine gs1 fun _=>?_|fail)
 refine ab (ai rfl rfl) ⟨⟨A,0+s.n,c⟩,rfl,?_,fun w h=>?_⟩
 · show 0+s.n=xs.length
   omega
 · exact aV (h.2 _ ap) aa hr1
theorem ju (s:Xj) (xs:List (List Value)) (hb:s.n*64≤140737488351232) (h1:∀ cs∈xs,cs.all (·.oneCell')=true):Mk Tryz.prog 56 #[s.v] (fun w=>Xe w 5 s xs) (CloneAt 5 xs):=by
 refine cC Tryz.func56 Tryz.ntmps56 fun av bor w0=>?_
 refine aH (p:=s.n=xs.length∧(∀ r∈xs,r.length=5)∧(s.p.isNone=true→xs=[])) (fun w h=>⟨h.len,fun r hr=>?_,h.none_nil⟩) fun ⟨hl,hr1,hnil⟩=>?_
 · obtain ⟨i,hi⟩:=List.mem_iff_getElem?.1 hr
   exact (h.row i r hi).1
 repeat' (first|refine ir ?_|refine ka fun _=>?_|refine gs ?_|refine gs1 fun _=>?_|(refine gp ?_ ?_<;>intro hx_ this)|fail)
 · refine ab (ai rfl rfl) ⟨⟨none,0,0⟩,rfl,?_,fun w _=>?_⟩
   · rw [hnil hx_];rfl
   · rw [hnil hx_];exact aJ w 5
 refine aC (size:=5) (news:=xs.flatten) (q:=s.n) rfl rfl rfl rfl (fun _=>At.here _) (fun w G=>eL G.keep.now h1) ?_ ?_ rfl ?_ rfl ?_
 · omega
 · simp only [maxLen];omega
 · rfl
 intro A c
 repeat' (first|refine gs ?_|refine gs1 fun _=>?_|fail)
 refine ab (ai rfl rfl) ⟨⟨A,0+s.n,c⟩,rfl,?_,fun w h=>?_⟩
 · show 0+s.n=xs.length
   omega
 · exact aV (h.2 _ ap) aa hr1
set_option maxRecDepth 20000 in
theorem eD (a:Xa):Pu Tryz.prog 23 #[itemV 0 a] (Xa.at_ · a) (.bool (rightB a)):=by
 refine ar Tryz.func23 Tryz.ntmps23 fun av bor w0=>?_
 repeat' (first|refine bp ?_|refine bo ?_|refine ag (hc:=cM a) ?_|refine ag (hc:=pM) ?_|refine gs ?_|refine gs1 fun _=>?_|(refine aM ?_)|(refine di (itemCells 0 Xa.zero) (h:=?_))|(refine aB (vs:=a.cells) (hv:=rfl) ?_)|(refine gp ?_ ?_<;>intro hx_ this)|fail)
 all_goals (apply ab;apply ai;rfl;rfl;rw [hx_])
def bytesV (a:Xa):ByteArray:=bif rightB a then numV 0++actBytes a else ⟨#[]⟩
theorem fb {a:Xa} (hr:a.Rng):(actBytes a).size≤300000000020:=by
 have n7:=aw a.e
 have n8:=aw a.s
 unfold actBytes
 cases seqB (actCore a) ⟨#[]⟩ with
 | true=>simp [ByteArray.size]
 | false =>
  have hc:(actCore a).size≤300000000000:=by
   unfold actCore
   cases hrB:rightB a with
   | true=>exact fS (cP hr hrB)
   | false=>simp [ByteArray.size]
  simp only [cond_false,ByteArray.size_append]
  omega
theorem qg {a:Xa} (hr:a.Rng):(bytesV a).size≤300000000030:=by
 have h1:=aw 0
 have h2:=fb hr
 unfold bytesV
 cases rightB a with
 | true=>simp only [cond_true,ByteArray.size_append];omega
 | false=>simp [ByteArray.size]
set_option maxRecDepth 20000 in
theorem nX (a:Xa) (hr:a.Rng):Pu Tryz.prog 55 #[itemV 0 a] (Xa.at_ · a) (.string (bytesV a)):=by
 cases hrB:rightB a with
 | false =>
  have hrN:(!rightB a)=true:=by rw [hrB];rfl
  refine ar Tryz.func55 Tryz.ntmps55 fun av bor w0=>?_
  repeat' (first|refine ag (hc:=eD a) ?_|refine gs ?_|refine gs1 fun _=>?_|(refine gp ?_ ?_<;>intro hx_ this)|fail)
  apply ab;apply ai;rfl;rfl
  simp only [bytesV,hrB,cond_false]
 | true =>
 have hrN:(!rightB a)=false:=by rw [hrB];rfl
 refine ar Tryz.func55 Tryz.ntmps55 fun av bor w0=>?_
 have hab:=jZ a (cP hr) ⟨hr.ints.2.2.2.2.2.2.2.1,hr.ints.2.2.2.2.2.2.2.2⟩
 have hsz:=fb hr
 repeat' (first|refine ag (hc:=eD a) ?_|refine gs ?_|refine gs1 fun _=>?_|(refine gp ?_ ?_<;>intro hx_ this)|fail)
 rename_i bi bb bs
 have hS:(⟨#[]⟩:ByteArray)++numsV [0]=numV 0:=by
  show ByteArray.empty++(numV 0++ByteArray.empty)=numV 0
  rw [ByteArray.append_empty,ByteArray.empty_append]
 have hns:(⟨#[]⟩:ByteArray).size+(numsV [0]).size≤1099511627776:=by
  rw [←ByteArray.size_append,hS]
  have:=aw 0
  omega
 refine aW ?_
 refine ff 5 1 ?_
 refine bX (l:=bld bb none 0 ⟨#[]⟩++[cel bi 45 (itemCells 0 a)]) (List.Perm.swap _ _ _) ?_
 refine aZ (pre:=bld bb none 0 ⟨#[]⟩) (fr:=[cel bi 45 (itemCells 0 a)]) (hc:=dB bb none 0 ⟨#[]⟩ ⟨some ⟨bs,0,none⟩,1,1⟩ [0] (by simp) hns) (hX:=fun w h=>aR (xs:=[[.int .i64 0]]) h.2 rfl (by decide) (by simp)) (h:=?_)
 rintro v R X' ⟨A',c',rfl,rfl⟩
 refine bS (X':=(Xa.at_ · a)) (fun w h=>h.1.1) ?_
 have hn0:=aw 0
 rw [hS]
 generalize hs1:numV 0=s1 at *
 unfold bld
 repeat' (first|refine bp ?_|refine gs ?_|refine gs1 fun _=>?_|(refine gp ?_ ?_<;>intro hx_ this)|fail)
 (refine ao ⟨[0,2],[(1,⟨[],[(3,⟨[],[(4,⟨[],[(5,⟨[6],[(7,⟨[],[]⟩)]⟩)]⟩)]⟩)]⟩),(3,⟨[],[(1,⟨[],[(4,⟨[],[(5,⟨[6],[(7,⟨[],[]⟩)]⟩)]⟩)]⟩),(4,⟨[],[(1,⟨[],[(5,⟨[6],[(7,⟨[],[]⟩)]⟩)]⟩)]⟩)]⟩)]⟩ [] (fun _=>True) (h:=?_))
 all_goals repeat' (first|refine ag (hc:=hab) ?_|refine gd ?_|refine ay ?_ (h':=?_)|exact az|(refine aB (vs:=a.cells) (hv:=rfl) ?_)|(refine fU ?_;refine aC (size:=1) (z:=.int .u8 0) rfl rfl rfl rfl (fun _=>At.there _ (At.here _)) (fun w G=>gM aa) aa (by simp only [maxLen];omega) rfl ?_ rfl ?_;(first|with_reducible rfl|with_reducible assumption|with_reducible exact Bool.not_false|with_reducible exact Bool.not_true);intro A1 c1)|refine gs1 fun _=>?_|(refine gq ?_ ?_<;>intro hx_ this)|fail)
 all_goals (repeat' (first|refine gs ?_|refine gs1 fun _=>?_|(refine gp ?_ ?_<;>intro hx_ this)|fail))
 all_goals (
  rw [←bU,←cY]
  refine dR (hm:=List.mem_cons_of_mem _ ap) ?_
  repeat' (first|refine gs ?_|refine gs1 fun _=>?_|(refine gp ?_ ?_<;>intro hx_ this)|fail)
  apply ab;apply ai;rfl;rfl
  simp only [bytesV,hrB,cond_true,bM,hs1])
def digV (a:Xa):ByteArray:=bif seqB (bytesV a) ⟨#[]⟩ then ⟨#[]⟩ else shaV (bytesV a)
theorem fq (a:Xa) (hr:a.Rng):Pu Tryz.prog 19 #[itemV 0 a] (fun w=>Xa.at_ w a∧Xf w) (.string (digV a)):=by
 refine ar Tryz.func19 Tryz.ntmps19 fun av bor w0=>?_
 have hsz:=qg hr
 repeat' (first|refine ag (hc:=nX a hr) ?_|refine ag (hc:=kL _ aa) ?_|refine gs ?_|refine gs1 fun _=>?_|(refine gp ?_ ?_<;>intro hx_ this)|fail)
 all_goals (apply ab;apply ai;rfl;rfl)
 · simp only [digV,hx_,cond_true]
 · simp only [digV,hx_,cond_false]
structure Xa.Sm (a:Xa):Prop where
 to:a.to.n*16≤140737488351232
 wraps:a.wraps.n*64≤140737488351232
 target:a.target.size≤maxLen
def Xa.re (a:Xa) (s1 s2:Xj):Xa:={ a with to:=s1,wraps:=s2 }
theorem ew {a:Xa} {s1 s2:Xj} (h1:s1.n=a.to.n) (h2:s2.n=a.wraps.n):rightB (a.re s1 s2)=rightB a:=by
 obtain ⟨au,sq,pv,kd,tm,ob,tg,sc,gr,⟨p,n,c⟩,tx,bd,ep,⟨p',n',c'⟩,nn,mm,ee,ss,tl,wl⟩:=a
 obtain ⟨q,m,d⟩:=s1
 obtain ⟨q',m',d'⟩:=s2
 simp only at h1 h2
 subst h1
 subst h2
 simp only [rightB,ruleB,ruleL,usedV,audienceB,rule1B,rule2B,rule3B,rule4B,rule5B,rule6B,objectB,targetB,grantB,labelB,homeB,setupB,wrappedB,placedB,Xa.re]
 rfl
theorem gB {a:Xa} {s1 s2:Xj} (h1:s1.n=a.to.n) (h2:s2.n=a.wraps.n):digV (a.re s1 s2)=digV a:=by
 have hr:=ew h1 h2
 have hc:coreV (a.re s1 s2)=coreV a:=rfl
 have he:(a.re s1 s2).e=a.e:=rfl
 have hs:(a.re s1 s2).s=a.s:=rfl
 simp only [digV,bytesV,actBytes,actCore,hr,hc,he,hs]
def OfActAt (a:Xa) (u:Value) (X:World→Prop):Prop:=∃ a':Xa,u=itemV 0 a'∧digV a'=digV a∧a'.Rng∧∀ w,X w→a'.at_ w
set_option maxRecDepth 20000 in
theorem iI (a:Xa) (hr:a.Rng) (hs:a.Sm):Mk Tryz.prog 20 #[a.v] (Xa.at_ · a) (OfActAt a):=by
 refine cC Tryz.func20 Tryz.ntmps20 fun av bor w0=>?_
 repeat' (first|refine gs ?_|refine gs1 fun _=>?_|fail)
 refine bm (hc:=eH a.to (strs a.toL) hs.to (fun cs hcs=>by simp only [strs,List.mem_map] at hcs;obtain ⟨x,_,rfl⟩:=hcs;rfl)) fun v1 X1 h1=>?_
 obtain ⟨s1,rfl,hn1,hw1⟩:=h1
 repeat' (first|refine gs ?_|refine gs1 fun _=>?_|fail)
 refine bm (hc:=ju a.wraps (a.wrapsL.map Xu.cells) hs.wraps (fun cs hcs=>by simp only [List.mem_map] at hcs;obtain ⟨x,_,rfl⟩:=hcs;rfl)) (hX:=fun w h=>h.1.2) fun v2 X2 h2=>?_
 obtain ⟨s2,rfl,hn2,hw2⟩:=h2
 repeat' (first|refine gs ?_|refine gs1 fun _=>?_|(refine aM ?_)|fail)
 have e1:s1.n=a.to.n:=by rw [hn1,hr.to_len];simp [strs]
 have e2:s2.n=a.wraps.n:=by rw [hn2,hr.wraps_len];simp
 apply ab;refine bx rfl rfl aL ?_
 · rfl
 refine ⟨a.re s1 s2,rfl,gB e1 e2,⟨hr.ints,hr.wints,?_,?_⟩,fun w h=>⟨?_,?_⟩⟩
 · rw [show (a.re s1 s2).to=s1 from rfl,e1,hr.to_len];rfl
 · rw [show (a.re s1 s2).wraps=s2 from rfl,e2,hr.wraps_len];rfl
 · exact hw1 w h.1.1.2
 · exact hw2 w h.1.2
structure Xd where
 id:ByteArray
 acts:Xj
 keys:Xj
 prev:ByteArray
 gen:Int
 fork:Bool
 actsL:List Xa
def Xd.cells (c:Xd):List Value:=[.string c.id,c.acts.v,c.keys.v,.string c.prev,.int .i64 c.gen,.bool c.fork]
def Xd.v (c:Xd):Value:=.agg c.cells.toArray
def Xd.zero:Xd:=⟨⟨#[]⟩,⟨none,0,0⟩,⟨none,0,0⟩,⟨#[]⟩,0,false,[]⟩
def Acts (w:World) (s:Xj) (l:List Xa):Prop:=Xe w 20 s (l.map Xa.cells)∧∀ a∈l,a.at_ w
def Xd.at_ (w:World) (c:Xd):Prop:=Acts w c.acts c.actsL
structure Xt (l:List Xa):Prop where
 rng:∀ a∈l,a.Rng
 sm:∀ a∈l,a.Sm
theorem Acts.len_ {w:World} {s:Xj} {l:List Xa} (h:Acts w s l):s.n=l.length:=by have:=Xe.len h.1;simpa using this
theorem Acts.max_ {w:World} {s:Xj} {l:List Xa} (h:Acts w s l):s.n≤maxLen:=Nat.le_trans (Xe.cap h.1) (Xe.max h.1)
theorem Acts.some_ {w:World} {s:Xj} {l:List Xa} (h:Acts w s l) (hl:0<l.length):s.p.isSome=true:=by
 have hx:l[0]?=some l[0]:=List.getElem?_eq_getElem hl
 exact (Xe.row h.1 0 l[0].cells (by simp [hx])).2.1
theorem Acts.get {w:World} {s:Xj} {l:List Xa} (h:Acts w s l) {i:Nat} {x:Xa} (hx:l[i]?=some x):x.cells.length=20∧s.p.isSome=true∧∀ j u,x.cells[j]?=some u→CellAt w s.p (i*20+j) u :=
 Xe.row h.1 i x.cells (by simp [hx])
def idxV (l:List Xa) (d:ByteArray):Option Nat:=l.findIdx? fun a=>seqB (digV a) d
def idxP (o:Option Nat):Value:=.tuple #[.int .i64 ((o.getD 0:Nat):Int),.bool o.isSome]
def badI (l:List Xa) (d:ByteArray) (k:Nat):Bool :=
 match l[k]? with
 | some x=>seqB (digV x) d
 | none=>false
theorem iU {l:List Xa} {d:ByteArray} {k:Nat} {x:Xa} (h:l[k]?=some x):badI l d k=seqB (digV x) d:=by simp only [badI,h]
theorem ro {l:List Xa} {d:ByteArray} (i:Ed l.length (badI l d)) (hlt:i.k<l.length) (hb:badI l d i.k=true):idxV l d=some i.k:=by
 rw [idxV,List.findIdx?_eq_some_iff_getElem]
 refine ⟨hlt,?_,fun j hj=>?_⟩
 · rw [iU (List.getElem?_eq_getElem hlt)] at hb;exact hb
 · have:=i.ok j hj
   rw [iU (List.getElem?_eq_getElem aa)] at this
   simp [this]
theorem uH {l:List Xa} {d:ByteArray} (i:Ed l.length (badI l d)) (h:¬ i.k<l.length):idxV l d=none:=by
 rw [idxV,List.findIdx?_eq_none_iff]
 intro x hx
 obtain ⟨k,hk,rfl⟩:=List.getElem_of_mem hx
 have:=i.ok k aa
 rwa [iU (List.getElem?_eq_getElem hk)] at this
theorem lp (c:Xd) (hc:Xt c.actsL) (d:ByteArray):Pu Tryz.prog 104 #[c.v,.string d] (fun w=>c.at_ w∧Xf w) (idxP (idxV c.actsL d)):=by
 refine ar Tryz.func104 Tryz.ntmps104 fun av bor w0=>?_
 refine aH (p:=c.acts.n=c.actsL.length∧c.acts.n≤maxLen∧(0<c.actsL.length→c.acts.p.isSome=true)) (fun w h=>⟨h.1.len_,h.1.max_,h.1.some_⟩) fun ⟨hl,hm,hp⟩=>?_
 simp only [maxLen] at hm
 repeat' (first|refine gs ?_|refine gs1 fun _=>?_|fail)
 rename_i b
 refine am (ι:=Ed c.actsL.length (badI c.actsL d)) (fun i=>⟨[(1,.string d),(9,c.acts.v),(10,.int .i64 c.acts.n),(11,.int .i64 i.k)],[],fun w=>c.at_ w∧Xf w⟩) (fun i=>c.actsL.length-i.k) (Ed.zero _ _) (ae al (List.Sublist.cons _ (aj _)) fun _ h=>h) fun i=>?_
 have hik:=i.hk
 repeat' (first|refine gs ?_|refine gs1 fun _=>?_|(refine gp ?_ ?_<;>intro hx_ this)|fail)
 · have hlt:i.k<c.actsL.length:=by omega
   have hp':=hp aa
   obtain ⟨x,hx⟩:∃ x,c.actsL[i.k]?=some x:=⟨_,List.getElem?_eq_getElem hlt⟩
   have hxm:x∈c.actsL:=List.mem_of_getElem? hx
   repeat' (first|refine gs ?_|refine gs1 fun _=>?_|(refine aE (q:=i.k*20) ?_)|(refine aS (cs:=x.cells) (hF:=fun w h=>Acts.get h.1 hx) ?_)|fail)
   refine bm (hc:=iI x (hc.rng x hxm) (hc.sm x hxm)) (hX:=fun w h=>h.1.2 x hxm) fun v1 X1 h1=>?_
   obtain ⟨x',rfl,hdig,hr',hat⟩:=h1
   refine ag (hc:=fq x' hr') (hX:=fun w h=>⟨hat w h.2,h.1.2⟩) ?_
   rw [hdig]
   repeat' (first|refine gs ?_|refine gs1 fun _=>?_|(refine gp ?_ ?_<;>intro hx_ this)|fail)
   · apply ab;apply dy;rfl;rfl;rfl
     rw [ro i hlt (by rw [iU hx];assumption)]
     rfl
   · exact ⟨i.next hlt (by rw [iU hx];assumption),(by show c.actsL.length-(i.k+1)<c.actsL.length-i.k;omega),ae al (List.nil_sublist _) fun _ h=>h.1⟩
 · apply ab;apply dy;rfl;rfl;rfl
   rw [uH i (by omega)]
   rfl
def Chains (w:World) (s:Xj) (l:List Xd):Prop:=Xe w 6 s (l.map Xd.cells)∧∀ c∈l,c.at_ w
theorem Chains.len_ {w:World} {s:Xj} {l:List Xd} (h:Chains w s l):s.n=l.length:=by have:=Xe.len h.1;simpa using this
theorem Chains.max_ {w:World} {s:Xj} {l:List Xd} (h:Chains w s l):s.n≤maxLen:=Nat.le_trans (Xe.cap h.1) (Xe.max h.1)
theorem Chains.some_ {w:World} {s:Xj} {l:List Xd} (h:Chains w s l) (hl:0<l.length):s.p.isSome=true:=by
 have hx:l[0]?=some l[0]:=List.getElem?_eq_getElem hl
 exact (Xe.row h.1 0 l[0].cells (by simp [hx])).2.1
theorem Chains.get {w:World} {s:Xj} {l:List Xd} (h:Chains w s l) {i:Nat} {x:Xd} (hx:l[i]?=some x):x.cells.length=6∧s.p.isSome=true∧∀ j u,x.cells[j]?=some u→CellAt w s.p (i*6+j) u :=
 Xe.row h.1 i x.cells (by simp [hx])
def findC (l:List Xd) (id:ByteArray):Option Xd:=l.find? fun c=>seqB c.id id
def findP (o:Option Xd):Value:=.tuple #[(o.getD Xd.zero).v,.bool o.isSome]
def badF (l:List Xd) (d:ByteArray) (k:Nat):Bool :=
 match l[k]? with
 | some x=>seqB x.id d
 | none=>false
theorem ov {l:List Xd} {d:ByteArray} {k:Nat} {x:Xd} (h:l[k]?=some x):badF l d k=seqB x.id d:=by simp only [badF,h]
theorem sO {α:Type} {p:α→Bool}:∀ (l:List α) (k:Nat) (x:α),l[k]?=some x→p x=true→(∀ j y,j<k→l[j]?=some y→p y=false)→l.find? p=some x
 | [],k,x,h,_,_=>by simp at h
 | a::l,0,x,h,hp,_=>by simp at h;subst h;simp [hp]
 | a::l,k+1,x,h,hp,hb=>by
  have h0:=hb 0 a aa rfl
  simp only [List.find?_cons,h0]
  exact sO l k x (by simpa using h) hp fun j y hj hy=>hb (j+1) y aa (by simpa using hy)
theorem pW {l:List Xd} {d:ByteArray} (i:Ed l.length (badF l d)) {x:Xd} (hx:l[i.k]?=some x) (hb:seqB x.id d=true):findC l d=some x :=
 sO l i.k x hx hb fun j y hj hy=>by have:=i.ok j hj;rwa [ov hy] at this
theorem rv {l:List Xd} {d:ByteArray} (i:Ed l.length (badF l d)) (h:¬ i.k<l.length):findC l d=none:=by
 rw [findC,List.find?_eq_none]
 intro x hx
 obtain ⟨k,hk,rfl⟩:=List.getElem_of_mem hx
 have:=i.ok k aa
 rw [ov (List.getElem?_eq_getElem hk)] at this
 simp [this]
theorem bC {P:Program} {fn:Func} {N t u ty n:Nat} {s:St} {b T:Nat} {cs:List Value} {x:Value} [hI:Xs P ty n] (hr:fn.results=#[.cell t ty,.tmp u]) (h:Sy.look s.env t=some (.pointer (some ⟨b,0,none⟩))) (h':Sy.look s.env u=some x) (hm:cel b T cs∈s.loc) (hn:cs.length=n) :
  Res1 P fn N s (.tuple #[.agg cs.toArray,x]):=fun av bor w0 a w ok=>by
 obtain ⟨D,h1,h2,h3⟩:=ck hI.out
 have ht:=ok.env t _ h
 have hu:=ok.env u _ h'
 have:(loadVar ty ⟨b,0,none⟩).run P w=.ok (.agg cs.toArray) w:=by
  cases D<;>simp at h2
  · exact run_loadVar_row w b T ty cs.toArray (0,0) _ (dX ok hm) h1 rfl (by rw [h3];simp [hn])
  · exact run_loadVar_row w b T ty cs.toArray (0,0) _ (dX ok hm) h1 rfl (by rw [h3];simp [hn])
 simp [results,hr,ht,hu,asAddr,this]
theorem zx (s:Xj) (l:List Xd) (id:ByteArray):Pu Tryz.prog 108 #[s.v,.string id] (fun w=>Chains w s l) (findP (findC l id)):=by
 refine ar Tryz.func108 Tryz.ntmps108 fun av bor w0=>?_
 refine aH (p:=s.n=l.length∧s.n≤maxLen∧(0<l.length→s.p.isSome=true)) (fun w h=>⟨h.len_,h.max_,h.some_⟩) fun ⟨hl,hm,hp⟩=>?_
 simp only [maxLen] at hm
 repeat' (first|refine gs ?_|refine gs1 fun _=>?_|fail)
 rename_i b
 refine am (ι:=Ed l.length (badF l id)) (fun i=>⟨[(1,.string id),(4,.pointer (some ⟨b,0,none⟩)),(8,s.v),(9,.int .i64 s.n),(10,.int .i64 i.k)],[cel b 67 Xd.zero.cells],fun w=>Chains w s l⟩) (fun i=>l.length-i.k) (Ed.zero _ _) (ae al (aj _) fun _ h=>h) fun i=>?_
 have hik:=i.hk
 repeat' (first|refine gs ?_|refine gs1 fun _=>?_|(refine gp ?_ ?_<;>intro hx_ this)|fail)
 · have hlt:i.k<l.length:=by omega
   have hp':=hp aa
   obtain ⟨x,hx⟩:∃ x,l[i.k]?=some x:=⟨_,List.getElem?_eq_getElem hlt⟩
   repeat' (first|refine gs ?_|refine gs1 fun _=>?_|(refine aE (q:=i.k*6) ?_)|(refine aS (cs:=x.cells) (hF:=fun w h=>Chains.get h hx) ?_)|(refine gp ?_ ?_<;>intro hx_ this)|fail)
   · apply ab;refine bC rfl rfl rfl aL ?_
     · rfl
     rw [pW i hx (by assumption)]
     rfl
   · exact ⟨i.next hlt (by rw [ov hx];assumption),(by show l.length-(i.k+1)<l.length-i.k;omega),ae al (List.Sublist.cons _ (aj _)) fun _ h=>h⟩
 · repeat' (first|refine gs ?_|refine gs1 fun _=>?_|(refine aM ?_)|fail)
   apply ab;refine bC rfl rfl rfl aL ?_
   · rfl
   rw [rv i (by omega)]
   rfl
end Go.Proofs.YtggionfjlgfihaaGreatDoor
namespace Go.Proofs.YtggionfjlgfihaaGreatDoor
open Go Go.Proofs Sy Go.Shelf Go.Maps Go.Sort
theorem sortS_c:SortC Tryz.prog 30 encStr (fun ss=>ss.mergeSort leB) where
 some_:=fun blk off cap ss w h1 h2 h3=>AnyM.slices_Sort_string Tryz.sortS blk off cap ss w h1 h2 h3
 none_:=fun p cap w=>AnyM.slices_Sort_string_none Tryz.sortS p cap w
 len:=fun ss=>List.length_mergeSort ss
theorem sortsS (m:Nat):AnyZ.SortsIn Tryz.prog Tryz.sortedS_ren Fence.wide m :=
  ⟨fun blk off cap ss W hH hblk hsz=>callsIn_wide.2 (AnyM.slices_Sort_string Tryz.sortS blk off cap ss W hH hblk hsz),
   fun p cap W=>callsIn_wide.2 (AnyM.slices_Sort_string_none Tryz.sortS p cap W)⟩
end Go.Proofs.YtggionfjlgfihaaGreatDoor
namespace Go.Proofs.YtggionfjlgfihaaGreatDoor
open Go Go.Proofs Sy
instance:TyMap Tryz.prog 275 4 (keyD ByteArray):=⟨ac⟩
def setM (ks:List ByteArray):List (ByteArray×Value):=ks.map fun k=>(k,.bool true)
def sput:List ByteArray→ByteArray→List ByteArray
 | [],k=>[k]
 | k'::r,k=>bif Xm.eqb k k' then k::r else k'::sput r k
def sdel:List ByteArray→ByteArray→List ByteArray
 | [],_=>[]
 | k'::r,k=>bif Xm.eqb k k' then r else k'::sdel r k
theorem pD:∀ (ks:List ByteArray) (k:ByteArray),mput (setM ks) k (.bool true)=setM (sput ks k)
 | [],k=>rfl
 | k'::r,k=>by
  have ih:=pD r k
  simp only [setM] at ih
  simp only [setM,List.map_cons,mput,sput]
  cases Xm.eqb k k' with
  | true=>rfl
  | false=>simp only [cond_false,ih,List.map_cons]
theorem pG:∀ (ks:List ByteArray) (k:ByteArray),mdel (setM ks) k=setM (sdel ks k)
 | [],k=>rfl
 | k'::r,k=>by
  have ih:=pG r k
  simp only [setM] at ih
  simp only [setM,List.map_cons,mdel,sdel]
  cases Xm.eqb k k' with
  | true=>rfl
  | false=>simp only [cond_false,ih,List.map_cons]
theorem ua (q:Nat) (ks:List ByteArray) (k:ByteArray):Ct Tryz.prog 229 #[.map (some q),.string k] [mapr q (setM ks)] (fun _=>True) fun u R _=>u=.tuple #[]∧R=[mapr q (setM (sput ks k))]:=by
 refine bT Tryz.func229 Tryz.ntmps229 fun av bor w0=>?_
 repeat' (first|refine gs ?_|(refine fe (κ:=ByteArray) (kk:=k) (l:=setM ks) (hA:=At.here _) ?_)|fail)
 rw [pD]
 repeat' (first|refine gs ?_|fail)
 exact aI (aA rfl) ⟨rfl,rfl⟩
theorem mn (q:Nat) (ks:List ByteArray) (k:ByteArray):Ct Tryz.prog 230 #[.map (some q),.string k] [mapr q (setM ks)] (fun _=>True) fun u R _=>u=.tuple #[]∧R=[mapr q (setM (sdel ks k))]:=by
 refine bT Tryz.func230 Tryz.ntmps230 fun av bor w0=>?_
 repeat' (first|refine gs ?_|(refine tL (κ:=ByteArray) (kk:=k) (l:=setM ks) (hA:=At.here _) ?_)|fail)
 rw [pG]
 repeat' (first|refine gs ?_|fail)
 exact aI (aA rfl) ⟨rfl,rfl⟩
theorem tN (l:List ByteArray):l.map encB=(strs l).flatten:=by
 induction l with
 | nil=>rfl
 | cons a l ih =>
  simp only [strs,List.map_cons,List.flatten_cons] at ih ⊢
  rw [ih]
  rfl
theorem wc (l:List ByteArray):∀ r∈strs l,r.length=1:=by
 intro r hr
 simp only [strs,List.mem_map] at hr
 obtain ⟨x,_,rfl⟩:=hr
 rfl
theorem eA {w:World} {e n c:Nat} {A:Option Addr} {l:List ByteArray} (h:ORow w e 1 (.slice A n c) n (l.map encB)) (hn:n=l.length):Strs w ⟨A,n,c⟩ l:=by
 rw [tN] at h
 exact aV h (by simpa [strs] using hn) (wc l)
structure TieS where
 f:List ByteArray
 a:List ByteArray
 b:List ByteArray
 m:List ByteArray
def setsV (q1 q2 q3 q4:Nat):Value:=.agg #[.map (some q1),.map (some q2),.map (some q3),.map (some q4)]
def setsR (q1 q2 q3 q4:Nat) (t:TieS):List Xk:=[mapr q4 (setM t.m),mapr q3 (setM t.b),mapr q2 (setM t.a),mapr q1 (setM t.f)]
def undoT (t:TieS) (x:Xa):TieS :=
 bif decide (x.kind=7) then { t with f:=sdel t.f x.target } else bif decide (x.kind=8) then { t with a:=sdel t.a x.target } else bif decide (x.kind=10) then { t with b:=sdel t.b x.target } else bif decide (x.kind=11) then { t with m:=sdel t.m x.target } else t
theorem yx (q1 q2 q3 q4:Nat) (t:TieS) (x:Xa):Ct Tryz.prog 231 #[setsV q1 q2 q3 q4,x.v] (setsR q1 q2 q3 q4 t) (fun _=>True) fun u R _=>u=.tuple #[]∧R=setsR q1 q2 q3 q4 (undoT t x):=by
 refine cX (args:=[_,_]) (Post:=fun u R=>u=.tuple #[]∧R=setsR q1 q2 q3 q4 (undoT t x)) _ Tryz.func231 rfl Tryz.ntmps231 rfl fun av bor w0=>?_
 unfold setsR
 repeat' (first|(refine d9 (hc:=mn _ _ _) (hX:=fun _ _=>trivial) ?_)|refine gs ?_|refine gs1 fun _=>?_|(refine gp ?_ ?_<;>intro hx_ this)|fail)
 all_goals (
  refine aI (aA rfl) ⟨_,List.Sublist.cons _ (List.Sublist.cons _ (aj _)),rfl,?_⟩
  simp only [undoT, *,Int.reduceEq,decide_true,decide_false,cond_true,cond_false,Bool.and_true,Bool.true_and,Bool.and_false,Bool.false_and,Bool.not_true,Bool.not_false,Bool.or_true,Bool.true_or,Bool.or_false,Bool.false_or])
def limN (n:Int) (len:Nat):Nat:=(if (len:Int)<(if n<0 then 0 else n) then (len:Int) else (if n<0 then 0 else n)).toNat
theorem iM (n:Int) (len:Nat):limN n len=min n.toNat len:=by
 unfold limN
 split<;>split<;>omega
def stepT (l:List Xa) (i:Nat) (t:TieS) (x:Xa):TieS :=
 bif decide (x.kind=7) then { t with f:=sput t.f x.target } else bif decide (x.kind=8) then { t with a:=sput t.a x.target } else bif decide (x.kind=9) then { t with a:=sdel t.a x.target }
 else bif decide (x.kind=10) then { t with b:=sput t.b x.target,f:=sdel t.f x.target,a:=sdel t.a x.target } else bif decide (x.kind=11) then { t with m:=sput t.m x.target }
 else bif decide (x.kind=6) then (match idxV l x.object with|some j=>bif decide ((j:Int)<(i:Int)) then undoT t (l.getD j Xa.zero) else t|none=>t) else t
def tieF (l:List Xa):Nat→TieS
 | 0=>⟨[],[],[],[]⟩
 | i+1=>stepT l i (tieF l i) (l.getD i Xa.zero)
def tieV (l:List Xa) (n:Int):TieS:=tieF l (limN n l.length)
theorem kg {l:List Xa} {d:ByteArray} {j:Nat} (h:idxV l d=some j):j<l.length:=by
 rw [idxV,List.findIdx?_eq_some_iff_getElem] at h
 exact h.1
theorem Acts.cap_ {w:World} {s:Xj} {l:List Xa} (h:Acts w s l):s.n≤s.c:=Xe.cap h.1
theorem Aq (c:Xd) (hc:Xt c.actsL) (n:Int):Ct Tryz.prog 219 #[c.v,.int .i64 n] [] (fun w=>c.at_ w∧Xf w) fun u R _=>∃ q1 q2 q3 q4,u=setsV q1 q2 q3 q4∧R=setsR q1 q2 q3 q4 (tieV c.actsL n):=by
 refine cX (args:=[_,_]) (Post:=fun u R=>∃ q1 q2 q3 q4,u=setsV q1 q2 q3 q4∧R=setsR q1 q2 q3 q4 (tieV c.actsL n)) _ Tryz.func219 rfl Tryz.ntmps219 rfl fun av bor w0=>?_
 refine aH (p:=c.acts.n=c.actsL.length∧c.acts.n≤maxLen∧(0<c.actsL.length→c.acts.p.isSome=true)∧c.acts.n≤c.acts.c) (fun w h=>⟨h.1.len_,h.1.max_,h.1.some_,h.1.cap_⟩) fun ⟨hl,hm,hp,hcap⟩=>?_
 simp only [maxLen] at hm
 have hlim:=iM n c.acts.n
 have hlN:limN n c.acts.n≤c.acts.n:=by omega
 repeat' (first|refine gs ?_|refine gs1 fun _=>?_|(refine eK ByteArray (h:=fun _=>?_))|(refine aM ?_)|fail)
 refine yC (h0:=by split<;>split<;>omega) (h1:=by split<;>split<;>omega) ?_
 repeat' (first|refine gs ?_|refine gs1 fun _=>?_|fail)
 rename_i b2 b4 q1 q2 q3 q4 b5
 refine am (ι:=Kth (limN n c.acts.n)) (fun i=>⟨[(2,.pointer (some ⟨b2,0,none⟩)),(4,.pointer (some ⟨b4,0,none⟩)),(5,.pointer (some ⟨b5,0,none⟩)),(24,.slice c.acts.p (limN n c.acts.n) c.acts.c),(25,.int .i64 (limN n c.acts.n)),(26,.int .i64 i.k)],
  setsR q1 q2 q3 q4 (tieF c.actsL i.k)++[cel b5 277 (setsV q1 q2 q3 q4).cells.toList,cel b4 277 [.map none,.map none,.map none,.map none],cel b2 67 c.cells],fun w=>c.at_ w∧Xf w⟩) (fun i=>limN n c.acts.n-i.k) ⟨0,Nat.zero_le _⟩
  (yW ⟨rfl,rfl,rfl,rfl,rfl,rfl,trivial⟩ (List.perm_middle (l₁:=setsR q1 q2 q3 q4 ⟨[],[],[],[]⟩) (a:=cel b5 277 (setsV q1 q2 q3 q4).cells.toList) (l₂:=[cel b4 277 [.map none,.map none,.map none,.map none],cel b2 67 c.cells])).symm fun _ h=>h) fun i=>?_
 have hik:=i.hk
 repeat' (first|refine gs ?_|refine gs1 fun _=>?_|(refine gp ?_ ?_<;>intro hx_ this)|fail)
 · have hlt:i.k<limN n c.acts.n:=by omega
   have hltL:i.k<c.actsL.length:=by omega
   have hp':=hp aa
   obtain ⟨x,hx⟩:∃ x,c.actsL[i.k]?=some x:=⟨_,List.getElem?_eq_getElem hltL⟩
   have hstep:tieF c.actsL (i.k+1)=stepT c.actsL i.k (tieF c.actsL i.k) x:=by simp only [tieF,List.getD_eq_getElem?_getD,hx,Option.getD_some]
   generalize ht:tieF c.actsL i.k=t at *
   unfold setsR
   repeat' (first|(refine d9 (hc:=ua _ _ _) (hX:=fun _ _=>trivial) ?_)|(refine d9 (hc:=mn _ _ _) (hX:=fun _ _=>trivial) ?_)|refine gs ?_|refine gs1 fun _=>?_|(refine aE (q:=i.k*20) ?_)|(refine aS (cs:=x.cells) (hF:=fun w h=>Acts.get h.1 hx) ?_)|(refine gp ?_ ?_<;>intro hx_ this)|fail)
   all_goals first
    | exact ⟨(⟨i.k+1,hlt⟩:Kth (limN n c.acts.n)),(by show limN n c.acts.n-(i.k+1)<limN n c.acts.n-i.k;omega),ae al (List.Sublist.cons _ (by
      rw [hstep]
      simp only [stepT,setsR, *,decide_true,decide_false,cond_true,cond_false,Bool.and_true,Bool.true_and,Bool.and_false,Bool.false_and,Bool.not_true,Bool.not_false,Bool.or_true,Bool.true_or,Bool.or_false,Bool.false_or]
      exact aj _)) fun _ h=>h⟩
    | skip
   rcases ho:idxV c.actsL x.object with _|j
   · have hip:Pu Tryz.prog 104 #[c.v,.string x.object] (fun w=>c.at_ w∧Xf w) (.tuple #[.int .i64 0,.bool false]):=by have:=lp c hc x.object;rwa [ho] at this
     repeat' (first|refine ag (hc:=hip) ?_|refine gs ?_|refine gs1 fun _=>?_|(refine gp ?_ ?_<;>intro hx_ this)|fail)
     exact ⟨(⟨i.k+1,hlt⟩:Kth (limN n c.acts.n)),(by show limN n c.acts.n-(i.k+1)<limN n c.acts.n-i.k;omega),ae al (List.Sublist.cons _ (by
       rw [hstep]
       simp only [stepT,setsR, *,decide_true,decide_false,cond_true,cond_false,Bool.and_true,Bool.true_and,Bool.and_false,Bool.false_and,Bool.not_true,Bool.not_false,Bool.or_true,Bool.true_or,Bool.or_false,Bool.false_or]
       exact aj _)) fun _ h=>h⟩
   · have hip:Pu Tryz.prog 104 #[c.v,.string x.object] (fun w=>c.at_ w∧Xf w) (.tuple #[.int .i64 (j:Int),.bool true]):=by have:=lp c hc x.object;rwa [ho] at this
     have hjl:=kg ho
     obtain ⟨y,hy⟩:∃ y,c.actsL[j]?=some y:=⟨_,List.getElem?_eq_getElem hjl⟩
     have hgy:c.actsL.getD j Xa.zero=y:=by simp [hy]
     repeat' (first|refine ag (hc:=hip) ?_|refine gs ?_|refine gs1 fun _=>?_|(refine gp ?_ ?_<;>intro hx_ this)|fail)
     · refine zF (List.Sublist.cons _ (aj _)) ?_
       (refine ao ⟨[1,3],[(0,⟨[],[(2,⟨[4],[(5,⟨[],[(6,⟨[],[]⟩)]⟩)]⟩)]⟩),(2,⟨[4],[(0,⟨[],[(5,⟨[],[(6,⟨[],[]⟩)]⟩)]⟩),(5,⟨[],[(0,⟨[],[(6,⟨[],[]⟩)]⟩)]⟩)]⟩)]⟩ [] (fun _=>True) (h:=?_))
       all_goals repeat' (first|((refine aZ (pre:=setsR q1 q2 q3 q4 t) (fr:=[cel b5 277 (setsV q1 q2 q3 q4).cells.toList,cel b4 277 [.map none,.map none,.map none,.map none],cel b2 67 c.cells]) (hc:=yx q1 q2 q3 q4 t y) (hX:=fun _ _=>trivial) (h:=?_);rintro _ _ X' ⟨rfl,rfl⟩))|refine gd ?_|refine ax (hy:=by first|(apply aG (q:=j*20);rfl;rfl;omega;omega;assumption;omega)) ?_|refine ay ?_ (h':=?_)|exact az|(refine aS (cs:=y.cells) (hF:=fun w h=>Acts.get h.1 hy) ?_)|refine gs1 fun _=>?_|(refine gq ?_ ?_<;>intro hx_ this)|fail)
       all_goals (repeat' (first|refine gs ?_|refine gs1 fun _=>?_|(refine gp ?_ ?_<;>intro hx_ this)|fail))
       all_goals exact ⟨(⟨i.k+1,hlt⟩:Kth (limN n c.acts.n)),(by show limN n c.acts.n-(i.k+1)<limN n c.acts.n-i.k;omega),ae al (by
        rw [hstep]
        simp only [stepT, *,decide_true,decide_false,cond_true,cond_false,Bool.and_true,Bool.true_and,Bool.and_false,Bool.false_and,Bool.not_true,Bool.not_false,Bool.or_true,Bool.true_or,Bool.or_false,Bool.false_or]
        exact aj _) fun _ h=>h.1⟩
     · exact ⟨(⟨i.k+1,hlt⟩:Kth (limN n c.acts.n)),(by show limN n c.acts.n-(i.k+1)<limN n c.acts.n-i.k;omega),ae al (List.Sublist.cons _ (by
        rw [hstep]
        simp only [stepT,setsR, *,decide_true,decide_false,cond_true,cond_false,Bool.and_true,Bool.true_and,Bool.and_false,Bool.false_and,Bool.not_true,Bool.not_false,Bool.or_true,Bool.true_or,Bool.or_false,Bool.false_or]
        exact aj _)) fun _ h=>h⟩
 have hk:i.k=limN n c.acts.n:=by omega
 refine ab (bx rfl rfl aL (by rfl)) ⟨setsR q1 q2 q3 q4 (tieF c.actsL i.k),List.Sublist.cons_cons _ (List.Sublist.cons_cons _ (List.Sublist.cons_cons _ (List.Sublist.cons_cons _ (List.nil_sublist _)))),q1,q2,q3,q4,rfl,?_⟩
 rw [tieV,←hl,hk]
theorem eqbB (a b:ByteArray):Xm.eqb a b=seqB a b:=Bool.eq_iff_iff.2 ((Xm.eqb_iff a b).trans seqB_iff.symm)
structure LBnd (k:Nat) (l:List ByteArray):Prop where
 len:l.length≤k
 size:∀ x∈l,x.size≤maxLen
theorem LBnd.mono {k k':Nat} {l:List ByteArray} (h:LBnd k l) (hk:k≤k'):LBnd k' l:=⟨Nat.le_trans h.len hk,h.size⟩
theorem gb {k:Nat} {x:ByteArray} (hx:x.size≤maxLen):∀ {l:List ByteArray},LBnd k l→LBnd (k+1) (sput l x)
 | [],_=>⟨by simp [sput],by simp [sput,hx]⟩
 | a::r,h=>by
  simp only [sput]
  cases Xm.eqb x a with
  | true=>exact ⟨by have:=h.len;simp at this ⊢;omega,fun y hy=>by rcases List.mem_cons.1 hy with rfl|hy;exact hx;exact h.size y (List.mem_cons_of_mem _ hy)⟩
  | false =>
   cases k with
   | zero=>have:=h.len;simp at this
   | succ k =>
    have ih:=gb (k:=k) hx (l:=r) ⟨by have:=h.len;simp at this;omega,fun y hy=>h.size y (List.mem_cons_of_mem _ hy)⟩
    exact ⟨by have:=ih.len;simp;omega,fun y hy=>by rcases List.mem_cons.1 hy with rfl|hy;exact h.size _ ap;exact ih.size y hy⟩
theorem eu {k:Nat} {x:ByteArray}:∀ {l:List ByteArray},LBnd k l→LBnd k (sdel l x)
 | [],h=>h
 | a::r,h=>by
  simp only [sdel]
  cases Xm.eqb x a with
  | true=>exact (show LBnd k r from ⟨by have:=h.len;simp at this;omega,fun y hy=>h.size y (List.mem_cons_of_mem _ hy)⟩)
  | false =>
   cases k with
   | zero=>have:=h.len;simp at this
   | succ k =>
    have ih:=eu (k:=k) (x:=x) (l:=r) ⟨by have:=h.len;simp at this;omega,fun y hy=>h.size y (List.mem_cons_of_mem _ hy)⟩
    exact ⟨by have:=ih.len;simp;omega,fun y hy=>by rcases List.mem_cons.1 hy with rfl|hy;exact h.size _ ap;exact ih.size y hy⟩
structure TBnd (k:Nat) (t:TieS):Prop where
 f:LBnd k t.f
 a:LBnd k t.a
 b:LBnd k t.b
 m:LBnd k t.m
theorem TBnd.mono {k k':Nat} {t:TieS} (h:TBnd k t) (hk:k≤k'):TBnd k' t:=⟨h.f.mono hk,h.a.mono hk,h.b.mono hk,h.m.mono hk⟩
theorem tD {k:Nat} {t:TieS} (h:TBnd k t) (x:Xa):TBnd k (undoT t x):=by
 unfold undoT
 cases decide (x.kind=7)<;>cases decide (x.kind=8)<;>cases decide (x.kind=10)<;>cases decide (x.kind=11)
 all_goals first
  | exact ⟨eu h.f,h.a,h.b,h.m⟩
  | exact ⟨h.f,eu h.a,h.b,h.m⟩
  | exact ⟨h.f,h.a,eu h.b,h.m⟩
  | exact ⟨h.f,h.a,h.b,eu h.m⟩
  | exact h
theorem tO {k i:Nat} {l:List Xa} {t:TieS} (h:TBnd k t) {x:Xa} (hx:x.target.size≤maxLen):TBnd (k+1) (stepT l i t x):=by
  have h':=h.mono (Nat.le_succ k)
  unfold stepT
  cases decide (x.kind=7)<;>cases decide (x.kind=8)<;>cases decide (x.kind=9)<;>cases decide (x.kind=10)<;>cases decide (x.kind=11)<;>cases decide (x.kind=6)
  all_goals first
    | exact ⟨gb hx h.f,h'.a,h'.b,h'.m⟩
    | exact ⟨h'.f,gb hx h.a,h'.b,h'.m⟩
    | exact ⟨h'.f,eu h'.a,h'.b,h'.m⟩
    | exact ⟨eu h'.f,eu h'.a,gb hx h.b,h'.m⟩
    | exact ⟨h'.f,h'.a,h'.b,gb hx h.m⟩
    | exact h'
    | (simp only [cond_true,cond_false]
       split
       · rename_i j hj
         cases decide ((j:Int)<(i:Int)) with
         | true=>exact tD h' _
         | false=>exact h'
       · exact h')
theorem oz:Xa.zero.target.size≤maxLen:=by decide
theorem oG {l:List Xa} (hs:∀ a∈l,a.Sm):∀ k,TBnd k (tieF l k)
 | 0=>⟨⟨by simp [tieF],by simp [tieF]⟩,⟨by simp [tieF],by simp [tieF]⟩,⟨by simp [tieF],by simp [tieF]⟩,⟨by simp [tieF],by simp [tieF]⟩⟩
 | k+1=>by
  refine tO (oG hs k) ?_
  rcases Nat.lt_or_ge k l.length with h|h
  · rw [List.getD_eq_getElem?_getD,List.getElem?_eq_getElem h]
    exact (hs _ (List.getElem_mem h)).target
  · rw [List.getD_eq_getElem?_getD,List.getElem?_eq_none h]
    exact oz
theorem oF {l:List Xa} (hs:Xt l) (n:Int):TBnd l.length (tieV l n):=(oG hs.sm _).mono (by rw [iM];omega)
def TiesAt (t:TieS) (u:Value) (X:World→Prop):Prop:=∃ s1 s2 s3 s4:Xj,u=.agg #[s1.v,s2.v,s3.v,s4.v]∧∀ w,X w→Strs w s1 (sortB t.f)∧Strs w s2 (sortB t.a)∧Strs w s3 (sortB t.b)∧Strs w s4 (sortB t.m)
theorem fD {w:World} {e n c:Nat} {A:Option Addr} {l:List ByteArray} (h:(orow e 1 (.slice A n c) n ((sortB l).map encB)).F w) (hn:n=l.length):Strs w ⟨A,n,c⟩ (sortB l):=eA h (by rw [gN,hn])
def hasS (l:List ByteArray) (x:ByteArray):Bool:=l.any fun y=>seqB x y
def idxS (l:List ByteArray) (x:ByteArray):Int:=match l.findIdx? (fun y=>seqB x y) with|some k=>(k:Int)|none=>-1
theorem rp {l:List ByteArray} {x:ByteArray} (i:Ed l.length (fun k=>seqB x (l.getD k .empty))) (hlt:i.k<l.length) (hb:seqB x (l.getD i.k .empty)=true):idxS l x=i.k:=by
 have:l.findIdx? (fun y=>seqB x y)=some i.k:=by
  rw [List.findIdx?_eq_some_iff_getElem]
  refine ⟨hlt,by simpa [hlt] using hb,fun j hj=>?_⟩
  have h1:=i.ok j hj
  have hj':j<l.length:=by omega
  simp [hj'] at h1
  simp [h1]
 simp only [idxS,this]
theorem uI {l:List ByteArray} {x:ByteArray} (i:Ed l.length (fun k=>seqB x (l.getD k .empty))) (h:¬ i.k<l.length):idxS l x=-1:=by
 have:l.findIdx? (fun y=>seqB x y)=none:=by
  rw [List.findIdx?_eq_none_iff]
  intro y hy
  obtain ⟨k,hk,rfl⟩:=List.getElem_of_mem hy
  have h1:=i.ok k aa
  simpa [hk] using h1
 simp only [idxS,this]
theorem xC (l:List ByteArray) (x:ByteArray):decide (0≤idxS l x)=hasS l x:=by
 unfold idxS hasS
 cases h:l.findIdx? (fun y=>seqB x y) with
 | some k =>
  rw [List.findIdx?_eq_some_iff_getElem] at h
  obtain ⟨h1,h2,_⟩:=h
  have:l.any (fun y=>seqB x y)=true:=List.any_eq_true.2 ⟨l[k],List.getElem_mem h1,h2⟩
  rw [this]
  exact decide_eq_true (show (0:Int)≤(k:Int) by omega)
 | none =>
  rw [List.findIdx?_eq_none_iff] at h
  have:l.any (fun y=>seqB x y)=false:=List.any_eq_false.2 fun y hy=>by simp [h y hy]
  rw [this]
  rfl
def eqBad (l m:List ByteArray) (k:Nat):Bool:=!seqB (l.getD k .empty) (m.getD k .empty)
def eqL (l m:List ByteArray):Bool:=decide (l.length=m.length)&&allB l.length (eqBad l m)
theorem gV (s r:Xj) (l m:List ByteArray):Pu Tryz.prog 67 #[s.v,r.v] (fun w=>Strs w s l∧Strs w r m) (.bool (eqL l m)):=by
 refine ar Tryz.func67 Tryz.ntmps67 fun av bor w0=>?_
 refine aH (p:=(s.n=l.length∧s.n≤maxLen∧(0<l.length→s.p.isSome=true))∧(r.n=m.length∧r.n≤maxLen∧(0<m.length→r.p.isSome=true))) (fun w h=>⟨⟨h.1.len_,Nat.le_trans (Xe.cap h.1) (Xe.max h.1),h.1.some_⟩,⟨h.2.len_,Nat.le_trans (Xe.cap h.2) (Xe.max h.2),h.2.some_⟩⟩) fun ⟨⟨hl,hm,hp⟩,⟨hl',hm',hp'⟩⟩=>?_
 simp only [maxLen] at hm hm'
 repeat' (first|refine gs ?_|(refine gp ?_ ?_<;>intro hx_ this)|fail)
 · apply ab;apply ai;rfl;rfl
   have:¬ l.length=m.length:=by
    have h1:¬ (s.n:Int)=(r.n:Int):=by simpa using hx_
    omega
   simp only [eqL,decide_eq_false this,Bool.false_and]
 have hlm:l.length=m.length:=by
  have h1:(s.n:Int)=(r.n:Int):=by simpa using hx_
  omega
 refine am (ι:=Ed l.length (eqBad l m)) (fun i=>⟨[(0,s.v),(1,r.v),(12,.int .i64 s.n),(13,.int .i64 i.k)],[],fun w=>Strs w s l∧Strs w r m⟩) (fun i=>l.length-i.k) (Ed.zero _ _) (ae (by repeat (first|exact trivial|refine ⟨rfl,?_⟩)) (aj _) fun _ h=>h) fun i=>?_
 have hik:=i.hk
 repeat' (first|refine gs ?_|(refine gp ?_ ?_<;>intro hx_ this)|fail)
 · have hlt:i.k<l.length:=by omega
   have hlt':i.k<m.length:=by omega
   have hp1:=hp aa
   have hp2:=hp' aa
   (refine bE ⟨[0,1,2,3,4,5,6,7,8],[]⟩ (h:=?_))
   all_goals repeat' (first|refine gd ?_|refine ax (hy:=by first|(apply aG (q:=i.k);rfl;rfl;omega;omega;assumption;omega)|(apply de;rfl;exact fun w h=>Strs.get h.1 hlt)|(apply de;rfl;exact fun w h=>Strs.get h.2 hlt')) ?_|refine ay ?_ (h':=?_)|exact az|(refine gq ?_ ?_<;>intro hx_ this)|fail)
   repeat' (first|refine gs ?_|(refine gp ?_ ?_<;>intro hx_ this)|fail)
   · apply ab;apply ai;rfl;rfl
     rw [eqL,eS hlt (by assumption),Bool.and_false]
   · exact ⟨i.next hlt (by assumption),(by show l.length-(i.k+1)<l.length-i.k;omega),ae (by repeat (first|exact trivial|refine ⟨rfl,?_⟩)) (aj _) fun _ h=>h⟩
 · apply ab;apply ai;rfl;rfl
   rw [eqL,i.all aa,decide_eq_true hlm]
   rfl
def postK (k:Int):Bool:=decide (k=1)||decide (k=2)||decide (k=3)
theorem eO (k:Int):Pu Tryz.prog 90 #[.int .i64 k] (fun _=>True) (.bool (postK k)):=by
 refine ar Tryz.func90 Tryz.ntmps90 fun av bor w0=>?_
 repeat' (first|refine gs ?_|(refine gp ?_ ?_<;>intro hx_ this)|fail)
 all_goals
  apply ab;apply ai;rfl;rfl
  simp only [postK, *,decide_true,decide_false,cond_true,cond_false,Bool.and_true,Bool.true_and,Bool.and_false,Bool.false_and,Bool.not_true,Bool.not_false,Bool.or_true,Bool.true_or,Bool.or_false,Bool.false_or]
def ChBox (c:Xd) (b:Nat) (w:World):Prop:=w.heap[b]?=some (.cells c.cells.toArray 67 (0,0))
theorem ChBox.cell {c:Xd} {b:Nat} {w:World} (h:ChBox c b w):∀ j v,c.cells[j]?=some v→w.cell? ⟨b,j,none⟩=some v:=fun j v hj=>by
 simp [World.cell?,show w.heap[b]?=_ from h,hj]
def XC (c:Xd) (w:World):Prop:=c.at_ w∧Xf w
theorem XC.know {c:Xd}:∀ w,XC c w→c.acts.n=c.actsL.length∧c.acts.n≤maxLen∧(0<c.actsL.length→c.acts.p.isSome=true)∧c.acts.n≤c.acts.c:=fun w h=>⟨h.1.len_,h.1.max_,h.1.some_,h.1.cap_⟩
theorem oZ {P:Program} {fn:Func} {N t u r:Nat} {s:St} {v x y:Value} (hr:fn.results=#[.tmp t,.tmp u,.tmp r]) (h:Sy.look s.env t=some v) (h':Sy.look s.env u=some x) (h2:Sy.look s.env r=some y):Res1 P fn N s (.tuple #[v,x,y]):=fun av bor w0 a w ok=>by
 have h3:=ok.env t v h
 have h4:=ok.env u x h'
 have h5:=ok.env r y h2
 simp [results,hr,h3,h4,h5]
theorem jc (l:List ByteArray):∀ cs∈strs l,cs.all (·.oneCell')=true:=fun cs hcs=>by simp only [strs,List.mem_map] at hcs;obtain ⟨x,_,rfl⟩:=hcs;rfl
theorem gc {e n:Nat} {v:Value} {ss:List ByteArray} (hn:n≤1000000000):Ct Tryz.prog 30 #[v] [orow e 1 v n (ss.map encB)] (fun _=>True) fun u R _=>u=.tuple #[]∧R=[orow e 1 v n ((sortB ss).map encB)]:=by
 have h:=sortS_c.ct (e:=e) (n:=n) (v:=v) (ss:=ss.map bl) hn
 rw [pH ss]
 refine h.mono fun u R X' ⟨h1,h2⟩=>⟨h1,?_⟩
 rw [h2,ie,sortB]
def StrsAt (l:List ByteArray) (u:Value) (X:World→Prop):Prop:=∃ s:Xj,u=s.v∧∀ w,X w→Strs w s l
theorem eW {p:ByteArray→Bool} (L:List ByteArray) {k:Nat} (h:k<L.length):(L.take (k+1)).filter p=(L.take k).filter p++(bif p (L.getD k .empty) then [L.getD k .empty] else []):=by
 rw [List.take_add_one,List.filter_append,List.getElem?_eq_getElem h,List.getD_eq_getElem?_getD,List.getElem?_eq_getElem h]
 simp only [Option.toList_some,Option.getD_some,List.filter_cons,List.filter_nil]
 cases p L[k]<;>rfl
section
variable {P:Program} {N:Nat} {av bor:List Nat} {w0:World} {ops:Array Oper} {rest:List Oper} {k:St→Prop} {E:Env} {loc:List Xk} {X:World→Prop}
theorem aW {r:Xk} (h:Sw P N av bor w0 ops rest ⟨E,loc,fun w=>X w∧r.F w⟩ k):Sw P N av bor w0 ops rest ⟨E,r::loc,X⟩ k:=Sw.mk fun a w ok=>h.run a w (ok.via fun M G=>G.give)
end
theorem pX (l:List ByteArray):eqL l l=true:=by
 rw [eqL,decide_eq_true rfl,Bool.true_and]
 refine m4 fun j hj=>?_
 simp [eqBad,seqB]
section
variable {P:Program} {N:Nat} {av bor:List Nat} {w0:World} {ops:Array Oper} {rest:List Oper} {kk:St→Prop} {E:Env} {loc:List Xk} {X:World→Prop} {x y:Operand} {t t2:TypeId}
variable {n:Nat} {ty:TypeId} {pos:String} {af:Array Edge} {g:Option (Nat×Bool)} {bb want:Bool}
theorem dP {k:IntKind} {a b:Int} (h:Sw P N av bor w0 ops rest ⟨(n,.bool false)::E,loc,X⟩ kk) (hx:ev E x=some (.int k a):=by rfl) (hy:ev E y=some (.int k b):=by rfl) (hab:a=b:=by first|omega|decide) (hg:gdB ops E g=some (bb,want):=by rfl) (hbb:bb=want:=by exact aq) (hd:Nat.blt n N=true:=by rfl) :
  Sw P N av bor w0 ops (⟨some n,.binOp .neq t x y t2,ty,pos,af,g⟩::rest) ⟨E,loc,X⟩ kk:=vU (hx:=hx) (hy:=hy) (hg:=hg) (hbb:=hbb) (hd:=hd) (h:=by
   have e:∀ u,u=Value.bool false→Sw P N av bor w0 ops rest ⟨(n,u)::E,loc,X⟩ kk:=fun u hu=>hu▸h
   exact e _ (by simp [hab]))
theorem ny {k:IntKind} {a b:Int} (h:Sw P N av bor w0 ops rest ⟨(n,.bool false)::E,loc,X⟩ kk) (hx:ev E x=some (.int k a):=by rfl) (hy:ev E y=some (.int k b):=by rfl) (hab:¬ b≤a:=by first|omega|decide) (hg:gdB ops E g=some (bb,want):=by rfl) (hbb:bb=want:=by exact aq) (hd:Nat.blt n N=true:=by rfl) :
  Sw P N av bor w0 ops (⟨some n,.binOp .geq t x y t2,ty,pos,af,g⟩::rest) ⟨E,loc,X⟩ kk:=qC (hx:=hx) (hy:=hy) (hg:=hg) (hbb:=hbb) (hd:=hd) (h:=by
   have e:∀ u,u=Value.bool false→Sw P N av bor w0 ops rest ⟨(n,u)::E,loc,X⟩ kk:=fun u hu=>hu▸h
   exact e _ (by simp only [decide_eq_false hab]))
theorem nw {k:IntKind} {a b:Int} (h:Sw P N av bor w0 ops rest ⟨(n,.bool true)::E,loc,X⟩ kk) (hx:ev E x=some (.int k a):=by rfl) (hy:ev E y=some (.int k b):=by rfl) (hab:b<a:=by first|omega|decide) (hg:gdB ops E g=some (bb,want):=by rfl) (hbb:bb=want:=by exact aq) (hd:Nat.blt n N=true:=by rfl) :
  Sw P N av bor w0 ops (⟨some n,.binOp .gtr t x y t2,ty,pos,af,g⟩::rest) ⟨E,loc,X⟩ kk:=qB (hx:=hx) (hy:=hy) (hg:=hg) (hbb:=hbb) (hd:=hd) (h:=by
   have e:∀ u,u=Value.bool true→Sw P N av bor w0 ops rest ⟨(n,u)::E,loc,X⟩ kk:=fun u hu=>hu▸h
   exact e _ (by simp [hab]))
theorem iu {k:IntKind} {a b:Int} (h:Sw P N av bor w0 ops rest ⟨(n,.bool false)::E,loc,X⟩ kk) (hx:ev E x=some (.int k a):=by rfl) (hy:ev E y=some (.int k b):=by rfl) (hab:¬ b<a:=by first|omega|decide) (hg:gdB ops E g=some (bb,want):=by rfl) (hbb:bb=want:=by exact aq) (hd:Nat.blt n N=true:=by rfl) :
  Sw P N av bor w0 ops (⟨some n,.binOp .gtr t x y t2,ty,pos,af,g⟩::rest) ⟨E,loc,X⟩ kk:=qB (hx:=hx) (hy:=hy) (hg:=hg) (hbb:=hbb) (hd:=hd) (h:=by
   have e:∀ u,u=Value.bool false→Sw P N av bor w0 ops rest ⟨(n,u)::E,loc,X⟩ kk:=fun u hu=>hu▸h
   exact e _ (by simp [hab]))
end
structure RowI where
 A:Option Addr
 c:Nat
def Xd.with (c:Xd) (s:Xj) (l:List Xa):Xd:={ c with acts:=s,actsL:=l }
theorem fu (l:List Xa):∀ r∈l.map Xa.cells,r.length=20:=by
 intro r hr
 obtain ⟨a,_,rfl⟩:=List.mem_map.1 hr
 rfl
theorem dZ {w:World} {e n c:Nat} {A:Option Addr} {l:List Xa} (h:ORow w e 20 (.slice A n c) n (l.map Xa.cells).flatten) (hn:n=l.length) (ha:∀ a∈l,a.at_ w):Acts w ⟨A,n,c⟩ l :=
 ⟨aV h (by simpa using hn) (fu l),ha⟩
theorem rJ (l:List Xa):∀ cs∈l.map Xa.cells,cs.all (·.oneCell')=true:=by
 intro r hr
 obtain ⟨a,_,rfl⟩:=List.mem_map.1 hr
 rfl
section
variable {P:Program} {N:Nat} {av bor:List Nat} {w0:World} {ops:Array Oper} {rest:List Oper} {kk:St→Prop} {E:Env} {loc:List Xk} {X:World→Prop} {x y:Operand} {t t2:TypeId}
variable {n:Nat} {ty:TypeId} {pos:String} {af:Array Edge} {g:Option (Nat×Bool)} {bb want:Bool}
theorem yF {p q:Bool} (r:Bool) [hI:TyBool P t] (h:Sw P N av bor w0 ops rest ⟨(n,.bool r)::E,loc,X⟩ kk) (hx:ev E x=some (.bool p):=by rfl) (hy:ev E y=some (.bool q):=by rfl) (hr:(p==q)=r) (hg:gdB ops E g=some (bb,want):=by rfl) (hbb:bb=want:=by exact aq) (hd:Nat.blt n N=true:=by rfl) :
  Sw P N av bor w0 ops (⟨some n,.binOp .eql t x y t2,ty,pos,af,g⟩::rest) ⟨E,loc,X⟩ kk:=iw (hx:=hx) (hy:=hy) (hg:=hg) (hbb:=hbb) (hd:=hd) (h:=hr▸h)
end
section
variable {P:Program} {N:Nat} {av bor:List Nat} {w0:World} {ops:Array Oper} {rest:List Oper} {k:St→Prop} {E:Env} {loc:List Xk} {X:World→Prop}
variable {d:Option Tmp} {ty:TypeId} {pos:String} {af:Array Edge} {g:Option (Nat×Bool)} {bb want:Bool}
theorem vZ {x:Operand} {xs:List Operand} {ats:Array TypeId} {f:FuncId} {first caps:Array Value} {args all:List Value} {X1:World→Prop} {Post:Value→List Xk→(World→Prop)→Prop} (h:∀ v R X',Post v R X'→Sw P N av bor w0 ops rest ⟨putE E d v,R++loc,fun w=>X w∧X' w⟩ k) (hx:ev E x=some (.func (.func f) first caps):=by rfl) (ha:evs E xs=some args:=by rfl) (hall:first.toList++args++caps.toList=all:=by rfl) (hg:gdB ops E g=some (bb,want):=by rfl) (hb:bb=want:=by exact aq) (hd:inB N d=true:=by rfl) (hf:Xv P f:=by first|infer_instance|exact ⟨ac⟩) (hc:Ct P f all.toArray [] X1 Post) (hX:∀ w,X w→X1 w:=by (first|exact fun _ _=>trivial|exact fun _ h=>h|exact fun _ h=>h.1|exact fun _ h=>h.2)) :
  Sw P N av bor w0 ops (⟨d,.call ⟨.value x,xs.toArray,ats⟩,ty,pos,af,g⟩::rest) ⟨E,loc,X⟩ k:=aZ (pre:=[]) (fr:=loc) hx ha hall hg hb hd hf hc hX h
end
section
variable {P:Program} {N:Nat} {av bor:List Nat} {w0:World} {st:St} {x y:Operand} {t t2:TypeId} {ty:TypeId}
theorem yp {a b:ByteArray} (hx:ev st.env x=some (.string a)) (hy:ev st.env y=some (.string b)) (hab:ltB a b=true):Sy.Yields P N av bor w0 st (.binOp .geq t x y t2) ty (.bool false):=by
 have h:=Ac (P:=P) (N:=N) (av:=av) (bor:=bor) (w0:=w0) (t:=t) (t2:=t2) (ty:=ty) hx hy
 have e:(!Op.bytesLess a.toList b.toList)=false:=by rw [show Op.bytesLess a.toList b.toList=true from hab];rfl
 rwa [e] at h
end
theorem nM {P:Program} {f:FuncId} {args:Array Value} {X X':World→Prop} {v:Value} (h:Pu P f args X v) (hx:∀ w,X' w→X w):Pu P f args X' v:=by
 unfold Pu at *
 exact Ct.mk fun w av G=>(Ct.run h w av (G.imp hx)).mono fun e w' ⟨u,R,X1,he,hp,G'⟩=>⟨u,R,X1,he,hp,G'⟩
structure Xc where
 id:ByteArray
 author:ByteArray
 pos:Nat
 kind:Int
 scope:Int
 group:ByteArray
 to:Xj
 object:ByteArray
 time:Int
 ed:Xj
 gone:Bool
 toL:List ByteArray
 edL:List Int
def Xc.cells (p:Xc):List Value:=[.string p.id,.string p.author,.int .i64 (p.pos:Nat),.int .i64 p.kind,.int .i64 p.scope,.string p.group,p.to.v,.string p.object,.int .i64 p.time,p.ed.v,.bool p.gone]
def Xc.v (p:Xc):Value:=.agg p.cells.toArray
def Xc.zero:Xc:=⟨⟨#[]⟩,⟨#[]⟩,0,0,0,⟨#[]⟩,⟨none,0,0⟩,⟨#[]⟩,0,⟨none,0,0⟩,false,[],[]⟩
theorem cells11 (L:List Xc):∀ r∈L.map Xc.cells,r.length=11:=fun r hr=>by
 obtain ⟨c,_,rfl⟩:=List.mem_map.1 hr
 rfl
def edR (p:Xc):Xk:=orow 3 1 (.slice p.ed.p p.ed.n p.ed.c) p.ed.n (p.edL.map fun n=>.int .i64 n)
def Xc.can (p:Xc):Xc:={ p with to:=⟨none,0,0⟩,ed:=⟨none,0,0⟩ }
def newP (id:ByteArray) (i:Nat) (a:Xa):Xc:=⟨digV a,id,i,a.kind,a.scope,a.group,⟨none,0,0⟩,a.object,a.time,⟨none,0,0⟩,false,a.toL,[]⟩
def openF (c:Xd):Nat→List Xc
 | 0=>[]
 | i+1=>openF c i++(bif postK (c.actsL.getD i Xa.zero).kind then [newP c.id i (c.actsL.getD i Xa.zero)] else [])
def posP (P:List Xc) (j:Nat):Option Nat:=P.findIdx? fun p=>p.pos==j
def refV (l:List Xa) (P:List Xc) (i:Nat):Option Nat:=match idxV l (l.getD i Xa.zero).object with
 | some j=>bif decide (j<i) then posP P j else none
 | none=>none
def goneP (p:Xc):Xc:={ p with gone:=true }
def editB (a:Xa) (p:Xc):Bool:=!p.gone&&decide (a.scope=p.scope)&&seqB a.group p.group&&eqL a.toL p.toL
def editP (a:Xa) (i:Nat) (p:Xc):Xc:=bif editB a p then { p with edL:=p.edL++[(i:Int)] } else p
def modP (P:List Xc) (o:Option Nat) (f:Xc→Xc):List Xc:=match o with
 | some n=>P.set n (f (P.getD n Xc.zero))
 | none=>P
def stepP (l:List Xa) (i:Nat) (P:List Xc):List Xc :=
 bif decide ((l.getD i Xa.zero).kind=13) then modP P (refV l P i) goneP else bif decide ((l.getD i Xa.zero).kind=14) then modP P (refV l P i) (editP (l.getD i Xa.zero) i) else P
def ofP (c:Xd):Nat→List Xc
 | 0=>openF c c.actsL.length
 | i+1=>stepP c.actsL i (ofP c i)
def postsV (c:Xd):List Xc:=ofP c c.actsL.length
theorem wN (P:List Xc) (j:Nat):posP (P.map Xc.can) j=posP P j:=by
 rw [posP,posP,List.findIdx?_map]
 rfl
theorem pc (l:List Xa) (P:List Xc) (i:Nat):refV l (P.map Xc.can) i=refV l P i:=by
 rw [refV,refV]
 cases idxV l (l.getD i Xa.zero).object with
 | none=>rfl
 | some j=>simp only [wN]
theorem uM (P:List Xc) (n:Nat):(P.map Xc.can).getD n Xc.zero=(P.getD n Xc.zero).can:=by
 rw [List.getD_eq_getElem?_getD,List.getD_eq_getElem?_getD,List.getElem?_map]
 cases P[n]?<;>rfl
theorem ji (c:Xd):∀ i,(openF c i).length≤i
 | 0=>Nat.le_refl _
 | i+1=>by
  have ih:=ji c i
  rw [openF,List.length_append]
  cases postK (c.actsL.getD i Xa.zero).kind with
  | true=>simp only [cond_true,List.length_singleton];omega
  | false=>simp only [cond_false,List.length_nil];omega
theorem yS {P:List Xc} {j n:Nat} (h:posP P j=some n):n<P.length:=by
 rw [posP,List.findIdx?_eq_some_iff_getElem] at h
 exact h.1
theorem mz (c:Xd):∀ i,∀ p∈openF c i,p.pos<i
 | 0,p,h=>(List.not_mem_nil h).elim
 | i+1,p,h=>by
  rw [openF] at h
  rcases List.mem_append.1 h with h|h
  · have:=mz c i p h
    omega
  · revert h
    cases postK (c.actsL.getD i Xa.zero).kind with
    | true=>intro h;rw [cond_true,List.mem_singleton] at h;subst h;exact Nat.lt_succ_self i
    | false=>intro h;exact (List.not_mem_nil h).elim
theorem fM {κ β:Type} [Xm κ]:∀ (b:List (κ×β)) (k a:κ) (v:β),mget (mput b k v) a=bif Xm.eqb a k then some v else mget b a
 | [],k,a,v=>rfl
 | (k',v')::r,k,a,v=>by
  have ih:=fM r k a v
  simp only [mput]
  cases hk:Xm.eqb k k' with
  | true =>
   obtain rfl:=(Xm.eqb_iff k k').1 hk
   simp only [cond_true,mget]
   cases Xm.eqb a k<;>rfl
  | false =>
   simp only [cond_false,mget,ih]
   cases ha:Xm.eqb a k' with
   | true =>
    obtain rfl:=(Xm.eqb_iff a k').1 ha
    have hne:Xm.eqb a k=false:=by
     rw [←Bool.not_eq_true]
     intro e
     rw [(Xm.eqb_iff a k).1 e,(Xm.eqb_iff k k).2 rfl] at hk
     cases hk
    rw [hne]
    rfl
   | false=>rfl
theorem uG {l:List Xa} {k:Nat} {x:Xa} (hx:l[k]?=some x) (d:ByteArray):idxV (l.take (k+1)) d=(idxV (l.take k) d).or (bif seqB (digV x) d then some k else none):=by
 have hk:k<l.length:=(List.getElem?_eq_some_iff.1 hx).1
 have hl:(l.take k).length=k:=by rw [List.length_take];omega
 rw [idxV,idxV,List.take_add_one,hx,Option.toList_some,List.findIdx?_append,hl]
 congr 1
 rw [List.findIdx?_singleton]
 cases seqB (digV x) d with
 | true=>simp
 | false=>simp
theorem pm (P:List Xc) (p:Xc) (j:Nat):posP (P++[p]) j=(posP P j).or (bif p.pos==j then some P.length else none):=by
 rw [posP,posP,List.findIdx?_append]
 congr 1
 rw [List.findIdx?_singleton]
 cases p.pos==j with
 | true=>simp
 | false=>simp
theorem ul {P:List Xc} {j:Nat} (h:∀ p∈P,p.pos≠j):posP P j=none:=by
 rw [posP,List.findIdx?_eq_none_iff]
 intro p hp
 simpa using h p hp
theorem eqbI (a b:Int):Xm.eqb a b=decide (a=b):=rfl
namespace Sy
section
variable {P:Program} {N:Nat} {av bor:List Nat} {w0:World} {ops:Array Oper} {rest:List Oper} {E:Env} {loc:List Xk} {X:World→Prop} {k:St→Prop}
theorem nR {w:World} {b e size m:Nat} {cs:List Value} (h:w.heap[b]?=some (.cells cs.toArray e (0,0))) (hl:cs.length=m*size) (hm:m≤maxLen):ORow w e size (.slice (some ⟨b,0,none⟩) m m) m cs :=
 ⟨hl,.inr ⟨b,m,cs.toArray,(0,0),rfl,h,Nat.le_refl _,hm,by simpa using hl,by rw [←hl];simp,.inl rfl⟩⟩
theorem Xq.orow {w:World} {b e size m:Nat} {cs:List Value} (hl:cs.length=m*size) (hm:m≤maxLen) (G:Xq av bor w0 (cel b e cs::loc) X w):Xq av bor w0 (orow e size (.slice (some ⟨b,0,none⟩) m m) m cs::loc) X w:=by
 have e1:fps (Sy.orow e size (.slice (some ⟨b,0,none⟩) m m) m cs::loc)=fps (cel b e cs::loc):=by simp [fps,Sy.orow,cel,Value.ownBlock]
 refine ⟨G.fr,G.avb,by rw [e1];exact G.nodup,by rw [e1];exact G.own,fun r hr=>?_,by rw [e1];exact G.keep⟩
 rcases List.mem_cons.1 hr with rfl|hr
 · exact dm (nR (G.here _ ap).now hl hm)
 · exact G.here r (List.mem_cons_of_mem _ hr)
end
end Sy
end Go.Proofs.YtggionfjlgfihaaGreatDoor
namespace Go.Proofs.YtggionfjlgfihaaGreatDoor.Sy
open Go Go.Proofs
section
variable {P:Program} {N:Nat} {av bor:List Nat} {w0:World} {st:St} {ty:TypeId} {x y:Operand} {t t2:TypeId}
variable {E:Env} {loc:List Xk} {X:World→Prop} {ops:Array Oper} {kk:St→Prop} {n:Nat} {pos:String} {af:Array Edge} {g:Option (Nat×Bool)} {rest:List Oper} {bb want:Bool} {K:Exit→St→Prop} {c:Code}
theorem bH {p:Prop} {r:Xk} (hm:r∈loc:=by exact aL) (hp:∀ w,r.F w→p) (h:p→Cw P N av bor w0 c ⟨E,loc,X⟩ K):Cw P N av bor w0 c ⟨E,loc,X⟩ K:=Cw.mk fun a w ok=>(h (hp w (ok.gam.here r hm).now)).run a w ok
theorem bu {w:World} {e size n c:Nat} {A:Option Addr} {xs:List Value} (h:ORow w e size (.slice A n c) n xs) (hn:0<n):A.isSome=true:=by
 rcases h.2 with ⟨h1,h2⟩|⟨g,cap,cur,fz,h1,hg,_⟩
 · omega
 · simp only [Value.slice.injEq] at h1
   obtain ⟨rfl,_⟩:=h1
   rfl
theorem eZ {e size m i c:Nat} [h:Xs P t size] {A:Option Addr} {xs:List (List Value)} {cs:List Value} (hx:ev st.env x=some (elP A (i*size))) (hm:orow e size (.slice A m c) m xs.flatten∈st.loc) (hn:m=xs.length) (hs:∀ r∈xs,r.length=size) (hi:xs[i]?=some cs) :
  Yields P N av bor w0 st (.load t x) ty (.agg cs.toArray):=Sy.Yields.mk fun B w ok d pos af g=>by
 have hr:=aV (ok.gam.here _ hm).now hn hs
 obtain ⟨h1,hp,hc⟩:=Xe.row hr i cs hi
 obtain ⟨a,rfl⟩:=Option.isSome_iff_exists.1 hp
 have:=dc (P:=P) (t:=t) h.out (w:=w) (A:=a.add (i*size)) h1 (fun j v hj=>by rw [eF];exact (hc j v hj).2 a rfl)
 simp [execOp,ok.eval hx,elP,Instr.loadAt,Instr.sureAddr,this]
theorem mg (l vs:List Value) (o s M:Nat) (hv:vs.length=s) (h1:o+s≤M) (h2:M≤l.length):(l.take o++vs++l.drop (o+s)).take M=(l.take M).take o++vs++(l.take M).drop (o+s):=by
 have e1:(l.take o++vs).length=o+s:=by rw [List.length_append,List.length_take,hv];omega
 rw [List.take_append,e1,List.take_of_length_le aa,List.take_take,Nat.min_eq_left aa,List.drop_take]
theorem iD (l vs:List Value) (o s M:Nat) (hv:vs.length=s) (h1:o+s≤M) (hl:l.length=M):(l.take o++vs++l.drop (o+s)).length=M:=by
 simp only [List.length_append,List.length_take,List.length_drop,hv,hl]
 omega
theorem nB {d:Option Tmp} {loc':List Xk} {e size m i c:Nat} {A:Option Addr} {xs vs xs':List Value} {v:Value} (hsz:(P.info? t).map (·.size)=some size) (hx:ev E x=some (elP A (i*size)):=by rfl) (hy:ev E y=some v:=by rfl) (hv:v.cells.toList=vs) (h1:(vs.all (·.oneCell'))=true:=by rfl) (hvl:vs.length=size) (hi:i<m:=by omega)
  (hxs:xs.take (i*size)++vs++xs.drop (i*size+size)=xs') (hA:At (orow e size (.slice A m c) m xs) (orow e size (.slice A m c) m xs') loc loc':=by (repeat (first|exact At.here _|apply At.there))) (hg:gdB ops E g=some (bb,want):=by rfl) (hb:bb=want:=by exact aq) (hd:Sy.inB N d=true)
  (h:Sw P N av bor w0 ops rest ⟨putE E d undef,loc',X⟩ kk):Sw P N av bor w0 ops (⟨d,.store t x y,ty,pos,af,g⟩::rest) ⟨E,loc,X⟩ kk:=Sw.mk fun a w ok=>by
 have ho:ORow w e size (.slice A m c) m xs:=(ok.gam.here _ hA.mem).now
 rcases ho.2 with ⟨_,h0⟩|⟨b,cap,cur,fz,hs,hb',hnc,hcm,hcs,htake,hfz⟩
 · omega
 simp only [Value.slice.injEq] at hs
 obtain ⟨rfl,_,rfl⟩:=hs
 have hm1:i*size+size≤m*size:=by rw [←Nat.succ_mul];exact Nat.mul_le_mul_right _ hi
 have hm2:m*size≤cur.size:=by rw [hcs];exact Nat.mul_le_mul_right _ hnc
 have hst:=dr P b (i*size) e fz vs 0 cur w hb' hfz aa (by simpa using h1)
 have hadd:(⟨b,0,none⟩:Addr).add (i*size)=⟨b,i*size,none⟩:=by unfold Addr.add;split<;>simp_all
 simp only [wpList]
 rw [aX ok (o:=⟨d,.store t x y,ty,pos,af,g⟩) hg]
 subst hb
 simp only [beq_self_eq_true,if_true]
 left
 unfold Oper.wp
 have hs:v.cells.size=size:=by rw [←hvl,←hv];simp
 generalize hnew:(cur.toList.take (i*size)++vs++cur.toList.drop (i*size+size)).toArray=new at *
 have hr:(execOp a.eval ⟨d,.store t x y,ty,pos,af,g⟩).run P w=.ok .skip (w.setRow b new):=by
  simp only [Nat.add_zero,hvl,hnew] at hst
  simp [execOp,ok.eval (st:=⟨E,loc,X⟩) hx,ok.eval (st:=⟨E,loc,X⟩) hy,elP,hadd,Instr.storeAt,Instr.sureAddr,storeVar,run_sizeOf hsz,hs,hv,hst]
 rw [hr]
 have hsn:new.size=cur.size:=by
  rw [←hnew]
  simpa using iD cur.toList vs (i*size) size cur.size hvl aa (by simp)
 have ho':ORow (w.setRow b new) e size (.slice (some ⟨b,0,none⟩) m c) m xs':=by
  refine ⟨by rw [←hxs];exact iD xs vs (i*size) size (m*size) hvl hm1 ho.1,.inr ⟨b,c,new,fz,rfl,Go.setRow_heap w b cur new e fz hb',hnc,hcm,hsn.trans hcs,?_,by rw [hsn];exact hfz⟩⟩
  rw [←hnew,←hxs,←htake]
  exact mg cur.toList vs (i*size) size (m*size) hvl hm1 (by simpa using hm2)
 have ok':Ok N av bor w0 ⟨E,loc',X⟩ a (w.setRow b new):=(ok.via fun M G=>G.swap (hA.app M) rfl rfl rfl (by rw [Go.setRow_size];exact Nat.le_refl _) (fun j _ hj=>Go.setRow_other w b j new (by rintro rfl;exact hj (by simp [orow,Value.ownBlock]))) (by simp [orow,Value.ownBlock]) (fun j hj=>by
  have hj:j=b:=by simpa [orow,Value.ownBlock] using hj
  subst hj
  exact ⟨by rw [Go.setRow_size];exact (Array.getElem?_eq_some_iff.1 hb').1,.inl (by simp [orow,Value.ownBlock])⟩) (dm ho'))
 exact h.run _ _ (cu d _▸ok'.put hd _)
end
end Go.Proofs.YtggionfjlgfihaaGreatDoor.Sy
namespace Go.Proofs.YtggionfjlgfihaaGreatDoor
open Go Go.Proofs Sy
abbrev postR (s:Xj) (P:List Xc):Xk:=orow 54 11 (.slice s.p s.n s.c) s.n (P.map Xc.cells).flatten
theorem bQ:∀ (L:List Xc) (p:Nat) (x:Xc),p<L.length→(L.map Xc.cells).flatten.take (p*11)++x.cells++(L.map Xc.cells).flatten.drop (p*11+11)=((L.set p x).map Xc.cells).flatten
 | [],p,x,h=>absurd h (by simp)
 | c::L,0,x,h=>by
  have h6:c.cells.length=11:=rfl
  rw [List.set_cons_zero,List.map_cons,List.map_cons,List.flatten_cons,List.flatten_cons,Nat.zero_mul,Nat.zero_add,List.take_zero,List.nil_append,List.drop_append,h6,List.drop_of_length_le (by omega)]
  rfl
 | c::L,p+1,x,h=>by
  have h6:c.cells.length=11:=rfl
  have ih:=bQ L p x (by simpa using h)
  rw [List.set_cons_succ,List.map_cons,List.map_cons,List.flatten_cons,List.flatten_cons,←ih,List.take_append,List.drop_append,h6,List.take_of_length_le aa,List.drop_of_length_le aa,
   show (p+1)*11-11=p*11 from by omega,show (p+1)*11+11-11=p*11+11 from by omega,List.nil_append,List.append_assoc,List.append_assoc,List.append_assoc]
theorem cU {P:List Xc} {i j:Nat} {x y:Xc} (hi:P[i]?=some x) (hj:P[j]?=some y):((P.set i y).set j x).Perm P:=by
 obtain ⟨h1,rfl⟩:=List.getElem?_eq_some_iff.1 hi
 obtain ⟨h2,rfl⟩:=List.getElem?_eq_some_iff.1 hj
 exact List.set_set_perm h1 h2
namespace Sy
section
variable {N:Nat} {av bor:List Nat} {w0:World} {st:St} {ty:TypeId} {x y:Operand} {E:Env} {loc:List Xk} {X:World→Prop} {ops:Array Oper} {kk:St→Prop} {pos:String} {af:Array Edge} {g:Option (Nat×Bool)} {rest:List Oper} {bb want:Bool}
theorem bq {A:Option Addr} {m c i:Nat} {P:List Xc} {p:Xc} (hx:ev st.env x=some (elP A (i*11))) (hm:orow 54 11 (.slice A m c) m (P.map Xc.cells).flatten∈st.loc) (hn:m=P.length) (hi:P[i]?=some p) :
  Yields Tryz.prog N av bor w0 st (.load 54 x) ty p.v:=eZ (xs:=P.map Xc.cells) (cs:=p.cells) hx hm (by simp [hn]) (cells11 P) (by simp [hi])
theorem bO {d:Option Tmp} {loc':List Xk} {A:Option Addr} {m c i:Nat} {P:List Xc} {p:Xc} (hx:ev E x=some (elP A (i*11)):=by rfl) (hy:ev E y=some p.v:=by rfl) (hi:i<m:=by omega) (hn:m=P.length)
  (hA:At (orow 54 11 (.slice A m c) m (P.map Xc.cells).flatten) (orow 54 11 (.slice A m c) m ((P.set i p).map Xc.cells).flatten) loc loc':=by (repeat (first|exact At.here _|apply At.there))) (hg:gdB ops E g=some (bb,want):=by rfl) (hb:bb=want:=by exact aq) (hd:inB N d=true:=by rfl)
  (h:Sw Tryz.prog N av bor w0 ops rest ⟨putE E d undef,loc',X⟩ kk):Sw Tryz.prog N av bor w0 ops (⟨d,.store 54 x y,ty,pos,af,g⟩::rest) ⟨E,loc,X⟩ kk :=
 nB (i:=i) (size:=11) (vs:=p.cells) ac hx hy rfl rfl rfl hi (bQ P i p aa) hA hg hb hd h
variable {n:Nat} {t t2:TypeId}
theorem nA [hI:Xw Tryz.prog t .i64] {p q:Nat} (h:Sw Tryz.prog N av bor w0 ops rest ⟨(n,.int .i64 ((p+q:Nat):Int))::E,loc,X⟩ kk) (hx:ev E x=some (.int .i64 (p:Nat)):=by rfl) (hy:ev E y=some (.int .i64 (q:Nat)):=by rfl) (hq:p+q<9223372036854775808) (hg:gdB ops E g=some (bb,want):=by rfl) (hbb:bb=want:=by exact aq) (hd:Nat.blt n N=true:=by rfl) :
  Sw Tryz.prog N av bor w0 ops (⟨some n,.binOp .add t x y t2,ty,pos,af,g⟩::rest) ⟨E,loc,X⟩ kk:=cH (c:=((p+q:Nat):Int)) hx hy (by rw [←Int.natCast_add];exact IntWalk.i64_in _ aa) hg hbb hd h
theorem yy [hI:Xw Tryz.prog t .i64] {p q:Nat} (h:Sw Tryz.prog N av bor w0 ops rest ⟨(n,.int .i64 ((p-q:Nat):Int))::E,loc,X⟩ kk) (hx:ev E x=some (.int .i64 (p:Nat)):=by rfl) (hy:ev E y=some (.int .i64 (q:Nat)):=by rfl) (hq:q≤p∧p<9223372036854775808) (hg:gdB ops E g=some (bb,want):=by rfl) (hbb:bb=want:=by exact aq) (hd:Nat.blt n N=true:=by rfl) :
  Sw Tryz.prog N av bor w0 ops (⟨some n,.binOp .sub t x y t2,ty,pos,af,g⟩::rest) ⟨E,loc,X⟩ kk:=fC (c:=((p-q:Nat):Int)) hx hy (by rw [show (p:Int)-(q:Int)=((p-q:Nat):Int) by omega];exact IntWalk.i64_in _ aa) hg hbb hd h
end
end Sy
structure PermI (P:List Xc) (n:Nat) where
 k:Nat
 hk:k≤n
 Q:List Xc
 hQ:Q.Perm P
section
variable {N:Nat} {av bor:List Nat} {w0:World} {ops:Array Oper} {rest:List Oper} {k:St→Prop} {E:Env} {X:World→Prop} {d:Option Tmp} {ty:TypeId} {pos:String} {af:Array Edge} {g:Option (Nat×Bool)} {bb want:Bool}
end
structure RotI (P:List Xc) (p q:Nat) where
 i:Nat
 j:Nat
 h1:1≤i
 h2:i≤p
 h3:1≤j
 h4:j≤q
 Q:List Xc
 hQ:Q.Perm P
def cmpB (x y:ByteArray):Int:=bif Op.bytesLess x.toList y.toList then -1 else bif !(Op.bytesLess x.toList y.toList||seqB x y) then 1 else 0
theorem xx (x:ByteArray):Pu Tryz.prog 82 #[.string x] (fun _=>True) (.bool false):=by
 refine ar Tryz.func82 Tryz.ntmps82 fun av bor w0=>?_
 have h:=be x
 repeat' (first|refine gs ?_|(refine gp ?_ ?_<;>intro hx_ this)|fail)
 apply ab;apply ai;rfl;rfl
 rw [h]
 rfl
theorem rD (x y:ByteArray):Pu Tryz.prog 36 #[.string x,.string y] (fun _=>True) (.int .i64 (cmpB x y)):=by
 refine ar Tryz.func36 Tryz.ntmps36 fun av bor w0=>?_
 repeat' (first|refine ag (hc:=xx _) ?_|refine gs ?_|(refine rZ ?_)|(refine r3 ?_)|(refine gp ?_ ?_<;>intro hx_ this)|fail)
 (all_goals (apply ab;apply ai;rfl;rfl));all_goals first|rfl|(simp only [cmpB, *,decide_true,decide_false,cond_true,cond_false,Bool.and_true,Bool.true_and,Bool.and_false,Bool.false_and,Bool.not_true,Bool.not_false,Bool.or_true,Bool.true_or,Bool.or_false,Bool.false_or];done)|(simp_all [cmpB];done)
theorem dw (x y:Xc):Pu Tryz.prog 35 #[x.v,y.v] (fun _=>True) (.int .i64 (cmpB x.id y.id)):=by
 refine ar Tryz.func35 Tryz.ntmps35 fun av bor w0=>?_
 have h:=rD x.id y.id
 generalize cmpB x.id y.id=k at *
 repeat' (first|(refine ag (hc:=h) ?_)|refine gs ?_|refine gs1 fun _=>?_|(refine gp ?_ ?_<;>intro hx_ this)|fail)
 exact ab (ai rfl rfl) rfl
def cmpF:Value:=.func (.func 35) #[] #[]
end Go.Proofs.YtggionfjlgfihaaGreatDoor
namespace Go.Proofs.YtggionfjlgfihaaGreatDoor
open Go Go.Proofs Sy
instance:TyMap Tryz.prog 143 3 (keyD Int):=⟨ac⟩
instance:TyMap Tryz.prog 129 3 (keyD ByteArray):=⟨ac⟩
structure RegI (c:Xd) where
 k:Nat
 hk:k≤c.actsL.length
 P:List Xc
 hP:P.map Xc.can=openF c k
 hz:∀ p∈P,p.ed=⟨none,0,0⟩∧p.edL=[]
 pl:List (ByteArray×Value)
 hpl:∀ d,mget pl d=(idxV (c.actsL.take k) d).map fun (j:Nat)=>Value.int .i64 (j:Int)
 num:List (Int×Value)
 hnum:∀ j:Nat,mget num (j:Int)=(posP P j).map fun (n:Nat)=>Value.int .i64 (n:Int)
 n:Nat
 hn:n=P.length
 xs:List Value
 hxs:xs=(P.map Xc.cells).flatten
 A:Option Addr
 cp:Nat
def RegI.s {c:Xd} (r:RegI c):Xj:=⟨r.A,r.n,r.cp⟩
def regC (c:Xd) (u:Value) (q1 q2:Nat):List Value:=c.cells++[u,.map (some q1),.map (some q2)]
def RegAt (c:Xd) (u:Value) (R:List Xk) (X:World→Prop):Prop:=∃ (r:RegI c) (b b1 q1 q2:Nat),r.k=c.actsL.length∧u=.pointer (some ⟨b,0,none⟩)∧R=[cel b 145 (regC c r.s.v q1 q2),mapr q2 r.pl,mapr q1 r.num,cel b1 67 c.cells,postR r.s r.P]∧∀ w,X w→∀ p∈r.P,Strs w p.to p.toL
end Go.Proofs.YtggionfjlgfihaaGreatDoor
namespace Go.Proofs.YtggionfjlgfihaaGreatDoor
open Go Go.Proofs Sy
theorem g6:∀ (L:List Xc) (n j:Nat) (p p':Xc) (v:Value),L[n]?=some p→j<11→p'.cells=p.cells.take j++[v]++p.cells.drop (j+1)→(L.map Xc.cells).flatten.take (n*11+j)++[v]++(L.map Xc.cells).flatten.drop (n*11+j+1)=((L.set n p').map Xc.cells).flatten
 | [],n,j,p,p',v,h,_,_=>by simp at h
 | c::L,0,j,p,p',v,h,hj,hc=>by
  have h6:c.cells.length=11:=rfl
  obtain rfl:c=p:=by simpa using h
  rw [List.set_cons_zero,List.map_cons,List.map_cons,List.flatten_cons,List.flatten_cons,Nat.zero_mul,Nat.zero_add,List.take_append_of_le_length aa,List.drop_append_of_le_length aa,hc,List.append_assoc,List.append_assoc,List.append_assoc]
 | c::L,n+1,j,p,p',v,h,hj,hc=>by
  have h6:c.cells.length=11:=rfl
  have ih:=g6 L n j p p' v (by simpa using h) hj hc
  rw [List.set_cons_succ,List.map_cons,List.map_cons,List.flatten_cons,List.flatten_cons,←ih,List.take_append,List.drop_append,h6,List.take_of_length_le aa,List.drop_of_length_le aa,
   show (n+1)*11+j-11=n*11+j from by omega,show (n+1)*11+j+1-11=n*11+j+1 from by omega,List.nil_append,List.append_assoc,List.append_assoc,List.append_assoc]
namespace Sy
section
variable {N:Nat} {av bor:List Nat} {w0:World} {st:St} {ty:TypeId} {x y:Operand} {E:Env} {loc:List Xk} {X:World→Prop} {ops:Array Oper} {kk:St→Prop} {pos:String} {af:Array Edge} {g:Option (Nat×Bool)} {rest:List Oper} {bb want:Bool} {t:TypeId}
theorem iX {A:Option Addr} {q:Nat} {ad:Addr} (hx:ev st.env x=some (elP A q)) (hp:A=some ad):Yields Tryz.prog N av bor w0 st (.nilCheck x) ty (elP A q):=by
 subst hp
 exact fy (a:=ad.add q) hx
theorem j9 {n:Nat} {A:Option Addr} {q:Nat} {ad:Addr} (h:Sw Tryz.prog N av bor w0 ops rest ⟨(n,elP A q)::E,loc,X⟩ kk) (hx:ev E x=some (elP A q):=by rfl) (hp:A=some ad) (hg:gdB ops E g=some (bb,want):=by rfl) (hbb:bb=want:=by exact aq) (hd:Nat.blt n N=true:=by rfl) :
  Sw Tryz.prog N av bor w0 ops (⟨some n,.nilCheck x,ty,pos,af,g⟩::rest) ⟨E,loc,X⟩ kk:=ak (iX hx hp) hg hbb hd h
theorem dE [h:Xy Tryz.prog t] {A:Option Addr} {m c i j:Nat} {P:List Xc} {p:Xc} {u:Value} (hx:ev st.env x=some (elP A (i*11+j))) (hm:orow 54 11 (.slice A m c) m (P.map Xc.cells).flatten∈st.loc) (hn:m=P.length) (hi:P[i]?=some p) (hj:p.cells[j]?=some u) :
  Yields Tryz.prog N av bor w0 st (.load t x) ty u:=Sy.Yields.mk fun B w ok d pos af g=>by
 have hr:=aV (ok.gam.here _ hm).now (by simp [hn]) (cells11 P)
 obtain ⟨h1,hp,hc⟩:=Xe.row hr i p.cells (by simp [hi])
 obtain ⟨a,rfl⟩:=Option.isSome_iff_exists.1 hp
 simp [execOp,ok.eval hx,elP,Instr.loadAt,Instr.sureAddr,loadVar,(bI h.out w).1,(hc j u hj).2 a rfl]
theorem AA {P:Program} {d:Option Tmp} {loc':List Xk} {e size m q c:Nat} {A:Option Addr} {xs xs':List Value} {v:Value} (hsz:(P.info? t).map (·.size)=some 1) (hx:ev E x=some (elP A q):=by rfl) (hy:ev E y=some v:=by rfl) (hv:v.cells.toList=[v]) (h1:v.oneCell'=true:=by rfl) (hq:q<m*size)
  (hxs:xs.take q++[v]++xs.drop (q+1)=xs') (hA:At (orow e size (.slice A m c) m xs) (orow e size (.slice A m c) m xs') loc loc':=by (repeat (first|exact At.here _|apply At.there))) (hg:gdB ops E g=some (bb,want):=by rfl) (hb:bb=want:=by exact aq) (hd:inB N d=true:=by rfl)
  (h:Sw P N av bor w0 ops rest ⟨putE E d undef,loc',X⟩ kk):Sw P N av bor w0 ops (⟨d,.store t x y,ty,pos,af,g⟩::rest) ⟨E,loc,X⟩ kk:=Sw.mk fun a w ok=>by
 have ho:ORow w e size (.slice A m c) m xs:=(ok.gam.here _ hA.mem).now
 rcases ho.2 with ⟨_,h0⟩|⟨b,cap,cur,fz,hs,hb',hnc,hcm,hcs,htake,hfz⟩
 · rw [h0] at hq
   omega
 simp only [Value.slice.injEq] at hs
 obtain ⟨rfl,_,rfl⟩:=hs
 have hm2:m*size≤cur.size:=by rw [hcs];exact Nat.mul_le_mul_right _ hnc
 have hst:=dr P b q e fz [v] 0 cur w hb' hfz (by simp;omega) (by simpa using h1)
 have hadd:(⟨b,0,none⟩:Addr).add q=⟨b,q,none⟩:=by unfold Addr.add;split<;>simp_all
 simp only [wpList]
 rw [aX ok (o:=⟨d,.store t x y,ty,pos,af,g⟩) hg]
 subst hb
 simp only [beq_self_eq_true,if_true]
 left
 unfold Oper.wp
 have hs:v.cells.size=1:=by have:=congrArg List.length hv;simpa using this
 generalize hnew:(cur.toList.take q++[v]++cur.toList.drop (q+1)).toArray=new at *
 have hr:(execOp a.eval ⟨d,.store t x y,ty,pos,af,g⟩).run P w=.ok .skip (w.setRow b new):=by
  try simp only [Nat.add_zero,List.length_singleton,hnew] at hst
  simp [execOp,ok.eval (st:=⟨E,loc,X⟩) hx,ok.eval (st:=⟨E,loc,X⟩) hy,elP,hadd,Instr.storeAt,Instr.sureAddr,storeVar,run_sizeOf hsz,hs,hv,hst]
 rw [hr]
 have hsn:new.size=cur.size:=by
  rw [←hnew]
  simpa using iD cur.toList [v] q 1 cur.size rfl aa (by simp)
 have ho':ORow (w.setRow b new) e size (.slice (some ⟨b,0,none⟩) m c) m xs':=by
  refine ⟨by rw [←hxs];exact iD xs [v] q 1 (m*size) rfl aa ho.1,.inr ⟨b,c,new,fz,rfl,Go.setRow_heap w b cur new e fz hb',hnc,hcm,hsn.trans hcs,?_,by rw [hsn];exact hfz⟩⟩
  rw [←hnew,←hxs,←htake]
  exact mg cur.toList [v] q 1 (m*size) rfl aa (by simpa using hm2)
 have ok':Ok N av bor w0 ⟨E,loc',X⟩ a (w.setRow b new):=(ok.via fun M G=>G.swap (hA.app M) rfl rfl rfl (by rw [Go.setRow_size];exact Nat.le_refl _) (fun j _ hj=>Go.setRow_other w b j new (by rintro rfl;exact hj (by simp [orow,Value.ownBlock]))) (by simp [orow,Value.ownBlock]) (fun j hj=>by
  have hj:j=b:=by simpa [orow,Value.ownBlock] using hj
  subst hj
  exact ⟨by rw [Go.setRow_size];exact (Array.getElem?_eq_some_iff.1 hb').1,.inl (by simp [orow,Value.ownBlock])⟩) (dm ho'))
 exact h.run _ _ (cu d _▸ok'.put hd _)
theorem r4 {d:Option Tmp} {loc':List Xk} {A:Option Addr} {m c i j:Nat} {P:List Xc} (p':Xc) {p:Xc} {v:Value} (hi:P[i]?=some p) (hj:j<11) (hc:p'.cells=p.cells.take j++[v]++p.cells.drop (j+1)) (hn:m=P.length) (hsz:(Tryz.prog.info? t).map (·.size)=some 1) (hx:ev E x=some (elP A (i*11+j)):=by rfl) (hy:ev E y=some v:=by rfl) (hv:v.cells.toList=[v]) (h1:v.oneCell'=true:=by rfl)
  (hA:At (orow 54 11 (.slice A m c) m (P.map Xc.cells).flatten) (orow 54 11 (.slice A m c) m ((P.set i p').map Xc.cells).flatten) loc loc':=by (repeat (first|exact At.here _|apply At.there))) (hg:gdB ops E g=some (bb,want):=by rfl) (hb:bb=want:=by exact aq) (hd:inB N d=true:=by rfl)
  (h:Sw Tryz.prog N av bor w0 ops rest ⟨putE E d undef,loc',X⟩ kk):Sw Tryz.prog N av bor w0 ops (⟨d,.store t x y,ty,pos,af,g⟩::rest) ⟨E,loc,X⟩ kk:=by
 have hil:=(List.getElem?_eq_some_iff.1 hi).1
 exact AA hsz hx hy hv h1 aa (g6 P i j p p' v hi hj hc) hA hg hb hd h
end
end Sy
end Go.Proofs.YtggionfjlgfihaaGreatDoor
namespace Go.Proofs.YtggionfjlgfihaaGreatDoor
open Go Go.Proofs Sy
section
variable {P:Program} {N:Nat} {av bor:List Nat} {w0:World} {st:St} {ty:TypeId} {x y:Operand} {t t2:TypeId} {k:IntKind}
theorem ni {a b:Int} (v:Bool) (hx:ev st.env x=some (.int k a)) (hy:ev st.env y=some (.int k b)) (hv:decide (a=b)=v):Sy.Yields P N av bor w0 st (.binOp .eql t x y t2) ty (.bool v):=hv▸ky hx hy
theorem nb {a b:ByteArray} (v:Bool) (hx:ev st.env x=some (.string a)) (hy:ev st.env y=some (.string b)) (hv:seqB a b=v):Sy.Yields P N av bor w0 st (.binOp .eql t x y t2) ty (.bool v):=hv▸kq hx hy
end
def NoteAt (r:Xk) (s:Xj) (P:List Xc) (i:Nat) (p p1:Xc) (u:Value) (R:List Xk) (X:World→Prop):Prop:=u=.tuple #[]∧∃ (p':Xc) (ex:List Xk),p'.can=p1.can∧p'.to=p.to∧p'.toL=p.toL∧R=ex++[r,postR s (P.set i p'),edR p']
theorem ek {P:List Xc} {i:Nat} {p:Xc} (h:P[i]?=some p):P.set i p=P:=by
 obtain ⟨h1,rfl⟩:=List.getElem?_eq_some_iff.1 h
 exact List.set_getElem_self h1
theorem o0 {X:World→Prop} (r:Xk) (s:Xj) (P:List Xc) (i:Nat) (p:Xc) (u:Value) (k:Nat) (hs:s.n=P.length) (hi:P[i]?=some p):Ct Tryz.prog 79 #[u,elP s.p (i*11),.int .i64 (k:Nat)] [r,postR s P,edR p] X (NoteAt r s P i p (goneP p)):=by
 refine bT Tryz.func79 Tryz.ntmps79 fun av bor w0=>?_
 have hil:=(List.getElem?_eq_some_iff.1 hi).1
 refine bH (r:=postR s P) (List.mem_cons_of_mem _ ap) (p:=0<s.n→s.p.isSome=true) (fun w h hn=>bu h hn) fun hp=>?_
 have hp':=hp aa
 obtain ⟨ad,had⟩:=Option.isSome_iff_exists.1 hp'
 repeat' (first|refine gs ?_|(refine j9 (ad:=ad) (hp:=had) ?_)|(refine dA ?_)|(refine r4 (goneP p) (i:=i) (j:=10) (hi:=hi) (hj:=by decide) (hc:=rfl) (hn:=hs) (hsz:=by kernel_rfl) (hv:=rfl) (h1:=rfl) (hA:=At.there _ (At.here _)) (h:=?_))|(refine gp ?_ ?_<;>intro hx_ this)|fail)
 exact aI (aA rfl) ⟨rfl,goneP p,[],rfl,rfl,rfl,rfl⟩
theorem uV (c:Xd) (s:Xj) (P:List Xc) (i:Nat) (p:Xc) (b q1 q2 k:Nat) (x:Xa) (hs:s.n=P.length) (hi:P[i]?=some p) (hx:c.actsL[k]?=some x) (hk:k≤1000000) (hel:p.ed.n=p.edL.length) (hem:p.ed.n≤1000000) :
  Ct Tryz.prog 80 #[.pointer (some ⟨b,0,none⟩),elP s.p (i*11),.int .i64 (k:Nat)] [cel b 145 (regC c s.v q1 q2),postR s P,edR p] (fun w=>(c.at_ w∧Xf w)∧Strs w p.to p.toL) (NoteAt (cel b 145 (regC c s.v q1 q2)) s P i p (editP x k p)):=by
 refine bT Tryz.func80 Tryz.ntmps80 fun av bor w0=>?_
 have hil:=(List.getElem?_eq_some_iff.1 hi).1
 have hkl:=(List.getElem?_eq_some_iff.1 hx).1
 refine bH (r:=postR s P) (List.mem_cons_of_mem _ ap) (p:=0<s.n→s.p.isSome=true) (fun w h hn=>bu h hn) fun hp=>?_
 have hp':=hp aa
 obtain ⟨ad,had⟩:=Option.isSome_iff_exists.1 hp'
 refine aH (p:=c.acts.n=c.actsL.length∧(0<c.actsL.length→c.acts.p.isSome=true)) (fun w h=>⟨h.1.1.len_,h.1.1.some_⟩) fun ⟨hl,hpa⟩=>?_
 have hpa':=hpa aa
 have heq:=gV x.to p.to x.toL p.toL
 repeat' (first|refine gs ?_|refine gs1 fun _=>?_|(refine aE (q:=k*20) ?_)|(refine aS (cs:=x.cells) (hF:=fun w h=>Acts.get h.1.1 hx) ?_)|(refine gp ?_ ?_<;>intro hx_ this)|fail)
 rename_i b6
 cases hg:p.gone with
 | true =>
  have h10:p.cells[10]?=some (.bool true):=by rw [←hg];rfl
  have hE:editB x p=false:=by rw [editB,hg];rfl
  (refine ao ⟨[0,1,2,3,4,5,6,7,8,9,10,11,12,13,14,15,16,17,18,19,20,21,22,23,24,25,26,27,28,29],[(30,⟨[31],[]⟩)]⟩ [cel b6 37 x.cells,cel b 145 (regC c s.v q1 q2),postR s P,edR p] (fun w=>(c.at_ w∧Xf w)∧Strs w p.to p.toL) (h:=?_))
  all_goals repeat' (first|refine gd ?_|refine ax (hy:=by first|(apply iX (ad:=ad);rfl;exact had)|(apply cN;rfl;exact hp';rfl)|(apply dE (i:=i) (j:=10) (P:=P) (p:=p) (u:=.bool true);rfl;exact List.mem_cons_of_mem _ (List.mem_cons_of_mem _ ap);exact hs;exact hi;exact h10)) ?_|refine ay ?_ (h':=?_)|exact az|refine gs1 fun _=>?_|(refine gq ?_ ?_<;>intro hx_ this)|fail)
  all_goals
   repeat' (first|refine gs ?_|refine gs1 fun _=>?_|(refine gp ?_ ?_<;>intro hx_ this)|fail)
   first
    | exact aI (aA rfl) ⟨rfl,p,[cel b6 37 x.cells],by rw [editP,hE];rfl,rfl,rfl,by rw [ek hi];rfl⟩
    | exact ab (aA rfl) ⟨rfl,p,[cel b6 37 x.cells],by rw [editP,hE];rfl,rfl,rfl,by rw [ek hi];rfl⟩
 | false =>
  have h10:p.cells[10]?=some (.bool false):=by rw [←hg];rfl
  by_cases hsc:x.scope=p.scope
  · cases hgr:seqB x.group p.group with
    | false =>
     have hE:editB x p=false:=by rw [editB,hgr,Bool.and_false];rfl
     (refine ao ⟨[0,1,2,3,4,5,6,7,8,9,10,11,12,13,14,15,16,17,18,19,20,21,22,23,24,25,26,27,28,29],[(30,⟨[31],[]⟩)]⟩ [cel b6 37 x.cells,cel b 145 (regC c s.v q1 q2),postR s P,edR p] (fun w=>(c.at_ w∧Xf w)∧Strs w p.to p.toL) (h:=?_))
     all_goals repeat' (first|refine ax (hy:=by first|(apply ni true;rfl;rfl;exact decide_eq_true hsc)|(apply nb false;rfl;rfl;exact hgr)) ?_|refine gd ?_|refine ax (hy:=by first|(apply iX (ad:=ad);rfl;exact had)|(apply cN;rfl;exact hp';rfl)|(apply dE (i:=i) (j:=10) (P:=P) (p:=p) (u:=.bool false);rfl;exact List.mem_cons_of_mem _ (List.mem_cons_of_mem _ ap);exact hs;exact hi;exact h10)|(apply dE (i:=i) (j:=4) (P:=P) (p:=p) (u:=.int .i64 p.scope);rfl;exact List.mem_cons_of_mem _ (List.mem_cons_of_mem _ ap);exact hs;exact hi;exact rfl)|(apply dE (i:=i) (j:=5) (P:=P) (p:=p) (u:=.string p.group);rfl;exact List.mem_cons_of_mem _ (List.mem_cons_of_mem _ ap);exact hs;exact hi;exact rfl)) ?_|refine ay ?_ (h':=?_)|exact az|refine gs1 fun _=>?_|(refine gq ?_ ?_<;>intro hx_ this)|fail)
     all_goals
      repeat' (first|refine gs ?_|refine gs1 fun _=>?_|(refine gp ?_ ?_<;>intro hx_ this)|fail)
      first
       | exact aI (aA rfl) ⟨rfl,p,[cel b6 37 x.cells],by rw [editP,hE];rfl,rfl,rfl,by rw [ek hi];rfl⟩
       | exact ab (aA rfl) ⟨rfl,p,[cel b6 37 x.cells],by rw [editP,hE];rfl,rfl,rfl,by rw [ek hi];rfl⟩
    | true =>
     have hEq:editB x p=eqL x.toL p.toL:=by rw [editB,hg,hgr,decide_eq_true hsc];rfl
     cases hE:eqL x.toL p.toL with
     | false =>
      rw [hE] at heq hEq
      have hE:=hEq
      (refine ao ⟨[0,1,2,3,4,5,6,7,8,9,10,11,12,13,14,15,16,17,18,19,20,21,22,23,24,25,26,27,28,29],[(30,⟨[31],[]⟩)]⟩ [cel b6 37 x.cells,cel b 145 (regC c s.v q1 q2),postR s P,edR p] (fun w=>(c.at_ w∧Xf w)∧Strs w p.to p.toL) (h:=?_))
      all_goals repeat' (first|refine ax (hy:=by first|(apply ni true;rfl;rfl;exact decide_eq_true hsc)|(apply nb true;rfl;rfl;exact hgr)) ?_|(refine ag (hc:=heq) (hX:=fun w h=>⟨(h.1.1.2 x (List.mem_of_getElem? hx)).1,h.2⟩) ?_)|refine gd ?_|refine ax (hy:=by first|(apply iX (ad:=ad);rfl;exact had)|(apply cN;rfl;exact hp';rfl)|(apply dE (i:=i) (j:=10) (P:=P) (p:=p) (u:=.bool false);rfl;exact List.mem_cons_of_mem _ (List.mem_cons_of_mem _ ap);exact hs;exact hi;exact h10)|(apply dE (i:=i) (j:=4) (P:=P) (p:=p) (u:=.int .i64 p.scope);rfl;exact List.mem_cons_of_mem _ (List.mem_cons_of_mem _ ap);exact hs;exact hi;exact rfl)|(apply dE (i:=i) (j:=5) (P:=P) (p:=p) (u:=.string p.group);rfl;exact List.mem_cons_of_mem _ (List.mem_cons_of_mem _ ap);exact hs;exact hi;exact rfl)|(apply dE (i:=i) (j:=6) (P:=P) (p:=p) (u:=p.to.v);rfl;exact List.mem_cons_of_mem _ (List.mem_cons_of_mem _ ap);exact hs;exact hi;exact rfl)) ?_|refine ay ?_ (h':=?_)|exact az|refine gs1 fun _=>?_|(refine gq ?_ ?_<;>intro hx_ this)|fail)
      all_goals
       repeat' (first|refine gs ?_|refine gs1 fun _=>?_|(refine gp ?_ ?_<;>intro hx_ this)|fail)
       first
        | exact aI (aA rfl) ⟨rfl,p,[cel b6 37 x.cells],by rw [editP,hE];rfl,rfl,rfl,by rw [ek hi];rfl⟩
        | exact ab (aA rfl) ⟨rfl,p,[cel b6 37 x.cells],by rw [editP,hE];rfl,rfl,rfl,by rw [ek hi];rfl⟩
     | true =>
      rw [hE] at heq hEq
      have hE:=hEq
      (refine ao ⟨[0,1,2,3,4,5,6,7,8,9,10,11,12,13,14,15,16,17,18,19,20,21,22,23,24,25,26,27,28,29],[(30,⟨[31],[]⟩)]⟩ [cel b6 37 x.cells,cel b 145 (regC c s.v q1 q2),postR s P,edR p] (fun w=>(c.at_ w∧Xf w)∧Strs w p.to p.toL) (h:=?_))
      all_goals repeat' (first|refine ax (hy:=by first|(apply ni true;rfl;rfl;exact decide_eq_true hsc)|(apply nb true;rfl;rfl;exact hgr)) ?_|(refine ag (hc:=heq) (hX:=fun w h=>⟨(h.1.1.2 x (List.mem_of_getElem? hx)).1,h.2⟩) ?_)|refine gd ?_|refine ax (hy:=by first|(apply iX (ad:=ad);rfl;exact had)|(apply cN;rfl;exact hp';rfl)|(apply dE (i:=i) (j:=10) (P:=P) (p:=p) (u:=.bool false);rfl;exact List.mem_cons_of_mem _ (List.mem_cons_of_mem _ ap);exact hs;exact hi;exact h10)|(apply dE (i:=i) (j:=4) (P:=P) (p:=p) (u:=.int .i64 p.scope);rfl;exact List.mem_cons_of_mem _ (List.mem_cons_of_mem _ ap);exact hs;exact hi;exact rfl)|(apply dE (i:=i) (j:=5) (P:=P) (p:=p) (u:=.string p.group);rfl;exact List.mem_cons_of_mem _ (List.mem_cons_of_mem _ ap);exact hs;exact hi;exact rfl)|(apply dE (i:=i) (j:=6) (P:=P) (p:=p) (u:=p.to.v);rfl;exact List.mem_cons_of_mem _ (List.mem_cons_of_mem _ ap);exact hs;exact hi;exact rfl)) ?_|refine ay ?_ (h':=?_)|exact az|refine gs1 fun _=>?_|(refine gq ?_ ?_<;>intro hx_ this)|fail)
      all_goals
       repeat' (first|refine gs ?_|refine gs1 fun _=>?_|(refine j9 (ad:=ad) (hp:=had) ?_)|(refine dA ?_)|(refine ak (dE (i:=i) (j:=9) (P:=P) (p:=p) (u:=p.ed.v) rfl (List.mem_cons_of_mem _ (List.mem_cons_of_mem _ ap)) hs hi rfl) rfl rfl rfl ?_)|(refine cr (len:=1) (vs:=[.int .i64 (k:Nat)]) fun _=>?_)|(refine gp ?_ ?_<;>intro hx_ this)|fail)
       rename_i bn
       refine aC (size:=1) (news:=[.int .i64 (k:Nat)]) (q:=1) rfl rfl rfl rfl (fun _=>At.there _ (At.there _ (At.there _ (At.there _ (At.here _))))) (fun w G=>aU G ap rfl rfl 1) aa (by simp only [maxLen];omega) rfl ?_ rfl ?_
       · (first|with_reducible rfl|with_reducible assumption|with_reducible exact Bool.not_false|with_reducible exact Bool.not_true)
       intro A2 c2
       repeat' (first|refine gs ?_|refine gs1 fun _=>?_|(refine j9 (ad:=ad) (hp:=had) ?_)|(refine dA ?_)|(refine r4 { p with ed:=⟨A2,p.ed.n+1,c2⟩,edL:=p.edL++[(k:Int)] } (i:=i) (j:=9) (hi:=hi) (hj:=by decide) (hc:=rfl) (hn:=hs) (hsz:=by kernel_rfl) (hv:=rfl) (h1:=rfl) (hA:=At.there _ (At.there _ (At.there _ (At.here _)))) (h:=?_))|(refine gp ?_ ?_<;>intro hx_ this)|fail)
       refine aI (aA rfl) ⟨rfl,{ p with ed:=⟨A2,p.ed.n+1,c2⟩,edL:=p.edL++[(k:Int)] },[cel bn 3 [.int .i64 (k:Nat)],cel b6 37 x.cells],by rw [editP,hE];rfl,rfl,rfl,?_⟩
       simp only [edR,List.map_append,List.map_cons,List.map_nil]
       rfl
  · have hE:editB x p=false:=by rw [editB,decide_eq_false hsc,Bool.and_false];rfl
    (refine ao ⟨[0,1,2,3,4,5,6,7,8,9,10,11,12,13,14,15,16,17,18,19,20,21,22,23,24,25,26,27,28,29],[(30,⟨[31],[]⟩)]⟩ [cel b6 37 x.cells,cel b 145 (regC c s.v q1 q2),postR s P,edR p] (fun w=>(c.at_ w∧Xf w)∧Strs w p.to p.toL) (h:=?_))
    all_goals repeat' (first|refine ax (hy:=by first|(apply ni false;rfl;rfl;exact decide_eq_false hsc)) ?_|refine gd ?_|refine ax (hy:=by first|(apply iX (ad:=ad);rfl;exact had)|(apply cN;rfl;exact hp';rfl)|(apply dE (i:=i) (j:=10) (P:=P) (p:=p) (u:=.bool false);rfl;exact List.mem_cons_of_mem _ (List.mem_cons_of_mem _ ap);exact hs;exact hi;exact h10)|(apply dE (i:=i) (j:=4) (P:=P) (p:=p) (u:=.int .i64 p.scope);rfl;exact List.mem_cons_of_mem _ (List.mem_cons_of_mem _ ap);exact hs;exact hi;exact rfl)) ?_|refine ay ?_ (h':=?_)|exact az|refine gs1 fun _=>?_|(refine gq ?_ ?_<;>intro hx_ this)|fail)
    all_goals
     repeat' (first|refine gs ?_|refine gs1 fun _=>?_|(refine gp ?_ ?_<;>intro hx_ this)|fail)
     first
      | exact aI (aA rfl) ⟨rfl,p,[cel b6 37 x.cells],by rw [editP,hE];rfl,rfl,rfl,by rw [ek hi];rfl⟩
      | exact ab (aA rfl) ⟨rfl,p,[cel b6 37 x.cells],by rw [editP,hE];rfl,rfl,rfl,by rw [ek hi];rfl⟩
end Go.Proofs.YtggionfjlgfihaaGreatDoor
