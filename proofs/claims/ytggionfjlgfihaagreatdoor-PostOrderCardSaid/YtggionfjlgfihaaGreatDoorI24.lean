/- Joined. -/
import Derived.Test.YtggionfjlgfihaaGreatDoorI0
import Derived.Test.YtggionfjlgfihaaGreatDoorI1
import Derived.Test.YtggionfjlgfihaaGreatDoorI5
import Derived.Test.YtggionfjlgfihaaGreatDoorI7
import Derived.Test.YtggionfjlgfihaaGreatDoorI14
import Derived.Test.YtggionfjlgfihaaGreatDoorI22
set_option linter.unusedVariables false
set_option linter.unusedSimpArgs false
set_option maxHeartbeats 16000000
namespace Go.Proofs.YtggionfjlgfihaaGreatDoor
open Go Go.Proofs Sy
def textsV (l:List ByteArray):ByteArray:=cats (l.map textV)
structure TxtS (n:Nat) where
 k:Nat
 hk:k≤n
 A:Option Addr
 c:Nat
theorem ej (b:Nat) (A:Option Addr) (c:Nat) (s:ByteArray) (sl:Xj) (l:List ByteArray) (hs:s.size+(textsV l).size≤1099511627776) :
  Ct Tryz.prog 179 #[.pointer (some ⟨b,0,none⟩),sl.v] (bld b A c s) (fun w=>Strs w sl l) fun u R _=>∃ A' c',u=.tuple #[]∧R=bld b A' c' (s++textsV l):=by
 refine bT Tryz.func179 Tryz.ntmps179 fun av bor w0=>?_
 refine aH (p:=sl.n=l.length∧sl.n≤maxLen∧(0<l.length→sl.p.isSome=true)) (fun w h=>⟨h.len_,Nat.le_trans (Xe.cap h) (Xe.max h),h.some_⟩) fun ⟨hn,hm,hp⟩=>?_
 simp only [maxLen] at hm
 repeat' (first|refine gs ?_|(refine gp ?_ ?_<;>intro hx_ this)|fail)
 have hle:=fw (l.map textV)
 have e0:s++cats ((l.map textV).take 0)=s:=by simp [cats]
 have hs':s.size+(cats (l.map textV)).size≤1099511627776:=hs
 refine am (ι:=TxtS l.length) (fun i=>⟨[(0,.pointer (some ⟨b,0,none⟩)),(6,sl.v),(7,.int .i64 sl.n),(8,.int .i64 i.k)],bld b i.A i.c (s++cats ((l.map textV).take i.k)),fun w=>Strs w sl l⟩) (fun i=>l.length-i.k) ⟨0,Nat.zero_le _,A,c⟩ (ae al (by rw [e0];exact aj _) fun _ h=>h) fun i=>?_
 have hik:=i.hk
 have hout:(s++cats ((l.map textV).take i.k)).size≤1099511627776:=by rw [ByteArray.size_append];have:=hle i.k;omega
 have hout2:(s++cats ((l.map textV).take (i.k+1))).size≤1099511627776:=by rw [ByteArray.size_append];have:=hle (i.k+1);omega
 generalize ho:s++cats ((l.map textV).take i.k)=out at *
 unfold bld
 repeat' (first|refine gs ?_|(refine gp ?_ ?_<;>intro hx_ this)|fail)
 · have hlt:i.k<l.length:=by omega
   have hp':=hp aa
   obtain ⟨x,hx⟩:∃ x,l[i.k]?=some x:=⟨_,List.getElem?_eq_getElem hlt⟩
   have hsucc:=gX (l.map textV) (k:=i.k) (by simpa using hlt)
   have hget:(l.map textV).getD i.k .empty=textV x:=by simp [hx]
   rw [hget] at hsucc
   have e2:s++cats ((l.map textV).take (i.k+1))=out++textV x:=by rw [hsucc,←ByteArray.append_assoc,ho]
   have hxs:out.size+(textV x).size≤1099511627776:=by rw [e2,ByteArray.size_append] at hout2;exact hout2
   have hxx:x.size≤1099511627776:=by rw [textV,ByteArray.size_append] at hxs;omega
   repeat' (first|refine gs ?_|(refine aE (q:=i.k) ?_)|(refine cg (u:=.string x) (hF:=fun w h=>h.at_ hx) ?_)|(refine gp ?_ ?_<;>intro hx_ this)|fail)
   (refine ao ⟨[0,1,2,3,5],[(4,⟨[],[(6,⟨[],[(7,⟨[8,9],[(10,⟨[],[]⟩)]⟩)]⟩)]⟩),(6,⟨[],[(4,⟨[],[(7,⟨[8,9],[(10,⟨[],[]⟩)]⟩)]⟩)]⟩)]⟩ [] (fun _=>True) (h:=?_))
   all_goals repeat' (first|refine ag (hc:=d8 _ aa) ?_|refine gd ?_|refine ay ?_ (h':=?_)|exact az|(refine fU ?_;refine aC (size:=1) (z:=.int .u8 0) rfl rfl rfl rfl (fun _=>At.there _ (At.here _)) (fun w G=>gM aa) aa (by simp only [maxLen];omega) rfl ?_ rfl ?_;(first|with_reducible rfl|with_reducible assumption|with_reducible exact Bool.not_false|with_reducible exact Bool.not_true);intro A1 c1)|(refine gq ?_ ?_<;>intro hx_ this)|fail)
   all_goals (repeat' (first|refine gs ?_|(refine gp ?_ ?_<;>intro hx_ this)|fail))
   all_goals exact ⟨(⟨i.k+1,hlt,A1,c1⟩:TxtS l.length),(by show l.length-(i.k+1)<l.length-i.k;omega),ae al (by
    show List.Sublist (bld b A1 c1 (s++cats ((l.map textV).take (i.k+1)))) _
    rw [e2]
    simp only [bld,ByteArray.size_append,cY,bU]
    exact aj _) fun _ h=>h⟩
 · have hk:i.k=l.length:=by omega
   refine aI (aA rfl) ⟨i.A,i.c,rfl,?_⟩
   rw [textsV,←ho,hk,List.take_of_length_le (by simp)]
theorem jt {P:Program} {f:FuncId} {fn:Func} {c:Code} {args:List Value} {pre:List Xk} {X:World→Prop} {Post:Value→List Xk→(World→Prop)→Prop} (N:Nat)
  (hf:P.funcs[f]?=some fn) (hb:fn.body=some c) (hN:fn.ntmps=N) (hn:Nat.ble args.length N=true)
  (h:∀ av bor w0,Cw P N av bor w0 c ⟨params 0 args,pre,X⟩ (ends P fn N fun u R X'=>∃ R',R'.Sublist R∧Post u R' X')):Ct P f args.toArray pre X Post:=Ct.mk fun w av G=>by
 have h1:=(ft (P:=P) (Post:=fun u R X'=>∃ R',R'.Sublist R∧Post u R' X') N hf hb hN hn h).run w av G
 refine h1.mono fun e w' ⟨u,R,X',he,⟨R',hs,hp⟩,G'⟩=>⟨u,R',X',he,hp,G'.drop hs⟩
def coreCl (c:Xg):ByteArray:=textsV [c.actor]++numsV [c.base]++textsV [c.prev]++numsV [c.gen,c.home,c.pub,c.time]
def coreBa (b:Xi):ByteArray:=numsV [b.server]++textsV [b.actor]++numsV [b.gen]++textsV [b.claim]++numsV [b.time]
def coreDe (d:Xr):ByteArray:=numsV [d.server,d.number,d.kind]++textsV [d.actor,d.object,d.text]++listV d.toL++numsV [d.n,d.from_,d.until_]
structure Xg.Lt (c:Xg):Prop where
 base:c.base<9223372036854775808
 gen:c.gen<9223372036854775808
 home:c.home<9223372036854775808
 pub:c.pub<9223372036854775808
 time:c.time<9223372036854775808
 e:c.e<9223372036854775808
 s:c.s<9223372036854775808
structure Xi.Lt (c:Xi):Prop where
 server:c.server<9223372036854775808
 gen:c.gen<9223372036854775808
 time:c.time<9223372036854775808
 e:c.e<9223372036854775808
 s:c.s<9223372036854775808
structure Xr.Lt (c:Xr):Prop where
 server:c.server<9223372036854775808
 number:c.number<9223372036854775808
 kind:c.kind<9223372036854775808
 n:c.n<9223372036854775808
 from_:c.from_<9223372036854775808
 until_:c.until_<9223372036854775808
 e:c.e<9223372036854775808
 s:c.s<9223372036854775808
theorem mW (b:Nat) (A:Option Addr) (c:Nat) (s:ByteArray) (it:Xb) (hl:it.claim.Lt) (hs:s.size+(coreCl it.claim).size≤1099511627776) :
  Ct Tryz.prog 172 #[.pointer (some ⟨b,0,none⟩),it.v] (bld b A c s) (fun _=>True) fun u R _=>∃ A' c',u=.tuple #[]∧R=bld b A' c' (s++coreCl it.claim):=by
 refine jt (args:=[_,_]) _ Tryz.func172 rfl Tryz.ntmps172 rfl fun av bor w0=>?_
 rw [coreCl] at hs ⊢
 simp only [ByteArray.size_append] at hs
 obtain ⟨p0,hp0⟩:∃ p,textsV [it.claim.actor]=p:=⟨_,rfl⟩
 obtain ⟨p1,hp1⟩:∃ p,numsV [it.claim.base]=p:=⟨_,rfl⟩
 obtain ⟨p2,hp2⟩:∃ p,textsV [it.claim.prev]=p:=⟨_,rfl⟩
 obtain ⟨p3,hp3⟩:∃ p,numsV [it.claim.gen,it.claim.home,it.claim.pub,it.claim.time]=p:=⟨_,rfl⟩
 rw [hp0,hp1,hp2,hp3] at hs ⊢
 rw [←ByteArray.append_assoc,←ByteArray.append_assoc,←ByteArray.append_assoc]
 repeat' (first|refine gs ?_|refine gs1 fun _=>?_|(refine aB (vs:=it.claim.cells) (hv:=rfl) ?_)|(refine gp ?_ ?_<;>intro hx_ this)|fail)
 rename_i b3 b4 bs
 refine aW ?_
 refine bX (l:=bld b A c s++[cel b4 39 it.claim.cells,cel b3 45 it.cells]) (by show List.Perm [_,_,_,_] [_,_,_,_];exact (List.perm_append_comm (l₁:=[_,_]) (l₂:=[_,_]))) ?_
 refine aZ (pre:=bld b A c (s)) (fr:=[cel b4 39 it.claim.cells,cel b3 45 it.cells]) (hc:=ej b A c (s) ⟨some ⟨bs,0,none⟩,1,1⟩ [it.claim.actor] (by rw [hp0];(try simp only [ByteArray.size_append]);omega)) (hX:=fun w h=>aR (xs:=[[encB it.claim.actor]]) h.2 rfl (by decide) (by simp)) (h:=?_)
 rintro v R X' ⟨A1,c1,rfl,rfl⟩
 refine bS (X':=(fun _=>True)) (fun w h=>trivial) ?_
 rw [hp0]
 unfold bld
 repeat' (first|refine gs ?_|refine gs1 fun _=>?_|fail)
 rename_i bs
 refine aW ?_
 refine aZ (pre:=bld b A1 c1 (s++p0)) (fr:=[cel b4 39 it.claim.cells,cel b3 45 it.cells]) (hc:=dB b A1 c1 (s++p0) ⟨some ⟨bs,0,none⟩,1,1⟩ [it.claim.base] (by simp;exact hl.base) (by rw [hp1];(try simp only [ByteArray.size_append]);omega)) (hX:=fun w h=>aR (xs:=[[.int .i64 it.claim.base]]) h.2 rfl (by decide) (by simp)) (h:=?_)
 rintro v R X' ⟨A2,c2,rfl,rfl⟩
 refine bS (X':=(fun _=>True)) (fun w h=>trivial) ?_
 rw [hp1]
 unfold bld
 repeat' (first|refine gs ?_|refine gs1 fun _=>?_|fail)
 rename_i bs
 refine aW ?_
 refine aZ (pre:=bld b A2 c2 (s++p0++p1)) (fr:=[cel b4 39 it.claim.cells,cel b3 45 it.cells]) (hc:=ej b A2 c2 (s++p0++p1) ⟨some ⟨bs,0,none⟩,1,1⟩ [it.claim.prev] (by rw [hp2];(try simp only [ByteArray.size_append]);omega)) (hX:=fun w h=>aR (xs:=[[encB it.claim.prev]]) h.2 rfl (by decide) (by simp)) (h:=?_)
 rintro v R X' ⟨A3,c3,rfl,rfl⟩
 refine bS (X':=(fun _=>True)) (fun w h=>trivial) ?_
 rw [hp2]
 unfold bld
 repeat' (first|refine gs ?_|refine gs1 fun _=>?_|fail)
 rename_i bs
 refine aW ?_
 refine aZ (pre:=bld b A3 c3 (s++p0++p1++p2)) (fr:=[cel b4 39 it.claim.cells,cel b3 45 it.cells]) (hc:=dB b A3 c3 (s++p0++p1++p2) ⟨some ⟨bs,0,none⟩,4,4⟩ [it.claim.gen,it.claim.home,it.claim.pub,it.claim.time] (by simp;exact ⟨hl.gen,hl.home,hl.pub,hl.time⟩) (by rw [hp3];(try simp only [ByteArray.size_append]);omega)) (hX:=fun w h=>aR (xs:=[[.int .i64 it.claim.gen],[.int .i64 it.claim.home],[.int .i64 it.claim.pub],[.int .i64 it.claim.time]]) h.2 rfl (by decide) (by simp)) (h:=?_)
 rintro v R X' ⟨A4,c4,rfl,rfl⟩
 refine bS (X':=(fun _=>True)) (fun w h=>trivial) ?_
 rw [hp3]
 repeat' (first|refine gs ?_|refine gs1 fun _=>?_|(refine gp ?_ ?_<;>intro hx_ this)|fail)
 all_goals exact aI (aA rfl) ⟨_,List.sublist_append_left _ _,A4,c4,rfl,rfl⟩
theorem lQ (b:Nat) (A:Option Addr) (c:Nat) (s:ByteArray) (it:Xb) (hl:it.ballot.Lt) (hs:s.size+(coreBa it.ballot).size≤1099511627776) :
  Ct Tryz.prog 173 #[.pointer (some ⟨b,0,none⟩),it.v] (bld b A c s) (fun _=>True) fun u R _=>∃ A' c',u=.tuple #[]∧R=bld b A' c' (s++coreBa it.ballot):=by
 refine jt (args:=[_,_]) _ Tryz.func173 rfl Tryz.ntmps173 rfl fun av bor w0=>?_
 rw [coreBa] at hs ⊢
 simp only [ByteArray.size_append] at hs
 obtain ⟨p0,hp0⟩:∃ p,numsV [it.ballot.server]=p:=⟨_,rfl⟩
 obtain ⟨p1,hp1⟩:∃ p,textsV [it.ballot.actor]=p:=⟨_,rfl⟩
 obtain ⟨p2,hp2⟩:∃ p,numsV [it.ballot.gen]=p:=⟨_,rfl⟩
 obtain ⟨p3,hp3⟩:∃ p,textsV [it.ballot.claim]=p:=⟨_,rfl⟩
 obtain ⟨p4,hp4⟩:∃ p,numsV [it.ballot.time]=p:=⟨_,rfl⟩
 rw [hp0,hp1,hp2,hp3,hp4] at hs ⊢
 rw [←ByteArray.append_assoc,←ByteArray.append_assoc,←ByteArray.append_assoc,←ByteArray.append_assoc]
 repeat' (first|refine gs ?_|refine gs1 fun _=>?_|(refine aB (vs:=it.ballot.cells) (hv:=rfl) ?_)|(refine gp ?_ ?_<;>intro hx_ this)|fail)
 rename_i b3 b4 bs
 refine aW ?_
 refine bX (l:=bld b A c s++[cel b4 41 it.ballot.cells,cel b3 45 it.cells]) (by show List.Perm [_,_,_,_] [_,_,_,_];exact (List.perm_append_comm (l₁:=[_,_]) (l₂:=[_,_]))) ?_
 refine aZ (pre:=bld b A c (s)) (fr:=[cel b4 41 it.ballot.cells,cel b3 45 it.cells]) (hc:=dB b A c (s) ⟨some ⟨bs,0,none⟩,1,1⟩ [it.ballot.server] (by simp;exact hl.server) (by rw [hp0];(try simp only [ByteArray.size_append]);omega)) (hX:=fun w h=>aR (xs:=[[.int .i64 it.ballot.server]]) h.2 rfl (by decide) (by simp)) (h:=?_)
 rintro v R X' ⟨A1,c1,rfl,rfl⟩
 refine bS (X':=(fun _=>True)) (fun w h=>trivial) ?_
 rw [hp0]
 unfold bld
 repeat' (first|refine gs ?_|refine gs1 fun _=>?_|fail)
 rename_i bs
 refine aW ?_
 refine aZ (pre:=bld b A1 c1 (s++p0)) (fr:=[cel b4 41 it.ballot.cells,cel b3 45 it.cells]) (hc:=ej b A1 c1 (s++p0) ⟨some ⟨bs,0,none⟩,1,1⟩ [it.ballot.actor] (by rw [hp1];(try simp only [ByteArray.size_append]);omega)) (hX:=fun w h=>aR (xs:=[[encB it.ballot.actor]]) h.2 rfl (by decide) (by simp)) (h:=?_)
 rintro v R X' ⟨A2,c2,rfl,rfl⟩
 refine bS (X':=(fun _=>True)) (fun w h=>trivial) ?_
 rw [hp1]
 unfold bld
 repeat' (first|refine gs ?_|refine gs1 fun _=>?_|fail)
 rename_i bs
 refine aW ?_
 refine aZ (pre:=bld b A2 c2 (s++p0++p1)) (fr:=[cel b4 41 it.ballot.cells,cel b3 45 it.cells]) (hc:=dB b A2 c2 (s++p0++p1) ⟨some ⟨bs,0,none⟩,1,1⟩ [it.ballot.gen] (by simp;exact hl.gen) (by rw [hp2];(try simp only [ByteArray.size_append]);omega)) (hX:=fun w h=>aR (xs:=[[.int .i64 it.ballot.gen]]) h.2 rfl (by decide) (by simp)) (h:=?_)
 rintro v R X' ⟨A3,c3,rfl,rfl⟩
 refine bS (X':=(fun _=>True)) (fun w h=>trivial) ?_
 rw [hp2]
 unfold bld
 repeat' (first|refine gs ?_|refine gs1 fun _=>?_|fail)
 rename_i bs
 refine aW ?_
 refine aZ (pre:=bld b A3 c3 (s++p0++p1++p2)) (fr:=[cel b4 41 it.ballot.cells,cel b3 45 it.cells]) (hc:=ej b A3 c3 (s++p0++p1++p2) ⟨some ⟨bs,0,none⟩,1,1⟩ [it.ballot.claim] (by rw [hp3];(try simp only [ByteArray.size_append]);omega)) (hX:=fun w h=>aR (xs:=[[encB it.ballot.claim]]) h.2 rfl (by decide) (by simp)) (h:=?_)
 rintro v R X' ⟨A4,c4,rfl,rfl⟩
 refine bS (X':=(fun _=>True)) (fun w h=>trivial) ?_
 rw [hp3]
 unfold bld
 repeat' (first|refine gs ?_|refine gs1 fun _=>?_|fail)
 rename_i bs
 refine aW ?_
 refine aZ (pre:=bld b A4 c4 (s++p0++p1++p2++p3)) (fr:=[cel b4 41 it.ballot.cells,cel b3 45 it.cells]) (hc:=dB b A4 c4 (s++p0++p1++p2++p3) ⟨some ⟨bs,0,none⟩,1,1⟩ [it.ballot.time] (by simp;exact hl.time) (by rw [hp4];(try simp only [ByteArray.size_append]);omega)) (hX:=fun w h=>aR (xs:=[[.int .i64 it.ballot.time]]) h.2 rfl (by decide) (by simp)) (h:=?_)
 rintro v R X' ⟨A5,c5,rfl,rfl⟩
 refine bS (X':=(fun _=>True)) (fun w h=>trivial) ?_
 rw [hp4]
 repeat' (first|refine gs ?_|refine gs1 fun _=>?_|(refine gp ?_ ?_<;>intro hx_ this)|fail)
 all_goals exact aI (aA rfl) ⟨_,List.sublist_append_left _ _,A5,c5,rfl,rfl⟩
theorem iS (b:Nat) (A:Option Addr) (c:Nat) (s:ByteArray) (it:Xb) (hl:it.dec.Lt) (hs:s.size+(coreDe it.dec).size≤1099511627776) :
  Ct Tryz.prog 174 #[.pointer (some ⟨b,0,none⟩),it.v] (bld b A c s) (fun w=>it.at_ w) fun u R _=>∃ A' c',u=.tuple #[]∧R=bld b A' c' (s++coreDe it.dec):=by
 refine jt (args:=[_,_]) _ Tryz.func174 rfl Tryz.ntmps174 rfl fun av bor w0=>?_
 rw [coreDe] at hs ⊢
 simp only [ByteArray.size_append] at hs
 obtain ⟨p0,hp0⟩:∃ p,numsV [it.dec.server,it.dec.number,it.dec.kind]=p:=⟨_,rfl⟩
 obtain ⟨p1,hp1⟩:∃ p,textsV [it.dec.actor,it.dec.object,it.dec.text]=p:=⟨_,rfl⟩
 obtain ⟨p2,hp2⟩:∃ p,listV it.dec.toL=p:=⟨_,rfl⟩
 obtain ⟨p3,hp3⟩:∃ p,numsV [it.dec.n,it.dec.from_,it.dec.until_]=p:=⟨_,rfl⟩
 rw [hp0,hp1,hp2,hp3] at hs ⊢
 rw [←ByteArray.append_assoc,←ByteArray.append_assoc,←ByteArray.append_assoc]
 repeat' (first|refine gs ?_|refine gs1 fun _=>?_|(refine aB (vs:=it.dec.cells) (hv:=rfl) ?_)|(refine gp ?_ ?_<;>intro hx_ this)|fail)
 rename_i b3 b4 bs
 refine aW ?_
 refine bX (l:=bld b A c s++[cel b4 43 it.dec.cells,cel b3 45 it.cells]) (by show List.Perm [_,_,_,_] [_,_,_,_];exact (List.perm_append_comm (l₁:=[_,_]) (l₂:=[_,_]))) ?_
 refine aZ (pre:=bld b A c (s)) (fr:=[cel b4 43 it.dec.cells,cel b3 45 it.cells]) (hc:=dB b A c (s) ⟨some ⟨bs,0,none⟩,3,3⟩ [it.dec.server,it.dec.number,it.dec.kind] (by simp;exact ⟨hl.server,hl.number,hl.kind⟩) (by rw [hp0];(try simp only [ByteArray.size_append]);omega)) (hX:=fun w h=>aR (xs:=[[.int .i64 it.dec.server],[.int .i64 it.dec.number],[.int .i64 it.dec.kind]]) h.2 rfl (by decide) (by simp)) (h:=?_)
 rintro v R X' ⟨A1,c1,rfl,rfl⟩
 refine bS (X':=(fun w=>it.at_ w)) (fun w h=>h.1.1) ?_
 rw [hp0]
 unfold bld
 repeat' (first|refine gs ?_|refine gs1 fun _=>?_|fail)
 rename_i bs
 refine aW ?_
 refine aZ (pre:=bld b A1 c1 (s++p0)) (fr:=[cel b4 43 it.dec.cells,cel b3 45 it.cells]) (hc:=ej b A1 c1 (s++p0) ⟨some ⟨bs,0,none⟩,3,3⟩ [it.dec.actor,it.dec.object,it.dec.text] (by rw [hp1];(try simp only [ByteArray.size_append]);omega)) (hX:=fun w h=>aR (xs:=[[encB it.dec.actor],[encB it.dec.object],[encB it.dec.text]]) h.2 rfl (by decide) (by simp)) (h:=?_)
 rintro v R X' ⟨A2,c2,rfl,rfl⟩
 refine bS (X':=(fun w=>it.at_ w)) (fun w h=>h.1.1) ?_
 rw [hp1]
 have hli:=nV it.dec.to it.dec.toL (by rw [hp2];omega)
 rw [hp2] at hli
 unfold bld
 have hsz:(s++p0++p1).size+p2.size≤1099511627776:=by simp only [ByteArray.size_append];omega
 generalize hgo:s++p0++p1=out at *
 have hos:out.size=s.size+p0.size+p1.size:=by rw [←hgo];simp only [ByteArray.size_append]
 repeat' (first|refine gs ?_|refine gs1 fun _=>?_|fail)
 simp only [List.cons_append,List.nil_append]
 (refine ao ⟨[0,1,2,3,5,6],[(4,⟨[],[(7,⟨[],[(8,⟨[9,10],[(11,⟨[],[]⟩)]⟩)]⟩)]⟩),(7,⟨[],[(4,⟨[],[(8,⟨[9,10],[(11,⟨[],[]⟩)]⟩)]⟩)]⟩)]⟩ [cel b4 43 it.dec.cells] (fun w=>it.at_ w) (h:=?_))
 all_goals repeat' (first|(refine ag (hc:=hli) ?_)|refine gd ?_|refine ay ?_ (h':=?_)|exact az|(refine fU ?_;refine aC (size:=1) (z:=.int .u8 0) rfl rfl rfl rfl (fun _=>At.there _ (At.here _)) (fun w G=>gM aa) aa (by simp only [maxLen];omega) rfl ?_ rfl ?_;(first|with_reducible rfl|with_reducible assumption|with_reducible exact Bool.not_false|with_reducible exact Bool.not_true);intro A3 c3)|refine gs1 fun _=>?_|(refine gq ?_ ?_<;>intro hx_ this)|fail)
 all_goals
  have eb:bld b A3 c3 (out++p2)=[cel b 172 ([(.slice A2 out.size c2:Value)].set 0 (.slice A3 (out.size+p2.size) c3)),orow 5 1 (.slice A3 (out.size+p2.size) c3) (out.size+p2.size) (u8s (bytesI out)++u8s (bytesI p2))]:=by simp [bld,ByteArray.size_append,cY,bU]
  repeat' (first|refine gs ?_|refine gs1 fun _=>?_|fail)
  rename_i bs
  refine aW ?_
  refine bX (l:=bld b A3 c3 (out++p2)++[cel b4 43 it.dec.cells,cel b3 45 it.cells]) (by rw [eb];exact List.Perm.refl _) ?_
  refine aZ (pre:=bld b A3 c3 (out++p2)) (fr:=[cel b4 43 it.dec.cells,cel b3 45 it.cells]) (hc:=dB b A3 c3 (out++p2) ⟨some ⟨bs,0,none⟩,3,3⟩ [it.dec.n,it.dec.from_,it.dec.until_] (by simp;exact ⟨hl.n,hl.from_,hl.until_⟩) (by rw [hp3];(try simp only [ByteArray.size_append]);omega)) (hX:=fun w h=>aR (xs:=[[.int .i64 it.dec.n],[.int .i64 it.dec.from_],[.int .i64 it.dec.until_]]) h.2 rfl (by decide) (by simp)) (h:=?_)
  rintro v R X' ⟨A4,c4,rfl,rfl⟩
  refine bS (X':=(fun w=>it.at_ w)) (fun w h=>h.1.1) ?_
  rw [hp3]
  repeat' (first|refine gs ?_|refine gs1 fun _=>?_|(refine gp ?_ ?_<;>intro hx_ this)|fail)
  all_goals exact aI (aA rfl) ⟨_,List.sublist_append_left _ _,A4,c4,rfl,rfl⟩
end Go.Proofs.YtggionfjlgfihaaGreatDoor
