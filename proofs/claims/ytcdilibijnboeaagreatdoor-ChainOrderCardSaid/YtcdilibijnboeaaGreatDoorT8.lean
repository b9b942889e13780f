/- Joined by program out of: Zd Io Jf Ze Bc Ua Ub Uc Ud Pd Pf Pb Pg Nq Nt Ph Rx Ci Ks Rl Ro Me We Fs Rp Rb Hp Nu Ue. -/
import Derived.Test.YtcdilibijnboeaaGreatDoorT7
set_option linter.unusedVariables false
set_option linter.unusedSimpArgs false
namespace Go.Proofs.YtcdilibijnboeaaGreatDoor
open Go Go.Proofs Sy
def textsV (l:List ByteArray):ByteArray:=cats (l.map textV)
structure TxtS (n:Nat) where
 k:Nat
 hk:k≤n
 A:Option Addr
 c:Nat
theorem eQ (b:Nat) (A:Option Addr) (c:Nat) (s:ByteArray) (sl:SlV) (l:List ByteArray) (hs:s.size+(textsV l).size≤1099511627776) :
  Ct Tryz.prog 184 #[.pointer (some ⟨b,0,none⟩),sl.v] (bld b A c s) (fun w=>Strs w sl l) fun u R _=>∃ A' c',u=.tuple #[]∧R=bld b A' c' (s++textsV l):=by
 refine cd (args:=[_,_]) _ Tryz.func184 rfl Tryz.ntmps184 rfl fun av bor w0=>?_
 refine bJ (p:=sl.n=l.length∧sl.n≤maxLen∧(0<l.length→sl.p.isSome=true)) (fun w h=>⟨h.len_,Qp (RowsD.cap h) (RowsD.max h),h.some_⟩) fun ⟨hn,hm,hp⟩=>?_
 simp only [maxLen] at hm
 repeat' (first|apply ab|apply Qt|apply Qu|refine aj ?_|refine aY ?_|apply Qv|fail)
 have hle:=eO (l.map textV)
 have e0:s++cats ((l.map textV).take 0)=s:=by simp [cats]
 have hs':s.size+(cats (l.map textV)).size≤1099511627776:=hs
 refine aU (ι:=TxtS l.length) (fun i=>⟨[(0,.pointer (some ⟨b,0,none⟩)),(6,sl.v),(7,.int .i64 sl.n),(8,.int .i64 i.k)],bld b i.A i.c (s++cats ((l.map textV).take i.k)),fun w=>Strs w sl l⟩) (fun i=>l.length-i.k) ⟨0,Nat.zero_le _,A,c⟩ (ax ⟨rfl,rfl,rfl,rfl,trivial⟩ (by rw [e0];exact aE _) fun _ h=>h) fun i=>?_
 have hik:=i.hk
 have hout:(s++cats ((l.map textV).take i.k)).size≤1099511627776:=by rw [Zl];have:=hle i.k;omega
 have hout2:(s++cats ((l.map textV).take (i.k+1))).size≤1099511627776:=by rw [Zl];have:=hle (i.k+1);omega
 generalize ho:s++cats ((l.map textV).take i.k)=out at *
 unfold bld
 repeat' (first|apply ab|apply Qt|apply Qu|refine bj ?_|apply Qw|apply Qv|apply aQ|(refine aH (ht:=?_) (hf:=?_);all_goals (intro hx_;first|have:=aP hx_|have:=aT hx_)))
 · have hlt:i.k<l.length:=by omega
   have hp':=hp ae
   obtain ⟨x,hx⟩:∃ x,l[i.k]?=some x:=⟨_,Zm hlt⟩
   have hsucc:=fg (l.map textV) (k:=i.k) (by simpa using hlt)
   have hget:(l.map textV).getD i.k .empty=textV x:=by simp [hx]
   rw [hget] at hsucc
   have e2:s++cats ((l.map textV).take (i.k+1))=out++textV x:=by rw [hsucc,←ZV,ho]
   have hxs:out.size+(textV x).size≤1099511627776:=by rw [e2,Zl] at hout2;exact hout2
   have hxx:x.size≤1099511627776:=by rw [textV,Zl] at hxs;omega
   repeat' (first|apply ab|refine ad ?_|(refine bx (q:=i.k) ?_)|(refine dP (u:=.string x) (hF:=fun w h=>h.at_ hx) ?_)|fail)
   (refine aS [] (fun _=>True) ak ?_)
   all_goals refine aa 0 ?_<;>refine aa 1 ?_<;>refine aa 2 ?_<;>refine aa 3 ?_<;>refine aa 5 ?_<;>(refine bw 4 6 (h:=?_) (h':=?_);(focus (((refine aA ?_);apply ab;refine ai ?_);all_goals ((refine ag 6 ?_;(refine ao (hc:=dE _ ae) ?_);apply ab;refine ai ?_);all_goals (refine ag 7 ?_;(refine aV (size:=1) (z:=.int .u8 0) rfl rfl rfl rfl (fun _=>At.there _ (At.here _)) (fun w G=>d9 ae) ae (by simp only [maxLen];omega) rfl ?_ rfl ?_;(with_reducible rfl);intro A1 c1);apply ab;refine ai ?_);all_goals (refine aa 8 ?_);all_goals (refine aa 9 ?_);all_goals (refine ag 10 ?_;(refine bc ?_);apply ab;refine ai ?_);all_goals (refine aw ?_))));rotate_right;(focus (((refine ao (hc:=dE _ ae) ?_);apply ab;refine ai ?_);all_goals ((refine ag 4 ?_;(refine aA ?_);apply ab;refine ai ?_);all_goals (refine ag 7 ?_;(refine aV (size:=1) (z:=.int .u8 0) rfl rfl rfl rfl (fun _=>At.there _ (At.here _)) (fun w G=>d9 ae) ae (by simp only [maxLen];omega) rfl ?_ rfl ?_;(with_reducible rfl);intro A1 c1);apply ab;refine ai ?_);all_goals (refine aa 8 ?_);all_goals (refine aa 9 ?_);all_goals (refine ag 10 ?_;(refine bc ?_);apply ab;refine ai ?_);all_goals (refine aw ?_)))))<;>(repeat' (first|apply ab|apply Qu|refine aj ?_|refine be (h:=?_)|fail))
   all_goals exact ⟨(⟨i.k+1,hlt,A1,c1⟩:TxtS l.length),(by show l.length-(i.k+1)<l.length-i.k;omega),ax ⟨rfl,rfl,rfl,rfl,trivial⟩ (by
    show List.Sublist (bld b A1 c1 (s++cats ((l.map textV).take (i.k+1)))) _
    rw [e2]
    simp only [bld,Zl,dO,cu]
    exact aE _) fun _ h=>h⟩
 · have hk:i.k=l.length:=by omega
   refine bY (bL rfl) ⟨i.A,i.c,rfl,?_⟩
   rw [textsV,←ho,hk,List.take_of_length_le (by simp)]
theorem d4 {P:Program} {f:FuncId} {fn:Func} {c:Code} {args:List Value} {pre:List Res} {X:World→Prop} {Post:Value→List Res→(World→Prop)→Prop} (N:Nat)
  (hf:P.funcs[f]?=some fn) (hb:fn.body=some c) (hN:fn.ntmps=N) (hn:Nat.ble args.length N=true)
  (h:∀ av bor w0,Cw P N av bor w0 c ⟨params 0 args,pre,X⟩ (ends P fn N fun u R X'=>∃ R',R'.Sublist R∧Post u R' X')):Ct P f args.toArray pre X Post:=Ct.mk fun w av G=>by
 have h1:=(cd (P:=P) (Post:=fun u R X'=>∃ R',R'.Sublist R∧Post u R' X') N hf hb hN hn h).run w av G
 refine h1.mono fun e w' ⟨u,R,X',he,⟨R',hs,hp⟩,G'⟩=>⟨u,R',X',he,hp,G'.drop hs⟩
def coreCl (c:ClaimD):ByteArray:=textsV [c.actor]++numsV [c.base]++textsV [c.prev]++numsV [c.gen,c.home,c.pub,c.time]
def coreBa (b:BallotD):ByteArray:=numsV [b.server]++textsV [b.actor]++numsV [b.gen]++textsV [b.claim]++numsV [b.time]
def coreDe (d:DecD):ByteArray:=numsV [d.server,d.number,d.kind]++textsV [d.actor,d.object,d.text]++listV d.toL++numsV [d.n,d.from_,d.until_]
structure ClaimD.Lt (c:ClaimD):Prop where
 base:c.base<9223372036854775808
 gen:c.gen<9223372036854775808
 home:c.home<9223372036854775808
 pub:c.pub<9223372036854775808
 time:c.time<9223372036854775808
 e:c.e<9223372036854775808
 s:c.s<9223372036854775808
structure BallotD.Lt (c:BallotD):Prop where
 server:c.server<9223372036854775808
 gen:c.gen<9223372036854775808
 time:c.time<9223372036854775808
 e:c.e<9223372036854775808
 s:c.s<9223372036854775808
structure DecD.Lt (c:DecD):Prop where
 server:c.server<9223372036854775808
 number:c.number<9223372036854775808
 kind:c.kind<9223372036854775808
 n:c.n<9223372036854775808
 from_:c.from_<9223372036854775808
 until_:c.until_<9223372036854775808
 e:c.e<9223372036854775808
 s:c.s<9223372036854775808
set_option maxHeartbeats 8000000 in
theorem nd (b:Nat) (A:Option Addr) (c:Nat) (s:ByteArray) (it:ItemD) (hl:it.claim.Lt) (hs:s.size+(coreCl it.claim).size≤1099511627776) :
  Ct Tryz.prog 110 #[.pointer (some ⟨b,0,none⟩),it.v] (bld b A c s) (fun _=>True) fun u R _=>∃ A' c',u=.tuple #[]∧R=bld b A' c' (s++coreCl it.claim):=by
 refine d4 (args:=[_,_]) _ Tryz.func110 rfl Tryz.ntmps110 rfl fun av bor w0=>?_
 rw [coreCl] at hs ⊢
 simp only [Zl] at hs
 obtain ⟨p0,hp0⟩:∃ p,textsV [it.claim.actor]=p:=⟨_,rfl⟩
 obtain ⟨p1,hp1⟩:∃ p,numsV [it.claim.base]=p:=⟨_,rfl⟩
 obtain ⟨p2,hp2⟩:∃ p,textsV [it.claim.prev]=p:=⟨_,rfl⟩
 obtain ⟨p3,hp3⟩:∃ p,numsV [it.claim.gen,it.claim.home,it.claim.pub,it.claim.time]=p:=⟨_,rfl⟩
 rw [hp0,hp1,hp2,hp3] at hs ⊢
 rw [←ZV,←ZV,←ZV]
 repeat' (first|apply ab|apply Qt|apply Qu|refine aj ?_|refine aB ?_|refine aA ?_|refine aM fun _=>?_|refine aL fun _=>?_|refine bS fun _=>?_|refine aK ?_|(refine aW (vs:=it.claim.cells) (hv:=rfl) ?_)|fail)
 rename_i b3 b4 bs
 refine co ?_
 refine dc (l:=bld b A c s++[cel b4 51 it.claim.cells,cel b3 57 it.cells]) (by show List.Perm [_,_,_,_] [_,_,_,_];exact (List.perm_append_comm (l₁:=[_,_]) (l₂:=[_,_]))) ?_
 refine cw (pre:=bld b A c (s)) (fr:=[cel b4 51 it.claim.cells,cel b3 57 it.cells]) (hc:=eQ b A c (s) ⟨some ⟨bs,0,none⟩,1,1⟩ [it.claim.actor] (by rw [hp0];(try simp only [Zl]);omega)) (hX:=fun w h=>bK (xs:=[[encB it.claim.actor]]) h.2 rfl (by decide) (by simp)) (h:=?_)
 rintro v R X' ⟨A1,c1,rfl,rfl⟩
 refine cP (X':=(fun _=>True)) (fun w h=>trivial) ?_
 rw [hp0]
 unfold bld
 repeat' (first|apply ab|apply Qt|apply Qu|refine aj ?_|refine aB ?_|refine aA ?_|refine bS fun _=>?_|fail)
 rename_i bs
 refine co ?_
 refine cw (pre:=bld b A1 c1 (s++p0)) (fr:=[cel b4 51 it.claim.cells,cel b3 57 it.cells]) (hc:=ea b A1 c1 (s++p0) ⟨some ⟨bs,0,none⟩,1,1⟩ [it.claim.base] (by simp;exact hl.base) (by rw [hp1];(try simp only [Zl]);omega)) (hX:=fun w h=>bK (xs:=[[.int .i64 it.claim.base]]) h.2 rfl (by decide) (by simp)) (h:=?_)
 rintro v R X' ⟨A2,c2,rfl,rfl⟩
 refine cP (X':=(fun _=>True)) (fun w h=>trivial) ?_
 rw [hp1]
 unfold bld
 repeat' (first|apply ab|apply Qt|apply Qu|refine aj ?_|refine aB ?_|refine aA ?_|refine bS fun _=>?_|fail)
 rename_i bs
 refine co ?_
 refine cw (pre:=bld b A2 c2 (s++p0++p1)) (fr:=[cel b4 51 it.claim.cells,cel b3 57 it.cells]) (hc:=eQ b A2 c2 (s++p0++p1) ⟨some ⟨bs,0,none⟩,1,1⟩ [it.claim.prev] (by rw [hp2];(try simp only [Zl]);omega)) (hX:=fun w h=>bK (xs:=[[encB it.claim.prev]]) h.2 rfl (by decide) (by simp)) (h:=?_)
 rintro v R X' ⟨A3,c3,rfl,rfl⟩
 refine cP (X':=(fun _=>True)) (fun w h=>trivial) ?_
 rw [hp2]
 unfold bld
 repeat' (first|apply ab|apply Qu|refine aj ?_|refine aB ?_|refine aA ?_|refine bS fun _=>?_|fail)
 rename_i bs
 refine co ?_
 refine cw (pre:=bld b A3 c3 (s++p0++p1++p2)) (fr:=[cel b4 51 it.claim.cells,cel b3 57 it.cells]) (hc:=ea b A3 c3 (s++p0++p1++p2) ⟨some ⟨bs,0,none⟩,4,4⟩ [it.claim.gen,it.claim.home,it.claim.pub,it.claim.time] (by simp;exact ⟨hl.gen,hl.home,hl.pub,hl.time⟩) (by rw [hp3];(try simp only [Zl]);omega)) (hX:=fun w h=>bK (xs:=[[.int .i64 it.claim.gen],[.int .i64 it.claim.home],[.int .i64 it.claim.pub],[.int .i64 it.claim.time]]) h.2 rfl (by decide) (by simp)) (h:=?_)
 rintro v R X' ⟨A4,c4,rfl,rfl⟩
 refine cP (X':=(fun _=>True)) (fun w h=>trivial) ?_
 rw [hp3]
 repeat' (first|apply ab|fail)
 all_goals exact bY (bL rfl) ⟨_,List.sublist_append_left _ _,A4,c4,rfl,rfl⟩
set_option maxHeartbeats 8000000 in
theorem l8 (b:Nat) (A:Option Addr) (c:Nat) (s:ByteArray) (it:ItemD) (hl:it.ballot.Lt) (hs:s.size+(coreBa it.ballot).size≤1099511627776) :
  Ct Tryz.prog 111 #[.pointer (some ⟨b,0,none⟩),it.v] (bld b A c s) (fun _=>True) fun u R _=>∃ A' c',u=.tuple #[]∧R=bld b A' c' (s++coreBa it.ballot):=by
 refine d4 (args:=[_,_]) _ Tryz.func111 rfl Tryz.ntmps111 rfl fun av bor w0=>?_
 rw [coreBa] at hs ⊢
 simp only [Zl] at hs
 obtain ⟨p0,hp0⟩:∃ p,numsV [it.ballot.server]=p:=⟨_,rfl⟩
 obtain ⟨p1,hp1⟩:∃ p,textsV [it.ballot.actor]=p:=⟨_,rfl⟩
 obtain ⟨p2,hp2⟩:∃ p,numsV [it.ballot.gen]=p:=⟨_,rfl⟩
 obtain ⟨p3,hp3⟩:∃ p,textsV [it.ballot.claim]=p:=⟨_,rfl⟩
 obtain ⟨p4,hp4⟩:∃ p,numsV [it.ballot.time]=p:=⟨_,rfl⟩
 rw [hp0,hp1,hp2,hp3,hp4] at hs ⊢
 rw [←ZV,←ZV,←ZV,←ZV]
 repeat' (first|apply ab|apply Qt|apply Qu|refine aj ?_|refine aB ?_|refine aA ?_|refine aM fun _=>?_|refine aL fun _=>?_|refine bS fun _=>?_|refine aK ?_|(refine aW (vs:=it.ballot.cells) (hv:=rfl) ?_)|fail)
 rename_i b3 b4 bs
 refine co ?_
 refine dc (l:=bld b A c s++[cel b4 53 it.ballot.cells,cel b3 57 it.cells]) (by show List.Perm [_,_,_,_] [_,_,_,_];exact (List.perm_append_comm (l₁:=[_,_]) (l₂:=[_,_]))) ?_
 refine cw (pre:=bld b A c (s)) (fr:=[cel b4 53 it.ballot.cells,cel b3 57 it.cells]) (hc:=ea b A c (s) ⟨some ⟨bs,0,none⟩,1,1⟩ [it.ballot.server] (by simp;exact hl.server) (by rw [hp0];(try simp only [Zl]);omega)) (hX:=fun w h=>bK (xs:=[[.int .i64 it.ballot.server]]) h.2 rfl (by decide) (by simp)) (h:=?_)
 rintro v R X' ⟨A1,c1,rfl,rfl⟩
 refine cP (X':=(fun _=>True)) (fun w h=>trivial) ?_
 rw [hp0]
 unfold bld
 repeat' (first|apply ab|apply Qt|apply Qu|refine aj ?_|refine aB ?_|refine aA ?_|refine bS fun _=>?_|fail)
 rename_i bs
 refine co ?_
 refine cw (pre:=bld b A1 c1 (s++p0)) (fr:=[cel b4 53 it.ballot.cells,cel b3 57 it.cells]) (hc:=eQ b A1 c1 (s++p0) ⟨some ⟨bs,0,none⟩,1,1⟩ [it.ballot.actor] (by rw [hp1];(try simp only [Zl]);omega)) (hX:=fun w h=>bK (xs:=[[encB it.ballot.actor]]) h.2 rfl (by decide) (by simp)) (h:=?_)
 rintro v R X' ⟨A2,c2,rfl,rfl⟩
 refine cP (X':=(fun _=>True)) (fun w h=>trivial) ?_
 rw [hp1]
 unfold bld
 repeat' (first|apply ab|apply Qt|apply Qu|refine aj ?_|refine aB ?_|refine aA ?_|refine bS fun _=>?_|fail)
 rename_i bs
 refine co ?_
 refine cw (pre:=bld b A2 c2 (s++p0++p1)) (fr:=[cel b4 53 it.ballot.cells,cel b3 57 it.cells]) (hc:=ea b A2 c2 (s++p0++p1) ⟨some ⟨bs,0,none⟩,1,1⟩ [it.ballot.gen] (by simp;exact hl.gen) (by rw [hp2];(try simp only [Zl]);omega)) (hX:=fun w h=>bK (xs:=[[.int .i64 it.ballot.gen]]) h.2 rfl (by decide) (by simp)) (h:=?_)
 rintro v R X' ⟨A3,c3,rfl,rfl⟩
 refine cP (X':=(fun _=>True)) (fun w h=>trivial) ?_
 rw [hp2]
 unfold bld
 repeat' (first|apply ab|apply Qt|apply Qu|refine aj ?_|refine aB ?_|refine aA ?_|refine bS fun _=>?_|fail)
 rename_i bs
 refine co ?_
 refine cw (pre:=bld b A3 c3 (s++p0++p1++p2)) (fr:=[cel b4 53 it.ballot.cells,cel b3 57 it.cells]) (hc:=eQ b A3 c3 (s++p0++p1++p2) ⟨some ⟨bs,0,none⟩,1,1⟩ [it.ballot.claim] (by rw [hp3];(try simp only [Zl]);omega)) (hX:=fun w h=>bK (xs:=[[encB it.ballot.claim]]) h.2 rfl (by decide) (by simp)) (h:=?_)
 rintro v R X' ⟨A4,c4,rfl,rfl⟩
 refine cP (X':=(fun _=>True)) (fun w h=>trivial) ?_
 rw [hp3]
 unfold bld
 repeat' (first|apply ab|apply Qu|refine aj ?_|refine aB ?_|refine aA ?_|refine bS fun _=>?_|fail)
 rename_i bs
 refine co ?_
 refine cw (pre:=bld b A4 c4 (s++p0++p1++p2++p3)) (fr:=[cel b4 53 it.ballot.cells,cel b3 57 it.cells]) (hc:=ea b A4 c4 (s++p0++p1++p2++p3) ⟨some ⟨bs,0,none⟩,1,1⟩ [it.ballot.time] (by simp;exact hl.time) (by rw [hp4];(try simp only [Zl]);omega)) (hX:=fun w h=>bK (xs:=[[.int .i64 it.ballot.time]]) h.2 rfl (by decide) (by simp)) (h:=?_)
 rintro v R X' ⟨A5,c5,rfl,rfl⟩
 refine cP (X':=(fun _=>True)) (fun w h=>trivial) ?_
 rw [hp4]
 repeat' (first|apply ab|fail)
 all_goals exact bY (bL rfl) ⟨_,List.sublist_append_left _ _,A5,c5,rfl,rfl⟩
set_option maxHeartbeats 8000000 in
theorem iS (b:Nat) (A:Option Addr) (c:Nat) (s:ByteArray) (it:ItemD) (hl:it.dec.Lt) (hs:s.size+(coreDe it.dec).size≤1099511627776) :
  Ct Tryz.prog 112 #[.pointer (some ⟨b,0,none⟩),it.v] (bld b A c s) (fun w=>it.at_ w) fun u R _=>∃ A' c',u=.tuple #[]∧R=bld b A' c' (s++coreDe it.dec):=by
 refine d4 (args:=[_,_]) _ Tryz.func112 rfl Tryz.ntmps112 rfl fun av bor w0=>?_
 rw [coreDe] at hs ⊢
 simp only [Zl] at hs
 obtain ⟨p0,hp0⟩:∃ p,numsV [it.dec.server,it.dec.number,it.dec.kind]=p:=⟨_,rfl⟩
 obtain ⟨p1,hp1⟩:∃ p,textsV [it.dec.actor,it.dec.object,it.dec.text]=p:=⟨_,rfl⟩
 obtain ⟨p2,hp2⟩:∃ p,listV it.dec.toL=p:=⟨_,rfl⟩
 obtain ⟨p3,hp3⟩:∃ p,numsV [it.dec.n,it.dec.from_,it.dec.until_]=p:=⟨_,rfl⟩
 rw [hp0,hp1,hp2,hp3] at hs ⊢
 rw [←ZV,←ZV,←ZV]
 repeat' (first|apply ab|apply Qt|apply Qu|refine aj ?_|refine aB ?_|refine aA ?_|refine aM fun _=>?_|refine aL fun _=>?_|refine bS fun _=>?_|refine aK ?_|(refine aW (vs:=it.dec.cells) (hv:=rfl) ?_)|fail)
 rename_i b3 b4 bs
 refine co ?_
 refine dc (l:=bld b A c s++[cel b4 55 it.dec.cells,cel b3 57 it.cells]) (by show List.Perm [_,_,_,_] [_,_,_,_];exact (List.perm_append_comm (l₁:=[_,_]) (l₂:=[_,_]))) ?_
 refine cw (pre:=bld b A c (s)) (fr:=[cel b4 55 it.dec.cells,cel b3 57 it.cells]) (hc:=ea b A c (s) ⟨some ⟨bs,0,none⟩,3,3⟩ [it.dec.server,it.dec.number,it.dec.kind] (by simp;exact ⟨hl.server,hl.number,hl.kind⟩) (by rw [hp0];(try simp only [Zl]);omega)) (hX:=fun w h=>bK (xs:=[[.int .i64 it.dec.server],[.int .i64 it.dec.number],[.int .i64 it.dec.kind]]) h.2 rfl (by decide) (by simp)) (h:=?_)
 rintro v R X' ⟨A1,c1,rfl,rfl⟩
 refine cP (X':=(fun w=>it.at_ w)) (fun w h=>h.1.1) ?_
 rw [hp0]
 unfold bld
 repeat' (first|apply ab|apply Qt|apply Qu|refine aj ?_|refine aB ?_|refine aA ?_|refine bS fun _=>?_|fail)
 rename_i bs
 refine co ?_
 refine cw (pre:=bld b A1 c1 (s++p0)) (fr:=[cel b4 55 it.dec.cells,cel b3 57 it.cells]) (hc:=eQ b A1 c1 (s++p0) ⟨some ⟨bs,0,none⟩,3,3⟩ [it.dec.actor,it.dec.object,it.dec.text] (by rw [hp1];(try simp only [Zl]);omega)) (hX:=fun w h=>bK (xs:=[[encB it.dec.actor],[encB it.dec.object],[encB it.dec.text]]) h.2 rfl (by decide) (by simp)) (h:=?_)
 rintro v R X' ⟨A2,c2,rfl,rfl⟩
 refine cP (X':=(fun w=>it.at_ w)) (fun w h=>h.1.1) ?_
 rw [hp1]
 have hli:=tb it.dec.to it.dec.toL (by rw [hp2];omega)
 rw [hp2] at hli
 unfold bld
 have hsz:(s++p0++p1).size+p2.size≤1099511627776:=by simp only [Zl];omega
 generalize hgo:s++p0++p1=out at *
 have hos:out.size=s.size+p0.size+p1.size:=by rw [←hgo];simp only [Zl]
 repeat' (first|apply ab|apply Qt|fail)
 simp only [Z9,Qa]
 (refine aS [cel b4 55 it.dec.cells] (fun w=>it.at_ w) ak ?_)
 all_goals refine aa 0 ?_<;>refine aa 1 ?_<;>refine aa 2 ?_<;>refine aa 3 ?_<;>refine aa 5 ?_<;>refine aa 6 ?_<;>(refine bw 4 7 (h:=?_) (h':=?_);(focus (((refine aA ?_);apply ab;refine ai ?_);all_goals ((refine ag 7 ?_;(refine ao (hc:=hli) (hX:=fun w h=>h.2) ?_);apply ab;refine ai ?_);all_goals (refine ag 8 ?_;(refine aV (size:=1) (z:=.int .u8 0) rfl rfl rfl rfl (fun _=>At.there _ (At.here _)) (fun w G=>d9 ae) ae (by simp only [maxLen];omega) rfl ?_ rfl ?_;(with_reducible rfl);intro A3 c3);apply ab;refine ai ?_);all_goals (refine aa 9 ?_);all_goals (refine aa 10 ?_);all_goals (refine ag 11 ?_;(refine bc ?_);apply ab;refine ai ?_);all_goals (refine aw ?_))));rotate_right;(focus (((refine ao (hc:=hli) (hX:=fun w h=>h.2) ?_);apply ab;refine ai ?_);all_goals ((refine ag 4 ?_;(refine aA ?_);apply ab;refine ai ?_);all_goals (refine ag 8 ?_;(refine aV (size:=1) (z:=.int .u8 0) rfl rfl rfl rfl (fun _=>At.there _ (At.here _)) (fun w G=>d9 ae) ae (by simp only [maxLen];omega) rfl ?_ rfl ?_;(with_reducible rfl);intro A3 c3);apply ab;refine ai ?_);all_goals (refine aa 9 ?_);all_goals (refine aa 10 ?_);all_goals (refine ag 11 ?_;(refine bc ?_);apply ab;refine ai ?_);all_goals (refine aw ?_)))))
 all_goals
  have eb:bld b A3 c3 (out++p2)=[cel b 121 ([(.slice A2 out.size c2:Value)].set 0 (.slice A3 (out.size+p2.size) c3)),orow 5 1 (.slice A3 (out.size+p2.size) c3) (out.size+p2.size) (u8s (bytesI out)++u8s (bytesI p2))]:=by simp [bld,Zl,dO,cu]
  repeat' (first|apply Qu|refine aj ?_|refine aB ?_|refine aA ?_|refine bS fun _=>?_|fail)
  rename_i bs
  refine co ?_
  refine dc (l:=bld b A3 c3 (out++p2)++[cel b4 55 it.dec.cells,cel b3 57 it.cells]) (by rw [eb];exact List.Perm.refl _) ?_
  refine cw (pre:=bld b A3 c3 (out++p2)) (fr:=[cel b4 55 it.dec.cells,cel b3 57 it.cells]) (hc:=ea b A3 c3 (out++p2) ⟨some ⟨bs,0,none⟩,3,3⟩ [it.dec.n,it.dec.from_,it.dec.until_] (by simp;exact ⟨hl.n,hl.from_,hl.until_⟩) (by rw [hp3];(try simp only [Zl]);omega)) (hX:=fun w h=>bK (xs:=[[.int .i64 it.dec.n],[.int .i64 it.dec.from_],[.int .i64 it.dec.until_]]) h.2 rfl (by decide) (by simp)) (h:=?_)
  rintro v R X' ⟨A4,c4,rfl,rfl⟩
  refine cP (X':=(fun w=>it.at_ w)) (fun w h=>h.1.1) ?_
  rw [hp3]
  repeat' (first|apply ab|fail)
  all_goals exact bY (bL rfl) ⟨_,List.sublist_append_left _ _,A4,c4,rfl,rfl⟩
def ordV (n:Int):Bool:=decide (0≤n)&&decide (n<2305843009213693950)
theorem lG (n:Int):Pu Tryz.prog 89 #[.int .i64 n] (fun _=>True) (.bool (ordV n)):=by
 refine ay (args:=[_]) _ Tryz.func89 rfl Tryz.ntmps89 rfl fun av bor w0=>?_
 repeat' (first|apply ab|apply Qt|apply Qu|refine aj ?_|refine ad ?_|refine aD ?_|refine aG ?_|refine bj ?_|refine cZ ?_|refine aJ ?_|apply ar|((fail_if_success (refine aZ ?_));refine aR (ht:=?_) (hf:=?_);all_goals (intro hx_;first|have:=aP hx_|have:=aT hx_))|fail)
 (all_goals (apply al;apply ap;rfl;rfl));all_goals (simp only [ordV, *,ZQ,ZO,ZC,ZB,ZE,ZD,ZH,ZG,ZK,ZI,ZP,ZJ,ZN,ZF];done)
def verN (p:Int) (msg:ByteArray) (e s:Int):Bool :=
 bif decide (p<1)||decide (2305843009213693951≤p)||!ordV e||!ordV s then false
 else decide (e=(chalN (expV 37 s.toNat * expV p.toNat (2305843009213693950-e.toNat)%2305843009213693951) p.toNat msg:Nat))
set_option maxHeartbeats 4000000 in
theorem gO (p:Int) (msg:ByteArray) (e s:Int) (hm:msg.size≤1000000000000):Pu Tryz.prog 55 #[.int .i64 p,.string msg,(SgD.v ⟨e,s⟩)] Glob (.bool (verN p msg e s)):=by
 refine ay (args:=[_,_,_]) _ Tryz.func55 rfl Tryz.ntmps55 rfl fun av bor w0=>?_
 have hoe:=lG e
 have hos:=lG s
 cases hbad:(decide (p<1)||decide (2305843009213693951≤p)||!ordV e||!ordV s) with
 | true =>
  rw [show verN p msg e s=false from by rw [verN,hbad];rfl]
  repeat' (first|apply ab|apply Qt|apply Qu|refine aj ?_|refine ad ?_|refine aB ?_|refine aA ?_|refine aD ?_|refine aG ?_|refine bD ?_|refine bj ?_|refine cZ ?_|refine bR ?_|refine aL fun _=>?_|refine Qx ?_|apply Qw|apply ar|(refine ao (hc:=hoe) (hX:=fun _ _=>trivial) ?_)|(refine ao (hc:=hos) (hX:=fun _ _=>trivial) ?_)|((fail_if_success (refine aZ ?_));refine aR (ht:=?_) (hf:=?_);all_goals (intro hx_;first|have:=aP hx_|have:=aT hx_|skip))|(refine aH (ht:=?_) (hf:=?_);all_goals (intro hx_;skip)))
  all_goals first
   | (apply al;apply ap;rfl;rfl;rfl)
   | (exfalso;simp_all;done)
 | false =>
  have hb:=hbad
  simp only [Bool.or_eq_false_iff,decide_eq_false_iff_not,Bool.not_eq_false'] at hb
  obtain ⟨⟨⟨h1,h2⟩,h3⟩,h4⟩:=hb
  have h3':=h3
  have h4':=h4
  simp only [ordV,ZM,ZT] at h3' h4'
  rw [h3] at hoe
  rw [h4] at hos
  obtain ⟨pn,rfl⟩:∃ n:Nat,p=(n:Int):=⟨p.toNat,by omega⟩
  obtain ⟨en,rfl⟩:∃ n:Nat,e=(n:Int):=⟨e.toNat,by omega⟩
  obtain ⟨sn,rfl⟩:∃ n:Nat,s=(n:Int):=⟨s.toNat,by omega⟩
  obtain ⟨d,hd⟩:∃ d,2305843009213693950-en=d:=⟨_,rfl⟩
  have hsub:IntKind.i64.wrap ((2305843009213693950:Int)-(en:Int))=(d:Int):=by
   rw [show (2305843009213693950:Int)-(en:Int)=(d:Int) from by omega]
   exact IntWalk.i64_in _ ae
  have he1:=yy 37 sn ae
  have he2:=yy pn d ae
  obtain ⟨x1,hx1⟩:∃ x,expV 37 sn=x:=⟨_,rfl⟩
  obtain ⟨x2,hx2⟩:∃ x,expV pn d=x:=⟨_,rfl⟩
  rw [hx1] at he1
  rw [hx2] at he2
  have hmu:=rS x1 x2
  obtain ⟨r,hr⟩:∃ r,x1*x2%2305843009213693951=r:=⟨_,rfl⟩
  have hrl:r<2305843009213693951:=by rw [←hr];exact Nat.mod_lt _ (by decide)
  rw [hr] at hmu
  have hch:=Bc r pn msg ae ae hm
  have hV:verN (pn:Int) msg (en:Int) (sn:Int)=decide (((en:Nat):Int)=(chalN r pn msg:Nat)):=by
   rw [verN,hbad,ZB,Qq,Qq,Qq,hd,hx1,hx2,hr]
  rw [hV]
  have hbg:¬ (2305843009213693951:Int)≤(pn:Int):=h2
  have hbl:¬ (pn:Int)<1:=h1
  clear hbad hV hr hx1 hx2 hd
  generalize hcn:chalN r pn msg=cn at hch
  repeat' (first|refine am (bM false rfl rfl (Zn hbl)) rfl aC rfl ?_|refine am (eJ false rfl rfl (Zn hbg)) rfl aC rfl ?_|apply ab|apply Qt|apply Qu|refine aj ?_|refine ad ?_|refine aB ?_|refine aA ?_|refine aG ?_|refine bD ?_|refine aL fun _=>?_|refine Qy ?_|apply Qw|(refine ao (hc:=hoe) (hX:=fun _ _=>trivial) ?_)|(refine ao (hc:=hos) (hX:=fun _ _=>trivial) ?_)|fail)
  rename_i bs
  (refine aS [cel bs 44 (SgD.cells ⟨(en:Int),(sn:Int)⟩)] Glob ak ?_)
  all_goals refine aa 0 ?_<;>refine aa 1 ?_<;>refine aa 3 ?_<;>refine aa 4 ?_<;>refine aa 5 ?_<;>(refine aa 6 (hy:=by (apply mz (c:=(d:Int));rfl;rfl;exact hsub)) ?_)<;>(refine ag 2 ?_;(refine ao (hc:=he1) (hX:=fun _ h=>by trivial) ?_);apply ab;refine ai ?_)<;>(refine ag 7 ?_;(refine ao (hc:=he2) (hX:=fun _ h=>by trivial) ?_);apply ab;refine ai ?_)<;>(refine ag 8 ?_;(refine ao (hc:=hmu) (hX:=fun _ h=>by trivial) ?_);apply ab;refine ai ?_)<;>refine aa 9 ?_<;>(refine aw ?_)
  all_goals
   repeat' (first|apply Qt|fail)
   (refine aS [cel bs 44 (SgD.cells ⟨(en:Int),(sn:Int)⟩)] Glob ak ?_)
   all_goals refine aa 0 ?_<;>refine aa 1 ?_<;>refine aa 2 ?_<;>refine aa 3 ?_<;>refine aa 4 ?_<;>(refine ag 5 ?_;(refine ao (hc:=hch) (hX:=fun _ h=>h) ?_);apply ab;refine ai ?_)<;>refine aa 6 ?_<;>refine aa 7 ?_<;>(refine aw ?_)
   all_goals
    repeat' (first|apply ar|fail)
    exact al (ap rfl rfl) rfl
def verV (p:Int) (a:ActD):Bool:=rightB a&&verN p (actCore a) a.e a.s
theorem oF (p:Int) (a:ActD) (hr:a.Rng):Pu Tryz.prog 24 #[.int .i64 p,a.v] (fun w=>a.at_ w∧Glob w) (.bool (verV p a)):=by
 refine ay (args:=[_,_]) _ Tryz.func24 rfl Tryz.ntmps24 rfl fun av bor w0=>?_
 have hri:=eB a
 cases hR:rightB a with
 | false =>
  rw [hR] at hri
  rw [show verV p a=false from by rw [verV,hR];rfl]
  repeat' (first|apply ab|apply Qt|apply Qu|refine ad ?_|refine aL fun _=>?_|fail)
  rename_i b3
  (refine aS [cel b3 46 a.cells] (fun w=>a.at_ w∧Glob w) ak ?_)
  all_goals refine aa 0 ?_<;>(refine ag 1 ?_;(refine ao (hc:=hri) (hX:=fun _ h=>h.1) ?_);apply ab;refine ai ?_)<;>refine aa 2 ?_<;>refine az 3 ?_<;>refine az 4 ?_<;>refine az 6 ?_<;>refine az 7 ?_<;>(refine ag 5 ?_;(refine aJ ?_);apply ab;refine ai ?_)<;>(refine ag 8 ?_;(refine aJ ?_);apply ab;refine ai ?_)<;>refine aa 9 ?_<;>refine aa 10 ?_<;>(refine aw ?_)
  all_goals
   repeat' (first|apply ar|fail)
   exact al (ap rfl rfl) rfl
 | true =>
  rw [hR] at hri
  have hco:=tu a (dZ hr)
  have hsz:=gp (dZ hr hR)
  rw [hR,ZC] at hco
  have hve:=gO p (coreV a) a.e a.s ae
  have hV:verV p a=verN p (coreV a) a.e a.s:=by rw [verV,actCore,hR];rfl
  rw [hV]
  generalize verN p (coreV a) a.e a.s=V at *
  repeat' (first|apply ab|apply Qt|apply Qu|refine ad ?_|refine aL fun _=>?_|fail)
  rename_i b3
  (refine aS [cel b3 46 a.cells] (fun w=>a.at_ w∧Glob w) ak ?_)
  all_goals refine aa 0 ?_<;>(refine ag 1 ?_;(refine ao (hc:=hri) (hX:=fun _ h=>h.1) ?_);apply ab;refine ai ?_)<;>refine aa 2 ?_<;>refine aa 3 ?_<;>refine aa 4 ?_<;>refine aa 6 ?_<;>(refine aa 7 (hy:=by (apply cH (vs:=SgD.cells ⟨a.e,a.s⟩);rfl;exact .head _;rfl;rfl)) ?_)<;>(refine ag 5 ?_;(refine ao (hc:=hco) (hX:=fun _ h=>h.1) ?_);apply ab;refine ai ?_)<;>(refine ag 8 ?_;(refine ao (hc:=hve) (hX:=fun _ h=>h.2) ?_);apply ab;refine ai ?_)<;>refine aa 9 ?_<;>refine aa 10 ?_<;>(refine aw ?_)
  all_goals
   repeat' (first|apply ar|fail)
   exact al (ap rfl rfl) rfl
def rightK2 (i:ItemD):Bool:=bif decide (i.kind=0) then rightB i.act else bif decide (i.kind=1) then claimR i.claim else bif decide (i.kind=2) then ballotR i.ballot else bif decide (i.kind=3) then decR i.dec else false
def restI (i:ItemD):ItemD:=bif decide (i.kind=0) then ⟨0,ActD.zero,i.claim,i.ballot,i.dec⟩ else bif decide (i.kind=1) then ⟨0,i.act,ClaimD.zero,i.ballot,i.dec⟩ else bif decide (i.kind=2) then ⟨0,i.act,i.claim,BallotD.zero,i.dec⟩ else bif decide (i.kind=3) then ⟨0,i.act,i.claim,i.ballot,DecD.zero⟩ else ⟨0,i.act,i.claim,i.ballot,i.dec⟩
def rightIt (i:ItemD):Bool:=rightK2 i&&sameIZ (restI i)
set_option maxRecDepth 20000 in
set_option maxHeartbeats 16000000 in
theorem dN (i:ItemD):Pu Tryz.prog 44 #[i.v] (fun w=>i.at_ w) (.bool (rightIt i)):=by
 refine ay (args:=[_]) _ Tryz.func44 rfl Tryz.ntmps44 rfl fun av bor w0=>?_
 by_cases h0:i.kind=0
 · have hri:=eB i.act
   have hsa:=fa ⟨0,ActD.zero,i.claim,i.ballot,i.dec⟩
   have e:rightIt i=(rightB i.act&&sameIZ ⟨0,ActD.zero,i.claim,i.ballot,i.dec⟩):=by simp [rightIt,rightK2,restI,h0]
   rw [e]
   generalize rightB i.act=rb at *
   generalize sameIZ ⟨0,ActD.zero,i.claim,i.ballot,i.dec⟩=sb at *
   repeat' (first|refine bm (hab:=by omega) ?_|apply ab|apply Qt|apply Qu|refine aj ?_|refine ad ?_|refine aB ?_|refine aA ?_|refine aF ?_|refine aD ?_|refine aG ?_|refine aJ ?_|refine aM fun _=>?_|refine aL fun _=>?_|refine bc ?_|refine aK ?_|refine Qx ?_|apply Qv|apply ar|(refine br (cs:=ActD.zero.cells) (hf:=by rfl) ?_)|(refine ao (hc:=hri) (hX:=fun w h=>h.1) ?_)|(refine ao (hc:=hsa) (hX:=fun _ _=>trivial) ?_)|(refine dL (⟨0,ActD.zero,i.claim,i.ballot,i.dec⟩:ItemD).cells (h:=?_))|(refine aW (vs:=i.act.cells) (hv:=rfl) ?_)|(refine br (cs:=ItemD.zero.cells) (hf:=by rfl) ?_)|((fail_if_success (refine aZ ?_));refine aR (ht:=?_) (hf:=?_);all_goals (intro hx_;skip))|fail)
   all_goals first
    | exact al (ap rfl rfl) rfl
    | (refine al (ap rfl rfl) ?_;simp_all;done)
 by_cases h1:i.kind=1
 · have hri:=ml i.claim
   have hsa:=fa ⟨0,i.act,ClaimD.zero,i.ballot,i.dec⟩
   have e:rightIt i=(claimR i.claim&&sameIZ ⟨0,i.act,ClaimD.zero,i.ballot,i.dec⟩):=by simp [rightIt,rightK2,restI,h0,h1]
   rw [e]
   generalize claimR i.claim=rb at *
   generalize sameIZ ⟨0,i.act,ClaimD.zero,i.ballot,i.dec⟩=sb at *
   repeat' (first|refine bm (hab:=by omega) ?_|refine bt (hab:=by omega) ?_|apply ab|apply Qt|apply Qu|refine aj ?_|refine ad ?_|refine aB ?_|refine aA ?_|refine aF ?_|refine aD ?_|refine aG ?_|refine aJ ?_|refine aM fun _=>?_|refine aL fun _=>?_|refine bc ?_|refine aK ?_|refine Qx ?_|refine Qy ?_|apply Qv|apply ar|(refine br (cs:=ClaimD.zero.cells) (hf:=by rfl) ?_)|(refine ao (hc:=hri) (hX:=fun _ _=>trivial) ?_)|(refine ao (hc:=hsa) (hX:=fun _ _=>trivial) ?_)|(refine dL (⟨0,i.act,ClaimD.zero,i.ballot,i.dec⟩:ItemD).cells (h:=?_))|(refine aW (vs:=i.claim.cells) (hv:=rfl) ?_)|(refine br (cs:=ItemD.zero.cells) (hf:=by rfl) ?_)|((fail_if_success (refine aZ ?_));refine aR (ht:=?_) (hf:=?_);all_goals (intro hx_;skip))|fail)
   all_goals first
    | exact al (ap rfl rfl) rfl
    | (refine al (ap rfl rfl) ?_;simp_all;done)
 by_cases h2:i.kind=2
 · have hri:=lm i.ballot
   have hsa:=fa ⟨0,i.act,i.claim,BallotD.zero,i.dec⟩
   have e:rightIt i=(ballotR i.ballot&&sameIZ ⟨0,i.act,i.claim,BallotD.zero,i.dec⟩):=by simp [rightIt,rightK2,restI,h0,h1,h2]
   rw [e]
   generalize ballotR i.ballot=rb at *
   generalize sameIZ ⟨0,i.act,i.claim,BallotD.zero,i.dec⟩=sb at *
   repeat' (first|refine bm (hab:=by omega) ?_|refine bt (hab:=by omega) ?_|apply ab|apply Qt|apply Qu|refine aj ?_|refine ad ?_|refine aB ?_|refine aA ?_|refine aF ?_|refine aD ?_|refine aG ?_|refine aJ ?_|refine aM fun _=>?_|refine aL fun _=>?_|refine bc ?_|refine aK ?_|refine Qx ?_|refine Qy ?_|apply Qv|apply ar|(refine br (cs:=BallotD.zero.cells) (hf:=by rfl) ?_)|(refine ao (hc:=hri) (hX:=fun _ _=>trivial) ?_)|(refine ao (hc:=hsa) (hX:=fun _ _=>trivial) ?_)|(refine dL (⟨0,i.act,i.claim,BallotD.zero,i.dec⟩:ItemD).cells (h:=?_))|(refine aW (vs:=i.ballot.cells) (hv:=rfl) ?_)|(refine br (cs:=ItemD.zero.cells) (hf:=by rfl) ?_)|((fail_if_success (refine aZ ?_));refine aR (ht:=?_) (hf:=?_);all_goals (intro hx_;skip))|fail)
   all_goals first
    | exact al (ap rfl rfl) rfl
    | (refine al (ap rfl rfl) ?_;simp_all;done)
 by_cases h3:i.kind=3
 · have hri:=jl i.dec
   have hsa:=fa ⟨0,i.act,i.claim,i.ballot,DecD.zero⟩
   have e:rightIt i=(decR i.dec&&sameIZ ⟨0,i.act,i.claim,i.ballot,DecD.zero⟩):=by simp [rightIt,rightK2,restI,h0,h1,h2,h3]
   rw [e]
   generalize decR i.dec=rb at *
   generalize sameIZ ⟨0,i.act,i.claim,i.ballot,DecD.zero⟩=sb at *
   repeat' (first|refine bm (hab:=by omega) ?_|refine bt (hab:=by omega) ?_|apply ab|apply Qt|apply Qu|refine aj ?_|refine ad ?_|refine aB ?_|refine aA ?_|refine aF ?_|refine aD ?_|refine aG ?_|refine aJ ?_|refine aM fun _=>?_|refine aL fun _=>?_|refine bc ?_|refine aK ?_|refine Qx ?_|refine Qy ?_|apply Qv|apply ar|(refine br (cs:=DecD.zero.cells) (hf:=by rfl) ?_)|(refine ao (hc:=hri) (hX:=fun w h=>h.2) ?_)|(refine ao (hc:=hsa) (hX:=fun _ _=>trivial) ?_)|(refine dL (⟨0,i.act,i.claim,i.ballot,DecD.zero⟩:ItemD).cells (h:=?_))|(refine aW (vs:=i.dec.cells) (hv:=rfl) ?_)|(refine br (cs:=ItemD.zero.cells) (hf:=by rfl) ?_)|((fail_if_success (refine aZ ?_));refine aR (ht:=?_) (hf:=?_);all_goals (intro hx_;skip))|fail)
   all_goals first
    | exact al (ap rfl rfl) rfl
    | (refine al (ap rfl rfl) ?_;simp_all;done)
 have e:rightIt i=false:=by simp [rightIt,rightK2,h0,h1,h2,h3]
 rw [e]
 repeat' (first|refine bt (hab:=by omega) ?_|apply ab|apply Qt|apply Qu|refine aj ?_|refine ad ?_|refine aB ?_|refine aA ?_|refine aF ?_|refine aG ?_|refine aJ ?_|refine aM fun _=>?_|refine aL fun _=>?_|refine bc ?_|refine aK ?_|refine Qy ?_|apply Qw|apply Qv|apply ar|fail)
 all_goals exact al (ap rfl rfl) rfl
def formCells (nm:ByteArray) (f:Nat) (e s:Int):List Value:=[.string nm,.func (.func f) #[] #[],.int .i64 e,.int .i64 s]
theorem gv {N:Nat} {av bor:List Nat} {w0:World} {st:St} {ty:TypeId} {x:Operand} {nm:ByteArray} {f:Nat} {e s:Int} (hx:ev st.env x=some (.agg (formCells nm f e s).toArray)):Sy.Yields Tryz.prog N av bor w0 st (.field 125 x 2) ty (.agg #[.int .i64 e,.int .i64 s]):=Sy.Yields.mk fun A w ok d pos af g=>by
 have hp:(part 44 (formCells nm f e s).toArray 2).run Tryz.prog w=.ok (.agg #[.int .i64 e,.int .i64 s]) w:=by rw [gC];rfl
 simp only [formCells] at hx hp
 simp [execOp,ok.eval hx,Instr.field,run_underlying Tryz.underlying125,asAgg,hp]
def nameC:ByteArray:=⟨#[99,108,97,105,109]⟩
theorem lL (it:ItemD) (h:it.kind=1):Pu Tryz.prog 71 #[it.v] (fun _=>True) (.agg (formCells nameC 110 it.claim.e it.claim.s).toArray):=by
 refine ay (args:=[_]) _ Tryz.func71 rfl Tryz.ntmps71 rfl fun av bor w0=>?_
 repeat' (first|refine bm (hab:=by omega) ?_|apply ab|apply Qt|apply Qu|refine ad ?_|refine aB ?_|refine aA ?_|refine aM fun _=>?_|refine aL fun _=>?_|refine aK ?_|refine Qx ?_|apply Qv|apply ar|(refine aW (vs:=[.int .i64 it.claim.e,.int .i64 it.claim.s]) (hv:=rfl) ?_)|(refine br (cs:=formCells nameC 110 it.claim.e it.claim.s) (hf:=by rfl) ?_)|fail)
 all_goals exact al (dz rfl rfl bU (by rfl)) rfl
def msgC (x:ClaimD):ByteArray:=textsV [nameC]++coreCl x
set_option maxHeartbeats 8000000 in
theorem Aq (it:ItemD) (h:it.kind=1) (hl:it.claim.Lt) (hz:(msgC it.claim).size≤1099511627776):Pu Tryz.prog 122 #[it.v] (fun _=>True) (.string (msgC it.claim)):=by
 refine ay (args:=[_]) _ Tryz.func122 rfl Tryz.ntmps122 rfl fun av bor w0=>?_
 have hfo:=lL it h
 rw [msgC] at hz ⊢
 rw [Zl] at hz
 have hS:(⟨#[]⟩:ByteArray)++textsV [nameC]=textsV [nameC]:=ByteArray.empty_append
 have hts:(⟨#[]⟩:ByteArray).size+(textsV [nameC]).size≤1099511627776:=by
  rw [←Zl,hS]
  omega
 repeat' (first|apply ab|apply Qt|apply Qu|refine ad ?_|refine aB ?_|refine aA ?_|refine aF ?_|refine aM fun _=>?_|refine aL fun _=>?_|refine bS fun _=>?_|refine aK ?_|(refine ao (hc:=hfo) (hX:=fun _ _=>trivial) ?_)|fail)
 rename_i bi bf bb bs
 refine co ?_
 refine fI 5 1 ?_
 refine dc (l:=bld bb none 0 ⟨#[]⟩++[cel bf 125 (formCells nameC 110 it.claim.e it.claim.s),cel bi 57 it.cells]) (List.Perm.swap _ _ _) ?_
 refine cw (pre:=bld bb none 0 ⟨#[]⟩) (fr:=[cel bf 125 (formCells nameC 110 it.claim.e it.claim.s),cel bi 57 it.cells]) (hc:=eQ bb none 0 ⟨#[]⟩ ⟨some ⟨bs,0,none⟩,1,1⟩ [nameC] hts) (hX:=fun w h=>bK (xs:=[[encB nameC]]) h.2 rfl (by decide) (by simp)) (h:=?_)
 rintro v R X' ⟨A1,c1,rfl,rfl⟩
 refine cP (X':=(fun _=>True)) (fun w h=>trivial) ?_
 rw [hS]
 generalize textsV [nameC]=p0 at *
 unfold bld
 repeat' (first|apply ab|apply Qt|apply Qu|refine aB ?_|refine aA ?_|refine aF ?_|fail)
 refine cw (pre:=bld bb A1 c1 p0) (fr:=[cel bf 125 (formCells nameC 110 it.claim.e it.claim.s),cel bi 57 it.cells]) (hc:=nd bb A1 c1 p0 it hl hz) (hX:=fun _ _=>trivial) (h:=?_)
 rintro v R X' ⟨A2,c2,rfl,rfl⟩
 unfold bld
 repeat' (first|apply ab|apply Qt|apply Qu|refine aB ?_|refine aA ?_|fail)
 refine eG (hm:=ZS _ aI) ?_
 repeat' (first|apply ab|refine ad ?_|apply ar|fail)
 all_goals
  apply al;apply ap;rfl;rfl
  simp only [cK]
def sgnC (p:Int) (x:ClaimD):Bool:=verN p (msgC x) x.e x.s
theorem nL (p:Int) (it:ItemD) (h:it.kind=1) (hl:it.claim.Lt) (hz:(msgC it.claim).size≤1000000000000):Pu Tryz.prog 78 #[.int .i64 p,it.v] (fun w=>it.at_ w∧Glob w) (.bool (sgnC p it.claim)):=by
 refine ay (args:=[_,_]) _ Tryz.func78 rfl Tryz.ntmps78 rfl fun av bor w0=>?_
 have hms:=Aq it h hl ae
 have hfo:=lL it h
 have hve:=gO p (msgC it.claim) it.claim.e it.claim.s hz
 rw [sgnC]
 generalize verN p (msgC it.claim) it.claim.e it.claim.s=V at *
 repeat' (first|apply ab|apply Qt|apply Qu|refine ad ?_|refine aL fun _=>?_|fail)
 rename_i b3
 (refine aS [cel b3 57 it.cells] (fun w=>it.at_ w∧Glob w) ak ?_)
 all_goals refine aa 0 ?_<;>refine aa 1 ?_<;>refine aa 3 ?_<;>(refine ag 2 ?_;(refine ao (hc:=hms) (hX:=fun w h=>trivial) ?_);apply ab;refine ai ?_)<;>(refine ag 4 ?_;(refine ao (hc:=hfo) (hX:=fun _ _=>trivial) ?_);apply ab;refine ai ?_)<;>(refine aa 5 (hy:=by (apply gv;rfl)) ?_)<;>(refine ag 6 ?_;(refine ao (hc:=hve) (hX:=fun w h=>h.2) ?_);apply ab;refine ai ?_)<;>refine aa 7 ?_<;>(refine aw ?_)
 all_goals
  repeat' (first|apply ar|fail)
  exact al (ap rfl rfl) rfl
def nameB:ByteArray:=⟨#[98,97,108,108,111,116]⟩
theorem lM (it:ItemD) (h:it.kind=2):Pu Tryz.prog 71 #[it.v] (fun _=>True) (.agg (formCells nameB 111 it.ballot.e it.ballot.s).toArray):=by
 refine ay (args:=[_]) _ Tryz.func71 rfl Tryz.ntmps71 rfl fun av bor w0=>?_
 repeat' (first|refine bm (hab:=by omega) ?_|refine bt (hab:=by omega) ?_|apply ab|apply Qt|apply Qu|refine ad ?_|refine aB ?_|refine aA ?_|refine aM fun _=>?_|refine aL fun _=>?_|refine aK ?_|refine Qx ?_|refine Qy ?_|apply Qv|apply ar|(refine aW (vs:=[.int .i64 it.ballot.e,.int .i64 it.ballot.s]) (hv:=rfl) ?_)|(refine br (cs:=formCells nameB 111 it.ballot.e it.ballot.s) (hf:=by rfl) ?_)|fail)
 all_goals exact al (dz rfl rfl bU (by rfl)) rfl
def msgB (x:BallotD):ByteArray:=textsV [nameB]++coreBa x
set_option maxHeartbeats 8000000 in
theorem Ar (it:ItemD) (h:it.kind=2) (hl:it.ballot.Lt) (hz:(msgB it.ballot).size≤1099511627776):Pu Tryz.prog 122 #[it.v] (fun _=>True) (.string (msgB it.ballot)):=by
 refine ay (args:=[_]) _ Tryz.func122 rfl Tryz.ntmps122 rfl fun av bor w0=>?_
 have hfo:=lM it h
 rw [msgB] at hz ⊢
 rw [Zl] at hz
 have hS:(⟨#[]⟩:ByteArray)++textsV [nameB]=textsV [nameB]:=ByteArray.empty_append
 have hts:(⟨#[]⟩:ByteArray).size+(textsV [nameB]).size≤1099511627776:=by
  rw [←Zl,hS]
  omega
 repeat' (first|apply ab|apply Qt|apply Qu|refine ad ?_|refine aB ?_|refine aA ?_|refine aF ?_|refine aM fun _=>?_|refine aL fun _=>?_|refine bS fun _=>?_|refine aK ?_|(refine ao (hc:=hfo) (hX:=fun _ _=>trivial) ?_)|fail)
 rename_i bi bf bb bs
 refine co ?_
 refine fI 5 1 ?_
 refine dc (l:=bld bb none 0 ⟨#[]⟩++[cel bf 125 (formCells nameB 111 it.ballot.e it.ballot.s),cel bi 57 it.cells]) (List.Perm.swap _ _ _) ?_
 refine cw (pre:=bld bb none 0 ⟨#[]⟩) (fr:=[cel bf 125 (formCells nameB 111 it.ballot.e it.ballot.s),cel bi 57 it.cells]) (hc:=eQ bb none 0 ⟨#[]⟩ ⟨some ⟨bs,0,none⟩,1,1⟩ [nameB] hts) (hX:=fun w h=>bK (xs:=[[encB nameB]]) h.2 rfl (by decide) (by simp)) (h:=?_)
 rintro v R X' ⟨A1,c1,rfl,rfl⟩
 refine cP (X':=(fun _=>True)) (fun w h=>trivial) ?_
 rw [hS]
 generalize textsV [nameB]=p0 at *
 unfold bld
 repeat' (first|apply ab|apply Qt|apply Qu|refine aB ?_|refine aA ?_|refine aF ?_|fail)
 refine cw (pre:=bld bb A1 c1 p0) (fr:=[cel bf 125 (formCells nameB 111 it.ballot.e it.ballot.s),cel bi 57 it.cells]) (hc:=l8 bb A1 c1 p0 it hl hz) (hX:=fun _ _=>trivial) (h:=?_)
 rintro v R X' ⟨A2,c2,rfl,rfl⟩
 unfold bld
 repeat' (first|apply ab|apply Qt|apply Qu|refine aB ?_|refine aA ?_|fail)
 refine eG (hm:=ZS _ aI) ?_
 repeat' (first|apply ab|refine ad ?_|apply ar|fail)
 all_goals
  apply al;apply ap;rfl;rfl
  simp only [cK]
def sgnB (p:Int) (x:BallotD):Bool:=verN p (msgB x) x.e x.s
theorem nM (p:Int) (it:ItemD) (h:it.kind=2) (hl:it.ballot.Lt) (hz:(msgB it.ballot).size≤1000000000000):Pu Tryz.prog 78 #[.int .i64 p,it.v] (fun w=>it.at_ w∧Glob w) (.bool (sgnB p it.ballot)):=by
 refine ay (args:=[_,_]) _ Tryz.func78 rfl Tryz.ntmps78 rfl fun av bor w0=>?_
 have hms:=Ar it h hl ae
 have hfo:=lM it h
 have hve:=gO p (msgB it.ballot) it.ballot.e it.ballot.s hz
 rw [sgnB]
 generalize verN p (msgB it.ballot) it.ballot.e it.ballot.s=V at *
 repeat' (first|apply ab|apply Qt|apply Qu|refine ad ?_|refine aL fun _=>?_|fail)
 rename_i b3
 (refine aS [cel b3 57 it.cells] (fun w=>it.at_ w∧Glob w) ak ?_)
 all_goals refine aa 0 ?_<;>refine aa 1 ?_<;>refine aa 3 ?_<;>(refine ag 2 ?_;(refine ao (hc:=hms) (hX:=fun w h=>trivial) ?_);apply ab;refine ai ?_)<;>(refine ag 4 ?_;(refine ao (hc:=hfo) (hX:=fun _ _=>trivial) ?_);apply ab;refine ai ?_)<;>(refine aa 5 (hy:=by (apply gv;rfl)) ?_)<;>(refine ag 6 ?_;(refine ao (hc:=hve) (hX:=fun w h=>h.2) ?_);apply ab;refine ai ?_)<;>refine aa 7 ?_<;>(refine aw ?_)
 all_goals
  repeat' (first|apply ar|fail)
  exact al (ap rfl rfl) rfl
def nameD:ByteArray:=⟨#[100,101,99,105,115,105,111,110]⟩
theorem lK (it:ItemD) (h:it.kind=3):Pu Tryz.prog 71 #[it.v] (fun _=>True) (.agg (formCells nameD 112 it.dec.e it.dec.s).toArray):=by
 refine ay (args:=[_]) _ Tryz.func71 rfl Tryz.ntmps71 rfl fun av bor w0=>?_
 repeat' (first|refine bt (hab:=by omega) ?_|apply ab|apply Qt|apply Qu|refine ad ?_|refine aB ?_|refine aA ?_|refine aM fun _=>?_|refine aL fun _=>?_|refine aK ?_|refine Qy ?_|apply Qw|apply Qv|apply ar|(refine aW (vs:=[.int .i64 it.dec.e,.int .i64 it.dec.s]) (hv:=rfl) ?_)|(refine br (cs:=formCells nameD 112 it.dec.e it.dec.s) (hf:=by rfl) ?_)|fail)
 all_goals exact al (dz rfl rfl bU (by rfl)) rfl
def msgD (x:DecD):ByteArray:=textsV [nameD]++coreDe x
set_option maxHeartbeats 8000000 in
theorem Ap (it:ItemD) (h:it.kind=3) (hl:it.dec.Lt) (hz:(msgD it.dec).size≤1099511627776):Pu Tryz.prog 122 #[it.v] (fun w=>it.at_ w) (.string (msgD it.dec)):=by
 refine ay (args:=[_]) _ Tryz.func122 rfl Tryz.ntmps122 rfl fun av bor w0=>?_
 have hfo:=lK it h
 rw [msgD] at hz ⊢
 rw [Zl] at hz
 have hS:(⟨#[]⟩:ByteArray)++textsV [nameD]=textsV [nameD]:=ByteArray.empty_append
 have hts:(⟨#[]⟩:ByteArray).size+(textsV [nameD]).size≤1099511627776:=by
  rw [←Zl,hS]
  omega
 repeat' (first|apply ab|apply Qt|apply Qu|refine ad ?_|refine aB ?_|refine aA ?_|refine aF ?_|refine aM fun _=>?_|refine aL fun _=>?_|refine bS fun _=>?_|refine aK ?_|(refine ao (hc:=hfo) (hX:=fun _ _=>trivial) ?_)|fail)
 rename_i bi bf bb bs
 refine co ?_
 refine fI 5 1 ?_
 refine dc (l:=bld bb none 0 ⟨#[]⟩++[cel bf 125 (formCells nameD 112 it.dec.e it.dec.s),cel bi 57 it.cells]) (List.Perm.swap _ _ _) ?_
 refine cw (pre:=bld bb none 0 ⟨#[]⟩) (fr:=[cel bf 125 (formCells nameD 112 it.dec.e it.dec.s),cel bi 57 it.cells]) (hc:=eQ bb none 0 ⟨#[]⟩ ⟨some ⟨bs,0,none⟩,1,1⟩ [nameD] hts) (hX:=fun w h=>bK (xs:=[[encB nameD]]) h.2 rfl (by decide) (by simp)) (h:=?_)
 rintro v R X' ⟨A1,c1,rfl,rfl⟩
 refine cP (X':=(fun w=>it.at_ w)) (fun w h=>h.1.1) ?_
 rw [hS]
 generalize textsV [nameD]=p0 at *
 unfold bld
 repeat' (first|apply ab|apply Qt|apply Qu|refine aB ?_|refine aA ?_|refine aF ?_|fail)
 refine cw (pre:=bld bb A1 c1 p0) (fr:=[cel bf 125 (formCells nameD 112 it.dec.e it.dec.s),cel bi 57 it.cells]) (hc:=iS bb A1 c1 p0 it hl hz) (hX:=fun w h=>h) (h:=?_)
 rintro v R X' ⟨A2,c2,rfl,rfl⟩
 unfold bld
 repeat' (first|apply ab|apply Qt|apply Qu|refine aB ?_|refine aA ?_|fail)
 refine eG (hm:=ZS _ aI) ?_
 repeat' (first|apply ab|refine ad ?_|apply ar|fail)
 all_goals
  apply al;apply ap;rfl;rfl
  simp only [cK]
def sgnD (p:Int) (x:DecD):Bool:=verN p (msgD x) x.e x.s
theorem nK (p:Int) (it:ItemD) (h:it.kind=3) (hl:it.dec.Lt) (hz:(msgD it.dec).size≤1000000000000):Pu Tryz.prog 78 #[.int .i64 p,it.v] (fun w=>it.at_ w∧Glob w) (.bool (sgnD p it.dec)):=by
 refine ay (args:=[_,_]) _ Tryz.func78 rfl Tryz.ntmps78 rfl fun av bor w0=>?_
 have hms:=Ap it h hl ae
 have hfo:=lK it h
 have hve:=gO p (msgD it.dec) it.dec.e it.dec.s hz
 rw [sgnD]
 generalize verN p (msgD it.dec) it.dec.e it.dec.s=V at *
 repeat' (first|apply ab|apply Qt|apply Qu|refine ad ?_|refine aL fun _=>?_|fail)
 rename_i b3
 (refine aS [cel b3 57 it.cells] (fun w=>it.at_ w∧Glob w) ak ?_)
 all_goals refine aa 0 ?_<;>refine aa 1 ?_<;>refine aa 3 ?_<;>(refine ag 2 ?_;(refine ao (hc:=hms) (hX:=fun w h=>h.1) ?_);apply ab;refine ai ?_)<;>(refine ag 4 ?_;(refine ao (hc:=hfo) (hX:=fun _ _=>trivial) ?_);apply ab;refine ai ?_)<;>(refine aa 5 (hy:=by (apply gv;rfl)) ?_)<;>(refine ag 6 ?_;(refine ao (hc:=hve) (hX:=fun w h=>h.2) ?_);apply ab;refine ai ?_)<;>refine aa 7 ?_<;>(refine aw ?_)
 all_goals
  repeat' (first|apply ar|fail)
  exact al (ap rfl rfl) rfl
section
variable {P:Program} {N:Nat} {av bor:List Nat} {w0:World} {ty:TypeId}
theorem nr {st:St} {x:Operand} {t t2 e b':TypeId} [hs:TySl P t e 1 b'] [he:TyInt P e .u8] [h2:TyStr P t2] {b n:Nat} {ns:List Int} (hx:ev st.env x=some (.slice (some ⟨b,0,none⟩) n n)) (hm:cel b e (u8s ns)∈st.loc) (hn:ns.length=n) (hn2:n≤maxLen) :
  Sy.Yields P N av bor w0 st (.convert t t2 x) ty (.string (ofInts ns)):=Sy.Yields.mk fun A w ok d pos af g=>by
 have hh:w.heap[b]?=some (.cells (u8s ns).toArray e (0,0)):=(ok.gam.here _ hm).now
 have ho:ORow w e 1 (.slice (some ⟨b,0,none⟩) n n) n (u8s ns):=jO hh (by simp [u8s,hn]) hn2
 have hl:(u8s ns).length=n:=by have:=ho.1;omega
 rcases ho.2 with ⟨h,_⟩|⟨g,cap,cur,fz,hv,hg,hnc,hcm,hcs,htake,hfz⟩
 · cases h
 · cases hv
   have hlc:=run_loadCells_list (P:=P) w ⟨b,0,none⟩ (u8s ns) (fun j u hj=>by
    have hadd:(⟨b,0,none⟩:Addr).add j=⟨b,j,none⟩:=by unfold Addr.add;split<;>simp_all
    rw [hadd,cell_of_row w b j cur e fz hg]
    rw [←htake,List.getElem?_take] at hj
    split at hj
    · simpa using hj
    · cases hj)
   rw [hl] at hlc
   have h3:=run_bytesToString (P:=P) w ⟨b,0,none⟩ n n ns hlc
   have h4:=run_convert_bytes_string (P:=P) w t t2 e (some ⟨b,0,none⟩) n n (cN hs.out).1 he.out h2.out
   rw [h3] at h4
   simp [execOp,ok.eval hx,h4,ofInts]
end
section
variable {P:Program} {N:Nat} {av bor:List Nat} {w0:World} {st:St} {ty:TypeId} {x y z:Operand} {t t2:TypeId}
theorem yU {e size b':Nat} [hI:TySl P t e size b'] {s:SlV} {kk kk':IntKind} {i j:Int} (hx:ev st.env x=some s.v) (hy:ev st.env y=some (.int kk i)) (hz:ev st.env z=some (.int kk' j)) (h0:0≤i) (h1:i≤j) (h2:j≤(s.c:Int)) :
  Sy.Yields P N av bor w0 st (.slice t x (some y) (some z) none) ty (.slice (s.from size i.toNat).p (j.toNat-i.toNat) (s.c-i.toNat)):=Sy.Yields.mk fun A w ok d pos af g=>by
 obtain ⟨p,m,c⟩:=s
 obtain ⟨hu,inf,hi,hs,hb⟩:=cN hI.out
 have hsz:=Sy.run_sizeOf (P:=P) (w:=w) (t:=e) (n:=size) (by simp [hi,hs])
 have hx':ev st.env x=some (.slice p m c):=hx
 have h2':j≤(c:Int):=h2
 have hj:0≤j:=by omega
 obtain ⟨j,rfl⟩:=Int.eq_ofNat_of_zero_le hj
 have h2'':j≤c:=by omega
 simp [execOp,ok.eval hx',ok.eval hy,ok.eval hz,Instr.sliceAt,run_underlying hu,Instr.slice,Instr.sliceBounds,run_sliceBound,h0,h1,h2',h2'',hsz,SlV.from]
end
section
variable {P:Program} {N:Nat} {av bor:List Nat} {w0:World} {st:St} {ty:TypeId} {x:Operand} {t:TypeId}
theorem cY {e m i c:Nat} [h:TyOne P t] {A:Option Addr} {vs:List Value} {u:Value} (hx:ev st.env x=some (elP A i)) (hm:orow e 1 (.slice A m c) m vs∈st.loc) (hn:m=vs.length) (hi:vs[i]?=some u) :
  Sy.Yields P N av bor w0 st (.load t x) ty u:=Sy.Yields.mk fun B w ok d pos af g=>by
 have e1:(vs.map fun v=>[v]).flatten=vs:=by
  clear hm hn hi
  induction vs with
  | nil=>rfl
  | cons v vs ih=>rw [Qs,List.flatten_cons,ih];rfl
 have ho:=(ok.gam.here _ hm).now
 have hr:RowsD w 1 ⟨A,m,c⟩ (vs.map fun v=>[v]):=cb (e:=e) (by rw [e1];exact ho) (by rw [Z3];exact hn) fun r hr=>by
  obtain ⟨v,_,rfl⟩:=List.mem_map.1 hr
  rfl
 obtain ⟨h1,hp,hc⟩:=RowsD.row hr i [u] (by rw [List.getElem?_map,hi];rfl)
 have hc0:=hc 0 u rfl
 rw [Nat.mul_one,Qj] at hc0
 obtain ⟨a,rfl⟩:=Option.isSome_iff_exists.1 hp
 simp [execOp,ok.eval hx,elP,Instr.loadAt,Instr.sureAddr,loadVar,(cD h.out w).1,hc0.2 a rfl]
end
section
variable {P:Program} {N:Nat} {av bor:List Nat} {w0:World} {ops:Array Oper} {rest:List Oper} {kk:St→Prop} {E:Env} {loc:List Res} {X:World→Prop} {x y:Operand} {t t2:TypeId}
variable {n:Nat} {ty:TypeId} {pos:String} {af:Array Edge} {g:Option (Nat×Bool)} {bb want:Bool}
theorem xj {k:IntKind} {a b:Int} [hI:TyInt P t k] (h:Sw P N av bor w0 ops rest ⟨(n,.bool false)::E,loc,X⟩ kk) (hx:ev E x=some (.int k a):=by rfl) (hy:ev E y=some (.int k b):=by rfl) (hab:¬ a<b) (hg:gdB ops E g=some (bb,want):=by rfl) (hbb:bb=want:=by exact aC) (hd:Nat.blt n N=true:=by rfl) :
  Sw P N av bor w0 ops (⟨some n,.binOp .lss t x y t2,ty,pos,af,g⟩::rest) ⟨E,loc,X⟩ kk:=bj (hx:=hx) (hy:=hy) (hg:=hg) (hbb:=hbb) (hd:=hd) (h:=by
   have e:∀ u,u=Value.bool false→Sw P N av bor w0 ops rest ⟨(n,u)::E,loc,X⟩ kk:=fun u hu=>hu▸h
   exact e _ (by simp [hab]))
theorem xi {k:IntKind} {a b:Int} [hI:TyInt P t k] (h:Sw P N av bor w0 ops rest ⟨(n,.bool true)::E,loc,X⟩ kk) (hx:ev E x=some (.int k a):=by rfl) (hy:ev E y=some (.int k b):=by rfl) (hab:a<b:=by (first|decide|omega)) (hg:gdB ops E g=some (bb,want):=by rfl) (hbb:bb=want:=by exact aC) (hd:Nat.blt n N=true:=by rfl) :
  Sw P N av bor w0 ops (⟨some n,.binOp .lss t x y t2,ty,pos,af,g⟩::rest) ⟨E,loc,X⟩ kk:=bj (hx:=hx) (hy:=hy) (hg:=hg) (hbb:=hbb) (hd:=hd) (h:=by
   have e:∀ u,u=Value.bool true→Sw P N av bor w0 ops rest ⟨(n,u)::E,loc,X⟩ kk:=fun u hu=>hu▸h
   exact e _ (by simp [hab]))
end
theorem gD:∀ (l:List Int) (r:ByteArray),(l.foldl (fun r n=>r.push (UInt8.ofNat n.toNat)) r)=r++ofInts l
 | [],r=>by simp [ofInts]
 | b::l,r=>by
  have e:ofInts (b::l)=ofInts [b]++ofInts l:=by
   conv=>lhs;rw [ofInts,List.foldl_cons,gD l]
   rfl
  rw [List.foldl_cons,gD l,e,←ZV]
  congr 1
  simp [ofInts,ByteArray.ext_iff]
theorem pQ (a:Int) (l:List Int):ofInts [a]++ofInts l=ofInts (a::l):=by
 conv=>rhs;rw [ofInts,List.foldl_cons,gD]
 rfl
set_option maxRecDepth 4000 in
theorem refNumD:∀ (f:Nat) (n:Int),0≤n→n<128 ^ f→f≤9→Pu Tryz.prog 178 #[.int .i64 n] (fun _=>True) (.string (ofInts (numD (f+1) n)))
 | f,n,h0,h1,hf=>by
  have hb:(128:Int) ^ f≤9223372036854775808:=by
   have h4:(128:Nat) ^ f≤128 ^ 9:=Nat.pow_le_pow_right ae hf
   have h5:((128 ^ f:Nat):Int)≤((128 ^ 9:Nat):Int):=by exact_mod_cast h4
   have h6:((128 ^ 9:Nat):Int)=9223372036854775808:=by decide
   have h7:((128 ^ f:Nat):Int)=(128:Int) ^ f:=by simp
   omega
  refine ay (args:=[_]) _ Tryz.func178 rfl Tryz.ntmps178 rfl fun av bor w0=>?_
  by_cases hs:128≤n
  · have hf0:f≠0:=fun e=>by rw [e] at h1;simp at h1;omega
    obtain ⟨g,rfl⟩:∃ g,f=g+1:=⟨f-1,by omega⟩
    have ih:=refNumD g (n.tdiv 128) (by rw [Int.tdiv_eq_ediv_of_nonneg h0];omega) (by
     rw [Int.tdiv_eq_ediv_of_nonneg h0]
     rw [Int.pow_succ] at h1
     omega) ae
    rw [pS hs,←pQ]
    have hlw:IntKind.u8.wrap (128+n.tmod 128)=lowD n:=rfl
    have ht1:=Int.tmod_lt_of_pos n (b:=128) ae
    have ht2:=Int.tmod_nonneg 128 h0
    have hq:IntKind.i64.wrap (n.tdiv 128)=n.tdiv 128:=IntWalk.i64_in _ (by rw [Int.tdiv_eq_ediv_of_nonneg h0];omega)
    have hsz:=eR [lowD n]
    have hsz2:=lA (g+1) (n.tdiv 128)
    have hsz3:=eR (numD (g+1) (n.tdiv 128))
    simp only [ZY,Qh,Qk] at hsz
    repeat' (first|refine xj (hab:=by omega) ?_|apply ab|apply Qt|apply Qu|refine aj ?_|refine ad ?_|refine Qy ?_|apply Qw|fail)
    (apply bI;kernel_rfl)
    all_goals refine aa 0 ?_<;>(refine aa 1 (hy:=by (apply oG;rfl;rfl;decide;rfl)) ?_)<;>refine aa 2 ?_<;>refine aa 3 ?_<;>refine aa 6 ?_<;>(refine aa 7 (hy:=by (apply mA;rfl;rfl;decide;exact hq)) ?_)<;>(refine bw 4 8 (h:=?_) (h':=?_);(focus (((refine bS (vs:=[.int .u8 (lowD n)]) fun _=>?_);apply ab;refine ai ?_);all_goals ((refine bw 5 8 (h:=?_) (h':=?_);(focus (((refine am (nr (ns:=[lowD n]) rfl aI rfl (by decide)) rfl aC rfl ?_);apply ab;refine ai ?_);all_goals ((refine ag 8 ?_;(refine ao (hc:=ih) (hX:=fun _ _=>trivial) ?_);apply ab;refine ai ?_);all_goals (refine aa 9 (hy:=by (apply bE;rfl;rfl;omega)) ?_);all_goals (refine aa 10 ?_);all_goals (refine aw ?_))));rotate_right;(focus (((refine ao (hc:=ih) (hX:=fun _ _=>trivial) ?_);apply ab;refine ai ?_);all_goals ((refine ag 5 ?_;(refine am (nr (ns:=[lowD n]) rfl aI rfl (by decide)) rfl aC rfl ?_);apply ab;refine ai ?_);all_goals (refine aa 9 (hy:=by (apply bE;rfl;rfl;omega)) ?_);all_goals (refine aa 10 ?_);all_goals (refine aw ?_))))))));rotate_right;(focus (((refine ao (hc:=ih) (hX:=fun _ _=>trivial) ?_);apply ab;refine ai ?_);all_goals ((refine ag 4 ?_;(refine bS (vs:=[.int .u8 (lowD n)]) fun _=>?_);apply ab;refine ai ?_);all_goals (refine ag 5 ?_;(refine am (nr (ns:=[lowD n]) rfl aI rfl (by decide)) rfl aC rfl ?_);apply ab;refine ai ?_);all_goals (refine aa 9 (hy:=by (apply bE;rfl;rfl;omega)) ?_);all_goals (refine aa 10 ?_);all_goals (refine aw ?_)))))
    all_goals
     apply ar
     exact al (ap rfl rfl) rfl
  · rw [lz hs]
    repeat' (first|refine xj (hab:=by omega) ?_|refine xi (hab:=by omega) ?_|apply ab|apply Qt|apply Qu|refine aj ?_|refine ad ?_|refine bS fun _=>?_|refine Qx ?_|refine Qy ?_|apply Qw|apply ar|refine d5 (h:=?_)|(refine am (nr (ns:=[IntKind.u8.wrap n]) rfl aI rfl (by decide)) rfl aC rfl ?_)|fail)
    exact al (ap rfl rfl) rfl
theorem bz (n:Int) (hn:n<9223372036854775808):Pu Tryz.prog 178 #[.int .i64 n] (fun _=>True) (.string (numV n)):=by
 by_cases h0:0≤n
 · have h:=refNumD 9 n h0 (by rw [show (128:Int) ^ 9=9223372036854775808 from by decide];exact hn) (Qo _)
   rw [numV,Zn (by omega)]
   exact h
 · rw [numV,ZA (by omega)]
   refine ay (args:=[_]) _ Tryz.func178 rfl Tryz.ntmps178 rfl fun av bor w0=>?_
   repeat' (first|refine xi (hab:=by omega) ?_|apply ab|apply Qt|apply Qu|refine aj ?_|refine ad ?_|refine Qx ?_|apply ar|fail)
   exact al (ap rfl rfl) rfl
theorem bX (s:ByteArray) (hs:s.size≤1099511627776):Pu Tryz.prog 175 #[.string s] (fun _=>True) (.string (textV s)):=by
 refine ay (args:=[_]) _ Tryz.func175 rfl Tryz.ntmps175 rfl fun av bor w0=>?_
 have:=aO s.size
 repeat' (first|apply ab|apply Qt|apply Qu|refine aj ?_|refine ad ?_|refine bT ?_|apply ar|refine ao (hc:=bz _ ae) ?_|(refine k9 ?_)|fail)
 exact al (ap rfl rfl) rfl
theorem lp (s:SlV) (l:List ByteArray) (hs:(listV l).size≤1099511627776):Pu Tryz.prog 215 #[s.v] (fun w=>Strs w s l) (.string (listV l)):=by
 refine ay (args:=[_]) _ Tryz.func215 rfl Tryz.ntmps215 rfl fun av bor w0=>?_
 refine bJ (p:=s.n=l.length∧s.n≤maxLen∧(0<l.length→s.p.isSome=true)) (fun w h=>⟨h.len_,Qp (RowsD.cap h) (RowsD.max h),h.some_⟩) fun ⟨hl,hm,hp⟩=>?_
 simp only [maxLen] at hm
 have hn10:=aO s.n
 have hsz:(numV l.length).size+(cats (l.map textV)).size≤1099511627776:=by rw [←Zl];exact hs
 have h0:numV l.length++cats ((l.map textV).take 0)=numV s.n:=by simp [cats,hl]
 repeat' (first|apply ab|apply Qt|apply Qu|refine aj ?_|refine ad ?_|refine aY ?_|apply Qv|refine ao (hc:=bz _ ae) ?_|fail)
 refine aU (ι:=Kth l.length) (fun i=>⟨[(0,s.v),(3,.string (numV l.length++cats ((l.map textV).take i.k))),(4,.int .i64 (i.k:Nat))],[],fun w=>Strs w s l⟩) (fun i=>l.length-i.k) ⟨0,Nat.zero_le _⟩ (ax ⟨rfl,by rw [h0];rfl,rfl,trivial⟩ (aE _) fun _ h=>h) fun i=>?_
 obtain ⟨k,hk⟩:=i
 simp only
 repeat' (first|apply ab|apply Qt|apply Qu|refine aj ?_|refine ad ?_|refine bj ?_|refine aY ?_|apply Qw|apply Qv|apply ar|apply aQ|(refine aH (ht:=?_) (hf:=?_);all_goals (intro hx_;first|have:=aP hx_|have:=aT hx_)))
 · have hlt:k<l.length:=by omega
   have hp':=hp ae
   have hsucc:=fg (l.map textV) (k:=k) (by rw [Z3];exact hlt)
   have hg:(l.map textV).getD k .empty=textV (l.getD k .empty):=by
    rw [ZL,List.getElem?_map,ZL,Zm hlt];rfl
   have hle:=eO (l.map textV) (k+1)
   rw [hsucc,Zl,hg] at hle
   have hte:(textV (l.getD k .empty)).size=(numV (l.getD k .empty).size).size+(l.getD k .empty).size:=by rw [textV,Zl]
   have hca:(numV l.length++cats ((l.map textV).take k)).size=(numV l.length).size+(cats ((l.map textV).take k)).size:=Zl
   repeat' (first|apply ab|apply Qu|refine aj ?_|refine ad ?_|refine be (h:=?_)|(refine bx (q:=k) ?_)|(refine dP (hF:=fun w h=>Strs.get h hlt) ?_)|refine ao (hc:=bX _ ae) ?_|(refine k9 ?_)|fail)
   exact ⟨(⟨k+1,hlt⟩:Kth l.length),(by show l.length-(k+1)<l.length-k;omega),ax ⟨rfl,by rw [hsucc,hg,←ZV];rfl,rfl,trivial⟩ (aE _) fun _ h=>h⟩
 · have hkE:k=l.length:=by omega
   subst hkE
   exact al (ap rfl rfl) (by rw [listV,List.take_of_length_le (by rw [Z3];exact Qo _)])
def u32n (l:List Nat):List Value:=l.map fun (n:Nat)=>.int .u32 (n:Int)
def U32s (w:World) (s:SlV) (l:List Nat):Prop:=RowsD w 1 s (l.map fun (n:Nat)=>[.int .u32 (n:Int)])
def U8s (w:World) (s:SlV) (l:List Nat):Prop:=RowsD w 1 s (l.map fun (n:Nat)=>[.int .u8 (n:Int)])
theorem oP (l:List Nat):(u32n l).length=l.length:=by simp [u32n]
theorem oQ {l:List Nat} {i:Nat} (h:i<l.length):(u32n l)[i]?=some (.int .u32 ((l.getD i 0:Nat):Int)):=by simp [u32n,h]
theorem iD {w:World} {s:SlV} {l:List Nat} {f:Nat→Value} (h:RowsD w 1 s (l.map fun n=>[f n])) {i:Nat} (hi:i<l.length):CellAt w s.p i (f (l.getD i 0)):=by
 obtain ⟨_,_,hc⟩:=RowsD.row h i [f (l.getD i 0)] (by rw [List.getElem?_map,Zm hi,ZL,Zm hi];rfl)
 have:=hc 0 _ rfl
 rwa [Nat.mul_one,Qj] at this
theorem gS {w:World} {s:SlV} {l:List Nat} {f:Nat→Value} (h:RowsD w 1 s (l.map fun n=>[f n])):s.n=l.length:=by have:=RowsD.len h;simpa using this
theorem fN {w:World} {s:SlV} {l:List Nat} {f:Nat→Value} (h:RowsD w 1 s (l.map fun n=>[f n])) (h0:0<l.length):s.p.isSome=true:=(RowsD.row h 0 [f l[0]] (by rw [List.getElem?_map,Zm h0];rfl)).2.1
theorem U32s.of_row {w:World} {e n c:Nat} {A:Option Addr} {l:List Nat} (h:ORow w e 1 (.slice A n c) n (u32n l)) (hn:n=l.length):U32s w ⟨A,n,c⟩ l:=by
 have e1:(l.map fun (n:Nat)=>[(.int .u32 (n:Int):Value)]).flatten=u32n l:=by
  clear h hn
  induction l with
  | nil=>rfl
  | cons a l ih=>rw [Qs,List.flatten_cons,ih];rfl
 rw [←e1] at h
 exact cb h (by rw [Z3,hn]) fun r hr=>by
  obtain ⟨n,_,rfl⟩:=List.mem_map.1 hr
  rfl
theorem je {n:Nat} (h:n<4294967296):IntKind.u32.wrap (n:Int)=(n:Int):=by rw [wrap32,Z0 h]
section
variable {P:Program} {N:Nat} {av bor:List Nat} {w0:World} {st:St} {ty:TypeId} {x y:Operand} {t t2:TypeId} {a b:Nat}
theorem qC (hx:ev st.env x=some (.int .u32 (a:Int))) (hy:ev st.env y=some (.int .u32 (b:Int))) (hc:a*b<4294967296):Sy.Yields P N av bor w0 st (.binOp .mul t x y t2) ty (.int .u32 ((a*b:Nat):Int)) :=
 oH hx hy (by rw [←Int.natCast_mul];exact je hc)
theorem kj (hx:ev st.env x=some (.int .i64 (a:Int))) (hy:ev st.env y=some (.int .i64 (b:Int))) (hc:a*b<9223372036854775808):Sy.Yields P N av bor w0 st (.binOp .mul t x y t2) ty (.int .i64 ((a*b:Nat):Int)) :=
 oH hx hy (by rw [←Int.natCast_mul];exact IntWalk.i64_in _ ae)
theorem qF (hx:ev st.env x=some (.int .u32 (a:Int))) (hy:ev st.env y=some (.int .u32 (b:Int))) (hc:a+b<4294967296):Sy.Yields P N av bor w0 st (.binOp .add t x y t2) ty (.int .u32 ((a+b:Nat):Int)) :=
 mE hx hy (by rw [←Int.natCast_add];exact je hc)
theorem eE (hx:ev st.env x=some (.int .u32 (a:Int))) (hy:ev st.env y=some (.int .u32 (b:Int))):Sy.Yields P N av bor w0 st (.binOp .add t x y t2) ty (.int .u32 (((a+b)%4294967296:Nat):Int)) :=
 mE hx hy (by rw [←Int.natCast_add,wrap32])
theorem gu (hx:ev st.env x=some (.int .u32 (a:Int))) (hy:ev st.env y=some (.int .u32 (b:Int))) (ha:a<4294967296) (hb:b<4294967296):Sy.Yields P N av bor w0 st (.binOp .xor t x y t2) ty (.int .u32 ((a ^^^ b:Nat):Int)) :=
 (IsN.xor (x:=(a:Int)) (y:=(b:Int)) ⟨rfl,ha⟩ ⟨rfl,hb⟩).1▸rT hx hy
theorem kp (hx:ev st.env x=some (.int .u32 (a:Int))) (hy:ev st.env y=some (.int .u32 (b:Int))) (ha:a<4294967296) (hb:b<4294967296):Sy.Yields P N av bor w0 st (.binOp .and t x y t2) ty (.int .u32 ((a &&& b:Nat):Int)) :=
 (IsN.and (x:=(a:Int)) (y:=(b:Int)) ⟨rfl,ha⟩ ⟨rfl,hb⟩).1▸oL hx hy
theorem qz {k':IntKind} {c:Int} {p:Nat} (hx:ev st.env x=some (.int .u32 (a:Int))) (hy:ev st.env y=some (.int k' c)) (hc:0≤c) (ha:a<4294967296) (hp:(2:Int) ^ (min c.toNat 32)=(p:Int)):Sy.Yields P N av bor w0 st (.binOp .shr t x y t2) ty (.int .u32 ((a/p:Nat):Int)) :=
 (IsN.shr (x:=(a:Int)) ⟨rfl,ha⟩ p hp).1▸rV hx hy hc
theorem BG (hx:ev st.env x=some (.int .u32 (a:Int))) (ha:a<4294967296):Sy.Yields P N av bor w0 st (.unOp .xor t x) ty (.int .u32 ((4294967295 ^^^ a:Nat):Int)):=by
 have hm:IsN (if IntKind.u32.signed then -1 else IntKind.u32.max) 4294967295:=⟨by kernel_rfl,by decide⟩
 exact (hm.xor (y:=(a:Int)) ⟨rfl,ha⟩).1▸qw hx
end
theorem za {w:World} {s:SlV} {l:List Nat} (h:U32s w s l):Src Tryz.prog w 1 s.v s.n (u32n l):=by
 have e1:(l.map fun (n:Nat)=>[(.int .u32 (n:Int):Value)]).flatten=u32n l:=by
  clear h
  induction l with
  | nil=>rfl
  | cons a l ih=>rw [Qs,List.flatten_cons,ih];rfl
 have h1:=fK (P:=Tryz.prog) (s:=s) h fun cs hcs=>by
  obtain ⟨n,_,rfl⟩:=List.mem_map.1 hcs
  rfl
 rwa [e1] at h1
theorem wg (l:List Nat) {i v:Nat} (h:i<l.length):(u32n l).take (i*1)++[.int .u32 (v:Int)]++(u32n l).drop (i*1+1)=u32n (l.set i v):=by
 rw [Nat.mul_one,u32n,u32n,List.map_set,List.set_eq_take_append_cons_drop,Qe (by rw [Z3];exact h)]
 simp
theorem BQ {m n:Nat} (hm:m<4294967296) (h0:0<n) (hn:n<32):bitsV .or .u32 (shrV .u32 (m:Int) (n:Int)) (shlV .u32 (m:Int) (32-(n:Int)))=((rot (2 ^ (32-n)) (2 ^ n) m:Nat):Int):=by
 have hw:32-(n:Int)=((32-n:Nat):Int):=by omega
 rw [hw]
 have h1:IsN (m:Int) m:=⟨rfl,hm⟩
 have h2:=(h1.shr (c:=(n:Int)) (2 ^ n) (by rw [Qq,Nat.min_eq_left (by omega)];simp)).or (h1.shl (c:=((32-n:Nat):Int)) (2 ^ (32-n)) (by rw [Qq,Nat.min_eq_left (by omega)];simp))
 rw [h2.1,rot,Nat.or_comm]
theorem fE {m n:Nat} (hm:m<4294967296) (h0:0<n) (hn:n<32):rot (2 ^ (32-n)) (2 ^ n) m<4294967296:=by
 have h1:IsN (m:Int) m:=⟨rfl,hm⟩
 have h2:=(h1.shl (c:=((32-n:Nat):Int)) (2 ^ (32-n)) (by rw [Qq,Nat.min_eq_left (by omega)];simp)).or (h1.shr (c:=(n:Int)) (2 ^ n) (by rw [Qq,Nat.min_eq_left (by omega)];simp))
 exact h2.2
theorem dq (m n:Nat) (hm:m<4294967296) (h0:0<n) (hn:n<32):Pu Tryz.prog 219 #[.int .u32 (m:Int),.int .i64 (n:Int)] (fun _=>True) (.int .u32 ((rot (2 ^ (32-n)) (2 ^ n) m:Nat):Int)):=by
 refine ay (args:=[_,_]) _ Tryz.func219 rfl Tryz.ntmps219 rfl fun av bor w0=>?_
 rw [←BQ hm h0 hn]
 repeat' (first|apply ab|apply Qt|apply Qu|refine ad ?_|fail)
 (apply bI;kernel_rfl)
 all_goals refine aa 0 ?_<;>refine aa 1 ?_<;>refine aa 2 ?_<;>refine aa 3 ?_<;>refine aa 4 ?_<;>refine aa 5 ?_<;>refine aa 6 ?_<;>refine aa 7 ?_<;>refine aa 8 ?_<;>(refine aw ?_)
 repeat' (first|apply ar|fail)
 all_goals exact al (ap rfl rfl) rfl
theorem v6 {a b c d:Nat} (ha:a<256) (hb:b<256) (hc:c<256) (hd:d<256):wdN a b c d=a*16777216+b*65536+c*256+d:=by
 rw [wdN,Z0 (show a*16777216<4294967296 by omega),Z0 (show b*65536<4294967296 by omega),Z0 (show c*256<4294967296 by omega)]
 have h1:a*16777216 ||| b*65536=a*16777216+b*65536:=by
  have:=Nat.two_pow_add_eq_or_of_lt (i:=24) (b:=b*65536) ae a
  rw [show a*16777216=2 ^ 24*a from by omega]
  exact this.symm
 have h2:(a*16777216+b*65536) ||| c*256=a*16777216+b*65536+c*256:=by
  have:=Nat.two_pow_add_eq_or_of_lt (i:=16) (b:=c*256) ae (a*256+b)
  rw [show a*16777216+b*65536=2 ^ 16*(a*256+b) from by omega]
  exact this.symm
 have h3:(a*16777216+b*65536+c*256) ||| d=a*16777216+b*65536+c*256+d:=by
  have:=Nat.two_pow_add_eq_or_of_lt (i:=8) (b:=d) ae (a*65536+b*256+c)
  rw [show a*16777216+b*65536+c*256=2 ^ 8*(a*65536+b*256+c) from by omega]
  exact this.symm
 rw [h1,h2,h3]
def row1 (l:List Nat) (k:Nat):List Nat:=(List.range k).map (fW l)
def row2 (l:List Nat) (k:Nat):List Nat:=(List.range (16+k)).map (sN (fW l) k)
theorem uQ (l:List Nat) (k:Nat):row1 l (k+1)=row1 l k++[fW l k]:=by rw [row1,row1,List.range_succ,Qm];rfl
theorem uO (l:List Nat):row2 l 0=row1 l 16:=rfl
theorem pg (l:List Nat) {k t:Nat} (h:t<16+k):(row2 l k).getD t 0=sN (fW l) k t:=by
 rw [row2,ZL,List.getElem?_map,List.getElem?_range h]
 rfl
theorem uP (l:List Nat) (k:Nat):row2 l (k+1)=row2 l k++[nextW (sN (fW l) k k) (sN (fW l) k (k+1)) (sN (fW l) k (k+9)) (sN (fW l) k (k+14))]:=by
 rw [row2,row2,show 16+(k+1)=(16+k)+1 from by omega,List.range_succ,Qm,Qs,List.map_nil,qV]
 congr 1
 refine List.map_congr_left fun t ht=>?_
 exact nO _ (by rw [List.mem_range] at ht;omega)
theorem iE (l:List Nat) (k:Nat):(row2 l k).length=16+k:=by simp [row2]
theorem CP {l:List Nat} (h:∀ x∈l,x<256) (t:Nat):fW l t<4294967296:=by
 have g:=fun i=>fy h i
 rw [fW,v6 (g _) (g _) (g _) (g _)]
 have g0:=g (4*t)
 have g1:=g (4*t+1)
 have g2:=g (4*t+2)
 have g3:=g (4*t+3)
 omega
theorem Bo (f:Nat→Nat) (h:∀ t,f t<4294967296):∀ k t,sN f k t<4294967296
 | 0,t=>h t
 | k+1,t=>by
  rw [sN]
  split
  · exact Nat.mod_lt _ ae
  · exact Bo f h k t
structure RowU (n:Nat) where
 k:Nat
 hk:k≤n
 A:Option Addr
 c:Nat
set_option maxRecDepth 20000 in
set_option maxHeartbeats 4000000 in
theorem pG (s:SlV) (l:List Nat) (hl:l.length=64) (hb:∀ x∈l,x<256):Mk Tryz.prog 217 #[s.v] (fun w=>U8s w s l) (fun u X'=>∃ s':SlV,u=s'.v∧∀ w,X' w→U32s w s' (row2 l 48)):=by
 refine cq (args:=[_]) _ Tryz.func217 rfl Tryz.ntmps217 rfl fun av bor w0=>?_
 refine bJ (p:=s.n=64∧s.p.isSome=true) (fun w h=>⟨by rw [gS (f:=fun n=>.int .u8 (n:Int)) h,hl],fN (f:=fun n=>.int .u8 (n:Int)) h ae⟩) fun ⟨hsn,hsp⟩=>?_
 have hg:∀ i,l.getD i 0<256:=fun i=>fy hb i
 repeat' (first|apply ab|apply Qt|apply Qu|refine ad ?_|apply Qv|fail)
 refine cW 128 1 ?_
 refine aU (ι:=RowU 16) (fun i=>⟨[(0,s.v),(3,.slice i.A i.k i.c),(4,.int .i64 (i.k:Nat))],[orow 128 1 (.slice i.A i.k i.c) i.k (u32n (row1 l i.k))],fun w=>U8s w s l⟩) (fun i=>16-i.k) ⟨0,by omega,none,0⟩ (ax ⟨rfl,rfl,rfl,trivial⟩ (.cons_cons _ (ZR _)) fun _ h=>h) fun i=>?_
 obtain ⟨k,hk,A,c⟩:=i
 simp only
 repeat' (first|apply ab|apply Qt|apply Qu|refine aj ?_|refine ad ?_|refine bj ?_|apply Qw|apply Qv|apply aQ|(refine aH (ht:=?_) (hf:=?_);all_goals (intro hx_;first|have:=aP hx_|have:=aT hx_)))
 · have hlt:k<16:=by omega
   have g0:=hg (4*k)
   have g1:=hg (4*k+1)
   have g2:=hg (4*k+2)
   have g3:=hg (4*k+3)
   have hfw:fW l k=l.getD (4*k) 0*16777216+l.getD (4*k+1) 0*65536+l.getD (4*k+2) 0*256+l.getD (4*k+3) 0:=v6 g0 g1 g2 g3
   obtain ⟨b0,e0⟩:∃ b,b=l.getD (4*k) 0:=⟨_,rfl⟩
   obtain ⟨b1,e1⟩:∃ b,b=l.getD (4*k+1) 0:=⟨_,rfl⟩
   obtain ⟨b2,e2⟩:∃ b,b=l.getD (4*k+2) 0:=⟨_,rfl⟩
   obtain ⟨b3,e3⟩:∃ b,b=l.getD (4*k+3) 0:=⟨_,rfl⟩
   rw [←e0] at g0 hfw
   rw [←e1] at g1 hfw
   rw [←e2] at g2 hfw
   rw [←e3] at g3 hfw
   have hget:∀ w,U8s w s l→∀ i,i<64→CellAt w s.p i (.int .u8 ((l.getD i 0:Nat):Int)):=fun w h i hi=>iD (f:=fun n=>.int .u8 (n:Int)) h ae
   (refine aS [] (fun w=>U8s w s l) ak ?_)
   all_goals refine aa 0 ?_<;>refine aa 1 ?_<;>refine aa 2 ?_<;>(refine aa 3 (hy:=by (apply kj (a:=4) (b:=k);rfl;rfl;omega)) ?_)<;>(refine aa 4 (hy:=by (apply aN (q:=4*k);rfl;rfl;omega;omega;assumption;omega)) ?_)<;>(refine aa 5 (hy:=by (apply dv (q:=4*k) (u:=.int .u8 (b0:Int));rfl;exact fun w h=>e0▸hget w h (4*k) ae)) ?_)<;>(refine aa 6 (hy:=by (apply jE;rfl;exact je ae)) ?_)<;>(refine aa 7 (hy:=by (apply qC (b:=16777216);rfl;rfl;omega)) ?_)<;>refine aa 8 ?_<;>refine aa 9 ?_<;>(refine aa 10 (hy:=by (apply kj (a:=4) (b:=k);rfl;rfl;omega)) ?_)<;>refine aa 11 ?_<;>(refine aa 12 (hy:=by (apply aN (q:=4*k+1);rfl;rfl;omega;omega;assumption;omega)) ?_)<;>(refine aa 13 (hy:=by (apply dv (q:=4*k+1) (u:=.int .u8 (b1:Int));rfl;exact fun w h=>e1▸hget w h (4*k+1) ae)) ?_)<;>(refine aa 14 (hy:=by (apply jE;rfl;exact je ae)) ?_)<;>(refine aa 15 (hy:=by (apply qC (b:=65536);rfl;rfl;omega)) ?_)<;>(refine aa 16 (hy:=by (apply qF;rfl;rfl;omega)) ?_)<;>refine aa 17 ?_<;>refine aa 18 ?_<;>(refine aa 19 (hy:=by (apply kj (a:=4) (b:=k);rfl;rfl;omega)) ?_)<;>refine aa 20 ?_<;>(refine aa 21 (hy:=by (apply aN (q:=4*k+2);rfl;rfl;omega;omega;assumption;omega)) ?_)<;>(refine aa 22 (hy:=by (apply dv (q:=4*k+2) (u:=.int .u8 (b2:Int));rfl;exact fun w h=>e2▸hget w h (4*k+2) ae)) ?_)<;>(refine aa 23 (hy:=by (apply jE;rfl;exact je ae)) ?_)<;>(refine aa 24 (hy:=by (apply qC (b:=256);rfl;rfl;omega)) ?_)<;>(refine aa 25 (hy:=by (apply qF;rfl;rfl;omega)) ?_)<;>refine aa 26 ?_<;>refine aa 27 ?_<;>(refine aa 28 (hy:=by (apply kj (a:=4) (b:=k);rfl;rfl;omega)) ?_)<;>refine aa 29 ?_<;>(refine aa 30 (hy:=by (apply aN (q:=4*k+3);rfl;rfl;omega;omega;assumption;omega)) ?_)<;>(refine aa 31 (hy:=by (apply dv (q:=4*k+3) (u:=.int .u8 (b3:Int));rfl;exact fun w h=>e3▸hget w h (4*k+3) ae)) ?_)<;>(refine aa 32 (hy:=by (apply jE;rfl;exact je ae)) ?_)<;>(refine aa 33 (hy:=by (apply qF;rfl;rfl;omega)) ?_)<;>(refine ag 34 ?_;(refine bS (vs:=[.int .u32 ((b0*16777216+b1*65536+b2*256+b3:Nat):Int)]) fun _=>?_);apply ab;refine ai ?_)<;>(refine ag 35 ?_;(refine aV (size:=1) (news:=u32n [b0*16777216+b1*65536+b2*256+b3]) (q:=1) rfl rfl rfl rfl (fun _=>At.there _ (At.here _)) (fun w G=>bo G aI rfl rfl 1) ae (by simp only [maxLen];omega) rfl ?_ rfl ?_;(with_reducible rfl);intro A2 c2);apply ab;refine ai ?_)<;>refine aa 36 ?_<;>(refine aw ?_)
   have hrow:=uQ l k
   rw [hfw] at hrow
   repeat' (first|apply ab|apply Qu|refine aj ?_|refine ad ?_|refine be (h:=?_)|fail)
   exact ⟨(⟨k+1,hlt,A2,c2⟩:RowU 16),(by show 16-(k+1)<16-k;omega),ax ⟨rfl,rfl,rfl,trivial⟩ (by rw [hrow,u32n,Qm];exact .cons _ (aE _)) fun _ h=>h⟩
 · obtain rfl:k=16:=by omega
   rw [←uO]
   refine aU (ι:=RowU 48) (fun i=>⟨[(3,.slice i.A (16+i.k) i.c),(5,.int .i64 ((16+i.k:Nat):Int))],[orow 128 1 (.slice i.A (16+i.k) i.c) (16+i.k) (u32n (row2 l i.k))],fun w=>True⟩) (fun i=>48-i.k) ⟨0,by omega,A,c⟩ (ax ⟨rfl,rfl,trivial⟩ (aE _) fun _ h=>trivial) fun i=>?_
   obtain ⟨k,hk,A,c⟩:=i
   simp only
   refine cO aI (fun w h=>cE h ae) fun hAs=>?_
   repeat' (first|apply ab|apply Qt|apply Qu|refine aj ?_|refine ad ?_|refine bj ?_|refine de (h:=?_)|apply Qw|apply Qv|apply ar|apply aQ|(refine aH (ht:=?_) (hf:=?_);all_goals (intro hx_;first|have:=aP hx_|have:=aT hx_)))
   · have hlt:k<48:=by omega
     have hm:∀ t,sN (fW l) k t<4294967296:=Bo _ (CP hb) k
     have hA:∀ t,t<16+k→(u32n (row2 l k))[t]?=some (.int .u32 ((sN (fW l) k t:Nat):Int)):=fun t h=>by rw [oQ (by rw [iE];exact h),pg l h]
     have hn:16+k=(u32n (row2 l k)).length:=by rw [oP,iE]
     have hg0:=hA k ae
     have hg1:=hA (k+1) ae
     have hg9:=hA (k+9) ae
     have hg14:=hA (k+14) ae
     have hnx:nextW (sN (fW l) k k) (sN (fW l) k (k+1)) (sN (fW l) k (k+9)) (sN (fW l) k (k+14))=(((sN (fW l) k k+s0N (sN (fW l) k (k+1)))%4294967296+sN (fW l) k (k+9))%4294967296+s1N (sN (fW l) k (k+14)))%4294967296:=rfl
     have hrow:=uP l k
     rw [hnx] at hrow
     have m1:=hm (k+1)
     have m14:=hm (k+14)
     obtain ⟨x0,e0⟩:∃ x,x=sN (fW l) k k:=⟨_,rfl⟩
     obtain ⟨x1,e1⟩:∃ x,x=sN (fW l) k (k+1):=⟨_,rfl⟩
     obtain ⟨x9,e9⟩:∃ x,x=sN (fW l) k (k+9):=⟨_,rfl⟩
     obtain ⟨x14,e14⟩:∃ x,x=sN (fW l) k (k+14):=⟨_,rfl⟩
     rw [←e0] at hg0 hrow
     rw [←e1] at hg1 m1 hrow
     rw [←e9] at hg9 hrow
     rw [←e14] at hg14 m14 hrow
     clear hA hm hnx
     have t7:=dq x1 7 m1 ae ae
     have t18:=dq x1 18 m1 ae ae
     have t17:=dq x14 17 m14 ae ae
     have t19:=dq x14 19 m14 ae ae
     have l7:=fE (n:=7) m1 ae ae
     have l18:=fE (n:=18) m1 ae ae
     have l17:=fE (n:=17) m14 ae ae
     have l19:=fE (n:=19) m14 ae ae
     have hs0:s0N x1=(rot (2 ^ (32-7)) (2 ^ 7) x1 ^^^ rot (2 ^ (32-18)) (2 ^ 18) x1) ^^^ (x1/8):=rfl
     have hs1:s1N x14=(rot (2 ^ (32-17)) (2 ^ 17) x14 ^^^ rot (2 ^ (32-19)) (2 ^ 19) x14) ^^^ (x14/1024):=rfl
     rw [hs0,hs1] at hrow
     clear hs0 hs1
     generalize rot (2 ^ (32-7)) (2 ^ 7) x1=r7 at *
     generalize rot (2 ^ (32-18)) (2 ^ 18) x1=r18 at *
     generalize rot (2 ^ (32-17)) (2 ^ 17) x14=r17 at *
     generalize rot (2 ^ (32-19)) (2 ^ 19) x14=r19 at *
     have lx:=Nat.xor_lt_two_pow (n:=32) l7 l18
     have ly:=Nat.xor_lt_two_pow (n:=32) l17 l19
     have d3:x1/8<4294967296:=by omega
     have d10:x14/1024<4294967296:=by omega
     repeat' (first|refine am (gu rfl rfl (by assumption) (by assumption)) rfl aC rfl ?_|refine am (qz (p:=8) rfl rfl (by decide) (by assumption) (by decide)) rfl aC rfl ?_|refine am (qz (p:=1024) rfl rfl (by decide) (by assumption) (by decide)) rfl aC rfl ?_|apply ab|apply Qt|apply Qu|refine aj ?_|refine ad ?_|refine de (h:=?_)|(refine bx (q:=k+1) ?_)|(refine bx (q:=k+14) ?_)|(refine am (cY rfl aI hn hg1) rfl aC rfl ?_)|(refine am (cY rfl aI hn hg14) rfl aC rfl ?_)|(refine ao (hc:=t7) (hX:=fun _ _=>trivial) ?_)|(refine ao (hc:=t18) (hX:=fun _ _=>trivial) ?_)|(refine ao (hc:=t17) (hX:=fun _ _=>trivial) ?_)|(refine ao (hc:=t19) (hX:=fun _ _=>trivial) ?_)|fail)
     obtain ⟨v,hv⟩:∃ v,v=((((x0+(r7 ^^^ r18 ^^^ x1/8))%4294967296+x9)%4294967296+(r17 ^^^ r19 ^^^ x14/1024))%4294967296):=⟨_,rfl⟩
     rw [←hv] at hrow
     (refine aS [] (fun w=>True) ak ?_)
     all_goals refine aa 0 ?_<;>refine aa 1 ?_<;>refine aa 2 ?_<;>refine aa 3 ?_<;>(refine aa 4 (hy:=by (apply aN (q:=k);rfl;rfl;omega;omega;assumption;omega)) ?_)<;>refine aa 6 ?_<;>refine aa 8 ?_<;>refine aa 9 ?_<;>refine aa 10 ?_<;>(refine aa 11 (hy:=by (apply aN (q:=k+9);rfl;rfl;omega;omega;assumption;omega)) ?_)<;>refine aa 14 ?_<;>(refine bw 5 12 (h:=?_) (h':=?_);(focus (((refine am (cY rfl aI hn hg0) rfl aC rfl ?_);apply ab;refine ai ?_);all_goals ((refine aa 7 (hy:=by (apply eE;rfl;rfl)) ?_);all_goals (refine ag 12 ?_;(refine am (cY rfl aI hn hg9) rfl aC rfl ?_);apply ab;refine ai ?_);all_goals (refine aa 13 (hy:=by (apply eE;rfl;rfl)) ?_);all_goals (refine aa 15 (hy:=by (apply eE;rfl;rfl)) ?_);all_goals (refine ag 16 ?_;(rw [←hv];refine bS (vs:=[.int .u32 (v:Int)]) fun _=>?_);apply ab;refine ai ?_);all_goals (refine ag 17 ?_;(refine aV (size:=1) (news:=u32n [v]) (q:=1) rfl rfl rfl rfl (fun _=>At.there _ (At.here _)) (fun w G=>bo G aI rfl rfl 1) ae (by simp only [maxLen];omega) rfl ?_ rfl ?_;(with_reducible rfl);intro A2 c2);apply ab;refine ai ?_);all_goals (refine aa 18 ?_);all_goals (refine aw ?_))));rotate_right;(focus (((refine am (cY rfl aI hn hg9) rfl aC rfl ?_);apply ab;refine ai ?_);all_goals ((refine ag 5 ?_;(refine am (cY rfl aI hn hg0) rfl aC rfl ?_);apply ab;refine ai ?_);all_goals (refine aa 7 (hy:=by (apply eE;rfl;rfl)) ?_);all_goals (refine aa 13 (hy:=by (apply eE;rfl;rfl)) ?_);all_goals (refine aa 15 (hy:=by (apply eE;rfl;rfl)) ?_);all_goals (refine ag 16 ?_;(rw [←hv];refine bS (vs:=[.int .u32 (v:Int)]) fun _=>?_);apply ab;refine ai ?_);all_goals (refine ag 17 ?_;(refine aV (size:=1) (news:=u32n [v]) (q:=1) rfl rfl rfl rfl (fun _=>At.there _ (At.here _)) (fun w G=>bo G aI rfl rfl 1) ae (by simp only [maxLen];omega) rfl ?_ rfl ?_;(with_reducible rfl);intro A2 c2);apply ab;refine ai ?_);all_goals (refine aa 18 ?_);all_goals (refine aw ?_)))))
     all_goals
      repeat' (first|apply ab|apply Qu|refine aj ?_|refine ad ?_|refine be (h:=?_)|fail)
      exact ⟨(⟨k+1,hlt,A2,c2⟩:RowU 48),(by show 48-(k+1)<48-k;omega),ax ⟨rfl,rfl,trivial⟩ (by rw [hrow,u32n,Qm];exact .cons _ (aE _)) fun _ h=>h⟩
   · obtain rfl:k=48:=by omega
     exact al (ap rfl rfl) ⟨⟨A,64,c⟩,rfl,fun w h=>U32s.of_row (h.2 (orow 128 1 (.slice A (16+48) c) (16+48) (u32n (row2 l 48))) aI) (by rw [iE])⟩
def S8.l (s:S8):List Nat:=[s.a,s.b,s.c,s.d,s.e,s.f,s.g,s.h]
structure S8.Lt (s:S8):Prop where
 a:s.a<4294967296
 b:s.b<4294967296
 c:s.c<4294967296
 d:s.d<4294967296
 e:s.e<4294967296
 f:s.f<4294967296
 g:s.g<4294967296
 h:s.h<4294967296
theorem pi (s:S8) (k w:Nat):roundN s k w=⟨(t1N s.h s.e s.f s.g k w+t2N s.a s.b s.c)%4294967296,s.a,s.b,s.c,(s.d+t1N s.h s.e s.f s.g k w)%4294967296,s.e,s.f,s.g⟩:=by
 obtain ⟨a,b,c,d,e,f,g,h⟩:=s
 simp only [roundN,lR]
theorem S8.Lt.round {s:S8} (h:s.Lt) (k w:Nat):(roundN s k w).Lt:=by
 rw [pi]
 exact ⟨Nat.mod_lt _ ae,h.a,h.b,h.c,Nat.mod_lt _ ae,h.e,h.f,h.g⟩
def rndN (f:Nat→Nat) (s:S8):Nat→S8
 | 0=>s
 | i+1=>roundN (rndN f s i) (kN.getD i 0) (sN f 48 i)
theorem xB (f:Nat→Nat) {s:S8} (h:s.Lt):∀ i,(rndN f s i).Lt
 | 0=>h
 | i+1=>(xB f h i).round _ _
theorem zP (f:Nat→Nat) {i:Nat} (h:i<64):sN f 48 i=sN f i i:=by
 by_cases hi:i≤48
 · have:=iA f (k:=i) (t:=i) (48-i) ae
   rw [show i+(48-i)=48 from by omega] at this
   exact this
 · have:=iA f (k:=48) (t:=i) (i-48) ae
   rw [show 48+(i-48)=i from by omega] at this
   exact this.symm
theorem pj (f:Nat→Nat) (s:S8):∀ i,i≤64→(kN.take i).foldl stepN (s,winN f 0)=(rndN f s i,winN f i)
 | 0,_=>rfl
 | i+1,h=>by
  have hl:kN.length=64:=by kernel_rfl
  have e:kN.take (i+1)=kN.take i++[kN.getD i 0]:=by
   rw [List.take_add_one,ZL,Zm (by omega)]
   rfl
  rw [e,List.foldl_append,pj f s i ae,List.foldl_cons,List.foldl_nil,oX,mF,rndN,zP f (by omega)]
  have hw:(winN f i).w0=sN f i i:=by unfold winN;rfl
  rw [hw]
theorem qX (f:Nat→Nat) (s:S8):roundsN kN s (winN f 0)=rndN f s 64:=by
 have hl:kN.length=64:=by kernel_rfl
 have h:=pj f s 64 (Qo _)
 rw [List.take_of_length_le (by omega)] at h
 rw [roundsN,h]
theorem CO (s:S8) (w:W16):(mixN s w).l=[(s.a+(roundsN kN s w).a)%4294967296,(s.b+(roundsN kN s w).b)%4294967296,(s.c+(roundsN kN s w).c)%4294967296,(s.d+(roundsN kN s w).d)%4294967296,(s.e+(roundsN kN s w).e)%4294967296,(s.f+(roundsN kN s w).f)%4294967296,(s.g+(roundsN kN s w).g)%4294967296,(s.h+(roundsN kN s w).h)%4294967296]:=by
 rw [mixN]
 generalize roundsN kN s w=t
 obtain ⟨a,b,c,d,e,f,g,h⟩:=s
 obtain ⟨a',b',c',d',e',f',g',h'⟩:=t
 simp only [addN,lR,S8.l]
theorem Ce (s:S8) (w:W16):(mixN s w).Lt:=by
 rw [mixN]
 generalize roundsN kN s w=t
 obtain ⟨a,b,c,d,e,f,g,h⟩:=s
 obtain ⟨a',b',c',d',e',f',g',h'⟩:=t
 simp only [addN,lR]
 exact ⟨Nat.mod_lt _ ae,Nat.mod_lt _ ae,Nat.mod_lt _ ae,Nat.mod_lt _ ae,Nat.mod_lt _ ae,Nat.mod_lt _ ae,Nat.mod_lt _ ae,Nat.mod_lt _ ae⟩
theorem Cj:iniN.Lt:=⟨by decide,by decide,by decide,by decide,by decide,by decide,by decide,by decide⟩
set_option maxRecDepth 8000 in
theorem nV:Mk Tryz.prog 182 #[] (fun _=>True) (fun u X'=>∃ s':SlV,u=s'.v∧∀ w,X' w→U32s w s' iniN.l):=by
 refine cq (args:=[]) _ Tryz.func182 rfl Tryz.ntmps182 rfl fun av bor w0=>?_
 repeat' (first|(refine bS (vs:=u32n iniN.l) fun b=>?_;refine nH 1 8 rfl (by decide) ?_)|apply ab|apply Qt|apply Qu|refine ad ?_|apply ar|fail)
 exact al (ap rfl rfl) ⟨⟨some ⟨b,0,none⟩,8,8⟩,rfl,fun w h=>U32s.of_row (h.2 _ aI) rfl⟩
set_option maxRecDepth 20000 in
theorem ri:Mk Tryz.prog 218 #[] (fun _=>True) (fun u X'=>∃ s':SlV,u=s'.v∧∀ w,X' w→U32s w s' kN):=by
 refine cq (args:=[]) _ Tryz.func218 rfl Tryz.ntmps218 rfl fun av bor w0=>?_
 repeat' (first|(refine bS (vs:=u32n kN) fun b=>?_;refine nH 1 64 rfl (by decide) ?_)|apply ab|apply Qt|apply Qu|refine ad ?_|apply ar|fail)
 exact al (ap rfl rfl) ⟨⟨some ⟨b,0,none⟩,64,64⟩,rfl,fun w h=>U32s.of_row (h.2 _ aI) ak⟩
end Go.Proofs.YtcdilibijnboeaaGreatDoor
namespace Go.Proofs.YtcdilibijnboeaaGreatDoor
open Go Go.Proofs Sy
section
variable {P:Program} {N:Nat} {av bor:List Nat} {w0:World} {st:St} {ty:TypeId} {x y:Operand} {t t2:TypeId} {k:IntKind}
end
end Go.Proofs.YtcdilibijnboeaaGreatDoor
namespace Go.Proofs.YtcdilibijnboeaaGreatDoor
open Go Go.Proofs Sy
section
variable {P:Program} {N:Nat} {av bor:List Nat} {w0:World} {ops:Array Oper} {rest:List Oper} {kk:St→Prop} {E:Env} {loc:List Res} {X:World→Prop} {x y:Operand} {t t2:TypeId}
variable {n:Nat} {ty:TypeId} {pos:String} {af:Array Edge} {g:Option (Nat×Bool)} {bb want:Bool}
end
structure PostTo (P Q:List PostD):Prop where
 to:Q.map (fun p=>(p.to,p.toL,p.pos))=P.map fun p=>(p.to,p.toL,p.pos)
end Go.Proofs.YtcdilibijnboeaaGreatDoor

namespace Go.Proofs.YtcdilibijnboeaaGreatDoor
open Go Go.Proofs Sy
section
variable {P:Program} {N:Nat} {av bor:List Nat} {w0:World} {E:Env} {loc:List Res} {X:World→Prop} {K:Exit→St→Prop} {c:Code}
end
theorem PostTo.len {P Q:List PostD} (h:PostTo P Q):Q.length=P.length:=by have:=congrArg List.length h.to;simpa using this
theorem PostTo.trans {P Q R:List PostD} (h:PostTo P Q) (k:PostTo Q R):PostTo P R:=⟨k.to.trans h.to⟩
theorem PostTo.pos {P Q:List PostD} (h:PostTo P Q) (j:Nat):posP Q j=posP P j:=by
 have e:∀ L:List PostD,posP L j=(L.map fun p=>(p.to,p.toL,p.pos)).findIdx? fun t=>t.2.2==j:=fun L=>by rw [posP,List.findIdx?_map];rfl
 rw [e,e,h.to]
theorem PostTo.mem {P Q:List PostD} (h:PostTo P Q) {p:PostD} (hp:p∈Q):∃ q∈P,q.to=p.to∧q.toL=p.toL:=by
 have h1:(p.to,p.toL,p.pos)∈Q.map fun p=>(p.to,p.toL,p.pos):=List.mem_map_of_mem (f:=fun p:PostD=>(p.to,p.toL,p.pos)) hp
 rw [h.to] at h1
 obtain ⟨q,hq,e⟩:=List.mem_map.1 h1
 simp only [Prod.mk.injEq] at e
 exact ⟨q,hq,e.1,e.2.1⟩
structure OfI (c:ChainD) (P:List PostD) where
 k:Nat
 hk:k≤c.actsL.length
 Q:List PostD
 hQ:Q.map PostD.can=ofP c k
 hT:PostTo P Q
end Go.Proofs.YtcdilibijnboeaaGreatDoor
namespace Go.Proofs.YtcdilibijnboeaaGreatDoor
open Go Go.Proofs Sy
def isPost (id:ByteArray) (p:PostD):Bool:=seqB p.id id
structure FinI (l:List ChainD) (id:ByteArray) where
 k:Nat
 hk:k≤l.length
 no:∀ i x,i<k→l[i]?=some x→∀ q∈postsV x,isPost id q=false
structure FinJ (P:List PostD) (id:ByteArray) where
 j:Nat
 hj:j≤P.length
 no:∀ i q,i<j→P[i]?=some q→isPost id q=false
end Go.Proofs.YtcdilibijnboeaaGreatDoor

namespace Go.Proofs.YtcdilibijnboeaaGreatDoor
open Go Go.Proofs Sy
def gOk (a:ActD) (sc:Int) (g:ByteArray) (nx:Nat):Bool:=decide (a.kind=16)&&decide (a.scope=sc)&&seqB a.group g&&decide (a.epoch=(nx:Int))
def grantF (l:List ActD) (sc:Int) (g:ByteArray):Nat→Nat×Nat
 | 0=>(0,0)
 | i+1=>bif gOk (l.getD i ActD.zero) sc g (grantF l sc g i).2 then (i,(grantF l sc g i).2+1) else grantF l sc g i
def grantV (l:List ActD) (n sc:Int) (g:ByteArray):Nat×Nat:=grantF l sc g (limN n l.length)
def epochO (l:List ActD) (n sc:Int) (g:ByteArray):Option ActD:=bif decide ((0:Int)<((grantV l n sc g).2:Nat)) then l[(grantV l n sc g).1]? else none
theorem yJ {e n:Nat} {v:Value} {ss:List ByteArray}:Ct Tryz.prog 47 #[v] [orow e 1 v n (ss.map encB)] (fun _=>True) fun u R _=>∃ A c,u=.slice A (compB ss).length c∧R=[orow e 1 u (compB ss).length ((compB ss).map encB)]:=by
 have h:=compS_c.ct (e:=e) (n:=n) (v:=v) (ss:=ss.map bl)
 rw [pX ss]
 refine h.mono fun u R X' ⟨A,c,h1,h2⟩=>⟨A,c,?_,?_⟩
 · rw [h1];simp [compB]
 · rw [h2,ic,compB];simp
def circF (l:List ActD) (g:ByteArray):Nat→Option ActD
 | 0=>none
 | i+1=>bif decide ((l.getD i ActD.zero).kind=15)&&seqB (l.getD i ActD.zero).group g then some (l.getD i ActD.zero) else circF l g i
def listOf (c:ChainD) (n sc:Int) (g:ByteArray) (toL:List ByteArray):List ByteArray :=
 bif decide (sc=1) then sortB (tieV c.actsL n).a else bif decide (sc=2) then ((circF c.actsL g (limN n c.actsL.length)).map (·.toL)).getD [] else bif decide (sc=3) then toL else []
def keepM (c:ChainD) (bs:List ByteArray) (x:ByteArray):Bool:=!seqB x c.id&&!hasS bs x
def membersV (c:ChainD) (n sc:Int) (g:ByteArray) (toL:List ByteArray):List ByteArray:=compB (sortB ((listOf c n sc g toL).filter (keepM c (sortB (tieV c.actsL n).b))))
structure FilS (m:Nat) where
 k:Nat
 hk:k≤m
 A:Option Addr
 c:Nat
end Go.Proofs.YtcdilibijnboeaaGreatDoor



namespace Go.Proofs.YtcdilibijnboeaaGreatDoor
open Go Go.Proofs Sy
def wellA (c:ChainD) (i:Int) (a:ActD):Bool:=(postK a.kind||decide (a.kind=14))&&(decide (a.scope=1)||decide (a.scope=2)||decide (a.scope=3))&&(match epochO c.actsL i a.scope a.group with
 | some e=>decide (e.epoch=a.epoch)&&eqL e.toL (membersV c i a.scope a.group a.toL)
 | none=>false)
def wellV (c:ChainD) (i:Int):Bool:=decide (0≤i)&&(match c.actsL[i.toNat]? with
 | some a=>wellA c i a
 | none=>false)
structure Agree (n:Nat) (l l':List ActD):Prop where
 at_:∀ k,k<n→l[k]?=l'[k]?
 left:n≤l.length
 right:n≤l'.length
theorem Agree.getD {n:Nat} {l l':List ActD} (h:Agree n l l') {k:Nat} (hk:k<n):l.getD k ActD.zero=l'.getD k ActD.zero:=by
 rw [ZL,ZL,h.at_ k hk]
theorem Agree.symm {n:Nat} {l l':List ActD} (h:Agree n l l'):Agree n l' l:=⟨fun k hk=>(h.at_ k hk).symm,h.right,h.left⟩
def rtextV (c:ChainD) (i:Int):Bool:=decide (0≤i)&&(match c.actsL[i.toNat]? with
 | some a=>postK a.kind||decide (a.kind=14)
 | none=>false)
structure ReadF (c:ChainD) (i:Int) (a:ActD) (l:List ByteArray):Prop where
 asc:Asc l
 own:c.id∈l
 mem:∀ x∈l,x≠c.id→x∈membersV c i a.scope a.group a.toL
 len:l.length=1+(bif wellV c i then (membersV c i a.scope a.group a.toL).length else 0)
def intV (n:Int):Value:=.int .i64 n
structure ChOk (c:ChainD):Prop where
 acts:ActsOk c.actsL
 len:c.actsL.length≤1000000
 to:∀ x∈c.actsL,x.to.n≤1000000
structure HisI (m:Nat) where
 k:Nat
 hk:k≤m
 A:Option Addr
 c:Nat
structure OwnP (c:ChainD) (p:PostD):Prop where
 author:p.author=c.id
 text:rtextV c (p.pos:Int)=true
 ed:∀ e∈p.edL,rtextV c e=true
section
variable {P:Program} {N:Nat} {av bor:List Nat} {w0:World} {E:Env} {loc:List Res} {X:World→Prop}
theorem BI {p q:Bool} {st:St} {t t2 ty:TypeId} {x y:Operand} (r:Bool) [hI:TyBool P t] (hx:ev st.env x=some (.bool p)) (hy:ev st.env y=some (.bool q)) (hr:(p != q)=r):Sy.Yields P N av bor w0 st (.binOp .neq t x y t2) ty (.bool r):=hr▸vX hx hy
end
def accL (vs hs:List Nat):Nat→List Nat
 | 0=>vs
 | i+1=>(accL vs hs i).set i (((accL vs hs i).getD i 0+hs.getD i 0)%4294967296)
theorem qv (vs hs:List Nat):∀ i,(accL vs hs i).length=vs.length
 | 0=>rfl
 | i+1=>by rw [accL,List.length_set,qv vs hs i]
structure RowA (n:Nat) where
 k:Nat
 hk:k≤n
 A:Option Addr
 c:Nat
set_option maxRecDepth 20000 in
set_option maxHeartbeats 8000000 in
theorem q6 (sh sb:SlV) (h:S8) (hh:h.Lt) (l:List Nat) (hl:l.length=64) (hb:∀ x∈l,x<256):Mk Tryz.prog 183 #[sh.v,sb.v] (fun w=>U32s w sh h.l∧U8s w sb l) (fun u X'=>∃ s':SlV,u=s'.v∧∀ w,X' w→U32s w s' (mixN h (winN (fW l) 0)).l):=by
 refine cq (args:=[_,_]) _ Tryz.func183 rfl Tryz.ntmps183 rfl fun av bor w0=>?_
 have hwo:=pG sb l hl hb
 refine bJ (p:=sh.n=8∧sh.p.isSome=true) (fun w h1=>⟨by rw [gS (f:=fun n=>.int .u32 (n:Int)) h1.1];rfl,fN (f:=fun n=>.int .u32 (n:Int)) h1.1 (by rw [show h.l.length=8 from rfl];omega)⟩) fun ⟨hsn,hsp⟩=>?_
 have hkl:kN.length=64:=by kernel_rfl
 have hwl:(row2 l 48).length=64:=iE l 48
 repeat' (first|refine j9 fun _=>?_|apply ab|apply Qt|apply Qu|refine aj ?_|refine ad ?_|apply Qv|(refine cR (hc:=hwo) (hX:=fun w h=>h.2) fun v1 X1 h1=>?_;obtain ⟨sw,rfl,hW⟩:=h1)|(refine cR (hc:=ri) (hX:=fun _ _=>trivial) fun v2 X2 h2=>?_;obtain ⟨sk,rfl,hK⟩:=h2)|(refine aV (size:=1) (news:=u32n h.l) (q:=sh.n) rfl rfl rfl rfl (fun _=>At.here _) (fun w G=>za G.keep.now.1.1.1) ae (by simp only [maxLen];omega) rfl ?_ rfl ?_;(with_reducible rfl);intro A0 c0)|fail)
 rw [hsn]
 refine bJ (p:=(sw.n=64∧sw.p.isSome=true)∧(sk.n=64∧sk.p.isSome=true)) (fun w h1=>⟨⟨by rw [gS (f:=fun n=>.int .u32 (n:Int)) (hW w h1.1.2),hwl],fN (f:=fun n=>.int .u32 (n:Int)) (hW w h1.1.2) ae⟩,⟨by rw [gS (f:=fun n=>.int .u32 (n:Int)) (hK w h1.2),hkl],fN (f:=fun n=>.int .u32 (n:Int)) (hK w h1.2) ae⟩⟩) fun ⟨⟨hwn,hwp⟩,⟨hkn,hkp⟩⟩=>?_
 refine aU (ι:=RowA 64) (fun i=>⟨[(0,sh.v),(5,sw.v),(6,sk.v),(7,.slice i.A 8 i.c),(8,.int .i64 (i.k:Nat))],[orow 128 1 (.slice i.A 8 i.c) 8 (u32n (rndN (fW l) h i.k).l)],fun w=>(U32s w sh h.l∧U32s w sw (row2 l 48))∧U32s w sk kN⟩) (fun i=>64-i.k) ⟨0,by omega,A0,c0⟩ (ax ⟨rfl,rfl,rfl,rfl,rfl,trivial⟩ (aE _) fun w h1=>⟨⟨h1.1.1.1,hW w h1.1.2⟩,hK w h1.2⟩) fun i=>?_
 obtain ⟨k,hk,A,c⟩:=i
 simp only
 refine cO aI (fun w h=>cE h ae) fun hAs=>?_
 repeat' (first|apply ab|apply Qt|apply Qu|refine aj ?_|refine ad ?_|refine bj ?_|apply Qw|apply Qv|apply aQ|(refine aH (ht:=?_) (hf:=?_);all_goals (intro hx_;first|have:=aP hx_|have:=aT hx_)))
 · have hlt:k<64:=by omega
   have hLt:=xB (fW l) hh k
   obtain ⟨kk,hkk⟩:∃ x,x=kN.getD k 0:=⟨_,rfl⟩
   obtain ⟨ww,hww⟩:∃ x,x=sN (fW l) 48 k:=⟨_,rfl⟩
   have hgk:∀ w,(U32s w sh h.l∧U32s w sw (row2 l 48))∧U32s w sk kN→CellAt w sk.p k (.int .u32 (kk:Int)):=fun w h1=>hkk▸iD (f:=fun n=>.int .u32 (n:Int)) h1.2 ae
   have hgw:∀ w,(U32s w sh h.l∧U32s w sw (row2 l 48))∧U32s w sk kN→CellAt w sw.p k (.int .u32 (ww:Int)):=fun w h1=>by
    have h2:=iD (f:=fun n=>.int .u32 (n:Int)) h1.1.2 (i:=k) ae
    rw [pg l ae,←hww] at h2
    exact h2
   have hnext:rndN (fW l) h (k+1)=roundN (rndN (fW l) h k) kk ww:=by rw [rndN,hkk,hww]
   rw [pi] at hnext
   generalize rndN (fW l) h k=S at *
   obtain ⟨a,b,d,e,f,g,p,q⟩:=S
   obtain ⟨ha,hbb,hd,he,hf,hg,hp,hq⟩:=hLt
   simp only at ha hbb hd he hf hg hp hq hnext
   simp only [S8.l]
   have hn:8=(u32n [a,b,d,e,f,g,p,q]).length:=rfl
   have hg0:(u32n [a,b,d,e,f,g,p,q])[0]?=some (.int .u32 (a:Int)):=rfl
   have hg1:(u32n [a,b,d,e,f,g,p,q])[1]?=some (.int .u32 (b:Int)):=rfl
   have hg2:(u32n [a,b,d,e,f,g,p,q])[2]?=some (.int .u32 (d:Int)):=rfl
   have hg3:(u32n [a,b,d,e,f,g,p,q])[3]?=some (.int .u32 (e:Int)):=rfl
   have hg4:(u32n [a,b,d,e,f,g,p,q])[4]?=some (.int .u32 (f:Int)):=rfl
   have hg5:(u32n [a,b,d,e,f,g,p,q])[5]?=some (.int .u32 (g:Int)):=rfl
   have hg6:(u32n [a,b,d,e,f,g,p,q])[6]?=some (.int .u32 (p:Int)):=rfl
   have hg7:(u32n [a,b,d,e,f,g,p,q])[7]?=some (.int .u32 (q:Int)):=rfl
   have t6:=dq f 6 hf ae ae
   have t11:=dq f 11 hf ae ae
   have t25:=dq f 25 hf ae ae
   have t2:=dq a 2 ha ae ae
   have t13:=dq a 13 ha ae ae
   have t22:=dq a 22 ha ae ae
   have l6:=fE (n:=6) hf ae ae
   have l11:=fE (n:=11) hf ae ae
   have l25:=fE (n:=25) hf ae ae
   have l2:=fE (n:=2) ha ae ae
   have l13:=fE (n:=13) ha ae ae
   have l22:=fE (n:=22) ha ae ae
   have e1:t1N q f g p kk ww=((((q+((rot (2 ^ (32-6)) (2 ^ 6) f ^^^ rot (2 ^ (32-11)) (2 ^ 11) f) ^^^ rot (2 ^ (32-25)) (2 ^ 25) f))%4294967296+((f &&& g) ^^^ ((4294967295 ^^^ f) &&& p)))%4294967296+kk)%4294967296+ww)%4294967296:=rfl
   have e2:t2N a b d=(((rot (2 ^ (32-2)) (2 ^ 2) a ^^^ rot (2 ^ (32-13)) (2 ^ 13) a) ^^^ rot (2 ^ (32-22)) (2 ^ 22) a)+(((a &&& b) ^^^ (a &&& d)) ^^^ (b &&& d)))%4294967296:=rfl
   rw [e1,e2] at hnext
   clear e1 e2
   generalize rot (2 ^ (32-6)) (2 ^ 6) f=r6 at *
   generalize rot (2 ^ (32-11)) (2 ^ 11) f=r11 at *
   generalize rot (2 ^ (32-25)) (2 ^ 25) f=r25 at *
   generalize rot (2 ^ (32-2)) (2 ^ 2) a=r2 at *
   generalize rot (2 ^ (32-13)) (2 ^ 13) a=r13 at *
   generalize rot (2 ^ (32-22)) (2 ^ 22) a=r22 at *
   have x1:=Nat.xor_lt_two_pow (n:=32) l6 l11
   have x3:=Nat.xor_lt_two_pow (n:=32) l2 l13
   have x5:f &&& g<4294967296:=Nat.lt_of_le_of_lt Nat.and_le_left hf
   have x6:4294967295 ^^^ f<4294967296:=Nat.xor_lt_two_pow (n:=32) (by decide) hf
   have x7:(4294967295 ^^^ f) &&& p<4294967296:=Nat.lt_of_le_of_lt Nat.and_le_left x6
   have x8:a &&& b<4294967296:=Nat.lt_of_le_of_lt Nat.and_le_left ha
   have x9:a &&& d<4294967296:=Nat.lt_of_le_of_lt Nat.and_le_left ha
   have x10:b &&& d<4294967296:=Nat.lt_of_le_of_lt Nat.and_le_left hbb
   have x11:(a &&& b) ^^^ (a &&& d)<4294967296:=Nat.xor_lt_two_pow (n:=32) x8 x9
   (refine aS [orow 128 1 (.slice A 8 c) 8 (u32n [a,b,d,e,f,g,p,q])] (fun w=>(U32s w sh h.l∧U32s w sw (row2 l 48))∧U32s w sk kN) ak ?_)
   all_goals refine aa 0 ?_<;>(refine aa 1 (hy:=by (apply aN (q:=4);rfl;rfl;omega;omega;assumption;omega)) ?_)<;>(refine aa 2 (hy:=by (apply cY;rfl;exact aI;exact hn;exact hg4)) ?_)<;>refine aa 4 ?_<;>(refine aa 5 (hy:=by (apply aN (q:=4);rfl;rfl;omega;omega;assumption;omega)) ?_)<;>(refine aa 6 (hy:=by (apply cY;rfl;exact aI;exact hn;exact hg4)) ?_)<;>refine aa 9 ?_<;>(refine aa 10 (hy:=by (apply aN (q:=4);rfl;rfl;omega;omega;assumption;omega)) ?_)<;>(refine aa 11 (hy:=by (apply cY;rfl;exact aI;exact hn;exact hg4)) ?_)<;>(refine ag 3 ?_;(refine ao (hc:=t6) (hX:=fun _ _=>trivial) ?_);apply ab;refine ai ?_)<;>(refine ag 7 ?_;(refine ao (hc:=t11) (hX:=fun _ _=>trivial) ?_);apply ab;refine ai ?_)<;>(refine aa 8 (hy:=by (apply gu;rfl;rfl;assumption;assumption)) ?_)<;>(refine ag 12 ?_;(refine ao (hc:=t25) (hX:=fun _ _=>trivial) ?_);apply ab;refine ai ?_)<;>(refine aa 13 (hy:=by (apply gu;rfl;rfl;assumption;assumption)) ?_)<;>refine aa 14 ?_<;>(refine aw ?_)
   apply Qt
   (refine aS [orow 128 1 (.slice A 8 c) 8 (u32n [a,b,d,e,f,g,p,q])] (fun w=>(U32s w sh h.l∧U32s w sw (row2 l 48))∧U32s w sk kN) ak ?_)
   all_goals refine aa 0 ?_<;>(refine aa 1 (hy:=by (apply aN (q:=7);rfl;rfl;omega;omega;assumption;omega)) ?_)<;>(refine aa 2 (hy:=by (apply cY;rfl;exact aI;exact hn;exact hg7)) ?_)<;>refine aa 3 ?_<;>(refine aa 4 (hy:=by (apply eE;rfl;rfl)) ?_)<;>refine aa 5 ?_<;>(refine aa 6 (hy:=by (apply aN (q:=4);rfl;rfl;omega;omega;assumption;omega)) ?_)<;>(refine aa 7 (hy:=by (apply cY;rfl;exact aI;exact hn;exact hg4)) ?_)<;>refine aa 8 ?_<;>(refine aa 9 (hy:=by (apply aN (q:=5);rfl;rfl;omega;omega;assumption;omega)) ?_)<;>(refine aa 10 (hy:=by (apply cY;rfl;exact aI;exact hn;exact hg5)) ?_)<;>(refine aa 11 (hy:=by (apply kp;rfl;rfl;assumption;assumption)) ?_)<;>refine aa 12 ?_<;>(refine aa 13 (hy:=by (apply aN (q:=4);rfl;rfl;omega;omega;assumption;omega)) ?_)<;>(refine aa 14 (hy:=by (apply cY;rfl;exact aI;exact hn;exact hg4)) ?_)<;>(refine aa 15 (hy:=by (apply BG;rfl;assumption)) ?_)<;>refine aa 16 ?_<;>(refine aa 17 (hy:=by (apply aN (q:=6);rfl;rfl;omega;omega;assumption;omega)) ?_)<;>(refine aa 18 (hy:=by (apply cY;rfl;exact aI;exact hn;exact hg6)) ?_)<;>(refine aa 19 (hy:=by (apply kp;rfl;rfl;assumption;assumption)) ?_)<;>(refine aa 20 (hy:=by (apply gu;rfl;rfl;assumption;assumption)) ?_)<;>(refine aa 21 (hy:=by (apply eE;rfl;rfl)) ?_)<;>refine aa 22 ?_<;>refine aa 23 ?_<;>(refine aa 24 (hy:=by (apply aN (q:=k);rfl;rfl;omega;omega;assumption;omega)) ?_)<;>(refine aa 25 (hy:=by (apply dv (q:=k) (u:=.int .u32 (kk:Int));rfl;exact hgk)) ?_)<;>(refine aa 26 (hy:=by (apply eE;rfl;rfl)) ?_)<;>refine aa 27 ?_<;>refine aa 28 ?_<;>(refine aa 29 (hy:=by (apply aN (q:=k);rfl;rfl;omega;omega;assumption;omega)) ?_)<;>(refine aa 30 (hy:=by (apply dv (q:=k) (u:=.int .u32 (ww:Int));rfl;exact hgw)) ?_)<;>(refine aa 31 (hy:=by (apply eE;rfl;rfl)) ?_)<;>refine aa 32 ?_<;>(refine aw ?_)
   apply Qt
   (refine aS [orow 128 1 (.slice A 8 c) 8 (u32n [a,b,d,e,f,g,p,q])] (fun w=>(U32s w sh h.l∧U32s w sw (row2 l 48))∧U32s w sk kN) ak ?_)
   all_goals refine aa 0 ?_<;>(refine aa 1 (hy:=by (apply aN (q:=0);rfl;rfl;omega;omega;assumption;omega)) ?_)<;>(refine aa 2 (hy:=by (apply cY;rfl;exact aI;exact hn;exact hg0)) ?_)<;>refine aa 4 ?_<;>(refine aa 5 (hy:=by (apply aN (q:=0);rfl;rfl;omega;omega;assumption;omega)) ?_)<;>(refine aa 6 (hy:=by (apply cY;rfl;exact aI;exact hn;exact hg0)) ?_)<;>refine aa 9 ?_<;>(refine aa 10 (hy:=by (apply aN (q:=0);rfl;rfl;omega;omega;assumption;omega)) ?_)<;>(refine aa 11 (hy:=by (apply cY;rfl;exact aI;exact hn;exact hg0)) ?_)<;>(refine ag 3 ?_;(refine ao (hc:=t2) (hX:=fun _ _=>trivial) ?_);apply ab;refine ai ?_)<;>(refine ag 7 ?_;(refine ao (hc:=t13) (hX:=fun _ _=>trivial) ?_);apply ab;refine ai ?_)<;>(refine aa 8 (hy:=by (apply gu;rfl;rfl;assumption;assumption)) ?_)<;>(refine ag 12 ?_;(refine ao (hc:=t22) (hX:=fun _ _=>trivial) ?_);apply ab;refine ai ?_)<;>(refine aa 13 (hy:=by (apply gu;rfl;rfl;assumption;assumption)) ?_)<;>refine aa 14 ?_<;>(refine aw ?_)
   apply Qt
   (refine aS [orow 128 1 (.slice A 8 c) 8 (u32n [a,b,d,e,f,g,p,q])] (fun w=>(U32s w sh h.l∧U32s w sw (row2 l 48))∧U32s w sk kN) ak ?_)
   all_goals refine aa 0 ?_<;>refine aa 1 ?_<;>(refine aa 2 (hy:=by (apply aN (q:=0);rfl;rfl;omega;omega;assumption;omega)) ?_)<;>(refine aa 3 (hy:=by (apply cY;rfl;exact aI;exact hn;exact hg0)) ?_)<;>refine aa 4 ?_<;>(refine aa 5 (hy:=by (apply aN (q:=1);rfl;rfl;omega;omega;assumption;omega)) ?_)<;>(refine aa 6 (hy:=by (apply cY;rfl;exact aI;exact hn;exact hg1)) ?_)<;>(refine aa 7 (hy:=by (apply kp;rfl;rfl;assumption;assumption)) ?_)<;>refine aa 8 ?_<;>(refine aa 9 (hy:=by (apply aN (q:=0);rfl;rfl;omega;omega;assumption;omega)) ?_)<;>(refine aa 10 (hy:=by (apply cY;rfl;exact aI;exact hn;exact hg0)) ?_)<;>refine aa 11 ?_<;>(refine aa 12 (hy:=by (apply aN (q:=2);rfl;rfl;omega;omega;assumption;omega)) ?_)<;>(refine aa 13 (hy:=by (apply cY;rfl;exact aI;exact hn;exact hg2)) ?_)<;>(refine aa 14 (hy:=by (apply kp;rfl;rfl;assumption;assumption)) ?_)<;>(refine aa 15 (hy:=by (apply gu;rfl;rfl;assumption;assumption)) ?_)<;>refine aa 16 ?_<;>(refine aa 17 (hy:=by (apply aN (q:=1);rfl;rfl;omega;omega;assumption;omega)) ?_)<;>(refine aa 18 (hy:=by (apply cY;rfl;exact aI;exact hn;exact hg1)) ?_)<;>refine aa 19 ?_<;>(refine aa 20 (hy:=by (apply aN (q:=2);rfl;rfl;omega;omega;assumption;omega)) ?_)<;>(refine aa 21 (hy:=by (apply cY;rfl;exact aI;exact hn;exact hg2)) ?_)<;>(refine aa 22 (hy:=by (apply kp;rfl;rfl;assumption;assumption)) ?_)<;>(refine aa 23 (hy:=by (apply gu;rfl;rfl;assumption;assumption)) ?_)<;>(refine aa 24 (hy:=by (apply eE;rfl;rfl)) ?_)<;>refine aa 25 ?_<;>(refine aw ?_)
   obtain ⟨one,h1⟩:∃ x,x=((((q+((r6 ^^^ r11) ^^^ r25))%4294967296+((f &&& g) ^^^ ((4294967295 ^^^ f) &&& p)))%4294967296+kk)%4294967296+ww)%4294967296:=⟨_,rfl⟩
   obtain ⟨two,h2⟩:∃ x,x=(((r2 ^^^ r13) ^^^ r22)+(((a &&& b) ^^^ (a &&& d)) ^^^ (b &&& d)))%4294967296:=⟨_,rfl⟩
   rw [←h1,←h2] at hnext
   rw [←h1,←h2]
   (refine aS [orow 128 1 (.slice A 8 c) 8 (u32n [a,b,d,e,f,g,p,q])] (fun w=>(U32s w sh h.l∧U32s w sw (row2 l 48))∧U32s w sk kN) ak ?_)
   all_goals refine aa 0 ?_<;>refine aa 1 ?_<;>(refine aa 2 (hy:=by (apply eE;rfl;rfl)) ?_)<;>refine aa 3 ?_<;>(refine aa 4 (hy:=by (apply aN (q:=0);rfl;rfl;omega;omega;assumption;omega)) ?_)<;>(refine aa 5 (hy:=by (apply cY;rfl;exact aI;exact hn;exact hg0)) ?_)<;>refine aa 6 ?_<;>(refine aa 7 (hy:=by (apply aN (q:=1);rfl;rfl;omega;omega;assumption;omega)) ?_)<;>(refine aa 8 (hy:=by (apply cY;rfl;exact aI;exact hn;exact hg1)) ?_)<;>refine aa 9 ?_<;>(refine aa 10 (hy:=by (apply aN (q:=2);rfl;rfl;omega;omega;assumption;omega)) ?_)<;>(refine aa 11 (hy:=by (apply cY;rfl;exact aI;exact hn;exact hg2)) ?_)<;>refine aa 12 ?_<;>(refine aa 13 (hy:=by (apply aN (q:=3);rfl;rfl;omega;omega;assumption;omega)) ?_)<;>(refine aa 14 (hy:=by (apply cY;rfl;exact aI;exact hn;exact hg3)) ?_)<;>refine aa 15 ?_<;>(refine aa 16 (hy:=by (apply eE;rfl;rfl)) ?_)<;>refine aa 17 ?_<;>(refine aa 18 (hy:=by (apply aN (q:=4);rfl;rfl;omega;omega;assumption;omega)) ?_)<;>(refine aa 19 (hy:=by (apply cY;rfl;exact aI;exact hn;exact hg4)) ?_)<;>refine aa 20 ?_<;>(refine aa 21 (hy:=by (apply aN (q:=5);rfl;rfl;omega;omega;assumption;omega)) ?_)<;>(refine aa 22 (hy:=by (apply cY;rfl;exact aI;exact hn;exact hg5)) ?_)<;>refine aa 23 ?_<;>(refine aa 24 (hy:=by (apply aN (q:=6);rfl;rfl;omega;omega;assumption;omega)) ?_)<;>(refine aa 25 (hy:=by (apply cY;rfl;exact aI;exact hn;exact hg6)) ?_)<;>(refine ag 26 ?_;(refine bS (vs:=u32n [(one+two)%4294967296,a,b,d,(e+one)%4294967296,f,g,p]) fun bb=>?_;refine nH 1 8 rfl (by decide) ?_);apply ab;refine ai ?_)<;>refine aa 27 ?_<;>(refine aw ?_)
   repeat' (first|apply ab|apply Qu|refine aj ?_|refine ad ?_|refine be (h:=?_)|fail)
   exact ⟨(⟨k+1,hlt,some ⟨bb,0,none⟩,8⟩:RowA 64),(by show 64-(k+1)<64-k;omega),ax ⟨rfl,rfl,rfl,rfl,rfl,trivial⟩ (by rw [hnext];exact .cons_cons _ (ZR _)) fun _ h=>h⟩
 · obtain rfl:k=64:=by omega
   have hmix:=CO h (winN (fW l) 0)
   rw [qX] at hmix
   generalize rndN (fW l) h 64=S at *
   refine aU (ι:=RowA 8) (fun i=>⟨[(0,sh.v),(7,.slice A 8 c),(13,.int .i64 (i.k:Nat))],[orow 128 1 (.slice A 8 c) 8 (u32n (accL S.l h.l i.k))],fun w=>U32s w sh h.l⟩) (fun i=>8-i.k) ⟨0,by omega,A,c⟩ (ax ⟨rfl,rfl,rfl,trivial⟩ (aE _) fun _ h=>h.1.1) fun i=>?_
   obtain ⟨k,hk,_,_⟩:=i
   simp only
   have hlen:(accL S.l h.l k).length=8:=qv _ _ k
   repeat' (first|apply ab|apply Qt|apply Qu|refine aj ?_|refine ad ?_|refine bj ?_|apply Qw|apply Qv|apply ar|apply aQ|(refine aH (ht:=?_) (hf:=?_);all_goals (intro hx_;first|have:=aP hx_|have:=aT hx_)))
   · have hlt:k<8:=by omega
     have hn:8=(u32n (accL S.l h.l k)).length:=by rw [oP,hlen]
     obtain ⟨v,hv⟩:∃ v,v=(accL S.l h.l k).getD k 0:=⟨_,rfl⟩
     obtain ⟨u,hu⟩:∃ u,u=h.l.getD k 0:=⟨_,rfl⟩
     have hg:(u32n (accL S.l h.l k))[k]?=some (.int .u32 (v:Int)):=by rw [oQ ae,hv]
     have hget:∀ w,U32s w sh h.l→CellAt w sh.p k (.int .u32 (u:Int)):=fun w h1=>hu▸iD (f:=fun n=>.int .u32 (n:Int)) h1 (by rw [show h.l.length=8 from rfl];exact hlt)
     have hacc:accL S.l h.l (k+1)=(accL S.l h.l k).set k ((v+u)%4294967296):=by rw [accL,hv,hu]
     have hset:=wg (accL S.l h.l k) (i:=k) (v:=(v+u)%4294967296) ae
     rw [←hacc] at hset
     (refine aS [] (fun w=>U32s w sh h.l) ak ?_)
     all_goals refine aa 0 ?_<;>refine aa 1 ?_<;>refine aa 2 ?_<;>refine aa 3 ?_<;>(refine aa 4 (hy:=by (apply aN (q:=k);rfl;rfl;omega;omega;assumption;omega)) ?_)<;>refine aa 6 ?_<;>refine aa 7 ?_<;>(refine aa 8 (hy:=by (apply aN (q:=k);rfl;rfl;omega;omega;assumption;omega)) ?_)<;>(refine aa 9 (hy:=by (apply dv (q:=k) (u:=.int .u32 (u:Int));rfl;exact hget)) ?_)<;>(refine ag 5 ?_;(refine am (cY rfl aI hn hg) rfl aC rfl ?_);apply ab;refine ai ?_)<;>(refine aa 10 (hy:=by (apply eE;rfl;rfl)) ?_)<;>(refine aa 11 (hy:=by (apply aN (q:=k);rfl;rfl;omega;omega;assumption;omega)) ?_)<;>(refine ag 12 ?_;(refine nF (A:=A) (m:=8) (c:=c) (e:=128) (size:=1) (i:=k) (xs:=u32n (accL S.l h.l k)) (xs':=u32n (accL S.l h.l (k+1))) (vs:=[.int .u32 (((v+u)%4294967296:Nat):Int)]) (v:=.int .u32 (((v+u)%4294967296:Nat):Int)) ak (by rw [Nat.mul_one];rfl) rfl rfl rfl rfl hlt hset (At.here _) rfl aC rfl ?_);apply ab;refine ai ?_)<;>(refine aw ?_)
     repeat' (first|apply ab|apply Qu|refine aj ?_|refine ad ?_|refine be (h:=?_)|fail)
     exact ⟨(⟨k+1,hlt,A,c⟩:RowA 8),(by show 8-(k+1)<8-k;omega),ax ⟨rfl,rfl,rfl,trivial⟩ (aE _) fun _ h=>h⟩
   · obtain rfl:k=8:=by omega
     have he:accL S.l h.l 8=(mixN h (winN (fW l) 0)).l:=by
      rw [hmix]
      obtain ⟨a,b,d,e,f,g,p,q⟩:=S
      obtain ⟨a',b',d',e',f',g',p',q'⟩:=h
      simp only [accL,S8.l,List.set_cons_zero,List.set_cons_succ,List.getD_cons_zero,List.getD_cons_succ,List.cons.injEq,and_true,Qi]
     rw [he]
     exact al (ap rfl rfl) ⟨⟨A,8,c⟩,rfl,fun w h1=>U32s.of_row (h1.2 (orow 128 1 (.slice A 8 c) 8 (u32n (mixN h (winN (fW l) 0)).l)) aI) rfl⟩
end Go.Proofs.YtcdilibijnboeaaGreatDoor
