/- Joined. -/
import Derived.Test.YtaolfiikahlmkaaGreatDoorT9
set_option linter.unusedVariables false
set_option linter.unusedSimpArgs false
set_option maxHeartbeats 16000000
namespace Go.Proofs.YtaolfiikahlmkaaGreatDoor
open Go Go.Proofs Sy Tryz
theorem nc (s:Xl):Pu prog 70 #[s.v,.slice none 0 0] (fun _=>True) (.bool (decide ((s.n:Int)=0))):=by
 refine aw func70 ntmps70 fun av bor w0=>?_
 by_cases h0:s.n=0
 · rw [h0]
   repeat' (first|refine bo ?_ (dS false rfl rfl (by rw [h0];rfl))|refine gs ?_|fail)
   refine ao (ι:=Unit) (fun _=>⟨[(12,.int .i64 (s.n:Nat)),(13,.int .i64 0)],[],fun _=>True⟩) (fun _=>0) () (ai al (aj _) fun _ h=>h) fun _=>?_
   repeat' (first|refine bo ?_ (cb false rfl rfl (by rw [h0];rfl))|refine gs ?_|fail)
   all_goals exact ab (ae rfl rfl) rfl
 · rw [Zc (by omega)]
   repeat' (first|refine bo ?_ (dS true rfl rfl (by simp;omega))|refine gs ?_|fail)
   all_goals exact ab (ae rfl rfl) rfl
theorem ug (s:Xl):Pu prog 258 #[s.v,.slice none 0 0] (fun _=>True) (.bool (decide ((s.n:Int)=0))):=by
 refine aw func258 ntmps258 fun av bor w0=>?_
 by_cases h0:s.n=0
 · rw [h0]
   repeat' (first|refine bo ?_ (dS false rfl rfl (by rw [h0];rfl))|refine gs ?_|fail)
   refine ao (ι:=Unit) (fun _=>⟨[(12,.int .i64 (s.n:Nat)),(13,.int .i64 0)],[],fun _=>True⟩) (fun _=>0) () (ai al (aj _) fun _ h=>h) fun _=>?_
   repeat' (first|refine bo ?_ (cb false rfl rfl (by rw [h0];rfl))|refine gs ?_|fail)
   all_goals exact ab (ae rfl rfl) rfl
 · rw [Zc (by omega)]
   repeat' (first|refine bo ?_ (dS true rfl rfl (by simp;omega))|refine gs ?_|fail)
   all_goals exact ab (ae rfl rfl) rfl
section
variable {P:Program} {N:Nat} {av bor:List Nat} {w0:World} {ops:Array Oper} {rest:List Oper} {kk:St→Prop} {E:Env} {loc:List Xm} {X:World→Prop} {n:Nat} {ty t2:TypeId} {pos:String} {af:Array Edge} {g:Option (Nat×Bool)} {bb want:Bool} {x y:Operand}
theorem eH {a b:Xg} (h:Sw prog N av bor w0 ops rest ⟨(n,.bool (claimEq a b))::E,loc,X⟩ kk) (hx:ev E x=some (.agg a.cells.toArray):=by rfl) (hy:ev E y=some (.agg b.cells.toArray):=by rfl) (hg:gdB ops E g=some (bb,want):=by rfl) (hbb:bb=want:=by exact ar) (hd:Nat.blt n N=true:=by rfl) :
  Sw prog N av bor w0 ops (⟨some n,.binOp .eql 54 x y t2,ty,pos,af,g⟩::rest) ⟨E,loc,X⟩ kk:=ak (nB hx hy) hg hbb hd h
theorem ef {a b:Xh} (h:Sw prog N av bor w0 ops rest ⟨(n,.bool (ballotEq a b))::E,loc,X⟩ kk) (hx:ev E x=some (.agg a.cells.toArray):=by rfl) (hy:ev E y=some (.agg b.cells.toArray):=by rfl) (hg:gdB ops E g=some (bb,want):=by rfl) (hbb:bb=want:=by exact ar) (hd:Nat.blt n N=true:=by rfl) :
  Sw prog N av bor w0 ops (⟨some n,.binOp .eql 56 x y t2,ty,pos,af,g⟩::rest) ⟨E,loc,X⟩ kk:=ak (ls hx hy) hg hbb hd h
theorem yr {st:St} {a b c e:Int} (hx:ev st.env x=some (.agg #[.int .i64 a,.int .i64 b])) (hy:ev st.env y=some (.agg #[.int .i64 c,.int .i64 e])) :
  Sy.Yields prog N av bor w0 st (.binOp .eql 44 x y t2) ty (.bool (decide (a=c)&&(decide (b=e)&&true))):=Sy.Yields.mk fun A w ok d pos af g=>by
 have h1:=run_eql_struct (P:=prog) w 44 #[.int .i64 a,.int .i64 b] #[.int .i64 c,.int .i64 e]
 rw [show (10000:Nat)=9998+2 from rfl,nd] at h1
 have hgu:prog.eqGuardType prog.depth 44=false:=by kernel_rfl
 simp [execOp,ok.eval (st:=st) hx,ok.eval (st:=st) hy,run_eqGuard_agg _ _ _ _ _ _ _ hgu,h1]
theorem jM {a b c e:Int} (h:Sw prog N av bor w0 ops rest ⟨(n,.bool (decide (a=c)&&(decide (b=e)&&true)))::E,loc,X⟩ kk) (hx:ev E x=some (.agg #[.int .i64 a,.int .i64 b]):=by rfl) (hy:ev E y=some (.agg #[.int .i64 c,.int .i64 e]):=by rfl) (hg:gdB ops E g=some (bb,want):=by rfl) (hbb:bb=want:=by exact ar) (hd:Nat.blt n N=true:=by rfl) :
  Sw prog N av bor w0 ops (⟨some n,.binOp .eql 44 x y t2,ty,pos,af,g⟩::rest) ⟨E,loc,X⟩ kk:=ak (yr hx hy) hg hbb hd h
end
def actZ (a:Xa):Bool:=seqB a.author ⟨#[]⟩&&(decide (a.seq=0)&&(seqB a.prev ⟨#[]⟩&&(decide (a.kind=0)&&(decide (a.time=0)&&(seqB a.object ⟨#[]⟩&&(seqB a.target ⟨#[]⟩&&(decide (a.scope=0)&&(seqB a.group ⟨#[]⟩&&(decide ((a.to.n:Int)=0)&&(seqB a.text ⟨#[]⟩&&(boxEq a.body Xo.zero&&(decide (a.epoch=0)&&(decide ((a.wraps.n:Int)=0)&&(decide (a.n=0)&&(decide (a.m=0)&&(decide (a.e=0)&&(decide (a.s=0)&&true)))))))))))))))))
set_option maxRecDepth 20000 in
theorem sP (a:Xa):Pu prog 200 #[a.v,Xa.zero.v] (fun _=>True) (.bool (actZ a)):=by
 refine aw func200 ntmps200 fun av bor w0=>?_
 repeat' (first|refine ag (hc:=nc a.to) ?_|refine ag (hc:=ug a.wraps) ?_|refine gs ?_|refine gs1 fun _=>?_|(refine iR (a:=a.body) (b:=Xo.zero) ?_)|(refine jM (a:=a.e) (b:=a.s) (c:=0) (e:=0) ?_)|(refine aC ?_)|(refine gp ?_ ?_<;>intro hx_ this)|fail)
 all_goals refine ab (ae rfl rfl) ?_
 all_goals rw [actZ]
 all_goals simp_all [Xa.zero]
def decZ (d:Xu):Bool:=decide (d.server=0)&&(decide (d.number=0)&&(decide (d.kind=0)&&(seqB d.actor ⟨#[]⟩&&(seqB d.object ⟨#[]⟩&&(seqB d.text ⟨#[]⟩&&(decide ((d.to.n:Int)=0)&&(decide (d.n=0)&&(decide (d.from_=0)&&(decide (d.until_=0)&&(decide (d.e=0)&&(decide (d.s=0)&&true)))))))))))
set_option maxRecDepth 20000 in
theorem sF (d:Xu):Pu prog 201 #[d.v,Xu.zero.v] (fun _=>True) (.bool (decZ d)):=by
 refine aw func201 ntmps201 fun av bor w0=>?_
 repeat' (first|refine ag (hc:=nc d.to) ?_|refine gs ?_|refine gs1 fun _=>?_|(refine jM (a:=d.e) (b:=d.s) (c:=0) (e:=0) ?_)|(refine aC (vs:=[.int .i64 d.e,.int .i64 d.s]) (hv:=rfl) ?_)|(refine aC (vs:=[.int .i64 0,.int .i64 0]) (hv:=rfl) ?_)|(refine gp ?_ ?_<;>intro hx_ this)|fail)
 all_goals refine ab (ae rfl rfl) ?_
 all_goals rw [decZ]
 all_goals simp_all [Xu.zero]
def sameIZ (i:Xe):Bool:=decide (i.kind=0)&&(actZ i.act&&(claimEq i.claim Xg.zero&&(ballotEq i.ballot Xh.zero&&decZ i.dec)))
set_option maxRecDepth 20000 in
theorem fa (i:Xe):Pu prog 125 #[i.v,Xe.zero.v] (fun _=>True) (.bool (sameIZ i)):=by
 refine aw func125 ntmps125 fun av bor w0=>?_
 repeat' (first|refine ag (hc:=sP i.act) ?_|refine ag (hc:=sF i.dec) ?_|refine gs ?_|refine gs1 fun _=>?_|(refine eH (a:=i.claim) (b:=Xg.zero) ?_)|(refine ef (a:=i.ballot) (b:=Xh.zero) ?_)|(refine aC (vs:=i.act.cells) (hv:=rfl) ?_)|(refine aC (vs:=i.claim.cells) (hv:=rfl) ?_)|(refine aC (vs:=i.ballot.cells) (hv:=rfl) ?_)|(refine aC (vs:=i.dec.cells) (hv:=rfl) ?_)|(refine aC (vs:=Xa.zero.cells) (hv:=rfl) ?_)|(refine aC (vs:=Xg.zero.cells) (hv:=rfl) ?_)|(refine aC (vs:=Xh.zero.cells) (hv:=rfl) ?_)|(refine aC (vs:=Xu.zero.cells) (hv:=rfl) ?_)|(refine gp ?_ ?_<;>intro hx_ this)|fail)
 all_goals refine ab (ae rfl rfl) ?_
 all_goals rw [sameIZ]
 all_goals simp_all [Xe.zero,ofActI]
def textsV (l:List ByteArray):ByteArray:=cats (l.map textV)
structure TxtS (n:Nat) where
 k:Nat
 hk:k≤n
 A:Option Addr
 c:Nat
theorem fN (b:Nat) (A:Option Addr) (c:Nat) (s:ByteArray) (sl:Xl) (l:List ByteArray) (hs:s.size+(textsV l).size≤1099511627776) :
  Ct prog 248 #[.pointer (some ⟨b,0,none⟩),sl.v] (bld b A c s) (fun w=>Strs w sl l) fun u R _=>∃ A' c',u=.tuple #[]∧R=bld b A' c' (s++textsV l):=by
 refine cF func248 ntmps248 fun av bor w0=>?_
 refine aR (p:=sl.n=l.length∧sl.n≤maxLen∧(0<l.length→sl.p.isSome=true)) (fun w h=>⟨h.len_,ZY (Xf.cap h) (Xf.max h),h.some_⟩) fun ⟨hn,hm,hp⟩=>?_
 simp only [maxLen] at hm
 repeat' (first|refine gs ?_|fail)
 have hle:=eK (l.map textV)
 have e0:s++cats ((l.map textV).take 0)=s:=by simp [cats]
 have hs':s.size+(cats (l.map textV)).size≤1099511627776:=hs
 refine ao (ι:=TxtS l.length) (fun i=>⟨[(0,.pointer (some ⟨b,0,none⟩)),(6,sl.v),(7,.int .i64 sl.n),(8,.int .i64 i.k)],bld b i.A i.c (s++cats ((l.map textV).take i.k)),fun w=>Strs w sl l⟩) (fun i=>l.length-i.k) ⟨0,Z4 _,A,c⟩ (ai al (by rw [e0];exact aj _) fun _ h=>h) fun i=>?_
 have hik:=i.hk
 have hout:(s++cats ((l.map textV).take i.k)).size≤1099511627776:=by rw [Za];have:=hle i.k;omega
 have hout2:(s++cats ((l.map textV).take (i.k+1))).size≤1099511627776:=by rw [Za];have:=hle (i.k+1);omega
 generalize ho:s++cats ((l.map textV).take i.k)=out at *
 unfold bld
 repeat' (first|refine gs ?_|(refine gp ?_ ?_<;>intro hx_ this)|fail)
 · have hlt:i.k<l.length:=by omega
   have hp':=hp aa
   obtain ⟨x,hx⟩:∃ x,l[i.k]?=some x:=⟨_,Zb hlt⟩
   have hsucc:=fi (l.map textV) (k:=i.k) (by simpa using hlt)
   have hget:(l.map textV).getD i.k .empty=textV x:=by simp [hx]
   rw [hget] at hsucc
   have e2:s++cats ((l.map textV).take (i.k+1))=out++textV x:=by rw [hsucc,←Zy,ho]
   have hxs:out.size+(textV x).size≤1099511627776:=by rw [e2,Za] at hout2;exact hout2
   have hxx:x.size≤1099511627776:=by rw [textV,Za] at hxs;omega
   repeat' (first|refine gs ?_|(refine aD (q:=i.k) ?_)|(refine de (u:=.string x) (hF:=fun w h=>h.at_ hx) ?_)|fail)
   (refine aq ⟨[0,1,2,3,5],[(4,⟨[],[(6,⟨[],[(7,⟨[8,9],[(10,⟨[],[]⟩)]⟩)]⟩)]⟩),(6,⟨[],[(4,⟨[],[(7,⟨[8,9],[(10,⟨[],[]⟩)]⟩)]⟩)]⟩)]⟩ [] (fun _=>True) (h:=?_))
   all_goals repeat' (first|refine ag (hc:=fx _ aa) ?_|refine gd ?_|refine aA ?_ (h':=?_)|exact aB|(refine iF ?_;refine aJ (size:=1) (z:=.int .u8 0) rfl rfl rfl rfl (fun _=>At.there _ (At.here _)) (fun w G=>ia aa) aa (by simp only [maxLen];omega) rfl ?_ rfl ?_;(with_reducible rfl);intro A1 c1)|fail)
   all_goals (repeat' (first|refine gs ?_|fail))
   all_goals exact ⟨(⟨i.k+1,hlt,A1,c1⟩:TxtS l.length),(by show l.length-(i.k+1)<l.length-i.k;omega),ai al (by
    show List.Sublist (bld b A1 c1 (s++cats ((l.map textV).take (i.k+1)))) _
    rw [e2]
    simp only [bld,Za,dr,bT]
    exact aj _) fun _ h=>h⟩
 · have hk:i.k=l.length:=by omega
   refine aN (aF rfl) ⟨i.A,i.c,rfl,?_⟩
   rw [textsV,←ho,hk,Qf (by simp)]
theorem kg {P:Program} {f:FuncId} {fn:Func} {c:Code} {args:List Value} {pre:List Xm} {X:World→Prop} {Post:Value→List Xm→(World→Prop)→Prop} (N:Nat)
  (hf:P.funcs[f]?=some fn) (hb:fn.body=some c) (hN:fn.ntmps=N) (hn:Nat.ble args.length N=true)
  (h:∀ av bor w0,Cw P N av bor w0 c ⟨params 0 args,pre,X⟩ (ends P fn N fun u R X'=>∃ R',R'.Sublist R∧Post u R' X')):Ct P f args.toArray pre X Post:=Ct.mk fun w av G=>by
 have h1:=(gU (P:=P) (Post:=fun u R X'=>∃ R',R'.Sublist R∧Post u R' X') N hf hb hN hn h).run w av G
 refine h1.mono fun e w' ⟨u,R,X',he,⟨R',hs,hp⟩,G'⟩=>⟨u,R',X',he,hp,G'.drop hs⟩
def coreCl (c:Xg):ByteArray:=textsV [c.actor]++numsV [c.base]++textsV [c.prev]++numsV [c.gen,c.home,c.pub,c.time]
def coreBa (b:Xh):ByteArray:=numsV [b.server]++textsV [b.actor]++numsV [b.gen]++textsV [b.claim]++numsV [b.time]
def coreDe (d:Xu):ByteArray:=numsV [d.server,d.number,d.kind]++textsV [d.actor,d.object,d.text]++listV d.toL++numsV [d.n,d.from_,d.until_]
structure Xg.Lt (c:Xg):Prop where
 base:c.base<9223372036854775808
 gen:c.gen<9223372036854775808
 home:c.home<9223372036854775808
 pub:c.pub<9223372036854775808
 time:c.time<9223372036854775808
 e:c.e<9223372036854775808
 s:c.s<9223372036854775808
structure Xh.Lt (c:Xh):Prop where
 server:c.server<9223372036854775808
 gen:c.gen<9223372036854775808
 time:c.time<9223372036854775808
 e:c.e<9223372036854775808
 s:c.s<9223372036854775808
structure Xu.Lt (c:Xu):Prop where
 server:c.server<9223372036854775808
 number:c.number<9223372036854775808
 kind:c.kind<9223372036854775808
 n:c.n<9223372036854775808
 from_:c.from_<9223372036854775808
 until_:c.until_<9223372036854775808
 e:c.e<9223372036854775808
 s:c.s<9223372036854775808
theorem oX (b:Nat) (A:Option Addr) (c:Nat) (s:ByteArray) (it:Xe) (hl:it.claim.Lt) (hs:s.size+(coreCl it.claim).size≤1099511627776) :
  Ct prog 174 #[.pointer (some ⟨b,0,none⟩),it.v] (bld b A c s) (fun _=>True) fun u R _=>∃ A' c',u=.tuple #[]∧R=bld b A' c' (s++coreCl it.claim):=by
 refine kg (args:=[_,_]) _ func174 rfl ntmps174 rfl fun av bor w0=>?_
 rw [coreCl] at hs ⊢
 simp only [Za] at hs
 obtain ⟨p0,hp0⟩:∃ p,textsV [it.claim.actor]=p:=⟨_,rfl⟩
 obtain ⟨p1,hp1⟩:∃ p,numsV [it.claim.base]=p:=⟨_,rfl⟩
 obtain ⟨p2,hp2⟩:∃ p,textsV [it.claim.prev]=p:=⟨_,rfl⟩
 obtain ⟨p3,hp3⟩:∃ p,numsV [it.claim.gen,it.claim.home,it.claim.pub,it.claim.time]=p:=⟨_,rfl⟩
 rw [hp0,hp1,hp2,hp3] at hs ⊢
 rw [←Zy,←Zy,←Zy]
 repeat' (first|refine gs ?_|refine gs1 fun _=>?_|(refine aC (vs:=it.claim.cells) (hv:=rfl) ?_)|fail)
 rename_i b3 b4 bs
 refine bI ?_
 refine cJ (l:=bld b A c s++[cel b4 54 it.claim.cells,cel b3 60 it.cells]) (by show List.Perm [_,_,_,_] [_,_,_,_];exact (QR (l₁:=[_,_]) (l₂:=[_,_]))) ?_
 refine bN (pre:=bld b A c (s)) (fr:=[cel b4 54 it.claim.cells,cel b3 60 it.cells]) (hc:=fN b A c (s) ⟨some ⟨bs,0,none⟩,1,1⟩ [it.claim.actor] (by rw [hp0];(try simp only [Za]);omega)) (hX:=fun w h=>aV (xs:=[[encB it.claim.actor]]) h.2 rfl (by decide) (by simp)) (h:=?_)
 rintro v R X' ⟨A1,c1,rfl,rfl⟩
 refine cH (X':=(fun _=>True)) (fun w h=>trivial) ?_
 rw [hp0]
 unfold bld
 repeat' (first|refine gs ?_|refine gs1 fun _=>?_|fail)
 rename_i bs
 refine bI ?_
 refine bN (pre:=bld b A1 c1 (s++p0)) (fr:=[cel b4 54 it.claim.cells,cel b3 60 it.cells]) (hc:=dY b A1 c1 (s++p0) ⟨some ⟨bs,0,none⟩,1,1⟩ [it.claim.base] (by simp;exact hl.base) (by rw [hp1];(try simp only [Za]);omega)) (hX:=fun w h=>aV (xs:=[[.int .i64 it.claim.base]]) h.2 rfl (by decide) (by simp)) (h:=?_)
 rintro v R X' ⟨A2,c2,rfl,rfl⟩
 refine cH (X':=(fun _=>True)) (fun w h=>trivial) ?_
 rw [hp1]
 unfold bld
 repeat' (first|refine gs ?_|refine gs1 fun _=>?_|fail)
 rename_i bs
 refine bI ?_
 refine bN (pre:=bld b A2 c2 (s++p0++p1)) (fr:=[cel b4 54 it.claim.cells,cel b3 60 it.cells]) (hc:=fN b A2 c2 (s++p0++p1) ⟨some ⟨bs,0,none⟩,1,1⟩ [it.claim.prev] (by rw [hp2];(try simp only [Za]);omega)) (hX:=fun w h=>aV (xs:=[[encB it.claim.prev]]) h.2 rfl (by decide) (by simp)) (h:=?_)
 rintro v R X' ⟨A3,c3,rfl,rfl⟩
 refine cH (X':=(fun _=>True)) (fun w h=>trivial) ?_
 rw [hp2]
 unfold bld
 repeat' (first|refine gs ?_|refine gs1 fun _=>?_|fail)
 rename_i bs
 refine bI ?_
 refine bN (pre:=bld b A3 c3 (s++p0++p1++p2)) (fr:=[cel b4 54 it.claim.cells,cel b3 60 it.cells]) (hc:=dY b A3 c3 (s++p0++p1++p2) ⟨some ⟨bs,0,none⟩,4,4⟩ [it.claim.gen,it.claim.home,it.claim.pub,it.claim.time] (by simp;exact ⟨hl.gen,hl.home,hl.pub,hl.time⟩) (by rw [hp3];(try simp only [Za]);omega)) (hX:=fun w h=>aV (xs:=[[.int .i64 it.claim.gen],[.int .i64 it.claim.home],[.int .i64 it.claim.pub],[.int .i64 it.claim.time]]) h.2 rfl (by decide) (by simp)) (h:=?_)
 rintro v R X' ⟨A4,c4,rfl,rfl⟩
 refine cH (X':=(fun _=>True)) (fun w h=>trivial) ?_
 rw [hp3]
 repeat' (first|refine gs ?_|fail)
 all_goals exact aN (aF rfl) ⟨_,QE _ _,A4,c4,rfl,rfl⟩
theorem uw (b:Nat) (A:Option Addr) (c:Nat) (s:ByteArray) (it:Xe) (hl:it.ballot.Lt) (hs:s.size+(coreBa it.ballot).size≤1099511627776) :
  Ct prog 175 #[.pointer (some ⟨b,0,none⟩),it.v] (bld b A c s) (fun _=>True) fun u R _=>∃ A' c',u=.tuple #[]∧R=bld b A' c' (s++coreBa it.ballot):=by
 refine kg (args:=[_,_]) _ func175 rfl ntmps175 rfl fun av bor w0=>?_
 rw [coreBa] at hs ⊢
 simp only [Za] at hs
 obtain ⟨p0,hp0⟩:∃ p,numsV [it.ballot.server]=p:=⟨_,rfl⟩
 obtain ⟨p1,hp1⟩:∃ p,textsV [it.ballot.actor]=p:=⟨_,rfl⟩
 obtain ⟨p2,hp2⟩:∃ p,numsV [it.ballot.gen]=p:=⟨_,rfl⟩
 obtain ⟨p3,hp3⟩:∃ p,textsV [it.ballot.claim]=p:=⟨_,rfl⟩
 obtain ⟨p4,hp4⟩:∃ p,numsV [it.ballot.time]=p:=⟨_,rfl⟩
 rw [hp0,hp1,hp2,hp3,hp4] at hs ⊢
 rw [←Zy,←Zy,←Zy,←Zy]
 repeat' (first|refine gs ?_|refine gs1 fun _=>?_|(refine aC (vs:=it.ballot.cells) (hv:=rfl) ?_)|fail)
 rename_i b3 b4 bs
 refine bI ?_
 refine cJ (l:=bld b A c s++[cel b4 56 it.ballot.cells,cel b3 60 it.cells]) (by show List.Perm [_,_,_,_] [_,_,_,_];exact (QR (l₁:=[_,_]) (l₂:=[_,_]))) ?_
 refine bN (pre:=bld b A c (s)) (fr:=[cel b4 56 it.ballot.cells,cel b3 60 it.cells]) (hc:=dY b A c (s) ⟨some ⟨bs,0,none⟩,1,1⟩ [it.ballot.server] (by simp;exact hl.server) (by rw [hp0];(try simp only [Za]);omega)) (hX:=fun w h=>aV (xs:=[[.int .i64 it.ballot.server]]) h.2 rfl (by decide) (by simp)) (h:=?_)
 rintro v R X' ⟨A1,c1,rfl,rfl⟩
 refine cH (X':=(fun _=>True)) (fun w h=>trivial) ?_
 rw [hp0]
 unfold bld
 repeat' (first|refine gs ?_|refine gs1 fun _=>?_|fail)
 rename_i bs
 refine bI ?_
 refine bN (pre:=bld b A1 c1 (s++p0)) (fr:=[cel b4 56 it.ballot.cells,cel b3 60 it.cells]) (hc:=fN b A1 c1 (s++p0) ⟨some ⟨bs,0,none⟩,1,1⟩ [it.ballot.actor] (by rw [hp1];(try simp only [Za]);omega)) (hX:=fun w h=>aV (xs:=[[encB it.ballot.actor]]) h.2 rfl (by decide) (by simp)) (h:=?_)
 rintro v R X' ⟨A2,c2,rfl,rfl⟩
 refine cH (X':=(fun _=>True)) (fun w h=>trivial) ?_
 rw [hp1]
 unfold bld
 repeat' (first|refine gs ?_|refine gs1 fun _=>?_|fail)
 rename_i bs
 refine bI ?_
 refine bN (pre:=bld b A2 c2 (s++p0++p1)) (fr:=[cel b4 56 it.ballot.cells,cel b3 60 it.cells]) (hc:=dY b A2 c2 (s++p0++p1) ⟨some ⟨bs,0,none⟩,1,1⟩ [it.ballot.gen] (by simp;exact hl.gen) (by rw [hp2];(try simp only [Za]);omega)) (hX:=fun w h=>aV (xs:=[[.int .i64 it.ballot.gen]]) h.2 rfl (by decide) (by simp)) (h:=?_)
 rintro v R X' ⟨A3,c3,rfl,rfl⟩
 refine cH (X':=(fun _=>True)) (fun w h=>trivial) ?_
 rw [hp2]
 unfold bld
 repeat' (first|refine gs ?_|refine gs1 fun _=>?_|fail)
 rename_i bs
 refine bI ?_
 refine bN (pre:=bld b A3 c3 (s++p0++p1++p2)) (fr:=[cel b4 56 it.ballot.cells,cel b3 60 it.cells]) (hc:=fN b A3 c3 (s++p0++p1++p2) ⟨some ⟨bs,0,none⟩,1,1⟩ [it.ballot.claim] (by rw [hp3];(try simp only [Za]);omega)) (hX:=fun w h=>aV (xs:=[[encB it.ballot.claim]]) h.2 rfl (by decide) (by simp)) (h:=?_)
 rintro v R X' ⟨A4,c4,rfl,rfl⟩
 refine cH (X':=(fun _=>True)) (fun w h=>trivial) ?_
 rw [hp3]
 unfold bld
 repeat' (first|refine gs ?_|refine gs1 fun _=>?_|fail)
 rename_i bs
 refine bI ?_
 refine bN (pre:=bld b A4 c4 (s++p0++p1++p2++p3)) (fr:=[cel b4 56 it.ballot.cells,cel b3 60 it.cells]) (hc:=dY b A4 c4 (s++p0++p1++p2++p3) ⟨some ⟨bs,0,none⟩,1,1⟩ [it.ballot.time] (by simp;exact hl.time) (by rw [hp4];(try simp only [Za]);omega)) (hX:=fun w h=>aV (xs:=[[.int .i64 it.ballot.time]]) h.2 rfl (by decide) (by simp)) (h:=?_)
 rintro v R X' ⟨A5,c5,rfl,rfl⟩
 refine cH (X':=(fun _=>True)) (fun w h=>trivial) ?_
 rw [hp4]
 repeat' (first|refine gs ?_|fail)
 all_goals exact aN (aF rfl) ⟨_,QE _ _,A5,c5,rfl,rfl⟩
theorem qe (b:Nat) (A:Option Addr) (c:Nat) (s:ByteArray) (it:Xe) (hl:it.dec.Lt) (hs:s.size+(coreDe it.dec).size≤1099511627776) :
  Ct prog 176 #[.pointer (some ⟨b,0,none⟩),it.v] (bld b A c s) (fun w=>it.at_ w) fun u R _=>∃ A' c',u=.tuple #[]∧R=bld b A' c' (s++coreDe it.dec):=by
 refine kg (args:=[_,_]) _ func176 rfl ntmps176 rfl fun av bor w0=>?_
 rw [coreDe] at hs ⊢
 simp only [Za] at hs
 obtain ⟨p0,hp0⟩:∃ p,numsV [it.dec.server,it.dec.number,it.dec.kind]=p:=⟨_,rfl⟩
 obtain ⟨p1,hp1⟩:∃ p,textsV [it.dec.actor,it.dec.object,it.dec.text]=p:=⟨_,rfl⟩
 obtain ⟨p2,hp2⟩:∃ p,listV it.dec.toL=p:=⟨_,rfl⟩
 obtain ⟨p3,hp3⟩:∃ p,numsV [it.dec.n,it.dec.from_,it.dec.until_]=p:=⟨_,rfl⟩
 rw [hp0,hp1,hp2,hp3] at hs ⊢
 rw [←Zy,←Zy,←Zy]
 repeat' (first|refine gs ?_|refine gs1 fun _=>?_|(refine aC (vs:=it.dec.cells) (hv:=rfl) ?_)|fail)
 rename_i b3 b4 bs
 refine bI ?_
 refine cJ (l:=bld b A c s++[cel b4 58 it.dec.cells,cel b3 60 it.cells]) (by show List.Perm [_,_,_,_] [_,_,_,_];exact (QR (l₁:=[_,_]) (l₂:=[_,_]))) ?_
 refine bN (pre:=bld b A c (s)) (fr:=[cel b4 58 it.dec.cells,cel b3 60 it.cells]) (hc:=dY b A c (s) ⟨some ⟨bs,0,none⟩,3,3⟩ [it.dec.server,it.dec.number,it.dec.kind] (by simp;exact ⟨hl.server,hl.number,hl.kind⟩) (by rw [hp0];(try simp only [Za]);omega)) (hX:=fun w h=>aV (xs:=[[.int .i64 it.dec.server],[.int .i64 it.dec.number],[.int .i64 it.dec.kind]]) h.2 rfl (by decide) (by simp)) (h:=?_)
 rintro v R X' ⟨A1,c1,rfl,rfl⟩
 refine cH (X':=(fun w=>it.at_ w)) (fun w h=>h.1.1) ?_
 rw [hp0]
 unfold bld
 repeat' (first|refine gs ?_|refine gs1 fun _=>?_|fail)
 rename_i bs
 refine bI ?_
 refine bN (pre:=bld b A1 c1 (s++p0)) (fr:=[cel b4 58 it.dec.cells,cel b3 60 it.cells]) (hc:=fN b A1 c1 (s++p0) ⟨some ⟨bs,0,none⟩,3,3⟩ [it.dec.actor,it.dec.object,it.dec.text] (by rw [hp1];(try simp only [Za]);omega)) (hX:=fun w h=>aV (xs:=[[encB it.dec.actor],[encB it.dec.object],[encB it.dec.text]]) h.2 rfl (by decide) (by simp)) (h:=?_)
 rintro v R X' ⟨A2,c2,rfl,rfl⟩
 refine cH (X':=(fun w=>it.at_ w)) (fun w h=>h.1.1) ?_
 rw [hp1]
 have hli:=vz it.dec.to it.dec.toL (by rw [hp2];omega)
 rw [hp2] at hli
 unfold bld
 have hsz:(s++p0++p1).size+p2.size≤1099511627776:=by simp only [Za];omega
 generalize hgo:s++p0++p1=out at *
 have hos:out.size=s.size+p0.size+p1.size:=by rw [←hgo];simp only [Za]
 repeat' (first|refine gs ?_|fail)
 simp only [ZK,ZL]
 (refine aq ⟨[0,1,2,3,5,6],[(4,⟨[],[(7,⟨[],[(8,⟨[9,10],[(11,⟨[],[]⟩)]⟩)]⟩)]⟩),(7,⟨[],[(4,⟨[],[(8,⟨[9,10],[(11,⟨[],[]⟩)]⟩)]⟩)]⟩)]⟩ [cel b4 58 it.dec.cells] (fun w=>it.at_ w) (h:=?_))
 all_goals repeat' (first|(refine ag (hc:=hli) ?_)|refine gd ?_|refine aA ?_ (h':=?_)|exact aB|(refine iF ?_;refine aJ (size:=1) (z:=.int .u8 0) rfl rfl rfl rfl (fun _=>At.there _ (At.here _)) (fun w G=>ia aa) aa (by simp only [maxLen];omega) rfl ?_ rfl ?_;(with_reducible rfl);intro A3 c3)|fail)
 all_goals
  have eb:bld b A3 c3 (out++p2)=[cel b 160 ([(.slice A2 out.size c2:Value)].set 0 (.slice A3 (out.size+p2.size) c3)),orow 5 1 (.slice A3 (out.size+p2.size) c3) (out.size+p2.size) (u8s (bytesI out)++u8s (bytesI p2))]:=by simp [bld,Za,dr,bT]
  repeat' (first|refine gs ?_|refine gs1 fun _=>?_|fail)
  rename_i bs
  refine bI ?_
  refine cJ (l:=bld b A3 c3 (out++p2)++[cel b4 58 it.dec.cells,cel b3 60 it.cells]) (by rw [eb];exact Qn _) ?_
  refine bN (pre:=bld b A3 c3 (out++p2)) (fr:=[cel b4 58 it.dec.cells,cel b3 60 it.cells]) (hc:=dY b A3 c3 (out++p2) ⟨some ⟨bs,0,none⟩,3,3⟩ [it.dec.n,it.dec.from_,it.dec.until_] (by simp;exact ⟨hl.n,hl.from_,hl.until_⟩) (by rw [hp3];(try simp only [Za]);omega)) (hX:=fun w h=>aV (xs:=[[.int .i64 it.dec.n],[.int .i64 it.dec.from_],[.int .i64 it.dec.until_]]) h.2 rfl (by decide) (by simp)) (h:=?_)
  rintro v R X' ⟨A4,c4,rfl,rfl⟩
  refine cH (X':=(fun w=>it.at_ w)) (fun w h=>h.1.1) ?_
  rw [hp3]
  repeat' (first|refine gs ?_|fail)
  all_goals exact aN (aF rfl) ⟨_,QE _ _,A4,c4,rfl,rfl⟩
def ordV (n:Int):Bool:=decide (0≤n)&&decide (n<2305843009213693950)
theorem mW (n:Int):Pu prog 187 #[.int .i64 n] (fun _=>True) (.bool (ordV n)):=by
 refine aw func187 ntmps187 fun av bor w0=>?_
 repeat' (first|refine gs ?_|(refine gp ?_ ?_<;>intro hx_ this)|fail)
 (all_goals (apply ab;apply ae;rfl;rfl));all_goals (simp only [ordV, *,Zt,Zr,Zf,Ze,Zh,Zg,Zk,Zj,Zn,Zl,Zs,Zm,Zq,Zi];done)
def verN (p:Int) (msg:ByteArray) (e s:Int):Bool :=
 bif decide (p<1)||decide (2305843009213693951≤p)||!ordV e||!ordV s then false
 else decide (e=(chalN (expV 37 s.toNat * expV p.toNat (2305843009213693950-e.toNat)%2305843009213693951) p.toNat msg:Nat))
theorem nY (p:Int) (msg:ByteArray) (e s:Int) (hm:msg.size≤1000000000000):Pu prog 114 #[.int .i64 p,.string msg,(SgD.v ⟨e,s⟩)] Xi (.bool (verN p msg e s)):=by
 refine aw func114 ntmps114 fun av bor w0=>?_
 have hoe:=mW e
 have hos:=mW s
 cases hbad:(decide (p<1)||decide (2305843009213693951≤p)||!ordV e||!ordV s) with
 | true =>
  rw [show verN p msg e s=false from by rw [verN,hbad];rfl]
  repeat' (first|(refine ag (hc:=hoe) ?_)|(refine ag (hc:=hos) ?_)|refine gs ?_|refine gs1 fun _=>?_|(refine gp ?_ ?_<;>intro hx_ this)|fail)
  all_goals first
   | (apply ab;apply ae;rfl;rfl;rfl)
   | (exfalso;simp_all;done)
 | false =>
  have hb:=hbad
  simp only [Ql,Qd,Bool.not_eq_false'] at hb
  obtain ⟨⟨⟨h1,h2⟩,h3⟩,h4⟩:=hb
  have h3':=h3
  have h4':=h4
  simp only [ordV,Zp,Zw] at h3' h4'
  rw [h3] at hoe
  rw [h4] at hos
  obtain ⟨pn,rfl⟩:∃ n:Nat,p=(n:Int):=⟨p.toNat,by omega⟩
  obtain ⟨en,rfl⟩:∃ n:Nat,e=(n:Int):=⟨e.toNat,by omega⟩
  obtain ⟨sn,rfl⟩:∃ n:Nat,s=(n:Int):=⟨s.toNat,by omega⟩
  obtain ⟨d,hd⟩:∃ d,2305843009213693950-en=d:=⟨_,rfl⟩
  have hsub:IntKind.i64.wrap ((2305843009213693950:Int)-(en:Int))=(d:Int):=by
   rw [show (2305843009213693950:Int)-(en:Int)=(d:Int) from by omega]
   exact IntWalk.i64_in _ aa
  have he1:=Bv 37 sn aa
  have he2:=Bv pn d aa
  obtain ⟨x1,hx1⟩:∃ x,expV 37 sn=x:=⟨_,rfl⟩
  obtain ⟨x2,hx2⟩:∃ x,expV pn d=x:=⟨_,rfl⟩
  rw [hx1] at he1
  rw [hx2] at he2
  have hmu:=uA x1 x2
  obtain ⟨r,hr⟩:∃ r,x1*x2%2305843009213693951=r:=⟨_,rfl⟩
  have hrl:r<2305843009213693951:=by rw [←hr];exact Qc _ (by decide)
  rw [hr] at hmu
  have hch:=Eo r pn msg aa aa hm
  have hV:verN (pn:Int) msg (en:Int) (sn:Int)=decide (((en:Nat):Int)=(chalN r pn msg:Nat)):=by
   rw [verN,hbad,Ze,ZZ,ZZ,ZZ,hd,hx1,hx2,hr]
  rw [hV]
  have hbg:¬ (2305843009213693951:Int)≤(pn:Int):=h2
  have hbl:¬ (pn:Int)<1:=h1
  clear hbad hV hr hx1 hx2 hd
  generalize hcn:chalN r pn msg=cn at hch
  repeat' (first|refine bo ?_ (cb false rfl rfl (Zc hbl))|refine bo ?_ (eT false rfl rfl (Zc hbg))|(refine ag (hc:=hoe) ?_)|(refine ag (hc:=hos) ?_)|refine gs ?_|refine gs1 fun _=>?_|fail)
  rename_i bs
  (refine aq ⟨[0,1,3,4,5,6],[(2,⟨[],[(7,⟨[],[(8,⟨[9],[]⟩)]⟩)]⟩)]⟩ [cel bs 44 (SgD.cells ⟨(en:Int),(sn:Int)⟩)] Xi (h:=?_))
  all_goals repeat' (first|refine ax (hy:=by (apply lp (c:=(d:Int));rfl;rfl;exact hsub)) ?_|(refine ag (hc:=he1) (hX:=fun _ h=>by trivial) ?_)|(refine ag (hc:=he2) (hX:=fun _ h=>by trivial) ?_)|(refine ag (hc:=hmu) (hX:=fun _ h=>by trivial) ?_)|refine gd ?_|refine aA ?_ (h':=?_)|exact aB|fail)
  all_goals
   repeat' (first|refine gs ?_|fail)
   (refine aq ⟨[0,1,2,3,4],[(5,⟨[6,7],[]⟩)]⟩ [cel bs 44 (SgD.cells ⟨(en:Int),(sn:Int)⟩)] Xi (h:=?_))
   all_goals repeat' (first|(refine ag (hc:=hch) ?_)|refine gd ?_|refine aA ?_ (h':=?_)|exact aB|fail)
   all_goals
    repeat' (first|refine gs ?_|fail)
    exact ab (ae rfl rfl) rfl
def verV (p:Int) (a:Xa):Bool:=rightB a&&verN p (actCore a) a.e a.s
theorem qu (p:Int) (a:Xa) (hr:a.Rng):Pu prog 64 #[.int .i64 p,a.v] (fun w=>a.at_ w∧Xi w) (.bool (verV p a)):=by
 refine aw func64 ntmps64 fun av bor w0=>?_
 have hri:=ez a
 cases hR:rightB a with
 | false =>
  rw [hR] at hri
  rw [show verV p a=false from by rw [verV,hR];rfl]
  repeat' (first|refine gs ?_|refine gs1 fun _=>?_|fail)
  rename_i b3
  (refine aq ⟨[0],[(1,⟨[2,3,4,6,7],[(5,⟨[],[(8,⟨[9,10],[]⟩)]⟩)]⟩)]⟩ [cel b3 46 a.cells] (fun w=>a.at_ w∧Xi w) (h:=?_))
  all_goals repeat' (first|(refine ag (hc:=hri) ?_)|refine gd ?_|refine aA ?_ (h':=?_)|exact aB|fail)
  all_goals
   repeat' (first|refine gs ?_|fail)
   exact ab (ae rfl rfl) rfl
 | true =>
  rw [hR] at hri
  have hco:=vM a (dR hr)
  have hsz:=gC (dR hr hR)
  rw [hR,Zf] at hco
  have hve:=nY p (coreV a) a.e a.s aa
  have hV:verV p a=verN p (coreV a) a.e a.s:=by rw [verV,actCore,hR];rfl
  rw [hV]
  generalize verN p (coreV a) a.e a.s=V at *
  repeat' (first|refine gs ?_|refine gs1 fun _=>?_|fail)
  rename_i b3
  (refine aq ⟨[0],[(1,⟨[2,3,4,6,7],[(5,⟨[],[(8,⟨[9,10],[]⟩)]⟩)]⟩)]⟩ [cel b3 46 a.cells] (fun w=>a.at_ w∧Xi w) (h:=?_))
  all_goals repeat' (first|(refine ag (hc:=hri) ?_)|(refine ag (hc:=hco) ?_)|(refine ag (hc:=hve) ?_)|refine gd ?_|refine ax (hy:=by (apply cg (vs:=SgD.cells ⟨a.e,a.s⟩);rfl;exact .head _;rfl;rfl)) ?_|refine aA ?_ (h':=?_)|exact aB|fail)
  all_goals
   repeat' (first|refine gs ?_|fail)
   exact ab (ae rfl rfl) rfl
def rightK2 (i:Xe):Bool:=bif decide (i.kind=0) then rightB i.act else bif decide (i.kind=1) then claimR i.claim else bif decide (i.kind=2) then ballotR i.ballot else bif decide (i.kind=3) then decR i.dec else false
def restI (i:Xe):Xe:=bif decide (i.kind=0) then ⟨0,Xa.zero,i.claim,i.ballot,i.dec⟩ else bif decide (i.kind=1) then ⟨0,i.act,Xg.zero,i.ballot,i.dec⟩ else bif decide (i.kind=2) then ⟨0,i.act,i.claim,Xh.zero,i.dec⟩ else bif decide (i.kind=3) then ⟨0,i.act,i.claim,i.ballot,Xu.zero⟩ else ⟨0,i.act,i.claim,i.ballot,i.dec⟩
def rightIt (i:Xe):Bool:=rightK2 i&&sameIZ (restI i)
set_option maxRecDepth 20000 in
theorem iv (i:Xe):Pu prog 73 #[i.v] (fun w=>i.at_ w) (.bool (rightIt i)):=by
 refine aw func73 ntmps73 fun av bor w0=>?_
 by_cases h0:i.kind=0
 · have hri:=ez i.act
   have hsa:=fa ⟨0,Xa.zero,i.claim,i.ballot,i.dec⟩
   have e:rightIt i=(rightB i.act&&sameIZ ⟨0,Xa.zero,i.claim,i.ballot,i.dec⟩):=by simp [rightIt,rightK2,restI,h0]
   rw [e]
   generalize rightB i.act=rb at *
   generalize sameIZ ⟨0,Xa.zero,i.claim,i.ballot,i.dec⟩=sb at *
   repeat' (first|refine aE ?_|(refine ag (hc:=hri) ?_)|(refine ag (hc:=hsa) ?_)|refine gs ?_|refine gs1 fun _=>?_|(refine aK (cs:=Xa.zero.cells) (hf:=by rfl) ?_)|(refine fu (⟨0,Xa.zero,i.claim,i.ballot,i.dec⟩:Xe).cells (h:=?_))|(refine aC (vs:=i.act.cells) (hv:=rfl) ?_)|(refine aK (cs:=Xe.zero.cells) (hf:=by rfl) ?_)|(refine gp ?_ ?_<;>intro hx_ this)|fail)
   all_goals first
    | exact ab (ae rfl rfl) rfl
    | (refine ab (ae rfl rfl) ?_;simp_all;done)
 by_cases h1:i.kind=1
 · have hri:=nH i.claim
   have hsa:=fa ⟨0,i.act,Xg.zero,i.ballot,i.dec⟩
   have e:rightIt i=(claimR i.claim&&sameIZ ⟨0,i.act,Xg.zero,i.ballot,i.dec⟩):=by simp [rightIt,rightK2,restI,h0,h1]
   rw [e]
   generalize claimR i.claim=rb at *
   generalize sameIZ ⟨0,i.act,Xg.zero,i.ballot,i.dec⟩=sb at *
   repeat' (first|refine aE ?_|refine aG ?_|(refine ag (hc:=hri) ?_)|(refine ag (hc:=hsa) ?_)|refine gs ?_|refine gs1 fun _=>?_|(refine aK (cs:=Xg.zero.cells) (hf:=by rfl) ?_)|(refine fu (⟨0,i.act,Xg.zero,i.ballot,i.dec⟩:Xe).cells (h:=?_))|(refine aC (vs:=i.claim.cells) (hv:=rfl) ?_)|(refine aK (cs:=Xe.zero.cells) (hf:=by rfl) ?_)|(refine gp ?_ ?_<;>intro hx_ this)|fail)
   all_goals first
    | exact ab (ae rfl rfl) rfl
    | (refine ab (ae rfl rfl) ?_;simp_all;done)
 by_cases h2:i.kind=2
 · have hri:=mA i.ballot
   have hsa:=fa ⟨0,i.act,i.claim,Xh.zero,i.dec⟩
   have e:rightIt i=(ballotR i.ballot&&sameIZ ⟨0,i.act,i.claim,Xh.zero,i.dec⟩):=by simp [rightIt,rightK2,restI,h0,h1,h2]
   rw [e]
   generalize ballotR i.ballot=rb at *
   generalize sameIZ ⟨0,i.act,i.claim,Xh.zero,i.dec⟩=sb at *
   repeat' (first|refine aE ?_|refine aG ?_|(refine ag (hc:=hri) ?_)|(refine ag (hc:=hsa) ?_)|refine gs ?_|refine gs1 fun _=>?_|(refine aK (cs:=Xh.zero.cells) (hf:=by rfl) ?_)|(refine fu (⟨0,i.act,i.claim,Xh.zero,i.dec⟩:Xe).cells (h:=?_))|(refine aC (vs:=i.ballot.cells) (hv:=rfl) ?_)|(refine aK (cs:=Xe.zero.cells) (hf:=by rfl) ?_)|(refine gp ?_ ?_<;>intro hx_ this)|fail)
   all_goals first
    | exact ab (ae rfl rfl) rfl
    | (refine ab (ae rfl rfl) ?_;simp_all;done)
 by_cases h3:i.kind=3
 · have hri:=jT i.dec
   have hsa:=fa ⟨0,i.act,i.claim,i.ballot,Xu.zero⟩
   have e:rightIt i=(decR i.dec&&sameIZ ⟨0,i.act,i.claim,i.ballot,Xu.zero⟩):=by simp [rightIt,rightK2,restI,h0,h1,h2,h3]
   rw [e]
   generalize decR i.dec=rb at *
   generalize sameIZ ⟨0,i.act,i.claim,i.ballot,Xu.zero⟩=sb at *
   repeat' (first|refine aE ?_|refine aG ?_|(refine ag (hc:=hri) ?_)|(refine ag (hc:=hsa) ?_)|refine gs ?_|refine gs1 fun _=>?_|(refine aK (cs:=Xu.zero.cells) (hf:=by rfl) ?_)|(refine fu (⟨0,i.act,i.claim,i.ballot,Xu.zero⟩:Xe).cells (h:=?_))|(refine aC (vs:=i.dec.cells) (hv:=rfl) ?_)|(refine aK (cs:=Xe.zero.cells) (hf:=by rfl) ?_)|(refine gp ?_ ?_<;>intro hx_ this)|fail)
   all_goals first
    | exact ab (ae rfl rfl) rfl
    | (refine ab (ae rfl rfl) ?_;simp_all;done)
 have e:rightIt i=false:=by simp [rightIt,rightK2,h0,h1,h2,h3]
 rw [e]
 repeat' (first|refine aG ?_|refine gs ?_|refine gs1 fun _=>?_|fail)
 all_goals exact ab (ae rfl rfl) rfl
def formCells (nm:ByteArray) (f:Nat) (e s:Int):List Value:=[.string nm,.func (.func f) #[] #[],.int .i64 e,.int .i64 s]
theorem qD {N:Nat} {av bor:List Nat} {w0:World} {st:St} {ty:TypeId} {x:Operand} {nm:ByteArray} {f:Nat} {e s:Int} (hx:ev st.env x=some (.agg (formCells nm f e s).toArray)):Sy.Yields prog N av bor w0 st (.field 164 x 2) ty (.agg #[.int .i64 e,.int .i64 s]):=Sy.Yields.mk fun A w ok d pos af g=>by
 have hp:(part 44 (formCells nm f e s).toArray 2).run prog w=.ok (.agg #[.int .i64 e,.int .i64 s]) w:=by rw [gO];rfl
 simp only [formCells] at hx hp
 simp [execOp,ok.eval hx,Instr.field,run_underlying underlying164,asAgg,hp]
def nameC:ByteArray:=⟨#[99,108,97,105,109]⟩
theorem m5 (it:Xe) (h:it.kind=1):Pu prog 98 #[it.v] (fun _=>True) (.agg (formCells nameC 174 it.claim.e it.claim.s).toArray):=by
 refine aw func98 ntmps98 fun av bor w0=>?_
 repeat' (first|refine aE ?_|refine gs ?_|refine gs1 fun _=>?_|(refine aC (vs:=[.int .i64 it.claim.e,.int .i64 it.claim.s]) (hv:=rfl) ?_)|(refine aK (cs:=formCells nameC 174 it.claim.e it.claim.s) (hf:=by rfl) ?_)|fail)
 all_goals exact ab (cM rfl rfl aQ (by rfl)) rfl
def msgC (x:Xg):ByteArray:=textsV [nameC]++coreCl x
theorem Dv (it:Xe) (h:it.kind=1) (hl:it.claim.Lt) (hz:(msgC it.claim).size≤1099511627776):Pu prog 202 #[it.v] (fun _=>True) (.string (msgC it.claim)):=by
 refine aw func202 ntmps202 fun av bor w0=>?_
 have hfo:=m5 it h
 rw [msgC] at hz ⊢
 rw [Za] at hz
 have hS:(⟨#[]⟩:ByteArray)++textsV [nameC]=textsV [nameC]:=ByteArray.empty_append
 have hts:(⟨#[]⟩:ByteArray).size+(textsV [nameC]).size≤1099511627776:=by
  rw [←Za,hS]
  omega
 repeat' (first|(refine ag (hc:=hfo) ?_)|refine gs ?_|refine gs1 fun _=>?_|fail)
 rename_i bi bf bb bs
 refine bI ?_
 refine fP 5 1 ?_
 refine cJ (l:=bld bb none 0 ⟨#[]⟩++[cel bf 164 (formCells nameC 174 it.claim.e it.claim.s),cel bi 60 it.cells]) (List.Perm.swap _ _ _) ?_
 refine bN (pre:=bld bb none 0 ⟨#[]⟩) (fr:=[cel bf 164 (formCells nameC 174 it.claim.e it.claim.s),cel bi 60 it.cells]) (hc:=fN bb none 0 ⟨#[]⟩ ⟨some ⟨bs,0,none⟩,1,1⟩ [nameC] hts) (hX:=fun w h=>aV (xs:=[[encB nameC]]) h.2 rfl (by decide) (by simp)) (h:=?_)
 rintro v R X' ⟨A1,c1,rfl,rfl⟩
 refine cH (X':=(fun _=>True)) (fun w h=>trivial) ?_
 rw [hS]
 generalize textsV [nameC]=p0 at *
 unfold bld
 repeat' (first|refine gs ?_|fail)
 refine bN (pre:=bld bb A1 c1 p0) (fr:=[cel bf 164 (formCells nameC 174 it.claim.e it.claim.s),cel bi 60 it.cells]) (hc:=oX bb A1 c1 p0 it hl hz) (hX:=fun _ _=>trivial) (h:=?_)
 rintro v R X' ⟨A2,c2,rfl,rfl⟩
 unfold bld
 repeat' (first|refine gs ?_|fail)
 refine eU (hm:=Zv _ am) ?_
 repeat' (first|refine gs ?_|fail)
 all_goals
  apply ab;apply ae;rfl;rfl
  simp only [cK]
def sgnC (p:Int) (x:Xg):Bool:=verN p (msgC x) x.e x.s
theorem pI (p:Int) (it:Xe) (h:it.kind=1) (hl:it.claim.Lt) (hz:(msgC it.claim).size≤1000000000000):Pu prog 126 #[.int .i64 p,it.v] (fun w=>it.at_ w∧Xi w) (.bool (sgnC p it.claim)):=by
 refine aw func126 ntmps126 fun av bor w0=>?_
 have hms:=Dv it h hl aa
 have hfo:=m5 it h
 have hve:=nY p (msgC it.claim) it.claim.e it.claim.s hz
 rw [sgnC]
 generalize verN p (msgC it.claim) it.claim.e it.claim.s=V at *
 repeat' (first|refine gs ?_|refine gs1 fun _=>?_|fail)
 rename_i b3
 (refine aq ⟨[0,1,3],[(2,⟨[],[(4,⟨[5],[(6,⟨[7],[]⟩)]⟩)]⟩)]⟩ [cel b3 60 it.cells] (fun w=>it.at_ w∧Xi w) (h:=?_))
 all_goals repeat' (first|(refine ag (hc:=hms) (hX:=fun w h=>trivial) ?_)|(refine ag (hc:=hfo) ?_)|(refine ag (hc:=hve) ?_)|refine gd ?_|refine ax (hy:=by (apply qD;rfl)) ?_|refine aA ?_ (h':=?_)|exact aB|fail)
 all_goals
  repeat' (first|refine gs ?_|fail)
  exact ab (ae rfl rfl) rfl
def nameB:ByteArray:=⟨#[98,97,108,108,111,116]⟩
theorem Bq (it:Xe) (h:it.kind=2):Pu prog 98 #[it.v] (fun _=>True) (.agg (formCells nameB 175 it.ballot.e it.ballot.s).toArray):=by
 refine aw func98 ntmps98 fun av bor w0=>?_
 repeat' (first|refine aE ?_|refine aG ?_|refine gs ?_|refine gs1 fun _=>?_|(refine aC (vs:=[.int .i64 it.ballot.e,.int .i64 it.ballot.s]) (hv:=rfl) ?_)|(refine aK (cs:=formCells nameB 175 it.ballot.e it.ballot.s) (hf:=by rfl) ?_)|fail)
 all_goals exact ab (cM rfl rfl aQ (by rfl)) rfl
def msgB (x:Xh):ByteArray:=textsV [nameB]++coreBa x
def sgnB (p:Int) (x:Xh):Bool:=verN p (msgB x) x.e x.s
def nameD:ByteArray:=⟨#[100,101,99,105,115,105,111,110]⟩
theorem Bp (it:Xe) (h:it.kind=3):Pu prog 98 #[it.v] (fun _=>True) (.agg (formCells nameD 176 it.dec.e it.dec.s).toArray):=by
 refine aw func98 ntmps98 fun av bor w0=>?_
 repeat' (first|refine aG ?_|refine gs ?_|refine gs1 fun _=>?_|(refine aC (vs:=[.int .i64 it.dec.e,.int .i64 it.dec.s]) (hv:=rfl) ?_)|(refine aK (cs:=formCells nameD 176 it.dec.e it.dec.s) (hf:=by rfl) ?_)|fail)
 all_goals exact ab (cM rfl rfl aQ (by rfl)) rfl
def msgD (x:Xu):ByteArray:=textsV [nameD]++coreDe x
def sgnD (p:Int) (x:Xu):Bool:=verN p (msgD x) x.e x.s
theorem gP:∀ (l:List Int) (r:ByteArray),(l.foldl (fun r n=>r.push (UInt8.ofNat n.toNat)) r)=r++ofInts l
 | [],r=>by simp [ofInts]
 | b::l,r=>by
  have e:ofInts (b::l)=ofInts [b]++ofInts l:=by
   conv=>lhs;rw [ofInts,QG,gP l]
   rfl
  rw [QG,gP l,e,←Zy]
  congr 1
  simp [ofInts,ByteArray.ext_iff]
theorem rS (a:Int) (l:List Int):ofInts [a]++ofInts l=ofInts (a::l):=by
 conv=>rhs;rw [ofInts,QG,gP]
 rfl
set_option maxRecDepth 4000 in
theorem refNumD:∀ (f:Nat) (n:Int),0≤n→n<128 ^ f→f≤9→Pu prog 156 #[.int .i64 n] (fun _=>True) (.string (ofInts (numD (f+1) n)))
 | f,n,h0,h1,hf=>by
  have hb:(128:Int) ^ f≤9223372036854775808:=by
   have h4:(128:Nat) ^ f≤128 ^ 9:=Nat.pow_le_pow_right aa hf
   have h5:((128 ^ f:Nat):Int)≤((128 ^ 9:Nat):Int):=by exact_mod_cast h4
   have h6:((128 ^ 9:Nat):Int)=9223372036854775808:=by decide
   have h7:((128 ^ f:Nat):Int)=(128:Int) ^ f:=by simp
   omega
  refine aw func156 ntmps156 fun av bor w0=>?_
  by_cases hs:128≤n
  · have hf0:f≠0:=fun e=>by rw [e] at h1;simp at h1;omega
    obtain ⟨g,rfl⟩:∃ g,f=g+1:=⟨f-1,by omega⟩
    have ih:=refNumD g (n.tdiv 128) (by rw [Qq h0];omega) (by
     rw [Qq h0]
     rw [Int.pow_succ] at h1
     omega) aa
    rw [rT hs,←rS]
    have hlw:IntKind.u8.wrap (128+n.tmod 128)=lowD n:=rfl
    have ht1:=Int.tmod_lt_of_pos n (b:=128) aa
    have ht2:=Int.tmod_nonneg 128 h0
    have hq:IntKind.i64.wrap (n.tdiv 128)=n.tdiv 128:=IntWalk.i64_in _ (by rw [Qq h0];omega)
    have hsz:=eN [lowD n]
    have hsz2:=mL (g+1) (n.tdiv 128)
    have hsz3:=eN (numD (g+1) (n.tdiv 128))
    simp only [ZB,ZR,ZU] at hsz
    repeat' (first|refine zL ?_|refine gs ?_|fail)
    (refine aW ⟨[0,1,2,3,6,7],[(4,⟨[],[(5,⟨[],[(8,⟨[9,10],[]⟩)]⟩),(8,⟨[],[(5,⟨[9,10],[]⟩)]⟩)]⟩),(8,⟨[],[(4,⟨[],[(5,⟨[9,10],[]⟩)]⟩)]⟩)]⟩ (h:=?_))
    all_goals repeat' (first|(refine ag (hc:=ih) ?_)|refine gd ?_|refine ax (hy:=by first|(apply qx;rfl;rfl;decide;rfl)|(apply nT;rfl;rfl;decide;exact hq)|(apply cZ;rfl;rfl;omega)) ?_|refine aA ?_ (h':=?_)|exact aB|(refine bo ?_ (yy (ns:=[lowD n]) rfl am rfl (by decide)))|(refine eD (vs:=[.int .u8 (lowD n)]) fun _=>?_)|fail)
    all_goals
     apply bY
     exact ab (ae rfl rfl) rfl
  · rw [mK hs]
    repeat' (first|refine zL ?_|refine zK ?_|refine gs ?_|refine gs1 fun _=>?_|(refine bo ?_ (yy (ns:=[IntKind.u8.wrap n]) rfl am rfl (by decide)))|fail)
    exact ab (ae rfl rfl) rfl
theorem ca (n:Int) (hn:n<9223372036854775808):Pu prog 156 #[.int .i64 n] (fun _=>True) (.string (numV n)):=by
 by_cases h0:0≤n
 · have h:=refNumD 9 n h0 (by rw [show (128:Int) ^ 9=9223372036854775808 from by decide];exact hn) (ZX _)
   rw [numV,Zc (by omega)]
   exact h
 · rw [numV,Zd (by omega)]
   refine aw func156 ntmps156 fun av bor w0=>?_
   repeat' (first|refine zK ?_|refine gs ?_|fail)
   exact ab (ae rfl rfl) rfl
theorem cN (s:ByteArray) (hs:s.size≤1099511627776):Pu prog 153 #[.string s] (fun _=>True) (.string (textV s)):=by
 refine aw func153 ntmps153 fun av bor w0=>?_
 have:=ap s.size
 repeat' (first|refine ag (hc:=ca _ aa) ?_|refine gs ?_|(refine mn ?_)|fail)
 exact ab (ae rfl rfl) rfl
theorem mC (s:Xl) (l:List ByteArray) (hs:(listV l).size≤1099511627776):Pu prog 238 #[s.v] (fun w=>Strs w s l) (.string (listV l)):=by
 refine aw func238 ntmps238 fun av bor w0=>?_
 refine aR (p:=s.n=l.length∧s.n≤maxLen∧(0<l.length→s.p.isSome=true)) (fun w h=>⟨h.len_,ZY (Xf.cap h) (Xf.max h),h.some_⟩) fun ⟨hl,hm,hp⟩=>?_
 simp only [maxLen] at hm
 have hn10:=ap s.n
 have hsz:(numV l.length).size+(cats (l.map textV)).size≤1099511627776:=by rw [←Za];exact hs
 have h0:numV l.length++cats ((l.map textV).take 0)=numV s.n:=by simp [cats,hl]
 repeat' (first|refine ag (hc:=ca _ aa) ?_|refine gs ?_|fail)
 refine ao (ι:=Kth l.length) (fun i=>⟨[(0,s.v),(3,.string (numV l.length++cats ((l.map textV).take i.k))),(4,.int .i64 (i.k:Nat))],[],fun w=>Strs w s l⟩) (fun i=>l.length-i.k) ⟨0,Z4 _⟩ (ai ⟨rfl,by rw [h0];rfl,rfl,trivial⟩ (aj _) fun _ h=>h) fun i=>?_
 obtain ⟨k,hk⟩:=i
 simp only
 repeat' (first|refine gs ?_|(refine gp ?_ ?_<;>intro hx_ this)|fail)
 · have hlt:k<l.length:=by omega
   have hp':=hp aa
   have hsucc:=fi (l.map textV) (k:=k) (by rw [ZF];exact hlt)
   have hg:(l.map textV).getD k .empty=textV (l.getD k .empty):=by
    rw [Zo,Z7,Zo,Zb hlt];rfl
   have hle:=eK (l.map textV) (k+1)
   rw [hsucc,Za,hg] at hle
   have hte:(textV (l.getD k .empty)).size=(numV (l.getD k .empty).size).size+(l.getD k .empty).size:=by rw [textV,Za]
   have hca:(numV l.length++cats ((l.map textV).take k)).size=(numV l.length).size+(cats ((l.map textV).take k)).size:=Za
   repeat' (first|refine ag (hc:=cN _ aa) ?_|refine gs ?_|(refine aD (q:=k) ?_)|(refine de (hF:=fun w h=>Strs.get h hlt) ?_)|(refine mn ?_)|fail)
   exact ⟨(⟨k+1,hlt⟩:Kth l.length),(by show l.length-(k+1)<l.length-k;omega),ai ⟨rfl,by rw [hsucc,hg,←Zy];rfl,rfl,trivial⟩ (aj _) fun _ h=>h⟩
 · have hkE:k=l.length:=by omega
   subst hkE
   exact ab (ae rfl rfl) (by rw [listV,Qf (by rw [ZF];exact ZX _)])
def u32n (l:List Nat):List Value:=l.map fun (n:Nat)=>.int .u32 (n:Int)
def U32s (w:World) (s:Xl) (l:List Nat):Prop:=Xf w 1 s (l.map fun (n:Nat)=>[.int .u32 (n:Int)])
def U8s (w:World) (s:Xl) (l:List Nat):Prop:=Xf w 1 s (l.map fun (n:Nat)=>[.int .u8 (n:Int)])
theorem qG (l:List Nat):(u32n l).length=l.length:=by simp [u32n]
theorem qH {l:List Nat} {i:Nat} (h:i<l.length):(u32n l)[i]?=some (.int .u32 ((l.getD i 0:Nat):Int)):=by simp [u32n,h]
theorem iZ {w:World} {s:Xl} {l:List Nat} {f:Nat→Value} (h:Xf w 1 s (l.map fun n=>[f n])) {i:Nat} (hi:i<l.length):CellAt w s.p i (f (l.getD i 0)):=by
 obtain ⟨_,_,hc⟩:=Xf.row h i [f (l.getD i 0)] (by rw [Z7,Zb hi,Zo,Zb hi];rfl)
 have:=hc 0 _ rfl
 rwa [Nat.mul_one,ZT] at this
theorem ib {w:World} {s:Xl} {l:List Nat} {f:Nat→Value} (h:Xf w 1 s (l.map fun n=>[f n])):s.n=l.length:=by have:=Xf.len h;simpa using this
theorem fT {w:World} {s:Xl} {l:List Nat} {f:Nat→Value} (h:Xf w 1 s (l.map fun n=>[f n])) (h0:0<l.length):s.p.isSome=true:=(Xf.row h 0 [f l[0]] (by rw [Z7,Zb h0];rfl)).2.1
theorem U32s.of_row {w:World} {e n c:Nat} {A:Option Addr} {l:List Nat} (h:ORow w e 1 (.slice A n c) n (u32n l)) (hn:n=l.length):U32s w ⟨A,n,c⟩ l:=by
 have e1:(l.map fun (n:Nat)=>[(.int .u32 (n:Int):Value)]).flatten=u32n l:=by
  clear h hn
  induction l with
  | nil=>rfl
  | cons a l ih=>rw [Z1,Qb,ih];rfl
 rw [←e1] at h
 exact bm h (by rw [ZF,hn]) fun r hr=>by
  obtain ⟨n,_,rfl⟩:=QJ.1 hr
  rfl
theorem tc {n:Nat} (h:n<4294967296):IntKind.u32.wrap (n:Int)=(n:Int):=by rw [wrap32,ZD h]
section
variable {P:Program} {N:Nat} {av bor:List Nat} {w0:World} {st:St} {ty:TypeId} {x y:Operand} {t t2:TypeId} {a b:Nat}
theorem sW (hx:ev st.env x=some (.int .u32 (a:Int))) (hy:ev st.env y=some (.int .u32 (b:Int))) (hc:a*b<4294967296):Sy.Yields P N av bor w0 st (.binOp .mul t x y t2) ty (.int .u32 ((a*b:Nat):Int)) :=
 qz hx hy (by rw [←Int.natCast_mul];exact tc hc)
theorem yt (hx:ev st.env x=some (.int .i64 (a:Int))) (hy:ev st.env y=some (.int .i64 (b:Int))) (hc:a*b<9223372036854775808):Sy.Yields P N av bor w0 st (.binOp .mul t x y t2) ty (.int .i64 ((a*b:Nat):Int)) :=
 qz hx hy (by rw [←Int.natCast_mul];exact IntWalk.i64_in _ aa)
theorem E2 (hx:ev st.env x=some (.int .u32 (a:Int))) (hy:ev st.env y=some (.int .u32 (b:Int))) (hc:a+b<4294967296):Sy.Yields P N av bor w0 st (.binOp .add t x y t2) ty (.int .u32 ((a+b:Nat):Int)) :=
 lw hx hy (by rw [←Int.natCast_add];exact tc hc)
theorem lv (hx:ev st.env x=some (.int .u32 (a:Int))) (hy:ev st.env y=some (.int .u32 (b:Int))):Sy.Yields P N av bor w0 st (.binOp .add t x y t2) ty (.int .u32 (((a+b)%4294967296:Nat):Int)) :=
 lw hx hy (by rw [←Int.natCast_add,wrap32])
theorem ln (hx:ev st.env x=some (.int .u32 (a:Int))) (hy:ev st.env y=some (.int .u32 (b:Int))) (ha:a<4294967296) (hb:b<4294967296):Sy.Yields P N av bor w0 st (.binOp .xor t x y t2) ty (.int .u32 ((a ^^^ b:Nat):Int)) :=
 (IsN.xor (x:=(a:Int)) (y:=(b:Int)) ⟨rfl,ha⟩ ⟨rfl,hb⟩).1▸qv hx hy
theorem yz (hx:ev st.env x=some (.int .u32 (a:Int))) (hy:ev st.env y=some (.int .u32 (b:Int))) (ha:a<4294967296) (hb:b<4294967296):Sy.Yields P N av bor w0 st (.binOp .and t x y t2) ty (.int .u32 ((a &&& b:Nat):Int)) :=
 (IsN.and (x:=(a:Int)) (y:=(b:Int)) ⟨rfl,ha⟩ ⟨rfl,hb⟩).1▸nW hx hy
theorem sU {k':IntKind} {c:Int} {p:Nat} (hx:ev st.env x=some (.int .u32 (a:Int))) (hy:ev st.env y=some (.int k' c)) (hc:0≤c) (ha:a<4294967296) (hp:(2:Int) ^ (min c.toNat 32)=(p:Int)):Sy.Yields P N av bor w0 st (.binOp .shr t x y t2) ty (.int .u32 ((a/p:Nat):Int)) :=
 (IsN.shr (x:=(a:Int)) ⟨rfl,ha⟩ p hp).1▸qw hx hy hc
theorem ET (hx:ev st.env x=some (.int .u32 (a:Int))) (ha:a<4294967296):Sy.Yields P N av bor w0 st (.unOp .xor t x) ty (.int .u32 ((4294967295 ^^^ a:Nat):Int)):=by
 have hm:IsN (if IntKind.u32.signed then -1 else IntKind.u32.max) 4294967295:=⟨by kernel_rfl,by decide⟩
 exact (hm.xor (y:=(a:Int)) ⟨rfl,ha⟩).1▸pd hx
end
theorem Ck {w:World} {s:Xl} {l:List Nat} (h:U32s w s l):Src prog w 1 s.v s.n (u32n l):=by
 have e1:(l.map fun (n:Nat)=>[(.int .u32 (n:Int):Value)]).flatten=u32n l:=by
  clear h
  induction l with
  | nil=>rfl
  | cons a l ih=>rw [Z1,Qb,ih];rfl
 have h1:=iW (P:=prog) (s:=s) h fun cs hcs=>by
  obtain ⟨n,_,rfl⟩:=QJ.1 hcs
  rfl
 rwa [e1] at h1
theorem yK (l:List Nat) {i v:Nat} (h:i<l.length):(u32n l).take (i*1)++[.int .u32 (v:Int)]++(u32n l).drop (i*1+1)=u32n (l.set i v):=by
 rw [Nat.mul_one,u32n,u32n,List.map_set,List.set_eq_take_append_cons_drop,ZO (by rw [ZF];exact h)]
 simp
theorem E8 {m n:Nat} (hm:m<4294967296) (h0:0<n) (hn:n<32):bitsV .or .u32 (shrV .u32 (m:Int) (n:Int)) (shlV .u32 (m:Int) (32-(n:Int)))=((rot (2 ^ (32-n)) (2 ^ n) m:Nat):Int):=by
 have hw:32-(n:Int)=((32-n:Nat):Int):=by omega
 rw [hw]
 have h1:IsN (m:Int) m:=⟨rfl,hm⟩
 have h2:=(h1.shr (c:=(n:Int)) (2 ^ n) (by rw [ZZ,Nat.min_eq_left (by omega)];simp)).or (h1.shl (c:=((32-n:Nat):Int)) (2 ^ (32-n)) (by rw [ZZ,Nat.min_eq_left (by omega)];simp))
 rw [h2.1,rot,Nat.or_comm]
theorem fJ {m n:Nat} (hm:m<4294967296) (h0:0<n) (hn:n<32):rot (2 ^ (32-n)) (2 ^ n) m<4294967296:=by
 have h1:IsN (m:Int) m:=⟨rfl,hm⟩
 have h2:=(h1.shl (c:=((32-n:Nat):Int)) (2 ^ (32-n)) (by rw [ZZ,Nat.min_eq_left (by omega)];simp)).or (h1.shr (c:=(n:Int)) (2 ^ n) (by rw [ZZ,Nat.min_eq_left (by omega)];simp))
 exact h2.2
theorem cW (m n:Nat) (hm:m<4294967296) (h0:0<n) (hn:n<32):Pu prog 242 #[.int .u32 (m:Int),.int .i64 (n:Int)] (fun _=>True) (.int .u32 ((rot (2 ^ (32-n)) (2 ^ n) m:Nat):Int)):=by
 refine aw func242 ntmps242 fun av bor w0=>?_
 rw [←E8 hm h0 hn]
 repeat' (first|refine gs ?_|fail)
 (refine aW ⟨[0,1,2,3,4,5,6,7,8],[]⟩ (h:=?_))
 all_goals repeat' (first|refine gd ?_|fail)
 repeat' (first|refine gs ?_|fail)
 all_goals exact ab (ae rfl rfl) rfl
theorem yC {a b c d:Nat} (ha:a<256) (hb:b<256) (hc:c<256) (hd:d<256):wdN a b c d=a*16777216+b*65536+c*256+d:=by
 rw [wdN,ZD (show a*16777216<4294967296 by omega),ZD (show b*65536<4294967296 by omega),ZD (show c*256<4294967296 by omega)]
 have h1:a*16777216 ||| b*65536=a*16777216+b*65536:=by
  have:=Nat.two_pow_add_eq_or_of_lt (i:=24) (b:=b*65536) aa a
  rw [show a*16777216=2 ^ 24*a from by omega]
  exact this.symm
 have h2:(a*16777216+b*65536) ||| c*256=a*16777216+b*65536+c*256:=by
  have:=Nat.two_pow_add_eq_or_of_lt (i:=16) (b:=c*256) aa (a*256+b)
  rw [show a*16777216+b*65536=2 ^ 16*(a*256+b) from by omega]
  exact this.symm
 have h3:(a*16777216+b*65536+c*256) ||| d=a*16777216+b*65536+c*256+d:=by
  have:=Nat.two_pow_add_eq_or_of_lt (i:=8) (b:=d) aa (a*65536+b*256+c)
  rw [show a*16777216+b*65536+c*256=2 ^ 8*(a*65536+b*256+c) from by omega]
  exact this.symm
 rw [h1,h2,h3]
def row1 (l:List Nat) (k:Nat):List Nat:=(List.range k).map (fW l)
def row2 (l:List Nat) (k:Nat):List Nat:=(List.range (16+k)).map (sN (fW l) k)
theorem xj (l:List Nat) (k:Nat):row1 l (k+1)=row1 l k++[fW l k]:=by rw [row1,row1,List.range_succ,ZW];rfl
theorem xg (l:List Nat):row2 l 0=row1 l 16:=rfl
theorem rc (l:List Nat) {k t:Nat} (h:t<16+k):(row2 l k).getD t 0=sN (fW l) k t:=by
 rw [row2,Zo,Z7,List.getElem?_range h]
 rfl
theorem xi (l:List Nat) (k:Nat):row2 l (k+1)=row2 l k++[nextW (sN (fW l) k k) (sN (fW l) k (k+1)) (sN (fW l) k (k+9)) (sN (fW l) k (k+14))]:=by
 rw [row2,row2,show 16+(k+1)=(16+k)+1 from by omega,List.range_succ,ZW,Z1,List.map_nil,tA]
 congr 1
 refine QA fun t ht=>?_
 exact pK _ (by rw [List.mem_range] at ht;omega)
theorem ja (l:List Nat) (k:Nat):(row2 l k).length=16+k:=by simp [row2]
theorem Gp {l:List Nat} (h:∀ x∈l,x<256) (t:Nat):fW l t<4294967296:=by
 have g:=fun i=>fy h i
 rw [fW,yC (g _) (g _) (g _) (g _)]
 have g0:=g (4*t)
 have g1:=g (4*t+1)
 have g2:=g (4*t+2)
 have g3:=g (4*t+3)
 omega
theorem Ey (f:Nat→Nat) (h:∀ t,f t<4294967296):∀ k t,sN f k t<4294967296
 | 0,t=>h t
 | k+1,t=>by
  rw [sN]
  split
  · exact Qc _ aa
  · exact Ey f h k t
structure RowU (n:Nat) where
 k:Nat
 hk:k≤n
 A:Option Addr
 c:Nat
set_option maxRecDepth 20000 in
theorem rF (s:Xl) (l:List Nat) (hl:l.length=64) (hb:∀ x∈l,x<256):Mk prog 240 #[s.v] (fun w=>U8s w s l) (fun u X'=>∃ s':Xl,u=s'.v∧∀ w,X' w→U32s w s' (row2 l 48)):=by
 refine dE func240 ntmps240 fun av bor w0=>?_
 refine aR (p:=s.n=64∧s.p.isSome=true) (fun w h=>⟨by rw [ib (f:=fun n=>.int .u8 (n:Int)) h,hl],fT (f:=fun n=>.int .u8 (n:Int)) h aa⟩) fun ⟨hsn,hsp⟩=>?_
 have hg:∀ i,l.getD i 0<256:=fun i=>fy hb i
 repeat' (first|refine gs ?_|fail)
 refine cD 167 1 ?_
 refine ao (ι:=RowU 16) (fun i=>⟨[(0,s.v),(3,.slice i.A i.k i.c),(4,.int .i64 (i.k:Nat))],[orow 167 1 (.slice i.A i.k i.c) i.k (u32n (row1 l i.k))],fun w=>U8s w s l⟩) (fun i=>16-i.k) ⟨0,by omega,none,0⟩ (ai al (.cons_cons _ (Zu _)) fun _ h=>h) fun i=>?_
 obtain ⟨k,hk,A,c⟩:=i
 simp only
 repeat' (first|refine gs ?_|(refine gp ?_ ?_<;>intro hx_ this)|fail)
 · have hlt:k<16:=by omega
   have g0:=hg (4*k)
   have g1:=hg (4*k+1)
   have g2:=hg (4*k+2)
   have g3:=hg (4*k+3)
   have hfw:fW l k=l.getD (4*k) 0*16777216+l.getD (4*k+1) 0*65536+l.getD (4*k+2) 0*256+l.getD (4*k+3) 0:=yC g0 g1 g2 g3
   obtain ⟨b0,e0⟩:∃ b,b=l.getD (4*k) 0:=⟨_,rfl⟩
   obtain ⟨b1,e1⟩:∃ b,b=l.getD (4*k+1) 0:=⟨_,rfl⟩
   obtain ⟨b2,e2⟩:∃ b,b=l.getD (4*k+2) 0:=⟨_,rfl⟩
   obtain ⟨b3,e3⟩:∃ b,b=l.getD (4*k+3) 0:=⟨_,rfl⟩
   rw [←e0] at g0 hfw
   rw [←e1] at g1 hfw
   rw [←e2] at g2 hfw
   rw [←e3] at g3 hfw
   have hget:∀ w,U8s w s l→∀ i,i<64→CellAt w s.p i (.int .u8 ((l.getD i 0:Nat):Int)):=fun w h i hi=>iZ (f:=fun n=>.int .u8 (n:Int)) h aa
   (refine aq ⟨[0,1,2,3,4,5,6,7,8,9,10,11,12,13,14,15,16,17,18,19,20,21,22,23,24,25,26,27,28,29,30,31,32,33],[(34,⟨[],[(35,⟨[36],[]⟩)]⟩)]⟩ [] (fun w=>U8s w s l) (h:=?_))
   all_goals repeat' (first|refine ax (hy:=by first|(apply E2;rfl;rfl;omega)|(apply nV;rfl;exact tc aa)) ?_|refine gd ?_|refine ax (hy:=by first|(apply yt (a:=4) (b:=k);rfl;rfl;omega)|(apply sW (b:=16777216);rfl;rfl;omega)|(apply sW (b:=65536);rfl;rfl;omega)|(apply sW (b:=256);rfl;rfl;omega)|(apply ay (q:=4*k);rfl;rfl;omega;omega;assumption;omega)|(apply ay (q:=4*k+1);rfl;rfl;omega;omega;assumption;omega)|(apply ay (q:=4*k+2);rfl;rfl;omega;omega;assumption;omega)|(apply ay (q:=4*k+3);rfl;rfl;omega;omega;assumption;omega)|(apply dl (q:=4*k) (u:=.int .u8 (b0:Int));rfl;exact fun w h=>e0▸hget w h (4*k) aa)|(apply dl (q:=4*k+1) (u:=.int .u8 (b1:Int));rfl;exact fun w h=>e1▸hget w h (4*k+1) aa)|(apply dl (q:=4*k+2) (u:=.int .u8 (b2:Int));rfl;exact fun w h=>e2▸hget w h (4*k+2) aa)|(apply dl (q:=4*k+3) (u:=.int .u8 (b3:Int));rfl;exact fun w h=>e3▸hget w h (4*k+3) aa)) ?_|refine aA ?_ (h':=?_)|exact aB|refine eD (vs:=[.int .u32 ((b0*16777216+b1*65536+b2*256+b3:Nat):Int)]) fun _=>?_|(refine iF ?_;refine aJ (size:=1) (news:=u32n [b0*16777216+b1*65536+b2*256+b3]) (q:=1) rfl rfl rfl rfl (fun _=>At.there _ (At.here _)) (fun w G=>bA G am rfl rfl 1) aa (by simp only [maxLen];omega) rfl ?_ rfl ?_;(with_reducible rfl);intro A2 c2)|fail)
   have hrow:=xj l k
   rw [hfw] at hrow
   repeat' (first|refine gs ?_|fail)
   exact ⟨(⟨k+1,hlt,A2,c2⟩:RowU 16),(by show 16-(k+1)<16-k;omega),ai al (by rw [hrow,u32n,ZW];exact .cons _ (aj _)) fun _ h=>h⟩
 · obtain rfl:k=16:=by omega
   rw [←xg]
   refine ao (ι:=RowU 48) (fun i=>⟨[(3,.slice i.A (16+i.k) i.c),(5,.int .i64 ((16+i.k:Nat):Int))],[orow 167 1 (.slice i.A (16+i.k) i.c) (16+i.k) (u32n (row2 l i.k))],fun w=>True⟩) (fun i=>48-i.k) ⟨0,by omega,A,c⟩ (ai al (aj _) fun _ h=>trivial) fun i=>?_
   obtain ⟨k,hk,A,c⟩:=i
   simp only
   refine bP am (fun w h=>bF h aa) fun hAs=>?_
   repeat' (first|refine gs ?_|(refine gp ?_ ?_<;>intro hx_ this)|fail)
   · have hlt:k<48:=by omega
     have hm:∀ t,sN (fW l) k t<4294967296:=Ey _ (Gp hb) k
     have hA:∀ t,t<16+k→(u32n (row2 l k))[t]?=some (.int .u32 ((sN (fW l) k t:Nat):Int)):=fun t h=>by rw [qH (by rw [ja];exact h),rc l h]
     have hn:16+k=(u32n (row2 l k)).length:=by rw [qG,ja]
     have hg0:=hA k aa
     have hg1:=hA (k+1) aa
     have hg9:=hA (k+9) aa
     have hg14:=hA (k+14) aa
     have hnx:nextW (sN (fW l) k k) (sN (fW l) k (k+1)) (sN (fW l) k (k+9)) (sN (fW l) k (k+14))=(((sN (fW l) k k+s0N (sN (fW l) k (k+1)))%4294967296+sN (fW l) k (k+9))%4294967296+s1N (sN (fW l) k (k+14)))%4294967296:=rfl
     have hrow:=xi l k
     rw [hnx] at hrow
     have m1:=hm (k+1)
     have m14:=hm (k+14)
     obtain ⟨x0,e0⟩:∃ x,x=sN (fW l) k k:=⟨_,rfl⟩
     obtain ⟨x1,e1⟩:∃ x,x=sN (fW l) k (k+1):=⟨_,rfl⟩
     obtain ⟨x9,e9⟩:∃ x,x=sN (fW l) k (k+9):=⟨_,rfl⟩
     obtain ⟨x14,e14⟩:∃ x,x=sN (fW l) k (k+14):=⟨_,rfl⟩
     rw [←e0] at hg0 hrow
     rw [←e1] at hg1 m1 hrow
     rw [←e9] at hg9 hrow
     rw [←e14] at hg14 m14 hrow
     clear hA hm hnx
     have t7:=cW x1 7 m1 aa aa
     have t18:=cW x1 18 m1 aa aa
     have t17:=cW x14 17 m14 aa aa
     have t19:=cW x14 19 m14 aa aa
     have l7:=fJ (n:=7) m1 aa aa
     have l18:=fJ (n:=18) m1 aa aa
     have l17:=fJ (n:=17) m14 aa aa
     have l19:=fJ (n:=19) m14 aa aa
     have hs0:s0N x1=(rot (2 ^ (32-7)) (2 ^ 7) x1 ^^^ rot (2 ^ (32-18)) (2 ^ 18) x1) ^^^ (x1/8):=rfl
     have hs1:s1N x14=(rot (2 ^ (32-17)) (2 ^ 17) x14 ^^^ rot (2 ^ (32-19)) (2 ^ 19) x14) ^^^ (x14/1024):=rfl
     rw [hs0,hs1] at hrow
     clear hs0 hs1
     generalize rot (2 ^ (32-7)) (2 ^ 7) x1=r7 at *
     generalize rot (2 ^ (32-18)) (2 ^ 18) x1=r18 at *
     generalize rot (2 ^ (32-17)) (2 ^ 17) x14=r17 at *
     generalize rot (2 ^ (32-19)) (2 ^ 19) x14=r19 at *
     have lx:=Nat.xor_lt_two_pow (n:=32) l7 l18
     have ly:=Nat.xor_lt_two_pow (n:=32) l17 l19
     have d3:x1/8<4294967296:=by omega
     have d10:x14/1024<4294967296:=by omega
     repeat' (first|refine bo ?_ (ln rfl rfl (by assumption) (by assumption))|refine bo ?_ (sU (p:=8) rfl rfl (by decide) (by assumption) (by decide))|refine bo ?_ (sU (p:=1024) rfl rfl (by decide) (by assumption) (by decide))|(refine ag (hc:=t7) ?_)|(refine ag (hc:=t18) ?_)|(refine ag (hc:=t17) ?_)|(refine ag (hc:=t19) ?_)|refine gs ?_|(refine aD (q:=k+1) ?_)|(refine aD (q:=k+14) ?_)|(refine bo ?_ (dU rfl am hn hg1))|(refine bo ?_ (dU rfl am hn hg14))|fail)
     obtain ⟨v,hv⟩:∃ v,v=((((x0+(r7 ^^^ r18 ^^^ x1/8))%4294967296+x9)%4294967296+(r17 ^^^ r19 ^^^ x14/1024))%4294967296):=⟨_,rfl⟩
     rw [←hv] at hrow
     (refine aq ⟨[0,1,2,3,4,6,8,9,10,11,14],[(5,⟨[7],[(12,⟨[13,15],[(16,⟨[],[(17,⟨[18],[]⟩)]⟩)]⟩)]⟩),(12,⟨[],[(5,⟨[7,13,15],[(16,⟨[],[(17,⟨[18],[]⟩)]⟩)]⟩)]⟩)]⟩ [] (fun w=>True) (h:=?_))
     all_goals repeat' (first|refine ax (hy:=by (apply lv;rfl;rfl)) ?_|refine gd ?_|refine ax (hy:=by first|(apply ay (q:=k);rfl;rfl;omega;omega;assumption;omega)|(apply ay (q:=k+9);rfl;rfl;omega;omega;assumption;omega)) ?_|refine aA ?_ (h':=?_)|exact aB|(refine bo ?_ (dU rfl am hn hg0))|(refine bo ?_ (dU rfl am hn hg9))|((rw [←hv];refine eD (vs:=[.int .u32 (v:Int)]) fun _=>?_))|(refine iF ?_;refine aJ (size:=1) (news:=u32n [v]) (q:=1) rfl rfl rfl rfl (fun _=>At.there _ (At.here _)) (fun w G=>bA G am rfl rfl 1) aa (by simp only [maxLen];omega) rfl ?_ rfl ?_;(with_reducible rfl);intro A2 c2)|fail)
     all_goals
      repeat' (first|refine gs ?_|fail)
      exact ⟨(⟨k+1,hlt,A2,c2⟩:RowU 48),(by show 48-(k+1)<48-k;omega),ai al (by rw [hrow,u32n,ZW];exact .cons _ (aj _)) fun _ h=>h⟩
   · obtain rfl:k=48:=by omega
     exact ab (ae rfl rfl) ⟨⟨A,64,c⟩,rfl,fun w h=>U32s.of_row (h.2 (orow 167 1 (.slice A (16+48) c) (16+48) (u32n (row2 l 48))) am) (by rw [ja])⟩
def S8.l (s:S8):List Nat:=[s.a,s.b,s.c,s.d,s.e,s.f,s.g,s.h]
structure S8.Lt (s:S8):Prop where
 a:s.a<4294967296
 b:s.b<4294967296
 c:s.c<4294967296
 d:s.d<4294967296
 e:s.e<4294967296
 f:s.f<4294967296
 g:s.g<4294967296
 h:s.h<4294967296
theorem rf (s:S8) (k w:Nat):roundN s k w=⟨(t1N s.h s.e s.f s.g k w+t2N s.a s.b s.c)%4294967296,s.a,s.b,s.c,(s.d+t1N s.h s.e s.f s.g k w)%4294967296,s.e,s.f,s.g⟩:=by
 obtain ⟨a,b,c,d,e,f,g,h⟩:=s
 simp only [roundN,na]
theorem S8.Lt.round {s:S8} (h:s.Lt) (k w:Nat):(roundN s k w).Lt:=by
 rw [rf]
 exact ⟨Qc _ aa,h.a,h.b,h.c,Qc _ aa,h.e,h.f,h.g⟩
def rndN (f:Nat→Nat) (s:S8):Nat→S8
 | 0=>s
 | i+1=>roundN (rndN f s i) (kN.getD i 0) (sN f 48 i)
theorem Aj (f:Nat→Nat) {s:S8} (h:s.Lt):∀ i,(rndN f s i).Lt
 | 0=>h
 | i+1=>(Aj f h i).round _ _
theorem CZ (f:Nat→Nat) {i:Nat} (h:i<64):sN f 48 i=sN f i i:=by
 by_cases hi:i≤48
 · have:=iX f (k:=i) (t:=i) (48-i) aa
   rw [show i+(48-i)=48 from by omega] at this
   exact this
 · have:=iX f (k:=48) (t:=i) (i-48) aa
   rw [show 48+(i-48)=i from by omega] at this
   exact this.symm
theorem ri (f:Nat→Nat) (s:S8):∀ i,i≤64→(kN.take i).foldl stepN (s,winN f 0)=(rndN f s i,winN f i)
 | 0,_=>rfl
 | i+1,h=>by
  have hl:kN.length=64:=by kernel_rfl
  have e:kN.take (i+1)=kN.take i++[kN.getD i 0]:=by
   rw [Qg,Zo,Zb (by omega)]
   rfl
  rw [e,List.foldl_append,ri f s i aa,QG,List.foldl_nil,qT,nX,rndN,CZ f (by omega)]
  have hw:(winN f i).w0=sN f i i:=by unfold winN;rfl
  rw [hw]
theorem tB (f:Nat→Nat) (s:S8):roundsN kN s (winN f 0)=rndN f s 64:=by
 have hl:kN.length=64:=by kernel_rfl
 have h:=ri f s 64 (ZX _)
 rw [Qf (by omega)] at h
 rw [roundsN,h]
theorem Gm (s:S8) (w:W16):(mixN s w).l=[(s.a+(roundsN kN s w).a)%4294967296,(s.b+(roundsN kN s w).b)%4294967296,(s.c+(roundsN kN s w).c)%4294967296,(s.d+(roundsN kN s w).d)%4294967296,(s.e+(roundsN kN s w).e)%4294967296,(s.f+(roundsN kN s w).f)%4294967296,(s.g+(roundsN kN s w).g)%4294967296,(s.h+(roundsN kN s w).h)%4294967296]:=by
 rw [mixN]
 generalize roundsN kN s w=t
 obtain ⟨a,b,c,d,e,f,g,h⟩:=s
 obtain ⟨a',b',c',d',e',f',g',h'⟩:=t
 simp only [addN,na,S8.l]
theorem FG (s:S8) (w:W16):(mixN s w).Lt:=by
 rw [mixN]
 generalize roundsN kN s w=t
 obtain ⟨a,b,c,d,e,f,g,h⟩:=s
 obtain ⟨a',b',c',d',e',f',g',h'⟩:=t
 simp only [addN,na]
 exact ⟨Qc _ aa,Qc _ aa,Qc _ aa,Qc _ aa,Qc _ aa,Qc _ aa,Qc _ aa,Qc _ aa⟩
theorem FM:iniN.Lt:=⟨by decide,by decide,by decide,by decide,by decide,by decide,by decide,by decide⟩
set_option maxRecDepth 8000 in
theorem pR:Mk prog 160 #[] (fun _=>True) (fun u X'=>∃ s':Xl,u=s'.v∧∀ w,X' w→U32s w s' iniN.l):=by
 refine dE func160 ntmps160 fun av bor w0=>?_
 repeat' (first|(refine eD (vs:=u32n iniN.l) fun b=>?_;refine pE 1 8 rfl (by decide) ?_)|refine gs ?_|fail)
 exact ab (ae rfl rfl) ⟨⟨some ⟨b,0,none⟩,8,8⟩,rfl,fun w h=>U32s.of_row (h.2 _ am) rfl⟩
set_option maxRecDepth 20000 in
theorem tN:Mk prog 241 #[] (fun _=>True) (fun u X'=>∃ s':Xl,u=s'.v∧∀ w,X' w→U32s w s' kN):=by
 refine dE func241 ntmps241 fun av bor w0=>?_
 repeat' (first|(refine eD (vs:=u32n kN) fun b=>?_;refine pE 1 64 rfl (by decide) ?_)|refine gs ?_|fail)
 exact ab (ae rfl rfl) ⟨⟨some ⟨b,0,none⟩,64,64⟩,rfl,fun w h=>U32s.of_row (h.2 _ am) ac⟩
def gOk (a:Xa) (sc:Int) (g:ByteArray) (nx:Nat):Bool:=decide (a.kind=16)&&decide (a.scope=sc)&&seqB a.group g&&decide (a.epoch=(nx:Int))
def grantF (l:List Xa) (sc:Int) (g:ByteArray):Nat→Nat×Nat
 | 0=>(0,0)
 | i+1=>bif gOk (l.getD i Xa.zero) sc g (grantF l sc g i).2 then (i,(grantF l sc g i).2+1) else grantF l sc g i
def grantV (l:List Xa) (n sc:Int) (g:ByteArray):Nat×Nat:=grantF l sc g (limN n l.length)
def epochO (l:List Xa) (n sc:Int) (g:ByteArray):Option Xa:=bif decide ((0:Int)<((grantV l n sc g).2:Nat)) then l[(grantV l n sc g).1]? else none
theorem BK {e n:Nat} {v:Value} {ss:List ByteArray}:Ct prog 49 #[v] [orow e 1 v n (ss.map encB)] (fun _=>True) fun u R _=>∃ A c,u=.slice A (compB ss).length c∧R=[orow e 1 u (compB ss).length ((compB ss).map encB)]:=by
 have h:=compS_c.ct (e:=e) (n:=n) (v:=v) (ss:=ss.map bl)
 rw [r4 ss]
 refine h.mono fun u R X' ⟨A,c,h1,h2⟩=>⟨A,c,?_,?_⟩
 · rw [h1];simp [compB]
 · rw [h2,iE,compB];simp
def circF (l:List Xa) (g:ByteArray):Nat→Option Xa
 | 0=>none
 | i+1=>bif decide ((l.getD i Xa.zero).kind=15)&&seqB (l.getD i Xa.zero).group g then some (l.getD i Xa.zero) else circF l g i
def listOf (c:Xb) (n sc:Int) (g:ByteArray) (toL:List ByteArray):List ByteArray :=
 bif decide (sc=1) then sortB (tieV c.actsL n).a else bif decide (sc=2) then ((circF c.actsL g (limN n c.actsL.length)).map (·.toL)).getD [] else bif decide (sc=3) then toL else []
def keepM (c:Xb) (bs:List ByteArray) (x:ByteArray):Bool:=!seqB x c.id&&!hasS bs x
def membersV (c:Xb) (n sc:Int) (g:ByteArray) (toL:List ByteArray):List ByteArray:=compB (sortB ((listOf c n sc g toL).filter (keepM c (sortB (tieV c.actsL n).b))))
structure FilS (m:Nat) where
 k:Nat
 hk:k≤m
 A:Option Addr
 c:Nat
def wellA (c:Xb) (i:Int) (a:Xa):Bool:=(postK a.kind||decide (a.kind=14))&&(decide (a.scope=1)||decide (a.scope=2)||decide (a.scope=3))&&(match epochO c.actsL i a.scope a.group with
 | some e=>decide (e.epoch=a.epoch)&&eqL e.toL (membersV c i a.scope a.group a.toL)
 | none=>false)
def wellV (c:Xb) (i:Int):Bool:=decide (0≤i)&&(match c.actsL[i.toNat]? with
 | some a=>wellA c i a
 | none=>false)
structure Agree (n:Nat) (l l':List Xa):Prop where
 at_:∀ k,k<n→l[k]?=l'[k]?
 left:n≤l.length
 right:n≤l'.length
theorem Agree.getD {n:Nat} {l l':List Xa} (h:Agree n l l') {k:Nat} (hk:k<n):l.getD k Xa.zero=l'.getD k Xa.zero:=by
 rw [Zo,Zo,h.at_ k hk]
theorem Agree.symm {n:Nat} {l l':List Xa} (h:Agree n l l'):Agree n l' l:=⟨fun k hk=>(h.at_ k hk).symm,h.right,h.left⟩
def rtextV (c:Xb) (i:Int):Bool:=decide (0≤i)&&(match c.actsL[i.toNat]? with
 | some a=>postK a.kind||decide (a.kind=14)
 | none=>false)
def rmemV (c:Xb) (i:Int):List ByteArray:=bif wellV c i then (match c.actsL[i.toNat]? with
 | some a=>membersV c i a.scope a.group a.toL
 | none=>[]) else []
def pubV (c:Xb) (i:Int):Bool:=match c.actsL[i.toNat]? with
 | some a=>decide (a.scope=0)
 | none=>false
def mayV (c:Xb) (i:Int) (r:ByteArray):Bool:=rtextV c i&&(seqB r c.id||pubV c i||hasS (rmemV c i) r)
structure ReadF (c:Xb) (i:Int) (a:Xa) (l:List ByteArray):Prop where
 asc:Asc l
 own:c.id∈l
 mem:∀ x∈l,x≠c.id→x∈membersV c i a.scope a.group a.toL
 len:l.length=1+(bif wellV c i then (membersV c i a.scope a.group a.toL).length else 0)
structure ChOk (c:Xb):Prop where
 acts:Xx c.actsL
 len:c.actsL.length≤1000000
 to:∀ x∈c.actsL,x.to.n≤1000000
structure HisI (m:Nat) where
 k:Nat
 hk:k≤m
 A:Option Addr
 c:Nat
end Go.Proofs.YtaolfiikahlmkaaGreatDoor
namespace Go.Proofs.YtaolfiikahlmkaaGreatDoor
open Go Go.Proofs Sy
section
variable {P:Program} {N:Nat} {av bor:List Nat} {w0:World} {E:Env} {loc:List Xm} {X:World→Prop}
end
end Go.Proofs.YtaolfiikahlmkaaGreatDoor
namespace Go.Proofs.YtaolfiikahlmkaaGreatDoor
open Go Go.Proofs Sy Tryz
def accL (vs hs:List Nat):Nat→List Nat
 | 0=>vs
 | i+1=>(accL vs hs i).set i (((accL vs hs i).getD i 0+hs.getD i 0)%4294967296)
theorem sR (vs hs:List Nat):∀ i,(accL vs hs i).length=vs.length
 | 0=>rfl
 | i+1=>by rw [accL,Z9,sR vs hs i]
structure RowA (n:Nat) where
 k:Nat
 hk:k≤n
 A:Option Addr
 c:Nat
set_option maxRecDepth 20000 in
theorem tG (sh sb:Xl) (h:S8) (hh:h.Lt) (l:List Nat) (hl:l.length=64) (hb:∀ x∈l,x<256):Mk prog 161 #[sh.v,sb.v] (fun w=>U32s w sh h.l∧U8s w sb l) (fun u X'=>∃ s':Xl,u=s'.v∧∀ w,X' w→U32s w s' (mixN h (winN (fW l) 0)).l):=by
 refine dE func161 ntmps161 fun av bor w0=>?_
 have hwo:=rF sb l hl hb
 refine aR (p:=sh.n=8∧sh.p.isSome=true) (fun w h1=>⟨by rw [ib (f:=fun n=>.int .u32 (n:Int)) h1.1];rfl,fT (f:=fun n=>.int .u32 (n:Int)) h1.1 (by rw [show h.l.length=8 from rfl];omega)⟩) fun ⟨hsn,hsp⟩=>?_
 have hkl:kN.length=64:=by kernel_rfl
 have hwl:(row2 l 48).length=64:=ja l 48
 repeat' (first|refine pH fun _=>?_|(refine cd (hc:=hwo) fun v1 X1 h1=>?_;obtain ⟨sw,rfl,hW⟩:=h1)|(refine cd (hc:=tN) fun v2 X2 h2=>?_;obtain ⟨sk,rfl,hK⟩:=h2)|(refine aJ (size:=1) (news:=u32n h.l) (q:=sh.n) rfl rfl rfl rfl (fun _=>At.here _) (fun w G=>Ck G.keep.now.1.1.1) aa (by simp only [maxLen];omega) rfl ?_ rfl ?_;(with_reducible rfl);intro A0 c0)|refine gs ?_|fail)
 rw [hsn]
 refine aR (p:=(sw.n=64∧sw.p.isSome=true)∧(sk.n=64∧sk.p.isSome=true)) (fun w h1=>⟨⟨by rw [ib (f:=fun n=>.int .u32 (n:Int)) (hW w h1.1.2),hwl],fT (f:=fun n=>.int .u32 (n:Int)) (hW w h1.1.2) aa⟩,⟨by rw [ib (f:=fun n=>.int .u32 (n:Int)) (hK w h1.2),hkl],fT (f:=fun n=>.int .u32 (n:Int)) (hK w h1.2) aa⟩⟩) fun ⟨⟨hwn,hwp⟩,⟨hkn,hkp⟩⟩=>?_
 refine ao (ι:=RowA 64) (fun i=>⟨[(0,sh.v),(5,sw.v),(6,sk.v),(7,.slice i.A 8 i.c),(8,.int .i64 (i.k:Nat))],[orow 167 1 (.slice i.A 8 i.c) 8 (u32n (rndN (fW l) h i.k).l)],fun w=>(U32s w sh h.l∧U32s w sw (row2 l 48))∧U32s w sk kN⟩) (fun i=>64-i.k) ⟨0,by omega,A0,c0⟩ (ai al (aj _) fun w h1=>⟨⟨h1.1.1.1,hW w h1.1.2⟩,hK w h1.2⟩) fun i=>?_
 obtain ⟨k,hk,A,c⟩:=i
 simp only
 refine bP am (fun w h=>bF h aa) fun hAs=>?_
 repeat' (first|refine gs ?_|(refine gp ?_ ?_<;>intro hx_ this)|fail)
 · have hlt:k<64:=by omega
   have hLt:=Aj (fW l) hh k
   obtain ⟨kk,hkk⟩:∃ x,x=kN.getD k 0:=⟨_,rfl⟩
   obtain ⟨ww,hww⟩:∃ x,x=sN (fW l) 48 k:=⟨_,rfl⟩
   have hgk:∀ w,(U32s w sh h.l∧U32s w sw (row2 l 48))∧U32s w sk kN→CellAt w sk.p k (.int .u32 (kk:Int)):=fun w h1=>hkk▸iZ (f:=fun n=>.int .u32 (n:Int)) h1.2 aa
   have hgw:∀ w,(U32s w sh h.l∧U32s w sw (row2 l 48))∧U32s w sk kN→CellAt w sw.p k (.int .u32 (ww:Int)):=fun w h1=>by
    have h2:=iZ (f:=fun n=>.int .u32 (n:Int)) h1.1.2 (i:=k) aa
    rw [rc l aa,←hww] at h2
    exact h2
   have hnext:rndN (fW l) h (k+1)=roundN (rndN (fW l) h k) kk ww:=by rw [rndN,hkk,hww]
   rw [rf] at hnext
   generalize rndN (fW l) h k=S at *
   obtain ⟨a,b,d,e,f,g,p,q⟩:=S
   obtain ⟨ha,hbb,hd,he,hf,hg,hp,hq⟩:=hLt
   simp only at ha hbb hd he hf hg hp hq hnext
   simp only [S8.l]
   have hn:8=(u32n [a,b,d,e,f,g,p,q]).length:=rfl
   have hg0:(u32n [a,b,d,e,f,g,p,q])[0]?=some (.int .u32 (a:Int)):=rfl
   have hg1:(u32n [a,b,d,e,f,g,p,q])[1]?=some (.int .u32 (b:Int)):=rfl
   have hg2:(u32n [a,b,d,e,f,g,p,q])[2]?=some (.int .u32 (d:Int)):=rfl
   have hg3:(u32n [a,b,d,e,f,g,p,q])[3]?=some (.int .u32 (e:Int)):=rfl
   have hg4:(u32n [a,b,d,e,f,g,p,q])[4]?=some (.int .u32 (f:Int)):=rfl
   have hg5:(u32n [a,b,d,e,f,g,p,q])[5]?=some (.int .u32 (g:Int)):=rfl
   have hg6:(u32n [a,b,d,e,f,g,p,q])[6]?=some (.int .u32 (p:Int)):=rfl
   have hg7:(u32n [a,b,d,e,f,g,p,q])[7]?=some (.int .u32 (q:Int)):=rfl
   have t6:=cW f 6 hf aa aa
   have t11:=cW f 11 hf aa aa
   have t25:=cW f 25 hf aa aa
   have t2:=cW a 2 ha aa aa
   have t13:=cW a 13 ha aa aa
   have t22:=cW a 22 ha aa aa
   have l6:=fJ (n:=6) hf aa aa
   have l11:=fJ (n:=11) hf aa aa
   have l25:=fJ (n:=25) hf aa aa
   have l2:=fJ (n:=2) ha aa aa
   have l13:=fJ (n:=13) ha aa aa
   have l22:=fJ (n:=22) ha aa aa
   have e1:t1N q f g p kk ww=((((q+((rot (2 ^ (32-6)) (2 ^ 6) f ^^^ rot (2 ^ (32-11)) (2 ^ 11) f) ^^^ rot (2 ^ (32-25)) (2 ^ 25) f))%4294967296+((f &&& g) ^^^ ((4294967295 ^^^ f) &&& p)))%4294967296+kk)%4294967296+ww)%4294967296:=rfl
   have e2:t2N a b d=(((rot (2 ^ (32-2)) (2 ^ 2) a ^^^ rot (2 ^ (32-13)) (2 ^ 13) a) ^^^ rot (2 ^ (32-22)) (2 ^ 22) a)+(((a &&& b) ^^^ (a &&& d)) ^^^ (b &&& d)))%4294967296:=rfl
   rw [e1,e2] at hnext
   clear e1 e2
   generalize rot (2 ^ (32-6)) (2 ^ 6) f=r6 at *
   generalize rot (2 ^ (32-11)) (2 ^ 11) f=r11 at *
   generalize rot (2 ^ (32-25)) (2 ^ 25) f=r25 at *
   generalize rot (2 ^ (32-2)) (2 ^ 2) a=r2 at *
   generalize rot (2 ^ (32-13)) (2 ^ 13) a=r13 at *
   generalize rot (2 ^ (32-22)) (2 ^ 22) a=r22 at *
   have x1:=Nat.xor_lt_two_pow (n:=32) l6 l11
   have x3:=Nat.xor_lt_two_pow (n:=32) l2 l13
   have x5:f &&& g<4294967296:=Nat.lt_of_le_of_lt Nat.and_le_left hf
   have x6:4294967295 ^^^ f<4294967296:=Nat.xor_lt_two_pow (n:=32) (by decide) hf
   have x7:(4294967295 ^^^ f) &&& p<4294967296:=Nat.lt_of_le_of_lt Nat.and_le_left x6
   have x8:a &&& b<4294967296:=Nat.lt_of_le_of_lt Nat.and_le_left ha
   have x9:a &&& d<4294967296:=Nat.lt_of_le_of_lt Nat.and_le_left ha
   have x10:b &&& d<4294967296:=Nat.lt_of_le_of_lt Nat.and_le_left hbb
   have x11:(a &&& b) ^^^ (a &&& d)<4294967296:=Nat.xor_lt_two_pow (n:=32) x8 x9
   (refine aq ⟨[0,1,2,4,5,6,9,10,11],[(3,⟨[],[(7,⟨[8],[(12,⟨[13,14],[]⟩)]⟩)]⟩)]⟩ [orow 167 1 (.slice A 8 c) 8 (u32n [a,b,d,e,f,g,p,q])] (fun w=>(U32s w sh h.l∧U32s w sw (row2 l 48))∧U32s w sk kN) (h:=?_))
   all_goals repeat' (first|refine ax (hy:=by (apply ln;rfl;rfl;assumption;assumption)) ?_|(refine ag (hc:=t6) ?_)|(refine ag (hc:=t11) ?_)|(refine ag (hc:=t25) ?_)|refine gd ?_|refine ax (hy:=by first|(apply ay (q:=4);rfl;rfl;omega;omega;assumption;omega)|(apply dU;rfl;exact am;exact hn;exact hg4)) ?_|refine aA ?_ (h':=?_)|exact aB|fail)
   apply QS
   (refine aq ⟨[0,1,2,3,4,5,6,7,8,9,10,11,12,13,14,15,16,17,18,19,20,21,22,23,24,25,26,27,28,29,30,31,32],[]⟩ [orow 167 1 (.slice A 8 c) 8 (u32n [a,b,d,e,f,g,p,q])] (fun w=>(U32s w sh h.l∧U32s w sw (row2 l 48))∧U32s w sk kN) (h:=?_))
   all_goals repeat' (first|refine ax (hy:=by first|(apply lv;rfl;rfl)|(apply ln;rfl;rfl;assumption;assumption)|(apply yz;rfl;rfl;assumption;assumption)|(apply ET;rfl;assumption)) ?_|refine gd ?_|refine ax (hy:=by first|(apply ay (q:=4);rfl;rfl;omega;omega;assumption;omega)|(apply ay (q:=5);rfl;rfl;omega;omega;assumption;omega)|(apply ay (q:=6);rfl;rfl;omega;omega;assumption;omega)|(apply ay (q:=7);rfl;rfl;omega;omega;assumption;omega)|(apply ay (q:=k);rfl;rfl;omega;omega;assumption;omega)|(apply dU;rfl;exact am;exact hn;exact hg4)|(apply dU;rfl;exact am;exact hn;exact hg5)|(apply dU;rfl;exact am;exact hn;exact hg6)|(apply dU;rfl;exact am;exact hn;exact hg7)|(apply dl (q:=k) (u:=.int .u32 (kk:Int));rfl;exact hgk)|(apply dl (q:=k) (u:=.int .u32 (ww:Int));rfl;exact hgw)) ?_|fail)
   apply QS
   (refine aq ⟨[0,1,2,4,5,6,9,10,11],[(3,⟨[],[(7,⟨[8],[(12,⟨[13,14],[]⟩)]⟩)]⟩)]⟩ [orow 167 1 (.slice A 8 c) 8 (u32n [a,b,d,e,f,g,p,q])] (fun w=>(U32s w sh h.l∧U32s w sw (row2 l 48))∧U32s w sk kN) (h:=?_))
   all_goals repeat' (first|refine ax (hy:=by (apply ln;rfl;rfl;assumption;assumption)) ?_|(refine ag (hc:=t2) ?_)|(refine ag (hc:=t13) ?_)|(refine ag (hc:=t22) ?_)|refine gd ?_|refine ax (hy:=by first|(apply ay (q:=0);rfl;rfl;omega;omega;assumption;omega)|(apply dU;rfl;exact am;exact hn;exact hg0)) ?_|refine aA ?_ (h':=?_)|exact aB|fail)
   apply QS
   (refine aq ⟨[0,1,2,3,4,5,6,7,8,9,10,11,12,13,14,15,16,17,18,19,20,21,22,23,24,25],[]⟩ [orow 167 1 (.slice A 8 c) 8 (u32n [a,b,d,e,f,g,p,q])] (fun w=>(U32s w sh h.l∧U32s w sw (row2 l 48))∧U32s w sk kN) (h:=?_))
   all_goals repeat' (first|refine ax (hy:=by first|(apply lv;rfl;rfl)|(apply ln;rfl;rfl;assumption;assumption)|(apply yz;rfl;rfl;assumption;assumption)) ?_|refine gd ?_|refine ax (hy:=by first|(apply ay (q:=0);rfl;rfl;omega;omega;assumption;omega)|(apply ay (q:=1);rfl;rfl;omega;omega;assumption;omega)|(apply ay (q:=2);rfl;rfl;omega;omega;assumption;omega)|(apply dU;rfl;exact am;exact hn;exact hg0)|(apply dU;rfl;exact am;exact hn;exact hg1)|(apply dU;rfl;exact am;exact hn;exact hg2)) ?_|fail)
   obtain ⟨one,h1⟩:∃ x,x=((((q+((r6 ^^^ r11) ^^^ r25))%4294967296+((f &&& g) ^^^ ((4294967295 ^^^ f) &&& p)))%4294967296+kk)%4294967296+ww)%4294967296:=⟨_,rfl⟩
   obtain ⟨two,h2⟩:∃ x,x=(((r2 ^^^ r13) ^^^ r22)+(((a &&& b) ^^^ (a &&& d)) ^^^ (b &&& d)))%4294967296:=⟨_,rfl⟩
   rw [←h1,←h2] at hnext
   rw [←h1,←h2]
   (refine aq ⟨[0,1,2,3,4,5,6,7,8,9,10,11,12,13,14,15,16,17,18,19,20,21,22,23,24,25],[(26,⟨[27],[]⟩)]⟩ [orow 167 1 (.slice A 8 c) 8 (u32n [a,b,d,e,f,g,p,q])] (fun w=>(U32s w sh h.l∧U32s w sw (row2 l 48))∧U32s w sk kN) (h:=?_))
   all_goals repeat' (first|refine ax (hy:=by (apply lv;rfl;rfl)) ?_|refine gd ?_|refine ax (hy:=by first|(apply ay (q:=0);rfl;rfl;omega;omega;assumption;omega)|(apply ay (q:=1);rfl;rfl;omega;omega;assumption;omega)|(apply ay (q:=2);rfl;rfl;omega;omega;assumption;omega)|(apply ay (q:=3);rfl;rfl;omega;omega;assumption;omega)|(apply ay (q:=4);rfl;rfl;omega;omega;assumption;omega)|(apply ay (q:=5);rfl;rfl;omega;omega;assumption;omega)|(apply ay (q:=6);rfl;rfl;omega;omega;assumption;omega)|(apply dU;rfl;exact am;exact hn;exact hg0)|(apply dU;rfl;exact am;exact hn;exact hg1)|(apply dU;rfl;exact am;exact hn;exact hg2)|(apply dU;rfl;exact am;exact hn;exact hg3)|(apply dU;rfl;exact am;exact hn;exact hg4)|(apply dU;rfl;exact am;exact hn;exact hg5)|(apply dU;rfl;exact am;exact hn;exact hg6)) ?_|refine aA ?_ (h':=?_)|exact aB|((refine eD (vs:=u32n [(one+two)%4294967296,a,b,d,(e+one)%4294967296,f,g,p]) fun bb=>?_;refine pE 1 8 rfl (by decide) ?_))|fail)
   repeat' (first|refine gs ?_|fail)
   exact ⟨(⟨k+1,hlt,some ⟨bb,0,none⟩,8⟩:RowA 64),(by show 64-(k+1)<64-k;omega),ai al (by rw [hnext];exact .cons_cons _ (Zu _)) fun _ h=>h⟩
 · obtain rfl:k=64:=by omega
   have hmix:=Gm h (winN (fW l) 0)
   rw [tB] at hmix
   generalize rndN (fW l) h 64=S at *
   refine ao (ι:=RowA 8) (fun i=>⟨[(0,sh.v),(7,.slice A 8 c),(13,.int .i64 (i.k:Nat))],[orow 167 1 (.slice A 8 c) 8 (u32n (accL S.l h.l i.k))],fun w=>U32s w sh h.l⟩) (fun i=>8-i.k) ⟨0,by omega,A,c⟩ (ai al (aj _) fun _ h=>h.1.1) fun i=>?_
   obtain ⟨k,hk,_,_⟩:=i
   simp only
   have hlen:(accL S.l h.l k).length=8:=sR _ _ k
   repeat' (first|refine gs ?_|(refine gp ?_ ?_<;>intro hx_ this)|fail)
   · have hlt:k<8:=by omega
     have hn:8=(u32n (accL S.l h.l k)).length:=by rw [qG,hlen]
     obtain ⟨v,hv⟩:∃ v,v=(accL S.l h.l k).getD k 0:=⟨_,rfl⟩
     obtain ⟨u,hu⟩:∃ u,u=h.l.getD k 0:=⟨_,rfl⟩
     have hg:(u32n (accL S.l h.l k))[k]?=some (.int .u32 (v:Int)):=by rw [qH aa,hv]
     have hget:∀ w,U32s w sh h.l→CellAt w sh.p k (.int .u32 (u:Int)):=fun w h1=>hu▸iZ (f:=fun n=>.int .u32 (n:Int)) h1 (by rw [show h.l.length=8 from rfl];exact hlt)
     have hacc:accL S.l h.l (k+1)=(accL S.l h.l k).set k ((v+u)%4294967296):=by rw [accL,hv,hu]
     have hset:=yK (accL S.l h.l k) (i:=k) (v:=(v+u)%4294967296) aa
     rw [←hacc] at hset
     (refine aq ⟨[0,1,2,3,4,6,7,8,9],[(5,⟨[10,11],[(12,⟨[],[]⟩)]⟩)]⟩ [] (fun w=>U32s w sh h.l) (h:=?_))
     all_goals repeat' (first|refine ax (hy:=by (apply lv;rfl;rfl)) ?_|refine gd ?_|refine ax (hy:=by first|(apply ay (q:=k);rfl;rfl;omega;omega;assumption;omega)|(apply dl (q:=k) (u:=.int .u32 (u:Int));rfl;exact hget)) ?_|refine aA ?_ (h':=?_)|exact aB|(refine bo ?_ (dU rfl am hn hg))|((refine mq (A:=A) (m:=8) (c:=c) (e:=167) (size:=1) (i:=k) (xs:=u32n (accL S.l h.l k)) (xs':=u32n (accL S.l h.l (k+1))) (vs:=[.int .u32 (((v+u)%4294967296:Nat):Int)]) (v:=.int .u32 (((v+u)%4294967296:Nat):Int)) ac (by rw [Nat.mul_one];rfl) rfl rfl rfl rfl hlt hset (At.here _) rfl ar rfl ?_))|fail)
     repeat' (first|refine gs ?_|fail)
     exact ⟨(⟨k+1,hlt,A,c⟩:RowA 8),(by show 8-(k+1)<8-k;omega),ai al (aj _) fun _ h=>h⟩
   · obtain rfl:k=8:=by omega
     have he:accL S.l h.l 8=(mixN h (winN (fW l) 0)).l:=by
      rw [hmix]
      obtain ⟨a,b,d,e,f,g,p,q⟩:=S
      obtain ⟨a',b',d',e',f',g',p',q'⟩:=h
      simp only [accL,S8.l,List.set_cons_zero,List.set_cons_succ,List.getD_cons_zero,List.getD_cons_succ,List.cons.injEq,and_true,ZS]
     rw [he]
     exact ab (ae rfl rfl) ⟨⟨A,8,c⟩,rfl,fun w h1=>U32s.of_row (h1.2 (orow 167 1 (.slice A 8 c) 8 (u32n (mixN h (winN (fW l) 0)).l)) am) rfl⟩
theorem E7 (l:List Nat):u8s (l.map fun (n:Nat)=>(n:Int))=l.map fun (n:Nat)=>(.int .u8 (n:Int):Value):=by simp [u8s]
theorem U8s.of_row {w:World} {e n c:Nat} {A:Option Addr} {l:List Nat} (h:ORow w e 1 (.slice A n c) n (u8s (l.map fun (n:Nat)=>(n:Int)))) (hn:n=l.length):U8s w ⟨A,n,c⟩ l:=by
 have e1:(l.map fun (n:Nat)=>[(.int .u8 (n:Int):Value)]).flatten=u8s (l.map fun (n:Nat)=>(n:Int)):=by
  rw [E7]
  clear h hn
  induction l with
  | nil=>rfl
  | cons a l ih=>rw [Z1,Qb,ih];rfl
 rw [←e1] at h
 exact bm h (by rw [ZF,hn]) fun r hr=>by
  obtain ⟨n,_,rfl⟩:=QJ.1 hr
  rfl
theorem U8s.part {w:World} {s:Xl} {l:List Nat} (h:U8s w s l) {i n:Nat} (hi:i+n≤l.length):U8s w ⟨(s.from 1 i).p,n,s.c-i⟩ ((l.drop i).take n):=by
 have h1:=Xf.drop h (n:=i) (by rw [ZF];omega)
 rw [←List.map_drop] at h1
 have h2:=Xf.take h1 (n:=n) (by rw [ZF,Qr];omega)
 rw [←List.map_take] at h2
 exact h2
def padI (s:ByteArray):List Int:=endL s++List.replicate (padN (s.size+1)) 0++sizeB s.size 8
theorem Dl (s:ByteArray) (hs:s.size<2305843009213693952):padI s=(padL (nl s)).map fun (n:Nat)=>(n:Int):=by
 rw [padI,endL,km,padL,cX,qW s.size hs]
 simp
theorem FB (l:List Nat) (h:∀ x∈l,x<256):∀ x∈padL l,x<256:=fun x hx=>by
 rw [padL] at hx
 rcases Qy.1 hx with hx|hx
 · exact h x hx
 · rcases ZI.1 hx with rfl|hx
   · omega
   · rcases Qy.1 hx with hx|hx
     · rw [(List.mem_replicate.1 hx).2];omega
     · rw [sizeN] at hx
       simp only [ZI,Qk,or_false] at hx
       rcases hx with rfl|rfl|rfl|rfl|rfl|rfl|rfl|rfl<;>exact Qc _ aa
theorem vq (l:List Nat):(padL l).length=l.length+1+padN (l.length+1)+8:=by
 rw [padL]
 simp [sizeN]
 omega
theorem tQ (l:List Nat):(padL l).length%64=0:=by
 rw [vq,padN]
 omega
section
variable {P:Program} {N:Nat} {av bor:List Nat} {w0:World} {st:St} {ty:TypeId} {x y z:Operand} {t t2:TypeId} {a b:Nat}
theorem yA (hx:ev st.env x=some (.int .i64 (a:Int))) (hy:ev st.env y=some (.int .i64 (b:Int))) (hc:a+b<9223372036854775808):Sy.Yields P N av bor w0 st (.binOp .add t x y t2) ty (.int .i64 ((a+b:Nat):Int)) :=
 lw hx hy (by rw [←Int.natCast_add];exact IntWalk.i64_in _ aa)
theorem EQ {e size b':Nat} [hI:X7 P t e size b'] {s:Xl} {i n:Nat} (hx:ev st.env x=some s.v) (hy:ev st.env y=some (.int .i64 (i:Int))) (hz:ev st.env z=some (.int .i64 ((i+n:Nat):Int))) (h2:i+n≤s.c) :
  Sy.Yields P N av bor w0 st (.slice t x (some y) (some z) none) ty (⟨(s.from size i).p,n,s.c-i⟩:Xl).v:=by
 have h:=B5 (P:=P) (N:=N) (av:=av) (bor:=bor) (w0:=w0) (st:=st) (ty:=ty) (t:=t) (size:=size) hx hy hz aa aa aa
 have e1:((i:Nat):Int).toNat=i:=rfl
 have e2:((i+n:Nat):Int).toNat-i=n:=by omega
 rw [e1,e2] at h
 exact h
end
def outB (S:S8) (i:Nat):Nat:=(S.l.getD (i/4) 0/2 ^ (24-8*(i%4)))%256
theorem D6 (S:S8):digN S=(List.range 32).map (outB S):=by
 obtain ⟨a,b,c,d,e,f,g,h⟩:=S
 simp [digN,d4N,outB,S8.l,List.range,List.range.loop]
structure ShaI (L:List Nat) (m:Nat) where
 k:Nat
 hk:k≤m
 s:Xl
 S:S8
 lt:S.Lt
 run:runN (m-k) S (L.drop (64*k))=runN m iniN L
set_option maxRecDepth 20000 in
theorem ox (s:ByteArray) (hs:s.size≤1099511627776):Pu prog 91 #[.string s] (fun _=>True) (.string (shaV s)):=by
 refine aw func91 ntmps91 fun av bor w0=>?_
 repeat' (first|refine gs ?_|refine gs1 fun _=>?_|(refine tp fun A c=>?_)|fail)
 refine aJ (size:=1) (z:=.int .u8 0) (news:=u8s [128]) (q:=1) rfl rfl rfl rfl (fun _=>At.there _ (At.here _)) (fun w G=>bA G am rfl rfl 1) ?_ ?_ rfl ?_ rfl ?_
 · omega
 · simp only [maxLen];omega
 · rfl
 intro A1 c1
 repeat' (first|refine gs ?_|fail)
 have hel:=ni s
 refine ao (ι:=EndS (padN (s.size+1))) (fun i=>⟨[(0,.string s),(3,.slice i.A (s.size+1+i.k) i.c)],[orow 5 1 (.slice i.A (s.size+1+i.k) i.c) (s.size+1+i.k) (u8s (endL s++List.replicate i.k 0))],fun _=>True⟩) (fun i=>padN (s.size+1)-i.k) ⟨0,Z4 _,A1,c1⟩ (ai al ?_ fun _ h=>h) fun i=>?_
 · refine Z2 _ ?_
   rw [←bT]
   simp only [List.replicate_zero,ZJ]
   exact aj _
 have hik:=i.hk
 have hp:padN (s.size+1)<64:=Qc _ aa
 have hp2:padN (s.size+1)=(120-(s.size+1)%64)%64:=rfl
 have htm:Int.tmod ((s.size+1+i.k:Nat):Int) 64=(((s.size+1+i.k)%64:Nat):Int):=Int.ofNat_tmod _ _
 repeat' (first|refine gs ?_|fail)
 refine fH (hc:=htm) ?_
 repeat' (first|refine gs ?_|refine gs1 fun _=>?_|(refine gp ?_ ?_<;>intro hx_ this)|fail)
 · have hlt:i.k<padN (s.size+1):=by
    have h1:¬ (((s.size+1+i.k)%64:Nat):Int)=56:=by simpa using hx_
    omega
   refine aJ (size:=1) (z:=.int .u8 0) (news:=u8s [0]) (q:=1) rfl rfl rfl rfl (fun _=>At.there _ (At.here _)) (fun w G=>bA G am rfl rfl 1) ?_ ?_ rfl ?_ rfl ?_
   · omega
   · simp only [maxLen];omega
   · rfl
   intro A2 c2
   repeat' (first|refine gs ?_|fail)
   refine ⟨(⟨i.k+1,hlt,A2,c2⟩:EndS (padN (s.size+1))),(by show padN (s.size+1)-(i.k+1)<padN (s.size+1)-i.k;omega),ai al ?_ fun _ h=>h⟩
   refine Z2 _ ?_
   rw [←bT]
   simp only [List.replicate_succ',ZC]
   exact aj _
 have hk:i.k=padN (s.size+1):=by
  have h1:(((s.size+1+i.k)%64:Nat):Int)=56:=by simpa using hx_
  omega
 have hl1:(endL s++List.replicate (padN (s.size+1)) 0:List Int).length=s.size+1+padN (s.size+1):=by simp [hel]
 rw [hk]
 have hpad:=Dl s aa
 have hplen:(padL (nl s)).length=s.size+1+padN (s.size+1)+8:=by rw [vq,cX]
 rw [padI] at hpad
 have h8:IntKind.u64.wrap (8*IntKind.u64.wrap (s.size:Int))=IntKind.u64.wrap (IntKind.u64.wrap (s.size:Int)*8):=by rw [Int.mul_comm]
 rw [h8]
 generalize hL:(endL s++List.replicate (padN (s.size+1)) 0:List Int)=L0 at *
 refine ao (ι:=EndS 8) (fun j=>⟨[(3,.slice j.A (s.size+1+padN (s.size+1)+j.k) j.c),(4,.int .u64 (IntKind.u64.wrap (IntKind.u64.wrap (s.size:Int)*8))),(5,.int .i64 (56-8*(j.k:Int)))],[orow 5 1 (.slice j.A (s.size+1+padN (s.size+1)+j.k) j.c) (s.size+1+padN (s.size+1)+j.k) (u8s (L0++sizeB s.size j.k))],fun _=>True⟩) (fun j=>8-j.k) ⟨0,Z4 _,i.A,i.c⟩ (ai al ?_ fun _ h=>h) fun j=>?_
 · have e:sizeB (s.size:Int) 0=[]:=rfl
   simp only [e,ZJ]
   exact aj _
 have hjk:=j.hk
 repeat' (first|refine gs ?_|refine gs1 fun _=>?_|(refine gp ?_ ?_<;>intro hx_ this)|fail)
 · have hlt:j.k<8:=by omega
   refine aJ (size:=1) (z:=.int .u8 0) (news:=u8s [IntKind.u8.wrap (shrV .u64 (IntKind.u64.wrap (IntKind.u64.wrap (s.size:Int)*8)) (56-8*(j.k:Int)))]) (q:=1) rfl rfl rfl rfl (fun _=>At.there _ (At.here _)) (fun w G=>bA G am rfl rfl 1) ?_ ?_ rfl ?_ rfl ?_
   · omega
   · simp only [maxLen];omega
   · rfl
   intro A2 c2
   repeat' (first|refine gs ?_|fail)
   refine ⟨(⟨j.k+1,hlt,A2,c2⟩:EndS 8),(by show 8-(j.k+1)<8-j.k;omega),ai ⟨rfl,rfl,?_,trivial⟩ ?_ fun _ h=>h⟩
   · show some (Value.int .i64 (56-8*(j.k:Int)-8))=some (Value.int .i64 (56-8*((j.k+1:Nat):Int)))
     congr 2
     omega
   refine Z2 _ ?_
   rw [←bT]
   have e:sizeB (s.size:Int) (j.k+1)=sizeB s.size j.k++[IntKind.u8.wrap (shrV .u64 (IntKind.u64.wrap (IntKind.u64.wrap (s.size:Int)*8)) (56-8*(j.k:Int)))]:=by simp [sizeB,List.range_succ]
   simp only [e,ZC]
   exact aj _
 have hj8:j.k=8:=by omega
 rw [hj8,hpad]
 obtain ⟨sp,hsp⟩:∃ sp:Xl,sp=⟨j.A,s.size+1+padN (s.size+1)+8,j.c⟩:=⟨_,rfl⟩
 have hLt:=FB (nl s) (jp s)
 have hLm:=tQ (nl s)
 have hsha:=Fl s aa
 rw [shaL] at hsha
 obtain ⟨L,hLL⟩:∃ L,L=padL (nl s):=⟨_,rfl⟩
 rw [←hLL] at hplen hLt hLm hsha
 obtain ⟨m,hm⟩:∃ m,m=L.length/64:=⟨_,rfl⟩
 rw [←hm] at hsha
 have hL64:L.length=64*m:=by omega
 refine bI ?_
 repeat' (first|(refine cd (hc:=pR) fun v1 X1 h1=>?_;obtain ⟨sh0,rfl,hw0⟩:=h1)|refine gs ?_|fail)
 have hspD:∀ w,(True∧(orow 5 1 (.slice j.A (s.size+1+padN (s.size+1)+8) j.c) (s.size+1+padN (s.size+1)+8) (u8s ((padL (nl s)).map fun (n:Nat)=>(n:Int)))).F w)→U8s w sp L:=fun w h=>by
  rw [hsp,hLL]
  exact U8s.of_row h.2 (by rw [←hLL];exact hplen.symm)
 have hp0:0<L.length:=by omega
 refine aR (p:=sp.c≥L.length∧sp.p.isSome=true) (fun w h=>⟨by
  have h1:=Xf.cap (hspD w h.1)
  have h2:=ib (f:=fun n=>.int .u8 (n:Int)) (hspD w h.1)
  omega,fT (f:=fun n=>.int .u8 (n:Int)) (hspD w h.1) hp0⟩) fun ⟨hsc,hspp⟩=>?_
 have hspn:sp.n=L.length:=by rw [hsp,hplen]
 have hspv:sp.v=.slice j.A (s.size+1+padN (s.size+1)+8) j.c:=by rw [hsp];rfl
 refine ao (ι:=ShaI L m) (fun i=>⟨[(3,sp.v),(6,i.s.v),(7,.int .i64 ((64*i.k:Nat):Int))],[],fun w=>U8s w sp L∧U32s w i.s i.S.l⟩) (fun i=>m-i.k) ⟨0,Z4 _,sh0,iniN,FM,by rw [Nat.mul_zero,List.drop_zero,Nat.sub_zero]⟩ (ai ⟨by rw [hspv];rfl,rfl,rfl,trivial⟩ (aj _) fun w h=>⟨hspD w h.1,hw0 w h.2⟩) fun i=>?_
 obtain ⟨k,hk2,sh,S,hSl,hrun⟩:=i
 simp only
 repeat' (first|refine bo ?_ (yA (b:=64) rfl rfl aa)|refine gs ?_|(refine gp ?_ ?_<;>intro hx_ this)|fail)
 · have hlt:k<m:=by omega
   have hdl:(L.drop (64*k)).length=64*(m-k):=by rw [Qr];omega
   have hpl:((L.drop (64*k)).take 64).length=64:=by rw [Qi];omega
   have hpb:∀ x∈(L.drop (64*k)).take 64,x<256:=fun x hx=>hLt x (List.mem_of_mem_drop (List.mem_of_mem_take hx))
   have hne:=tG sh ⟨(sp.from 1 (64*k)).p,64,sp.c-64*k⟩ S hSl _ hpl hpb
   have hcg:winN (fW ((L.drop (64*k)).take 64)) 0=winN (fW (L.drop (64*k))) 0:=lC fun t ht=>vH t ht
   rw [hcg] at hne
   have hrun2:runN (m-(k+1)) (mixN S (winN (fW (L.drop (64*k))) 0)) (L.drop (64*(k+1)))=runN m iniN L:=by
    have e1:m-k=(m-(k+1))+1:=by omega
    rw [e1,fS aa,List.drop_drop] at hrun
    rw [show 64*(k+1)=64*k+64 from by omega]
    exact hrun
   repeat' (first|refine bo ?_ (yA (b:=64) rfl rfl aa)|(refine cd (hc:=hne) (hX:=fun w h=>⟨h.2,U8s.part h.1 aa⟩) fun v2 X2 h2=>?_;obtain ⟨s2,rfl,hw2⟩:=h2)|refine gs ?_|(refine bo ?_ (EQ (size:=1) rfl rfl rfl aa))|fail)
   exact ⟨(⟨k+1,hlt,s2,_,FG _ _,hrun2⟩:ShaI L m),(by show m-(k+1)<m-k;omega),ai al (aj _) fun w h=>⟨h.1.1,hw2 w h.2⟩⟩
 · obtain rfl:k=m:=by omega
   rw [Nat.sub_self] at hrun
   have hS:S=runN k iniN L:=hrun
   rw [←hS,D6] at hsha
   refine aR (p:=sh.n=8∧sh.p.isSome=true) (fun w h1=>⟨by rw [ib (f:=fun n=>.int .u32 (n:Int)) h1.2];rfl,fT (f:=fun n=>.int .u32 (n:Int)) h1.2 (by rw [show S.l.length=8 from rfl];omega)⟩) fun ⟨hsn,hshp⟩=>?_
   refine cD 5 1 ?_
   refine ao (ι:=RowA 32) (fun i=>⟨[(6,sh.v),(8,.slice i.A i.k i.c),(9,.int .i64 (i.k:Nat))],[orow 5 1 (.slice i.A i.k i.c) i.k (u8s (((List.range i.k).map (outB S)).map fun (n:Nat)=>(n:Int)))],fun w=>U32s w sh S.l⟩) (fun i=>32-i.k) ⟨0,by omega,none,0⟩ (ai al (.cons_cons _ (Zu _)) fun _ h=>h.2) fun i=>?_
   obtain ⟨k2,hk3,A3,c3⟩:=i
   simp only
   clear hspD hrun hLt hLm hplen
   repeat' (first|refine gs ?_|(refine gp ?_ ?_<;>intro hx_ this)|fail)
   · have hlt:k2<32:=by omega
     obtain ⟨q,hq⟩:∃ q,q=k2/4:=⟨_,rfl⟩
     obtain ⟨r,hr⟩:∃ r,r=k2%4:=⟨_,rfl⟩
     have h1:IntKind.i64.wrap ((k2:Int).tdiv 4)=(q:Int):=by
      rw [show (k2:Int).tdiv 4=((k2/4:Nat):Int) from Int.ofNat_tdiv _ _,←hq]
      exact IntWalk.i64_in _ aa
     have h2:(k2:Int).tmod 4=(r:Int):=by rw [show (k2:Int).tmod 4=((k2%4:Nat):Int) from Int.ofNat_tmod _ _,←hr]
     obtain ⟨u,hu⟩:∃ u,u=24-8*r:=⟨_,rfl⟩
     have h3:IntKind.i64.wrap (24-((8*r:Nat):Int))=(u:Int):=by
      rw [show 24-((8*r:Nat):Int)=(u:Int) from by omega]
      exact IntWalk.i64_in _ aa
     obtain ⟨x,hx⟩:∃ x,x=S.l.getD q 0:=⟨_,rfl⟩
     have hx2:x<4294967296:=by
      obtain ⟨a,b,c,d,e,f,g,h⟩:=S
      obtain ⟨ha,hb,hc,hd,he,hf,hg,hh⟩:=hSl
      simp only at ha hb hc hd he hf hg hh
      have:q<8:=by omega
      rw [hx]
      have hq8:q=0∨q=1∨q=2∨q=3∨q=4∨q=5∨q=6∨q=7:=by omega
      rcases hq8 with h|h|h|h|h|h|h|h<;>rw [h]<;>assumption
     have hg:∀ w,U32s w sh S.l→CellAt w sh.p q (.int .u32 (x:Int)):=fun w h=>hx▸iZ (f:=fun n=>.int .u32 (n:Int)) h (by rw [show S.l.length=8 from rfl];omega)
     have hpw:(2:Int) ^ (min ((u:Int)).toNat 32)=((2 ^ u:Nat):Int):=by
      rw [ZZ,Nat.min_eq_left (by omega)]
      simp
     have h8w:IntKind.u8.wrap ((x/2 ^ u:Nat):Int)=((outB S k2:Nat):Int):=by rw [wrap8,outB,←hq,←hr,←hu,←hx]
     have hrow:(List.range (k2+1)).map (outB S)=(List.range k2).map (outB S)++[outB S k2]:=by rw [List.range_succ,ZW];rfl
     have hou:outB S k2<256:=Qc _ aa
     generalize outB S k2=ob at *
     repeat' (first|refine bo ?_ (nT (c:=(q:Int)) rfl rfl (by decide) h1)|refine bo ?_ (qx (c:=(r:Int)) rfl rfl (by decide) h2)|refine bo ?_ (yt (a:=8) (b:=r) rfl rfl aa)|refine bo ?_ (lp (c:=(u:Int)) rfl rfl h3)|refine bo ?_ (sU (p:=2 ^ u) rfl rfl aa hx2 hpw)|refine bo ?_ (nV rfl h8w)|(refine aJ (size:=1) (z:=.int .u8 0) (news:=u8s [(ob:Int)]) (q:=1) rfl rfl rfl rfl (fun _=>At.there _ (At.here _)) (fun w G=>bA G am rfl rfl 1) aa (by simp only [maxLen];omega) rfl ?_ rfl ?_;(with_reducible rfl);intro A4 c4)|refine gs ?_|refine gs1 fun _=>?_|(refine aD (q:=q) ?_)|(refine de (q:=q) (u:=.int .u32 (x:Int)) (hF:=hg) ?_)|fail)
     exact ⟨(⟨k2+1,hlt,A4,c4⟩:RowA 32),(by show 32-(k2+1)<32-k2;omega),ai al (by rw [hrow,ZW,bT];exact .cons _ (aj _)) fun _ h=>h⟩
   · obtain rfl:k2=32:=by omega
     rw [←hsha]
     refine eU (hm:=am) ?_
     repeat' (first|refine gs ?_|fail)
     refine ab (ae rfl rfl) ?_
     rw [←km,cK]
theorem Bo (s:ByteArray) {i:Nat} (h:i<s.size):(((s.get! i).toNat:Nat):Int)=byteAt s i:=by
 have hs:i<s.data.size:=h
 rw [byteAt,Zo,Qo,Array.getElem?_eq_getElem hs]
 show (((s.data[i]!).toNat:Nat):Int)=_
 rw [getElem!_pos s.data i hs]
 rfl
theorem D7 {s:ByteArray} {i:Nat} (h:(s.get! i).toNat<128):Utf8.decode s i=((s.get! i).toNat,1):=by
 unfold Utf8.decode
 simp only [ZT,h,ZN]
theorem BG {s:ByteArray} {i:Nat} (h:¬ (s.get! i).toNat<128):128≤(Utf8.decode s i).1:=by
 unfold Utf8.decode
 simp only [ZT,h,if_false]
 repeat' split
 all_goals first
  | (simp only [Utf8.runeError];omega)
  | (simp_all;done)
  | (simp only [ge_iff_le] at *;omega)
  | (simp only [ge_iff_le,Zp,Zw] at *;omega)
theorem ku {bad:Nat→Int→Bool} {s:ByteArray} (hb:∀ q c,128≤c→bad q c=true):∀ f q,s.size≤f+q→runes bad s f q=(List.range' q (s.size-q)).all fun k=>!bad k (byteAt s k)
 | 0,q,h=>by
  rw [runes,show s.size-q=0 from by omega]
  rfl
 | f+1,q,h=>by
  rw [runes]
  by_cases hq:q<s.size
  · rw [Zd hq,Zf]
    have e:s.size-q=(s.size-(q+1))+1:=by omega
    rw [e,List.range'_succ,List.all_cons]
    have hg:=Bo s hq
    by_cases hl:(s.get! q).toNat<128
    · rw [D7 hl]
      simp only
      rw [hg]
      cases hbq:bad q (byteAt s q) with
      | true=>rfl
      | false =>
       rw [Ze,ku hb f (q+1) (by omega)]
       rfl
    · have h1:=hb q _ (show (128:Int)≤((Utf8.decode s q).1:Int) by have:=BG hl;omega)
      have h2:=hb q (byteAt s q) (by rw [←hg];omega)
      rw [h1,h2]
      rfl
  · rw [Zc hq,show s.size-q=0 from by omega]
    rfl
theorem ov {bad:Nat→Int→Bool} {s:ByteArray} (hb:∀ q c,128≤c→bad q c=true):runes bad s s.size 0=allB s.size fun k=>bad k (byteAt s k):=by
 rw [ku hb s.size 0 aa,allB,List.range_eq_range']
 rfl
def inChr (c l h:Int):Bool:=decide (l≤c)&&decide (c≤h)
theorem je (c l h:Int):Pu prog 269 #[.int .u8 c,.int .u8 l,.int .u8 h] (fun _=>True) (.bool (inChr c l h)):=by
 refine aw func269 ntmps269 fun av bor w0=>?_
 repeat' (first|refine gs ?_|(refine gp ?_ ?_<;>intro hx_ this)|fail)
 (all_goals (apply ab;apply ae;rfl;rfl));all_goals (simp only [inChr, *,Zt,Zr,Zf,Ze,Zh,Zg,Zk,Zj,Zn,Zl,Zs,Zm,Zq,Zi];done)
def badIdR (s:ByteArray) (k:Nat):Bool:=!inChr (byteAt s k) 48 57&&!inChr (byteAt s k) 97 102
theorem BO (s:ByteArray) (k:Nat):badId k (byteAt s k)=badIdR s k:=by
 simp only [badId,badIdR,dig,inChr]
 congr 1
 rw [Bool.not_and,←decide_not,←decide_not]
 congr 1<;>exact decide_eq_decide.2 aa
theorem DD (s:ByteArray):isId s=(allB s.size (badIdR s)&&decide ((s.size:Int)=16)):=by
 rw [isId,ov (fun q c h=>by simp only [badId,dig];simp;omega),Bool.and_comm]
 congr 2
 exact funext fun k=>BO s k
theorem fV (s:ByteArray) (hs:s.size≤maxLen):Pu prog 230 #[.string s] (fun _=>True) (.bool (isId s)):=by
 refine aw func230 ntmps230 fun av bor w0=>?_
 simp only [maxLen] at hs
 rw [DD]
 repeat' (first|refine gs ?_|fail)
 refine ao (ι:=X6 s.size (badIdR s)) (fun i=>⟨[(0,.string s),(3,.int .i64 (i.k:Nat))],[],fun w=>True⟩) (fun i=>s.size-i.k) (X6.zero _ _) (ai al (aj _) fun _ h=>h) fun i=>?_
 have hik:=i.hk
 have e1:((i.k:Nat):Int).toNat=i.k:=rfl
 have hc1:=je (byteAt s i.k) 48 57
 have hc2:=je (byteAt s i.k) 97 102
 repeat' (first|(refine ag (hc:=hc1) ?_)|(refine ag (hc:=hc2) ?_)|refine gs ?_|(refine gp ?_ ?_<;>intro hx_ this)|fail)
 all_goals first
  | (refine ab (ae rfl rfl) ?_;rw [cw (k:=i.k) aa (by simp only [badIdR, *,Zt,Zr,Zf,Ze,Zh,Zg,Zk,Zj,Zn,Zl,Zs,Zm,Zq,Zi]),Zj])
  | exact ⟨i.next aa (by simp only [badIdR, *,Zt,Zr,Zf,Ze,Zh,Zg,Zk,Zj,Zn,Zl,Zs,Zm,Zq,Zi]),(by show s.size-(i.k+1)<s.size-i.k;omega),ai al (aj _) fun _ h=>h⟩
  | (refine ab (ae rfl rfl) ?_;rw [i.all aa,Zg])
def badNameR (s:ByteArray) (k:Nat):Bool:=!inChr (byteAt s k) 97 122&&(decide ((k:Int)=0)||!inChr (byteAt s k) 48 57&&!decide (byteAt s k=95))
theorem xI (s:ByteArray):isName s=(allB s.size (badNameR s)&&(decide (1≤(s.size:Int))&&decide ((s.size:Int)≤24))):=by
 rw [isName,ov (fun q c h=>by simp only [badName,dig];simp;omega),df,Bool.and_comm]
 congr 1
 rw [←decide_not,←decide_not]
 congr 1<;>exact decide_eq_decide.2 aa
theorem iB (s:ByteArray) (hs:s.size≤maxLen):Pu prog 271 #[.string s] (fun _=>True) (.bool (isName s)):=by
 refine aw func271 ntmps271 fun av bor w0=>?_
 simp only [maxLen] at hs
 rw [xI]
 repeat' (first|refine gs ?_|fail)
 refine ao (ι:=X6 s.size (badNameR s)) (fun i=>⟨[(0,.string s),(3,.int .i64 (i.k:Nat))],[],fun w=>True⟩) (fun i=>s.size-i.k) (X6.zero _ _) (ai al (aj _) fun _ h=>h) fun i=>?_
 have hik:=i.hk
 have e1:((i.k:Nat):Int).toNat=i.k:=rfl
 have hc1:=je (byteAt s i.k) 97 122
 have hc2:=je (byteAt s i.k) 48 57
 by_cases hlt:i.k<s.size
 · repeat' (first|(refine ag (hc:=hc1) ?_)|(refine ag (hc:=hc2) ?_)|refine gs ?_|(refine gp ?_ ?_<;>intro hx_ this)|fail)
   all_goals simp only [ZZ] at *
   all_goals first
    | (exfalso;omega)
    | (refine ab (ae rfl rfl) ?_;rw [cw (k:=i.k) aa (by simp only [badNameR, *,Zt,Zr,Zf,Ze,Zh,Zg,Zk,Zj,Zn,Zl,Zs,Zm,Zq,Zi]),Zj])
    | exact ⟨i.next aa (by simp only [badNameR, *,Zt,Zr,Zf,Ze,Zh,Zg,Zk,Zj,Zn,Zl,Zs,Zm,Zq,Zi]),(by show s.size-(i.k+1)<s.size-i.k;omega),ai al (aj _) fun _ h=>h⟩
    | skip
 · rw [i.all hlt,Zg]
   repeat' (first|refine gs ?_|(refine gp ?_ ?_<;>intro hx_ this)|fail)
   all_goals first
    | (exfalso;omega)
    | (refine ab (ae rfl rfl) ?_;simp only [*,Zt,Zr,Zf,Ze,Zh,Zg,Zk,Zj,Zn,Zl,Zs,Zm,Zq,Zi];done)
structure Xa.Str (a:Xa):Prop where
 author:a.author.size≤maxLen
 target:a.target.size≤maxLen
 group:a.group.size≤maxLen
 text:a.text.size≤maxLen
 to:∀ x∈a.toL,x.size≤maxLen
def badIdsR (l:List ByteArray) (k:Nat):Bool:=!isId (l.getD k .empty)||decide (0<(k:Int))&&!Op.bytesLess (l.getD (k-1) .empty).toList (l.getD k .empty).toList
theorem CW (a b:ByteArray):(Op.bytesLess a.toList b.toList||seqB a b)=!Op.bytesLess b.toList a.toList:=by
 show (ltB a b||seqB a b)=!ltB b a
 cases h:ltB a b with
 | true=>rw [ig h];rfl
 | false =>
  cases k:ltB b a with
  | true =>
   have:a≠b:=fun e=>AX k e.symm
   rw [seqB_ne.2 this]
   rfl
  | false =>
   rw [oE h k,cG]
   rfl
theorem Ba (l:List ByteArray):isIds l=(allB l.length (badIdsR l)&&decide ((l.length:Int)≤64)):=by
 rw [isIds,Bool.and_comm]
 congr 1
 · refine congrArg (allB l.length) (funext fun k=>?_)
   rw [badIds,badIdsR,CW]
 · rw [←decide_not]
   exact decide_eq_decide.2 aa
theorem jZ (s:Xl) (l:List ByteArray) (hz:∀ x∈l,x.size≤maxLen):Pu prog 234 #[s.v] (fun w=>Strs w s l) (.bool (isIds l)):=by
 refine aw func234 ntmps234 fun av bor w0=>?_
 refine aR (p:=s.n=l.length∧s.n≤maxLen∧(0<l.length→s.p.isSome=true)) (fun w h=>⟨h.len_,ZY (Xf.cap h) (Xf.max h),h.some_⟩) fun ⟨hl,hm,hp⟩=>?_
 simp only [maxLen] at hm
 rw [Ba]
 repeat' (first|refine gs ?_|fail)
 refine ao (ι:=X6 l.length (badIdsR l)) (fun i=>⟨[(0,s.v),(3,.int .i64 (i.k:Nat))],[],fun w=>Strs w s l⟩) (fun i=>l.length-i.k) (X6.zero _ _) (ai al (aj _) fun _ h=>h) fun i=>?_
 have hik:=i.hk
 by_cases hlt:i.k<l.length
 · have hp':=hp aa
   have hid:=fV (l.getD i.k .empty) (hz _ (by rw [Zo,Zb hlt];exact ZQ hlt))
   repeat' (first|refine gs ?_|(refine gp ?_ ?_<;>intro hx_ this)|fail)
   · (refine aW ⟨[0,1,2,3],[(4,⟨[5,6,7,8,9,10,11,12,13,14,15,16,17,18,19,20,21],[]⟩)]⟩ (h:=?_))
     all_goals repeat' (first|(refine ag (hc:=hid) ?_)|refine gd ?_|refine ax (hy:=by first|(apply ay (q:=i.k);rfl;rfl;omega;omega;assumption;omega)|(apply ay (q:=i.k-1);rfl;rfl;omega;omega;assumption;omega)|(apply dl (q:=i.k);rfl;exact fun w h=>Strs.get h hlt)|(apply dl (q:=i.k-1);rfl;exact fun w h=>Strs.get h (by omega:i.k-1<l.length))|(apply sV;rfl;rfl)) ?_|refine aA ?_ (h':=?_)|exact aB|(refine gq ?_ ?_<;>intro hx_ this)|fail)
     all_goals
      repeat' (first|refine gs ?_|(refine gp ?_ ?_<;>intro hx_ this)|fail)
      all_goals first
       | (refine ab (ae rfl rfl) ?_;rw [cw hlt (by simp only [badIdsR, *,Zt,Zr,Zf,Ze,Zh,Zg,Zk,Zj,Zn,Zl,Zs,Zm,Zq,Zi]),Zj])
       | exact ⟨i.next hlt (by simp only [badIdsR, *,Zt,Zr,Zf,Ze,Zh,Zg,Zk,Zj,Zn,Zl,Zs,Zm,Zq,Zi]),(by show l.length-(i.k+1)<l.length-i.k;omega),ai al (aj _) fun _ h=>h⟩
   · exfalso;omega
 · rw [i.all hlt,Zg]
   repeat' (first|refine gs ?_|(refine gp ?_ ?_<;>intro hx_ this)|fail)
   all_goals first
    | (exfalso;omega)
    | (refine ab (ae rfl rfl) ?_;rw [hl];done)
theorem eY (n:Int):Pu prog 270 #[.int .i64 n] (fun _=>True) (.bool (isPublicB n)):=by
 refine aw func270 ntmps270 fun av bor w0=>?_
 have e:isPublicB n=(decide (1≤n)&&decide (n<2305843009213693951)):=by
  rw [isPublicB,withinB]
  congr 1
  exact decide_eq_decide.2 aa
 rw [e]
 clear e
 repeat' (first|refine gs ?_|(refine gp ?_ ?_<;>intro hx_ this)|fail)
 (all_goals (apply ab;apply ae;rfl;rfl));all_goals (simp only [Zd, *,Zt,Zr,Zf,Ze,Zh,Zg,Zk,Zj,Zn,Zl,Zs,Zm,Zq,Zi];done)
theorem kA (b:Xo):Pu prog 294 #[b.v] (fun _=>True) (.bool (isSealedB b)):=by
 refine aw func294 ntmps294 fun av bor w0=>?_
 repeat' (first|refine gs ?_|refine gs1 fun _=>?_|(refine gp ?_ ?_<;>intro hx_ this)|fail)
 (all_goals (apply ab;apply ae;rfl;rfl));all_goals (simp only [isSealedB,isShortB, *,Zt,Zr,Zf,Ze,Zh,Zg,Zk,Zj,Zn,Zl,Zs,Zm,Zq,Zi];done)
theorem kz (b:Xo):Pu prog 293 #[b.v] (fun _=>True) (.bool (boxEq b Xo.zero)):=by
 refine aw func293 ntmps293 fun av bor w0=>?_
 repeat' (first|refine gs ?_|refine gs1 fun _=>?_|(refine gp ?_ ?_<;>intro hx_ this)|fail)
 (all_goals (apply ab;apply ae;rfl;rfl));all_goals (simp only [boxEq,Xo.zero, *,Zt,Zr,Zf,Ze,Zh,Zg,Zk,Zj,Zn,Zl,Zs,Zm,Zq,Zi];done)
def groupR (a:Xa):Bool:=bif decide (a.scope=2) then isName a.group else seqB a.group ⟨#[]⟩
theorem ky (a:Xa) (hs:a.Str):Pu prog 274 #[a.v] (fun _=>True) (.bool (groupR a)):=by
 refine aw func274 ntmps274 fun av bor w0=>?_
 have hn:=iB a.group hs.group
 repeat' (first|(refine ag (hc:=hn) ?_)|refine gs ?_|refine gs1 fun _=>?_|(refine gp ?_ ?_<;>intro hx_ this)|fail)
 (all_goals (apply ab;apply ae;rfl;rfl));all_goals (simp only [groupR, *,Zt,Zr,Zf,Ze,Zh,Zg,Zk,Zj,Zn,Zl,Zs,Zm,Zq,Zi];done)
def zeroR (a:Xa):Bool:=seqB a.object ⟨#[]⟩&&seqB a.target ⟨#[]⟩&&decide (a.scope=0)&&seqB a.group ⟨#[]⟩&&decide ((a.to.n:Int)=0)&&seqB a.text ⟨#[]⟩&&boxEq a.body Xo.zero&&decide (a.epoch=0)&&decide ((a.wraps.n:Int)=0)&&decide (a.n=0)&&decide (a.m=0)
theorem bt (a:Xa):Pu prog 276 #[a.v] (fun _=>True) (.bool (zeroR a)):=by
 refine aw func276 ntmps276 fun av bor w0=>?_
 have hn:=kz a.body
 repeat' (first|(refine ag (hc:=hn) ?_)|refine gs ?_|refine gs1 fun _=>?_|(refine aC ?_)|(refine gp ?_ ?_<;>intro hx_ this)|fail)
 (all_goals (apply ab;apply ae;rfl;rfl));all_goals (simp only [zeroR, *,Zt,Zr,Zf,Ze,Zh,Zg,Zk,Zj,Zn,Zl,Zs,Zm,Zq,Zi];done)
end Go.Proofs.YtaolfiikahlmkaaGreatDoor
