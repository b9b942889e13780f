/- Joined. -/
import Derived.Test.YtaolfiikahlmkaaGreatDoorB8
set_option linter.unusedVariables false
set_option linter.unusedSimpArgs false
set_option maxHeartbeats 16000000
namespace Go.Proofs.YtaolfiikahlmkaaGreatDoor
open Go Go.Proofs Sy Tryz
theorem oY (s:Xk):Pu prog 70 #[s.v,.slice none 0 0] (fun _=>True) (.bool (decide ((s.n:Int)=0))):=by
 refine ax func70 ntmps70 fun av bor w0=>?_
 by_cases h0:s.n=0
 · rw [h0]
   repeat' (first|refine aT ?_ (eO false rfl rfl (by rw [h0];rfl))|refine gs ?_|fail)
   refine aq (ι:=Unit) (fun _=>⟨[(12,.int .i64 (s.n:Nat)),(13,.int .i64 0)],[],fun _=>True⟩) (fun _=>0) () (ai am (ak _) fun _ h=>h) fun _=>?_
   repeat' (first|refine aT ?_ (bZ false rfl rfl (by rw [h0];rfl))|refine gs ?_|fail)
   all_goals exact ab (ag rfl rfl) rfl
 · rw [Zd (by omega)]
   repeat' (first|refine aT ?_ (eO true rfl rfl (by simp;omega))|refine gs ?_|fail)
   all_goals exact ab (ag rfl rfl) rfl
theorem wM (s:Xk):Pu prog 258 #[s.v,.slice none 0 0] (fun _=>True) (.bool (decide ((s.n:Int)=0))):=by
 refine ax func258 ntmps258 fun av bor w0=>?_
 by_cases h0:s.n=0
 · rw [h0]
   repeat' (first|refine aT ?_ (eO false rfl rfl (by rw [h0];rfl))|refine gs ?_|fail)
   refine aq (ι:=Unit) (fun _=>⟨[(12,.int .i64 (s.n:Nat)),(13,.int .i64 0)],[],fun _=>True⟩) (fun _=>0) () (ai am (ak _) fun _ h=>h) fun _=>?_
   repeat' (first|refine aT ?_ (bZ false rfl rfl (by rw [h0];rfl))|refine gs ?_|fail)
   all_goals exact ab (ag rfl rfl) rfl
 · rw [Zd (by omega)]
   repeat' (first|refine aT ?_ (eO true rfl rfl (by simp;omega))|refine gs ?_|fail)
   all_goals exact ab (ag rfl rfl) rfl
section
variable {P:Program} {N:Nat} {av bor:List Nat} {w0:World} {ops:Array Oper} {rest:List Oper} {kk:St→Prop} {E:Env} {loc:List Xl} {X:World→Prop} {n:Nat} {ty t2:TypeId} {pos:String} {af:Array Edge} {g:Option (Nat×Bool)} {bb want:Bool} {x y:Operand}
theorem eY {a b:Xg} (h:Sw prog N av bor w0 ops rest ⟨(n,.bool (claimEq a b))::E,loc,X⟩ kk) (hx:ev E x=some (.agg a.cells.toArray):=by rfl) (hy:ev E y=some (.agg b.cells.toArray):=by rfl) (hg:gdB ops E g=some (bb,want):=by rfl) (hbb:bb=want:=by exact aw) (hd:Nat.blt n N=true:=by rfl) :
  Sw prog N av bor w0 ops (⟨some n,.binOp .eql 54 x y t2,ty,pos,af,g⟩::rest) ⟨E,loc,X⟩ kk:=al (pz hx hy) hg hbb hd h
theorem eH {a b:Xh} (h:Sw prog N av bor w0 ops rest ⟨(n,.bool (ballotEq a b))::E,loc,X⟩ kk) (hx:ev E x=some (.agg a.cells.toArray):=by rfl) (hy:ev E y=some (.agg b.cells.toArray):=by rfl) (hg:gdB ops E g=some (bb,want):=by rfl) (hbb:bb=want:=by exact aw) (hd:Nat.blt n N=true:=by rfl) :
  Sw prog N av bor w0 ops (⟨some n,.binOp .eql 56 x y t2,ty,pos,af,g⟩::rest) ⟨E,loc,X⟩ kk:=al (mS hx hy) hg hbb hd h
theorem BS {st:St} {a b c e:Int} (hx:ev st.env x=some (.agg #[.int .i64 a,.int .i64 b])) (hy:ev st.env y=some (.agg #[.int .i64 c,.int .i64 e])) :
  Sy.Yields prog N av bor w0 st (.binOp .eql 44 x y t2) ty (.bool (decide (a=c)&&(decide (b=e)&&true))):=Sy.Yields.mk fun A w ok d pos af g=>by
 have h1:=run_eql_struct (P:=prog) w 44 #[.int .i64 a,.int .i64 b] #[.int .i64 c,.int .i64 e]
 rw [show (10000:Nat)=9998+2 from rfl,oZ] at h1
 have hgu:prog.eqGuardType prog.depth 44=false:=by kernel_rfl
 simp [execOp,ok.eval (st:=st) hx,ok.eval (st:=st) hy,run_eqGuard_agg _ _ _ _ _ _ _ hgu,h1]
theorem kP {a b c e:Int} (h:Sw prog N av bor w0 ops rest ⟨(n,.bool (decide (a=c)&&(decide (b=e)&&true)))::E,loc,X⟩ kk) (hx:ev E x=some (.agg #[.int .i64 a,.int .i64 b]):=by rfl) (hy:ev E y=some (.agg #[.int .i64 c,.int .i64 e]):=by rfl) (hg:gdB ops E g=some (bb,want):=by rfl) (hbb:bb=want:=by exact aw) (hd:Nat.blt n N=true:=by rfl) :
  Sw prog N av bor w0 ops (⟨some n,.binOp .eql 44 x y t2,ty,pos,af,g⟩::rest) ⟨E,loc,X⟩ kk:=al (BS hx hy) hg hbb hd h
end
def actZ (a:Xa):Bool:=seqB a.author ⟨#[]⟩&&(decide (a.seq=0)&&(seqB a.prev ⟨#[]⟩&&(decide (a.kind=0)&&(decide (a.time=0)&&(seqB a.object ⟨#[]⟩&&(seqB a.target ⟨#[]⟩&&(decide (a.scope=0)&&(seqB a.group ⟨#[]⟩&&(decide ((a.to.n:Int)=0)&&(seqB a.text ⟨#[]⟩&&(boxEq a.body Xo.zero&&(decide (a.epoch=0)&&(decide ((a.wraps.n:Int)=0)&&(decide (a.n=0)&&(decide (a.m=0)&&(decide (a.e=0)&&(decide (a.s=0)&&true)))))))))))))))))
set_option maxRecDepth 20000 in
theorem vq (a:Xa):Pu prog 200 #[a.v,Xa.zero.v] (fun _=>True) (.bool (actZ a)):=by
 refine ax func200 ntmps200 fun av bor w0=>?_
 repeat' (first|refine ae (hc:=oY a.to) ?_|refine ae (hc:=wM a.wraps) ?_|refine gs ?_|refine gs1 fun _=>?_|(refine jI (a:=a.body) (b:=Xo.zero) ?_)|(refine kP (a:=a.e) (b:=a.s) (c:=0) (e:=0) ?_)|(refine aE ?_)|(refine gp ?_ ?_<;>intro hx_ this)|fail)
 all_goals refine ab (ag rfl rfl) ?_
 all_goals rw [actZ]
 all_goals simp_all [Xa.zero]
def decZ (d:Xt):Bool:=decide (d.server=0)&&(decide (d.number=0)&&(decide (d.kind=0)&&(seqB d.actor ⟨#[]⟩&&(seqB d.object ⟨#[]⟩&&(seqB d.text ⟨#[]⟩&&(decide ((d.to.n:Int)=0)&&(decide (d.n=0)&&(decide (d.from_=0)&&(decide (d.until_=0)&&(decide (d.e=0)&&(decide (d.s=0)&&true)))))))))))
set_option maxRecDepth 20000 in
theorem ve (d:Xt):Pu prog 201 #[d.v,Xt.zero.v] (fun _=>True) (.bool (decZ d)):=by
 refine ax func201 ntmps201 fun av bor w0=>?_
 repeat' (first|refine ae (hc:=oY d.to) ?_|refine gs ?_|refine gs1 fun _=>?_|(refine kP (a:=d.e) (b:=d.s) (c:=0) (e:=0) ?_)|(refine aE (vs:=[.int .i64 d.e,.int .i64 d.s]) (hv:=rfl) ?_)|(refine aE (vs:=[.int .i64 0,.int .i64 0]) (hv:=rfl) ?_)|(refine gp ?_ ?_<;>intro hx_ this)|fail)
 all_goals refine ab (ag rfl rfl) ?_
 all_goals rw [decZ]
 all_goals simp_all [Xt.zero]
def sameIZ (i:Xc):Bool:=decide (i.kind=0)&&(actZ i.act&&(claimEq i.claim Xg.zero&&(ballotEq i.ballot Xh.zero&&decZ i.dec)))
set_option maxRecDepth 20000 in
theorem fD (i:Xc):Pu prog 125 #[i.v,Xc.zero.v] (fun _=>True) (.bool (sameIZ i)):=by
 refine ax func125 ntmps125 fun av bor w0=>?_
 repeat' (first|refine ae (hc:=vq i.act) ?_|refine ae (hc:=ve i.dec) ?_|refine gs ?_|refine gs1 fun _=>?_|(refine eY (a:=i.claim) (b:=Xg.zero) ?_)|(refine eH (a:=i.ballot) (b:=Xh.zero) ?_)|(refine aE (vs:=i.act.cells) (hv:=rfl) ?_)|(refine aE (vs:=i.claim.cells) (hv:=rfl) ?_)|(refine aE (vs:=i.ballot.cells) (hv:=rfl) ?_)|(refine aE (vs:=i.dec.cells) (hv:=rfl) ?_)|(refine aE (vs:=Xa.zero.cells) (hv:=rfl) ?_)|(refine aE (vs:=Xg.zero.cells) (hv:=rfl) ?_)|(refine aE (vs:=Xh.zero.cells) (hv:=rfl) ?_)|(refine aE (vs:=Xt.zero.cells) (hv:=rfl) ?_)|(refine gp ?_ ?_<;>intro hx_ this)|fail)
 all_goals refine ab (ag rfl rfl) ?_
 all_goals rw [sameIZ]
 all_goals simp_all [Xc.zero,ofActI]
def textsV (l:List ByteArray):ByteArray:=cats (l.map textV)
structure TxtS (n:Nat) where
 k:Nat
 hk:k≤n
 A:Option Addr
 c:Nat
theorem ff (b:Nat) (A:Option Addr) (c:Nat) (s:ByteArray) (sl:Xk) (l:List ByteArray) (hs:s.size+(textsV l).size≤1099511627776) :
  Ct prog 248 #[.pointer (some ⟨b,0,none⟩),sl.v] (bld b A c s) (fun w=>Strs w sl l) fun u R _=>∃ A' c',u=.tuple #[]∧R=bld b A' c' (s++textsV l):=by
 refine cP func248 ntmps248 fun av bor w0=>?_
 refine aQ (p:=sl.n=l.length∧sl.n≤maxLen∧(0<l.length→sl.p.isSome=true)) (fun w h=>⟨h.len_,ZW (Xf.cap h) (Xf.max h),h.some_⟩) fun ⟨hn,hm,hp⟩=>?_
 simp only [maxLen] at hm
 repeat' (first|refine gs ?_|fail)
 have hle:=fd (l.map textV)
 have e0:s++cats ((l.map textV).take 0)=s:=by simp [cats]
 have hs':s.size+(cats (l.map textV)).size≤1099511627776:=hs
 refine aq (ι:=TxtS l.length) (fun i=>⟨[(0,.pointer (some ⟨b,0,none⟩)),(6,sl.v),(7,.int .i64 sl.n),(8,.int .i64 i.k)],bld b i.A i.c (s++cats ((l.map textV).take i.k)),fun w=>Strs w sl l⟩) (fun i=>l.length-i.k) ⟨0,Z2 _,A,c⟩ (ai am (by rw [e0];exact ak _) fun _ h=>h) fun i=>?_
 have hik:=i.hk
 have hout:(s++cats ((l.map textV).take i.k)).size≤1099511627776:=by rw [Zb];have:=hle i.k;omega
 have hout2:(s++cats ((l.map textV).take (i.k+1))).size≤1099511627776:=by rw [Zb];have:=hle (i.k+1);omega
 generalize ho:s++cats ((l.map textV).take i.k)=out at *
 unfold bld
 repeat' (first|refine gs ?_|(refine gp ?_ ?_<;>intro hx_ this)|fail)
 · have hlt:i.k<l.length:=by omega
   have hp':=hp aa
   obtain ⟨x,hx⟩:∃ x,l[i.k]?=some x:=⟨_,Zc hlt⟩
   have hsucc:=fM (l.map textV) (k:=i.k) (by simpa using hlt)
   have hget:(l.map textV).getD i.k .empty=textV x:=by simp [hx]
   rw [hget] at hsucc
   have e2:s++cats ((l.map textV).take (i.k+1))=out++textV x:=by rw [hsucc,←Zx,ho]
   have hxs:out.size+(textV x).size≤1099511627776:=by rw [e2,Zb] at hout2;exact hout2
   have hxx:x.size≤1099511627776:=by rw [textV,Zb] at hxs;omega
   repeat' (first|refine gs ?_|(refine aD (q:=i.k) ?_)|(refine cB (u:=.string x) (hF:=fun w h=>h.at_ hx) ?_)|fail)
   (refine ap ⟨[0,1,2,3,5],[(4,⟨[],[(6,⟨[],[(7,⟨[8,9],[(10,⟨[],[]⟩)]⟩)]⟩)]⟩),(6,⟨[],[(4,⟨[],[(7,⟨[8,9],[(10,⟨[],[]⟩)]⟩)]⟩)]⟩)]⟩ [] (fun _=>True) (h:=?_))
   all_goals repeat' (first|refine ae (hc:=fy _ aa) ?_|refine gd ?_|refine az ?_ (h':=?_)|exact aA|(refine jv ?_;refine aL (size:=1) (z:=.int .u8 0) rfl rfl rfl rfl (fun _=>At.there _ (At.here _)) (fun w G=>iS aa) aa (by simp only [maxLen];omega) rfl ?_ rfl ?_;(with_reducible rfl);intro A1 c1)|fail)
   all_goals (repeat' (first|refine gs ?_|fail))
   all_goals exact ⟨(⟨i.k+1,hlt,A1,c1⟩:TxtS l.length),(by show l.length-(i.k+1)<l.length-i.k;omega),ai am (by
    show List.Sublist (bld b A1 c1 (s++cats ((l.map textV).take (i.k+1)))) _
    rw [e2]
    simp only [bld,Zb,dF,cd]
    exact ak _) fun _ h=>h⟩
 · have hk:i.k=l.length:=by omega
   refine aR (aH rfl) ⟨i.A,i.c,rfl,?_⟩
   rw [textsV,←ho,hk,Qd (by simp)]
theorem lA {P:Program} {f:FuncId} {fn:Func} {c:Code} {args:List Value} {pre:List Xl} {X:World→Prop} {Post:Value→List Xl→(World→Prop)→Prop} (N:Nat)
  (hf:P.funcs[f]?=some fn) (hb:fn.body=some c) (hN:fn.ntmps=N) (hn:Nat.ble args.length N=true)
  (h:∀ av bor w0,Cw P N av bor w0 c ⟨params 0 args,pre,X⟩ (ends P fn N fun u R X'=>∃ R',R'.Sublist R∧Post u R' X')):Ct P f args.toArray pre X Post:=Ct.mk fun w av G=>by
 have h1:=(iD (P:=P) (Post:=fun u R X'=>∃ R',R'.Sublist R∧Post u R' X') N hf hb hN hn h).run w av G
 refine h1.mono fun e w' ⟨u,R,X',he,⟨R',hs,hp⟩,G'⟩=>⟨u,R',X',he,hp,G'.drop hs⟩
def coreCl (c:Xg):ByteArray:=textsV [c.actor]++numsV [c.base]++textsV [c.prev]++numsV [c.gen,c.home,c.pub,c.time]
def coreBa (b:Xh):ByteArray:=numsV [b.server]++textsV [b.actor]++numsV [b.gen]++textsV [b.claim]++numsV [b.time]
def coreDe (d:Xt):ByteArray:=numsV [d.server,d.number,d.kind]++textsV [d.actor,d.object,d.text]++listV d.toL++numsV [d.n,d.from_,d.until_]
structure Xg.Lt (c:Xg):Prop where
 base:c.base<9223372036854775808
 gen:c.gen<9223372036854775808
 home:c.home<9223372036854775808
 pub:c.pub<9223372036854775808
 time:c.time<9223372036854775808
 e:c.e<9223372036854775808
 s:c.s<9223372036854775808
structure Xh.Lt (c:Xh):Prop where
 server:c.server<9223372036854775808
 gen:c.gen<9223372036854775808
 time:c.time<9223372036854775808
 e:c.e<9223372036854775808
 s:c.s<9223372036854775808
structure Xt.Lt (c:Xt):Prop where
 server:c.server<9223372036854775808
 number:c.number<9223372036854775808
 kind:c.kind<9223372036854775808
 n:c.n<9223372036854775808
 from_:c.from_<9223372036854775808
 until_:c.until_<9223372036854775808
 e:c.e<9223372036854775808
 s:c.s<9223372036854775808
theorem qQ (b:Nat) (A:Option Addr) (c:Nat) (s:ByteArray) (it:Xc) (hl:it.claim.Lt) (hs:s.size+(coreCl it.claim).size≤1099511627776) :
  Ct prog 174 #[.pointer (some ⟨b,0,none⟩),it.v] (bld b A c s) (fun _=>True) fun u R _=>∃ A' c',u=.tuple #[]∧R=bld b A' c' (s++coreCl it.claim):=by
 refine lA (args:=[_,_]) _ func174 rfl ntmps174 rfl fun av bor w0=>?_
 rw [coreCl] at hs ⊢
 simp only [Zb] at hs
 obtain ⟨p0,hp0⟩:∃ p,textsV [it.claim.actor]=p:=⟨_,rfl⟩
 obtain ⟨p1,hp1⟩:∃ p,numsV [it.claim.base]=p:=⟨_,rfl⟩
 obtain ⟨p2,hp2⟩:∃ p,textsV [it.claim.prev]=p:=⟨_,rfl⟩
 obtain ⟨p3,hp3⟩:∃ p,numsV [it.claim.gen,it.claim.home,it.claim.pub,it.claim.time]=p:=⟨_,rfl⟩
 rw [hp0,hp1,hp2,hp3] at hs ⊢
 rw [←Zx,←Zx,←Zx]
 repeat' (first|refine gs ?_|refine gs1 fun _=>?_|(refine aE (vs:=it.claim.cells) (hv:=rfl) ?_)|fail)
 rename_i b3 b4 bs
 refine bJ ?_
 refine cM (l:=bld b A c s++[cel b4 54 it.claim.cells,cel b3 60 it.cells]) (by show List.Perm [_,_,_,_] [_,_,_,_];exact (QP (l₁:=[_,_]) (l₂:=[_,_]))) ?_
 refine bO (pre:=bld b A c (s)) (fr:=[cel b4 54 it.claim.cells,cel b3 60 it.cells]) (hc:=ff b A c (s) ⟨some ⟨bs,0,none⟩,1,1⟩ [it.claim.actor] (by rw [hp0];(try simp only [Zb]);omega)) (hX:=fun w h=>aU (xs:=[[encB it.claim.actor]]) h.2 rfl (by decide) (by simp)) (h:=?_)
 rintro v R X' ⟨A1,c1,rfl,rfl⟩
 refine cI (X':=(fun _=>True)) (fun w h=>trivial) ?_
 rw [hp0]
 unfold bld
 repeat' (first|refine gs ?_|refine gs1 fun _=>?_|fail)
 rename_i bs
 refine bJ ?_
 refine bO (pre:=bld b A1 c1 (s++p0)) (fr:=[cel b4 54 it.claim.cells,cel b3 60 it.cells]) (hc:=eu b A1 c1 (s++p0) ⟨some ⟨bs,0,none⟩,1,1⟩ [it.claim.base] (by simp;exact hl.base) (by rw [hp1];(try simp only [Zb]);omega)) (hX:=fun w h=>aU (xs:=[[.int .i64 it.claim.base]]) h.2 rfl (by decide) (by simp)) (h:=?_)
 rintro v R X' ⟨A2,c2,rfl,rfl⟩
 refine cI (X':=(fun _=>True)) (fun w h=>trivial) ?_
 rw [hp1]
 unfold bld
 repeat' (first|refine gs ?_|refine gs1 fun _=>?_|fail)
 rename_i bs
 refine bJ ?_
 refine bO (pre:=bld b A2 c2 (s++p0++p1)) (fr:=[cel b4 54 it.claim.cells,cel b3 60 it.cells]) (hc:=ff b A2 c2 (s++p0++p1) ⟨some ⟨bs,0,none⟩,1,1⟩ [it.claim.prev] (by rw [hp2];(try simp only [Zb]);omega)) (hX:=fun w h=>aU (xs:=[[encB it.claim.prev]]) h.2 rfl (by decide) (by simp)) (h:=?_)
 rintro v R X' ⟨A3,c3,rfl,rfl⟩
 refine cI (X':=(fun _=>True)) (fun w h=>trivial) ?_
 rw [hp2]
 unfold bld
 repeat' (first|refine gs ?_|refine gs1 fun _=>?_|fail)
 rename_i bs
 refine bJ ?_
 refine bO (pre:=bld b A3 c3 (s++p0++p1++p2)) (fr:=[cel b4 54 it.claim.cells,cel b3 60 it.cells]) (hc:=eu b A3 c3 (s++p0++p1++p2) ⟨some ⟨bs,0,none⟩,4,4⟩ [it.claim.gen,it.claim.home,it.claim.pub,it.claim.time] (by simp;exact ⟨hl.gen,hl.home,hl.pub,hl.time⟩) (by rw [hp3];(try simp only [Zb]);omega)) (hX:=fun w h=>aU (xs:=[[.int .i64 it.claim.gen],[.int .i64 it.claim.home],[.int .i64 it.claim.pub],[.int .i64 it.claim.time]]) h.2 rfl (by decide) (by simp)) (h:=?_)
 rintro v R X' ⟨A4,c4,rfl,rfl⟩
 refine cI (X':=(fun _=>True)) (fun w h=>trivial) ?_
 rw [hp3]
 repeat' (first|refine gs ?_|fail)
 all_goals exact aR (aH rfl) ⟨_,QC _ _,A4,c4,rfl,rfl⟩
theorem pq (b:Nat) (A:Option Addr) (c:Nat) (s:ByteArray) (it:Xc) (hl:it.ballot.Lt) (hs:s.size+(coreBa it.ballot).size≤1099511627776) :
  Ct prog 175 #[.pointer (some ⟨b,0,none⟩),it.v] (bld b A c s) (fun _=>True) fun u R _=>∃ A' c',u=.tuple #[]∧R=bld b A' c' (s++coreBa it.ballot):=by
 refine lA (args:=[_,_]) _ func175 rfl ntmps175 rfl fun av bor w0=>?_
 rw [coreBa] at hs ⊢
 simp only [Zb] at hs
 obtain ⟨p0,hp0⟩:∃ p,numsV [it.ballot.server]=p:=⟨_,rfl⟩
 obtain ⟨p1,hp1⟩:∃ p,textsV [it.ballot.actor]=p:=⟨_,rfl⟩
 obtain ⟨p2,hp2⟩:∃ p,numsV [it.ballot.gen]=p:=⟨_,rfl⟩
 obtain ⟨p3,hp3⟩:∃ p,textsV [it.ballot.claim]=p:=⟨_,rfl⟩
 obtain ⟨p4,hp4⟩:∃ p,numsV [it.ballot.time]=p:=⟨_,rfl⟩
 rw [hp0,hp1,hp2,hp3,hp4] at hs ⊢
 rw [←Zx,←Zx,←Zx,←Zx]
 repeat' (first|refine gs ?_|refine gs1 fun _=>?_|(refine aE (vs:=it.ballot.cells) (hv:=rfl) ?_)|fail)
 rename_i b3 b4 bs
 refine bJ ?_
 refine cM (l:=bld b A c s++[cel b4 56 it.ballot.cells,cel b3 60 it.cells]) (by show List.Perm [_,_,_,_] [_,_,_,_];exact (QP (l₁:=[_,_]) (l₂:=[_,_]))) ?_
 refine bO (pre:=bld b A c (s)) (fr:=[cel b4 56 it.ballot.cells,cel b3 60 it.cells]) (hc:=eu b A c (s) ⟨some ⟨bs,0,none⟩,1,1⟩ [it.ballot.server] (by simp;exact hl.server) (by rw [hp0];(try simp only [Zb]);omega)) (hX:=fun w h=>aU (xs:=[[.int .i64 it.ballot.server]]) h.2 rfl (by decide) (by simp)) (h:=?_)
 rintro v R X' ⟨A1,c1,rfl,rfl⟩
 refine cI (X':=(fun _=>True)) (fun w h=>trivial) ?_
 rw [hp0]
 unfold bld
 repeat' (first|refine gs ?_|refine gs1 fun _=>?_|fail)
 rename_i bs
 refine bJ ?_
 refine bO (pre:=bld b A1 c1 (s++p0)) (fr:=[cel b4 56 it.ballot.cells,cel b3 60 it.cells]) (hc:=ff b A1 c1 (s++p0) ⟨some ⟨bs,0,none⟩,1,1⟩ [it.ballot.actor] (by rw [hp1];(try simp only [Zb]);omega)) (hX:=fun w h=>aU (xs:=[[encB it.ballot.actor]]) h.2 rfl (by decide) (by simp)) (h:=?_)
 rintro v R X' ⟨A2,c2,rfl,rfl⟩
 refine cI (X':=(fun _=>True)) (fun w h=>trivial) ?_
 rw [hp1]
 unfold bld
 repeat' (first|refine gs ?_|refine gs1 fun _=>?_|fail)
 rename_i bs
 refine bJ ?_
 refine bO (pre:=bld b A2 c2 (s++p0++p1)) (fr:=[cel b4 56 it.ballot.cells,cel b3 60 it.cells]) (hc:=eu b A2 c2 (s++p0++p1) ⟨some ⟨bs,0,none⟩,1,1⟩ [it.ballot.gen] (by simp;exact hl.gen) (by rw [hp2];(try simp only [Zb]);omega)) (hX:=fun w h=>aU (xs:=[[.int .i64 it.ballot.gen]]) h.2 rfl (by decide) (by simp)) (h:=?_)
 rintro v R X' ⟨A3,c3,rfl,rfl⟩
 refine cI (X':=(fun _=>True)) (fun w h=>trivial) ?_
 rw [hp2]
 unfold bld
 repeat' (first|refine gs ?_|refine gs1 fun _=>?_|fail)
 rename_i bs
 refine bJ ?_
 refine bO (pre:=bld b A3 c3 (s++p0++p1++p2)) (fr:=[cel b4 56 it.ballot.cells,cel b3 60 it.cells]) (hc:=ff b A3 c3 (s++p0++p1++p2) ⟨some ⟨bs,0,none⟩,1,1⟩ [it.ballot.claim] (by rw [hp3];(try simp only [Zb]);omega)) (hX:=fun w h=>aU (xs:=[[encB it.ballot.claim]]) h.2 rfl (by decide) (by simp)) (h:=?_)
 rintro v R X' ⟨A4,c4,rfl,rfl⟩
 refine cI (X':=(fun _=>True)) (fun w h=>trivial) ?_
 rw [hp3]
 unfold bld
 repeat' (first|refine gs ?_|refine gs1 fun _=>?_|fail)
 rename_i bs
 refine bJ ?_
 refine bO (pre:=bld b A4 c4 (s++p0++p1++p2++p3)) (fr:=[cel b4 56 it.ballot.cells,cel b3 60 it.cells]) (hc:=eu b A4 c4 (s++p0++p1++p2++p3) ⟨some ⟨bs,0,none⟩,1,1⟩ [it.ballot.time] (by simp;exact hl.time) (by rw [hp4];(try simp only [Zb]);omega)) (hX:=fun w h=>aU (xs:=[[.int .i64 it.ballot.time]]) h.2 rfl (by decide) (by simp)) (h:=?_)
 rintro v R X' ⟨A5,c5,rfl,rfl⟩
 refine cI (X':=(fun _=>True)) (fun w h=>trivial) ?_
 rw [hp4]
 repeat' (first|refine gs ?_|fail)
 all_goals exact aR (aH rfl) ⟨_,QC _ _,A5,c5,rfl,rfl⟩
theorem kq (b:Nat) (A:Option Addr) (c:Nat) (s:ByteArray) (it:Xc) (hl:it.dec.Lt) (hs:s.size+(coreDe it.dec).size≤1099511627776) :
  Ct prog 176 #[.pointer (some ⟨b,0,none⟩),it.v] (bld b A c s) (fun w=>it.at_ w) fun u R _=>∃ A' c',u=.tuple #[]∧R=bld b A' c' (s++coreDe it.dec):=by
 refine lA (args:=[_,_]) _ func176 rfl ntmps176 rfl fun av bor w0=>?_
 rw [coreDe] at hs ⊢
 simp only [Zb] at hs
 obtain ⟨p0,hp0⟩:∃ p,numsV [it.dec.server,it.dec.number,it.dec.kind]=p:=⟨_,rfl⟩
 obtain ⟨p1,hp1⟩:∃ p,textsV [it.dec.actor,it.dec.object,it.dec.text]=p:=⟨_,rfl⟩
 obtain ⟨p2,hp2⟩:∃ p,listV it.dec.toL=p:=⟨_,rfl⟩
 obtain ⟨p3,hp3⟩:∃ p,numsV [it.dec.n,it.dec.from_,it.dec.until_]=p:=⟨_,rfl⟩
 rw [hp0,hp1,hp2,hp3] at hs ⊢
 rw [←Zx,←Zx,←Zx]
 repeat' (first|refine gs ?_|refine gs1 fun _=>?_|(refine aE (vs:=it.dec.cells) (hv:=rfl) ?_)|fail)
 rename_i b3 b4 bs
 refine bJ ?_
 refine cM (l:=bld b A c s++[cel b4 58 it.dec.cells,cel b3 60 it.cells]) (by show List.Perm [_,_,_,_] [_,_,_,_];exact (QP (l₁:=[_,_]) (l₂:=[_,_]))) ?_
 refine bO (pre:=bld b A c (s)) (fr:=[cel b4 58 it.dec.cells,cel b3 60 it.cells]) (hc:=eu b A c (s) ⟨some ⟨bs,0,none⟩,3,3⟩ [it.dec.server,it.dec.number,it.dec.kind] (by simp;exact ⟨hl.server,hl.number,hl.kind⟩) (by rw [hp0];(try simp only [Zb]);omega)) (hX:=fun w h=>aU (xs:=[[.int .i64 it.dec.server],[.int .i64 it.dec.number],[.int .i64 it.dec.kind]]) h.2 rfl (by decide) (by simp)) (h:=?_)
 rintro v R X' ⟨A1,c1,rfl,rfl⟩
 refine cI (X':=(fun w=>it.at_ w)) (fun w h=>h.1.1) ?_
 rw [hp0]
 unfold bld
 repeat' (first|refine gs ?_|refine gs1 fun _=>?_|fail)
 rename_i bs
 refine bJ ?_
 refine bO (pre:=bld b A1 c1 (s++p0)) (fr:=[cel b4 58 it.dec.cells,cel b3 60 it.cells]) (hc:=ff b A1 c1 (s++p0) ⟨some ⟨bs,0,none⟩,3,3⟩ [it.dec.actor,it.dec.object,it.dec.text] (by rw [hp1];(try simp only [Zb]);omega)) (hX:=fun w h=>aU (xs:=[[encB it.dec.actor],[encB it.dec.object],[encB it.dec.text]]) h.2 rfl (by decide) (by simp)) (h:=?_)
 rintro v R X' ⟨A2,c2,rfl,rfl⟩
 refine cI (X':=(fun w=>it.at_ w)) (fun w h=>h.1.1) ?_
 rw [hp1]
 have hli:=yx it.dec.to it.dec.toL (by rw [hp2];omega)
 rw [hp2] at hli
 unfold bld
 have hsz:(s++p0++p1).size+p2.size≤1099511627776:=by simp only [Zb];omega
 generalize hgo:s++p0++p1=out at *
 have hos:out.size=s.size+p0.size+p1.size:=by rw [←hgo];simp only [Zb]
 repeat' (first|refine gs ?_|fail)
 simp only [ZJ,ZK]
 (refine ap ⟨[0,1,2,3,5,6],[(4,⟨[],[(7,⟨[],[(8,⟨[9,10],[(11,⟨[],[]⟩)]⟩)]⟩)]⟩),(7,⟨[],[(4,⟨[],[(8,⟨[9,10],[(11,⟨[],[]⟩)]⟩)]⟩)]⟩)]⟩ [cel b4 58 it.dec.cells] (fun w=>it.at_ w) (h:=?_))
 all_goals repeat' (first|(refine ae (hc:=hli) ?_)|refine gd ?_|refine az ?_ (h':=?_)|exact aA|(refine jv ?_;refine aL (size:=1) (z:=.int .u8 0) rfl rfl rfl rfl (fun _=>At.there _ (At.here _)) (fun w G=>iS aa) aa (by simp only [maxLen];omega) rfl ?_ rfl ?_;(with_reducible rfl);intro A3 c3)|fail)
 all_goals
  have eb:bld b A3 c3 (out++p2)=[cel b 160 ([(.slice A2 out.size c2:Value)].set 0 (.slice A3 (out.size+p2.size) c3)),orow 5 1 (.slice A3 (out.size+p2.size) c3) (out.size+p2.size) (u8s (bytesI out)++u8s (bytesI p2))]:=by simp [bld,Zb,dF,cd]
  repeat' (first|refine gs ?_|refine gs1 fun _=>?_|fail)
  rename_i bs
  refine bJ ?_
  refine cM (l:=bld b A3 c3 (out++p2)++[cel b4 58 it.dec.cells,cel b3 60 it.cells]) (by rw [eb];exact Ql _) ?_
  refine bO (pre:=bld b A3 c3 (out++p2)) (fr:=[cel b4 58 it.dec.cells,cel b3 60 it.cells]) (hc:=eu b A3 c3 (out++p2) ⟨some ⟨bs,0,none⟩,3,3⟩ [it.dec.n,it.dec.from_,it.dec.until_] (by simp;exact ⟨hl.n,hl.from_,hl.until_⟩) (by rw [hp3];(try simp only [Zb]);omega)) (hX:=fun w h=>aU (xs:=[[.int .i64 it.dec.n],[.int .i64 it.dec.from_],[.int .i64 it.dec.until_]]) h.2 rfl (by decide) (by simp)) (h:=?_)
  rintro v R X' ⟨A4,c4,rfl,rfl⟩
  refine cI (X':=(fun w=>it.at_ w)) (fun w h=>h.1.1) ?_
  rw [hp3]
  repeat' (first|refine gs ?_|fail)
  all_goals exact aR (aH rfl) ⟨_,QC _ _,A4,c4,rfl,rfl⟩
def ordV (n:Int):Bool:=decide (0≤n)&&decide (n<2305843009213693950)
theorem oJ (n:Int):Pu prog 187 #[.int .i64 n] (fun _=>True) (.bool (ordV n)):=by
 refine ax func187 ntmps187 fun av bor w0=>?_
 repeat' (first|refine gs ?_|(refine gp ?_ ?_<;>intro hx_ this)|fail)
 (all_goals (apply ab;apply ag;rfl;rfl));all_goals (simp only [ordV, *,Za,Zg,Zf];done)
def verN (p:Int) (msg:ByteArray) (e s:Int):Bool :=
 bif decide (p<1)||decide (2305843009213693951≤p)||!ordV e||!ordV s then false
 else decide (e=(chalN (expV 37 s.toNat * expV p.toNat (2305843009213693950-e.toNat)%2305843009213693951) p.toNat msg:Nat))
theorem iK (p:Int) (msg:ByteArray) (e s:Int) (hm:msg.size≤1000000000000):Pu prog 114 #[.int .i64 p,.string msg,(Eo.v ⟨e,s⟩)] Xe (.bool (verN p msg e s)):=by
 refine ax func114 ntmps114 fun av bor w0=>?_
 have hoe:=oJ e
 have hos:=oJ s
 cases hbad:(decide (p<1)||decide (2305843009213693951≤p)||!ordV e||!ordV s) with
 | true =>
  rw [show verN p msg e s=false from by rw [verN,hbad];rfl]
  repeat' (first|(refine ae (hc:=hoe) ?_)|(refine ae (hc:=hos) ?_)|refine gs ?_|refine gs1 fun _=>?_|(refine gp ?_ ?_<;>intro hx_ this)|fail)
  all_goals first
   | (apply ab;apply ag;rfl;rfl;rfl)
   | (exfalso;simp_all;done)
 | false =>
  have hb:=hbad
  simp only [Qj,Qb,Bool.not_eq_false'] at hb
  obtain ⟨⟨⟨h1,h2⟩,h3⟩,h4⟩:=hb
  have h3':=h3
  have h4':=h4
  simp only [ordV,Zq,Zv] at h3' h4'
  rw [h3] at hoe
  rw [h4] at hos
  obtain ⟨pn,rfl⟩:∃ n:Nat,p=(n:Int):=⟨p.toNat,by omega⟩
  obtain ⟨en,rfl⟩:∃ n:Nat,e=(n:Int):=⟨e.toNat,by omega⟩
  obtain ⟨sn,rfl⟩:∃ n:Nat,s=(n:Int):=⟨s.toNat,by omega⟩
  obtain ⟨d,hd⟩:∃ d,2305843009213693950-en=d:=⟨_,rfl⟩
  have hsub:IntKind.i64.wrap ((2305843009213693950:Int)-(en:Int))=(d:Int):=by
   rw [show (2305843009213693950:Int)-(en:Int)=(d:Int) from by omega]
   exact IntWalk.i64_in _ aa
  have he1:=r5 37 sn aa
  have he2:=r5 pn d aa
  obtain ⟨x1,hx1⟩:∃ x,expV 37 sn=x:=⟨_,rfl⟩
  obtain ⟨x2,hx2⟩:∃ x,expV pn d=x:=⟨_,rfl⟩
  rw [hx1] at he1
  rw [hx2] at he2
  have hmu:=xl x1 x2
  obtain ⟨r,hr⟩:∃ r,x1*x2%2305843009213693951=r:=⟨_,rfl⟩
  have hrl:r<2305843009213693951:=by rw [←hr];exact Qa _ (by decide)
  rw [hr] at hmu
  have hch:=yS r pn msg aa aa hm
  have hV:verN (pn:Int) msg (en:Int) (sn:Int)=decide (((en:Nat):Int)=(chalN r pn msg:Nat)):=by
   rw [verN,hbad,Zf,ZX,ZX,ZX,hd,hx1,hx2,hr]
  rw [hV]
  have hbg:¬ (2305843009213693951:Int)≤(pn:Int):=h2
  have hbl:¬ (pn:Int)<1:=h1
  clear hbad hV hr hx1 hx2 hd
  generalize hcn:chalN r pn msg=cn at hch
  repeat' (first|refine aT ?_ (bZ false rfl rfl (Zd hbl))|refine aT ?_ (mQ false rfl rfl (Zd hbg))|(refine ae (hc:=hoe) ?_)|(refine ae (hc:=hos) ?_)|refine gs ?_|refine gs1 fun _=>?_|fail)
  rename_i bs
  (refine ap ⟨[0,1,3,4,5,6],[(2,⟨[],[(7,⟨[],[(8,⟨[9],[]⟩)]⟩)]⟩)]⟩ [cel bs 44 (Eo.cells ⟨(en:Int),(sn:Int)⟩)] Xe (h:=?_))
  all_goals repeat' (first|refine ay (hy:=by (apply mO (c:=(d:Int));rfl;rfl;exact hsub)) ?_|(refine ae (hc:=he1) (hX:=fun _ h=>by trivial) ?_)|(refine ae (hc:=he2) (hX:=fun _ h=>by trivial) ?_)|(refine ae (hc:=hmu) (hX:=fun _ h=>by trivial) ?_)|refine gd ?_|refine az ?_ (h':=?_)|exact aA|fail)
  all_goals
   repeat' (first|refine gs ?_|fail)
   (refine ap ⟨[0,1,2,3,4],[(5,⟨[6,7],[]⟩)]⟩ [cel bs 44 (Eo.cells ⟨(en:Int),(sn:Int)⟩)] Xe (h:=?_))
   all_goals repeat' (first|(refine ae (hc:=hch) ?_)|refine gd ?_|refine az ?_ (h':=?_)|exact aA|fail)
   all_goals
    repeat' (first|refine gs ?_|fail)
    exact ab (ag rfl rfl) rfl
def verV (p:Int) (a:Xa):Bool:=rightB a&&verN p (actCore a) a.e a.s
theorem sJ (p:Int) (a:Xa) (hr:a.Rng):Pu prog 64 #[.int .i64 p,a.v] (fun w=>a.at_ w∧Xe w) (.bool (verV p a)):=by
 refine ax func64 ntmps64 fun av bor w0=>?_
 have hri:=dX a
 cases hR:rightB a with
 | false =>
  rw [hR] at hri
  rw [show verV p a=false from by rw [verV,hR];rfl]
  repeat' (first|refine gs ?_|refine gs1 fun _=>?_|fail)
  rename_i b3
  (refine ap ⟨[0],[(1,⟨[2,3,4,6,7],[(5,⟨[],[(8,⟨[9,10],[]⟩)]⟩)]⟩)]⟩ [cel b3 46 a.cells] (fun w=>a.at_ w∧Xe w) (h:=?_))
  all_goals repeat' (first|(refine ae (hc:=hri) ?_)|refine gd ?_|refine az ?_ (h':=?_)|exact aA|fail)
  all_goals
   repeat' (first|refine gs ?_|fail)
   exact ab (ag rfl rfl) rfl
 | true =>
  rw [hR] at hri
  have hco:=se a (df hr)
  have hsz:=fV (df hr hR)
  rw [hR,Zg] at hco
  have hve:=iK p (coreV a) a.e a.s aa
  have hV:verV p a=verN p (coreV a) a.e a.s:=by rw [verV,actCore,hR];rfl
  rw [hV]
  generalize verN p (coreV a) a.e a.s=V at *
  repeat' (first|refine gs ?_|refine gs1 fun _=>?_|fail)
  rename_i b3
  (refine ap ⟨[0],[(1,⟨[2,3,4,6,7],[(5,⟨[],[(8,⟨[9,10],[]⟩)]⟩)]⟩)]⟩ [cel b3 46 a.cells] (fun w=>a.at_ w∧Xe w) (h:=?_))
  all_goals repeat' (first|(refine ae (hc:=hri) ?_)|(refine ae (hc:=hco) ?_)|(refine ae (hc:=hve) ?_)|refine gd ?_|refine ay (hy:=by (apply cu (vs:=Eo.cells ⟨a.e,a.s⟩);rfl;exact .head _;rfl;rfl)) ?_|refine az ?_ (h':=?_)|exact aA|fail)
  all_goals
   repeat' (first|refine gs ?_|fail)
   exact ab (ag rfl rfl) rfl
def rightK2 (i:Xc):Bool:=bif decide (i.kind=0) then rightB i.act else bif decide (i.kind=1) then claimR i.claim else bif decide (i.kind=2) then ballotR i.ballot else bif decide (i.kind=3) then decR i.dec else false
def restI (i:Xc):Xc:=bif decide (i.kind=0) then ⟨0,Xa.zero,i.claim,i.ballot,i.dec⟩ else bif decide (i.kind=1) then ⟨0,i.act,Xg.zero,i.ballot,i.dec⟩ else bif decide (i.kind=2) then ⟨0,i.act,i.claim,Xh.zero,i.dec⟩ else bif decide (i.kind=3) then ⟨0,i.act,i.claim,i.ballot,Xt.zero⟩ else ⟨0,i.act,i.claim,i.ballot,i.dec⟩
def rightIt (i:Xc):Bool:=rightK2 i&&sameIZ (restI i)
set_option maxRecDepth 20000 in
theorem dE (i:Xc):Pu prog 73 #[i.v] (fun w=>i.at_ w) (.bool (rightIt i)):=by
 refine ax func73 ntmps73 fun av bor w0=>?_
 by_cases h0:i.kind=0
 · have hri:=dX i.act
   have hsa:=fD ⟨0,Xa.zero,i.claim,i.ballot,i.dec⟩
   have e:rightIt i=(rightB i.act&&sameIZ ⟨0,Xa.zero,i.claim,i.ballot,i.dec⟩):=by simp [rightIt,rightK2,restI,h0]
   rw [e]
   generalize rightB i.act=rb at *
   generalize sameIZ ⟨0,Xa.zero,i.claim,i.ballot,i.dec⟩=sb at *
   repeat' (first|refine aF ?_|(refine ae (hc:=hri) ?_)|(refine ae (hc:=hsa) ?_)|refine gs ?_|refine gs1 fun _=>?_|(refine aG (cs:=Xa.zero.cells) (hf:=by rfl) ?_)|(refine dP (⟨0,Xa.zero,i.claim,i.ballot,i.dec⟩:Xc).cells (h:=?_))|(refine aE (vs:=i.act.cells) (hv:=rfl) ?_)|(refine aG (cs:=Xc.zero.cells) (hf:=by rfl) ?_)|(refine gp ?_ ?_<;>intro hx_ this)|fail)
   all_goals first
    | exact ab (ag rfl rfl) rfl
    | (refine ab (ag rfl rfl) ?_;simp_all;done)
 by_cases h1:i.kind=1
 · have hri:=pE i.claim
   have hsa:=fD ⟨0,i.act,Xg.zero,i.ballot,i.dec⟩
   have e:rightIt i=(claimR i.claim&&sameIZ ⟨0,i.act,Xg.zero,i.ballot,i.dec⟩):=by simp [rightIt,rightK2,restI,h0,h1]
   rw [e]
   generalize claimR i.claim=rb at *
   generalize sameIZ ⟨0,i.act,Xg.zero,i.ballot,i.dec⟩=sb at *
   repeat' (first|refine aF ?_|refine aI ?_|(refine ae (hc:=hri) ?_)|(refine ae (hc:=hsa) ?_)|refine gs ?_|refine gs1 fun _=>?_|(refine aG (cs:=Xg.zero.cells) (hf:=by rfl) ?_)|(refine dP (⟨0,i.act,Xg.zero,i.ballot,i.dec⟩:Xc).cells (h:=?_))|(refine aE (vs:=i.claim.cells) (hv:=rfl) ?_)|(refine aG (cs:=Xc.zero.cells) (hf:=by rfl) ?_)|(refine gp ?_ ?_<;>intro hx_ this)|fail)
   all_goals first
    | exact ab (ag rfl rfl) rfl
    | (refine ab (ag rfl rfl) ?_;simp_all;done)
 by_cases h2:i.kind=2
 · have hri:=od i.ballot
   have hsa:=fD ⟨0,i.act,i.claim,Xh.zero,i.dec⟩
   have e:rightIt i=(ballotR i.ballot&&sameIZ ⟨0,i.act,i.claim,Xh.zero,i.dec⟩):=by simp [rightIt,rightK2,restI,h0,h1,h2]
   rw [e]
   generalize ballotR i.ballot=rb at *
   generalize sameIZ ⟨0,i.act,i.claim,Xh.zero,i.dec⟩=sb at *
   repeat' (first|refine aF ?_|refine aI ?_|(refine ae (hc:=hri) ?_)|(refine ae (hc:=hsa) ?_)|refine gs ?_|refine gs1 fun _=>?_|(refine aG (cs:=Xh.zero.cells) (hf:=by rfl) ?_)|(refine dP (⟨0,i.act,i.claim,Xh.zero,i.dec⟩:Xc).cells (h:=?_))|(refine aE (vs:=i.ballot.cells) (hv:=rfl) ?_)|(refine aG (cs:=Xc.zero.cells) (hf:=by rfl) ?_)|(refine gp ?_ ?_<;>intro hx_ this)|fail)
   all_goals first
    | exact ab (ag rfl rfl) rfl
    | (refine ab (ag rfl rfl) ?_;simp_all;done)
 by_cases h3:i.kind=3
 · have hri:=kX i.dec
   have hsa:=fD ⟨0,i.act,i.claim,i.ballot,Xt.zero⟩
   have e:rightIt i=(decR i.dec&&sameIZ ⟨0,i.act,i.claim,i.ballot,Xt.zero⟩):=by simp [rightIt,rightK2,restI,h0,h1,h2,h3]
   rw [e]
   generalize decR i.dec=rb at *
   generalize sameIZ ⟨0,i.act,i.claim,i.ballot,Xt.zero⟩=sb at *
   repeat' (first|refine aF ?_|refine aI ?_|(refine ae (hc:=hri) ?_)|(refine ae (hc:=hsa) ?_)|refine gs ?_|refine gs1 fun _=>?_|(refine aG (cs:=Xt.zero.cells) (hf:=by rfl) ?_)|(refine dP (⟨0,i.act,i.claim,i.ballot,Xt.zero⟩:Xc).cells (h:=?_))|(refine aE (vs:=i.dec.cells) (hv:=rfl) ?_)|(refine aG (cs:=Xc.zero.cells) (hf:=by rfl) ?_)|(refine gp ?_ ?_<;>intro hx_ this)|fail)
   all_goals first
    | exact ab (ag rfl rfl) rfl
    | (refine ab (ag rfl rfl) ?_;simp_all;done)
 have e:rightIt i=false:=by simp [rightIt,rightK2,h0,h1,h2,h3]
 rw [e]
 repeat' (first|refine aI ?_|refine gs ?_|refine gs1 fun _=>?_|fail)
 all_goals exact ab (ag rfl rfl) rfl
def formCells (nm:ByteArray) (f:Nat) (e s:Int):List Value:=[.string nm,.func (.func f) #[] #[],.int .i64 e,.int .i64 s]
theorem ie {N:Nat} {av bor:List Nat} {w0:World} {st:St} {ty:TypeId} {x:Operand} {nm:ByteArray} {f:Nat} {e s:Int} (hx:ev st.env x=some (.agg (formCells nm f e s).toArray)):Sy.Yields prog N av bor w0 st (.field 164 x 2) ty (.agg #[.int .i64 e,.int .i64 s]):=Sy.Yields.mk fun A w ok d pos af g=>by
 have hp:(part 44 (formCells nm f e s).toArray 2).run prog w=.ok (.agg #[.int .i64 e,.int .i64 s]) w:=by rw [iu];rfl
 simp only [formCells] at hx hp
 simp [execOp,ok.eval hx,Instr.field,run_underlying underlying164,asAgg,hp]
def nameC:ByteArray:=⟨#[99,108,97,105,109]⟩
theorem oQ (it:Xc) (h:it.kind=1):Pu prog 98 #[it.v] (fun _=>True) (.agg (formCells nameC 174 it.claim.e it.claim.s).toArray):=by
 refine ax func98 ntmps98 fun av bor w0=>?_
 repeat' (first|refine aF ?_|refine gs ?_|refine gs1 fun _=>?_|(refine aE (vs:=[.int .i64 it.claim.e,.int .i64 it.claim.s]) (hv:=rfl) ?_)|(refine aG (cs:=formCells nameC 174 it.claim.e it.claim.s) (hf:=by rfl) ?_)|fail)
 all_goals exact ab (bV rfl rfl aM (by rfl)) rfl
def msgC (x:Xg):ByteArray:=textsV [nameC]++coreCl x
theorem HD (it:Xc) (h:it.kind=1) (hl:it.claim.Lt) (hz:(msgC it.claim).size≤1099511627776):Pu prog 202 #[it.v] (fun _=>True) (.string (msgC it.claim)):=by
 refine ax func202 ntmps202 fun av bor w0=>?_
 have hfo:=oQ it h
 rw [msgC] at hz ⊢
 rw [Zb] at hz
 have hS:(⟨#[]⟩:ByteArray)++textsV [nameC]=textsV [nameC]:=ByteArray.empty_append
 have hts:(⟨#[]⟩:ByteArray).size+(textsV [nameC]).size≤1099511627776:=by
  rw [←Zb,hS]
  omega
 repeat' (first|(refine ae (hc:=hfo) ?_)|refine gs ?_|refine gs1 fun _=>?_|fail)
 rename_i bi bf bb bs
 refine bJ ?_
 refine gA 5 1 ?_
 refine cM (l:=bld bb none 0 ⟨#[]⟩++[cel bf 164 (formCells nameC 174 it.claim.e it.claim.s),cel bi 60 it.cells]) (List.Perm.swap _ _ _) ?_
 refine bO (pre:=bld bb none 0 ⟨#[]⟩) (fr:=[cel bf 164 (formCells nameC 174 it.claim.e it.claim.s),cel bi 60 it.cells]) (hc:=ff bb none 0 ⟨#[]⟩ ⟨some ⟨bs,0,none⟩,1,1⟩ [nameC] hts) (hX:=fun w h=>aU (xs:=[[encB nameC]]) h.2 rfl (by decide) (by simp)) (h:=?_)
 rintro v R X' ⟨A1,c1,rfl,rfl⟩
 refine cI (X':=(fun _=>True)) (fun w h=>trivial) ?_
 rw [hS]
 generalize textsV [nameC]=p0 at *
 unfold bld
 repeat' (first|refine gs ?_|fail)
 refine bO (pre:=bld bb A1 c1 p0) (fr:=[cel bf 164 (formCells nameC 174 it.claim.e it.claim.s),cel bi 60 it.cells]) (hc:=qQ bb A1 c1 p0 it hl hz) (hX:=fun _ _=>trivial) (h:=?_)
 rintro v R X' ⟨A2,c2,rfl,rfl⟩
 unfold bld
 repeat' (first|refine gs ?_|fail)
 refine eS (hm:=Zu _ ao) ?_
 repeat' (first|refine gs ?_|fail)
 all_goals
  apply ab;apply ag;rfl;rfl
  simp only [cA]
def sgnC (p:Int) (x:Xg):Bool:=verN p (msgC x) x.e x.s
theorem rA (p:Int) (it:Xc) (h:it.kind=1) (hl:it.claim.Lt) (hz:(msgC it.claim).size≤1000000000000):Pu prog 126 #[.int .i64 p,it.v] (fun w=>it.at_ w∧Xe w) (.bool (sgnC p it.claim)):=by
 refine ax func126 ntmps126 fun av bor w0=>?_
 have hms:=HD it h hl aa
 have hfo:=oQ it h
 have hve:=iK p (msgC it.claim) it.claim.e it.claim.s hz
 rw [sgnC]
 generalize verN p (msgC it.claim) it.claim.e it.claim.s=V at *
 repeat' (first|refine gs ?_|refine gs1 fun _=>?_|fail)
 rename_i b3
 (refine ap ⟨[0,1,3],[(2,⟨[],[(4,⟨[5],[(6,⟨[7],[]⟩)]⟩)]⟩)]⟩ [cel b3 60 it.cells] (fun w=>it.at_ w∧Xe w) (h:=?_))
 all_goals repeat' (first|(refine ae (hc:=hms) (hX:=fun w h=>trivial) ?_)|(refine ae (hc:=hfo) ?_)|(refine ae (hc:=hve) ?_)|refine gd ?_|refine ay (hy:=by (apply ie;rfl)) ?_|refine az ?_ (h':=?_)|exact aA|fail)
 all_goals
  repeat' (first|refine gs ?_|fail)
  exact ab (ag rfl rfl) rfl
def nameB:ByteArray:=⟨#[98,97,108,108,111,116]⟩
theorem oR (it:Xc) (h:it.kind=2):Pu prog 98 #[it.v] (fun _=>True) (.agg (formCells nameB 175 it.ballot.e it.ballot.s).toArray):=by
 refine ax func98 ntmps98 fun av bor w0=>?_
 repeat' (first|refine aF ?_|refine aI ?_|refine gs ?_|refine gs1 fun _=>?_|(refine aE (vs:=[.int .i64 it.ballot.e,.int .i64 it.ballot.s]) (hv:=rfl) ?_)|(refine aG (cs:=formCells nameB 175 it.ballot.e it.ballot.s) (hf:=by rfl) ?_)|fail)
 all_goals exact ab (bV rfl rfl aM (by rfl)) rfl
def msgB (x:Xh):ByteArray:=textsV [nameB]++coreBa x
theorem HE (it:Xc) (h:it.kind=2) (hl:it.ballot.Lt) (hz:(msgB it.ballot).size≤1099511627776):Pu prog 202 #[it.v] (fun _=>True) (.string (msgB it.ballot)):=by
 refine ax func202 ntmps202 fun av bor w0=>?_
 have hfo:=oR it h
 rw [msgB] at hz ⊢
 rw [Zb] at hz
 have hS:(⟨#[]⟩:ByteArray)++textsV [nameB]=textsV [nameB]:=ByteArray.empty_append
 have hts:(⟨#[]⟩:ByteArray).size+(textsV [nameB]).size≤1099511627776:=by
  rw [←Zb,hS]
  omega
 repeat' (first|(refine ae (hc:=hfo) ?_)|refine gs ?_|refine gs1 fun _=>?_|fail)
 rename_i bi bf bb bs
 refine bJ ?_
 refine gA 5 1 ?_
 refine cM (l:=bld bb none 0 ⟨#[]⟩++[cel bf 164 (formCells nameB 175 it.ballot.e it.ballot.s),cel bi 60 it.cells]) (List.Perm.swap _ _ _) ?_
 refine bO (pre:=bld bb none 0 ⟨#[]⟩) (fr:=[cel bf 164 (formCells nameB 175 it.ballot.e it.ballot.s),cel bi 60 it.cells]) (hc:=ff bb none 0 ⟨#[]⟩ ⟨some ⟨bs,0,none⟩,1,1⟩ [nameB] hts) (hX:=fun w h=>aU (xs:=[[encB nameB]]) h.2 rfl (by decide) (by simp)) (h:=?_)
 rintro v R X' ⟨A1,c1,rfl,rfl⟩
 refine cI (X':=(fun _=>True)) (fun w h=>trivial) ?_
 rw [hS]
 generalize textsV [nameB]=p0 at *
 unfold bld
 repeat' (first|refine gs ?_|fail)
 refine bO (pre:=bld bb A1 c1 p0) (fr:=[cel bf 164 (formCells nameB 175 it.ballot.e it.ballot.s),cel bi 60 it.cells]) (hc:=pq bb A1 c1 p0 it hl hz) (hX:=fun _ _=>trivial) (h:=?_)
 rintro v R X' ⟨A2,c2,rfl,rfl⟩
 unfold bld
 repeat' (first|refine gs ?_|fail)
 refine eS (hm:=Zu _ ao) ?_
 repeat' (first|refine gs ?_|fail)
 all_goals
  apply ab;apply ag;rfl;rfl
  simp only [cA]
def sgnB (p:Int) (x:Xh):Bool:=verN p (msgB x) x.e x.s
theorem rB (p:Int) (it:Xc) (h:it.kind=2) (hl:it.ballot.Lt) (hz:(msgB it.ballot).size≤1000000000000):Pu prog 126 #[.int .i64 p,it.v] (fun w=>it.at_ w∧Xe w) (.bool (sgnB p it.ballot)):=by
 refine ax func126 ntmps126 fun av bor w0=>?_
 have hms:=HE it h hl aa
 have hfo:=oR it h
 have hve:=iK p (msgB it.ballot) it.ballot.e it.ballot.s hz
 rw [sgnB]
 generalize verN p (msgB it.ballot) it.ballot.e it.ballot.s=V at *
 repeat' (first|refine gs ?_|refine gs1 fun _=>?_|fail)
 rename_i b3
 (refine ap ⟨[0,1,3],[(2,⟨[],[(4,⟨[5],[(6,⟨[7],[]⟩)]⟩)]⟩)]⟩ [cel b3 60 it.cells] (fun w=>it.at_ w∧Xe w) (h:=?_))
 all_goals repeat' (first|(refine ae (hc:=hms) (hX:=fun w h=>trivial) ?_)|(refine ae (hc:=hfo) ?_)|(refine ae (hc:=hve) ?_)|refine gd ?_|refine ay (hy:=by (apply ie;rfl)) ?_|refine az ?_ (h':=?_)|exact aA|fail)
 all_goals
  repeat' (first|refine gs ?_|fail)
  exact ab (ag rfl rfl) rfl
def nameD:ByteArray:=⟨#[100,101,99,105,115,105,111,110]⟩
theorem oP (it:Xc) (h:it.kind=3):Pu prog 98 #[it.v] (fun _=>True) (.agg (formCells nameD 176 it.dec.e it.dec.s).toArray):=by
 refine ax func98 ntmps98 fun av bor w0=>?_
 repeat' (first|refine aI ?_|refine gs ?_|refine gs1 fun _=>?_|(refine aE (vs:=[.int .i64 it.dec.e,.int .i64 it.dec.s]) (hv:=rfl) ?_)|(refine aG (cs:=formCells nameD 176 it.dec.e it.dec.s) (hf:=by rfl) ?_)|fail)
 all_goals exact ab (bV rfl rfl aM (by rfl)) rfl
def msgD (x:Xt):ByteArray:=textsV [nameD]++coreDe x
theorem HC (it:Xc) (h:it.kind=3) (hl:it.dec.Lt) (hz:(msgD it.dec).size≤1099511627776):Pu prog 202 #[it.v] (fun w=>it.at_ w) (.string (msgD it.dec)):=by
 refine ax func202 ntmps202 fun av bor w0=>?_
 have hfo:=oP it h
 rw [msgD] at hz ⊢
 rw [Zb] at hz
 have hS:(⟨#[]⟩:ByteArray)++textsV [nameD]=textsV [nameD]:=ByteArray.empty_append
 have hts:(⟨#[]⟩:ByteArray).size+(textsV [nameD]).size≤1099511627776:=by
  rw [←Zb,hS]
  omega
 repeat' (first|(refine ae (hc:=hfo) ?_)|refine gs ?_|refine gs1 fun _=>?_|fail)
 rename_i bi bf bb bs
 refine bJ ?_
 refine gA 5 1 ?_
 refine cM (l:=bld bb none 0 ⟨#[]⟩++[cel bf 164 (formCells nameD 176 it.dec.e it.dec.s),cel bi 60 it.cells]) (List.Perm.swap _ _ _) ?_
 refine bO (pre:=bld bb none 0 ⟨#[]⟩) (fr:=[cel bf 164 (formCells nameD 176 it.dec.e it.dec.s),cel bi 60 it.cells]) (hc:=ff bb none 0 ⟨#[]⟩ ⟨some ⟨bs,0,none⟩,1,1⟩ [nameD] hts) (hX:=fun w h=>aU (xs:=[[encB nameD]]) h.2 rfl (by decide) (by simp)) (h:=?_)
 rintro v R X' ⟨A1,c1,rfl,rfl⟩
 refine cI (X':=(fun w=>it.at_ w)) (fun w h=>h.1.1) ?_
 rw [hS]
 generalize textsV [nameD]=p0 at *
 unfold bld
 repeat' (first|refine gs ?_|fail)
 refine bO (pre:=bld bb A1 c1 p0) (fr:=[cel bf 164 (formCells nameD 176 it.dec.e it.dec.s),cel bi 60 it.cells]) (hc:=kq bb A1 c1 p0 it hl hz) (hX:=fun w h=>h) (h:=?_)
 rintro v R X' ⟨A2,c2,rfl,rfl⟩
 unfold bld
 repeat' (first|refine gs ?_|fail)
 refine eS (hm:=Zu _ ao) ?_
 repeat' (first|refine gs ?_|fail)
 all_goals
  apply ab;apply ag;rfl;rfl
  simp only [cA]
def sgnD (p:Int) (x:Xt):Bool:=verN p (msgD x) x.e x.s
theorem rz (p:Int) (it:Xc) (h:it.kind=3) (hl:it.dec.Lt) (hz:(msgD it.dec).size≤1000000000000):Pu prog 126 #[.int .i64 p,it.v] (fun w=>it.at_ w∧Xe w) (.bool (sgnD p it.dec)):=by
 refine ax func126 ntmps126 fun av bor w0=>?_
 have hms:=HC it h hl aa
 have hfo:=oP it h
 have hve:=iK p (msgD it.dec) it.dec.e it.dec.s hz
 rw [sgnD]
 generalize verN p (msgD it.dec) it.dec.e it.dec.s=V at *
 repeat' (first|refine gs ?_|refine gs1 fun _=>?_|fail)
 rename_i b3
 (refine ap ⟨[0,1,3],[(2,⟨[],[(4,⟨[5],[(6,⟨[7],[]⟩)]⟩)]⟩)]⟩ [cel b3 60 it.cells] (fun w=>it.at_ w∧Xe w) (h:=?_))
 all_goals repeat' (first|(refine ae (hc:=hms) ?_)|(refine ae (hc:=hfo) ?_)|(refine ae (hc:=hve) ?_)|refine gd ?_|refine ay (hy:=by (apply ie;rfl)) ?_|refine az ?_ (h':=?_)|exact aA|fail)
 all_goals
  repeat' (first|refine gs ?_|fail)
  exact ab (ag rfl rfl) rfl
section
variable {P:Program} {N:Nat} {av bor:List Nat} {w0:World} {ty:TypeId}
theorem B0 {st:St} {x:Operand} {t t2 e b':TypeId} [hs:Ea P t e 1 b'] [he:Xs P e .u8] [h2:Eb P t2] {b n:Nat} {ns:List Int} (hx:ev st.env x=some (.slice (some ⟨b,0,none⟩) n n)) (hm:cel b e (u8s ns)∈st.loc) (hn:ns.length=n) (hn2:n≤maxLen) :
  Sy.Yields P N av bor w0 st (.convert t t2 x) ty (.string (ofInts ns)):=Sy.Yields.mk fun A w ok d pos af g=>by
 have hh:w.heap[b]?=some (.cells (u8s ns).toArray e (0,0)):=(ok.gam.here _ hm).now
 have ho:ORow w e 1 (.slice (some ⟨b,0,none⟩) n n) n (u8s ns):=lV hh (by simp [u8s,hn]) hn2
 have hl:(u8s ns).length=n:=by have:=ho.1;omega
 rcases ho.2 with ⟨h,_⟩|⟨g,cap,cur,fz,hv,hg,hnc,hcm,hcs,htake,hfz⟩
 · cases h
 · cases hv
   have hlc:=run_loadCells_list (P:=P) w ⟨b,0,none⟩ (u8s ns) (fun j u hj=>by
    have hadd:(⟨b,0,none⟩:Addr).add j=⟨b,j,none⟩:=by unfold Addr.add;split<;>simp_all
    rw [hadd,cell_of_row w b j cur e fz hg]
    rw [←htake,QF] at hj
    split at hj
    · simpa using hj
    · cases hj)
   rw [hl] at hlc
   have h3:=run_bytesToString (P:=P) w ⟨b,0,none⟩ n n ns hlc
   have h4:=run_convert_bytes_string (P:=P) w t t2 e (some ⟨b,0,none⟩) n n (cH hs.out).1 he.out h2.out
   rw [h3] at h4
   simp [execOp,ok.eval hx,h4,ofInts]
end
section
variable {P:Program} {N:Nat} {av bor:List Nat} {w0:World} {st:St} {ty:TypeId} {x y z:Operand} {t t2:TypeId}
theorem FT {e size b':Nat} [hI:Ea P t e size b'] {s:Xk} {kk kk':IntKind} {i j:Int} (hx:ev st.env x=some s.v) (hy:ev st.env y=some (.int kk i)) (hz:ev st.env z=some (.int kk' j)) (h0:0≤i) (h1:i≤j) (h2:j≤(s.c:Int)) :
  Sy.Yields P N av bor w0 st (.slice t x (some y) (some z) none) ty (.slice (s.from size i.toNat).p (j.toNat-i.toNat) (s.c-i.toNat)):=Sy.Yields.mk fun A w ok d pos af g=>by
 obtain ⟨p,m,c⟩:=s
 obtain ⟨hu,inf,hi,hs,hb⟩:=cH hI.out
 have hsz:=Sy.run_sizeOf (P:=P) (w:=w) (t:=e) (n:=size) (by simp [hi,hs])
 have hx':ev st.env x=some (.slice p m c):=hx
 have h2':j≤(c:Int):=h2
 have hj:0≤j:=by omega
 obtain ⟨j,rfl⟩:=Int.eq_ofNat_of_zero_le hj
 have h2'':j≤c:=by omega
 simp [execOp,ok.eval hx',ok.eval hy,ok.eval hz,Instr.sliceAt,run_underlying hu,Instr.slice,Instr.sliceBounds,run_sliceBound,h0,h1,h2',h2'',hsz,Xk.from]
end
section
variable {P:Program} {N:Nat} {av bor:List Nat} {w0:World} {st:St} {ty:TypeId} {x:Operand} {t:TypeId}
theorem ej {e m i c:Nat} [h:Xx P t] {A:Option Addr} {vs:List Value} {u:Value} (hx:ev st.env x=some (elP A i)) (hm:orow e 1 (.slice A m c) m vs∈st.loc) (hn:m=vs.length) (hi:vs[i]?=some u) :
  Sy.Yields P N av bor w0 st (.load t x) ty u:=Sy.Yields.mk fun B w ok d pos af g=>by
 have e1:(vs.map fun v=>[v]).flatten=vs:=by
  clear hm hn hi
  induction vs with
  | nil=>rfl
  | cons v vs ih=>rw [ZZ,Z9,ih];rfl
 have ho:=(ok.gam.here _ hm).now
 have hr:Xf w 1 ⟨A,m,c⟩ (vs.map fun v=>[v]):=bu (e:=e) (by rw [e1];exact ho) (by rw [ZE];exact hn) fun r hr=>by
  obtain ⟨v,_,rfl⟩:=QH.1 hr
  rfl
 obtain ⟨h1,hp,hc⟩:=Xf.row hr i [u] (by rw [Z5,hi];rfl)
 have hc0:=hc 0 u rfl
 rw [Nat.mul_one,ZR] at hc0
 obtain ⟨a,rfl⟩:=QM.1 hp
 simp [execOp,ok.eval hx,elP,Instr.loadAt,Instr.sureAddr,loadVar,(bX h.out w).1,hc0.2 a rfl]
end
section
variable {P:Program} {N:Nat} {av bor:List Nat} {w0:World} {ops:Array Oper} {rest:List Oper} {kk:St→Prop} {E:Env} {loc:List Xl} {X:World→Prop} {x y:Operand} {t t2:TypeId}
variable {n:Nat} {ty:TypeId} {pos:String} {af:Array Edge} {g:Option (Nat×Bool)} {bb want:Bool}
theorem C7 {k:IntKind} {a b:Int} [hI:Xs P t k] (h:Sw P N av bor w0 ops rest ⟨(n,.bool false)::E,loc,X⟩ kk) (hx:ev E x=some (.int k a):=by rfl) (hy:ev E y=some (.int k b):=by rfl) (hab:¬ a<b:=by first|omega|decide) (hg:gdB ops E g=some (bb,want):=by rfl) (hbb:bb=want:=by exact aw) (hd:Nat.blt n N=true:=by rfl) :
  Sw P N av bor w0 ops (⟨some n,.binOp .lss t x y t2,ty,pos,af,g⟩::rest) ⟨E,loc,X⟩ kk:=eX (hx:=hx) (hy:=hy) (hg:=hg) (hbb:=hbb) (hd:=hd) (h:=by
   have e:∀ u,u=Value.bool false→Sw P N av bor w0 ops rest ⟨(n,u)::E,loc,X⟩ kk:=fun u hu=>hu▸h
   exact e _ (by simp [hab]))
theorem C6 {k:IntKind} {a b:Int} [hI:Xs P t k] (h:Sw P N av bor w0 ops rest ⟨(n,.bool true)::E,loc,X⟩ kk) (hx:ev E x=some (.int k a):=by rfl) (hy:ev E y=some (.int k b):=by rfl) (hab:a<b:=by first|omega|decide) (hg:gdB ops E g=some (bb,want):=by rfl) (hbb:bb=want:=by exact aw) (hd:Nat.blt n N=true:=by rfl) :
  Sw P N av bor w0 ops (⟨some n,.binOp .lss t x y t2,ty,pos,af,g⟩::rest) ⟨E,loc,X⟩ kk:=eX (hx:=hx) (hy:=hy) (hg:=hg) (hbb:=hbb) (hd:=hd) (h:=by
   have e:∀ u,u=Value.bool true→Sw P N av bor w0 ops rest ⟨(n,u)::E,loc,X⟩ kk:=fun u hu=>hu▸h
   exact e _ (by simp [hab]))
end
theorem iv:∀ (l:List Int) (r:ByteArray),(l.foldl (fun r n=>r.push (UInt8.ofNat n.toNat)) r)=r++ofInts l
 | [],r=>by simp [ofInts]
 | b::l,r=>by
  have e:ofInts (b::l)=ofInts [b]++ofInts l:=by
   conv=>lhs;rw [ofInts,QE,iv l]
   rfl
  rw [QE,iv l,e,←Zx]
  congr 1
  simp [ofInts,ByteArray.ext_iff]
theorem uu (a:Int) (l:List Int):ofInts [a]++ofInts l=ofInts (a::l):=by
 conv=>rhs;rw [ofInts,QE,iv]
 rfl
set_option maxRecDepth 4000 in
theorem refNumD:∀ (f:Nat) (n:Int),0≤n→n<128 ^ f→f≤9→Pu prog 156 #[.int .i64 n] (fun _=>True) (.string (ofInts (numD (f+1) n)))
 | f,n,h0,h1,hf=>by
  have hb:(128:Int) ^ f≤9223372036854775808:=by
   have h4:(128:Nat) ^ f≤128 ^ 9:=Nat.pow_le_pow_right aa hf
   have h5:((128 ^ f:Nat):Int)≤((128 ^ 9:Nat):Int):=by exact_mod_cast h4
   have h6:((128 ^ 9:Nat):Int)=9223372036854775808:=by decide
   have h7:((128 ^ f:Nat):Int)=(128:Int) ^ f:=by simp
   omega
  refine ax func156 ntmps156 fun av bor w0=>?_
  by_cases hs:128≤n
  · have hf0:f≠0:=fun e=>by rw [e] at h1;simp at h1;omega
    obtain ⟨g,rfl⟩:∃ g,f=g+1:=⟨f-1,by omega⟩
    have ih:=refNumD g (n.tdiv 128) (by rw [Qo h0];omega) (by
     rw [Qo h0]
     rw [Int.pow_succ] at h1
     omega) aa
    rw [uv hs,←uu]
    have hlw:IntKind.u8.wrap (128+n.tmod 128)=lowD n:=rfl
    have ht1:=Int.tmod_lt_of_pos n (b:=128) aa
    have ht2:=Int.tmod_nonneg 128 h0
    have hq:IntKind.i64.wrap (n.tdiv 128)=n.tdiv 128:=IntWalk.i64_in _ (by rw [Qo h0];omega)
    have hsz:=fj [lowD n]
    have hsz2:=oy (g+1) (n.tdiv 128)
    have hsz3:=fj (numD (g+1) (n.tdiv 128))
    simp only [ZA,ZQ,ZS] at hsz
    repeat' (first|refine C7 ?_|refine gs ?_|fail)
    (refine bc ⟨[0,1,2,3,6,7],[(4,⟨[],[(5,⟨[],[(8,⟨[9,10],[]⟩)]⟩),(8,⟨[],[(5,⟨[9,10],[]⟩)]⟩)]⟩),(8,⟨[],[(4,⟨[],[(5,⟨[9,10],[]⟩)]⟩)]⟩)]⟩ (h:=?_))
    all_goals repeat' (first|(refine ae (hc:=ih) ?_)|refine gd ?_|refine ay (hy:=by first|(apply sM;rfl;rfl;decide;rfl)|(apply pQ;rfl;rfl;decide;exact hq)|(apply dl;rfl;rfl;omega)) ?_|refine az ?_ (h':=?_)|exact aA|(refine aT ?_ (B0 (ns:=[lowD n]) rfl ao rfl (by decide)))|(refine eC (vs:=[.int .u8 (lowD n)]) fun _=>?_)|fail)
    all_goals
     apply ck
     exact ab (ag rfl rfl) rfl
  · rw [ox hs]
    repeat' (first|refine C7 ?_|refine C6 ?_|refine gs ?_|refine gs1 fun _=>?_|(refine aT ?_ (B0 (ns:=[IntKind.u8.wrap n]) rfl ao rfl (by decide)))|fail)
    exact ab (ag rfl rfl) rfl
theorem cq (n:Int) (hn:n<9223372036854775808):Pu prog 156 #[.int .i64 n] (fun _=>True) (.string (numV n)):=by
 by_cases h0:0≤n
 · have h:=refNumD 9 n h0 (by rw [show (128:Int) ^ 9=9223372036854775808 from by decide];exact hn) (ZV _)
   rw [numV,Zd (by omega)]
   exact h
 · rw [numV,Ze (by omega)]
   refine ax func156 ntmps156 fun av bor w0=>?_
   repeat' (first|refine C6 ?_|refine gs ?_|fail)
   exact ab (ag rfl rfl) rfl
theorem cU (s:ByteArray) (hs:s.size≤1099511627776):Pu prog 153 #[.string s] (fun _=>True) (.string (textV s)):=by
 refine ax func153 ntmps153 fun av bor w0=>?_
 have:=ar s.size
 repeat' (first|refine ae (hc:=cq _ aa) ?_|refine gs ?_|(refine nP ?_)|fail)
 exact ab (ag rfl rfl) rfl
theorem oe (s:Xk) (l:List ByteArray) (hs:(listV l).size≤1099511627776):Pu prog 238 #[s.v] (fun w=>Strs w s l) (.string (listV l)):=by
 refine ax func238 ntmps238 fun av bor w0=>?_
 refine aQ (p:=s.n=l.length∧s.n≤maxLen∧(0<l.length→s.p.isSome=true)) (fun w h=>⟨h.len_,ZW (Xf.cap h) (Xf.max h),h.some_⟩) fun ⟨hl,hm,hp⟩=>?_
 simp only [maxLen] at hm
 have hn10:=ar s.n
 have hsz:(numV l.length).size+(cats (l.map textV)).size≤1099511627776:=by rw [←Zb];exact hs
 have h0:numV l.length++cats ((l.map textV).take 0)=numV s.n:=by simp [cats,hl]
 repeat' (first|refine ae (hc:=cq _ aa) ?_|refine gs ?_|fail)
 refine aq (ι:=Kth l.length) (fun i=>⟨[(0,s.v),(3,.string (numV l.length++cats ((l.map textV).take i.k))),(4,.int .i64 (i.k:Nat))],[],fun w=>Strs w s l⟩) (fun i=>l.length-i.k) ⟨0,Z2 _⟩ (ai ⟨rfl,by rw [h0];rfl,rfl,trivial⟩ (ak _) fun _ h=>h) fun i=>?_
 obtain ⟨k,hk⟩:=i
 simp only
 repeat' (first|refine gs ?_|(refine gp ?_ ?_<;>intro hx_ this)|fail)
 · have hlt:k<l.length:=by omega
   have hp':=hp aa
   have hsucc:=fM (l.map textV) (k:=k) (by rw [ZE];exact hlt)
   have hg:(l.map textV).getD k .empty=textV (l.getD k .empty):=by
    rw [Zp,Z5,Zp,Zc hlt];rfl
   have hle:=fd (l.map textV) (k+1)
   rw [hsucc,Zb,hg] at hle
   have hte:(textV (l.getD k .empty)).size=(numV (l.getD k .empty).size).size+(l.getD k .empty).size:=by rw [textV,Zb]
   have hca:(numV l.length++cats ((l.map textV).take k)).size=(numV l.length).size+(cats ((l.map textV).take k)).size:=Zb
   repeat' (first|refine ae (hc:=cU _ aa) ?_|refine gs ?_|(refine aD (q:=k) ?_)|(refine cB (hF:=fun w h=>Strs.get h hlt) ?_)|(refine nP ?_)|fail)
   exact ⟨(⟨k+1,hlt⟩:Kth l.length),(by show l.length-(k+1)<l.length-k;omega),ai ⟨rfl,by rw [hsucc,hg,←Zx];rfl,rfl,trivial⟩ (ak _) fun _ h=>h⟩
 · have hkE:k=l.length:=by omega
   subst hkE
   exact ab (ag rfl rfl) (by rw [listV,Qd (by rw [ZE];exact ZV _)])
def u32n (l:List Nat):List Value:=l.map fun (n:Nat)=>.int .u32 (n:Int)
def U32s (w:World) (s:Xk) (l:List Nat):Prop:=Xf w 1 s (l.map fun (n:Nat)=>[.int .u32 (n:Int)])
def U8s (w:World) (s:Xk) (l:List Nat):Prop:=Xf w 1 s (l.map fun (n:Nat)=>[.int .u8 (n:Int)])
theorem sW (l:List Nat):(u32n l).length=l.length:=by simp [u32n]
theorem sX {l:List Nat} {i:Nat} (h:i<l.length):(u32n l)[i]?=some (.int .u32 ((l.getD i 0:Nat):Int)):=by simp [u32n,h]
theorem jR {w:World} {s:Xk} {l:List Nat} {f:Nat→Value} (h:Xf w 1 s (l.map fun n=>[f n])) {i:Nat} (hi:i<l.length):CellAt w s.p i (f (l.getD i 0)):=by
 obtain ⟨_,_,hc⟩:=Xf.row h i [f (l.getD i 0)] (by rw [Z5,Zc hi,Zp,Zc hi];rfl)
 have:=hc 0 _ rfl
 rwa [Nat.mul_one,ZR] at this
theorem iT {w:World} {s:Xk} {l:List Nat} {f:Nat→Value} (h:Xf w 1 s (l.map fun n=>[f n])):s.n=l.length:=by have:=Xf.len h;simpa using this
theorem gE {w:World} {s:Xk} {l:List Nat} {f:Nat→Value} (h:Xf w 1 s (l.map fun n=>[f n])) (h0:0<l.length):s.p.isSome=true:=(Xf.row h 0 [f l[0]] (by rw [Z5,Zc h0];rfl)).2.1
theorem U32s.of_row {w:World} {e n c:Nat} {A:Option Addr} {l:List Nat} (h:ORow w e 1 (.slice A n c) n (u32n l)) (hn:n=l.length):U32s w ⟨A,n,c⟩ l:=by
 have e1:(l.map fun (n:Nat)=>[(.int .u32 (n:Int):Value)]).flatten=u32n l:=by
  clear h hn
  induction l with
  | nil=>rfl
  | cons a l ih=>rw [ZZ,Z9,ih];rfl
 rw [←e1] at h
 exact bu h (by rw [ZE,hn]) fun r hr=>by
  obtain ⟨n,_,rfl⟩:=QH.1 hr
  rfl
theorem vG {n:Nat} (h:n<4294967296):IntKind.u32.wrap (n:Int)=(n:Int):=by rw [wrap32,ZC h]
section
variable {P:Program} {N:Nat} {av bor:List Nat} {w0:World} {st:St} {ty:TypeId} {x y:Operand} {t t2:TypeId} {a b:Nat}
theorem vz (hx:ev st.env x=some (.int .u32 (a:Int))) (hy:ev st.env y=some (.int .u32 (b:Int))) (hc:a*b<4294967296):Sy.Yields P N av bor w0 st (.binOp .mul t x y t2) ty (.int .u32 ((a*b:Nat):Int)) :=
 sP hx hy (by rw [←Int.natCast_mul];exact vG hc)
theorem BW (hx:ev st.env x=some (.int .i64 (a:Int))) (hy:ev st.env y=some (.int .i64 (b:Int))) (hc:a*b<9223372036854775808):Sy.Yields P N av bor w0 st (.binOp .mul t x y t2) ty (.int .i64 ((a*b:Nat):Int)) :=
 sP hx hy (by rw [←Int.natCast_mul];exact IntWalk.i64_in _ aa)
theorem I6 (hx:ev st.env x=some (.int .u32 (a:Int))) (hy:ev st.env y=some (.int .u32 (b:Int))) (hc:a+b<4294967296):Sy.Yields P N av bor w0 st (.binOp .add t x y t2) ty (.int .u32 ((a+b:Nat):Int)) :=
 mV hx hy (by rw [←Int.natCast_add];exact vG hc)
theorem mU (hx:ev st.env x=some (.int .u32 (a:Int))) (hy:ev st.env y=some (.int .u32 (b:Int))):Sy.Yields P N av bor w0 st (.binOp .add t x y t2) ty (.int .u32 (((a+b)%4294967296:Nat):Int)) :=
 mV hx hy (by rw [←Int.natCast_add,wrap32])
theorem mN (hx:ev st.env x=some (.int .u32 (a:Int))) (hy:ev st.env y=some (.int .u32 (b:Int))) (ha:a<4294967296) (hb:b<4294967296):Sy.Yields P N av bor w0 st (.binOp .xor t x y t2) ty (.int .u32 ((a ^^^ b:Nat):Int)) :=
 (IsN.xor (x:=(a:Int)) (y:=(b:Int)) ⟨rfl,ha⟩ ⟨rfl,hb⟩).1▸sK hx hy
theorem B3 (hx:ev st.env x=some (.int .u32 (a:Int))) (hy:ev st.env y=some (.int .u32 (b:Int))) (ha:a<4294967296) (hb:b<4294967296):Sy.Yields P N av bor w0 st (.binOp .and t x y t2) ty (.int .u32 ((a &&& b:Nat):Int)) :=
 (IsN.and (x:=(a:Int)) (y:=(b:Int)) ⟨rfl,ha⟩ ⟨rfl,hb⟩).1▸pT hx hy
theorem vw {k':IntKind} {c:Int} {p:Nat} (hx:ev st.env x=some (.int .u32 (a:Int))) (hy:ev st.env y=some (.int k' c)) (hc:0≤c) (ha:a<4294967296) (hp:(2:Int) ^ (min c.toNat 32)=(p:Int)):Sy.Yields P N av bor w0 st (.binOp .shr t x y t2) ty (.int .u32 ((a/p:Nat):Int)) :=
 (IsN.shr (x:=(a:Int)) ⟨rfl,ha⟩ p hp).1▸sL hx hy hc
theorem IS (hx:ev st.env x=some (.int .u32 (a:Int))) (ha:a<4294967296):Sy.Yields P N av bor w0 st (.unOp .xor t x) ty (.int .u32 ((4294967295 ^^^ a:Nat):Int)):=by
 have hm:IsN (if IntKind.u32.signed then -1 else IntKind.u32.max) 4294967295:=⟨by kernel_rfl,by decide⟩
 exact (hm.xor (y:=(a:Int)) ⟨rfl,ha⟩).1▸qZ hx
end
theorem F9 {w:World} {s:Xk} {l:List Nat} (h:U32s w s l):Src prog w 1 s.v s.n (u32n l):=by
 have e1:(l.map fun (n:Nat)=>[(.int .u32 (n:Int):Value)]).flatten=u32n l:=by
  clear h
  induction l with
  | nil=>rfl
  | cons a l ih=>rw [ZZ,Z9,ih];rfl
 have h1:=gC (P:=prog) (s:=s) h fun cs hcs=>by
  obtain ⟨n,_,rfl⟩:=QH.1 hcs
  rfl
 rwa [e1] at h1
theorem Cg (l:List Nat) {i v:Nat} (h:i<l.length):(u32n l).take (i*1)++[.int .u32 (v:Int)]++(u32n l).drop (i*1+1)=u32n (l.set i v):=by
 rw [Nat.mul_one,u32n,u32n,List.map_set,List.set_eq_take_append_cons_drop,ZN (by rw [ZE];exact h)]
 simp
theorem Jc {m n:Nat} (hm:m<4294967296) (h0:0<n) (hn:n<32):bitsV .or .u32 (shrV .u32 (m:Int) (n:Int)) (shlV .u32 (m:Int) (32-(n:Int)))=((rot (2 ^ (32-n)) (2 ^ n) m:Nat):Int):=by
 have hw:32-(n:Int)=((32-n:Nat):Int):=by omega
 rw [hw]
 have h1:IsN (m:Int) m:=⟨rfl,hm⟩
 have h2:=(h1.shr (c:=(n:Int)) (2 ^ n) (by rw [ZX,Nat.min_eq_left (by omega)];simp)).or (h1.shl (c:=((32-n:Nat):Int)) (2 ^ (32-n)) (by rw [ZX,Nat.min_eq_left (by omega)];simp))
 rw [h2.1,rot,Nat.or_comm]
theorem gu {m n:Nat} (hm:m<4294967296) (h0:0<n) (hn:n<32):rot (2 ^ (32-n)) (2 ^ n) m<4294967296:=by
 have h1:IsN (m:Int) m:=⟨rfl,hm⟩
 have h2:=(h1.shl (c:=((32-n:Nat):Int)) (2 ^ (32-n)) (by rw [ZX,Nat.min_eq_left (by omega)];simp)).or (h1.shr (c:=(n:Int)) (2 ^ n) (by rw [ZX,Nat.min_eq_left (by omega)];simp))
 exact h2.2
theorem di (m n:Nat) (hm:m<4294967296) (h0:0<n) (hn:n<32):Pu prog 242 #[.int .u32 (m:Int),.int .i64 (n:Int)] (fun _=>True) (.int .u32 ((rot (2 ^ (32-n)) (2 ^ n) m:Nat):Int)):=by
 refine ax func242 ntmps242 fun av bor w0=>?_
 rw [←Jc hm h0 hn]
 repeat' (first|refine gs ?_|fail)
 (refine bc ⟨[0,1,2,3,4,5,6,7,8],[]⟩ (h:=?_))
 all_goals repeat' (first|refine gd ?_|fail)
 repeat' (first|refine gs ?_|fail)
 all_goals exact ab (ag rfl rfl) rfl
theorem B6 {a b c d:Nat} (ha:a<256) (hb:b<256) (hc:c<256) (hd:d<256):wdN a b c d=a*16777216+b*65536+c*256+d:=by
 rw [wdN,ZC (show a*16777216<4294967296 by omega),ZC (show b*65536<4294967296 by omega),ZC (show c*256<4294967296 by omega)]
 have h1:a*16777216 ||| b*65536=a*16777216+b*65536:=by
  have:=Nat.two_pow_add_eq_or_of_lt (i:=24) (b:=b*65536) aa a
  rw [show a*16777216=2 ^ 24*a from by omega]
  exact this.symm
 have h2:(a*16777216+b*65536) ||| c*256=a*16777216+b*65536+c*256:=by
  have:=Nat.two_pow_add_eq_or_of_lt (i:=16) (b:=c*256) aa (a*256+b)
  rw [show a*16777216+b*65536=2 ^ 16*(a*256+b) from by omega]
  exact this.symm
 have h3:(a*16777216+b*65536+c*256) ||| d=a*16777216+b*65536+c*256+d:=by
  have:=Nat.two_pow_add_eq_or_of_lt (i:=8) (b:=d) aa (a*65536+b*256+c)
  rw [show a*16777216+b*65536+c*256=2 ^ 8*(a*65536+b*256+c) from by omega]
  exact this.symm
 rw [h1,h2,h3]
def row1 (l:List Nat) (k:Nat):List Nat:=(List.range k).map (fW l)
def row2 (l:List Nat) (k:Nat):List Nat:=(List.range (16+k)).map (sN (fW l) k)
theorem AC (l:List Nat) (k:Nat):row1 l (k+1)=row1 l k++[fW l k]:=by rw [row1,row1,List.range_succ,ZU];rfl
theorem AA (l:List Nat):row2 l 0=row1 l 16:=rfl
theorem tE (l:List Nat) {k t:Nat} (h:t<16+k):(row2 l k).getD t 0=sN (fW l) k t:=by
 rw [row2,Zp,Z5,List.getElem?_range h]
 rfl
theorem AB (l:List Nat) (k:Nat):row2 l (k+1)=row2 l k++[nextW (sN (fW l) k k) (sN (fW l) k (k+1)) (sN (fW l) k (k+9)) (sN (fW l) k (k+14))]:=by
 rw [row2,row2,show 16+(k+1)=(16+k)+1 from by omega,List.range_succ,ZU,ZZ,List.map_nil,vX]
 congr 1
 refine Qy fun t ht=>?_
 exact rD _ (by rw [List.mem_range] at ht;omega)
theorem jS (l:List Nat) (k:Nat):(row2 l k).length=16+k:=by simp [row2]
theorem Kp {l:List Nat} (h:∀ x∈l,x<256) (t:Nat):fW l t<4294967296:=by
 have g:=fun i=>fZ h i
 rw [fW,B6 (g _) (g _) (g _) (g _)]
 have g0:=g (4*t)
 have g1:=g (4*t+1)
 have g2:=g (4*t+2)
 have g3:=g (4*t+3)
 omega
theorem Ix (f:Nat→Nat) (h:∀ t,f t<4294967296):∀ k t,sN f k t<4294967296
 | 0,t=>h t
 | k+1,t=>by
  rw [sN]
  split
  · exact Qa _ aa
  · exact Ix f h k t
structure RowU (n:Nat) where
 k:Nat
 hk:k≤n
 A:Option Addr
 c:Nat
set_option maxRecDepth 20000 in
theorem ud (s:Xk) (l:List Nat) (hl:l.length=64) (hb:∀ x∈l,x<256):Mk prog 240 #[s.v] (fun w=>U8s w s l) (fun u X'=>∃ s':Xk,u=s'.v∧∀ w,X' w→U32s w s' (row2 l 48)):=by
 refine dm func240 ntmps240 fun av bor w0=>?_
 refine aQ (p:=s.n=64∧s.p.isSome=true) (fun w h=>⟨by rw [iT (f:=fun n=>.int .u8 (n:Int)) h,hl],gE (f:=fun n=>.int .u8 (n:Int)) h aa⟩) fun ⟨hsn,hsp⟩=>?_
 have hg:∀ i,l.getD i 0<256:=fun i=>fZ hb i
 repeat' (first|refine gs ?_|fail)
 refine cL 167 1 ?_
 refine aq (ι:=RowU 16) (fun i=>⟨[(0,s.v),(3,.slice i.A i.k i.c),(4,.int .i64 (i.k:Nat))],[orow 167 1 (.slice i.A i.k i.c) i.k (u32n (row1 l i.k))],fun w=>U8s w s l⟩) (fun i=>16-i.k) ⟨0,by omega,none,0⟩ (ai am (.cons_cons _ (Zt _)) fun _ h=>h) fun i=>?_
 obtain ⟨k,hk,A,c⟩:=i
 simp only
 repeat' (first|refine gs ?_|(refine gp ?_ ?_<;>intro hx_ this)|fail)
 · have hlt:k<16:=by omega
   have g0:=hg (4*k)
   have g1:=hg (4*k+1)
   have g2:=hg (4*k+2)
   have g3:=hg (4*k+3)
   have hfw:fW l k=l.getD (4*k) 0*16777216+l.getD (4*k+1) 0*65536+l.getD (4*k+2) 0*256+l.getD (4*k+3) 0:=B6 g0 g1 g2 g3
   obtain ⟨b0,e0⟩:∃ b,b=l.getD (4*k) 0:=⟨_,rfl⟩
   obtain ⟨b1,e1⟩:∃ b,b=l.getD (4*k+1) 0:=⟨_,rfl⟩
   obtain ⟨b2,e2⟩:∃ b,b=l.getD (4*k+2) 0:=⟨_,rfl⟩
   obtain ⟨b3,e3⟩:∃ b,b=l.getD (4*k+3) 0:=⟨_,rfl⟩
   rw [←e0] at g0 hfw
   rw [←e1] at g1 hfw
   rw [←e2] at g2 hfw
   rw [←e3] at g3 hfw
   have hget:∀ w,U8s w s l→∀ i,i<64→CellAt w s.p i (.int .u8 ((l.getD i 0:Nat):Int)):=fun w h i hi=>jR (f:=fun n=>.int .u8 (n:Int)) h aa
   (refine ap ⟨[0,1,2,3,4,5,6,7,8,9,10,11,12,13,14,15,16,17,18,19,20,21,22,23,24,25,26,27,28,29,30,31,32,33],[(34,⟨[],[(35,⟨[36],[]⟩)]⟩)]⟩ [] (fun w=>U8s w s l) (h:=?_))
   all_goals repeat' (first|refine ay (hy:=by first|(apply I6;rfl;rfl;omega)|(apply pS;rfl;exact vG aa)) ?_|refine gd ?_|refine ay (hy:=by first|(apply BW (a:=4) (b:=k);rfl;rfl;omega)|(apply vz (b:=16777216);rfl;rfl;omega)|(apply vz (b:=65536);rfl;rfl;omega)|(apply vz (b:=256);rfl;rfl;omega)|(apply aB (q:=4*k);rfl;rfl;omega;omega;assumption;omega)|(apply aB (q:=4*k+1);rfl;rfl;omega;omega;assumption;omega)|(apply aB (q:=4*k+2);rfl;rfl;omega;omega;assumption;omega)|(apply aB (q:=4*k+3);rfl;rfl;omega;omega;assumption;omega)|(apply dH (q:=4*k) (u:=.int .u8 (b0:Int));rfl;exact fun w h=>e0▸hget w h (4*k) aa)|(apply dH (q:=4*k+1) (u:=.int .u8 (b1:Int));rfl;exact fun w h=>e1▸hget w h (4*k+1) aa)|(apply dH (q:=4*k+2) (u:=.int .u8 (b2:Int));rfl;exact fun w h=>e2▸hget w h (4*k+2) aa)|(apply dH (q:=4*k+3) (u:=.int .u8 (b3:Int));rfl;exact fun w h=>e3▸hget w h (4*k+3) aa)) ?_|refine az ?_ (h':=?_)|exact aA|refine eC (vs:=[.int .u32 ((b0*16777216+b1*65536+b2*256+b3:Nat):Int)]) fun _=>?_|(refine jv ?_;refine aL (size:=1) (news:=u32n [b0*16777216+b1*65536+b2*256+b3]) (q:=1) rfl rfl rfl rfl (fun _=>At.there _ (At.here _)) (fun w G=>bN G ao rfl rfl 1) aa (by simp only [maxLen];omega) rfl ?_ rfl ?_;(with_reducible rfl);intro A2 c2)|fail)
   have hrow:=AC l k
   rw [hfw] at hrow
   repeat' (first|refine gs ?_|fail)
   exact ⟨(⟨k+1,hlt,A2,c2⟩:RowU 16),(by show 16-(k+1)<16-k;omega),ai am (by rw [hrow,u32n,ZU];exact .cons _ (ak _)) fun _ h=>h⟩
 · obtain rfl:k=16:=by omega
   rw [←AA]
   refine aq (ι:=RowU 48) (fun i=>⟨[(3,.slice i.A (16+i.k) i.c),(5,.int .i64 ((16+i.k:Nat):Int))],[orow 167 1 (.slice i.A (16+i.k) i.c) (16+i.k) (u32n (row2 l i.k))],fun w=>True⟩) (fun i=>48-i.k) ⟨0,by omega,A,c⟩ (ai am (ak _) fun _ h=>trivial) fun i=>?_
   obtain ⟨k,hk,A,c⟩:=i
   simp only
   refine bY ao (fun w h=>bK h aa) fun hAs=>?_
   repeat' (first|refine gs ?_|(refine gp ?_ ?_<;>intro hx_ this)|fail)
   · have hlt:k<48:=by omega
     have hm:∀ t,sN (fW l) k t<4294967296:=Ix _ (Kp hb) k
     have hA:∀ t,t<16+k→(u32n (row2 l k))[t]?=some (.int .u32 ((sN (fW l) k t:Nat):Int)):=fun t h=>by rw [sX (by rw [jS];exact h),tE l h]
     have hn:16+k=(u32n (row2 l k)).length:=by rw [sW,jS]
     have hg0:=hA k aa
     have hg1:=hA (k+1) aa
     have hg9:=hA (k+9) aa
     have hg14:=hA (k+14) aa
     have hnx:nextW (sN (fW l) k k) (sN (fW l) k (k+1)) (sN (fW l) k (k+9)) (sN (fW l) k (k+14))=(((sN (fW l) k k+s0N (sN (fW l) k (k+1)))%4294967296+sN (fW l) k (k+9))%4294967296+s1N (sN (fW l) k (k+14)))%4294967296:=rfl
     have hrow:=AB l k
     rw [hnx] at hrow
     have m1:=hm (k+1)
     have m14:=hm (k+14)
     obtain ⟨x0,e0⟩:∃ x,x=sN (fW l) k k:=⟨_,rfl⟩
     obtain ⟨x1,e1⟩:∃ x,x=sN (fW l) k (k+1):=⟨_,rfl⟩
     obtain ⟨x9,e9⟩:∃ x,x=sN (fW l) k (k+9):=⟨_,rfl⟩
     obtain ⟨x14,e14⟩:∃ x,x=sN (fW l) k (k+14):=⟨_,rfl⟩
     rw [←e0] at hg0 hrow
     rw [←e1] at hg1 m1 hrow
     rw [←e9] at hg9 hrow
     rw [←e14] at hg14 m14 hrow
     clear hA hm hnx
     have t7:=di x1 7 m1 aa aa
     have t18:=di x1 18 m1 aa aa
     have t17:=di x14 17 m14 aa aa
     have t19:=di x14 19 m14 aa aa
     have l7:=gu (n:=7) m1 aa aa
     have l18:=gu (n:=18) m1 aa aa
     have l17:=gu (n:=17) m14 aa aa
     have l19:=gu (n:=19) m14 aa aa
     have hs0:s0N x1=(rot (2 ^ (32-7)) (2 ^ 7) x1 ^^^ rot (2 ^ (32-18)) (2 ^ 18) x1) ^^^ (x1/8):=rfl
     have hs1:s1N x14=(rot (2 ^ (32-17)) (2 ^ 17) x14 ^^^ rot (2 ^ (32-19)) (2 ^ 19) x14) ^^^ (x14/1024):=rfl
     rw [hs0,hs1] at hrow
     clear hs0 hs1
     generalize rot (2 ^ (32-7)) (2 ^ 7) x1=r7 at *
     generalize rot (2 ^ (32-18)) (2 ^ 18) x1=r18 at *
     generalize rot (2 ^ (32-17)) (2 ^ 17) x14=r17 at *
     generalize rot (2 ^ (32-19)) (2 ^ 19) x14=r19 at *
     have lx:=Nat.xor_lt_two_pow (n:=32) l7 l18
     have ly:=Nat.xor_lt_two_pow (n:=32) l17 l19
     have d3:x1/8<4294967296:=by omega
     have d10:x14/1024<4294967296:=by omega
     repeat' (first|refine aT ?_ (mN rfl rfl (by assumption) (by assumption))|refine aT ?_ (vw (p:=8) rfl rfl (by decide) (by assumption) (by decide))|refine aT ?_ (vw (p:=1024) rfl rfl (by decide) (by assumption) (by decide))|(refine ae (hc:=t7) ?_)|(refine ae (hc:=t18) ?_)|(refine ae (hc:=t17) ?_)|(refine ae (hc:=t19) ?_)|refine gs ?_|(refine aD (q:=k+1) ?_)|(refine aD (q:=k+14) ?_)|(refine aT ?_ (ej rfl ao hn hg1))|(refine aT ?_ (ej rfl ao hn hg14))|fail)
     obtain ⟨v,hv⟩:∃ v,v=((((x0+(r7 ^^^ r18 ^^^ x1/8))%4294967296+x9)%4294967296+(r17 ^^^ r19 ^^^ x14/1024))%4294967296):=⟨_,rfl⟩
     rw [←hv] at hrow
     (refine ap ⟨[0,1,2,3,4,6,8,9,10,11,14],[(5,⟨[7],[(12,⟨[13,15],[(16,⟨[],[(17,⟨[18],[]⟩)]⟩)]⟩)]⟩),(12,⟨[],[(5,⟨[7,13,15],[(16,⟨[],[(17,⟨[18],[]⟩)]⟩)]⟩)]⟩)]⟩ [] (fun w=>True) (h:=?_))
     all_goals repeat' (first|refine ay (hy:=by (apply mU;rfl;rfl)) ?_|refine gd ?_|refine ay (hy:=by first|(apply aB (q:=k);rfl;rfl;omega;omega;assumption;omega)|(apply aB (q:=k+9);rfl;rfl;omega;omega;assumption;omega)) ?_|refine az ?_ (h':=?_)|exact aA|(refine aT ?_ (ej rfl ao hn hg0))|(refine aT ?_ (ej rfl ao hn hg9))|((rw [←hv];refine eC (vs:=[.int .u32 (v:Int)]) fun _=>?_))|(refine jv ?_;refine aL (size:=1) (news:=u32n [v]) (q:=1) rfl rfl rfl rfl (fun _=>At.there _ (At.here _)) (fun w G=>bN G ao rfl rfl 1) aa (by simp only [maxLen];omega) rfl ?_ rfl ?_;(with_reducible rfl);intro A2 c2)|fail)
     all_goals
      repeat' (first|refine gs ?_|fail)
      exact ⟨(⟨k+1,hlt,A2,c2⟩:RowU 48),(by show 48-(k+1)<48-k;omega),ai am (by rw [hrow,u32n,ZU];exact .cons _ (ak _)) fun _ h=>h⟩
   · obtain rfl:k=48:=by omega
     exact ab (ag rfl rfl) ⟨⟨A,64,c⟩,rfl,fun w h=>U32s.of_row (h.2 (orow 167 1 (.slice A (16+48) c) (16+48) (u32n (row2 l 48))) ao) (by rw [jS])⟩
def S8.l (s:S8):List Nat:=[s.a,s.b,s.c,s.d,s.e,s.f,s.g,s.h]
structure S8.Lt (s:S8):Prop where
 a:s.a<4294967296
 b:s.b<4294967296
 c:s.c<4294967296
 d:s.d<4294967296
 e:s.e<4294967296
 f:s.f<4294967296
 g:s.g<4294967296
 h:s.h<4294967296
theorem tF (s:S8) (k w:Nat):roundN s k w=⟨(t1N s.h s.e s.f s.g k w+t2N s.a s.b s.c)%4294967296,s.a,s.b,s.c,(s.d+t1N s.h s.e s.f s.g k w)%4294967296,s.e,s.f,s.g⟩:=by
 obtain ⟨a,b,c,d,e,f,g,h⟩:=s
 simp only [roundN,oX]
theorem S8.Lt.round {s:S8} (h:s.Lt) (k w:Nat):(roundN s k w).Lt:=by
 rw [tF]
 exact ⟨Qa _ aa,h.a,h.b,h.c,Qa _ aa,h.e,h.f,h.g⟩
def rndN (f:Nat→Nat) (s:S8):Nat→S8
 | 0=>s
 | i+1=>roundN (rndN f s i) (kN.getD i 0) (sN f 48 i)
theorem DD (f:Nat→Nat) {s:S8} (h:s.Lt):∀ i,(rndN f s i).Lt
 | 0=>h
 | i+1=>(DD f h i).round _ _
theorem GV (f:Nat→Nat) {i:Nat} (h:i<64):sN f 48 i=sN f i i:=by
 by_cases hi:i≤48
 · have:=jO f (k:=i) (t:=i) (48-i) aa
   rw [show i+(48-i)=48 from by omega] at this
   exact this
 · have:=jO f (k:=48) (t:=i) (i-48) aa
   rw [show 48+(i-48)=i from by omega] at this
   exact this.symm
theorem tH (f:Nat→Nat) (s:S8):∀ i,i≤64→(kN.take i).foldl stepN (s,winN f 0)=(rndN f s i,winN f i)
 | 0,_=>rfl
 | i+1,h=>by
  have hl:kN.length=64:=by kernel_rfl
  have e:kN.take (i+1)=kN.take i++[kN.getD i 0]:=by
   rw [Qe,Zp,Zc (by omega)]
   rfl
  rw [e,List.foldl_append,tH f s i aa,QE,List.foldl_nil,tq,pU,rndN,GV f (by omega)]
  have hw:(winN f i).w0=sN f i i:=by unfold winN;rfl
  rw [hw]
theorem vY (f:Nat→Nat) (s:S8):roundsN kN s (winN f 0)=rndN f s 64:=by
 have hl:kN.length=64:=by kernel_rfl
 have h:=tH f s 64 (ZV _)
 rw [Qd (by omega)] at h
 rw [roundsN,h]
theorem Kn (s:S8) (w:W16):(mixN s w).l=[(s.a+(roundsN kN s w).a)%4294967296,(s.b+(roundsN kN s w).b)%4294967296,(s.c+(roundsN kN s w).c)%4294967296,(s.d+(roundsN kN s w).d)%4294967296,(s.e+(roundsN kN s w).e)%4294967296,(s.f+(roundsN kN s w).f)%4294967296,(s.g+(roundsN kN s w).g)%4294967296,(s.h+(roundsN kN s w).h)%4294967296]:=by
 rw [mixN]
 generalize roundsN kN s w=t
 obtain ⟨a,b,c,d,e,f,g,h⟩:=s
 obtain ⟨a',b',c',d',e',f',g',h'⟩:=t
 simp only [addN,oX,S8.l]
theorem JI (s:S8) (w:W16):(mixN s w).Lt:=by
 rw [mixN]
 generalize roundsN kN s w=t
 obtain ⟨a,b,c,d,e,f,g,h⟩:=s
 obtain ⟨a',b',c',d',e',f',g',h'⟩:=t
 simp only [addN,oX]
 exact ⟨Qa _ aa,Qa _ aa,Qa _ aa,Qa _ aa,Qa _ aa,Qa _ aa,Qa _ aa,Qa _ aa⟩
theorem JP:iniN.Lt:=⟨by decide,by decide,by decide,by decide,by decide,by decide,by decide,by decide⟩
set_option maxRecDepth 8000 in
theorem rL:Mk prog 160 #[] (fun _=>True) (fun u X'=>∃ s':Xk,u=s'.v∧∀ w,X' w→U32s w s' iniN.l):=by
 refine dm func160 ntmps160 fun av bor w0=>?_
 repeat' (first|(refine eC (vs:=u32n iniN.l) fun b=>?_;refine ru 1 8 rfl (by decide) ?_)|refine gs ?_|fail)
 exact ab (ag rfl rfl) ⟨⟨some ⟨b,0,none⟩,8,8⟩,rfl,fun w h=>U32s.of_row (h.2 _ ao) rfl⟩
set_option maxRecDepth 20000 in
theorem wg:Mk prog 241 #[] (fun _=>True) (fun u X'=>∃ s':Xk,u=s'.v∧∀ w,X' w→U32s w s' kN):=by
 refine dm func241 ntmps241 fun av bor w0=>?_
 repeat' (first|(refine eC (vs:=u32n kN) fun b=>?_;refine ru 1 64 rfl (by decide) ?_)|refine gs ?_|fail)
 exact ab (ag rfl rfl) ⟨⟨some ⟨b,0,none⟩,64,64⟩,rfl,fun w h=>U32s.of_row (h.2 _ ao) aj⟩
end Go.Proofs.YtaolfiikahlmkaaGreatDoor
namespace Go.Proofs.YtaolfiikahlmkaaGreatDoor
open Go Go.Proofs Sy Tryz
section
variable {P:Program} {N:Nat} {av bor:List Nat} {w0:World} {st:St} {ty:TypeId} {x y:Operand} {t t2:TypeId} {k:IntKind}
theorem mR {a b:Int} (v:Bool) (hx:ev st.env x=some (.int k a)) (hy:ev st.env y=some (.int k b)) (hv:decide (a=b)=v):Sy.Yields P N av bor w0 st (.binOp .eql t x y t2) ty (.bool v):=hv▸lI hx hy
theorem mB {a b:ByteArray} (v:Bool) (hx:ev st.env x=some (.string a)) (hy:ev st.env y=some (.string b)) (hv:seqB a b=v):Sy.Yields P N av bor w0 st (.binOp .eql t x y t2) ty (.bool v):=hv▸kJ hx hy
end
def NoteAt (r:Xl) (s:Xk) (P:List Xd) (i:Nat) (p p1:Xd) (u:Value) (R:List Xl) (X:World→Prop):Prop:=u=.tuple #[]∧∃ (p':Xd) (ex:List Xl),p'.can=p1.can∧p'.to=p.to∧p'.toL=p.toL∧R=ex++[r,postR s (P.set i p'),edR p']
theorem fm {P:List Xd} {i:Nat} {p:Xd} (h:P[i]?=some p):P.set i p=P:=by
 obtain ⟨h1,rfl⟩:=QI.1 h
 exact List.set_getElem_self h1
theorem ua {X:World→Prop} (r:Xl) (s:Xk) (P:List Xd) (i:Nat) (p:Xd) (u:Value) (k:Nat) (hs:s.n=P.length) (hi:P[i]?=some p):Ct prog 105 #[u,elP s.p (i*11),.int .i64 (k:Nat)] [r,postR s P,edR p] X (NoteAt r s P i p (goneP p)):=by
 refine cP func105 ntmps105 fun av bor w0=>?_
 have hil:=(QI.1 hi).1
 refine bY (r:=postR s P) (Zu _ ao) (p:=0<s.n→s.p.isSome=true) (fun w h hn=>bK h hn) fun hp=>?_
 have hp':=hp aa
 obtain ⟨ad,had⟩:=QM.1 hp'
 repeat' (first|refine gs ?_|(refine ro (ad:=ad) (hp:=had) ?_)|(refine d6 ?_)|(refine xP (goneP p) (i:=i) (j:=10) (hi:=hi) (hj:=by decide) (hc:=rfl) (hn:=hs) (hsz:=by kernel_rfl) (hv:=rfl) (h1:=rfl) (hA:=At.there _ (At.here _)) (h:=?_))|fail)
 exact aR (aH rfl) ⟨rfl,goneP p,[],rfl,rfl,rfl,rfl⟩
theorem Bu (c:Xb) (s:Xk) (P:List Xd) (i:Nat) (p:Xd) (b q1 q2 k:Nat) (x:Xa) (hs:s.n=P.length) (hi:P[i]?=some p) (hx:c.actsL[k]?=some x) (hk:k≤1000000) (hel:p.ed.n=p.edL.length) (hem:p.ed.n≤1000000) :
  Ct prog 106 #[.pointer (some ⟨b,0,none⟩),elP s.p (i*11),.int .i64 (k:Nat)] [cel b 178 (regC c s.v q1 q2),postR s P,edR p] (fun w=>(c.at_ w∧Xe w)∧Strs w p.to p.toL) (NoteAt (cel b 178 (regC c s.v q1 q2)) s P i p (editP x k p)):=by
 refine cP func106 ntmps106 fun av bor w0=>?_
 have hil:=(QI.1 hi).1
 have hkl:=(QI.1 hx).1
 refine bY (r:=postR s P) (Zu _ ao) (p:=0<s.n→s.p.isSome=true) (fun w h hn=>bK h hn) fun hp=>?_
 have hp':=hp aa
 obtain ⟨ad,had⟩:=QM.1 hp'
 refine aQ (p:=c.acts.n=c.actsL.length∧(0<c.actsL.length→c.acts.p.isSome=true)) (fun w h=>⟨h.1.1.len_,h.1.1.some_⟩) fun ⟨hl,hpa⟩=>?_
 have hpa':=hpa aa
 have heq:=Br x.to p.to x.toL p.toL
 repeat' (first|refine gs ?_|refine gs1 fun _=>?_|(refine aD (q:=k*20) ?_)|(refine aN (cs:=x.cells) (hF:=fun w h=>Acts.get h.1.1 hx) ?_)|fail)
 rename_i b6
 cases hg:p.gone with
 | true =>
  have h10:p.cells[10]?=some (.bool true):=by rw [←hg];rfl
  have hE:editB x p=false:=by rw [editB,hg];rfl
  (refine ap ⟨[0,1,2,3,4,5,6,7,8,9,10,11,12,13,14,15,16,17,18,19,20,21,22,23,24,25,26,27,28,29],[(30,⟨[31],[]⟩)]⟩ [cel b6 46 x.cells,cel b 178 (regC c s.v q1 q2),postR s P,edR p] (fun w=>(c.at_ w∧Xe w)∧Strs w p.to p.toL) (h:=?_))
  all_goals repeat' (first|refine gd ?_|refine ay (hy:=by first|(apply kK (ad:=ad);rfl;exact had)|(apply ez;rfl;exact hp';rfl)|(apply ew (i:=i) (j:=10) (P:=P) (p:=p) (u:=.bool true);rfl;exact Zu _ (Zu _ ao);exact hs;exact hi;exact h10)) ?_|refine az ?_ (h':=?_)|exact aA|fail)
  all_goals
   repeat' (first|refine gs ?_|fail)
   first
    | exact aR (aH rfl) ⟨rfl,p,[cel b6 46 x.cells],by rw [editP,hE];rfl,rfl,rfl,by rw [fm hi];rfl⟩
    | exact ab (aH rfl) ⟨rfl,p,[cel b6 46 x.cells],by rw [editP,hE];rfl,rfl,rfl,by rw [fm hi];rfl⟩
 | false =>
  have h10:p.cells[10]?=some (.bool false):=by rw [←hg];rfl
  by_cases hsc:x.scope=p.scope
  · cases hgr:seqB x.group p.group with
    | false =>
     have hE:editB x p=false:=by rw [editB,hgr,Zl];rfl
     (refine ap ⟨[0,1,2,3,4,5,6,7,8,9,10,11,12,13,14,15,16,17,18,19,20,21,22,23,24,25,26,27,28,29],[(30,⟨[31],[]⟩)]⟩ [cel b6 46 x.cells,cel b 178 (regC c s.v q1 q2),postR s P,edR p] (fun w=>(c.at_ w∧Xe w)∧Strs w p.to p.toL) (h:=?_))
     all_goals repeat' (first|refine ay (hy:=by first|(apply mR true;rfl;rfl;exact Ze hsc)|(apply mB false;rfl;rfl;exact hgr)) ?_|refine gd ?_|refine ay (hy:=by first|(apply kK (ad:=ad);rfl;exact had)|(apply ez;rfl;exact hp';rfl)|(apply ew (i:=i) (j:=10) (P:=P) (p:=p) (u:=.bool false);rfl;exact Zu _ (Zu _ ao);exact hs;exact hi;exact h10)|(apply ew (i:=i) (j:=4) (P:=P) (p:=p) (u:=.int .i64 p.scope);rfl;exact Zu _ (Zu _ ao);exact hs;exact hi;exact rfl)|(apply ew (i:=i) (j:=5) (P:=P) (p:=p) (u:=.string p.group);rfl;exact Zu _ (Zu _ ao);exact hs;exact hi;exact rfl)) ?_|refine az ?_ (h':=?_)|exact aA|fail)
     all_goals
      repeat' (first|refine gs ?_|fail)
      first
       | exact aR (aH rfl) ⟨rfl,p,[cel b6 46 x.cells],by rw [editP,hE];rfl,rfl,rfl,by rw [fm hi];rfl⟩
       | exact ab (aH rfl) ⟨rfl,p,[cel b6 46 x.cells],by rw [editP,hE];rfl,rfl,rfl,by rw [fm hi];rfl⟩
    | true =>
     have hEq:editB x p=eqL x.toL p.toL:=by rw [editB,hg,hgr,Ze hsc];rfl
     cases hE:eqL x.toL p.toL with
     | false =>
      rw [hE] at heq hEq
      have hE:=hEq
      (refine ap ⟨[0,1,2,3,4,5,6,7,8,9,10,11,12,13,14,15,16,17,18,19,20,21,22,23,24,25,26,27,28,29],[(30,⟨[31],[]⟩)]⟩ [cel b6 46 x.cells,cel b 178 (regC c s.v q1 q2),postR s P,edR p] (fun w=>(c.at_ w∧Xe w)∧Strs w p.to p.toL) (h:=?_))
      all_goals repeat' (first|refine ay (hy:=by first|(apply mR true;rfl;rfl;exact Ze hsc)|(apply mB true;rfl;rfl;exact hgr)) ?_|(refine ae (hc:=heq) (hX:=fun w h=>⟨(h.1.1.2 x (Z4 hx)).1,h.2⟩) ?_)|refine gd ?_|refine ay (hy:=by first|(apply kK (ad:=ad);rfl;exact had)|(apply ez;rfl;exact hp';rfl)|(apply ew (i:=i) (j:=10) (P:=P) (p:=p) (u:=.bool false);rfl;exact Zu _ (Zu _ ao);exact hs;exact hi;exact h10)|(apply ew (i:=i) (j:=4) (P:=P) (p:=p) (u:=.int .i64 p.scope);rfl;exact Zu _ (Zu _ ao);exact hs;exact hi;exact rfl)|(apply ew (i:=i) (j:=5) (P:=P) (p:=p) (u:=.string p.group);rfl;exact Zu _ (Zu _ ao);exact hs;exact hi;exact rfl)|(apply ew (i:=i) (j:=6) (P:=P) (p:=p) (u:=p.to.v);rfl;exact Zu _ (Zu _ ao);exact hs;exact hi;exact rfl)) ?_|refine az ?_ (h':=?_)|exact aA|fail)
      all_goals
       repeat' (first|refine gs ?_|fail)
       first
        | exact aR (aH rfl) ⟨rfl,p,[cel b6 46 x.cells],by rw [editP,hE];rfl,rfl,rfl,by rw [fm hi];rfl⟩
        | exact ab (aH rfl) ⟨rfl,p,[cel b6 46 x.cells],by rw [editP,hE];rfl,rfl,rfl,by rw [fm hi];rfl⟩
     | true =>
      rw [hE] at heq hEq
      have hE:=hEq
      (refine ap ⟨[0,1,2,3,4,5,6,7,8,9,10,11,12,13,14,15,16,17,18,19,20,21,22,23,24,25,26,27,28,29],[(30,⟨[31],[]⟩)]⟩ [cel b6 46 x.cells,cel b 178 (regC c s.v q1 q2),postR s P,edR p] (fun w=>(c.at_ w∧Xe w)∧Strs w p.to p.toL) (h:=?_))
      all_goals repeat' (first|refine ay (hy:=by first|(apply mR true;rfl;rfl;exact Ze hsc)|(apply mB true;rfl;rfl;exact hgr)) ?_|(refine ae (hc:=heq) (hX:=fun w h=>⟨(h.1.1.2 x (Z4 hx)).1,h.2⟩) ?_)|refine gd ?_|refine ay (hy:=by first|(apply kK (ad:=ad);rfl;exact had)|(apply ez;rfl;exact hp';rfl)|(apply ew (i:=i) (j:=10) (P:=P) (p:=p) (u:=.bool false);rfl;exact Zu _ (Zu _ ao);exact hs;exact hi;exact h10)|(apply ew (i:=i) (j:=4) (P:=P) (p:=p) (u:=.int .i64 p.scope);rfl;exact Zu _ (Zu _ ao);exact hs;exact hi;exact rfl)|(apply ew (i:=i) (j:=5) (P:=P) (p:=p) (u:=.string p.group);rfl;exact Zu _ (Zu _ ao);exact hs;exact hi;exact rfl)|(apply ew (i:=i) (j:=6) (P:=P) (p:=p) (u:=p.to.v);rfl;exact Zu _ (Zu _ ao);exact hs;exact hi;exact rfl)) ?_|refine az ?_ (h':=?_)|exact aA|fail)
      all_goals
       repeat' (first|refine gs ?_|refine gs1 fun _=>?_|(refine ro (ad:=ad) (hp:=had) ?_)|(refine d6 ?_)|(refine al (ew (i:=i) (j:=9) (P:=P) (p:=p) (u:=p.ed.v) rfl (Zu _ (Zu _ ao)) hs hi rfl) rfl rfl rfl ?_)|fail)
       rename_i bn
       refine aL (size:=1) (news:=[.int .i64 (k:Nat)]) (q:=1) rfl rfl rfl rfl (fun _=>At.there _ (At.there _ (At.there _ (At.there _ (At.here _))))) (fun w G=>bN G ao rfl rfl 1) aa (by simp only [maxLen];omega) rfl ?_ rfl ?_
       · (with_reducible rfl)
       intro A2 c2
       repeat' (first|refine gs ?_|(refine ro (ad:=ad) (hp:=had) ?_)|(refine d6 ?_)|(refine xP { p with ed:=⟨A2,p.ed.n+1,c2⟩,edL:=p.edL++[(k:Int)] } (i:=i) (j:=9) (hi:=hi) (hj:=by decide) (hc:=rfl) (hn:=hs) (hsz:=by kernel_rfl) (hv:=rfl) (h1:=rfl) (hA:=At.there _ (At.there _ (At.there _ (At.here _)))) (h:=?_))|fail)
       refine aR (aH rfl) ⟨rfl,{ p with ed:=⟨A2,p.ed.n+1,c2⟩,edL:=p.edL++[(k:Int)] },[cel bn 3 [.int .i64 (k:Nat)],cel b6 46 x.cells],by rw [editP,hE];rfl,rfl,rfl,?_⟩
       simp only [edR,ZU,ZZ,List.map_nil]
       rfl
  · have hE:editB x p=false:=by rw [editB,Zd hsc,Zl];rfl
    (refine ap ⟨[0,1,2,3,4,5,6,7,8,9,10,11,12,13,14,15,16,17,18,19,20,21,22,23,24,25,26,27,28,29],[(30,⟨[31],[]⟩)]⟩ [cel b6 46 x.cells,cel b 178 (regC c s.v q1 q2),postR s P,edR p] (fun w=>(c.at_ w∧Xe w)∧Strs w p.to p.toL) (h:=?_))
    all_goals repeat' (first|refine ay (hy:=by (apply mR false;rfl;rfl;exact Zd hsc)) ?_|refine gd ?_|refine ay (hy:=by first|(apply kK (ad:=ad);rfl;exact had)|(apply ez;rfl;exact hp';rfl)|(apply ew (i:=i) (j:=10) (P:=P) (p:=p) (u:=.bool false);rfl;exact Zu _ (Zu _ ao);exact hs;exact hi;exact h10)|(apply ew (i:=i) (j:=4) (P:=P) (p:=p) (u:=.int .i64 p.scope);rfl;exact Zu _ (Zu _ ao);exact hs;exact hi;exact rfl)) ?_|refine az ?_ (h':=?_)|exact aA|fail)
    all_goals
     repeat' (first|refine gs ?_|fail)
     first
      | exact aR (aH rfl) ⟨rfl,p,[cel b6 46 x.cells],by rw [editP,hE];rfl,rfl,rfl,by rw [fm hi];rfl⟩
      | exact ab (aH rfl) ⟨rfl,p,[cel b6 46 x.cells],by rw [editP,hE];rfl,rfl,rfl,by rw [fm hi];rfl⟩
end Go.Proofs.YtaolfiikahlmkaaGreatDoor
namespace Go.Proofs.YtaolfiikahlmkaaGreatDoor
open Go Go.Proofs Sy Tryz
theorem Fl {P:List Xd} {n:Nat} {p:Xd} (h:P[n]?=some p):(P.map edR).Perm (edR p::(P.eraseIdx n).map edR):=by
 obtain ⟨h1,rfl⟩:=QI.1 h
 have e:P=P.take n++P[n]::P.drop (n+1):=by rw [←List.drop_eq_getElem_cons h1,Qq]
 rw [List.eraseIdx_eq_take_drop_succ]
 conv=>lhs;rw [e]
 rw [ZU,ZZ,ZU]
 exact List.perm_middle
theorem permA (c m2 m1 po e:Xl) (E:List Xl):([c,m2,m1,po]++(e::E)).Perm ([c,po,e]++([m2,m1]++E)):=by
 have h:=(QP (l₁:=[m2,m1]) (l₂:=[po,e])).append_right E
 simpa using h.cons c
theorem permB (c m2 m1 po:Xl) {P:List Xd} {n:Nat} {p:Xd} (h:P[n]?=some p):([c,m2,m1,po]++P.map edR).Perm ([c,po,edR p]++([m2,m1]++(P.eraseIdx n).map edR)) :=
 ((Fl h).append_left _).trans (permA c m2 m1 po (edR p) _)
theorem ko {P:List Xd} {n:Nat} {p:Xd}:(P.set n p).eraseIdx n=P.eraseIdx n:=by
 rw [List.eraseIdx_set_eq]
theorem permC (ex:List Xl) (c m2 m1 po:Xl) {P:List Xd} {n:Nat} {p':Xd} (h:n<P.length):((ex++[c,po,edR p'])++([m2,m1]++(P.eraseIdx n).map edR)).Perm (ex++([c,m2,m1,po]++(P.set n p').map edR)):=by
 have h1:=permB c m2 m1 po (P:=P.set n p') (n:=n) (p:=p') (by simp [h])
 rw [ko] at h1
 rw [ZB]
 exact (h1.symm).append_left ex
section
variable {P:Program} {N:Nat} {av bor:List Nat} {w0:World} {ops:Array Oper} {rest:List Oper} {kk:St→Prop} {E:Env} {loc:List Xl} {X:World→Prop} {x y:Operand} {t t2:TypeId}
variable {n:Nat} {ty:TypeId} {pos:String} {af:Array Edge} {g:Option (Nat×Bool)} {bb want:Bool}
theorem GJ {k:IntKind} {a b:Int} [hI:Xs P t k] (h:Sw P N av bor w0 ops rest ⟨(n,.bool true)::E,loc,X⟩ kk) (hx:ev E x=some (.int k a):=by rfl) (hy:ev E y=some (.int k b):=by rfl) (hab:b≤a:=by first|omega|decide) (hg:gdB ops E g=some (bb,want):=by rfl) (hbb:bb=want:=by exact aw) (hd:Nat.blt n N=true:=by rfl) :
  Sw P N av bor w0 ops (⟨some n,.binOp .geq t x y t2,ty,pos,af,g⟩::rest) ⟨E,loc,X⟩ kk:=gT (hx:=hx) (hy:=hy) (hg:=hg) (hbb:=hbb) (hd:=hd) (h:=by
   have e:∀ u,u=Value.bool true→Sw P N av bor w0 ops rest ⟨(n,u)::E,loc,X⟩ kk:=fun u hu=>hu▸h
   exact e _ (by simp [hab]))
end
structure Eh (P Q:List Xd):Prop where
 to:Q.map (fun p=>(p.to,p.toL,p.pos))=P.map fun p=>(p.to,p.toL,p.pos)
theorem Ap {α:Type} {P:List α} {i:Nat} {p:α} (h:P[i]?=some p):P.set i p=P:=by
 obtain ⟨h1,rfl⟩:=QI.1 h
 exact List.set_getElem_self h1
def ReferAt (c:Xb) (r m2 m1:Xl) (s:Xk) (P:List Xd) (k:Nat) (g:Xd→Xd) (u:Value) (R:List Xl) (X:World→Prop):Prop:=u=.tuple #[]∧∃ (Q:List Xd) (ex:List Xl),Q.map Xd.can=modP (P.map Xd.can) (refV c.actsL P k) g∧Eh P Q∧R=ex++([r,m2,m1,postR s Q]++Q.map edR)
theorem uc (c:Xb) (s:Xk) (P:List Xd) (b q1 q2 k nf:Nat) (hnf:Xv prog nf) (pl:List (ByteArray×Value)) (num:List (Int×Value)) (x:Xa) (g:Xd→Xd) (hs:s.n=P.length) (hx:c.actsL[k]?=some x) (hkm:k≤1000000)
  (hpl:∀ d,mget pl d=(idxV c.actsL d).map fun (j:Nat)=>Value.int .i64 (j:Int)) (hnum:∀ j:Nat,mget num (j:Int)=(posP P j).map fun (n:Nat)=>Value.int .i64 (n:Int)) (hcl:c.actsL.length≤1000000) (hPm:P.length≤1000000)
  (hg:∀ p,(g p).can=g p.can) (hgp:∀ p,(g p).pos=p.pos)
  (hnote:∀ n p,P[n]?=some p→Ct prog nf #[.pointer (some ⟨b,0,none⟩),elP s.p (n*11),.int .i64 (k:Nat)] [cel b 178 (regC c s.v q1 q2),postR s P,edR p] (fun w=>(c.at_ w∧Xe w)∧Strs w p.to p.toL) (NoteAt (cel b 178 (regC c s.v q1 q2)) s P n p (g p))) :
  Ct prog 104 #[.pointer (some ⟨b,0,none⟩),.int .i64 (k:Nat),.func (.func nf) #[.pointer (some ⟨b,0,none⟩)] #[]] ([cel b 178 (regC c s.v q1 q2),mapr q2 pl,mapr q1 num,postR s P]++P.map edR) (fun w=>(c.at_ w∧Xe w)∧∀ p∈P,Strs w p.to p.toL)
   (ReferAt c (cel b 178 (regC c s.v q1 q2)) (mapr q2 pl) (mapr q1 num) s P k g):=by
 refine cP func104 ntmps104 fun av bor w0=>?_
 have hkl:=(QI.1 hx).1
 refine bY (r:=postR s P) (by simp) (p:=0<s.n→s.p.isSome=true) (fun w h hn=>bK h hn) fun hp=>?_
 refine aQ (p:=c.acts.n=c.actsL.length∧(0<c.actsL.length→c.acts.p.isSome=true)) (fun w h=>⟨h.1.1.len_,h.1.1.some_⟩) fun ⟨hl,hpa⟩=>?_
 have hpa':=hpa aa
 have hxD:c.actsL.getD k Xa.zero=x:=by rw [Zp,hx];rfl
 have hlk:=hpl x.object
 have hM0:∀ {o},refV c.actsL P k=o→o=none→P.map Xd.can=modP (P.map Xd.can) (refV c.actsL P k) g:=fun {o} h1 h2=>by rw [h1,h2];rfl
 simp only [ZJ,ZK]
 cases hj:idxV c.actsL x.object with
 | none =>
  rw [hj] at hlk
  have hR:refV c.actsL P k=none:=by rw [refV,hxD,hj]
  repeat apply QQ
  (refine ap ⟨[0,1,2,3,4,5,6,7,8,9,10,11,12],[(13,⟨[14,15,16,17,18],[]⟩)]⟩ [cel b 178 (regC c s.v q1 q2)] (fun w=>(c.at_ w∧Xe w)∧∀ p∈P,Strs w p.to p.toL) (h:=?_))
  all_goals repeat' (first|refine gd ?_|refine ay (hy:=by first|(apply aB (q:=k*20);rfl;rfl;omega;omega;assumption;(rfl))|(apply ez;rfl;exact hpa';rfl)|(apply dH (q:=k*20+5) (u:=.string x.object);rfl;exact (fun w h=>(Acts.get h.1.1 hx).2.2 5 _ rfl))) ?_|refine az ?_ (h':=?_)|exact aA|(refine co (κ:=ByteArray) (kk:=x.object) (b:=false) (v:=.int .i64 0) (hl:=de (Zu _ ao)) (ho:=hlk) ?_)|fail)
  all_goals
   repeat' (first|refine gs ?_|fail)
   first
    | exact ab (aH rfl) ⟨rfl,P,[],hM0 hR rfl,⟨rfl⟩,rfl⟩
    | exact aR (aH rfl) ⟨rfl,P,[],hM0 hR rfl,⟨rfl⟩,rfl⟩
 | some j =>
  rw [hj] at hlk
  have hjl:=rY hj
  by_cases hjk:j<k
  · have hlk2:=hnum j
    cases hn:posP P j with
    | none =>
     rw [hn] at hlk2
     have hR:refV c.actsL P k=none:=by
      rw [refV,hxD,hj]
      simp only [Ze hjk,Zg,hn]
     repeat apply QQ
     (refine ap ⟨[0,1,2,3,4,5,6,7,8,9,10,11,12],[(13,⟨[14,15,16,17,18],[]⟩)]⟩ [cel b 178 (regC c s.v q1 q2)] (fun w=>(c.at_ w∧Xe w)∧∀ p∈P,Strs w p.to p.toL) (h:=?_))
     all_goals repeat' (first|refine gd ?_|refine ay (hy:=by first|(apply aB (q:=k*20);rfl;rfl;omega;omega;assumption;(rfl))|(apply ez;rfl;exact hpa';rfl)|(apply dH (q:=k*20+5) (u:=.string x.object);rfl;exact (fun w h=>(Acts.get h.1.1 hx).2.2 5 _ rfl))) ?_|refine az ?_ (h':=?_)|exact aA|(refine co (κ:=ByteArray) (kk:=x.object) (b:=true) (v:=.int .i64 (j:Nat)) (hl:=de (Zu _ ao)) (ho:=hlk) ?_)|fail)
     all_goals
      repeat' (first|refine rs ?_|refine gs ?_|(refine co (κ:=Int) (kk:=(j:Int)) (b:=false) (v:=.int .i64 0) (hl:=de (Zu _ (Zu _ ao))) (ho:=hlk2) ?_)|fail)
      first
       | exact ab (aH rfl) ⟨rfl,P,[],hM0 hR rfl,⟨rfl⟩,rfl⟩
       | exact aR (aH rfl) ⟨rfl,P,[],hM0 hR rfl,⟨rfl⟩,rfl⟩
    | some n =>
     rw [hn] at hlk2
     have hnl:=Hn hn
     obtain ⟨p,hpn⟩:∃ p,P[n]?=some p:=⟨_,Zc hnl⟩
     have hp':=hp aa
     have hR:refV c.actsL P k=some n:=by
      rw [refV,hxD,hj]
      simp only [Ze hjk,Zg,hn]
     have hpm:=Z4 hpn
     have hno:=hnote n p hpn
     repeat apply QQ
     (refine ap ⟨[0,1,2,3,4,5,6,7,8,9,10,11,12],[(13,⟨[14,15,16,17,18],[]⟩)]⟩ [cel b 178 (regC c s.v q1 q2)] (fun w=>(c.at_ w∧Xe w)∧∀ p∈P,Strs w p.to p.toL) (h:=?_))
     all_goals repeat' (first|refine gd ?_|refine ay (hy:=by first|(apply aB (q:=k*20);rfl;rfl;omega;omega;assumption;(rfl))|(apply ez;rfl;exact hpa';rfl)|(apply dH (q:=k*20+5) (u:=.string x.object);rfl;exact (fun w h=>(Acts.get h.1.1 hx).2.2 5 _ rfl))) ?_|refine az ?_ (h':=?_)|exact aA|(refine co (κ:=ByteArray) (kk:=x.object) (b:=true) (v:=.int .i64 (j:Nat)) (hl:=de (Zu _ ao)) (ho:=hlk) ?_)|fail)
     all_goals
      repeat' (first|refine rs ?_|refine gs ?_|(refine co (κ:=Int) (kk:=(j:Int)) (b:=true) (v:=.int .i64 (n:Nat)) (hl:=de (Zu _ (Zu _ ao))) (ho:=hlk2) ?_)|(refine aD (q:=n*11) ?_)|fail)
      refine cM (permB _ _ _ _ hpn) ?_
      refine bO (first:=#[.pointer (some ⟨b,0,none⟩)]) (caps:=#[]) (pre:=[cel b 178 (regC c s.v q1 q2),postR s P,edR p]) (fr:=[mapr q2 pl,mapr q1 num]++(P.eraseIdx n).map edR) (hc:=hno) (hX:=fun w h=>⟨h.1,h.2 p hpm⟩) (h:=?_)
      rintro _ _ X' ⟨rfl,p',ex,hcan,hto,htl,rfl⟩
      refine cM (permC ex _ _ _ _ hnl) ?_
      repeat' (first|refine gs ?_|fail)
      have hpos:p'.pos=p.pos:=(congrArg Xd.pos hcan).trans (hgp p)
      refine aR (aH rfl) ⟨rfl,P.set n p',ex,?_,⟨?_⟩,rfl⟩
      · rw [hR]
        show (P.set n p').map Xd.can=(P.map Xd.can).set n (g ((P.map Xd.can).getD n Xd.zero))
        rw [List.map_set,Bf,Zp,hpn,Qc,←hg p,hcan]
      · rw [List.map_set,hto,htl,hpos]
        exact Ap (by simp [hpn])
  · have hR:refV c.actsL P k=none:=by
     rw [refV,hxD,hj]
     simp only [Zd hjk,Zf]
    repeat apply QQ
    (refine ap ⟨[0,1,2,3,4,5,6,7,8,9,10,11,12],[(13,⟨[14,15,16,17,18],[]⟩)]⟩ [cel b 178 (regC c s.v q1 q2)] (fun w=>(c.at_ w∧Xe w)∧∀ p∈P,Strs w p.to p.toL) (h:=?_))
    all_goals repeat' (first|refine gd ?_|refine ay (hy:=by first|(apply aB (q:=k*20);rfl;rfl;omega;omega;assumption;(rfl))|(apply ez;rfl;exact hpa';rfl)|(apply dH (q:=k*20+5) (u:=.string x.object);rfl;exact (fun w h=>(Acts.get h.1.1 hx).2.2 5 _ rfl))) ?_|refine az ?_ (h':=?_)|exact aA|(refine co (κ:=ByteArray) (kk:=x.object) (b:=true) (v:=.int .i64 (j:Nat)) (hl:=de (Zu _ ao)) (ho:=hlk) ?_)|fail)
    all_goals
     repeat' (first|refine GJ ?_|refine gs ?_|fail)
     first
      | exact ab (aH rfl) ⟨rfl,P,[],hM0 hR rfl,⟨rfl⟩,rfl⟩
      | exact aR (aH rfl) ⟨rfl,P,[],hM0 hR rfl,⟨rfl⟩,rfl⟩
theorem Hr (c:Xb) (hc:Xw c.actsL) (hcl:c.actsL.length≤1000000):Ct prog 103 #[c.v] [] (fun w=>c.at_ w∧Xe w) (RegAt c):=by
  refine cP func103 ntmps103 fun av bor w0=>?_
  refine aQ (p:=c.acts.n=c.actsL.length∧c.acts.n≤maxLen∧(0<c.actsL.length→c.acts.p.isSome=true)) (fun w h=>⟨h.1.len_,h.1.max_,h.1.some_⟩) fun ⟨hl,hm,hp⟩=>?_
  simp only [maxLen] at hm
  refine cL 68 11 ?_
  repeat' (first|apply aJ|apply QQ|apply QR|refine aO ?_|refine bm ?_|refine cD fun _=>?_|fail)
  refine eB Int (h:=fun q1=>?_)
  refine eB ByteArray (h:=fun q2=>?_)
  repeat' (first|apply aJ|apply QQ|apply QR|refine aW ?_|refine aO ?_|refine bD ?_|refine bU ?_|refine ii ?_|refine cD fun _=>?_|apply QS|(refine aG (cs:=regC c (.slice none 0 0) q1 q2) (hf:=by rfl) ?_)|fail)
  rename_i b1 b
  refine aq (ι:=RegI c) (fun r=>⟨[(1,.pointer (some ⟨b1,0,none⟩)),(3,.pointer (some ⟨b,0,none⟩)),(15,c.acts.v),(16,.int .i64 (c.acts.n:Nat)),(17,.int .i64 (r.k:Nat))],[cel b 178 (regC c (.slice r.A r.n r.cp) q1 q2),mapr q2 r.pl,mapr q1 r.num,cel b1 35 c.cells,orow 68 11 (.slice r.A r.n r.cp) r.n r.xs],fun w=>(c.at_ w∧Xe w)∧∀ p∈r.P,Strs w p.to p.toL⟩) (fun r=>c.actsL.length-r.k)
    ⟨0,Z2 _,[],rfl,(fun p hp=>(Qi hp).elim),[],(fun d=>rfl),[],(fun j=>rfl),0,rfl,[],rfl,none,0⟩ (ai am (ak _) fun w h=>⟨h,fun p hp=>(Qi hp).elim⟩) fun r=>?_
  obtain ⟨k,hk,P,hP,hz,pl,hpl,num,hnum,n,hn,xs,hxs,A,cp⟩:=r
  simp only [RegI.s]
  have hPl:P.length≤k:=by
    have h1:=lc c k
    rw [←hP,ZE] at h1
    exact h1
  repeat' (first|apply aJ|apply QQ|apply QR|refine aW ?_|refine aO ?_|refine eX ?_|apply QT|apply QS|apply ck|apply iY|(refine dN (ht:=?_) (hf:=?_);all_goals (intro hx_;first|have:=bA hx_|have:=cw hx_)))
  · have hlt:k<c.actsL.length:=by omega
    have hp':=hp aa
    obtain ⟨x,hx⟩:∃ x,c.actsL[k]?=some x:=⟨_,Zc hlt⟩
    have hxm:x∈c.actsL:=Z4 hx
    have hxD:c.actsL.getD k Xa.zero=x:=by rw [Zp,hx];rfl
    have hpo:=oo x.kind
    have hlk:=hpl (digV x)
    have hpos:∀ p∈P,p.pos<k:=fun p hp=>by
      have h1:=qr c k p.can (by rw [←hP];exact List.mem_map_of_mem hp)
      exact h1
    have hidx:=Bb hx
    have hcl2:=iZ x.to (strs x.toL) (hc.sm x hxm).to (Ae _)
    have hpl2n:idxV (c.actsL.take k) (digV x)=none→∀ d,mget (mput pl (digV x) (Value.int .i64 (k:Int))) d=(idxV (c.actsL.take (k+1)) d).map fun (j:Nat)=>Value.int .i64 (j:Int):=fun hj d=>by
      rw [gZ,hidx d,eqbB]
      cases hs:seqB d (digV x) with
      | true =>
        obtain rfl:=seqB_iff.1 hs
        rw [hj,hs]
        rfl
      | false =>
        rw [kU (digV x) d,hs,hpl d]
        cases idxV (c.actsL.take k) d<;>rfl
    have hpl2s:∀ j,idxV (c.actsL.take k) (digV x)=some j→∀ d,mget pl d=(idxV (c.actsL.take (k+1)) d).map fun (j:Nat)=>Value.int .i64 (j:Int):=fun j hj d=>by
      rw [hidx d,hpl d]
      cases hs:seqB (digV x) d with
      | true =>
        obtain rfl:=seqB_iff.1 hs
        rw [hj]
        rfl
      | false=>cases idxV (c.actsL.take k) d<;>rfl
    repeat' (first|apply aJ|apply QQ|apply QR|refine aO ?_|refine bm ?_|refine aY fun _=>?_|refine aS ?_|(refine aD (q:=k*20) ?_)|(refine aN (cs:=x.cells) (hF:=fun w h=>Acts.get h.1.1 hx) ?_)|fail)
    rename_i b5
    refine bF (hc:=iw x (hc.rng x hxm) (hc.sm x hxm)) (hX:=fun w h=>h.1.1.2 x hxm) fun v1 X1 h1=>?_
    obtain ⟨x',rfl,hdig,hr',hat⟩:=h1
    refine ae (hc:=gL x' hr') (hX:=fun w h=>⟨hat w h.2,h.1.1.2⟩) ?_
    rw [hdig]
    cases hpk:postK x.kind with
    | false =>
      rw [hpk] at hpo
      have hP2:P.map Xd.can=openF c (k+1):=by rw [openF,hxD,hpk,Zf,ZI];exact hP
      cases hj:idxV (c.actsL.take k) (digV x) with
      | none =>
        rw [hj] at hlk
        repeat' (first|apply aJ|apply QQ|apply QR|refine aW ?_|refine aO ?_|refine eF ?_|refine bD ?_|refine bU ?_|refine gl ?_|refine dO ?_|refine ef (h:=?_)|refine QU ?_|refine QV ?_|apply QT|(refine co (κ:=ByteArray) (kk:=digV x) (b:=false) (v:=.int .i64 0) (hl:=de aM) (ho:=hlk) ?_)|(refine dB (κ:=ByteArray) (kk:=digV x) (v:=.int .i64 (k:Nat)) ?_)|(refine ae (hc:=hpo) ?_)|fail)
        exact ⟨(⟨k+1,hlt,P,hP2,hz,_,hpl2n hj,num,hnum,n,hn,xs,hxs,A,cp⟩:RegI c),(by show c.actsL.length-(k+1)<c.actsL.length-k;omega),ai am (Z0 _ (ak _)) fun w h=>h.1⟩
      | some j =>
        rw [hj] at hlk
        repeat' (first|apply aJ|apply QQ|apply QR|refine aW ?_|refine aO ?_|refine eF ?_|refine bD ?_|refine bU ?_|refine gl ?_|refine dO ?_|refine ef (h:=?_)|refine QV ?_|apply QT|(refine co (κ:=ByteArray) (kk:=digV x) (b:=true) (v:=.int .i64 (j:Nat)) (hl:=de aM) (ho:=hlk) ?_)|(refine ae (hc:=hpo) ?_)|fail)
        exact ⟨(⟨k+1,hlt,P,hP2,hz,_,hpl2s j hj,num,hnum,n,hn,xs,hxs,A,cp⟩:RegI c),(by show c.actsL.length-(k+1)<c.actsL.length-k;omega),ai am (Z0 _ (ak _)) fun w h=>h.1⟩
    | true =>
      rw [hpk] at hpo
      obtain ⟨p,hpd⟩:∃ p:Xk→Xd,p=fun s2=>⟨digV x,c.id,k,x.kind,x.scope,x.group,s2,x.object,x.time,⟨none,0,0⟩,false,x.toL,[]⟩:=⟨_,rfl⟩
      have hP2:∀ s2,(P++[p s2]).map Xd.can=openF c (k+1):=fun s2=>by
        rw [openF,hxD,hpk,Zg,ZU,hP,hpd]
        rfl
      have hz2:∀ s2,∀ q∈P++[p s2],q.ed=⟨none,0,0⟩∧q.edL=[]:=fun s2 q hq=>by
        rcases Qw.1 hq with hq|hq
        · exact hz q hq
        · rw [Z3] at hq
          subst hq
          rw [hpd]
          exact ⟨rfl,rfl⟩
      have hnum2:∀ s2,∀ j:Nat,mget (mput num (k:Int) (Value.int .i64 (n:Int))) (j:Int)=(posP (P++[p s2]) j).map fun (n:Nat)=>Value.int .i64 (n:Int):=fun s2 j=>by
        rw [gZ,ul,eqbI,hnum j,hn]
        have e1:(p s2).pos=k:=by rw [hpd]
        rw [e1]
        by_cases hjk:j=k
        · subst hjk
          rw [AJ (fun q hq=>Nat.ne_of_lt (hpos q hq)),Ze rfl,Zy]
          rfl
        · rw [Zd aa,show (k==j)=false from by simpa using fun e=>hjk e.symm,Zf,Zf,Option.or_none]
      rcases hj:idxV (c.actsL.take k) (digV x) with _|j
      all_goals rw [hj] at hlk
      all_goals first
        | (have hpl2:=hpl2n hj
           repeat' (first|apply aJ|apply QQ|apply QR|refine aW ?_|refine aO ?_|refine eF ?_|refine bD ?_|refine bU ?_|refine gl ?_|refine dO ?_|refine QU ?_|(refine co (κ:=ByteArray) (kk:=digV x) (b:=false) (v:=.int .i64 0) (hl:=de aM) (ho:=hlk) ?_)|(refine dB (κ:=ByteArray) (kk:=digV x) (v:=.int .i64 (k:Nat)) ?_)|(refine ae (hc:=hpo) ?_)|fail))
        | (have hpl2:=hpl2s j hj
           repeat' (first|apply aJ|apply QQ|apply QR|refine aW ?_|refine aO ?_|refine eF ?_|refine bD ?_|refine bU ?_|refine gl ?_|refine dO ?_|refine QU ?_|refine QV ?_|apply QT|(refine co (κ:=ByteArray) (kk:=digV x) (b:=true) (v:=.int .i64 (j:Nat)) (hl:=de aM) (ho:=hlk) ?_)|(refine ae (hc:=hpo) ?_)|fail))
      all_goals
        (refine kv [cel b 178 (regC c (.slice A n cp) q1 q2)] (fun w=>((c.at_ w∧Xe w)∧∀ p∈P,Strs w p.to p.toL)∧X1 w) aj ?_)
        all_goals refine br 0 ?_<;>refine br 1 ?_<;>refine br 2 ?_<;>refine br 3 ?_<;>refine br 4 ?_<;>refine br 5 ?_<;>refine br 6 ?_<;>refine br 7 ?_<;>refine br 8 ?_<;>refine br 9 ?_<;>(refine cX 10 ?_;(refine dB (κ:=Int) (kk:=(k:Int)) (v:=.int .i64 (n:Nat)) ?_);apply aJ;refine ei ?_)<;>(refine gc (h:=?_))
        all_goals
          repeat' (first|apply aJ|fail)
          (refine kv [cel b5 46 x.cells,cel b1 35 c.cells] (fun w=>((c.at_ w∧Xe w)∧∀ p∈P,Strs w p.to p.toL)∧X1 w) aj ?_)
          all_goals refine br 0 ?_<;>refine br 1 ?_<;>refine br 2 ?_<;>refine br 3 ?_<;>refine br 5 ?_<;>refine br 6 ?_<;>refine br 7 ?_<;>refine br 8 ?_<;>refine br 9 ?_<;>refine br 10 ?_<;>refine br 11 ?_<;>refine br 12 ?_<;>refine br 13 ?_<;>refine br 14 ?_<;>refine br 15 ?_<;>refine br 16 ?_<;>refine br 18 ?_<;>refine br 19 ?_<;>refine br 20 ?_<;>refine br 21 ?_<;>(refine sC 4 17 (h:=?_) (h':=?_);(focus (((refine bU ?_);apply aJ;refine ei ?_);all_goals ((refine cX 17 ?_;(refine bF (hc:=hcl2) (hX:=fun w h=>(h.1.1.1.2 x hxm).1) fun v2 X2 h2=>?_;obtain ⟨s2,rfl,hn2,hw2⟩:=h2);apply aJ;refine ei ?_);all_goals (refine br 22 (hy:=by (apply dt (cs:=Xd.cells (⟨digV x,c.id,k,x.kind,x.scope,x.group,s2,x.object,x.time,⟨none,0,0⟩,false,x.toL,[]⟩:Xd));rfl;rfl)) ?_);all_goals (refine cX 23 ?_;(refine cN (size:=11) (vs:=[.agg (Xd.cells (⟨digV x,c.id,k,x.kind,x.scope,x.group,s2,x.object,x.time,⟨none,0,0⟩,false,x.toL,[]⟩:Xd)).toArray]) (css:=Xd.cells (⟨digV x,c.id,k,x.kind,x.scope,x.group,s2,x.object,x.time,⟨none,0,0⟩,false,x.toL,[]⟩:Xd)) (hsz:=by rfl) (hcs:=by rfl) fun _=>?_);apply aJ;refine ei ?_);all_goals (refine cX 24 ?_;(refine aL (size:=11) (news:=Xd.cells (⟨digV x,c.id,k,x.kind,x.scope,x.group,s2,x.object,x.time,⟨none,0,0⟩,false,x.toL,[]⟩:Xd)) (q:=1) rfl rfl rfl rfl (fun _=>At.there _ (At.there _ (At.there _ (At.there _ (At.there _ (At.there _ (At.here _))))))) (fun w G=>bN G ao rfl rfl 1) aa (by simp only [maxLen];omega) rfl ?_ rfl ?_;(with_reducible rfl);intro A2 c2);apply aJ;refine ei ?_);all_goals (refine br 25 ?_);all_goals (refine br 26 ?_);all_goals (refine cX 27 ?_;(refine cj ?_);apply aJ;refine ei ?_);all_goals (refine gc (h:=?_)))));rotate_right;(focus (((refine bF (hc:=hcl2) (hX:=fun w h=>(h.1.1.1.2 x hxm).1) fun v2 X2 h2=>?_;obtain ⟨s2,rfl,hn2,hw2⟩:=h2);apply aJ;refine ei ?_);all_goals ((refine br 22 (hy:=by (apply dt (cs:=Xd.cells (⟨digV x,c.id,k,x.kind,x.scope,x.group,s2,x.object,x.time,⟨none,0,0⟩,false,x.toL,[]⟩:Xd));rfl;rfl)) ?_);all_goals (refine sC 4 23 (h:=?_) (h':=?_);(focus (((refine bU ?_);apply aJ;refine ei ?_);all_goals ((refine cX 23 ?_;(refine cN (size:=11) (vs:=[.agg (Xd.cells (⟨digV x,c.id,k,x.kind,x.scope,x.group,s2,x.object,x.time,⟨none,0,0⟩,false,x.toL,[]⟩:Xd)).toArray]) (css:=Xd.cells (⟨digV x,c.id,k,x.kind,x.scope,x.group,s2,x.object,x.time,⟨none,0,0⟩,false,x.toL,[]⟩:Xd)) (hsz:=by rfl) (hcs:=by rfl) fun _=>?_);apply aJ;refine ei ?_);all_goals (refine cX 24 ?_;(refine aL (size:=11) (news:=Xd.cells (⟨digV x,c.id,k,x.kind,x.scope,x.group,s2,x.object,x.time,⟨none,0,0⟩,false,x.toL,[]⟩:Xd)) (q:=1) rfl rfl rfl rfl (fun _=>At.there _ (At.there _ (At.there _ (At.there _ (At.there _ (At.there _ (At.here _))))))) (fun w G=>bN G ao rfl rfl 1) aa (by simp only [maxLen];omega) rfl ?_ rfl ?_;(with_reducible rfl);intro A2 c2);apply aJ;refine ei ?_);all_goals (refine br 25 ?_);all_goals (refine br 26 ?_);all_goals (refine cX 27 ?_;(refine cj ?_);apply aJ;refine ei ?_);all_goals (refine gc (h:=?_)))));rotate_right;(focus (((refine cN (size:=11) (vs:=[.agg (Xd.cells (⟨digV x,c.id,k,x.kind,x.scope,x.group,s2,x.object,x.time,⟨none,0,0⟩,false,x.toL,[]⟩:Xd)).toArray]) (css:=Xd.cells (⟨digV x,c.id,k,x.kind,x.scope,x.group,s2,x.object,x.time,⟨none,0,0⟩,false,x.toL,[]⟩:Xd)) (hsz:=by rfl) (hcs:=by rfl) fun _=>?_);apply aJ;refine ei ?_);all_goals ((refine cX 4 ?_;(refine bU ?_);apply aJ;refine ei ?_);all_goals (refine cX 24 ?_;(refine aL (size:=11) (news:=Xd.cells (⟨digV x,c.id,k,x.kind,x.scope,x.group,s2,x.object,x.time,⟨none,0,0⟩,false,x.toL,[]⟩:Xd)) (q:=1) rfl rfl rfl rfl (fun _=>At.there _ (At.there _ (At.there _ (At.there _ (At.there _ (At.there _ (At.here _))))))) (fun w G=>bN G ao rfl rfl 1) aa (by simp only [maxLen];omega) rfl ?_ rfl ?_;(with_reducible rfl);intro A2 c2);apply aJ;refine ei ?_);all_goals (refine br 25 ?_);all_goals (refine br 26 ?_);all_goals (refine cX 27 ?_;(refine cj ?_);apply aJ;refine ei ?_);all_goals (refine gc (h:=?_))))))))))
          all_goals
            repeat' (first|apply aJ|apply QR|refine aW ?_|refine ef (h:=?_)|fail)
            exact ⟨(⟨k+1,hlt,P++[p s2],hP2 s2,hz2 s2,_,hpl2,_,hnum2 s2,n+1,by rw [Zz,hn];rfl,xs++Xd.cells (⟨digV x,c.id,k,x.kind,x.scope,x.group,s2,x.object,x.time,⟨none,0,0⟩,false,x.toL,[]⟩:Xd),by rw [hxs,ZU,List.flatten_append,ZZ,List.map_nil,Z9,List.flatten_nil,ZI,hpd],A2,c2⟩:RegI c),(by show c.actsL.length-(k+1)<c.actsL.length-k;omega),
              ai am (Z0 _ (Z0 _ (ak _))) fun w h=>⟨h.1.1.1,fun q hq=>(Qw.1 hq).elim (h.1.1.2 q) fun e=>by
                rw [Z3] at e
                subst e
                rw [hpd]
                exact hw2 w h.2⟩⟩
  · subst hn hxs
    have hkE:k=c.actsL.length:=by omega
    exact ab (ag rfl rfl) ⟨⟨k,hk,P,hP,hz,pl,hpl,num,hnum,_,rfl,_,rfl,A,cp⟩,b,b1,q1,q2,hkE,rfl,rfl,fun w h=>h.2⟩
end Go.Proofs.YtaolfiikahlmkaaGreatDoor
