/- Joined. -/
import Derived.Test.YtaolfiikahlmkaaGreatDoorZ9
set_option linter.unusedVariables false
set_option linter.unusedSimpArgs false
set_option maxHeartbeats 16000000
namespace Go.Proofs.YtaolfiikahlmkaaGreatDoor
open Go Go.Proofs Sy
theorem on (s:SlV):Pu Tryz.prog 70 #[s.v,.slice none 0 0] (fun _=>True) (.bool (decide ((s.n:Int)=0))):=by
 refine ak (args:=[_,_]) _ Tryz.func70 rfl Tryz.ntmps70 rfl fun av bor w0=>?_
 by_cases h0:s.n=0
 · rw [h0]
   repeat' (first|refine ai (dp false rfl rfl (by rw [h0];rfl)) rfl am rfl ?_|refine gs ?_|(refine gp ?_ ?_<;>intro hx_ this)|fail)
   refine ar (ι:=Unit) (fun _=>⟨[(12,.int .i64 (s.n:Nat)),(13,.int .i64 0)],[],fun _=>True⟩) (fun _=>0) () (aj ao (al _) fun _ h=>h) fun _=>?_
   repeat' (first|refine ai (cf false rfl rfl (by rw [h0];rfl)) rfl am rfl ?_|refine gs ?_|(refine gp ?_ ?_<;>intro hx_ this)|fail)
   all_goals exact ad (ag rfl rfl) rfl
 · rw [Zc (by omega)]
   repeat' (first|refine ai (dp true rfl rfl (by simp;omega)) rfl am rfl ?_|refine gs ?_|(refine gp ?_ ?_<;>intro hx_ this)|fail)
   all_goals exact ad (ag rfl rfl) rfl
theorem u7 (s:SlV):Pu Tryz.prog 258 #[s.v,.slice none 0 0] (fun _=>True) (.bool (decide ((s.n:Int)=0))):=by
 refine ak (args:=[_,_]) _ Tryz.func258 rfl Tryz.ntmps258 rfl fun av bor w0=>?_
 by_cases h0:s.n=0
 · rw [h0]
   repeat' (first|refine ai (dp false rfl rfl (by rw [h0];rfl)) rfl am rfl ?_|refine gs ?_|(refine gp ?_ ?_<;>intro hx_ this)|fail)
   refine ar (ι:=Unit) (fun _=>⟨[(12,.int .i64 (s.n:Nat)),(13,.int .i64 0)],[],fun _=>True⟩) (fun _=>0) () (aj ao (al _) fun _ h=>h) fun _=>?_
   repeat' (first|refine ai (cf false rfl rfl (by rw [h0];rfl)) rfl am rfl ?_|refine gs ?_|(refine gp ?_ ?_<;>intro hx_ this)|fail)
   all_goals exact ad (ag rfl rfl) rfl
 · rw [Zc (by omega)]
   repeat' (first|refine ai (dp true rfl rfl (by simp;omega)) rfl am rfl ?_|refine gs ?_|(refine gp ?_ ?_<;>intro hx_ this)|fail)
   all_goals exact ad (ag rfl rfl) rfl
section
variable {P:Program} {N:Nat} {av bor:List Nat} {w0:World} {ops:Array Oper} {rest:List Oper} {kk:St→Prop} {E:Env} {loc:List Res} {X:World→Prop} {n:Nat} {ty t2:TypeId} {pos:String} {af:Array Edge} {g:Option (Nat×Bool)} {bb want:Bool} {x y:Operand}
theorem eS {a b:ClaimD} (h:Sw Tryz.prog N av bor w0 ops rest ⟨(n,.bool (claimEq a b))::E,loc,X⟩ kk) (hx:ev E x=some (.agg a.cells.toArray):=by rfl) (hy:ev E y=some (.agg b.cells.toArray):=by rfl) (hg:gdB ops E g=some (bb,want):=by rfl) (hbb:bb=want:=by exact am) (hd:Nat.blt n N=true:=by rfl) :
  Sw Tryz.prog N av bor w0 ops (⟨some n,.binOp .eql 54 x y t2,ty,pos,af,g⟩::rest) ⟨E,loc,X⟩ kk:=ai (oE hx hy) hg hbb hd h
theorem eC {a b:BallotD} (h:Sw Tryz.prog N av bor w0 ops rest ⟨(n,.bool (ballotEq a b))::E,loc,X⟩ kk) (hx:ev E x=some (.agg a.cells.toArray):=by rfl) (hy:ev E y=some (.agg b.cells.toArray):=by rfl) (hg:gdB ops E g=some (bb,want):=by rfl) (hbb:bb=want:=by exact am) (hd:Nat.blt n N=true:=by rfl) :
  Sw Tryz.prog N av bor w0 ops (⟨some n,.binOp .eql 56 x y t2,ty,pos,af,g⟩::rest) ⟨E,loc,X⟩ kk:=ai (mv hx hy) hg hbb hd h
theorem zo {st:St} {a b c e:Int} (hx:ev st.env x=some (.agg #[.int .i64 a,.int .i64 b])) (hy:ev st.env y=some (.agg #[.int .i64 c,.int .i64 e])) :
  Sy.Yields Tryz.prog N av bor w0 st (.binOp .eql 44 x y t2) ty (.bool (decide (a=c)&&(decide (b=e)&&true))):=Sy.Yields.mk fun A w ok d pos af g=>by
 have h1:=run_eql_struct (P:=Tryz.prog) w 44 #[.int .i64 a,.int .i64 b] #[.int .i64 c,.int .i64 e]
 rw [show (10000:Nat)=9998+2 from rfl,oo] at h1
 have hgu:Tryz.prog.eqGuardType Tryz.prog.depth 44=false:=by kernel_rfl
 simp [execOp,ok.eval (st:=st) hx,ok.eval (st:=st) hy,run_eqGuard_agg _ _ _ _ _ _ _ hgu,h1]
theorem kx {a b c e:Int} (h:Sw Tryz.prog N av bor w0 ops rest ⟨(n,.bool (decide (a=c)&&(decide (b=e)&&true)))::E,loc,X⟩ kk) (hx:ev E x=some (.agg #[.int .i64 a,.int .i64 b]):=by rfl) (hy:ev E y=some (.agg #[.int .i64 c,.int .i64 e]):=by rfl) (hg:gdB ops E g=some (bb,want):=by rfl) (hbb:bb=want:=by exact am) (hd:Nat.blt n N=true:=by rfl) :
  Sw Tryz.prog N av bor w0 ops (⟨some n,.binOp .eql 44 x y t2,ty,pos,af,g⟩::rest) ⟨E,loc,X⟩ kk:=ai (zo hx hy) hg hbb hd h
end
def actZ (a:ActD):Bool:=seqB a.author ⟨#[]⟩&&(decide (a.seq=0)&&(seqB a.prev ⟨#[]⟩&&(decide (a.kind=0)&&(decide (a.time=0)&&(seqB a.object ⟨#[]⟩&&(seqB a.target ⟨#[]⟩&&(decide (a.scope=0)&&(seqB a.group ⟨#[]⟩&&(decide ((a.to.n:Int)=0)&&(seqB a.text ⟨#[]⟩&&(boxEq a.body BoxD.zero&&(decide (a.epoch=0)&&(decide ((a.wraps.n:Int)=0)&&(decide (a.n=0)&&(decide (a.m=0)&&(decide (a.e=0)&&(decide (a.s=0)&&true)))))))))))))))))
set_option maxRecDepth 20000 in
theorem tP (a:ActD):Pu Tryz.prog 200 #[a.v,ActD.zero.v] (fun _=>True) (.bool (actZ a)):=by
 refine ak (args:=[_,_]) _ Tryz.func200 rfl Tryz.ntmps200 rfl fun av bor w0=>?_
 repeat' (first|refine ab (hc:=on a.to) ?_|refine ab (hc:=u7 a.wraps) ?_|refine gs ?_|refine gs1 fun _=>?_|(refine jB (a:=a.body) (b:=BoxD.zero) ?_)|(refine kx (a:=a.e) (b:=a.s) (c:=0) (e:=0) ?_)|(refine aw ?_)|(refine aw (vs:=[.int .i64 a.e,.int .i64 a.s]) (hv:=rfl) ?_)|(refine aw (vs:=[.int .i64 0,.int .i64 0]) (hv:=rfl) ?_)|(refine gp ?_ ?_<;>intro hx_ this)|fail)
 all_goals refine ad (ag rfl rfl) ?_
 all_goals rw [actZ]
 all_goals simp_all [ActD.zero]
def decZ (d:DecD):Bool:=decide (d.server=0)&&(decide (d.number=0)&&(decide (d.kind=0)&&(seqB d.actor ⟨#[]⟩&&(seqB d.object ⟨#[]⟩&&(seqB d.text ⟨#[]⟩&&(decide ((d.to.n:Int)=0)&&(decide (d.n=0)&&(decide (d.from_=0)&&(decide (d.until_=0)&&(decide (d.e=0)&&(decide (d.s=0)&&true)))))))))))
set_option maxRecDepth 20000 in
theorem tI (d:DecD):Pu Tryz.prog 201 #[d.v,DecD.zero.v] (fun _=>True) (.bool (decZ d)):=by
 refine ak (args:=[_,_]) _ Tryz.func201 rfl Tryz.ntmps201 rfl fun av bor w0=>?_
 repeat' (first|refine ab (hc:=on d.to) ?_|refine gs ?_|refine gs1 fun _=>?_|(refine kx (a:=d.e) (b:=d.s) (c:=0) (e:=0) ?_)|(refine aw (vs:=[.int .i64 d.e,.int .i64 d.s]) (hv:=rfl) ?_)|(refine aw (vs:=[.int .i64 0,.int .i64 0]) (hv:=rfl) ?_)|(refine gp ?_ ?_<;>intro hx_ this)|fail)
 all_goals refine ad (ag rfl rfl) ?_
 all_goals rw [decZ]
 all_goals simp_all [DecD.zero]
def sameIZ (i:ItemD):Bool:=decide (i.kind=0)&&(actZ i.act&&(claimEq i.claim ClaimD.zero&&(ballotEq i.ballot BallotD.zero&&decZ i.dec)))
set_option maxRecDepth 20000 in
theorem fA (i:ItemD):Pu Tryz.prog 125 #[i.v,ItemD.zero.v] (fun _=>True) (.bool (sameIZ i)):=by
 refine ak (args:=[_,_]) _ Tryz.func125 rfl Tryz.ntmps125 rfl fun av bor w0=>?_
 repeat' (first|refine ab (hc:=tP i.act) ?_|refine ab (hc:=tI i.dec) ?_|refine gs ?_|refine gs1 fun _=>?_|(refine eS (a:=i.claim) (b:=ClaimD.zero) ?_)|(refine eC (a:=i.ballot) (b:=BallotD.zero) ?_)|(refine aw (vs:=i.act.cells) (hv:=rfl) ?_)|(refine aw (vs:=i.claim.cells) (hv:=rfl) ?_)|(refine aw (vs:=i.ballot.cells) (hv:=rfl) ?_)|(refine aw (vs:=i.dec.cells) (hv:=rfl) ?_)|(refine aw (vs:=ActD.zero.cells) (hv:=rfl) ?_)|(refine aw (vs:=ClaimD.zero.cells) (hv:=rfl) ?_)|(refine aw (vs:=BallotD.zero.cells) (hv:=rfl) ?_)|(refine aw (vs:=DecD.zero.cells) (hv:=rfl) ?_)|(refine gp ?_ ?_<;>intro hx_ this)|fail)
 all_goals refine ad (ag rfl rfl) ?_
 all_goals rw [sameIZ]
 all_goals simp_all [ItemD.zero,ofActI]
def textsV (l:List ByteArray):ByteArray:=cats (l.map textV)
structure TxtS (n:Nat) where
 k:Nat
 hk:k≤n
 A:Option Addr
 c:Nat
theorem fd (b:Nat) (A:Option Addr) (c:Nat) (s:ByteArray) (sl:SlV) (l:List ByteArray) (hs:s.size+(textsV l).size≤1099511627776) :
  Ct Tryz.prog 248 #[.pointer (some ⟨b,0,none⟩),sl.v] (bld b A c s) (fun w=>Strs w sl l) fun u R _=>∃ A' c',u=.tuple #[]∧R=bld b A' c' (s++textsV l):=by
 refine bQ (args:=[_,_]) _ Tryz.func248 rfl Tryz.ntmps248 rfl fun av bor w0=>?_
 refine aM (p:=sl.n=l.length∧sl.n≤maxLen∧(0<l.length→sl.p.isSome=true)) (fun w h=>⟨h.len_,ZY (RowsD.cap h) (RowsD.max h),h.some_⟩) fun ⟨hn,hm,hp⟩=>?_
 simp only [maxLen] at hm
 repeat' (first|refine gs ?_|(refine gp ?_ ?_<;>intro hx_ this)|fail)
 have hle:=eX (l.map textV)
 have e0:s++cats ((l.map textV).take 0)=s:=by simp [cats]
 have hs':s.size+(cats (l.map textV)).size≤1099511627776:=hs
 refine ar (ι:=TxtS l.length) (fun i=>⟨[(0,.pointer (some ⟨b,0,none⟩)),(6,sl.v),(7,.int .i64 sl.n),(8,.int .i64 i.k)],bld b i.A i.c (s++cats ((l.map textV).take i.k)),fun w=>Strs w sl l⟩) (fun i=>l.length-i.k) ⟨0,Z4 _,A,c⟩ (aj ao (by rw [e0];exact al _) fun _ h=>h) fun i=>?_
 have hik:=i.hk
 have hout:(s++cats ((l.map textV).take i.k)).size≤1099511627776:=by rw [Za];have:=hle i.k;omega
 have hout2:(s++cats ((l.map textV).take (i.k+1))).size≤1099511627776:=by rw [Za];have:=hle (i.k+1);omega
 generalize ho:s++cats ((l.map textV).take i.k)=out at *
 unfold bld
 repeat' (first|refine gs ?_|(refine gp ?_ ?_<;>intro hx_ this)|fail)
 · have hlt:i.k<l.length:=by omega
   have hp':=hp aa
   obtain ⟨x,hx⟩:∃ x,l[i.k]?=some x:=⟨_,Zb hlt⟩
   have hsucc:=fJ (l.map textV) (k:=i.k) (by simpa using hlt)
   have hget:(l.map textV).getD i.k .empty=textV x:=by simp [hx]
   rw [hget] at hsucc
   have e2:s++cats ((l.map textV).take (i.k+1))=out++textV x:=by rw [hsucc,←Zy,ho]
   have hxs:out.size+(textV x).size≤1099511627776:=by rw [e2,Za] at hout2;exact hout2
   have hxx:x.size≤1099511627776:=by rw [textV,Za] at hxs;omega
   repeat' (first|refine gs ?_|(refine aO (q:=i.k) ?_)|(refine cU (u:=.string x) (hF:=fun w h=>h.at_ hx) ?_)|(refine gp ?_ ?_<;>intro hx_ this)|fail)
   (refine aq ⟨[0,1,2,3,5],[(4,⟨[],[(6,⟨[],[(7,⟨[8,9],[(10,⟨[],[]⟩)]⟩)]⟩)]⟩),(6,⟨[],[(4,⟨[],[(7,⟨[8,9],[(10,⟨[],[]⟩)]⟩)]⟩)]⟩)]⟩ [] (fun _=>True) (h:=?_))
   all_goals repeat' (first|refine ab (hc:=fu _ aa) ?_|refine gd ?_|refine az ?_ (h':=?_)|exact aA|(refine ia ?_;refine aN (size:=1) (z:=.int .u8 0) rfl rfl rfl rfl (fun _=>At.there _ (At.here _)) (fun w G=>iS aa) aa (by simp only [maxLen];omega) rfl ?_ rfl ?_;(first|with_reducible rfl|with_reducible assumption|with_reducible exact Zl|with_reducible exact Zn);intro A1 c1)|(refine gq ?_ ?_<;>intro hx_ this)|fail)
   all_goals (repeat' (first|refine gs ?_|(refine gp ?_ ?_<;>intro hx_ this)|fail))
   all_goals exact ⟨(⟨i.k+1,hlt,A1,c1⟩:TxtS l.length),(by show l.length-(i.k+1)<l.length-i.k;omega),aj ao (by
    show List.Sublist (bld b A1 c1 (s++cats ((l.map textV).take (i.k+1)))) _
    rw [e2]
    simp only [bld,Za,dO,cq]
    exact al _) fun _ h=>h⟩
 · have hk:i.k=l.length:=by omega
   refine bK (bu rfl) ⟨i.A,i.c,rfl,?_⟩
   rw [textsV,←ho,hk,Qf (by simp)]
theorem kZ {P:Program} {f:FuncId} {fn:Func} {c:Code} {args:List Value} {pre:List Res} {X:World→Prop} {Post:Value→List Res→(World→Prop)→Prop} (N:Nat)
  (hf:P.funcs[f]?=some fn) (hb:fn.body=some c) (hN:fn.ntmps=N) (hn:Nat.ble args.length N=true)
  (h:∀ av bor w0,Cw P N av bor w0 c ⟨params 0 args,pre,X⟩ (ends P fn N fun u R X'=>∃ R',R'.Sublist R∧Post u R' X')):Ct P f args.toArray pre X Post:=Ct.mk fun w av G=>by
 have h1:=(bQ (P:=P) (Post:=fun u R X'=>∃ R',R'.Sublist R∧Post u R' X') N hf hb hN hn h).run w av G
 refine h1.mono fun e w' ⟨u,R,X',he,⟨R',hs,hp⟩,G'⟩=>⟨u,R',X',he,hp,G'.drop hs⟩
def coreCl (c:ClaimD):ByteArray:=textsV [c.actor]++numsV [c.base]++textsV [c.prev]++numsV [c.gen,c.home,c.pub,c.time]
def coreBa (b:BallotD):ByteArray:=numsV [b.server]++textsV [b.actor]++numsV [b.gen]++textsV [b.claim]++numsV [b.time]
def coreDe (d:DecD):ByteArray:=numsV [d.server,d.number,d.kind]++textsV [d.actor,d.object,d.text]++listV d.toL++numsV [d.n,d.from_,d.until_]
structure ClaimD.Lt (c:ClaimD):Prop where
 base:c.base<9223372036854775808
 gen:c.gen<9223372036854775808
 home:c.home<9223372036854775808
 pub:c.pub<9223372036854775808
 time:c.time<9223372036854775808
 e:c.e<9223372036854775808
 s:c.s<9223372036854775808
structure BallotD.Lt (c:BallotD):Prop where
 server:c.server<9223372036854775808
 gen:c.gen<9223372036854775808
 time:c.time<9223372036854775808
 e:c.e<9223372036854775808
 s:c.s<9223372036854775808
structure DecD.Lt (c:DecD):Prop where
 server:c.server<9223372036854775808
 number:c.number<9223372036854775808
 kind:c.kind<9223372036854775808
 n:c.n<9223372036854775808
 from_:c.from_<9223372036854775808
 until_:c.until_<9223372036854775808
 e:c.e<9223372036854775808
 s:c.s<9223372036854775808
theorem pR (b:Nat) (A:Option Addr) (c:Nat) (s:ByteArray) (it:ItemD) (hl:it.claim.Lt) (hs:s.size+(coreCl it.claim).size≤1099511627776) :
  Ct Tryz.prog 174 #[.pointer (some ⟨b,0,none⟩),it.v] (bld b A c s) (fun _=>True) fun u R _=>∃ A' c',u=.tuple #[]∧R=bld b A' c' (s++coreCl it.claim):=by
 refine kZ (args:=[_,_]) _ Tryz.func174 rfl Tryz.ntmps174 rfl fun av bor w0=>?_
 rw [coreCl] at hs ⊢
 simp only [Za] at hs
 obtain ⟨p0,hp0⟩:∃ p,textsV [it.claim.actor]=p:=⟨_,rfl⟩
 obtain ⟨p1,hp1⟩:∃ p,numsV [it.claim.base]=p:=⟨_,rfl⟩
 obtain ⟨p2,hp2⟩:∃ p,textsV [it.claim.prev]=p:=⟨_,rfl⟩
 obtain ⟨p3,hp3⟩:∃ p,numsV [it.claim.gen,it.claim.home,it.claim.pub,it.claim.time]=p:=⟨_,rfl⟩
 rw [hp0,hp1,hp2,hp3] at hs ⊢
 rw [←Zy,←Zy,←Zy]
 repeat' (first|refine gs ?_|refine gs1 fun _=>?_|(refine aw (vs:=it.claim.cells) (hv:=rfl) ?_)|(refine gp ?_ ?_<;>intro hx_ this)|fail)
 rename_i b3 b4 bs
 refine bL ?_
 refine dc (l:=bld b A c s++[cel b4 54 it.claim.cells,cel b3 60 it.cells]) (by show List.Perm [_,_,_,_] [_,_,_,_];exact (QP (l₁:=[_,_]) (l₂:=[_,_]))) ?_
 refine cj (pre:=bld b A c (s)) (fr:=[cel b4 54 it.claim.cells,cel b3 60 it.cells]) (hc:=fd b A c (s) ⟨some ⟨bs,0,none⟩,1,1⟩ [it.claim.actor] (by rw [hp0];(try simp only [Za]);omega)) (hX:=fun w h=>bt (xs:=[[encB it.claim.actor]]) h.2 rfl (by decide) (by simp)) (h:=?_)
 rintro v R X' ⟨A1,c1,rfl,rfl⟩
 refine cD (X':=(fun _=>True)) (fun w h=>trivial) ?_
 rw [hp0]
 unfold bld
 repeat' (first|refine gs ?_|refine gs1 fun _=>?_|fail)
 rename_i bs
 refine bL ?_
 refine cj (pre:=bld b A1 c1 (s++p0)) (fr:=[cel b4 54 it.claim.cells,cel b3 60 it.cells]) (hc:=er b A1 c1 (s++p0) ⟨some ⟨bs,0,none⟩,1,1⟩ [it.claim.base] (by simp;exact hl.base) (by rw [hp1];(try simp only [Za]);omega)) (hX:=fun w h=>bt (xs:=[[.int .i64 it.claim.base]]) h.2 rfl (by decide) (by simp)) (h:=?_)
 rintro v R X' ⟨A2,c2,rfl,rfl⟩
 refine cD (X':=(fun _=>True)) (fun w h=>trivial) ?_
 rw [hp1]
 unfold bld
 repeat' (first|refine gs ?_|refine gs1 fun _=>?_|fail)
 rename_i bs
 refine bL ?_
 refine cj (pre:=bld b A2 c2 (s++p0++p1)) (fr:=[cel b4 54 it.claim.cells,cel b3 60 it.cells]) (hc:=fd b A2 c2 (s++p0++p1) ⟨some ⟨bs,0,none⟩,1,1⟩ [it.claim.prev] (by rw [hp2];(try simp only [Za]);omega)) (hX:=fun w h=>bt (xs:=[[encB it.claim.prev]]) h.2 rfl (by decide) (by simp)) (h:=?_)
 rintro v R X' ⟨A3,c3,rfl,rfl⟩
 refine cD (X':=(fun _=>True)) (fun w h=>trivial) ?_
 rw [hp2]
 unfold bld
 repeat' (first|refine gs ?_|refine gs1 fun _=>?_|fail)
 rename_i bs
 refine bL ?_
 refine cj (pre:=bld b A3 c3 (s++p0++p1++p2)) (fr:=[cel b4 54 it.claim.cells,cel b3 60 it.cells]) (hc:=er b A3 c3 (s++p0++p1++p2) ⟨some ⟨bs,0,none⟩,4,4⟩ [it.claim.gen,it.claim.home,it.claim.pub,it.claim.time] (by simp;exact ⟨hl.gen,hl.home,hl.pub,hl.time⟩) (by rw [hp3];(try simp only [Za]);omega)) (hX:=fun w h=>bt (xs:=[[.int .i64 it.claim.gen],[.int .i64 it.claim.home],[.int .i64 it.claim.pub],[.int .i64 it.claim.time]]) h.2 rfl (by decide) (by simp)) (h:=?_)
 rintro v R X' ⟨A4,c4,rfl,rfl⟩
 refine cD (X':=(fun _=>True)) (fun w h=>trivial) ?_
 rw [hp3]
 repeat' (first|refine gs ?_|refine gs1 fun _=>?_|(refine gp ?_ ?_<;>intro hx_ this)|fail)
 all_goals exact bK (bu rfl) ⟨_,QD _ _,A4,c4,rfl,rfl⟩
theorem oD (b:Nat) (A:Option Addr) (c:Nat) (s:ByteArray) (it:ItemD) (hl:it.ballot.Lt) (hs:s.size+(coreBa it.ballot).size≤1099511627776) :
  Ct Tryz.prog 175 #[.pointer (some ⟨b,0,none⟩),it.v] (bld b A c s) (fun _=>True) fun u R _=>∃ A' c',u=.tuple #[]∧R=bld b A' c' (s++coreBa it.ballot):=by
 refine kZ (args:=[_,_]) _ Tryz.func175 rfl Tryz.ntmps175 rfl fun av bor w0=>?_
 rw [coreBa] at hs ⊢
 simp only [Za] at hs
 obtain ⟨p0,hp0⟩:∃ p,numsV [it.ballot.server]=p:=⟨_,rfl⟩
 obtain ⟨p1,hp1⟩:∃ p,textsV [it.ballot.actor]=p:=⟨_,rfl⟩
 obtain ⟨p2,hp2⟩:∃ p,numsV [it.ballot.gen]=p:=⟨_,rfl⟩
 obtain ⟨p3,hp3⟩:∃ p,textsV [it.ballot.claim]=p:=⟨_,rfl⟩
 obtain ⟨p4,hp4⟩:∃ p,numsV [it.ballot.time]=p:=⟨_,rfl⟩
 rw [hp0,hp1,hp2,hp3,hp4] at hs ⊢
 rw [←Zy,←Zy,←Zy,←Zy]
 repeat' (first|refine gs ?_|refine gs1 fun _=>?_|(refine aw (vs:=it.ballot.cells) (hv:=rfl) ?_)|(refine gp ?_ ?_<;>intro hx_ this)|fail)
 rename_i b3 b4 bs
 refine bL ?_
 refine dc (l:=bld b A c s++[cel b4 56 it.ballot.cells,cel b3 60 it.cells]) (by show List.Perm [_,_,_,_] [_,_,_,_];exact (QP (l₁:=[_,_]) (l₂:=[_,_]))) ?_
 refine cj (pre:=bld b A c (s)) (fr:=[cel b4 56 it.ballot.cells,cel b3 60 it.cells]) (hc:=er b A c (s) ⟨some ⟨bs,0,none⟩,1,1⟩ [it.ballot.server] (by simp;exact hl.server) (by rw [hp0];(try simp only [Za]);omega)) (hX:=fun w h=>bt (xs:=[[.int .i64 it.ballot.server]]) h.2 rfl (by decide) (by simp)) (h:=?_)
 rintro v R X' ⟨A1,c1,rfl,rfl⟩
 refine cD (X':=(fun _=>True)) (fun w h=>trivial) ?_
 rw [hp0]
 unfold bld
 repeat' (first|refine gs ?_|refine gs1 fun _=>?_|fail)
 rename_i bs
 refine bL ?_
 refine cj (pre:=bld b A1 c1 (s++p0)) (fr:=[cel b4 56 it.ballot.cells,cel b3 60 it.cells]) (hc:=fd b A1 c1 (s++p0) ⟨some ⟨bs,0,none⟩,1,1⟩ [it.ballot.actor] (by rw [hp1];(try simp only [Za]);omega)) (hX:=fun w h=>bt (xs:=[[encB it.ballot.actor]]) h.2 rfl (by decide) (by simp)) (h:=?_)
 rintro v R X' ⟨A2,c2,rfl,rfl⟩
 refine cD (X':=(fun _=>True)) (fun w h=>trivial) ?_
 rw [hp1]
 unfold bld
 repeat' (first|refine gs ?_|refine gs1 fun _=>?_|fail)
 rename_i bs
 refine bL ?_
 refine cj (pre:=bld b A2 c2 (s++p0++p1)) (fr:=[cel b4 56 it.ballot.cells,cel b3 60 it.cells]) (hc:=er b A2 c2 (s++p0++p1) ⟨some ⟨bs,0,none⟩,1,1⟩ [it.ballot.gen] (by simp;exact hl.gen) (by rw [hp2];(try simp only [Za]);omega)) (hX:=fun w h=>bt (xs:=[[.int .i64 it.ballot.gen]]) h.2 rfl (by decide) (by simp)) (h:=?_)
 rintro v R X' ⟨A3,c3,rfl,rfl⟩
 refine cD (X':=(fun _=>True)) (fun w h=>trivial) ?_
 rw [hp2]
 unfold bld
 repeat' (first|refine gs ?_|refine gs1 fun _=>?_|fail)
 rename_i bs
 refine bL ?_
 refine cj (pre:=bld b A3 c3 (s++p0++p1++p2)) (fr:=[cel b4 56 it.ballot.cells,cel b3 60 it.cells]) (hc:=fd b A3 c3 (s++p0++p1++p2) ⟨some ⟨bs,0,none⟩,1,1⟩ [it.ballot.claim] (by rw [hp3];(try simp only [Za]);omega)) (hX:=fun w h=>bt (xs:=[[encB it.ballot.claim]]) h.2 rfl (by decide) (by simp)) (h:=?_)
 rintro v R X' ⟨A4,c4,rfl,rfl⟩
 refine cD (X':=(fun _=>True)) (fun w h=>trivial) ?_
 rw [hp3]
 unfold bld
 repeat' (first|refine gs ?_|refine gs1 fun _=>?_|fail)
 rename_i bs
 refine bL ?_
 refine cj (pre:=bld b A4 c4 (s++p0++p1++p2++p3)) (fr:=[cel b4 56 it.ballot.cells,cel b3 60 it.cells]) (hc:=er b A4 c4 (s++p0++p1++p2++p3) ⟨some ⟨bs,0,none⟩,1,1⟩ [it.ballot.time] (by simp;exact hl.time) (by rw [hp4];(try simp only [Za]);omega)) (hX:=fun w h=>bt (xs:=[[.int .i64 it.ballot.time]]) h.2 rfl (by decide) (by simp)) (h:=?_)
 rintro v R X' ⟨A5,c5,rfl,rfl⟩
 refine cD (X':=(fun _=>True)) (fun w h=>trivial) ?_
 rw [hp4]
 repeat' (first|refine gs ?_|refine gs1 fun _=>?_|(refine gp ?_ ?_<;>intro hx_ this)|fail)
 all_goals exact bK (bu rfl) ⟨_,QD _ _,A5,c5,rfl,rfl⟩
theorem kf (b:Nat) (A:Option Addr) (c:Nat) (s:ByteArray) (it:ItemD) (hl:it.dec.Lt) (hs:s.size+(coreDe it.dec).size≤1099511627776) :
  Ct Tryz.prog 176 #[.pointer (some ⟨b,0,none⟩),it.v] (bld b A c s) (fun w=>it.at_ w) fun u R _=>∃ A' c',u=.tuple #[]∧R=bld b A' c' (s++coreDe it.dec):=by
 refine kZ (args:=[_,_]) _ Tryz.func176 rfl Tryz.ntmps176 rfl fun av bor w0=>?_
 rw [coreDe] at hs ⊢
 simp only [Za] at hs
 obtain ⟨p0,hp0⟩:∃ p,numsV [it.dec.server,it.dec.number,it.dec.kind]=p:=⟨_,rfl⟩
 obtain ⟨p1,hp1⟩:∃ p,textsV [it.dec.actor,it.dec.object,it.dec.text]=p:=⟨_,rfl⟩
 obtain ⟨p2,hp2⟩:∃ p,listV it.dec.toL=p:=⟨_,rfl⟩
 obtain ⟨p3,hp3⟩:∃ p,numsV [it.dec.n,it.dec.from_,it.dec.until_]=p:=⟨_,rfl⟩
 rw [hp0,hp1,hp2,hp3] at hs ⊢
 rw [←Zy,←Zy,←Zy]
 repeat' (first|refine gs ?_|refine gs1 fun _=>?_|(refine aw (vs:=it.dec.cells) (hv:=rfl) ?_)|(refine gp ?_ ?_<;>intro hx_ this)|fail)
 rename_i b3 b4 bs
 refine bL ?_
 refine dc (l:=bld b A c s++[cel b4 58 it.dec.cells,cel b3 60 it.cells]) (by show List.Perm [_,_,_,_] [_,_,_,_];exact (QP (l₁:=[_,_]) (l₂:=[_,_]))) ?_
 refine cj (pre:=bld b A c (s)) (fr:=[cel b4 58 it.dec.cells,cel b3 60 it.cells]) (hc:=er b A c (s) ⟨some ⟨bs,0,none⟩,3,3⟩ [it.dec.server,it.dec.number,it.dec.kind] (by simp;exact ⟨hl.server,hl.number,hl.kind⟩) (by rw [hp0];(try simp only [Za]);omega)) (hX:=fun w h=>bt (xs:=[[.int .i64 it.dec.server],[.int .i64 it.dec.number],[.int .i64 it.dec.kind]]) h.2 rfl (by decide) (by simp)) (h:=?_)
 rintro v R X' ⟨A1,c1,rfl,rfl⟩
 refine cD (X':=(fun w=>it.at_ w)) (fun w h=>h.1.1) ?_
 rw [hp0]
 unfold bld
 repeat' (first|refine gs ?_|refine gs1 fun _=>?_|fail)
 rename_i bs
 refine bL ?_
 refine cj (pre:=bld b A1 c1 (s++p0)) (fr:=[cel b4 58 it.dec.cells,cel b3 60 it.cells]) (hc:=fd b A1 c1 (s++p0) ⟨some ⟨bs,0,none⟩,3,3⟩ [it.dec.actor,it.dec.object,it.dec.text] (by rw [hp1];(try simp only [Za]);omega)) (hX:=fun w h=>bt (xs:=[[encB it.dec.actor],[encB it.dec.object],[encB it.dec.text]]) h.2 rfl (by decide) (by simp)) (h:=?_)
 rintro v R X' ⟨A2,c2,rfl,rfl⟩
 refine cD (X':=(fun w=>it.at_ w)) (fun w h=>h.1.1) ?_
 rw [hp1]
 have hli:=wq it.dec.to it.dec.toL (by rw [hp2];omega)
 rw [hp2] at hli
 unfold bld
 have hsz:(s++p0++p1).size+p2.size≤1099511627776:=by simp only [Za];omega
 generalize hgo:s++p0++p1=out at *
 have hos:out.size=s.size+p0.size+p1.size:=by rw [←hgo];simp only [Za]
 repeat' (first|refine gs ?_|refine gs1 fun _=>?_|fail)
 simp only [ZK,ZL]
 (refine aq ⟨[0,1,2,3,5,6],[(4,⟨[],[(7,⟨[],[(8,⟨[9,10],[(11,⟨[],[]⟩)]⟩)]⟩)]⟩),(7,⟨[],[(4,⟨[],[(8,⟨[9,10],[(11,⟨[],[]⟩)]⟩)]⟩)]⟩)]⟩ [cel b4 58 it.dec.cells] (fun w=>it.at_ w) (h:=?_))
 all_goals repeat' (first|(refine ab (hc:=hli) (hX:=fun w h=>h.2) ?_)|refine gd ?_|refine az ?_ (h':=?_)|exact aA|(refine ia ?_;refine aN (size:=1) (z:=.int .u8 0) rfl rfl rfl rfl (fun _=>At.there _ (At.here _)) (fun w G=>iS aa) aa (by simp only [maxLen];omega) rfl ?_ rfl ?_;(first|with_reducible rfl|with_reducible assumption|with_reducible exact Zl|with_reducible exact Zn);intro A3 c3)|refine gs1 fun _=>?_|(refine gq ?_ ?_<;>intro hx_ this)|fail)
 all_goals
  have eb:bld b A3 c3 (out++p2)=[cel b 160 ([(.slice A2 out.size c2:Value)].set 0 (.slice A3 (out.size+p2.size) c3)),orow 5 1 (.slice A3 (out.size+p2.size) c3) (out.size+p2.size) (u8s (bytesI out)++u8s (bytesI p2))]:=by simp [bld,Za,dO,cq]
  repeat' (first|refine gs ?_|refine gs1 fun _=>?_|fail)
  rename_i bs
  refine bL ?_
  refine dc (l:=bld b A3 c3 (out++p2)++[cel b4 58 it.dec.cells,cel b3 60 it.cells]) (by rw [eb];exact Qn _) ?_
  refine cj (pre:=bld b A3 c3 (out++p2)) (fr:=[cel b4 58 it.dec.cells,cel b3 60 it.cells]) (hc:=er b A3 c3 (out++p2) ⟨some ⟨bs,0,none⟩,3,3⟩ [it.dec.n,it.dec.from_,it.dec.until_] (by simp;exact ⟨hl.n,hl.from_,hl.until_⟩) (by rw [hp3];(try simp only [Za]);omega)) (hX:=fun w h=>bt (xs:=[[.int .i64 it.dec.n],[.int .i64 it.dec.from_],[.int .i64 it.dec.until_]]) h.2 rfl (by decide) (by simp)) (h:=?_)
  rintro v R X' ⟨A4,c4,rfl,rfl⟩
  refine cD (X':=(fun w=>it.at_ w)) (fun w h=>h.1.1) ?_
  rw [hp3]
  repeat' (first|refine gs ?_|refine gs1 fun _=>?_|(refine gp ?_ ?_<;>intro hx_ this)|fail)
  all_goals exact bK (bu rfl) ⟨_,QD _ _,A4,c4,rfl,rfl⟩
def ordV (n:Int):Bool:=decide (0≤n)&&decide (n<2305843009213693950)
theorem nW (n:Int):Pu Tryz.prog 187 #[.int .i64 n] (fun _=>True) (.bool (ordV n)):=by
 refine ak (args:=[_]) _ Tryz.func187 rfl Tryz.ntmps187 rfl fun av bor w0=>?_
 repeat' (first|refine gs ?_|(refine gp ?_ ?_<;>intro hx_ this)|fail)
 (all_goals (apply ad;apply ag;rfl;rfl));all_goals first|rfl|(simp only [ordV, *,Zt,Zr,Zf,Ze,Zh,Zg,Zk,Zj,Zn,Zl,Zs,Zm,Zq,Zi];done)|(simp_all [ordV];done)
def verN (p:Int) (msg:ByteArray) (e s:Int):Bool :=
 bif decide (p<1)||decide (2305843009213693951≤p)||!ordV e||!ordV s then false
 else decide (e=(chalN (expV 37 s.toNat * expV p.toNat (2305843009213693950-e.toNat)%2305843009213693951) p.toNat msg:Nat))
theorem iO (p:Int) (msg:ByteArray) (e s:Int) (hm:msg.size≤1000000000000):Pu Tryz.prog 114 #[.int .i64 p,.string msg,(SgD.v ⟨e,s⟩)] Glob (.bool (verN p msg e s)):=by
 refine ak (args:=[_,_,_]) _ Tryz.func114 rfl Tryz.ntmps114 rfl fun av bor w0=>?_
 have hoe:=nW e
 have hos:=nW s
 cases hbad:(decide (p<1)||decide (2305843009213693951≤p)||!ordV e||!ordV s) with
 | true =>
  rw [show verN p msg e s=false from by rw [verN,hbad];rfl]
  repeat' (first|(refine ab (hc:=hoe) (hX:=fun _ _=>trivial) ?_)|(refine ab (hc:=hos) (hX:=fun _ _=>trivial) ?_)|refine gs ?_|refine gs1 fun _=>?_|(refine gp ?_ ?_<;>intro hx_ this)|fail)
  all_goals first
   | (apply ad;apply ag;rfl;rfl;rfl)
   | (exfalso;simp_all;done)
 | false =>
  have hb:=hbad
  simp only [Ql,Qd,Bool.not_eq_false'] at hb
  obtain ⟨⟨⟨h1,h2⟩,h3⟩,h4⟩:=hb
  have h3':=h3
  have h4':=h4
  simp only [ordV,Zp,Zw] at h3' h4'
  rw [h3] at hoe
  rw [h4] at hos
  obtain ⟨pn,rfl⟩:∃ n:Nat,p=(n:Int):=⟨p.toNat,by omega⟩
  obtain ⟨en,rfl⟩:∃ n:Nat,e=(n:Int):=⟨e.toNat,by omega⟩
  obtain ⟨sn,rfl⟩:∃ n:Nat,s=(n:Int):=⟨s.toNat,by omega⟩
  obtain ⟨d,hd⟩:∃ d,2305843009213693950-en=d:=⟨_,rfl⟩
  have hsub:IntKind.i64.wrap ((2305843009213693950:Int)-(en:Int))=(d:Int):=by
   rw [show (2305843009213693950:Int)-(en:Int)=(d:Int) from by omega]
   exact IntWalk.i64_in _ aa
  have he1:=qP 37 sn aa
  have he2:=qP pn d aa
  obtain ⟨x1,hx1⟩:∃ x,expV 37 sn=x:=⟨_,rfl⟩
  obtain ⟨x2,hx2⟩:∃ x,expV pn d=x:=⟨_,rfl⟩
  rw [hx1] at he1
  rw [hx2] at he2
  have hmu:=vo x1 x2
  obtain ⟨r,hr⟩:∃ r,x1*x2%2305843009213693951=r:=⟨_,rfl⟩
  have hrl:r<2305843009213693951:=by rw [←hr];exact Qc _ (by decide)
  rw [hr] at hmu
  have hch:=wI r pn msg aa aa hm
  have hV:verN (pn:Int) msg (en:Int) (sn:Int)=decide (((en:Nat):Int)=(chalN r pn msg:Nat)):=by
   rw [verN,hbad,Ze,ZZ,ZZ,ZZ,hd,hx1,hx2,hr]
  rw [hV]
  have hbg:¬ (2305843009213693951:Int)≤(pn:Int):=h2
  have hbl:¬ (pn:Int)<1:=h1
  clear hbad hV hr hx1 hx2 hd
  generalize hcn:chalN r pn msg=cn at hch
  repeat' (first|refine ai (cf false rfl rfl (Zc hbl)) rfl am rfl ?_|refine ai (jf false rfl rfl (Zc hbg)) rfl am rfl ?_|(refine ab (hc:=hoe) (hX:=fun _ _=>trivial) ?_)|(refine ab (hc:=hos) (hX:=fun _ _=>trivial) ?_)|refine gs ?_|refine gs1 fun _=>?_|(refine gp ?_ ?_<;>intro hx_ this)|fail)
  rename_i bs
  (refine aq ⟨[0,1,3,4,5,6],[(2,⟨[],[(7,⟨[],[(8,⟨[9],[]⟩)]⟩)]⟩)]⟩ [cel bs 44 (SgD.cells ⟨(en:Int),(sn:Int)⟩)] Glob (h:=?_))
  all_goals repeat' (first|refine ay (hy:=by first|(apply oW (c:=(d:Int));rfl;rfl;exact hsub)) ?_|(refine ab (hc:=he1) (hX:=fun _ h=>by first|trivial|exact h) ?_)|(refine ab (hc:=he2) (hX:=fun _ h=>by first|trivial|exact h) ?_)|(refine ab (hc:=hmu) (hX:=fun _ h=>by first|trivial|exact h) ?_)|refine gd ?_|refine az ?_ (h':=?_)|exact aA|refine gs1 fun _=>?_|(refine gq ?_ ?_<;>intro hx_ this)|fail)
  all_goals
   repeat' (first|refine gs ?_|refine gs1 fun _=>?_|(refine gp ?_ ?_<;>intro hx_ this)|fail)
   (refine aq ⟨[0,1,2,3,4],[(5,⟨[6,7],[]⟩)]⟩ [cel bs 44 (SgD.cells ⟨(en:Int),(sn:Int)⟩)] Glob (h:=?_))
   all_goals repeat' (first|(refine ab (hc:=hch) (hX:=fun _ h=>h) ?_)|refine gd ?_|refine az ?_ (h':=?_)|exact aA|refine gs1 fun _=>?_|(refine gq ?_ ?_<;>intro hx_ this)|fail)
   all_goals
    repeat' (first|refine gs ?_|refine gs1 fun _=>?_|(refine gp ?_ ?_<;>intro hx_ this)|fail)
    exact ad (ag rfl rfl) rfl
def verV (p:Int) (a:ActD):Bool:=rightB a&&verN p (actCore a) a.e a.s
theorem rl (p:Int) (a:ActD) (hr:a.Rng):Pu Tryz.prog 64 #[.int .i64 p,a.v] (fun w=>a.at_ w∧Glob w) (.bool (verV p a)):=by
 refine ak (args:=[_,_]) _ Tryz.func64 rfl Tryz.ntmps64 rfl fun av bor w0=>?_
 have hri:=dY a
 cases hR:rightB a with
 | false =>
  rw [hR] at hri
  rw [show verV p a=false from by rw [verV,hR];rfl]
  repeat' (first|refine gs ?_|refine gs1 fun _=>?_|(refine gp ?_ ?_<;>intro hx_ this)|fail)
  rename_i b3
  (refine aq ⟨[0],[(1,⟨[2,3,4,6,7],[(5,⟨[],[(8,⟨[9,10],[]⟩)]⟩)]⟩)]⟩ [cel b3 46 a.cells] (fun w=>a.at_ w∧Glob w) (h:=?_))
  all_goals repeat' (first|(refine ab (hc:=hri) (hX:=fun _ h=>h.1) ?_)|refine gd ?_|refine az ?_ (h':=?_)|exact aA|refine gs1 fun _=>?_|(refine gq ?_ ?_<;>intro hx_ this)|fail)
  all_goals
   repeat' (first|refine gs ?_|refine gs1 fun _=>?_|(refine gp ?_ ?_<;>intro hx_ this)|fail)
   exact ad (ag rfl rfl) rfl
 | true =>
  rw [hR] at hri
  have hco:=qT a (dl hr)
  have hsz:=fN (dl hr hR)
  rw [hR,Zf] at hco
  have hve:=iO p (coreV a) a.e a.s aa
  have hV:verV p a=verN p (coreV a) a.e a.s:=by rw [verV,actCore,hR];rfl
  rw [hV]
  generalize verN p (coreV a) a.e a.s=V at *
  repeat' (first|refine gs ?_|refine gs1 fun _=>?_|(refine gp ?_ ?_<;>intro hx_ this)|fail)
  rename_i b3
  (refine aq ⟨[0],[(1,⟨[2,3,4,6,7],[(5,⟨[],[(8,⟨[9,10],[]⟩)]⟩)]⟩)]⟩ [cel b3 46 a.cells] (fun w=>a.at_ w∧Glob w) (h:=?_))
  all_goals repeat' (first|(refine ab (hc:=hri) (hX:=fun _ h=>h.1) ?_)|(refine ab (hc:=hco) (hX:=fun _ h=>h.1) ?_)|(refine ab (hc:=hve) (hX:=fun _ h=>h.2) ?_)|refine gd ?_|refine ay (hy:=by first|(apply cC (vs:=SgD.cells ⟨a.e,a.s⟩);rfl;exact .head _;rfl;rfl)) ?_|refine az ?_ (h':=?_)|exact aA|refine gs1 fun _=>?_|(refine gq ?_ ?_<;>intro hx_ this)|fail)
  all_goals
   repeat' (first|refine gs ?_|refine gs1 fun _=>?_|(refine gp ?_ ?_<;>intro hx_ this)|fail)
   exact ad (ag rfl rfl) rfl
def rightK2 (i:ItemD):Bool:=bif decide (i.kind=0) then rightB i.act else bif decide (i.kind=1) then claimR i.claim else bif decide (i.kind=2) then ballotR i.ballot else bif decide (i.kind=3) then decR i.dec else false
def restI (i:ItemD):ItemD:=bif decide (i.kind=0) then ⟨0,ActD.zero,i.claim,i.ballot,i.dec⟩ else bif decide (i.kind=1) then ⟨0,i.act,ClaimD.zero,i.ballot,i.dec⟩ else bif decide (i.kind=2) then ⟨0,i.act,i.claim,BallotD.zero,i.dec⟩ else bif decide (i.kind=3) then ⟨0,i.act,i.claim,i.ballot,DecD.zero⟩ else ⟨0,i.act,i.claim,i.ballot,i.dec⟩
def rightIt (i:ItemD):Bool:=rightK2 i&&sameIZ (restI i)
set_option maxRecDepth 20000 in
theorem dM (i:ItemD):Pu Tryz.prog 73 #[i.v] (fun w=>i.at_ w) (.bool (rightIt i)):=by
 refine ak (args:=[_]) _ Tryz.func73 rfl Tryz.ntmps73 rfl fun av bor w0=>?_
 by_cases h0:i.kind=0
 · have hri:=dY i.act
   have hsa:=fA ⟨0,ActD.zero,i.claim,i.ballot,i.dec⟩
   have e:rightIt i=(rightB i.act&&sameIZ ⟨0,ActD.zero,i.claim,i.ballot,i.dec⟩):=by simp [rightIt,rightK2,restI,h0]
   rw [e]
   generalize rightB i.act=rb at *
   generalize sameIZ ⟨0,ActD.zero,i.claim,i.ballot,i.dec⟩=sb at *
   repeat' (first|refine aP (hab:=by omega) ?_|refine aL (hab:=by omega) ?_|(refine ab (hc:=hri) (hX:=fun w h=>h.1) ?_)|(refine ab (hc:=hsa) (hX:=fun _ _=>trivial) ?_)|refine gs ?_|refine gs1 fun _=>?_|(refine aF (cs:=ActD.zero.cells) (hf:=by rfl) ?_)|(refine dG (⟨0,ActD.zero,i.claim,i.ballot,i.dec⟩:ItemD).cells (h:=?_))|(refine aw (vs:=i.act.cells) (hv:=rfl) ?_)|(refine aF (cs:=ItemD.zero.cells) (hf:=by rfl) ?_)|(refine gp ?_ ?_<;>intro hx_ this)|fail)
   all_goals first
    | exact ad (ag rfl rfl) rfl
    | (refine ad (ag rfl rfl) ?_;simp_all;done)
 by_cases h1:i.kind=1
 · have hri:=oJ i.claim
   have hsa:=fA ⟨0,i.act,ClaimD.zero,i.ballot,i.dec⟩
   have e:rightIt i=(claimR i.claim&&sameIZ ⟨0,i.act,ClaimD.zero,i.ballot,i.dec⟩):=by simp [rightIt,rightK2,restI,h0,h1]
   rw [e]
   generalize claimR i.claim=rb at *
   generalize sameIZ ⟨0,i.act,ClaimD.zero,i.ballot,i.dec⟩=sb at *
   repeat' (first|refine aP (hab:=by omega) ?_|refine aL (hab:=by omega) ?_|(refine ab (hc:=hri) (hX:=fun _ _=>trivial) ?_)|(refine ab (hc:=hsa) (hX:=fun _ _=>trivial) ?_)|refine gs ?_|refine gs1 fun _=>?_|(refine aF (cs:=ClaimD.zero.cells) (hf:=by rfl) ?_)|(refine dG (⟨0,i.act,ClaimD.zero,i.ballot,i.dec⟩:ItemD).cells (h:=?_))|(refine aw (vs:=i.claim.cells) (hv:=rfl) ?_)|(refine aF (cs:=ItemD.zero.cells) (hf:=by rfl) ?_)|(refine gp ?_ ?_<;>intro hx_ this)|fail)
   all_goals first
    | exact ad (ag rfl rfl) rfl
    | (refine ad (ag rfl rfl) ?_;simp_all;done)
 by_cases h2:i.kind=2
 · have hri:=nA i.ballot
   have hsa:=fA ⟨0,i.act,i.claim,BallotD.zero,i.dec⟩
   have e:rightIt i=(ballotR i.ballot&&sameIZ ⟨0,i.act,i.claim,BallotD.zero,i.dec⟩):=by simp [rightIt,rightK2,restI,h0,h1,h2]
   rw [e]
   generalize ballotR i.ballot=rb at *
   generalize sameIZ ⟨0,i.act,i.claim,BallotD.zero,i.dec⟩=sb at *
   repeat' (first|refine aP (hab:=by omega) ?_|refine aL (hab:=by omega) ?_|(refine ab (hc:=hri) (hX:=fun _ _=>trivial) ?_)|(refine ab (hc:=hsa) (hX:=fun _ _=>trivial) ?_)|refine gs ?_|refine gs1 fun _=>?_|(refine aF (cs:=BallotD.zero.cells) (hf:=by rfl) ?_)|(refine dG (⟨0,i.act,i.claim,BallotD.zero,i.dec⟩:ItemD).cells (h:=?_))|(refine aw (vs:=i.ballot.cells) (hv:=rfl) ?_)|(refine aF (cs:=ItemD.zero.cells) (hf:=by rfl) ?_)|(refine gp ?_ ?_<;>intro hx_ this)|fail)
   all_goals first
    | exact ad (ag rfl rfl) rfl
    | (refine ad (ag rfl rfl) ?_;simp_all;done)
 by_cases h3:i.kind=3
 · have hri:=kE i.dec
   have hsa:=fA ⟨0,i.act,i.claim,i.ballot,DecD.zero⟩
   have e:rightIt i=(decR i.dec&&sameIZ ⟨0,i.act,i.claim,i.ballot,DecD.zero⟩):=by simp [rightIt,rightK2,restI,h0,h1,h2,h3]
   rw [e]
   generalize decR i.dec=rb at *
   generalize sameIZ ⟨0,i.act,i.claim,i.ballot,DecD.zero⟩=sb at *
   repeat' (first|refine aP (hab:=by omega) ?_|refine aL (hab:=by omega) ?_|(refine ab (hc:=hri) (hX:=fun w h=>h.2) ?_)|(refine ab (hc:=hsa) (hX:=fun _ _=>trivial) ?_)|refine gs ?_|refine gs1 fun _=>?_|(refine aF (cs:=DecD.zero.cells) (hf:=by rfl) ?_)|(refine dG (⟨0,i.act,i.claim,i.ballot,DecD.zero⟩:ItemD).cells (h:=?_))|(refine aw (vs:=i.dec.cells) (hv:=rfl) ?_)|(refine aF (cs:=ItemD.zero.cells) (hf:=by rfl) ?_)|(refine gp ?_ ?_<;>intro hx_ this)|fail)
   all_goals first
    | exact ad (ag rfl rfl) rfl
    | (refine ad (ag rfl rfl) ?_;simp_all;done)
 have e:rightIt i=false:=by simp [rightIt,rightK2,h0,h1,h2,h3]
 rw [e]
 repeat' (first|refine aL (hab:=by omega) ?_|refine gs ?_|refine gs1 fun _=>?_|(refine gp ?_ ?_<;>intro hx_ this)|fail)
 all_goals exact ad (ag rfl rfl) rfl
def formCells (nm:ByteArray) (f:Nat) (e s:Int):List Value:=[.string nm,.func (.func f) #[] #[],.int .i64 e,.int .i64 s]
theorem ic {N:Nat} {av bor:List Nat} {w0:World} {st:St} {ty:TypeId} {x:Operand} {nm:ByteArray} {f:Nat} {e s:Int} (hx:ev st.env x=some (.agg (formCells nm f e s).toArray)):Sy.Yields Tryz.prog N av bor w0 st (.field 164 x 2) ty (.agg #[.int .i64 e,.int .i64 s]):=Sy.Yields.mk fun A w ok d pos af g=>by
 have hp:(part 44 (formCells nm f e s).toArray 2).run Tryz.prog w=.ok (.agg #[.int .i64 e,.int .i64 s]) w:=by rw [iv];rfl
 simp only [formCells] at hx hp
 simp [execOp,ok.eval hx,Instr.field,run_underlying Tryz.underlying164,asAgg,hp]
def nameC:ByteArray:=⟨#[99,108,97,105,109]⟩
theorem od (it:ItemD) (h:it.kind=1):Pu Tryz.prog 98 #[it.v] (fun _=>True) (.agg (formCells nameC 174 it.claim.e it.claim.s).toArray):=by
 refine ak (args:=[_]) _ Tryz.func98 rfl Tryz.ntmps98 rfl fun av bor w0=>?_
 repeat' (first|refine aP (hab:=by omega) ?_|refine aL (hab:=by omega) ?_|refine gs ?_|refine gs1 fun _=>?_|(refine aw (vs:=[.int .i64 it.claim.e,.int .i64 it.claim.s]) (hv:=rfl) ?_)|(refine aF (cs:=formCells nameC 174 it.claim.e it.claim.s) (hf:=by rfl) ?_)|(refine gp ?_ ?_<;>intro hx_ this)|fail)
 all_goals exact ad (cB rfl rfl bz (by rfl)) rfl
def msgC (x:ClaimD):ByteArray:=textsV [nameC]++coreCl x
theorem Eg (it:ItemD) (h:it.kind=1) (hl:it.claim.Lt) (hz:(msgC it.claim).size≤1099511627776):Pu Tryz.prog 202 #[it.v] (fun _=>True) (.string (msgC it.claim)):=by
 refine ak (args:=[_]) _ Tryz.func202 rfl Tryz.ntmps202 rfl fun av bor w0=>?_
 have hfo:=od it h
 rw [msgC] at hz ⊢
 rw [Za] at hz
 have hS:(⟨#[]⟩:ByteArray)++textsV [nameC]=textsV [nameC]:=ByteArray.empty_append
 have hts:(⟨#[]⟩:ByteArray).size+(textsV [nameC]).size≤1099511627776:=by
  rw [←Za,hS]
  omega
 repeat' (first|(refine ab (hc:=hfo) (hX:=fun _ _=>trivial) ?_)|refine gs ?_|refine gs1 fun _=>?_|(refine gp ?_ ?_<;>intro hx_ this)|fail)
 rename_i bi bf bb bs
 refine bL ?_
 refine gm 5 1 ?_
 refine dc (l:=bld bb none 0 ⟨#[]⟩++[cel bf 164 (formCells nameC 174 it.claim.e it.claim.s),cel bi 60 it.cells]) (List.Perm.swap _ _ _) ?_
 refine cj (pre:=bld bb none 0 ⟨#[]⟩) (fr:=[cel bf 164 (formCells nameC 174 it.claim.e it.claim.s),cel bi 60 it.cells]) (hc:=fd bb none 0 ⟨#[]⟩ ⟨some ⟨bs,0,none⟩,1,1⟩ [nameC] hts) (hX:=fun w h=>bt (xs:=[[encB nameC]]) h.2 rfl (by decide) (by simp)) (h:=?_)
 rintro v R X' ⟨A1,c1,rfl,rfl⟩
 refine cD (X':=(fun _=>True)) (fun w h=>trivial) ?_
 rw [hS]
 generalize textsV [nameC]=p0 at *
 unfold bld
 repeat' (first|refine gs ?_|refine gs1 fun _=>?_|fail)
 refine cj (pre:=bld bb A1 c1 p0) (fr:=[cel bf 164 (formCells nameC 174 it.claim.e it.claim.s),cel bi 60 it.cells]) (hc:=pR bb A1 c1 p0 it hl hz) (hX:=fun _ _=>trivial) (h:=?_)
 rintro v R X' ⟨A2,c2,rfl,rfl⟩
 unfold bld
 repeat' (first|refine gs ?_|refine gs1 fun _=>?_|fail)
 refine eJ (hm:=Zv _ ax) ?_
 repeat' (first|refine gs ?_|refine gs1 fun _=>?_|(refine gp ?_ ?_<;>intro hx_ this)|fail)
 all_goals
  apply ad;apply ag;rfl;rfl
  simp only [cF]
def sgnC (p:Int) (x:ClaimD):Bool:=verN p (msgC x) x.e x.s
theorem ql (p:Int) (it:ItemD) (h:it.kind=1) (hl:it.claim.Lt) (hz:(msgC it.claim).size≤1000000000000):Pu Tryz.prog 126 #[.int .i64 p,it.v] (fun w=>it.at_ w∧Glob w) (.bool (sgnC p it.claim)):=by
 refine ak (args:=[_,_]) _ Tryz.func126 rfl Tryz.ntmps126 rfl fun av bor w0=>?_
 have hms:=Eg it h hl aa
 have hfo:=od it h
 have hve:=iO p (msgC it.claim) it.claim.e it.claim.s hz
 rw [sgnC]
 generalize verN p (msgC it.claim) it.claim.e it.claim.s=V at *
 repeat' (first|refine gs ?_|refine gs1 fun _=>?_|(refine gp ?_ ?_<;>intro hx_ this)|fail)
 rename_i b3
 (refine aq ⟨[0,1,3],[(2,⟨[],[(4,⟨[5],[(6,⟨[7],[]⟩)]⟩)]⟩)]⟩ [cel b3 60 it.cells] (fun w=>it.at_ w∧Glob w) (h:=?_))
 all_goals repeat' (first|(refine ab (hc:=hms) (hX:=fun w h=>trivial) ?_)|(refine ab (hc:=hfo) (hX:=fun _ _=>trivial) ?_)|(refine ab (hc:=hve) (hX:=fun w h=>h.2) ?_)|refine gd ?_|refine ay (hy:=by first|(apply ic;rfl)) ?_|refine az ?_ (h':=?_)|exact aA|refine gs1 fun _=>?_|(refine gq ?_ ?_<;>intro hx_ this)|fail)
 all_goals
  repeat' (first|refine gs ?_|refine gs1 fun _=>?_|(refine gp ?_ ?_<;>intro hx_ this)|fail)
  exact ad (ag rfl rfl) rfl
def nameB:ByteArray:=⟨#[98,97,108,108,111,116]⟩
theorem oe (it:ItemD) (h:it.kind=2):Pu Tryz.prog 98 #[it.v] (fun _=>True) (.agg (formCells nameB 175 it.ballot.e it.ballot.s).toArray):=by
 refine ak (args:=[_]) _ Tryz.func98 rfl Tryz.ntmps98 rfl fun av bor w0=>?_
 repeat' (first|refine aP (hab:=by omega) ?_|refine aL (hab:=by omega) ?_|refine gs ?_|refine gs1 fun _=>?_|(refine aw (vs:=[.int .i64 it.ballot.e,.int .i64 it.ballot.s]) (hv:=rfl) ?_)|(refine aF (cs:=formCells nameB 175 it.ballot.e it.ballot.s) (hf:=by rfl) ?_)|(refine gp ?_ ?_<;>intro hx_ this)|fail)
 all_goals exact ad (cB rfl rfl bz (by rfl)) rfl
def msgB (x:BallotD):ByteArray:=textsV [nameB]++coreBa x
theorem Ei (it:ItemD) (h:it.kind=2) (hl:it.ballot.Lt) (hz:(msgB it.ballot).size≤1099511627776):Pu Tryz.prog 202 #[it.v] (fun _=>True) (.string (msgB it.ballot)):=by
 refine ak (args:=[_]) _ Tryz.func202 rfl Tryz.ntmps202 rfl fun av bor w0=>?_
 have hfo:=oe it h
 rw [msgB] at hz ⊢
 rw [Za] at hz
 have hS:(⟨#[]⟩:ByteArray)++textsV [nameB]=textsV [nameB]:=ByteArray.empty_append
 have hts:(⟨#[]⟩:ByteArray).size+(textsV [nameB]).size≤1099511627776:=by
  rw [←Za,hS]
  omega
 repeat' (first|(refine ab (hc:=hfo) (hX:=fun _ _=>trivial) ?_)|refine gs ?_|refine gs1 fun _=>?_|(refine gp ?_ ?_<;>intro hx_ this)|fail)
 rename_i bi bf bb bs
 refine bL ?_
 refine gm 5 1 ?_
 refine dc (l:=bld bb none 0 ⟨#[]⟩++[cel bf 164 (formCells nameB 175 it.ballot.e it.ballot.s),cel bi 60 it.cells]) (List.Perm.swap _ _ _) ?_
 refine cj (pre:=bld bb none 0 ⟨#[]⟩) (fr:=[cel bf 164 (formCells nameB 175 it.ballot.e it.ballot.s),cel bi 60 it.cells]) (hc:=fd bb none 0 ⟨#[]⟩ ⟨some ⟨bs,0,none⟩,1,1⟩ [nameB] hts) (hX:=fun w h=>bt (xs:=[[encB nameB]]) h.2 rfl (by decide) (by simp)) (h:=?_)
 rintro v R X' ⟨A1,c1,rfl,rfl⟩
 refine cD (X':=(fun _=>True)) (fun w h=>trivial) ?_
 rw [hS]
 generalize textsV [nameB]=p0 at *
 unfold bld
 repeat' (first|refine gs ?_|refine gs1 fun _=>?_|fail)
 refine cj (pre:=bld bb A1 c1 p0) (fr:=[cel bf 164 (formCells nameB 175 it.ballot.e it.ballot.s),cel bi 60 it.cells]) (hc:=oD bb A1 c1 p0 it hl hz) (hX:=fun _ _=>trivial) (h:=?_)
 rintro v R X' ⟨A2,c2,rfl,rfl⟩
 unfold bld
 repeat' (first|refine gs ?_|refine gs1 fun _=>?_|fail)
 refine eJ (hm:=Zv _ ax) ?_
 repeat' (first|refine gs ?_|refine gs1 fun _=>?_|(refine gp ?_ ?_<;>intro hx_ this)|fail)
 all_goals
  apply ad;apply ag;rfl;rfl
  simp only [cF]
def sgnB (p:Int) (x:BallotD):Bool:=verN p (msgB x) x.e x.s
theorem qm (p:Int) (it:ItemD) (h:it.kind=2) (hl:it.ballot.Lt) (hz:(msgB it.ballot).size≤1000000000000):Pu Tryz.prog 126 #[.int .i64 p,it.v] (fun w=>it.at_ w∧Glob w) (.bool (sgnB p it.ballot)):=by
 refine ak (args:=[_,_]) _ Tryz.func126 rfl Tryz.ntmps126 rfl fun av bor w0=>?_
 have hms:=Ei it h hl aa
 have hfo:=oe it h
 have hve:=iO p (msgB it.ballot) it.ballot.e it.ballot.s hz
 rw [sgnB]
 generalize verN p (msgB it.ballot) it.ballot.e it.ballot.s=V at *
 repeat' (first|refine gs ?_|refine gs1 fun _=>?_|(refine gp ?_ ?_<;>intro hx_ this)|fail)
 rename_i b3
 (refine aq ⟨[0,1,3],[(2,⟨[],[(4,⟨[5],[(6,⟨[7],[]⟩)]⟩)]⟩)]⟩ [cel b3 60 it.cells] (fun w=>it.at_ w∧Glob w) (h:=?_))
 all_goals repeat' (first|(refine ab (hc:=hms) (hX:=fun w h=>trivial) ?_)|(refine ab (hc:=hfo) (hX:=fun _ _=>trivial) ?_)|(refine ab (hc:=hve) (hX:=fun w h=>h.2) ?_)|refine gd ?_|refine ay (hy:=by first|(apply ic;rfl)) ?_|refine az ?_ (h':=?_)|exact aA|refine gs1 fun _=>?_|(refine gq ?_ ?_<;>intro hx_ this)|fail)
 all_goals
  repeat' (first|refine gs ?_|refine gs1 fun _=>?_|(refine gp ?_ ?_<;>intro hx_ this)|fail)
  exact ad (ag rfl rfl) rfl
def nameD:ByteArray:=⟨#[100,101,99,105,115,105,111,110]⟩
theorem oc (it:ItemD) (h:it.kind=3):Pu Tryz.prog 98 #[it.v] (fun _=>True) (.agg (formCells nameD 176 it.dec.e it.dec.s).toArray):=by
 refine ak (args:=[_]) _ Tryz.func98 rfl Tryz.ntmps98 rfl fun av bor w0=>?_
 repeat' (first|refine aP (hab:=by omega) ?_|refine aL (hab:=by omega) ?_|refine gs ?_|refine gs1 fun _=>?_|(refine aw (vs:=[.int .i64 it.dec.e,.int .i64 it.dec.s]) (hv:=rfl) ?_)|(refine aF (cs:=formCells nameD 176 it.dec.e it.dec.s) (hf:=by rfl) ?_)|(refine gp ?_ ?_<;>intro hx_ this)|fail)
 all_goals exact ad (cB rfl rfl bz (by rfl)) rfl
def msgD (x:DecD):ByteArray:=textsV [nameD]++coreDe x
theorem Ef (it:ItemD) (h:it.kind=3) (hl:it.dec.Lt) (hz:(msgD it.dec).size≤1099511627776):Pu Tryz.prog 202 #[it.v] (fun w=>it.at_ w) (.string (msgD it.dec)):=by
 refine ak (args:=[_]) _ Tryz.func202 rfl Tryz.ntmps202 rfl fun av bor w0=>?_
 have hfo:=oc it h
 rw [msgD] at hz ⊢
 rw [Za] at hz
 have hS:(⟨#[]⟩:ByteArray)++textsV [nameD]=textsV [nameD]:=ByteArray.empty_append
 have hts:(⟨#[]⟩:ByteArray).size+(textsV [nameD]).size≤1099511627776:=by
  rw [←Za,hS]
  omega
 repeat' (first|(refine ab (hc:=hfo) (hX:=fun _ _=>trivial) ?_)|refine gs ?_|refine gs1 fun _=>?_|(refine gp ?_ ?_<;>intro hx_ this)|fail)
 rename_i bi bf bb bs
 refine bL ?_
 refine gm 5 1 ?_
 refine dc (l:=bld bb none 0 ⟨#[]⟩++[cel bf 164 (formCells nameD 176 it.dec.e it.dec.s),cel bi 60 it.cells]) (List.Perm.swap _ _ _) ?_
 refine cj (pre:=bld bb none 0 ⟨#[]⟩) (fr:=[cel bf 164 (formCells nameD 176 it.dec.e it.dec.s),cel bi 60 it.cells]) (hc:=fd bb none 0 ⟨#[]⟩ ⟨some ⟨bs,0,none⟩,1,1⟩ [nameD] hts) (hX:=fun w h=>bt (xs:=[[encB nameD]]) h.2 rfl (by decide) (by simp)) (h:=?_)
 rintro v R X' ⟨A1,c1,rfl,rfl⟩
 refine cD (X':=(fun w=>it.at_ w)) (fun w h=>h.1.1) ?_
 rw [hS]
 generalize textsV [nameD]=p0 at *
 unfold bld
 repeat' (first|refine gs ?_|refine gs1 fun _=>?_|fail)
 refine cj (pre:=bld bb A1 c1 p0) (fr:=[cel bf 164 (formCells nameD 176 it.dec.e it.dec.s),cel bi 60 it.cells]) (hc:=kf bb A1 c1 p0 it hl hz) (hX:=fun w h=>h) (h:=?_)
 rintro v R X' ⟨A2,c2,rfl,rfl⟩
 unfold bld
 repeat' (first|refine gs ?_|refine gs1 fun _=>?_|fail)
 refine eJ (hm:=Zv _ ax) ?_
 repeat' (first|refine gs ?_|refine gs1 fun _=>?_|(refine gp ?_ ?_<;>intro hx_ this)|fail)
 all_goals
  apply ad;apply ag;rfl;rfl
  simp only [cF]
def sgnD (p:Int) (x:DecD):Bool:=verN p (msgD x) x.e x.s
theorem qj (p:Int) (it:ItemD) (h:it.kind=3) (hl:it.dec.Lt) (hz:(msgD it.dec).size≤1000000000000):Pu Tryz.prog 126 #[.int .i64 p,it.v] (fun w=>it.at_ w∧Glob w) (.bool (sgnD p it.dec)):=by
 refine ak (args:=[_,_]) _ Tryz.func126 rfl Tryz.ntmps126 rfl fun av bor w0=>?_
 have hms:=Ef it h hl aa
 have hfo:=oc it h
 have hve:=iO p (msgD it.dec) it.dec.e it.dec.s hz
 rw [sgnD]
 generalize verN p (msgD it.dec) it.dec.e it.dec.s=V at *
 repeat' (first|refine gs ?_|refine gs1 fun _=>?_|(refine gp ?_ ?_<;>intro hx_ this)|fail)
 rename_i b3
 (refine aq ⟨[0,1,3],[(2,⟨[],[(4,⟨[5],[(6,⟨[7],[]⟩)]⟩)]⟩)]⟩ [cel b3 60 it.cells] (fun w=>it.at_ w∧Glob w) (h:=?_))
 all_goals repeat' (first|(refine ab (hc:=hms) (hX:=fun w h=>h.1) ?_)|(refine ab (hc:=hfo) (hX:=fun _ _=>trivial) ?_)|(refine ab (hc:=hve) (hX:=fun w h=>h.2) ?_)|refine gd ?_|refine ay (hy:=by first|(apply ic;rfl)) ?_|refine az ?_ (h':=?_)|exact aA|refine gs1 fun _=>?_|(refine gq ?_ ?_<;>intro hx_ this)|fail)
 all_goals
  repeat' (first|refine gs ?_|refine gs1 fun _=>?_|(refine gp ?_ ?_<;>intro hx_ this)|fail)
  exact ad (ag rfl rfl) rfl
theorem iw:∀ (l:List Int) (r:ByteArray),(l.foldl (fun r n=>r.push (UInt8.ofNat n.toNat)) r)=r++ofInts l
 | [],r=>by simp [ofInts]
 | b::l,r=>by
  have e:ofInts (b::l)=ofInts [b]++ofInts l:=by
   conv=>lhs;rw [ofInts,QF,iw l]
   rfl
  rw [QF,iw l,e,←Zy]
  congr 1
  simp [ofInts,ByteArray.ext_iff]
theorem sQ (a:Int) (l:List Int):ofInts [a]++ofInts l=ofInts (a::l):=by
 conv=>rhs;rw [ofInts,QF,iw]
 rfl
set_option maxRecDepth 4000 in
theorem refNumD:∀ (f:Nat) (n:Int),0≤n→n<128 ^ f→f≤9→Pu Tryz.prog 156 #[.int .i64 n] (fun _=>True) (.string (ofInts (numD (f+1) n)))
 | f,n,h0,h1,hf=>by
  have hb:(128:Int) ^ f≤9223372036854775808:=by
   have h4:(128:Nat) ^ f≤128 ^ 9:=Nat.pow_le_pow_right aa hf
   have h5:((128 ^ f:Nat):Int)≤((128 ^ 9:Nat):Int):=by exact_mod_cast h4
   have h6:((128 ^ 9:Nat):Int)=9223372036854775808:=by decide
   have h7:((128 ^ f:Nat):Int)=(128:Int) ^ f:=by simp
   omega
  refine ak (args:=[_]) _ Tryz.func156 rfl Tryz.ntmps156 rfl fun av bor w0=>?_
  by_cases hs:128≤n
  · have hf0:f≠0:=fun e=>by rw [e] at h1;simp at h1;omega
    obtain ⟨g,rfl⟩:∃ g,f=g+1:=⟨f-1,by omega⟩
    have ih:=refNumD g (n.tdiv 128) (by rw [Qq h0];omega) (by
     rw [Qq h0]
     rw [Int.pow_succ] at h1
     omega) aa
    rw [sS hs,←sQ]
    have hlw:IntKind.u8.wrap (128+n.tmod 128)=lowD n:=rfl
    have ht1:=Int.tmod_lt_of_pos n (b:=128) aa
    have ht2:=Int.tmod_nonneg 128 h0
    have hq:IntKind.i64.wrap (n.tdiv 128)=n.tdiv 128:=IntWalk.i64_in _ (by rw [Qq h0];omega)
    have hsz:=ff [lowD n]
    have hsz2:=nK (g+1) (n.tdiv 128)
    have hsz3:=ff (numD (g+1) (n.tdiv 128))
    simp only [ZB,ZR,ZU] at hsz
    repeat' (first|refine AQ (hab:=by omega) ?_|refine gs ?_|refine gs1 fun _=>?_|(refine gp ?_ ?_<;>intro hx_ this)|fail)
    (refine bo ⟨[0,1,2,3,6,7],[(4,⟨[],[(5,⟨[],[(8,⟨[9,10],[]⟩)]⟩),(8,⟨[],[(5,⟨[9,10],[]⟩)]⟩)]⟩),(8,⟨[],[(4,⟨[],[(5,⟨[9,10],[]⟩)]⟩)]⟩)]⟩ (h:=?_))
    all_goals repeat' (first|(refine ab (hc:=ih) (hX:=fun _ _=>trivial) ?_)|refine gd ?_|refine ay (hy:=by first|(apply oX;rfl;rfl;decide;rfl)|(apply oZ;rfl;exact hlw)|(apply mr;rfl;rfl;decide;exact hq)|(apply dt;rfl;rfl;omega)) ?_|refine az ?_ (h':=?_)|exact aA|(refine ai (zA (ns:=[lowD n]) rfl ax rfl (by decide)) rfl am rfl ?_)|(refine cR (vs:=[.int .u8 (lowD n)]) fun _=>?_)|refine gs1 fun _=>?_|(refine gq ?_ ?_<;>intro hx_ this)|fail)
    all_goals
     apply cw_ret
     exact ad (ag rfl rfl) rfl
  · rw [nJ hs]
    repeat' (first|refine AQ (hab:=by omega) ?_|refine AP (hab:=by omega) ?_|refine gs ?_|refine gs1 fun _=>?_|(refine ai (zA (ns:=[IntKind.u8.wrap n]) rfl ax rfl (by decide)) rfl am rfl ?_)|(refine gp ?_ ?_<;>intro hx_ this)|fail)
    exact ad (ag rfl rfl) rfl
theorem cw (n:Int) (hn:n<9223372036854775808):Pu Tryz.prog 156 #[.int .i64 n] (fun _=>True) (.string (numV n)):=by
 by_cases h0:0≤n
 · have h:=refNumD 9 n h0 (by rw [show (128:Int) ^ 9=9223372036854775808 from by decide];exact hn) (ZX _)
   rw [numV,Zc (by omega)]
   exact h
 · rw [numV,Zd (by omega)]
   refine ak (args:=[_]) _ Tryz.func156 rfl Tryz.ntmps156 rfl fun av bor w0=>?_
   repeat' (first|refine AP (hab:=by omega) ?_|refine gs ?_|refine gs1 fun _=>?_|(refine gp ?_ ?_<;>intro hx_ this)|fail)
   exact ad (ag rfl rfl) rfl
theorem cX (s:ByteArray) (hs:s.size≤1099511627776):Pu Tryz.prog 153 #[.string s] (fun _=>True) (.string (textV s)):=by
 refine ak (args:=[_]) _ Tryz.func153 rfl Tryz.ntmps153 rfl fun av bor w0=>?_
 have:=ap s.size
 repeat' (first|refine ab (hc:=cw _ aa) ?_|refine gs ?_|(refine nd ?_)|(refine gp ?_ ?_<;>intro hx_ this)|fail)
 exact ad (ag rfl rfl) rfl
theorem nB (s:SlV) (l:List ByteArray) (hs:(listV l).size≤1099511627776):Pu Tryz.prog 238 #[s.v] (fun w=>Strs w s l) (.string (listV l)):=by
 refine ak (args:=[_]) _ Tryz.func238 rfl Tryz.ntmps238 rfl fun av bor w0=>?_
 refine aM (p:=s.n=l.length∧s.n≤maxLen∧(0<l.length→s.p.isSome=true)) (fun w h=>⟨h.len_,ZY (RowsD.cap h) (RowsD.max h),h.some_⟩) fun ⟨hl,hm,hp⟩=>?_
 simp only [maxLen] at hm
 have hn10:=ap s.n
 have hsz:(numV l.length).size+(cats (l.map textV)).size≤1099511627776:=by rw [←Za];exact hs
 have h0:numV l.length++cats ((l.map textV).take 0)=numV s.n:=by simp [cats,hl]
 repeat' (first|refine ab (hc:=cw _ aa) ?_|refine gs ?_|(refine gp ?_ ?_<;>intro hx_ this)|fail)
 refine ar (ι:=Kth l.length) (fun i=>⟨[(0,s.v),(3,.string (numV l.length++cats ((l.map textV).take i.k))),(4,.int .i64 (i.k:Nat))],[],fun w=>Strs w s l⟩) (fun i=>l.length-i.k) ⟨0,Z4 _⟩ (aj ⟨rfl,by rw [h0];rfl,rfl,trivial⟩ (al _) fun _ h=>h) fun i=>?_
 obtain ⟨k,hk⟩:=i
 simp only
 repeat' (first|refine gs ?_|(refine gp ?_ ?_<;>intro hx_ this)|fail)
 · have hlt:k<l.length:=by omega
   have hp':=hp aa
   have hsucc:=fJ (l.map textV) (k:=k) (by rw [ZF];exact hlt)
   have hg:(l.map textV).getD k .empty=textV (l.getD k .empty):=by
    rw [Zo,Z7,Zo,Zb hlt];rfl
   have hle:=eX (l.map textV) (k+1)
   rw [hsucc,Za,hg] at hle
   have hte:(textV (l.getD k .empty)).size=(numV (l.getD k .empty).size).size+(l.getD k .empty).size:=by rw [textV,Za]
   have hca:(numV l.length++cats ((l.map textV).take k)).size=(numV l.length).size+(cats ((l.map textV).take k)).size:=Za
   repeat' (first|refine ab (hc:=cX _ aa) ?_|refine gs ?_|(refine aO (q:=k) ?_)|(refine cU (hF:=fun w h=>Strs.get h hlt) ?_)|(refine nd ?_)|(refine gp ?_ ?_<;>intro hx_ this)|fail)
   exact ⟨(⟨k+1,hlt⟩:Kth l.length),(by show l.length-(k+1)<l.length-k;omega),aj ⟨rfl,by rw [hsucc,hg,←Zy];rfl,rfl,trivial⟩ (al _) fun _ h=>h⟩
 · have hkE:k=l.length:=by omega
   subst hkE
   exact ad (ag rfl rfl) (by rw [listV,Qf (by rw [ZF];exact ZX _)])
def u32n (l:List Nat):List Value:=l.map fun (n:Nat)=>.int .u32 (n:Int)
def U32s (w:World) (s:SlV) (l:List Nat):Prop:=RowsD w 1 s (l.map fun (n:Nat)=>[.int .u32 (n:Int)])
def U8s (w:World) (s:SlV) (l:List Nat):Prop:=RowsD w 1 s (l.map fun (n:Nat)=>[.int .u8 (n:Int)])
theorem rv (l:List Nat):(u32n l).length=l.length:=by simp [u32n]
theorem rx {l:List Nat} {i:Nat} (h:i<l.length):(u32n l)[i]?=some (.int .u32 ((l.getD i 0:Nat):Int)):=by simp [u32n,h]
theorem jL {w:World} {s:SlV} {l:List Nat} {f:Nat→Value} (h:RowsD w 1 s (l.map fun n=>[f n])) {i:Nat} (hi:i<l.length):CellAt w s.p i (f (l.getD i 0)):=by
 obtain ⟨_,_,hc⟩:=RowsD.row h i [f (l.getD i 0)] (by rw [Z7,Zb hi,Zo,Zb hi];rfl)
 have:=hc 0 _ rfl
 rwa [Nat.mul_one,ZT] at this
theorem iU {w:World} {s:SlV} {l:List Nat} {f:Nat→Value} (h:RowsD w 1 s (l.map fun n=>[f n])):s.n=l.length:=by have:=RowsD.len h;simpa using this
theorem gy {w:World} {s:SlV} {l:List Nat} {f:Nat→Value} (h:RowsD w 1 s (l.map fun n=>[f n])) (h0:0<l.length):s.p.isSome=true:=(RowsD.row h 0 [f l[0]] (by rw [Z7,Zb h0];rfl)).2.1
theorem U32s.of_row {w:World} {e n c:Nat} {A:Option Addr} {l:List Nat} (h:ORow w e 1 (.slice A n c) n (u32n l)) (hn:n=l.length):U32s w ⟨A,n,c⟩ l:=by
 have e1:(l.map fun (n:Nat)=>[(.int .u32 (n:Int):Value)]).flatten=u32n l:=by
  clear h hn
  induction l with
  | nil=>rfl
  | cons a l ih=>rw [Z1,Qb,ih];rfl
 rw [←e1] at h
 exact ck h (by rw [ZF,hn]) fun r hr=>by
  obtain ⟨n,_,rfl⟩:=QI.1 hr
  rfl
theorem uc {n:Nat} (h:n<4294967296):IntKind.u32.wrap (n:Int)=(n:Int):=by rw [wrap32,ZD h]
section
variable {P:Program} {N:Nat} {av bor:List Nat} {w0:World} {st:St} {ty:TypeId} {x y:Operand} {t t2:TypeId} {a b:Nat}
theorem tY (hx:ev st.env x=some (.int .u32 (a:Int))) (hy:ev st.env y=some (.int .u32 (b:Int))) (hc:a*b<4294967296):Sy.Yields P N av bor w0 st (.binOp .mul t x y t2) ty (.int .u32 ((a*b:Nat):Int)) :=
 ro hx hy (by rw [←Int.natCast_mul];exact uc hc)
theorem zr (hx:ev st.env x=some (.int .i64 (a:Int))) (hy:ev st.env y=some (.int .i64 (b:Int))) (hc:a*b<9223372036854775808):Sy.Yields P N av bor w0 st (.binOp .mul t x y t2) ty (.int .i64 ((a*b:Nat):Int)) :=
 ro hx hy (by rw [←Int.natCast_mul];exact IntWalk.i64_in _ aa)
theorem FC (hx:ev st.env x=some (.int .u32 (a:Int))) (hy:ev st.env y=some (.int .u32 (b:Int))) (hc:a+b<4294967296):Sy.Yields P N av bor w0 st (.binOp .add t x y t2) ty (.int .u32 ((a+b:Nat):Int)) :=
 li hx hy (by rw [←Int.natCast_add];exact uc hc)
theorem mx (hx:ev st.env x=some (.int .u32 (a:Int))) (hy:ev st.env y=some (.int .u32 (b:Int))):Sy.Yields P N av bor w0 st (.binOp .add t x y t2) ty (.int .u32 (((a+b)%4294967296:Nat):Int)) :=
 li hx hy (by rw [←Int.natCast_add,wrap32])
theorem mq (hx:ev st.env x=some (.int .u32 (a:Int))) (hy:ev st.env y=some (.int .u32 (b:Int))) (ha:a<4294967296) (hb:b<4294967296):Sy.Yields P N av bor w0 st (.binOp .xor t x y t2) ty (.int .u32 ((a ^^^ b:Nat):Int)) :=
 (IsN.xor (x:=(a:Int)) (y:=(b:Int)) ⟨rfl,ha⟩ ⟨rfl,hb⟩).1▸vp hx hy
theorem zC (hx:ev st.env x=some (.int .u32 (a:Int))) (hy:ev st.env y=some (.int .u32 (b:Int))) (ha:a<4294967296) (hb:b<4294967296):Sy.Yields P N av bor w0 st (.binOp .and t x y t2) ty (.int .u32 ((a &&& b:Nat):Int)) :=
 (IsN.and (x:=(a:Int)) (y:=(b:Int)) ⟨rfl,ha⟩ ⟨rfl,hb⟩).1▸rq hx hy
theorem tW {k':IntKind} {c:Int} {p:Nat} (hx:ev st.env x=some (.int .u32 (a:Int))) (hy:ev st.env y=some (.int k' c)) (hc:0≤c) (ha:a<4294967296) (hp:(2:Int) ^ (min c.toNat 32)=(p:Int)):Sy.Yields P N av bor w0 st (.binOp .shr t x y t2) ty (.int .u32 ((a/p:Nat):Int)) :=
 (IsN.shr (x:=(a:Int)) ⟨rfl,ha⟩ p hp).1▸rn hx hy hc
theorem Fx (hx:ev st.env x=some (.int .u32 (a:Int))) (ha:a<4294967296):Sy.Yields P N av bor w0 st (.unOp .xor t x) ty (.int .u32 ((4294967295 ^^^ a:Nat):Int)):=by
 have hm:IsN (if IntKind.u32.signed then -1 else IntKind.u32.max) 4294967295:=⟨by kernel_rfl,by decide⟩
 exact (hm.xor (y:=(a:Int)) ⟨rfl,ha⟩).1▸tR hx
end
theorem C3 {w:World} {s:SlV} {l:List Nat} (h:U32s w s l):Src Tryz.prog w 1 s.v s.n (u32n l):=by
 have e1:(l.map fun (n:Nat)=>[(.int .u32 (n:Int):Value)]).flatten=u32n l:=by
  clear h
  induction l with
  | nil=>rfl
  | cons a l ih=>rw [Z1,Qb,ih];rfl
 have h1:=gw (P:=Tryz.prog) (s:=s) h fun cs hcs=>by
  obtain ⟨n,_,rfl⟩:=QI.1 hcs
  rfl
 rwa [e1] at h1
theorem zQ (l:List Nat) {i v:Nat} (h:i<l.length):(u32n l).take (i*1)++[.int .u32 (v:Int)]++(u32n l).drop (i*1+1)=u32n (l.set i v):=by
 rw [Nat.mul_one,u32n,u32n,List.map_set,List.set_eq_take_append_cons_drop,ZO (by rw [ZF];exact h)]
 simp
theorem FI {m n:Nat} (hm:m<4294967296) (h0:0<n) (hn:n<32):bitsV .or .u32 (shrV .u32 (m:Int) (n:Int)) (shlV .u32 (m:Int) (32-(n:Int)))=((rot (2 ^ (32-n)) (2 ^ n) m:Nat):Int):=by
 have hw:32-(n:Int)=((32-n:Nat):Int):=by omega
 rw [hw]
 have h1:IsN (m:Int) m:=⟨rfl,hm⟩
 have h2:=(h1.shr (c:=(n:Int)) (2 ^ n) (by rw [ZZ,Nat.min_eq_left (by omega)];simp)).or (h1.shl (c:=((32-n:Nat):Int)) (2 ^ (32-n)) (by rw [ZZ,Nat.min_eq_left (by omega)];simp))
 rw [h2.1,rot,Nat.or_comm]
theorem gb {m n:Nat} (hm:m<4294967296) (h0:0<n) (hn:n<32):rot (2 ^ (32-n)) (2 ^ n) m<4294967296:=by
 have h1:IsN (m:Int) m:=⟨rfl,hm⟩
 have h2:=(h1.shl (c:=((32-n:Nat):Int)) (2 ^ (32-n)) (by rw [ZZ,Nat.min_eq_left (by omega)];simp)).or (h1.shr (c:=(n:Int)) (2 ^ n) (by rw [ZZ,Nat.min_eq_left (by omega)];simp))
 exact h2.2
theorem dq (m n:Nat) (hm:m<4294967296) (h0:0<n) (hn:n<32):Pu Tryz.prog 242 #[.int .u32 (m:Int),.int .i64 (n:Int)] (fun _=>True) (.int .u32 ((rot (2 ^ (32-n)) (2 ^ n) m:Nat):Int)):=by
 refine ak (args:=[_,_]) _ Tryz.func242 rfl Tryz.ntmps242 rfl fun av bor w0=>?_
 rw [←FI hm h0 hn]
 repeat' (first|refine gs ?_|(refine gp ?_ ?_<;>intro hx_ this)|fail)
 (refine bo ⟨[0,1,2,3,4,5,6,7,8],[]⟩ (h:=?_))
 all_goals repeat' (first|refine gd ?_|refine ay (hy:=by first|(apply vr;rfl;rfl;omega)|(apply rn;rfl;rfl;omega)) ?_|refine az ?_ (h':=?_)|exact aA|(refine gq ?_ ?_<;>intro hx_ this)|fail)
 repeat' (first|refine gs ?_|(refine gp ?_ ?_<;>intro hx_ this)|fail)
 all_goals exact ad (ag rfl rfl) rfl
theorem zG {a b c d:Nat} (ha:a<256) (hb:b<256) (hc:c<256) (hd:d<256):wdN a b c d=a*16777216+b*65536+c*256+d:=by
 rw [wdN,ZD (show a*16777216<4294967296 by omega),ZD (show b*65536<4294967296 by omega),ZD (show c*256<4294967296 by omega)]
 have h1:a*16777216 ||| b*65536=a*16777216+b*65536:=by
  have:=Nat.two_pow_add_eq_or_of_lt (i:=24) (b:=b*65536) aa a
  rw [show a*16777216=2 ^ 24*a from by omega]
  exact this.symm
 have h2:(a*16777216+b*65536) ||| c*256=a*16777216+b*65536+c*256:=by
  have:=Nat.two_pow_add_eq_or_of_lt (i:=16) (b:=c*256) aa (a*256+b)
  rw [show a*16777216+b*65536=2 ^ 16*(a*256+b) from by omega]
  exact this.symm
 have h3:(a*16777216+b*65536+c*256) ||| d=a*16777216+b*65536+c*256+d:=by
  have:=Nat.two_pow_add_eq_or_of_lt (i:=8) (b:=d) aa (a*65536+b*256+c)
  rw [show a*16777216+b*65536+c*256=2 ^ 8*(a*65536+b*256+c) from by omega]
  exact this.symm
 rw [h1,h2,h3]
def row1 (l:List Nat) (k:Nat):List Nat:=(List.range k).map (fW l)
def row2 (l:List Nat) (k:Nat):List Nat:=(List.range (16+k)).map (sN (fW l) k)
theorem yi (l:List Nat) (k:Nat):row1 l (k+1)=row1 l k++[fW l k]:=by rw [row1,row1,List.range_succ,ZW];rfl
theorem yf (l:List Nat):row2 l 0=row1 l 16:=rfl
theorem rW (l:List Nat) {k t:Nat} (h:t<16+k):(row2 l k).getD t 0=sN (fW l) k t:=by
 rw [row2,Zo,Z7,List.getElem?_range h]
 rfl
theorem yg (l:List Nat) (k:Nat):row2 l (k+1)=row2 l k++[nextW (sN (fW l) k k) (sN (fW l) k (k+1)) (sN (fW l) k (k+9)) (sN (fW l) k (k+14))]:=by
 rw [row2,row2,show 16+(k+1)=(16+k)+1 from by omega,List.range_succ,ZW,Z1,List.map_nil,uu]
 congr 1
 refine Qz fun t ht=>?_
 exact qp _ (by rw [List.mem_range] at ht;omega)
theorem jM (l:List Nat) (k:Nat):(row2 l k).length=16+k:=by simp [row2]
theorem GR {l:List Nat} (h:∀ x∈l,x<256) (t:Nat):fW l t<4294967296:=by
 have g:=fun i=>fT h i
 rw [fW,zG (g _) (g _) (g _) (g _)]
 have g0:=g (4*t)
 have g1:=g (4*t+1)
 have g2:=g (4*t+2)
 have g3:=g (4*t+3)
 omega
theorem E9 (f:Nat→Nat) (h:∀ t,f t<4294967296):∀ k t,sN f k t<4294967296
 | 0,t=>h t
 | k+1,t=>by
  rw [sN]
  split
  · exact Qc _ aa
  · exact E9 f h k t
structure RowU (n:Nat) where
 k:Nat
 hk:k≤n
 A:Option Addr
 c:Nat
set_option maxRecDepth 20000 in
theorem sD (s:SlV) (l:List Nat) (hl:l.length=64) (hb:∀ x∈l,x<256):Mk Tryz.prog 240 #[s.v] (fun w=>U8s w s l) (fun u X'=>∃ s':SlV,u=s'.v∧∀ w,X' w→U32s w s' (row2 l 48)):=by
 refine bZ (args:=[_]) _ Tryz.func240 rfl Tryz.ntmps240 rfl fun av bor w0=>?_
 refine aM (p:=s.n=64∧s.p.isSome=true) (fun w h=>⟨by rw [iU (f:=fun n=>.int .u8 (n:Int)) h,hl],gy (f:=fun n=>.int .u8 (n:Int)) h aa⟩) fun ⟨hsn,hsp⟩=>?_
 have hg:∀ i,l.getD i 0<256:=fun i=>fT hb i
 repeat' (first|refine gs ?_|refine gs1 fun _=>?_|fail)
 refine cJ 167 1 ?_
 refine ar (ι:=RowU 16) (fun i=>⟨[(0,s.v),(3,.slice i.A i.k i.c),(4,.int .i64 (i.k:Nat))],[orow 167 1 (.slice i.A i.k i.c) i.k (u32n (row1 l i.k))],fun w=>U8s w s l⟩) (fun i=>16-i.k) ⟨0,by omega,none,0⟩ (aj ao (.cons_cons _ (Zu _)) fun _ h=>h) fun i=>?_
 obtain ⟨k,hk,A,c⟩:=i
 simp only
 repeat' (first|refine gs ?_|refine gs1 fun _=>?_|(refine gp ?_ ?_<;>intro hx_ this)|fail)
 · have hlt:k<16:=by omega
   have g0:=hg (4*k)
   have g1:=hg (4*k+1)
   have g2:=hg (4*k+2)
   have g3:=hg (4*k+3)
   have hfw:fW l k=l.getD (4*k) 0*16777216+l.getD (4*k+1) 0*65536+l.getD (4*k+2) 0*256+l.getD (4*k+3) 0:=zG g0 g1 g2 g3
   obtain ⟨b0,e0⟩:∃ b,b=l.getD (4*k) 0:=⟨_,rfl⟩
   obtain ⟨b1,e1⟩:∃ b,b=l.getD (4*k+1) 0:=⟨_,rfl⟩
   obtain ⟨b2,e2⟩:∃ b,b=l.getD (4*k+2) 0:=⟨_,rfl⟩
   obtain ⟨b3,e3⟩:∃ b,b=l.getD (4*k+3) 0:=⟨_,rfl⟩
   rw [←e0] at g0 hfw
   rw [←e1] at g1 hfw
   rw [←e2] at g2 hfw
   rw [←e3] at g3 hfw
   have hget:∀ w,U8s w s l→∀ i,i<64→CellAt w s.p i (.int .u8 ((l.getD i 0:Nat):Int)):=fun w h i hi=>jL (f:=fun n=>.int .u8 (n:Int)) h aa
   (refine aq ⟨[0,1,2,3,4,5,6,7,8,9,10,11,12,13,14,15,16,17,18,19,20,21,22,23,24,25,26,27,28,29,30,31,32,33],[(34,⟨[],[(35,⟨[36],[]⟩)]⟩)]⟩ [] (fun w=>U8s w s l) (h:=?_))
   all_goals repeat' (first|refine ay (hy:=by first|(apply FC;rfl;rfl;omega)|(apply oZ;rfl;exact uc aa)) ?_|refine gd ?_|refine ay (hy:=by first|(apply zr (a:=4) (b:=k);rfl;rfl;omega)|(apply tY (b:=16777216);rfl;rfl;omega)|(apply tY (b:=65536);rfl;rfl;omega)|(apply tY (b:=256);rfl;rfl;omega)|(apply aC (q:=4*k);rfl;rfl;omega;omega;assumption;omega)|(apply aC (q:=4*k+1);rfl;rfl;omega;omega;assumption;omega)|(apply aC (q:=4*k+2);rfl;rfl;omega;omega;assumption;omega)|(apply aC (q:=4*k+3);rfl;rfl;omega;omega;assumption;omega)|(apply dR (q:=4*k) (u:=.int .u8 (b0:Int));rfl;exact fun w h=>e0▸hget w h (4*k) aa)|(apply dR (q:=4*k+1) (u:=.int .u8 (b1:Int));rfl;exact fun w h=>e1▸hget w h (4*k+1) aa)|(apply dR (q:=4*k+2) (u:=.int .u8 (b2:Int));rfl;exact fun w h=>e2▸hget w h (4*k+2) aa)|(apply dR (q:=4*k+3) (u:=.int .u8 (b3:Int));rfl;exact fun w h=>e3▸hget w h (4*k+3) aa)) ?_|refine az ?_ (h':=?_)|exact aA|refine cR (vs:=[.int .u32 ((b0*16777216+b1*65536+b2*256+b3:Nat):Int)]) fun _=>?_|(refine ia ?_;refine aN (size:=1) (news:=u32n [b0*16777216+b1*65536+b2*256+b3]) (q:=1) rfl rfl rfl rfl (fun _=>At.there _ (At.here _)) (fun w G=>bX G ax rfl rfl 1) aa (by simp only [maxLen];omega) rfl ?_ rfl ?_;(first|with_reducible rfl|with_reducible assumption|with_reducible exact Zl|with_reducible exact Zn);intro A2 c2)|refine gs1 fun _=>?_|(refine gq ?_ ?_<;>intro hx_ this)|fail)
   have hrow:=yi l k
   rw [hfw] at hrow
   repeat' (first|refine gs ?_|refine gs1 fun _=>?_|(refine gp ?_ ?_<;>intro hx_ this)|fail)
   exact ⟨(⟨k+1,hlt,A2,c2⟩:RowU 16),(by show 16-(k+1)<16-k;omega),aj ao (by rw [hrow,u32n,ZW];exact .cons _ (al _)) fun _ h=>h⟩
 · obtain rfl:k=16:=by omega
   rw [←yf]
   refine ar (ι:=RowU 48) (fun i=>⟨[(3,.slice i.A (16+i.k) i.c),(5,.int .i64 ((16+i.k:Nat):Int))],[orow 167 1 (.slice i.A (16+i.k) i.c) (16+i.k) (u32n (row2 l i.k))],fun w=>True⟩) (fun i=>48-i.k) ⟨0,by omega,A,c⟩ (aj ao (al _) fun _ h=>trivial) fun i=>?_
   obtain ⟨k,hk,A,c⟩:=i
   simp only
   refine cK ax (fun w h=>cA h aa) fun hAs=>?_
   repeat' (first|refine gs ?_|refine gs1 fun _=>?_|(refine gp ?_ ?_<;>intro hx_ this)|fail)
   · have hlt:k<48:=by omega
     have hm:∀ t,sN (fW l) k t<4294967296:=E9 _ (GR hb) k
     have hA:∀ t,t<16+k→(u32n (row2 l k))[t]?=some (.int .u32 ((sN (fW l) k t:Nat):Int)):=fun t h=>by rw [rx (by rw [jM];exact h),rW l h]
     have hn:16+k=(u32n (row2 l k)).length:=by rw [rv,jM]
     have hg0:=hA k aa
     have hg1:=hA (k+1) aa
     have hg9:=hA (k+9) aa
     have hg14:=hA (k+14) aa
     have hnx:nextW (sN (fW l) k k) (sN (fW l) k (k+1)) (sN (fW l) k (k+9)) (sN (fW l) k (k+14))=(((sN (fW l) k k+s0N (sN (fW l) k (k+1)))%4294967296+sN (fW l) k (k+9))%4294967296+s1N (sN (fW l) k (k+14)))%4294967296:=rfl
     have hrow:=yg l k
     rw [hnx] at hrow
     have m1:=hm (k+1)
     have m14:=hm (k+14)
     obtain ⟨x0,e0⟩:∃ x,x=sN (fW l) k k:=⟨_,rfl⟩
     obtain ⟨x1,e1⟩:∃ x,x=sN (fW l) k (k+1):=⟨_,rfl⟩
     obtain ⟨x9,e9⟩:∃ x,x=sN (fW l) k (k+9):=⟨_,rfl⟩
     obtain ⟨x14,e14⟩:∃ x,x=sN (fW l) k (k+14):=⟨_,rfl⟩
     rw [←e0] at hg0 hrow
     rw [←e1] at hg1 m1 hrow
     rw [←e9] at hg9 hrow
     rw [←e14] at hg14 m14 hrow
     clear hA hm hnx
     have t7:=dq x1 7 m1 aa aa
     have t18:=dq x1 18 m1 aa aa
     have t17:=dq x14 17 m14 aa aa
     have t19:=dq x14 19 m14 aa aa
     have l7:=gb (n:=7) m1 aa aa
     have l18:=gb (n:=18) m1 aa aa
     have l17:=gb (n:=17) m14 aa aa
     have l19:=gb (n:=19) m14 aa aa
     have hs0:s0N x1=(rot (2 ^ (32-7)) (2 ^ 7) x1 ^^^ rot (2 ^ (32-18)) (2 ^ 18) x1) ^^^ (x1/8):=rfl
     have hs1:s1N x14=(rot (2 ^ (32-17)) (2 ^ 17) x14 ^^^ rot (2 ^ (32-19)) (2 ^ 19) x14) ^^^ (x14/1024):=rfl
     rw [hs0,hs1] at hrow
     clear hs0 hs1
     generalize rot (2 ^ (32-7)) (2 ^ 7) x1=r7 at *
     generalize rot (2 ^ (32-18)) (2 ^ 18) x1=r18 at *
     generalize rot (2 ^ (32-17)) (2 ^ 17) x14=r17 at *
     generalize rot (2 ^ (32-19)) (2 ^ 19) x14=r19 at *
     have lx:=Nat.xor_lt_two_pow (n:=32) l7 l18
     have ly:=Nat.xor_lt_two_pow (n:=32) l17 l19
     have d3:x1/8<4294967296:=by omega
     have d10:x14/1024<4294967296:=by omega
     repeat' (first|refine ai (mq rfl rfl (by assumption) (by assumption)) rfl am rfl ?_|refine ai (tW (p:=8) rfl rfl (by decide) (by assumption) (by decide)) rfl am rfl ?_|refine ai (tW (p:=1024) rfl rfl (by decide) (by assumption) (by decide)) rfl am rfl ?_|(refine ab (hc:=t7) (hX:=fun _ _=>trivial) ?_)|(refine ab (hc:=t18) (hX:=fun _ _=>trivial) ?_)|(refine ab (hc:=t17) (hX:=fun _ _=>trivial) ?_)|(refine ab (hc:=t19) (hX:=fun _ _=>trivial) ?_)|refine gs ?_|refine gs1 fun _=>?_|(refine aO (q:=k+1) ?_)|(refine aO (q:=k+14) ?_)|(refine ai (ei rfl ax hn hg1) rfl am rfl ?_)|(refine ai (ei rfl ax hn hg14) rfl am rfl ?_)|(refine gp ?_ ?_<;>intro hx_ this)|fail)
     obtain ⟨v,hv⟩:∃ v,v=((((x0+(r7 ^^^ r18 ^^^ x1/8))%4294967296+x9)%4294967296+(r17 ^^^ r19 ^^^ x14/1024))%4294967296):=⟨_,rfl⟩
     rw [←hv] at hrow
     (refine aq ⟨[0,1,2,3,4,6,8,9,10,11,14],[(5,⟨[7],[(12,⟨[13,15],[(16,⟨[],[(17,⟨[18],[]⟩)]⟩)]⟩)]⟩),(12,⟨[],[(5,⟨[7,13,15],[(16,⟨[],[(17,⟨[18],[]⟩)]⟩)]⟩)]⟩)]⟩ [] (fun w=>True) (h:=?_))
     all_goals repeat' (first|refine ay (hy:=by first|(apply mx;rfl;rfl)) ?_|refine gd ?_|refine ay (hy:=by first|(apply aC (q:=k);rfl;rfl;omega;omega;assumption;omega)|(apply aC (q:=k+9);rfl;rfl;omega;omega;assumption;omega)) ?_|refine az ?_ (h':=?_)|exact aA|(refine ai (ei rfl ax hn hg0) rfl am rfl ?_)|(refine ai (ei rfl ax hn hg9) rfl am rfl ?_)|((rw [←hv];refine cR (vs:=[.int .u32 (v:Int)]) fun _=>?_))|(refine ia ?_;refine aN (size:=1) (news:=u32n [v]) (q:=1) rfl rfl rfl rfl (fun _=>At.there _ (At.here _)) (fun w G=>bX G ax rfl rfl 1) aa (by simp only [maxLen];omega) rfl ?_ rfl ?_;(first|with_reducible rfl|with_reducible assumption|with_reducible exact Zl|with_reducible exact Zn);intro A2 c2)|refine gs1 fun _=>?_|(refine gq ?_ ?_<;>intro hx_ this)|fail)
     all_goals
      repeat' (first|refine gs ?_|refine gs1 fun _=>?_|(refine gp ?_ ?_<;>intro hx_ this)|fail)
      exact ⟨(⟨k+1,hlt,A2,c2⟩:RowU 48),(by show 48-(k+1)<48-k;omega),aj ao (by rw [hrow,u32n,ZW];exact .cons _ (al _)) fun _ h=>h⟩
   · obtain rfl:k=48:=by omega
     exact ad (ag rfl rfl) ⟨⟨A,64,c⟩,rfl,fun w h=>U32s.of_row (h.2 (orow 167 1 (.slice A (16+48) c) (16+48) (u32n (row2 l 48))) ax) (by rw [jM])⟩
def S8.l (s:S8):List Nat:=[s.a,s.b,s.c,s.d,s.e,s.f,s.g,s.h]
structure S8.Lt (s:S8):Prop where
 a:s.a<4294967296
 b:s.b<4294967296
 c:s.c<4294967296
 d:s.d<4294967296
 e:s.e<4294967296
 f:s.f<4294967296
 g:s.g<4294967296
 h:s.h<4294967296
theorem rX (s:S8) (k w:Nat):roundN s k w=⟨(t1N s.h s.e s.f s.g k w+t2N s.a s.b s.c)%4294967296,s.a,s.b,s.c,(s.d+t1N s.h s.e s.f s.g k w)%4294967296,s.e,s.f,s.g⟩:=by
 obtain ⟨a,b,c,d,e,f,g,h⟩:=s
 simp only [roundN,om]
theorem S8.Lt.round {s:S8} (h:s.Lt) (k w:Nat):(roundN s k w).Lt:=by
 rw [rX]
 exact ⟨Qc _ aa,h.a,h.b,h.c,Qc _ aa,h.e,h.f,h.g⟩
def rndN (f:Nat→Nat) (s:S8):Nat→S8
 | 0=>s
 | i+1=>roundN (rndN f s i) (kN.getD i 0) (sN f 48 i)
theorem Bk (f:Nat→Nat) {s:S8} (h:s.Lt):∀ i,(rndN f s i).Lt
 | 0=>h
 | i+1=>(Bk f h i).round _ _
theorem DM (f:Nat→Nat) {i:Nat} (h:i<64):sN f 48 i=sN f i i:=by
 by_cases hi:i≤48
 · have:=jJ f (k:=i) (t:=i) (48-i) aa
   rw [show i+(48-i)=48 from by omega] at this
   exact this
 · have:=jJ f (k:=48) (t:=i) (i-48) aa
   rw [show 48+(i-48)=i from by omega] at this
   exact this.symm
theorem rY (f:Nat→Nat) (s:S8):∀ i,i≤64→(kN.take i).foldl stepN (s,winN f 0)=(rndN f s i,winN f i)
 | 0,_=>rfl
 | i+1,h=>by
  have hl:kN.length=64:=by kernel_rfl
  have e:kN.take (i+1)=kN.take i++[kN.getD i 0]:=by
   rw [Qg,Zo,Zb (by omega)]
   rfl
  rw [e,List.foldl_append,rY f s i aa,QF,List.foldl_nil,rK,o9,rndN,DM f (by omega)]
  have hw:(winN f i).w0=sN f i i:=by unfold winN;rfl
  rw [hw]
theorem uv (f:Nat→Nat) (s:S8):roundsN kN s (winN f 0)=rndN f s 64:=by
 have hl:kN.length=64:=by kernel_rfl
 have h:=rY f s 64 (ZX _)
 rw [Qf (by omega)] at h
 rw [roundsN,h]
theorem GP (s:S8) (w:W16):(mixN s w).l=[(s.a+(roundsN kN s w).a)%4294967296,(s.b+(roundsN kN s w).b)%4294967296,(s.c+(roundsN kN s w).c)%4294967296,(s.d+(roundsN kN s w).d)%4294967296,(s.e+(roundsN kN s w).e)%4294967296,(s.f+(roundsN kN s w).f)%4294967296,(s.g+(roundsN kN s w).g)%4294967296,(s.h+(roundsN kN s w).h)%4294967296]:=by
 rw [mixN]
 generalize roundsN kN s w=t
 obtain ⟨a,b,c,d,e,f,g,h⟩:=s
 obtain ⟨a',b',c',d',e',f',g',h'⟩:=t
 simp only [addN,om,S8.l]
theorem F9 (s:S8) (w:W16):(mixN s w).Lt:=by
 rw [mixN]
 generalize roundsN kN s w=t
 obtain ⟨a,b,c,d,e,f,g,h⟩:=s
 obtain ⟨a',b',c',d',e',f',g',h'⟩:=t
 simp only [addN,om]
 exact ⟨Qc _ aa,Qc _ aa,Qc _ aa,Qc _ aa,Qc _ aa,Qc _ aa,Qc _ aa,Qc _ aa⟩
theorem Gm:iniN.Lt:=⟨by decide,by decide,by decide,by decide,by decide,by decide,by decide,by decide⟩
set_option maxRecDepth 8000 in
theorem qw:Mk Tryz.prog 160 #[] (fun _=>True) (fun u X'=>∃ s':SlV,u=s'.v∧∀ w,X' w→U32s w s' iniN.l):=by
 refine bZ (args:=[]) _ Tryz.func160 rfl Tryz.ntmps160 rfl fun av bor w0=>?_
 repeat' (first|(refine cR (vs:=u32n iniN.l) fun b=>?_;refine qi 1 8 rfl (by decide) ?_)|refine gs ?_|refine gs1 fun _=>?_|(refine gp ?_ ?_<;>intro hx_ this)|fail)
 exact ad (ag rfl rfl) ⟨⟨some ⟨b,0,none⟩,8,8⟩,rfl,fun w h=>U32s.of_row (h.2 _ ax) rfl⟩
set_option maxRecDepth 20000 in
theorem uH:Mk Tryz.prog 241 #[] (fun _=>True) (fun u X'=>∃ s':SlV,u=s'.v∧∀ w,X' w→U32s w s' kN):=by
 refine bZ (args:=[]) _ Tryz.func241 rfl Tryz.ntmps241 rfl fun av bor w0=>?_
 repeat' (first|(refine cR (vs:=u32n kN) fun b=>?_;refine qi 1 64 rfl (by decide) ?_)|refine gs ?_|refine gs1 fun _=>?_|(refine gp ?_ ?_<;>intro hx_ this)|fail)
 exact ad (ag rfl rfl) ⟨⟨some ⟨b,0,none⟩,64,64⟩,rfl,fun w h=>U32s.of_row (h.2 _ ax) ae⟩
end Go.Proofs.YtaolfiikahlmkaaGreatDoor
namespace Go.Proofs.YtaolfiikahlmkaaGreatDoor
open Go Go.Proofs Sy
section
variable {P:Program} {N:Nat} {av bor:List Nat} {w0:World} {st:St} {ty:TypeId} {x y:Operand} {t t2:TypeId} {k:IntKind}
end
end Go.Proofs.YtaolfiikahlmkaaGreatDoor
namespace Go.Proofs.YtaolfiikahlmkaaGreatDoor
open Go Go.Proofs Sy
section
variable {P:Program} {N:Nat} {av bor:List Nat} {w0:World} {ops:Array Oper} {rest:List Oper} {kk:St→Prop} {E:Env} {loc:List Res} {X:World→Prop} {x y:Operand} {t t2:TypeId}
variable {n:Nat} {ty:TypeId} {pos:String} {af:Array Edge} {g:Option (Nat×Bool)} {bb want:Bool}
end
structure PostTo (P Q:List PostD):Prop where
 to:Q.map (fun p=>(p.to,p.toL,p.pos))=P.map fun p=>(p.to,p.toL,p.pos)
end Go.Proofs.YtaolfiikahlmkaaGreatDoor
namespace Go.Proofs.YtaolfiikahlmkaaGreatDoor
open Go Go.Proofs Sy
end Go.Proofs.YtaolfiikahlmkaaGreatDoor
namespace Go.Proofs.YtaolfiikahlmkaaGreatDoor
open Go Go.Proofs Sy
section
variable {P:Program} {N:Nat} {av bor:List Nat} {w0:World} {E:Env} {loc:List Res} {X:World→Prop} {K:Exit→St→Prop} {c:Code}
end
theorem PostTo.trans {P Q R:List PostD} (h:PostTo P Q) (k:PostTo Q R):PostTo P R:=⟨k.to.trans h.to⟩
theorem PostTo.pos {P Q:List PostD} (h:PostTo P Q) (j:Nat):posP Q j=posP P j:=by
 have e:∀ L:List PostD,posP L j=(L.map fun p=>(p.to,p.toL,p.pos)).findIdx? fun t=>t.2.2==j:=fun L=>by rw [posP,List.findIdx?_map];rfl
 rw [e,e,h.to]
structure OfI (c:ChainD) (P:List PostD) where
 k:Nat
 hk:k≤c.actsL.length
 Q:List PostD
 hQ:Q.map PostD.can=ofP c k
 hT:PostTo P Q
end Go.Proofs.YtaolfiikahlmkaaGreatDoor
namespace Go.Proofs.YtaolfiikahlmkaaGreatDoor
open Go Go.Proofs Sy
def isPost (id:ByteArray) (p:PostD):Bool:=seqB p.id id
structure FinI (l:List ChainD) (id:ByteArray) where
 k:Nat
 hk:k≤l.length
 no:∀ i x,i<k→l[i]?=some x→∀ q∈postsV x,isPost id q=false
structure FinJ (P:List PostD) (id:ByteArray) where
 j:Nat
 hj:j≤P.length
 no:∀ i q,i<j→P[i]?=some q→isPost id q=false
structure ChOk (c:ChainD):Prop where
 acts:ActsOk c.actsL
 len:c.actsL.length≤1000000
 to:∀ x∈c.actsL,x.to.n≤1000000
structure HisI (m:Nat) where
 k:Nat
 hk:k≤m
 A:Option Addr
 c:Nat
end Go.Proofs.YtaolfiikahlmkaaGreatDoor
namespace Go.Proofs.YtaolfiikahlmkaaGreatDoor
open Go Go.Proofs Sy
section
variable {P:Program} {N:Nat} {av bor:List Nat} {w0:World} {E:Env} {loc:List Res} {X:World→Prop}
end
end Go.Proofs.YtaolfiikahlmkaaGreatDoor
namespace Go.Proofs.YtaolfiikahlmkaaGreatDoor
open Go Go.Proofs Sy
def accL (vs hs:List Nat):Nat→List Nat
 | 0=>vs
 | i+1=>(accL vs hs i).set i (((accL vs hs i).getD i 0+hs.getD i 0)%4294967296)
theorem tQ (vs hs:List Nat):∀ i,(accL vs hs i).length=vs.length
 | 0=>rfl
 | i+1=>by rw [accL,Z9,tQ vs hs i]
structure RowA (n:Nat) where
 k:Nat
 hk:k≤n
 A:Option Addr
 c:Nat
set_option maxRecDepth 20000 in
theorem uA (sh sb:SlV) (h:S8) (hh:h.Lt) (l:List Nat) (hl:l.length=64) (hb:∀ x∈l,x<256):Mk Tryz.prog 161 #[sh.v,sb.v] (fun w=>U32s w sh h.l∧U8s w sb l) (fun u X'=>∃ s':SlV,u=s'.v∧∀ w,X' w→U32s w s' (mixN h (winN (fW l) 0)).l):=by
 refine bZ (args:=[_,_]) _ Tryz.func161 rfl Tryz.ntmps161 rfl fun av bor w0=>?_
 have hwo:=sD sb l hl hb
 refine aM (p:=sh.n=8∧sh.p.isSome=true) (fun w h1=>⟨by rw [iU (f:=fun n=>.int .u32 (n:Int)) h1.1];rfl,gy (f:=fun n=>.int .u32 (n:Int)) h1.1 (by rw [show h.l.length=8 from rfl];omega)⟩) fun ⟨hsn,hsp⟩=>?_
 have hkl:kN.length=64:=by kernel_rfl
 have hwl:(row2 l 48).length=64:=jM l 48
 repeat' (first|refine me fun _=>?_|(refine bS (hc:=hwo) (hX:=fun w h=>h.2) fun v1 X1 h1=>?_;obtain ⟨sw,rfl,hW⟩:=h1)|(refine bS (hc:=uH) (hX:=fun _ _=>trivial) fun v2 X2 h2=>?_;obtain ⟨sk,rfl,hK⟩:=h2)|(refine aN (size:=1) (news:=u32n h.l) (q:=sh.n) rfl rfl rfl rfl (fun _=>At.here _) (fun w G=>C3 G.keep.now.1.1.1) aa (by simp only [maxLen];omega) rfl ?_ rfl ?_;(first|with_reducible rfl|with_reducible assumption|with_reducible exact Zl|with_reducible exact Zn);intro A0 c0)|refine gs ?_|refine gs1 fun _=>?_|(refine gp ?_ ?_<;>intro hx_ this)|fail)
 rw [hsn]
 refine aM (p:=(sw.n=64∧sw.p.isSome=true)∧(sk.n=64∧sk.p.isSome=true)) (fun w h1=>⟨⟨by rw [iU (f:=fun n=>.int .u32 (n:Int)) (hW w h1.1.2),hwl],gy (f:=fun n=>.int .u32 (n:Int)) (hW w h1.1.2) aa⟩,⟨by rw [iU (f:=fun n=>.int .u32 (n:Int)) (hK w h1.2),hkl],gy (f:=fun n=>.int .u32 (n:Int)) (hK w h1.2) aa⟩⟩) fun ⟨⟨hwn,hwp⟩,⟨hkn,hkp⟩⟩=>?_
 refine ar (ι:=RowA 64) (fun i=>⟨[(0,sh.v),(5,sw.v),(6,sk.v),(7,.slice i.A 8 i.c),(8,.int .i64 (i.k:Nat))],[orow 167 1 (.slice i.A 8 i.c) 8 (u32n (rndN (fW l) h i.k).l)],fun w=>(U32s w sh h.l∧U32s w sw (row2 l 48))∧U32s w sk kN⟩) (fun i=>64-i.k) ⟨0,by omega,A0,c0⟩ (aj ao (al _) fun w h1=>⟨⟨h1.1.1.1,hW w h1.1.2⟩,hK w h1.2⟩) fun i=>?_
 obtain ⟨k,hk,A,c⟩:=i
 simp only
 refine cK ax (fun w h=>cA h aa) fun hAs=>?_
 repeat' (first|refine gs ?_|refine gs1 fun _=>?_|(refine gp ?_ ?_<;>intro hx_ this)|fail)
 · have hlt:k<64:=by omega
   have hLt:=Bk (fW l) hh k
   obtain ⟨kk,hkk⟩:∃ x,x=kN.getD k 0:=⟨_,rfl⟩
   obtain ⟨ww,hww⟩:∃ x,x=sN (fW l) 48 k:=⟨_,rfl⟩
   have hgk:∀ w,(U32s w sh h.l∧U32s w sw (row2 l 48))∧U32s w sk kN→CellAt w sk.p k (.int .u32 (kk:Int)):=fun w h1=>hkk▸jL (f:=fun n=>.int .u32 (n:Int)) h1.2 aa
   have hgw:∀ w,(U32s w sh h.l∧U32s w sw (row2 l 48))∧U32s w sk kN→CellAt w sw.p k (.int .u32 (ww:Int)):=fun w h1=>by
    have h2:=jL (f:=fun n=>.int .u32 (n:Int)) h1.1.2 (i:=k) aa
    rw [rW l aa,←hww] at h2
    exact h2
   have hnext:rndN (fW l) h (k+1)=roundN (rndN (fW l) h k) kk ww:=by rw [rndN,hkk,hww]
   rw [rX] at hnext
   generalize rndN (fW l) h k=S at *
   obtain ⟨a,b,d,e,f,g,p,q⟩:=S
   obtain ⟨ha,hbb,hd,he,hf,hg,hp,hq⟩:=hLt
   simp only at ha hbb hd he hf hg hp hq hnext
   simp only [S8.l]
   have hn:8=(u32n [a,b,d,e,f,g,p,q]).length:=rfl
   have hg0:(u32n [a,b,d,e,f,g,p,q])[0]?=some (.int .u32 (a:Int)):=rfl
   have hg1:(u32n [a,b,d,e,f,g,p,q])[1]?=some (.int .u32 (b:Int)):=rfl
   have hg2:(u32n [a,b,d,e,f,g,p,q])[2]?=some (.int .u32 (d:Int)):=rfl
   have hg3:(u32n [a,b,d,e,f,g,p,q])[3]?=some (.int .u32 (e:Int)):=rfl
   have hg4:(u32n [a,b,d,e,f,g,p,q])[4]?=some (.int .u32 (f:Int)):=rfl
   have hg5:(u32n [a,b,d,e,f,g,p,q])[5]?=some (.int .u32 (g:Int)):=rfl
   have hg6:(u32n [a,b,d,e,f,g,p,q])[6]?=some (.int .u32 (p:Int)):=rfl
   have hg7:(u32n [a,b,d,e,f,g,p,q])[7]?=some (.int .u32 (q:Int)):=rfl
   have t6:=dq f 6 hf aa aa
   have t11:=dq f 11 hf aa aa
   have t25:=dq f 25 hf aa aa
   have t2:=dq a 2 ha aa aa
   have t13:=dq a 13 ha aa aa
   have t22:=dq a 22 ha aa aa
   have l6:=gb (n:=6) hf aa aa
   have l11:=gb (n:=11) hf aa aa
   have l25:=gb (n:=25) hf aa aa
   have l2:=gb (n:=2) ha aa aa
   have l13:=gb (n:=13) ha aa aa
   have l22:=gb (n:=22) ha aa aa
   have e1:t1N q f g p kk ww=((((q+((rot (2 ^ (32-6)) (2 ^ 6) f ^^^ rot (2 ^ (32-11)) (2 ^ 11) f) ^^^ rot (2 ^ (32-25)) (2 ^ 25) f))%4294967296+((f &&& g) ^^^ ((4294967295 ^^^ f) &&& p)))%4294967296+kk)%4294967296+ww)%4294967296:=rfl
   have e2:t2N a b d=(((rot (2 ^ (32-2)) (2 ^ 2) a ^^^ rot (2 ^ (32-13)) (2 ^ 13) a) ^^^ rot (2 ^ (32-22)) (2 ^ 22) a)+(((a &&& b) ^^^ (a &&& d)) ^^^ (b &&& d)))%4294967296:=rfl
   rw [e1,e2] at hnext
   clear e1 e2
   generalize rot (2 ^ (32-6)) (2 ^ 6) f=r6 at *
   generalize rot (2 ^ (32-11)) (2 ^ 11) f=r11 at *
   generalize rot (2 ^ (32-25)) (2 ^ 25) f=r25 at *
   generalize rot (2 ^ (32-2)) (2 ^ 2) a=r2 at *
   generalize rot (2 ^ (32-13)) (2 ^ 13) a=r13 at *
   generalize rot (2 ^ (32-22)) (2 ^ 22) a=r22 at *
   have x1:=Nat.xor_lt_two_pow (n:=32) l6 l11
   have x3:=Nat.xor_lt_two_pow (n:=32) l2 l13
   have x5:f &&& g<4294967296:=Nat.lt_of_le_of_lt Nat.and_le_left hf
   have x6:4294967295 ^^^ f<4294967296:=Nat.xor_lt_two_pow (n:=32) (by decide) hf
   have x7:(4294967295 ^^^ f) &&& p<4294967296:=Nat.lt_of_le_of_lt Nat.and_le_left x6
   have x8:a &&& b<4294967296:=Nat.lt_of_le_of_lt Nat.and_le_left ha
   have x9:a &&& d<4294967296:=Nat.lt_of_le_of_lt Nat.and_le_left ha
   have x10:b &&& d<4294967296:=Nat.lt_of_le_of_lt Nat.and_le_left hbb
   have x11:(a &&& b) ^^^ (a &&& d)<4294967296:=Nat.xor_lt_two_pow (n:=32) x8 x9
   (refine aq ⟨[0,1,2,4,5,6,9,10,11],[(3,⟨[],[(7,⟨[8],[(12,⟨[13,14],[]⟩)]⟩)]⟩)]⟩ [orow 167 1 (.slice A 8 c) 8 (u32n [a,b,d,e,f,g,p,q])] (fun w=>(U32s w sh h.l∧U32s w sw (row2 l 48))∧U32s w sk kN) (h:=?_))
   all_goals repeat' (first|refine ay (hy:=by first|(apply mq;rfl;rfl;assumption;assumption)) ?_|(refine ab (hc:=t6) (hX:=fun _ _=>trivial) ?_)|(refine ab (hc:=t11) (hX:=fun _ _=>trivial) ?_)|(refine ab (hc:=t25) (hX:=fun _ _=>trivial) ?_)|refine gd ?_|refine ay (hy:=by first|(apply aC (q:=4);rfl;rfl;omega;omega;assumption;omega)|(apply ei;rfl;exact ax;exact hn;exact hg4)) ?_|refine az ?_ (h':=?_)|exact aA|refine gs1 fun _=>?_|(refine gq ?_ ?_<;>intro hx_ this)|fail)
   apply QQ
   (refine aq ⟨[0,1,2,3,4,5,6,7,8,9,10,11,12,13,14,15,16,17,18,19,20,21,22,23,24,25,26,27,28,29,30,31,32],[]⟩ [orow 167 1 (.slice A 8 c) 8 (u32n [a,b,d,e,f,g,p,q])] (fun w=>(U32s w sh h.l∧U32s w sw (row2 l 48))∧U32s w sk kN) (h:=?_))
   all_goals repeat' (first|refine ay (hy:=by first|(apply mx;rfl;rfl)|(apply mq;rfl;rfl;assumption;assumption)|(apply zC;rfl;rfl;assumption;assumption)|(apply Fx;rfl;assumption)) ?_|refine gd ?_|refine ay (hy:=by first|(apply aC (q:=4);rfl;rfl;omega;omega;assumption;omega)|(apply aC (q:=5);rfl;rfl;omega;omega;assumption;omega)|(apply aC (q:=6);rfl;rfl;omega;omega;assumption;omega)|(apply aC (q:=7);rfl;rfl;omega;omega;assumption;omega)|(apply aC (q:=k);rfl;rfl;omega;omega;assumption;omega)|(apply ei;rfl;exact ax;exact hn;exact hg4)|(apply ei;rfl;exact ax;exact hn;exact hg5)|(apply ei;rfl;exact ax;exact hn;exact hg6)|(apply ei;rfl;exact ax;exact hn;exact hg7)|(apply dR (q:=k) (u:=.int .u32 (kk:Int));rfl;exact hgk)|(apply dR (q:=k) (u:=.int .u32 (ww:Int));rfl;exact hgw)) ?_|refine az ?_ (h':=?_)|exact aA|refine gs1 fun _=>?_|(refine gq ?_ ?_<;>intro hx_ this)|fail)
   apply QQ
   (refine aq ⟨[0,1,2,4,5,6,9,10,11],[(3,⟨[],[(7,⟨[8],[(12,⟨[13,14],[]⟩)]⟩)]⟩)]⟩ [orow 167 1 (.slice A 8 c) 8 (u32n [a,b,d,e,f,g,p,q])] (fun w=>(U32s w sh h.l∧U32s w sw (row2 l 48))∧U32s w sk kN) (h:=?_))
   all_goals repeat' (first|refine ay (hy:=by first|(apply mq;rfl;rfl;assumption;assumption)) ?_|(refine ab (hc:=t2) (hX:=fun _ _=>trivial) ?_)|(refine ab (hc:=t13) (hX:=fun _ _=>trivial) ?_)|(refine ab (hc:=t22) (hX:=fun _ _=>trivial) ?_)|refine gd ?_|refine ay (hy:=by first|(apply aC (q:=0);rfl;rfl;omega;omega;assumption;omega)|(apply ei;rfl;exact ax;exact hn;exact hg0)) ?_|refine az ?_ (h':=?_)|exact aA|refine gs1 fun _=>?_|(refine gq ?_ ?_<;>intro hx_ this)|fail)
   apply QQ
   (refine aq ⟨[0,1,2,3,4,5,6,7,8,9,10,11,12,13,14,15,16,17,18,19,20,21,22,23,24,25],[]⟩ [orow 167 1 (.slice A 8 c) 8 (u32n [a,b,d,e,f,g,p,q])] (fun w=>(U32s w sh h.l∧U32s w sw (row2 l 48))∧U32s w sk kN) (h:=?_))
   all_goals repeat' (first|refine ay (hy:=by first|(apply mx;rfl;rfl)|(apply mq;rfl;rfl;assumption;assumption)|(apply zC;rfl;rfl;assumption;assumption)) ?_|refine gd ?_|refine ay (hy:=by first|(apply aC (q:=0);rfl;rfl;omega;omega;assumption;omega)|(apply aC (q:=1);rfl;rfl;omega;omega;assumption;omega)|(apply aC (q:=2);rfl;rfl;omega;omega;assumption;omega)|(apply ei;rfl;exact ax;exact hn;exact hg0)|(apply ei;rfl;exact ax;exact hn;exact hg1)|(apply ei;rfl;exact ax;exact hn;exact hg2)) ?_|refine az ?_ (h':=?_)|exact aA|refine gs1 fun _=>?_|(refine gq ?_ ?_<;>intro hx_ this)|fail)
   obtain ⟨one,h1⟩:∃ x,x=((((q+((r6 ^^^ r11) ^^^ r25))%4294967296+((f &&& g) ^^^ ((4294967295 ^^^ f) &&& p)))%4294967296+kk)%4294967296+ww)%4294967296:=⟨_,rfl⟩
   obtain ⟨two,h2⟩:∃ x,x=(((r2 ^^^ r13) ^^^ r22)+(((a &&& b) ^^^ (a &&& d)) ^^^ (b &&& d)))%4294967296:=⟨_,rfl⟩
   rw [←h1,←h2] at hnext
   rw [←h1,←h2]
   (refine aq ⟨[0,1,2,3,4,5,6,7,8,9,10,11,12,13,14,15,16,17,18,19,20,21,22,23,24,25],[(26,⟨[27],[]⟩)]⟩ [orow 167 1 (.slice A 8 c) 8 (u32n [a,b,d,e,f,g,p,q])] (fun w=>(U32s w sh h.l∧U32s w sw (row2 l 48))∧U32s w sk kN) (h:=?_))
   all_goals repeat' (first|refine ay (hy:=by first|(apply mx;rfl;rfl)) ?_|refine gd ?_|refine ay (hy:=by first|(apply aC (q:=0);rfl;rfl;omega;omega;assumption;omega)|(apply aC (q:=1);rfl;rfl;omega;omega;assumption;omega)|(apply aC (q:=2);rfl;rfl;omega;omega;assumption;omega)|(apply aC (q:=3);rfl;rfl;omega;omega;assumption;omega)|(apply aC (q:=4);rfl;rfl;omega;omega;assumption;omega)|(apply aC (q:=5);rfl;rfl;omega;omega;assumption;omega)|(apply aC (q:=6);rfl;rfl;omega;omega;assumption;omega)|(apply ei;rfl;exact ax;exact hn;exact hg0)|(apply ei;rfl;exact ax;exact hn;exact hg1)|(apply ei;rfl;exact ax;exact hn;exact hg2)|(apply ei;rfl;exact ax;exact hn;exact hg3)|(apply ei;rfl;exact ax;exact hn;exact hg4)|(apply ei;rfl;exact ax;exact hn;exact hg5)|(apply ei;rfl;exact ax;exact hn;exact hg6)) ?_|refine az ?_ (h':=?_)|exact aA|((refine cR (vs:=u32n [(one+two)%4294967296,a,b,d,(e+one)%4294967296,f,g,p]) fun bb=>?_;refine qi 1 8 rfl (by decide) ?_))|refine gs1 fun _=>?_|(refine gq ?_ ?_<;>intro hx_ this)|fail)
   repeat' (first|refine gs ?_|refine gs1 fun _=>?_|(refine gp ?_ ?_<;>intro hx_ this)|fail)
   exact ⟨(⟨k+1,hlt,some ⟨bb,0,none⟩,8⟩:RowA 64),(by show 64-(k+1)<64-k;omega),aj ao (by rw [hnext];exact .cons_cons _ (Zu _)) fun _ h=>h⟩
 · obtain rfl:k=64:=by omega
   have hmix:=GP h (winN (fW l) 0)
   rw [uv] at hmix
   generalize rndN (fW l) h 64=S at *
   refine ar (ι:=RowA 8) (fun i=>⟨[(0,sh.v),(7,.slice A 8 c),(13,.int .i64 (i.k:Nat))],[orow 167 1 (.slice A 8 c) 8 (u32n (accL S.l h.l i.k))],fun w=>U32s w sh h.l⟩) (fun i=>8-i.k) ⟨0,by omega,A,c⟩ (aj ao (al _) fun _ h=>h.1.1) fun i=>?_
   obtain ⟨k,hk,_,_⟩:=i
   simp only
   have hlen:(accL S.l h.l k).length=8:=tQ _ _ k
   repeat' (first|refine gs ?_|refine gs1 fun _=>?_|(refine gp ?_ ?_<;>intro hx_ this)|fail)
   · have hlt:k<8:=by omega
     have hn:8=(u32n (accL S.l h.l k)).length:=by rw [rv,hlen]
     obtain ⟨v,hv⟩:∃ v,v=(accL S.l h.l k).getD k 0:=⟨_,rfl⟩
     obtain ⟨u,hu⟩:∃ u,u=h.l.getD k 0:=⟨_,rfl⟩
     have hg:(u32n (accL S.l h.l k))[k]?=some (.int .u32 (v:Int)):=by rw [rx aa,hv]
     have hget:∀ w,U32s w sh h.l→CellAt w sh.p k (.int .u32 (u:Int)):=fun w h1=>hu▸jL (f:=fun n=>.int .u32 (n:Int)) h1 (by rw [show h.l.length=8 from rfl];exact hlt)
     have hacc:accL S.l h.l (k+1)=(accL S.l h.l k).set k ((v+u)%4294967296):=by rw [accL,hv,hu]
     have hset:=zQ (accL S.l h.l k) (i:=k) (v:=(v+u)%4294967296) aa
     rw [←hacc] at hset
     (refine aq ⟨[0,1,2,3,4,6,7,8,9],[(5,⟨[10,11],[(12,⟨[],[]⟩)]⟩)]⟩ [] (fun w=>U32s w sh h.l) (h:=?_))
     all_goals repeat' (first|refine ay (hy:=by first|(apply mx;rfl;rfl)) ?_|refine gd ?_|refine ay (hy:=by first|(apply aC (q:=k);rfl;rfl;omega;omega;assumption;omega)|(apply dR (q:=k) (u:=.int .u32 (u:Int));rfl;exact hget)) ?_|refine az ?_ (h':=?_)|exact aA|(refine ai (ei rfl ax hn hg) rfl am rfl ?_)|((refine qg (A:=A) (m:=8) (c:=c) (e:=167) (size:=1) (i:=k) (xs:=u32n (accL S.l h.l k)) (xs':=u32n (accL S.l h.l (k+1))) (vs:=[.int .u32 (((v+u)%4294967296:Nat):Int)]) (v:=.int .u32 (((v+u)%4294967296:Nat):Int)) ae (by rw [Nat.mul_one];rfl) rfl rfl rfl rfl hlt hset (At.here _) rfl am rfl ?_))|refine gs1 fun _=>?_|(refine gq ?_ ?_<;>intro hx_ this)|fail)
     repeat' (first|refine gs ?_|refine gs1 fun _=>?_|(refine gp ?_ ?_<;>intro hx_ this)|fail)
     exact ⟨(⟨k+1,hlt,A,c⟩:RowA 8),(by show 8-(k+1)<8-k;omega),aj ao (al _) fun _ h=>h⟩
   · obtain rfl:k=8:=by omega
     have he:accL S.l h.l 8=(mixN h (winN (fW l) 0)).l:=by
      rw [hmix]
      obtain ⟨a,b,d,e,f,g,p,q⟩:=S
      obtain ⟨a',b',d',e',f',g',p',q'⟩:=h
      simp only [accL,S8.l,List.set_cons_zero,List.set_cons_succ,List.getD_cons_zero,List.getD_cons_succ,List.cons.injEq,and_true,ZS]
     rw [he]
     exact ad (ag rfl rfl) ⟨⟨A,8,c⟩,rfl,fun w h1=>U32s.of_row (h1.2 (orow 167 1 (.slice A 8 c) 8 (u32n (mixN h (winN (fW l) 0)).l)) ax) rfl⟩
theorem FH (l:List Nat):u8s (l.map fun (n:Nat)=>(n:Int))=l.map fun (n:Nat)=>(.int .u8 (n:Int):Value):=by simp [u8s]
theorem U8s.of_row {w:World} {e n c:Nat} {A:Option Addr} {l:List Nat} (h:ORow w e 1 (.slice A n c) n (u8s (l.map fun (n:Nat)=>(n:Int)))) (hn:n=l.length):U8s w ⟨A,n,c⟩ l:=by
 have e1:(l.map fun (n:Nat)=>[(.int .u8 (n:Int):Value)]).flatten=u8s (l.map fun (n:Nat)=>(n:Int)):=by
  rw [FH]
  clear h hn
  induction l with
  | nil=>rfl
  | cons a l ih=>rw [Z1,Qb,ih];rfl
 rw [←e1] at h
 exact ck h (by rw [ZF,hn]) fun r hr=>by
  obtain ⟨n,_,rfl⟩:=QI.1 hr
  rfl
theorem U8s.part {w:World} {s:SlV} {l:List Nat} (h:U8s w s l) {i n:Nat} (hi:i+n≤l.length):U8s w ⟨(s.from 1 i).p,n,s.c-i⟩ ((l.drop i).take n):=by
 have h1:=RowsD.drop h (n:=i) (by rw [ZF];omega)
 rw [←List.map_drop] at h1
 have h2:=RowsD.take h1 (n:=n) (by rw [ZF,Qr];omega)
 rw [←List.map_take] at h2
 exact h2
def padI (s:ByteArray):List Int:=endL s++List.replicate (padN (s.size+1)) 0++sizeB s.size 8
theorem D7 (s:ByteArray) (hs:s.size<2305843009213693952):padI s=(padL (nl s)).map fun (n:Nat)=>(n:Int):=by
 rw [padI,endL,ld,padL,dr,rO s.size hs]
 simp
theorem F6 (l:List Nat) (h:∀ x∈l,x<256):∀ x∈padL l,x<256:=fun x hx=>by
 rw [padL] at hx
 rcases Qy.1 hx with hx|hx
 · exact h x hx
 · rcases ZI.1 hx with rfl|hx
   · omega
   · rcases Qy.1 hx with hx|hx
     · rw [(List.mem_replicate.1 hx).2];omega
     · rw [sizeN] at hx
       simp only [ZI,Qk,or_false] at hx
       rcases hx with rfl|rfl|rfl|rfl|rfl|rfl|rfl|rfl<;>exact Qc _ aa
theorem wg (l:List Nat):(padL l).length=l.length+1+padN (l.length+1)+8:=by
 rw [padL]
 simp [sizeN]
 omega
theorem uL (l:List Nat):(padL l).length%64=0:=by
 rw [wg,padN]
 omega
section
variable {P:Program} {N:Nat} {av bor:List Nat} {w0:World} {st:St} {ty:TypeId} {x y z:Operand} {t t2:TypeId} {a b:Nat}
theorem zD (hx:ev st.env x=some (.int .i64 (a:Int))) (hy:ev st.env y=some (.int .i64 (b:Int))) (hc:a+b<9223372036854775808):Sy.Yields P N av bor w0 st (.binOp .add t x y t2) ty (.int .i64 ((a+b:Nat):Int)) :=
 li hx hy (by rw [←Int.natCast_add];exact IntWalk.i64_in _ aa)
theorem Fu {e size b':Nat} [hI:TySl P t e size b'] {s:SlV} {i n:Nat} (hx:ev st.env x=some s.v) (hy:ev st.env y=some (.int .i64 (i:Int))) (hz:ev st.env z=some (.int .i64 ((i+n:Nat):Int))) (h2:i+n≤s.c) :
  Sy.Yields P N av bor w0 st (.slice t x (some y) (some z) none) ty (⟨(s.from size i).p,n,s.c-i⟩:SlV).v:=by
 have h:=CU (P:=P) (N:=N) (av:=av) (bor:=bor) (w0:=w0) (st:=st) (ty:=ty) (t:=t) (size:=size) hx hy hz aa aa aa
 have e1:((i:Nat):Int).toNat=i:=rfl
 have e2:((i+n:Nat):Int).toNat-i=n:=by omega
 rw [e1,e2] at h
 exact h
end
def outB (S:S8) (i:Nat):Nat:=(S.l.getD (i/4) 0/2 ^ (24-8*(i%4)))%256
theorem EQ (S:S8):digN S=(List.range 32).map (outB S):=by
 obtain ⟨a,b,c,d,e,f,g,h⟩:=S
 simp [digN,d4N,outB,S8.l,List.range,List.range.loop]
structure ShaI (L:List Nat) (m:Nat) where
 k:Nat
 hk:k≤m
 s:SlV
 S:S8
 lt:S.Lt
 run:runN (m-k) S (L.drop (64*k))=runN m iniN L
set_option maxRecDepth 20000 in
theorem pu (s:ByteArray) (hs:s.size≤1099511627776):Pu Tryz.prog 91 #[.string s] (fun _=>True) (.string (shaV s)):=by
 refine ak (args:=[_]) _ Tryz.func91 rfl Tryz.ntmps91 rfl fun av bor w0=>?_
 repeat' (first|refine gs ?_|refine gs1 fun _=>?_|(refine uk fun A c=>?_)|fail)
 refine aN (size:=1) (z:=.int .u8 0) (news:=u8s [128]) (q:=1) rfl rfl rfl rfl (fun _=>At.there _ (At.here _)) (fun w G=>bX G ax rfl rfl 1) ?_ ?_ rfl ?_ rfl ?_
 · omega
 · simp only [maxLen];omega
 · rfl
 intro A1 c1
 repeat' (first|refine gs ?_|refine gs1 fun _=>?_|fail)
 have hel:=oq s
 refine ar (ι:=EndS (padN (s.size+1))) (fun i=>⟨[(0,.string s),(3,.slice i.A (s.size+1+i.k) i.c)],[orow 5 1 (.slice i.A (s.size+1+i.k) i.c) (s.size+1+i.k) (u8s (endL s++List.replicate i.k 0))],fun _=>True⟩) (fun i=>padN (s.size+1)-i.k) ⟨0,Z4 _,A1,c1⟩ (aj ao ?_ fun _ h=>h) fun i=>?_
 · refine Z2 _ ?_
   rw [←cq]
   simp only [List.replicate_zero,ZJ]
   exact al _
 have hik:=i.hk
 have hp:padN (s.size+1)<64:=Qc _ aa
 have hp2:padN (s.size+1)=(120-(s.size+1)%64)%64:=rfl
 have htm:Int.tmod ((s.size+1+i.k:Nat):Int) 64=(((s.size+1+i.k)%64:Nat):Int):=Int.ofNat_tmod _ _
 repeat' (first|refine gs ?_|refine gs1 fun _=>?_|(refine gp ?_ ?_<;>intro hx_ this)|fail)
 refine fo (hc:=htm) ?_
 repeat' (first|refine gs ?_|refine gs1 fun _=>?_|(refine gp ?_ ?_<;>intro hx_ this)|fail)
 · have hlt:i.k<padN (s.size+1):=by
    have h1:¬ (((s.size+1+i.k)%64:Nat):Int)=56:=by simpa using hx_
    omega
   refine aN (size:=1) (z:=.int .u8 0) (news:=u8s [0]) (q:=1) rfl rfl rfl rfl (fun _=>At.there _ (At.here _)) (fun w G=>bX G ax rfl rfl 1) ?_ ?_ rfl ?_ rfl ?_
   · omega
   · simp only [maxLen];omega
   · rfl
   intro A2 c2
   repeat' (first|refine gs ?_|refine gs1 fun _=>?_|(refine gp ?_ ?_<;>intro hx_ this)|fail)
   refine ⟨(⟨i.k+1,hlt,A2,c2⟩:EndS (padN (s.size+1))),(by show padN (s.size+1)-(i.k+1)<padN (s.size+1)-i.k;omega),aj ao ?_ fun _ h=>h⟩
   refine Z2 _ ?_
   rw [←cq]
   simp only [List.replicate_succ',ZC]
   exact al _
 have hk:i.k=padN (s.size+1):=by
  have h1:(((s.size+1+i.k)%64:Nat):Int)=56:=by simpa using hx_
  omega
 have hl1:(endL s++List.replicate (padN (s.size+1)) 0:List Int).length=s.size+1+padN (s.size+1):=by simp [hel]
 rw [hk]
 have hpad:=D7 s aa
 have hplen:(padL (nl s)).length=s.size+1+padN (s.size+1)+8:=by rw [wg,dr]
 rw [padI] at hpad
 have h8:IntKind.u64.wrap (8*IntKind.u64.wrap (s.size:Int))=IntKind.u64.wrap (IntKind.u64.wrap (s.size:Int)*8):=by rw [Int.mul_comm]
 rw [h8]
 generalize hL:(endL s++List.replicate (padN (s.size+1)) 0:List Int)=L0 at *
 refine ar (ι:=EndS 8) (fun j=>⟨[(3,.slice j.A (s.size+1+padN (s.size+1)+j.k) j.c),(4,.int .u64 (IntKind.u64.wrap (IntKind.u64.wrap (s.size:Int)*8))),(5,.int .i64 (56-8*(j.k:Int)))],[orow 5 1 (.slice j.A (s.size+1+padN (s.size+1)+j.k) j.c) (s.size+1+padN (s.size+1)+j.k) (u8s (L0++sizeB s.size j.k))],fun _=>True⟩) (fun j=>8-j.k) ⟨0,Z4 _,i.A,i.c⟩ (aj ao ?_ fun _ h=>h) fun j=>?_
 · have e:sizeB (s.size:Int) 0=[]:=rfl
   simp only [e,ZJ]
   exact al _
 have hjk:=j.hk
 repeat' (first|refine gs ?_|refine gs1 fun _=>?_|(refine gp ?_ ?_<;>intro hx_ this)|fail)
 · have hlt:j.k<8:=by omega
   refine aN (size:=1) (z:=.int .u8 0) (news:=u8s [IntKind.u8.wrap (shrV .u64 (IntKind.u64.wrap (IntKind.u64.wrap (s.size:Int)*8)) (56-8*(j.k:Int)))]) (q:=1) rfl rfl rfl rfl (fun _=>At.there _ (At.here _)) (fun w G=>bX G ax rfl rfl 1) ?_ ?_ rfl ?_ rfl ?_
   · omega
   · simp only [maxLen];omega
   · rfl
   intro A2 c2
   repeat' (first|refine gs ?_|refine gs1 fun _=>?_|(refine gp ?_ ?_<;>intro hx_ this)|fail)
   refine ⟨(⟨j.k+1,hlt,A2,c2⟩:EndS 8),(by show 8-(j.k+1)<8-j.k;omega),aj ⟨rfl,rfl,?_,trivial⟩ ?_ fun _ h=>h⟩
   · show some (Value.int .i64 (56-8*(j.k:Int)-8))=some (Value.int .i64 (56-8*((j.k+1:Nat):Int)))
     congr 2
     omega
   refine Z2 _ ?_
   rw [←cq]
   have e:sizeB (s.size:Int) (j.k+1)=sizeB s.size j.k++[IntKind.u8.wrap (shrV .u64 (IntKind.u64.wrap (IntKind.u64.wrap (s.size:Int)*8)) (56-8*(j.k:Int)))]:=by simp [sizeB,List.range_succ]
   simp only [e,ZC]
   exact al _
 have hj8:j.k=8:=by omega
 rw [hj8,hpad]
 obtain ⟨sp,hsp⟩:∃ sp:SlV,sp=⟨j.A,s.size+1+padN (s.size+1)+8,j.c⟩:=⟨_,rfl⟩
 have hLt:=F6 (nl s) (jZ s)
 have hLm:=uL (nl s)
 have hsha:=FR s aa
 rw [shaL] at hsha
 obtain ⟨L,hLL⟩:∃ L,L=padL (nl s):=⟨_,rfl⟩
 rw [←hLL] at hplen hLt hLm hsha
 obtain ⟨m,hm⟩:∃ m,m=L.length/64:=⟨_,rfl⟩
 rw [←hm] at hsha
 have hL64:L.length=64*m:=by omega
 refine bL ?_
 repeat' (first|(refine bS (hc:=qw) (hX:=fun _ _=>trivial) fun v1 X1 h1=>?_;obtain ⟨sh0,rfl,hw0⟩:=h1)|refine gs ?_|refine gs1 fun _=>?_|(refine gp ?_ ?_<;>intro hx_ this)|fail)
 have hspD:∀ w,(True∧(orow 5 1 (.slice j.A (s.size+1+padN (s.size+1)+8) j.c) (s.size+1+padN (s.size+1)+8) (u8s ((padL (nl s)).map fun (n:Nat)=>(n:Int)))).F w)→U8s w sp L:=fun w h=>by
  rw [hsp,hLL]
  exact U8s.of_row h.2 (by rw [←hLL];exact hplen.symm)
 have hp0:0<L.length:=by omega
 refine aM (p:=sp.c≥L.length∧sp.p.isSome=true) (fun w h=>⟨by
  have h1:=RowsD.cap (hspD w h.1)
  have h2:=iU (f:=fun n=>.int .u8 (n:Int)) (hspD w h.1)
  omega,gy (f:=fun n=>.int .u8 (n:Int)) (hspD w h.1) hp0⟩) fun ⟨hsc,hspp⟩=>?_
 have hspn:sp.n=L.length:=by rw [hsp,hplen]
 have hspv:sp.v=.slice j.A (s.size+1+padN (s.size+1)+8) j.c:=by rw [hsp];rfl
 refine ar (ι:=ShaI L m) (fun i=>⟨[(3,sp.v),(6,i.s.v),(7,.int .i64 ((64*i.k:Nat):Int))],[],fun w=>U8s w sp L∧U32s w i.s i.S.l⟩) (fun i=>m-i.k) ⟨0,Z4 _,sh0,iniN,Gm,by rw [Nat.mul_zero,List.drop_zero,Nat.sub_zero]⟩ (aj ⟨by rw [hspv];rfl,rfl,rfl,trivial⟩ (al _) fun w h=>⟨hspD w h.1,hw0 w h.2⟩) fun i=>?_
 obtain ⟨k,hk2,sh,S,hSl,hrun⟩:=i
 simp only
 repeat' (first|refine ai (zD (b:=64) rfl rfl aa) rfl am rfl ?_|refine gs ?_|refine gs1 fun _=>?_|(refine gp ?_ ?_<;>intro hx_ this)|fail)
 · have hlt:k<m:=by omega
   have hdl:(L.drop (64*k)).length=64*(m-k):=by rw [Qr];omega
   have hpl:((L.drop (64*k)).take 64).length=64:=by rw [Qi];omega
   have hpb:∀ x∈(L.drop (64*k)).take 64,x<256:=fun x hx=>hLt x (List.mem_of_mem_drop (List.mem_of_mem_take hx))
   have hne:=uA sh ⟨(sp.from 1 (64*k)).p,64,sp.c-64*k⟩ S hSl _ hpl hpb
   have hcg:winN (fW ((L.drop (64*k)).take 64)) 0=winN (fW (L.drop (64*k))) 0:=mA fun t ht=>wC t ht
   rw [hcg] at hne
   have hrun2:runN (m-(k+1)) (mixN S (winN (fW (L.drop (64*k))) 0)) (L.drop (64*(k+1)))=runN m iniN L:=by
    have e1:m-k=(m-(k+1))+1:=by omega
    rw [e1,gx aa,List.drop_drop] at hrun
    rw [show 64*(k+1)=64*k+64 from by omega]
    exact hrun
   repeat' (first|refine ai (zD (b:=64) rfl rfl aa) rfl am rfl ?_|(refine bS (hc:=hne) (hX:=fun w h=>⟨h.2,U8s.part h.1 aa⟩) fun v2 X2 h2=>?_;obtain ⟨s2,rfl,hw2⟩:=h2)|refine gs ?_|refine gs1 fun _=>?_|(refine ai (Fu (size:=1) rfl rfl rfl aa) rfl am rfl ?_)|(refine gp ?_ ?_<;>intro hx_ this)|fail)
   exact ⟨(⟨k+1,hlt,s2,_,F9 _ _,hrun2⟩:ShaI L m),(by show m-(k+1)<m-k;omega),aj ao (al _) fun w h=>⟨h.1.1,hw2 w h.2⟩⟩
 · obtain rfl:k=m:=by omega
   rw [Nat.sub_self] at hrun
   have hS:S=runN k iniN L:=hrun
   rw [←hS,EQ] at hsha
   refine aM (p:=sh.n=8∧sh.p.isSome=true) (fun w h1=>⟨by rw [iU (f:=fun n=>.int .u32 (n:Int)) h1.2];rfl,gy (f:=fun n=>.int .u32 (n:Int)) h1.2 (by rw [show S.l.length=8 from rfl];omega)⟩) fun ⟨hsn,hshp⟩=>?_
   refine cJ 5 1 ?_
   refine ar (ι:=RowA 32) (fun i=>⟨[(6,sh.v),(8,.slice i.A i.k i.c),(9,.int .i64 (i.k:Nat))],[orow 5 1 (.slice i.A i.k i.c) i.k (u8s (((List.range i.k).map (outB S)).map fun (n:Nat)=>(n:Int)))],fun w=>U32s w sh S.l⟩) (fun i=>32-i.k) ⟨0,by omega,none,0⟩ (aj ao (.cons_cons _ (Zu _)) fun _ h=>h.2) fun i=>?_
   obtain ⟨k2,hk3,A3,c3⟩:=i
   simp only
   clear hspD hrun hLt hLm hplen
   repeat' (first|refine gs ?_|refine gs1 fun _=>?_|(refine gp ?_ ?_<;>intro hx_ this)|fail)
   · have hlt:k2<32:=by omega
     obtain ⟨q,hq⟩:∃ q,q=k2/4:=⟨_,rfl⟩
     obtain ⟨r,hr⟩:∃ r,r=k2%4:=⟨_,rfl⟩
     have h1:IntKind.i64.wrap ((k2:Int).tdiv 4)=(q:Int):=by
      rw [show (k2:Int).tdiv 4=((k2/4:Nat):Int) from Int.ofNat_tdiv _ _,←hq]
      exact IntWalk.i64_in _ aa
     have h2:(k2:Int).tmod 4=(r:Int):=by rw [show (k2:Int).tmod 4=((k2%4:Nat):Int) from Int.ofNat_tmod _ _,←hr]
     obtain ⟨u,hu⟩:∃ u,u=24-8*r:=⟨_,rfl⟩
     have h3:IntKind.i64.wrap (24-((8*r:Nat):Int))=(u:Int):=by
      rw [show 24-((8*r:Nat):Int)=(u:Int) from by omega]
      exact IntWalk.i64_in _ aa
     obtain ⟨x,hx⟩:∃ x,x=S.l.getD q 0:=⟨_,rfl⟩
     have hx2:x<4294967296:=by
      obtain ⟨a,b,c,d,e,f,g,h⟩:=S
      obtain ⟨ha,hb,hc,hd,he,hf,hg,hh⟩:=hSl
      simp only at ha hb hc hd he hf hg hh
      have:q<8:=by omega
      rw [hx]
      have hq8:q=0∨q=1∨q=2∨q=3∨q=4∨q=5∨q=6∨q=7:=by omega
      rcases hq8 with h|h|h|h|h|h|h|h<;>rw [h]<;>assumption
     have hg:∀ w,U32s w sh S.l→CellAt w sh.p q (.int .u32 (x:Int)):=fun w h=>hx▸jL (f:=fun n=>.int .u32 (n:Int)) h (by rw [show S.l.length=8 from rfl];omega)
     have hpw:(2:Int) ^ (min ((u:Int)).toNat 32)=((2 ^ u:Nat):Int):=by
      rw [ZZ,Nat.min_eq_left (by omega)]
      simp
     have h8w:IntKind.u8.wrap ((x/2 ^ u:Nat):Int)=((outB S k2:Nat):Int):=by rw [wrap8,outB,←hq,←hr,←hu,←hx]
     have hrow:(List.range (k2+1)).map (outB S)=(List.range k2).map (outB S)++[outB S k2]:=by rw [List.range_succ,ZW];rfl
     have hou:outB S k2<256:=Qc _ aa
     generalize outB S k2=ob at *
     repeat' (first|refine ai (mr (c:=(q:Int)) rfl rfl (by decide) h1) rfl am rfl ?_|refine ai (oX (c:=(r:Int)) rfl rfl (by decide) h2) rfl am rfl ?_|refine ai (zr (a:=8) (b:=r) rfl rfl aa) rfl am rfl ?_|refine ai (oW (c:=(u:Int)) rfl rfl h3) rfl am rfl ?_|refine ai (tW (p:=2 ^ u) rfl rfl aa hx2 hpw) rfl am rfl ?_|refine ai (oZ rfl h8w) rfl am rfl ?_|(refine aN (size:=1) (z:=.int .u8 0) (news:=u8s [(ob:Int)]) (q:=1) rfl rfl rfl rfl (fun _=>At.there _ (At.here _)) (fun w G=>bX G ax rfl rfl 1) aa (by simp only [maxLen];omega) rfl ?_ rfl ?_;(first|with_reducible rfl|with_reducible assumption|with_reducible exact Zl|with_reducible exact Zn);intro A4 c4)|refine gs ?_|refine gs1 fun _=>?_|(refine aO (q:=q) ?_)|(refine cU (q:=q) (u:=.int .u32 (x:Int)) (hF:=hg) ?_)|(refine gp ?_ ?_<;>intro hx_ this)|fail)
     exact ⟨(⟨k2+1,hlt,A4,c4⟩:RowA 32),(by show 32-(k2+1)<32-k2;omega),aj ao (by rw [hrow,ZW,cq];exact .cons _ (al _)) fun _ h=>h⟩
   · obtain rfl:k2=32:=by omega
     rw [←hsha]
     refine eJ (hm:=ax) ?_
     repeat' (first|refine gs ?_|refine gs1 fun _=>?_|(refine gp ?_ ?_<;>intro hx_ this)|fail)
     refine ad (ag rfl rfl) ?_
     rw [←ld,cF]
end Go.Proofs.YtaolfiikahlmkaaGreatDoor
