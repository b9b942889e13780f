/- Joined. -/
import Derived.Test.YtaolfiikahlmkaaGreatDoorX8
set_option linter.unusedVariables false
set_option linter.unusedSimpArgs false
set_option maxHeartbeats 16000000
namespace Go.Proofs.YtaolfiikahlmkaaGreatDoor
open Go Go.Proofs Sy
theorem nz (s:SlV):Pu Tryz.prog 70 #[s.v,.slice none 0 0] (fun _=>True) (.bool (decide ((s.n:Int)=0))):=by
 refine ak (args:=[_,_]) _ Tryz.func70 rfl Tryz.ntmps70 rfl fun av bor w0=>?_
 by_cases h0:s.n=0
 · rw [h0]
   repeat' (first|refine ai (eF false rfl rfl (by rw [h0];rfl)) rfl ao rfl ?_|refine gs ?_|(refine gp ?_ ?_<;>intro hx_ this)|fail)
   refine aq (ι:=Unit) (fun _=>⟨[(12,.int .i64 (s.n:Nat)),(13,.int .i64 0)],[],fun _=>True⟩) (fun _=>0) () (aj am (al _) fun _ h=>h) fun _=>?_
   repeat' (first|refine ai (cd false rfl rfl (by rw [h0];rfl)) rfl ao rfl ?_|refine gs ?_|(refine gp ?_ ?_<;>intro hx_ this)|fail)
   all_goals exact ad (ag rfl rfl) rfl
 · rw [Zc (by omega)]
   repeat' (first|refine ai (eF true rfl rfl (by simp;omega)) rfl ao rfl ?_|refine gs ?_|(refine gp ?_ ?_<;>intro hx_ this)|fail)
   all_goals exact ad (ag rfl rfl) rfl
theorem uD (s:SlV):Pu Tryz.prog 258 #[s.v,.slice none 0 0] (fun _=>True) (.bool (decide ((s.n:Int)=0))):=by
 refine ak (args:=[_,_]) _ Tryz.func258 rfl Tryz.ntmps258 rfl fun av bor w0=>?_
 by_cases h0:s.n=0
 · rw [h0]
   repeat' (first|refine ai (eF false rfl rfl (by rw [h0];rfl)) rfl ao rfl ?_|refine gs ?_|(refine gp ?_ ?_<;>intro hx_ this)|fail)
   refine aq (ι:=Unit) (fun _=>⟨[(12,.int .i64 (s.n:Nat)),(13,.int .i64 0)],[],fun _=>True⟩) (fun _=>0) () (aj am (al _) fun _ h=>h) fun _=>?_
   repeat' (first|refine ai (cd false rfl rfl (by rw [h0];rfl)) rfl ao rfl ?_|refine gs ?_|(refine gp ?_ ?_<;>intro hx_ this)|fail)
   all_goals exact ad (ag rfl rfl) rfl
 · rw [Zc (by omega)]
   repeat' (first|refine ai (eF true rfl rfl (by simp;omega)) rfl ao rfl ?_|refine gs ?_|(refine gp ?_ ?_<;>intro hx_ this)|fail)
   all_goals exact ad (ag rfl rfl) rfl
section
variable {P:Program} {N:Nat} {av bor:List Nat} {w0:World} {ops:Array Oper} {rest:List Oper} {kk:St→Prop} {E:Env} {loc:List Res} {X:World→Prop} {n:Nat} {ty t2:TypeId} {pos:String} {af:Array Edge} {g:Option (Nat×Bool)} {bb want:Bool} {x y:Operand}
theorem eU {a b:ClaimD} (h:Sw Tryz.prog N av bor w0 ops rest ⟨(n,.bool (claimEq a b))::E,loc,X⟩ kk) (hx:ev E x=some (.agg a.cells.toArray):=by rfl) (hy:ev E y=some (.agg b.cells.toArray):=by rfl) (hg:gdB ops E g=some (bb,want):=by rfl) (hbb:bb=want:=by exact ao) (hd:Nat.blt n N=true:=by rfl) :
  Sw Tryz.prog N av bor w0 ops (⟨some n,.binOp .eql 54 x y t2,ty,pos,af,g⟩::rest) ⟨E,loc,X⟩ kk:=ai (nP hx hy) hg hbb hd h
theorem eu {a b:BallotD} (h:Sw Tryz.prog N av bor w0 ops rest ⟨(n,.bool (ballotEq a b))::E,loc,X⟩ kk) (hx:ev E x=some (.agg a.cells.toArray):=by rfl) (hy:ev E y=some (.agg b.cells.toArray):=by rfl) (hg:gdB ops E g=some (bb,want):=by rfl) (hbb:bb=want:=by exact ao) (hd:Nat.blt n N=true:=by rfl) :
  Sw Tryz.prog N av bor w0 ops (⟨some n,.binOp .eql 56 x y t2,ty,pos,af,g⟩::rest) ⟨E,loc,X⟩ kk:=ai (lI hx hy) hg hbb hd h
theorem yO {st:St} {a b c e:Int} (hx:ev st.env x=some (.agg #[.int .i64 a,.int .i64 b])) (hy:ev st.env y=some (.agg #[.int .i64 c,.int .i64 e])) :
  Sy.Yields Tryz.prog N av bor w0 st (.binOp .eql 44 x y t2) ty (.bool (decide (a=c)&&(decide (b=e)&&true))):=Sy.Yields.mk fun A w ok d pos af g=>by
 have h1:=run_eql_struct (P:=Tryz.prog) w 44 #[.int .i64 a,.int .i64 b] #[.int .i64 c,.int .i64 e]
 rw [show (10000:Nat)=9998+2 from rfl,nB] at h1
 have hgu:Tryz.prog.eqGuardType Tryz.prog.depth 44=false:=by kernel_rfl
 simp [execOp,ok.eval (st:=st) hx,ok.eval (st:=st) hy,run_eqGuard_agg _ _ _ _ _ _ _ hgu,h1]
theorem j3 {a b c e:Int} (h:Sw Tryz.prog N av bor w0 ops rest ⟨(n,.bool (decide (a=c)&&(decide (b=e)&&true)))::E,loc,X⟩ kk) (hx:ev E x=some (.agg #[.int .i64 a,.int .i64 b]):=by rfl) (hy:ev E y=some (.agg #[.int .i64 c,.int .i64 e]):=by rfl) (hg:gdB ops E g=some (bb,want):=by rfl) (hbb:bb=want:=by exact ao) (hd:Nat.blt n N=true:=by rfl) :
  Sw Tryz.prog N av bor w0 ops (⟨some n,.binOp .eql 44 x y t2,ty,pos,af,g⟩::rest) ⟨E,loc,X⟩ kk:=ai (yO hx hy) hg hbb hd h
end
def actZ (a:ActD):Bool:=seqB a.author ⟨#[]⟩&&(decide (a.seq=0)&&(seqB a.prev ⟨#[]⟩&&(decide (a.kind=0)&&(decide (a.time=0)&&(seqB a.object ⟨#[]⟩&&(seqB a.target ⟨#[]⟩&&(decide (a.scope=0)&&(seqB a.group ⟨#[]⟩&&(decide ((a.to.n:Int)=0)&&(seqB a.text ⟨#[]⟩&&(boxEq a.body BoxD.zero&&(decide (a.epoch=0)&&(decide ((a.wraps.n:Int)=0)&&(decide (a.n=0)&&(decide (a.m=0)&&(decide (a.e=0)&&(decide (a.s=0)&&true)))))))))))))))))
set_option maxRecDepth 20000 in
theorem tf (a:ActD):Pu Tryz.prog 200 #[a.v,ActD.zero.v] (fun _=>True) (.bool (actZ a)):=by
 refine ak (args:=[_,_]) _ Tryz.func200 rfl Tryz.ntmps200 rfl fun av bor w0=>?_
 repeat' (first|refine ab (hc:=nz a.to) ?_|refine ab (hc:=uD a.wraps) ?_|refine gs ?_|refine gs1 fun _=>?_|(refine jf (a:=a.body) (b:=BoxD.zero) ?_)|(refine j3 (a:=a.e) (b:=a.s) (c:=0) (e:=0) ?_)|(refine ax ?_)|(refine ax (vs:=[.int .i64 a.e,.int .i64 a.s]) (hv:=rfl) ?_)|(refine ax (vs:=[.int .i64 0,.int .i64 0]) (hv:=rfl) ?_)|(refine gp ?_ ?_<;>intro hx_ this)|fail)
 all_goals refine ad (ag rfl rfl) ?_
 all_goals rw [actZ]
 all_goals simp_all [ActD.zero]
def decZ (d:DecD):Bool:=decide (d.server=0)&&(decide (d.number=0)&&(decide (d.kind=0)&&(seqB d.actor ⟨#[]⟩&&(seqB d.object ⟨#[]⟩&&(seqB d.text ⟨#[]⟩&&(decide ((d.to.n:Int)=0)&&(decide (d.n=0)&&(decide (d.from_=0)&&(decide (d.until_=0)&&(decide (d.e=0)&&(decide (d.s=0)&&true)))))))))))
set_option maxRecDepth 20000 in
theorem sP (d:DecD):Pu Tryz.prog 201 #[d.v,DecD.zero.v] (fun _=>True) (.bool (decZ d)):=by
 refine ak (args:=[_,_]) _ Tryz.func201 rfl Tryz.ntmps201 rfl fun av bor w0=>?_
 repeat' (first|refine ab (hc:=nz d.to) ?_|refine gs ?_|refine gs1 fun _=>?_|(refine j3 (a:=d.e) (b:=d.s) (c:=0) (e:=0) ?_)|(refine ax (vs:=[.int .i64 d.e,.int .i64 d.s]) (hv:=rfl) ?_)|(refine ax (vs:=[.int .i64 0,.int .i64 0]) (hv:=rfl) ?_)|(refine gp ?_ ?_<;>intro hx_ this)|fail)
 all_goals refine ad (ag rfl rfl) ?_
 all_goals rw [decZ]
 all_goals simp_all [DecD.zero]
def sameIZ (i:ItemD):Bool:=decide (i.kind=0)&&(actZ i.act&&(claimEq i.claim ClaimD.zero&&(ballotEq i.ballot BallotD.zero&&decZ i.dec)))
set_option maxRecDepth 20000 in
theorem fy (i:ItemD):Pu Tryz.prog 125 #[i.v,ItemD.zero.v] (fun _=>True) (.bool (sameIZ i)):=by
 refine ak (args:=[_,_]) _ Tryz.func125 rfl Tryz.ntmps125 rfl fun av bor w0=>?_
 repeat' (first|refine ab (hc:=tf i.act) ?_|refine ab (hc:=sP i.dec) ?_|refine gs ?_|refine gs1 fun _=>?_|(refine eU (a:=i.claim) (b:=ClaimD.zero) ?_)|(refine eu (a:=i.ballot) (b:=BallotD.zero) ?_)|(refine ax (vs:=i.act.cells) (hv:=rfl) ?_)|(refine ax (vs:=i.claim.cells) (hv:=rfl) ?_)|(refine ax (vs:=i.ballot.cells) (hv:=rfl) ?_)|(refine ax (vs:=i.dec.cells) (hv:=rfl) ?_)|(refine ax (vs:=ActD.zero.cells) (hv:=rfl) ?_)|(refine ax (vs:=ClaimD.zero.cells) (hv:=rfl) ?_)|(refine ax (vs:=BallotD.zero.cells) (hv:=rfl) ?_)|(refine ax (vs:=DecD.zero.cells) (hv:=rfl) ?_)|(refine gp ?_ ?_<;>intro hx_ this)|fail)
 all_goals refine ad (ag rfl rfl) ?_
 all_goals rw [sameIZ]
 all_goals simp_all [ItemD.zero,ofActI]
def textsV (l:List ByteArray):ByteArray:=cats (l.map textV)
structure TxtS (n:Nat) where
 k:Nat
 hk:k≤n
 A:Option Addr
 c:Nat
theorem fe (b:Nat) (A:Option Addr) (c:Nat) (s:ByteArray) (sl:SlV) (l:List ByteArray) (hs:s.size+(textsV l).size≤1099511627776) :
  Ct Tryz.prog 248 #[.pointer (some ⟨b,0,none⟩),sl.v] (bld b A c s) (fun w=>Strs w sl l) fun u R _=>∃ A' c',u=.tuple #[]∧R=bld b A' c' (s++textsV l):=by
 refine bU (args:=[_,_]) _ Tryz.func248 rfl Tryz.ntmps248 rfl fun av bor w0=>?_
 refine aP (p:=sl.n=l.length∧sl.n≤maxLen∧(0<l.length→sl.p.isSome=true)) (fun w h=>⟨h.len_,ZY (RowsD.cap h) (RowsD.max h),h.some_⟩) fun ⟨hn,hm,hp⟩=>?_
 simp only [maxLen] at hm
 repeat' (first|refine gs ?_|(refine gp ?_ ?_<;>intro hx_ this)|fail)
 have hle:=eZ (l.map textV)
 have e0:s++cats ((l.map textV).take 0)=s:=by simp [cats]
 have hs':s.size+(cats (l.map textV)).size≤1099511627776:=hs
 refine aq (ι:=TxtS l.length) (fun i=>⟨[(0,.pointer (some ⟨b,0,none⟩)),(6,sl.v),(7,.int .i64 sl.n),(8,.int .i64 i.k)],bld b i.A i.c (s++cats ((l.map textV).take i.k)),fun w=>Strs w sl l⟩) (fun i=>l.length-i.k) ⟨0,Z4 _,A,c⟩ (aj am (by rw [e0];exact al _) fun _ h=>h) fun i=>?_
 have hik:=i.hk
 have hout:(s++cats ((l.map textV).take i.k)).size≤1099511627776:=by rw [Za];have:=hle i.k;omega
 have hout2:(s++cats ((l.map textV).take (i.k+1))).size≤1099511627776:=by rw [Za];have:=hle (i.k+1);omega
 generalize ho:s++cats ((l.map textV).take i.k)=out at *
 unfold bld
 repeat' (first|refine gs ?_|(refine gp ?_ ?_<;>intro hx_ this)|fail)
 · have hlt:i.k<l.length:=by omega
   have hp':=hp aa
   obtain ⟨x,hx⟩:∃ x,l[i.k]?=some x:=⟨_,Zb hlt⟩
   have hsucc:=fG (l.map textV) (k:=i.k) (by simpa using hlt)
   have hget:(l.map textV).getD i.k .empty=textV x:=by simp [hx]
   rw [hget] at hsucc
   have e2:s++cats ((l.map textV).take (i.k+1))=out++textV x:=by rw [hsucc,←Zy,ho]
   have hxs:out.size+(textV x).size≤1099511627776:=by rw [e2,Za] at hout2;exact hout2
   have hxx:x.size≤1099511627776:=by rw [textV,Za] at hxs;omega
   repeat' (first|refine gs ?_|(refine aI (q:=i.k) ?_)|(refine dc (u:=.string x) (hF:=fun w h=>h.at_ hx) ?_)|(refine gp ?_ ?_<;>intro hx_ this)|fail)
   (refine ar ⟨[0,1,2,3,5],[(4,⟨[],[(6,⟨[],[(7,⟨[8,9],[(10,⟨[],[]⟩)]⟩)]⟩)]⟩),(6,⟨[],[(4,⟨[],[(7,⟨[8,9],[(10,⟨[],[]⟩)]⟩)]⟩)]⟩)]⟩ [] (fun _=>True) (h:=?_))
   all_goals repeat' (first|refine ab (hc:=ft _ aa) ?_|refine gd ?_|refine aA ?_ (h':=?_)|exact aB|(refine iS ?_;refine aF (size:=1) (z:=.int .u8 0) rfl rfl rfl rfl (fun _=>At.there _ (At.here _)) (fun w G=>iy aa) aa (by simp only [maxLen];omega) rfl ?_ rfl ?_;(first|with_reducible rfl|with_reducible assumption|with_reducible exact Zl|with_reducible exact Zn);intro A1 c1)|(refine gq ?_ ?_<;>intro hx_ this)|fail)
   all_goals (repeat' (first|refine gs ?_|(refine gp ?_ ?_<;>intro hx_ this)|fail))
   all_goals exact ⟨(⟨i.k+1,hlt,A1,c1⟩:TxtS l.length),(by show l.length-(i.k+1)<l.length-i.k;omega),aj am (by
    show List.Sublist (bld b A1 c1 (s++cats ((l.map textV).take (i.k+1)))) _
    rw [e2]
    simp only [bld,Za,dN,ck]
    exact al _) fun _ h=>h⟩
 · have hk:i.k=l.length:=by omega
   refine bH (bn rfl) ⟨i.A,i.c,rfl,?_⟩
   rw [textsV,←ho,hk,Qf (by simp)]
theorem kD {P:Program} {f:FuncId} {fn:Func} {c:Code} {args:List Value} {pre:List Res} {X:World→Prop} {Post:Value→List Res→(World→Prop)→Prop} (N:Nat)
  (hf:P.funcs[f]?=some fn) (hb:fn.body=some c) (hN:fn.ntmps=N) (hn:Nat.ble args.length N=true)
  (h:∀ av bor w0,Cw P N av bor w0 c ⟨params 0 args,pre,X⟩ (ends P fn N fun u R X'=>∃ R',R'.Sublist R∧Post u R' X')):Ct P f args.toArray pre X Post:=Ct.mk fun w av G=>by
 have h1:=(bU (P:=P) (Post:=fun u R X'=>∃ R',R'.Sublist R∧Post u R' X') N hf hb hN hn h).run w av G
 refine h1.mono fun e w' ⟨u,R,X',he,⟨R',hs,hp⟩,G'⟩=>⟨u,R',X',he,hp,G'.drop hs⟩
def coreCl (c:ClaimD):ByteArray:=textsV [c.actor]++numsV [c.base]++textsV [c.prev]++numsV [c.gen,c.home,c.pub,c.time]
def coreBa (b:BallotD):ByteArray:=numsV [b.server]++textsV [b.actor]++numsV [b.gen]++textsV [b.claim]++numsV [b.time]
def coreDe (d:DecD):ByteArray:=numsV [d.server,d.number,d.kind]++textsV [d.actor,d.object,d.text]++listV d.toL++numsV [d.n,d.from_,d.until_]
structure ClaimD.Lt (c:ClaimD):Prop where
 base:c.base<9223372036854775808
 gen:c.gen<9223372036854775808
 home:c.home<9223372036854775808
 pub:c.pub<9223372036854775808
 time:c.time<9223372036854775808
 e:c.e<9223372036854775808
 s:c.s<9223372036854775808
structure BallotD.Lt (c:BallotD):Prop where
 server:c.server<9223372036854775808
 gen:c.gen<9223372036854775808
 time:c.time<9223372036854775808
 e:c.e<9223372036854775808
 s:c.s<9223372036854775808
structure DecD.Lt (c:DecD):Prop where
 server:c.server<9223372036854775808
 number:c.number<9223372036854775808
 kind:c.kind<9223372036854775808
 n:c.n<9223372036854775808
 from_:c.from_<9223372036854775808
 until_:c.until_<9223372036854775808
 e:c.e<9223372036854775808
 s:c.s<9223372036854775808
theorem pd (b:Nat) (A:Option Addr) (c:Nat) (s:ByteArray) (it:ItemD) (hl:it.claim.Lt) (hs:s.size+(coreCl it.claim).size≤1099511627776) :
  Ct Tryz.prog 174 #[.pointer (some ⟨b,0,none⟩),it.v] (bld b A c s) (fun _=>True) fun u R _=>∃ A' c',u=.tuple #[]∧R=bld b A' c' (s++coreCl it.claim):=by
 refine kD (args:=[_,_]) _ Tryz.func174 rfl Tryz.ntmps174 rfl fun av bor w0=>?_
 rw [coreCl] at hs ⊢
 simp only [Za] at hs
 obtain ⟨p0,hp0⟩:∃ p,textsV [it.claim.actor]=p:=⟨_,rfl⟩
 obtain ⟨p1,hp1⟩:∃ p,numsV [it.claim.base]=p:=⟨_,rfl⟩
 obtain ⟨p2,hp2⟩:∃ p,textsV [it.claim.prev]=p:=⟨_,rfl⟩
 obtain ⟨p3,hp3⟩:∃ p,numsV [it.claim.gen,it.claim.home,it.claim.pub,it.claim.time]=p:=⟨_,rfl⟩
 rw [hp0,hp1,hp2,hp3] at hs ⊢
 rw [←Zy,←Zy,←Zy]
 repeat' (first|refine gs ?_|refine gs1 fun _=>?_|(refine ax (vs:=it.claim.cells) (hv:=rfl) ?_)|(refine gp ?_ ?_<;>intro hx_ this)|fail)
 rename_i b3 b4 bs
 refine aZ ?_
 refine dl (l:=bld b A c s++[cel b4 54 it.claim.cells,cel b3 60 it.cells]) (by show List.Perm [_,_,_,_] [_,_,_,_];exact (QQ (l₁:=[_,_]) (l₂:=[_,_]))) ?_
 refine cj (pre:=bld b A c (s)) (fr:=[cel b4 54 it.claim.cells,cel b3 60 it.cells]) (hc:=fe b A c (s) ⟨some ⟨bs,0,none⟩,1,1⟩ [it.claim.actor] (by rw [hp0];(try simp only [Za]);omega)) (hX:=fun w h=>aN (xs:=[[encB it.claim.actor]]) h.2 rfl (by decide) (by simp)) (h:=?_)
 rintro v R X' ⟨A1,c1,rfl,rfl⟩
 refine cH (X':=(fun _=>True)) (fun w h=>trivial) ?_
 rw [hp0]
 unfold bld
 repeat' (first|refine gs ?_|refine gs1 fun _=>?_|fail)
 rename_i bs
 refine aZ ?_
 refine cj (pre:=bld b A1 c1 (s++p0)) (fr:=[cel b4 54 it.claim.cells,cel b3 60 it.cells]) (hc:=ei b A1 c1 (s++p0) ⟨some ⟨bs,0,none⟩,1,1⟩ [it.claim.base] (by simp;exact hl.base) (by rw [hp1];(try simp only [Za]);omega)) (hX:=fun w h=>aN (xs:=[[.int .i64 it.claim.base]]) h.2 rfl (by decide) (by simp)) (h:=?_)
 rintro v R X' ⟨A2,c2,rfl,rfl⟩
 refine cH (X':=(fun _=>True)) (fun w h=>trivial) ?_
 rw [hp1]
 unfold bld
 repeat' (first|refine gs ?_|refine gs1 fun _=>?_|fail)
 rename_i bs
 refine aZ ?_
 refine cj (pre:=bld b A2 c2 (s++p0++p1)) (fr:=[cel b4 54 it.claim.cells,cel b3 60 it.cells]) (hc:=fe b A2 c2 (s++p0++p1) ⟨some ⟨bs,0,none⟩,1,1⟩ [it.claim.prev] (by rw [hp2];(try simp only [Za]);omega)) (hX:=fun w h=>aN (xs:=[[encB it.claim.prev]]) h.2 rfl (by decide) (by simp)) (h:=?_)
 rintro v R X' ⟨A3,c3,rfl,rfl⟩
 refine cH (X':=(fun _=>True)) (fun w h=>trivial) ?_
 rw [hp2]
 unfold bld
 repeat' (first|refine gs ?_|refine gs1 fun _=>?_|fail)
 rename_i bs
 refine aZ ?_
 refine cj (pre:=bld b A3 c3 (s++p0++p1++p2)) (fr:=[cel b4 54 it.claim.cells,cel b3 60 it.cells]) (hc:=ei b A3 c3 (s++p0++p1++p2) ⟨some ⟨bs,0,none⟩,4,4⟩ [it.claim.gen,it.claim.home,it.claim.pub,it.claim.time] (by simp;exact ⟨hl.gen,hl.home,hl.pub,hl.time⟩) (by rw [hp3];(try simp only [Za]);omega)) (hX:=fun w h=>aN (xs:=[[.int .i64 it.claim.gen],[.int .i64 it.claim.home],[.int .i64 it.claim.pub],[.int .i64 it.claim.time]]) h.2 rfl (by decide) (by simp)) (h:=?_)
 rintro v R X' ⟨A4,c4,rfl,rfl⟩
 refine cH (X':=(fun _=>True)) (fun w h=>trivial) ?_
 rw [hp3]
 repeat' (first|refine gs ?_|refine gs1 fun _=>?_|(refine gp ?_ ?_<;>intro hx_ this)|fail)
 all_goals exact bH (bn rfl) ⟨_,QE _ _,A4,c4,rfl,rfl⟩
theorem nN (b:Nat) (A:Option Addr) (c:Nat) (s:ByteArray) (it:ItemD) (hl:it.ballot.Lt) (hs:s.size+(coreBa it.ballot).size≤1099511627776) :
  Ct Tryz.prog 175 #[.pointer (some ⟨b,0,none⟩),it.v] (bld b A c s) (fun _=>True) fun u R _=>∃ A' c',u=.tuple #[]∧R=bld b A' c' (s++coreBa it.ballot):=by
 refine kD (args:=[_,_]) _ Tryz.func175 rfl Tryz.ntmps175 rfl fun av bor w0=>?_
 rw [coreBa] at hs ⊢
 simp only [Za] at hs
 obtain ⟨p0,hp0⟩:∃ p,numsV [it.ballot.server]=p:=⟨_,rfl⟩
 obtain ⟨p1,hp1⟩:∃ p,textsV [it.ballot.actor]=p:=⟨_,rfl⟩
 obtain ⟨p2,hp2⟩:∃ p,numsV [it.ballot.gen]=p:=⟨_,rfl⟩
 obtain ⟨p3,hp3⟩:∃ p,textsV [it.ballot.claim]=p:=⟨_,rfl⟩
 obtain ⟨p4,hp4⟩:∃ p,numsV [it.ballot.time]=p:=⟨_,rfl⟩
 rw [hp0,hp1,hp2,hp3,hp4] at hs ⊢
 rw [←Zy,←Zy,←Zy,←Zy]
 repeat' (first|refine gs ?_|refine gs1 fun _=>?_|(refine ax (vs:=it.ballot.cells) (hv:=rfl) ?_)|(refine gp ?_ ?_<;>intro hx_ this)|fail)
 rename_i b3 b4 bs
 refine aZ ?_
 refine dl (l:=bld b A c s++[cel b4 56 it.ballot.cells,cel b3 60 it.cells]) (by show List.Perm [_,_,_,_] [_,_,_,_];exact (QQ (l₁:=[_,_]) (l₂:=[_,_]))) ?_
 refine cj (pre:=bld b A c (s)) (fr:=[cel b4 56 it.ballot.cells,cel b3 60 it.cells]) (hc:=ei b A c (s) ⟨some ⟨bs,0,none⟩,1,1⟩ [it.ballot.server] (by simp;exact hl.server) (by rw [hp0];(try simp only [Za]);omega)) (hX:=fun w h=>aN (xs:=[[.int .i64 it.ballot.server]]) h.2 rfl (by decide) (by simp)) (h:=?_)
 rintro v R X' ⟨A1,c1,rfl,rfl⟩
 refine cH (X':=(fun _=>True)) (fun w h=>trivial) ?_
 rw [hp0]
 unfold bld
 repeat' (first|refine gs ?_|refine gs1 fun _=>?_|fail)
 rename_i bs
 refine aZ ?_
 refine cj (pre:=bld b A1 c1 (s++p0)) (fr:=[cel b4 56 it.ballot.cells,cel b3 60 it.cells]) (hc:=fe b A1 c1 (s++p0) ⟨some ⟨bs,0,none⟩,1,1⟩ [it.ballot.actor] (by rw [hp1];(try simp only [Za]);omega)) (hX:=fun w h=>aN (xs:=[[encB it.ballot.actor]]) h.2 rfl (by decide) (by simp)) (h:=?_)
 rintro v R X' ⟨A2,c2,rfl,rfl⟩
 refine cH (X':=(fun _=>True)) (fun w h=>trivial) ?_
 rw [hp1]
 unfold bld
 repeat' (first|refine gs ?_|refine gs1 fun _=>?_|fail)
 rename_i bs
 refine aZ ?_
 refine cj (pre:=bld b A2 c2 (s++p0++p1)) (fr:=[cel b4 56 it.ballot.cells,cel b3 60 it.cells]) (hc:=ei b A2 c2 (s++p0++p1) ⟨some ⟨bs,0,none⟩,1,1⟩ [it.ballot.gen] (by simp;exact hl.gen) (by rw [hp2];(try simp only [Za]);omega)) (hX:=fun w h=>aN (xs:=[[.int .i64 it.ballot.gen]]) h.2 rfl (by decide) (by simp)) (h:=?_)
 rintro v R X' ⟨A3,c3,rfl,rfl⟩
 refine cH (X':=(fun _=>True)) (fun w h=>trivial) ?_
 rw [hp2]
 unfold bld
 repeat' (first|refine gs ?_|refine gs1 fun _=>?_|fail)
 rename_i bs
 refine aZ ?_
 refine cj (pre:=bld b A3 c3 (s++p0++p1++p2)) (fr:=[cel b4 56 it.ballot.cells,cel b3 60 it.cells]) (hc:=fe b A3 c3 (s++p0++p1++p2) ⟨some ⟨bs,0,none⟩,1,1⟩ [it.ballot.claim] (by rw [hp3];(try simp only [Za]);omega)) (hX:=fun w h=>aN (xs:=[[encB it.ballot.claim]]) h.2 rfl (by decide) (by simp)) (h:=?_)
 rintro v R X' ⟨A4,c4,rfl,rfl⟩
 refine cH (X':=(fun _=>True)) (fun w h=>trivial) ?_
 rw [hp3]
 unfold bld
 repeat' (first|refine gs ?_|refine gs1 fun _=>?_|fail)
 rename_i bs
 refine aZ ?_
 refine cj (pre:=bld b A4 c4 (s++p0++p1++p2++p3)) (fr:=[cel b4 56 it.ballot.cells,cel b3 60 it.cells]) (hc:=ei b A4 c4 (s++p0++p1++p2++p3) ⟨some ⟨bs,0,none⟩,1,1⟩ [it.ballot.time] (by simp;exact hl.time) (by rw [hp4];(try simp only [Za]);omega)) (hX:=fun w h=>aN (xs:=[[.int .i64 it.ballot.time]]) h.2 rfl (by decide) (by simp)) (h:=?_)
 rintro v R X' ⟨A5,c5,rfl,rfl⟩
 refine cH (X':=(fun _=>True)) (fun w h=>trivial) ?_
 rw [hp4]
 repeat' (first|refine gs ?_|refine gs1 fun _=>?_|(refine gp ?_ ?_<;>intro hx_ this)|fail)
 all_goals exact bH (bn rfl) ⟨_,QE _ _,A5,c5,rfl,rfl⟩
theorem jR (b:Nat) (A:Option Addr) (c:Nat) (s:ByteArray) (it:ItemD) (hl:it.dec.Lt) (hs:s.size+(coreDe it.dec).size≤1099511627776) :
  Ct Tryz.prog 176 #[.pointer (some ⟨b,0,none⟩),it.v] (bld b A c s) (fun w=>it.at_ w) fun u R _=>∃ A' c',u=.tuple #[]∧R=bld b A' c' (s++coreDe it.dec):=by
 refine kD (args:=[_,_]) _ Tryz.func176 rfl Tryz.ntmps176 rfl fun av bor w0=>?_
 rw [coreDe] at hs ⊢
 simp only [Za] at hs
 obtain ⟨p0,hp0⟩:∃ p,numsV [it.dec.server,it.dec.number,it.dec.kind]=p:=⟨_,rfl⟩
 obtain ⟨p1,hp1⟩:∃ p,textsV [it.dec.actor,it.dec.object,it.dec.text]=p:=⟨_,rfl⟩
 obtain ⟨p2,hp2⟩:∃ p,listV it.dec.toL=p:=⟨_,rfl⟩
 obtain ⟨p3,hp3⟩:∃ p,numsV [it.dec.n,it.dec.from_,it.dec.until_]=p:=⟨_,rfl⟩
 rw [hp0,hp1,hp2,hp3] at hs ⊢
 rw [←Zy,←Zy,←Zy]
 repeat' (first|refine gs ?_|refine gs1 fun _=>?_|(refine ax (vs:=it.dec.cells) (hv:=rfl) ?_)|(refine gp ?_ ?_<;>intro hx_ this)|fail)
 rename_i b3 b4 bs
 refine aZ ?_
 refine dl (l:=bld b A c s++[cel b4 58 it.dec.cells,cel b3 60 it.cells]) (by show List.Perm [_,_,_,_] [_,_,_,_];exact (QQ (l₁:=[_,_]) (l₂:=[_,_]))) ?_
 refine cj (pre:=bld b A c (s)) (fr:=[cel b4 58 it.dec.cells,cel b3 60 it.cells]) (hc:=ei b A c (s) ⟨some ⟨bs,0,none⟩,3,3⟩ [it.dec.server,it.dec.number,it.dec.kind] (by simp;exact ⟨hl.server,hl.number,hl.kind⟩) (by rw [hp0];(try simp only [Za]);omega)) (hX:=fun w h=>aN (xs:=[[.int .i64 it.dec.server],[.int .i64 it.dec.number],[.int .i64 it.dec.kind]]) h.2 rfl (by decide) (by simp)) (h:=?_)
 rintro v R X' ⟨A1,c1,rfl,rfl⟩
 refine cH (X':=(fun w=>it.at_ w)) (fun w h=>h.1.1) ?_
 rw [hp0]
 unfold bld
 repeat' (first|refine gs ?_|refine gs1 fun _=>?_|fail)
 rename_i bs
 refine aZ ?_
 refine cj (pre:=bld b A1 c1 (s++p0)) (fr:=[cel b4 58 it.dec.cells,cel b3 60 it.cells]) (hc:=fe b A1 c1 (s++p0) ⟨some ⟨bs,0,none⟩,3,3⟩ [it.dec.actor,it.dec.object,it.dec.text] (by rw [hp1];(try simp only [Za]);omega)) (hX:=fun w h=>aN (xs:=[[encB it.dec.actor],[encB it.dec.object],[encB it.dec.text]]) h.2 rfl (by decide) (by simp)) (h:=?_)
 rintro v R X' ⟨A2,c2,rfl,rfl⟩
 refine cH (X':=(fun w=>it.at_ w)) (fun w h=>h.1.1) ?_
 rw [hp1]
 have hli:=vS it.dec.to it.dec.toL (by rw [hp2];omega)
 rw [hp2] at hli
 unfold bld
 have hsz:(s++p0++p1).size+p2.size≤1099511627776:=by simp only [Za];omega
 generalize hgo:s++p0++p1=out at *
 have hos:out.size=s.size+p0.size+p1.size:=by rw [←hgo];simp only [Za]
 repeat' (first|refine gs ?_|refine gs1 fun _=>?_|fail)
 simp only [ZK,ZL]
 (refine ar ⟨[0,1,2,3,5,6],[(4,⟨[],[(7,⟨[],[(8,⟨[9,10],[(11,⟨[],[]⟩)]⟩)]⟩)]⟩),(7,⟨[],[(4,⟨[],[(8,⟨[9,10],[(11,⟨[],[]⟩)]⟩)]⟩)]⟩)]⟩ [cel b4 58 it.dec.cells] (fun w=>it.at_ w) (h:=?_))
 all_goals repeat' (first|(refine ab (hc:=hli) (hX:=fun w h=>h.2) ?_)|refine gd ?_|refine aA ?_ (h':=?_)|exact aB|(refine iS ?_;refine aF (size:=1) (z:=.int .u8 0) rfl rfl rfl rfl (fun _=>At.there _ (At.here _)) (fun w G=>iy aa) aa (by simp only [maxLen];omega) rfl ?_ rfl ?_;(first|with_reducible rfl|with_reducible assumption|with_reducible exact Zl|with_reducible exact Zn);intro A3 c3)|refine gs1 fun _=>?_|(refine gq ?_ ?_<;>intro hx_ this)|fail)
 all_goals
  have eb:bld b A3 c3 (out++p2)=[cel b 160 ([(.slice A2 out.size c2:Value)].set 0 (.slice A3 (out.size+p2.size) c3)),orow 5 1 (.slice A3 (out.size+p2.size) c3) (out.size+p2.size) (u8s (bytesI out)++u8s (bytesI p2))]:=by simp [bld,Za,dN,ck]
  repeat' (first|refine gs ?_|refine gs1 fun _=>?_|fail)
  rename_i bs
  refine aZ ?_
  refine dl (l:=bld b A3 c3 (out++p2)++[cel b4 58 it.dec.cells,cel b3 60 it.cells]) (by rw [eb];exact Qn _) ?_
  refine cj (pre:=bld b A3 c3 (out++p2)) (fr:=[cel b4 58 it.dec.cells,cel b3 60 it.cells]) (hc:=ei b A3 c3 (out++p2) ⟨some ⟨bs,0,none⟩,3,3⟩ [it.dec.n,it.dec.from_,it.dec.until_] (by simp;exact ⟨hl.n,hl.from_,hl.until_⟩) (by rw [hp3];(try simp only [Za]);omega)) (hX:=fun w h=>aN (xs:=[[.int .i64 it.dec.n],[.int .i64 it.dec.from_],[.int .i64 it.dec.until_]]) h.2 rfl (by decide) (by simp)) (h:=?_)
  rintro v R X' ⟨A4,c4,rfl,rfl⟩
  refine cH (X':=(fun w=>it.at_ w)) (fun w h=>h.1.1) ?_
  rw [hp3]
  repeat' (first|refine gs ?_|refine gs1 fun _=>?_|(refine gp ?_ ?_<;>intro hx_ this)|fail)
  all_goals exact bH (bn rfl) ⟨_,QE _ _,A4,c4,rfl,rfl⟩
def ordV (n:Int):Bool:=decide (0≤n)&&decide (n<2305843009213693950)
theorem ng (n:Int):Pu Tryz.prog 187 #[.int .i64 n] (fun _=>True) (.bool (ordV n)):=by
 refine ak (args:=[_]) _ Tryz.func187 rfl Tryz.ntmps187 rfl fun av bor w0=>?_
 repeat' (first|refine gs ?_|(refine gp ?_ ?_<;>intro hx_ this)|fail)
 (all_goals (apply ad;apply ag;rfl;rfl));all_goals first|rfl|(simp only [ordV, *,Zt,Zr,Zf,Ze,Zh,Zg,Zk,Zj,Zn,Zl,Zs,Zm,Zq,Zi];done)|(simp_all [ordV];done)
def verN (p:Int) (msg:ByteArray) (e s:Int):Bool :=
 bif decide (p<1)||decide (2305843009213693951≤p)||!ordV e||!ordV s then false
 else decide (e=(chalN (expV 37 s.toNat * expV p.toNat (2305843009213693950-e.toNat)%2305843009213693951) p.toNat msg:Nat))
theorem iu (p:Int) (msg:ByteArray) (e s:Int) (hm:msg.size≤1000000000000):Pu Tryz.prog 114 #[.int .i64 p,.string msg,(SgD.v ⟨e,s⟩)] Glob (.bool (verN p msg e s)):=by
 refine ak (args:=[_,_,_]) _ Tryz.func114 rfl Tryz.ntmps114 rfl fun av bor w0=>?_
 have hoe:=ng e
 have hos:=ng s
 cases hbad:(decide (p<1)||decide (2305843009213693951≤p)||!ordV e||!ordV s) with
 | true =>
  rw [show verN p msg e s=false from by rw [verN,hbad];rfl]
  repeat' (first|(refine ab (hc:=hoe) (hX:=fun _ _=>trivial) ?_)|(refine ab (hc:=hos) (hX:=fun _ _=>trivial) ?_)|refine gs ?_|refine gs1 fun _=>?_|(refine gp ?_ ?_<;>intro hx_ this)|fail)
  all_goals first
   | (apply ad;apply ag;rfl;rfl;rfl)
   | (exfalso;simp_all;done)
 | false =>
  have hb:=hbad
  simp only [Ql,Qd,Bool.not_eq_false'] at hb
  obtain ⟨⟨⟨h1,h2⟩,h3⟩,h4⟩:=hb
  have h3':=h3
  have h4':=h4
  simp only [ordV,Zp,Zw] at h3' h4'
  rw [h3] at hoe
  rw [h4] at hos
  obtain ⟨pn,rfl⟩:∃ n:Nat,p=(n:Int):=⟨p.toNat,by omega⟩
  obtain ⟨en,rfl⟩:∃ n:Nat,e=(n:Int):=⟨e.toNat,by omega⟩
  obtain ⟨sn,rfl⟩:∃ n:Nat,s=(n:Int):=⟨s.toNat,by omega⟩
  obtain ⟨d,hd⟩:∃ d,2305843009213693950-en=d:=⟨_,rfl⟩
  have hsub:IntKind.i64.wrap ((2305843009213693950:Int)-(en:Int))=(d:Int):=by
   rw [show (2305843009213693950:Int)-(en:Int)=(d:Int) from by omega]
   exact IntWalk.i64_in _ aa
  have he1:=qk 37 sn aa
  have he2:=qk pn d aa
  obtain ⟨x1,hx1⟩:∃ x,expV 37 sn=x:=⟨_,rfl⟩
  obtain ⟨x2,hx2⟩:∃ x,expV pn d=x:=⟨_,rfl⟩
  rw [hx1] at he1
  rw [hx2] at he2
  have hmu:=uV x1 x2
  obtain ⟨r,hr⟩:∃ r,x1*x2%2305843009213693951=r:=⟨_,rfl⟩
  have hrl:r<2305843009213693951:=by rw [←hr];exact Qc _ (by decide)
  rw [hr] at hmu
  have hch:=wk r pn msg aa aa hm
  have hV:verN (pn:Int) msg (en:Int) (sn:Int)=decide (((en:Nat):Int)=(chalN r pn msg:Nat)):=by
   rw [verN,hbad,Ze,ZZ,ZZ,ZZ,hd,hx1,hx2,hr]
  rw [hV]
  have hbg:¬ (2305843009213693951:Int)≤(pn:Int):=h2
  have hbl:¬ (pn:Int)<1:=h1
  clear hbad hV hr hx1 hx2 hd
  generalize hcn:chalN r pn msg=cn at hch
  repeat' (first|refine ai (cd false rfl rfl (Zc hbl)) rfl ao rfl ?_|refine ai (lH false rfl rfl (Zc hbg)) rfl ao rfl ?_|(refine ab (hc:=hoe) (hX:=fun _ _=>trivial) ?_)|(refine ab (hc:=hos) (hX:=fun _ _=>trivial) ?_)|refine gs ?_|refine gs1 fun _=>?_|(refine gp ?_ ?_<;>intro hx_ this)|fail)
  rename_i bs
  (refine ar ⟨[0,1,3,4,5,6],[(2,⟨[],[(7,⟨[],[(8,⟨[9],[]⟩)]⟩)]⟩)]⟩ [cel bs 44 (SgD.cells ⟨(en:Int),(sn:Int)⟩)] Glob (h:=?_))
  all_goals repeat' (first|refine ay (hy:=by first|(apply oj (c:=(d:Int));rfl;rfl;exact hsub)) ?_|(refine ab (hc:=he1) (hX:=fun _ h=>by first|trivial|exact h) ?_)|(refine ab (hc:=he2) (hX:=fun _ h=>by first|trivial|exact h) ?_)|(refine ab (hc:=hmu) (hX:=fun _ h=>by first|trivial|exact h) ?_)|refine gd ?_|refine aA ?_ (h':=?_)|exact aB|refine gs1 fun _=>?_|(refine gq ?_ ?_<;>intro hx_ this)|fail)
  all_goals
   repeat' (first|refine gs ?_|refine gs1 fun _=>?_|(refine gp ?_ ?_<;>intro hx_ this)|fail)
   (refine ar ⟨[0,1,2,3,4],[(5,⟨[6,7],[]⟩)]⟩ [cel bs 44 (SgD.cells ⟨(en:Int),(sn:Int)⟩)] Glob (h:=?_))
   all_goals repeat' (first|(refine ab (hc:=hch) (hX:=fun _ h=>h) ?_)|refine gd ?_|refine aA ?_ (h':=?_)|exact aB|refine gs1 fun _=>?_|(refine gq ?_ ?_<;>intro hx_ this)|fail)
   all_goals
    repeat' (first|refine gs ?_|refine gs1 fun _=>?_|(refine gp ?_ ?_<;>intro hx_ this)|fail)
    exact ad (ag rfl rfl) rfl
def verV (p:Int) (a:ActD):Bool:=rightB a&&verN p (actCore a) a.e a.s
theorem qF (p:Int) (a:ActD) (hr:a.Rng):Pu Tryz.prog 64 #[.int .i64 p,a.v] (fun w=>a.at_ w∧Glob w) (.bool (verV p a)):=by
 refine ak (args:=[_,_]) _ Tryz.func64 rfl Tryz.ntmps64 rfl fun av bor w0=>?_
 have hri:=dY a
 cases hR:rightB a with
 | false =>
  rw [hR] at hri
  rw [show verV p a=false from by rw [verV,hR];rfl]
  repeat' (first|refine gs ?_|refine gs1 fun _=>?_|(refine gp ?_ ?_<;>intro hx_ this)|fail)
  rename_i b3
  (refine ar ⟨[0],[(1,⟨[2,3,4,6,7],[(5,⟨[],[(8,⟨[9,10],[]⟩)]⟩)]⟩)]⟩ [cel b3 46 a.cells] (fun w=>a.at_ w∧Glob w) (h:=?_))
  all_goals repeat' (first|(refine ab (hc:=hri) (hX:=fun _ h=>h.1) ?_)|refine gd ?_|refine aA ?_ (h':=?_)|exact aB|refine gs1 fun _=>?_|(refine gq ?_ ?_<;>intro hx_ this)|fail)
  all_goals
   repeat' (first|refine gs ?_|refine gs1 fun _=>?_|(refine gp ?_ ?_<;>intro hx_ this)|fail)
   exact ad (ag rfl rfl) rfl
 | true =>
  rw [hR] at hri
  have hco:=qp a (dt hr)
  have hsz:=fM (dt hr hR)
  rw [hR,Zf] at hco
  have hve:=iu p (coreV a) a.e a.s aa
  have hV:verV p a=verN p (coreV a) a.e a.s:=by rw [verV,actCore,hR];rfl
  rw [hV]
  generalize verN p (coreV a) a.e a.s=V at *
  repeat' (first|refine gs ?_|refine gs1 fun _=>?_|(refine gp ?_ ?_<;>intro hx_ this)|fail)
  rename_i b3
  (refine ar ⟨[0],[(1,⟨[2,3,4,6,7],[(5,⟨[],[(8,⟨[9,10],[]⟩)]⟩)]⟩)]⟩ [cel b3 46 a.cells] (fun w=>a.at_ w∧Glob w) (h:=?_))
  all_goals repeat' (first|(refine ab (hc:=hri) (hX:=fun _ h=>h.1) ?_)|(refine ab (hc:=hco) (hX:=fun _ h=>h.1) ?_)|(refine ab (hc:=hve) (hX:=fun _ h=>h.2) ?_)|refine gd ?_|refine ay (hy:=by first|(apply cE (vs:=SgD.cells ⟨a.e,a.s⟩);rfl;exact .head _;rfl;rfl)) ?_|refine aA ?_ (h':=?_)|exact aB|refine gs1 fun _=>?_|(refine gq ?_ ?_<;>intro hx_ this)|fail)
  all_goals
   repeat' (first|refine gs ?_|refine gs1 fun _=>?_|(refine gp ?_ ?_<;>intro hx_ this)|fail)
   exact ad (ag rfl rfl) rfl
def rightK2 (i:ItemD):Bool:=bif decide (i.kind=0) then rightB i.act else bif decide (i.kind=1) then claimR i.claim else bif decide (i.kind=2) then ballotR i.ballot else bif decide (i.kind=3) then decR i.dec else false
def restI (i:ItemD):ItemD:=bif decide (i.kind=0) then ⟨0,ActD.zero,i.claim,i.ballot,i.dec⟩ else bif decide (i.kind=1) then ⟨0,i.act,ClaimD.zero,i.ballot,i.dec⟩ else bif decide (i.kind=2) then ⟨0,i.act,i.claim,BallotD.zero,i.dec⟩ else bif decide (i.kind=3) then ⟨0,i.act,i.claim,i.ballot,DecD.zero⟩ else ⟨0,i.act,i.claim,i.ballot,i.dec⟩
def rightIt (i:ItemD):Bool:=rightK2 i&&sameIZ (restI i)
set_option maxRecDepth 20000 in
theorem dM (i:ItemD):Pu Tryz.prog 73 #[i.v] (fun w=>i.at_ w) (.bool (rightIt i)):=by
 refine ak (args:=[_]) _ Tryz.func73 rfl Tryz.ntmps73 rfl fun av bor w0=>?_
 by_cases h0:i.kind=0
 · have hri:=dY i.act
   have hsa:=fy ⟨0,ActD.zero,i.claim,i.ballot,i.dec⟩
   have e:rightIt i=(rightB i.act&&sameIZ ⟨0,ActD.zero,i.claim,i.ballot,i.dec⟩):=by simp [rightIt,rightK2,restI,h0]
   rw [e]
   generalize rightB i.act=rb at *
   generalize sameIZ ⟨0,ActD.zero,i.claim,i.ballot,i.dec⟩=sb at *
   repeat' (first|refine aH (hab:=by omega) ?_|refine aG (hab:=by omega) ?_|(refine ab (hc:=hri) (hX:=fun w h=>h.1) ?_)|(refine ab (hc:=hsa) (hX:=fun _ _=>trivial) ?_)|refine gs ?_|refine gs1 fun _=>?_|(refine aD (cs:=ActD.zero.cells) (hf:=by rfl) ?_)|(refine dH (⟨0,ActD.zero,i.claim,i.ballot,i.dec⟩:ItemD).cells (h:=?_))|(refine ax (vs:=i.act.cells) (hv:=rfl) ?_)|(refine aD (cs:=ItemD.zero.cells) (hf:=by rfl) ?_)|(refine gp ?_ ?_<;>intro hx_ this)|fail)
   all_goals first
    | exact ad (ag rfl rfl) rfl
    | (refine ad (ag rfl rfl) ?_;simp_all;done)
 by_cases h1:i.kind=1
 · have hri:=nU i.claim
   have hsa:=fy ⟨0,i.act,ClaimD.zero,i.ballot,i.dec⟩
   have e:rightIt i=(claimR i.claim&&sameIZ ⟨0,i.act,ClaimD.zero,i.ballot,i.dec⟩):=by simp [rightIt,rightK2,restI,h0,h1]
   rw [e]
   generalize claimR i.claim=rb at *
   generalize sameIZ ⟨0,i.act,ClaimD.zero,i.ballot,i.dec⟩=sb at *
   repeat' (first|refine aH (hab:=by omega) ?_|refine aG (hab:=by omega) ?_|(refine ab (hc:=hri) (hX:=fun _ _=>trivial) ?_)|(refine ab (hc:=hsa) (hX:=fun _ _=>trivial) ?_)|refine gs ?_|refine gs1 fun _=>?_|(refine aD (cs:=ClaimD.zero.cells) (hf:=by rfl) ?_)|(refine dH (⟨0,i.act,ClaimD.zero,i.ballot,i.dec⟩:ItemD).cells (h:=?_))|(refine ax (vs:=i.claim.cells) (hv:=rfl) ?_)|(refine aD (cs:=ItemD.zero.cells) (hf:=by rfl) ?_)|(refine gp ?_ ?_<;>intro hx_ this)|fail)
   all_goals first
    | exact ad (ag rfl rfl) rfl
    | (refine ad (ag rfl rfl) ?_;simp_all;done)
 by_cases h2:i.kind=2
 · have hri:=mN i.ballot
   have hsa:=fy ⟨0,i.act,i.claim,BallotD.zero,i.dec⟩
   have e:rightIt i=(ballotR i.ballot&&sameIZ ⟨0,i.act,i.claim,BallotD.zero,i.dec⟩):=by simp [rightIt,rightK2,restI,h0,h1,h2]
   rw [e]
   generalize ballotR i.ballot=rb at *
   generalize sameIZ ⟨0,i.act,i.claim,BallotD.zero,i.dec⟩=sb at *
   repeat' (first|refine aH (hab:=by omega) ?_|refine aG (hab:=by omega) ?_|(refine ab (hc:=hri) (hX:=fun _ _=>trivial) ?_)|(refine ab (hc:=hsa) (hX:=fun _ _=>trivial) ?_)|refine gs ?_|refine gs1 fun _=>?_|(refine aD (cs:=BallotD.zero.cells) (hf:=by rfl) ?_)|(refine dH (⟨0,i.act,i.claim,BallotD.zero,i.dec⟩:ItemD).cells (h:=?_))|(refine ax (vs:=i.ballot.cells) (hv:=rfl) ?_)|(refine aD (cs:=ItemD.zero.cells) (hf:=by rfl) ?_)|(refine gp ?_ ?_<;>intro hx_ this)|fail)
   all_goals first
    | exact ad (ag rfl rfl) rfl
    | (refine ad (ag rfl rfl) ?_;simp_all;done)
 by_cases h3:i.kind=3
 · have hri:=j9 i.dec
   have hsa:=fy ⟨0,i.act,i.claim,i.ballot,DecD.zero⟩
   have e:rightIt i=(decR i.dec&&sameIZ ⟨0,i.act,i.claim,i.ballot,DecD.zero⟩):=by simp [rightIt,rightK2,restI,h0,h1,h2,h3]
   rw [e]
   generalize decR i.dec=rb at *
   generalize sameIZ ⟨0,i.act,i.claim,i.ballot,DecD.zero⟩=sb at *
   repeat' (first|refine aH (hab:=by omega) ?_|refine aG (hab:=by omega) ?_|(refine ab (hc:=hri) (hX:=fun w h=>h.2) ?_)|(refine ab (hc:=hsa) (hX:=fun _ _=>trivial) ?_)|refine gs ?_|refine gs1 fun _=>?_|(refine aD (cs:=DecD.zero.cells) (hf:=by rfl) ?_)|(refine dH (⟨0,i.act,i.claim,i.ballot,DecD.zero⟩:ItemD).cells (h:=?_))|(refine ax (vs:=i.dec.cells) (hv:=rfl) ?_)|(refine aD (cs:=ItemD.zero.cells) (hf:=by rfl) ?_)|(refine gp ?_ ?_<;>intro hx_ this)|fail)
   all_goals first
    | exact ad (ag rfl rfl) rfl
    | (refine ad (ag rfl rfl) ?_;simp_all;done)
 have e:rightIt i=false:=by simp [rightIt,rightK2,h0,h1,h2,h3]
 rw [e]
 repeat' (first|refine aG (hab:=by omega) ?_|refine gs ?_|refine gs1 fun _=>?_|(refine gp ?_ ?_<;>intro hx_ this)|fail)
 all_goals exact ad (ag rfl rfl) rfl
def formCells (nm:ByteArray) (f:Nat) (e s:Int):List Value:=[.string nm,.func (.func f) #[] #[],.int .i64 e,.int .i64 s]
theorem gU {N:Nat} {av bor:List Nat} {w0:World} {st:St} {ty:TypeId} {x:Operand} {nm:ByteArray} {f:Nat} {e s:Int} (hx:ev st.env x=some (.agg (formCells nm f e s).toArray)):Sy.Yields Tryz.prog N av bor w0 st (.field 164 x 2) ty (.agg #[.int .i64 e,.int .i64 s]):=Sy.Yields.mk fun A w ok d pos af g=>by
 have hp:(part 44 (formCells nm f e s).toArray 2).run Tryz.prog w=.ok (.agg #[.int .i64 e,.int .i64 s]) w:=by rw [ib];rfl
 simp only [formCells] at hx hp
 simp [execOp,ok.eval hx,Instr.field,run_underlying Tryz.underlying164,asAgg,hp]
def nameC:ByteArray:=⟨#[99,108,97,105,109]⟩
theorem nr (it:ItemD) (h:it.kind=1):Pu Tryz.prog 98 #[it.v] (fun _=>True) (.agg (formCells nameC 174 it.claim.e it.claim.s).toArray):=by
 refine ak (args:=[_]) _ Tryz.func98 rfl Tryz.ntmps98 rfl fun av bor w0=>?_
 repeat' (first|refine aH (hab:=by omega) ?_|refine aG (hab:=by omega) ?_|refine gs ?_|refine gs1 fun _=>?_|(refine ax (vs:=[.int .i64 it.claim.e,.int .i64 it.claim.s]) (hv:=rfl) ?_)|(refine aD (cs:=formCells nameC 174 it.claim.e it.claim.s) (hf:=by rfl) ?_)|(refine gp ?_ ?_<;>intro hx_ this)|fail)
 all_goals exact ad (cL rfl rfl aW (by rfl)) rfl
def msgC (x:ClaimD):ByteArray:=textsV [nameC]++coreCl x
theorem DZ (it:ItemD) (h:it.kind=1) (hl:it.claim.Lt) (hz:(msgC it.claim).size≤1099511627776):Pu Tryz.prog 202 #[it.v] (fun _=>True) (.string (msgC it.claim)):=by
 refine ak (args:=[_]) _ Tryz.func202 rfl Tryz.ntmps202 rfl fun av bor w0=>?_
 have hfo:=nr it h
 rw [msgC] at hz ⊢
 rw [Za] at hz
 have hS:(⟨#[]⟩:ByteArray)++textsV [nameC]=textsV [nameC]:=ByteArray.empty_append
 have hts:(⟨#[]⟩:ByteArray).size+(textsV [nameC]).size≤1099511627776:=by
  rw [←Za,hS]
  omega
 repeat' (first|(refine ab (hc:=hfo) (hX:=fun _ _=>trivial) ?_)|refine gs ?_|refine gs1 fun _=>?_|(refine gp ?_ ?_<;>intro hx_ this)|fail)
 rename_i bi bf bb bs
 refine aZ ?_
 refine ga 5 1 ?_
 refine dl (l:=bld bb none 0 ⟨#[]⟩++[cel bf 164 (formCells nameC 174 it.claim.e it.claim.s),cel bi 60 it.cells]) (List.Perm.swap _ _ _) ?_
 refine cj (pre:=bld bb none 0 ⟨#[]⟩) (fr:=[cel bf 164 (formCells nameC 174 it.claim.e it.claim.s),cel bi 60 it.cells]) (hc:=fe bb none 0 ⟨#[]⟩ ⟨some ⟨bs,0,none⟩,1,1⟩ [nameC] hts) (hX:=fun w h=>aN (xs:=[[encB nameC]]) h.2 rfl (by decide) (by simp)) (h:=?_)
 rintro v R X' ⟨A1,c1,rfl,rfl⟩
 refine cH (X':=(fun _=>True)) (fun w h=>trivial) ?_
 rw [hS]
 generalize textsV [nameC]=p0 at *
 unfold bld
 repeat' (first|refine gs ?_|refine gs1 fun _=>?_|fail)
 refine cj (pre:=bld bb A1 c1 p0) (fr:=[cel bf 164 (formCells nameC 174 it.claim.e it.claim.s),cel bi 60 it.cells]) (hc:=pd bb A1 c1 p0 it hl hz) (hX:=fun _ _=>trivial) (h:=?_)
 rintro v R X' ⟨A2,c2,rfl,rfl⟩
 unfold bld
 repeat' (first|refine gs ?_|refine gs1 fun _=>?_|fail)
 refine eL (hm:=Zv _ aw) ?_
 repeat' (first|refine gs ?_|refine gs1 fun _=>?_|(refine gp ?_ ?_<;>intro hx_ this)|fail)
 all_goals
  apply ad;apply ag;rfl;rfl
  simp only [cI]
def sgnC (p:Int) (x:ClaimD):Bool:=verN p (msgC x) x.e x.s
theorem pK (p:Int) (it:ItemD) (h:it.kind=1) (hl:it.claim.Lt) (hz:(msgC it.claim).size≤1000000000000):Pu Tryz.prog 126 #[.int .i64 p,it.v] (fun w=>it.at_ w∧Glob w) (.bool (sgnC p it.claim)):=by
 refine ak (args:=[_,_]) _ Tryz.func126 rfl Tryz.ntmps126 rfl fun av bor w0=>?_
 have hms:=DZ it h hl aa
 have hfo:=nr it h
 have hve:=iu p (msgC it.claim) it.claim.e it.claim.s hz
 rw [sgnC]
 generalize verN p (msgC it.claim) it.claim.e it.claim.s=V at *
 repeat' (first|refine gs ?_|refine gs1 fun _=>?_|(refine gp ?_ ?_<;>intro hx_ this)|fail)
 rename_i b3
 (refine ar ⟨[0,1,3],[(2,⟨[],[(4,⟨[5],[(6,⟨[7],[]⟩)]⟩)]⟩)]⟩ [cel b3 60 it.cells] (fun w=>it.at_ w∧Glob w) (h:=?_))
 all_goals repeat' (first|(refine ab (hc:=hms) (hX:=fun w h=>trivial) ?_)|(refine ab (hc:=hfo) (hX:=fun _ _=>trivial) ?_)|(refine ab (hc:=hve) (hX:=fun w h=>h.2) ?_)|refine gd ?_|refine ay (hy:=by first|(apply gU;rfl)) ?_|refine aA ?_ (h':=?_)|exact aB|refine gs1 fun _=>?_|(refine gq ?_ ?_<;>intro hx_ this)|fail)
 all_goals
  repeat' (first|refine gs ?_|refine gs1 fun _=>?_|(refine gp ?_ ?_<;>intro hx_ this)|fail)
  exact ad (ag rfl rfl) rfl
def nameB:ByteArray:=⟨#[98,97,108,108,111,116]⟩
theorem nt (it:ItemD) (h:it.kind=2):Pu Tryz.prog 98 #[it.v] (fun _=>True) (.agg (formCells nameB 175 it.ballot.e it.ballot.s).toArray):=by
 refine ak (args:=[_]) _ Tryz.func98 rfl Tryz.ntmps98 rfl fun av bor w0=>?_
 repeat' (first|refine aH (hab:=by omega) ?_|refine aG (hab:=by omega) ?_|refine gs ?_|refine gs1 fun _=>?_|(refine ax (vs:=[.int .i64 it.ballot.e,.int .i64 it.ballot.s]) (hv:=rfl) ?_)|(refine aD (cs:=formCells nameB 175 it.ballot.e it.ballot.s) (hf:=by rfl) ?_)|(refine gp ?_ ?_<;>intro hx_ this)|fail)
 all_goals exact ad (cL rfl rfl aW (by rfl)) rfl
def msgB (x:BallotD):ByteArray:=textsV [nameB]++coreBa x
theorem D3 (it:ItemD) (h:it.kind=2) (hl:it.ballot.Lt) (hz:(msgB it.ballot).size≤1099511627776):Pu Tryz.prog 202 #[it.v] (fun _=>True) (.string (msgB it.ballot)):=by
 refine ak (args:=[_]) _ Tryz.func202 rfl Tryz.ntmps202 rfl fun av bor w0=>?_
 have hfo:=nt it h
 rw [msgB] at hz ⊢
 rw [Za] at hz
 have hS:(⟨#[]⟩:ByteArray)++textsV [nameB]=textsV [nameB]:=ByteArray.empty_append
 have hts:(⟨#[]⟩:ByteArray).size+(textsV [nameB]).size≤1099511627776:=by
  rw [←Za,hS]
  omega
 repeat' (first|(refine ab (hc:=hfo) (hX:=fun _ _=>trivial) ?_)|refine gs ?_|refine gs1 fun _=>?_|(refine gp ?_ ?_<;>intro hx_ this)|fail)
 rename_i bi bf bb bs
 refine aZ ?_
 refine ga 5 1 ?_
 refine dl (l:=bld bb none 0 ⟨#[]⟩++[cel bf 164 (formCells nameB 175 it.ballot.e it.ballot.s),cel bi 60 it.cells]) (List.Perm.swap _ _ _) ?_
 refine cj (pre:=bld bb none 0 ⟨#[]⟩) (fr:=[cel bf 164 (formCells nameB 175 it.ballot.e it.ballot.s),cel bi 60 it.cells]) (hc:=fe bb none 0 ⟨#[]⟩ ⟨some ⟨bs,0,none⟩,1,1⟩ [nameB] hts) (hX:=fun w h=>aN (xs:=[[encB nameB]]) h.2 rfl (by decide) (by simp)) (h:=?_)
 rintro v R X' ⟨A1,c1,rfl,rfl⟩
 refine cH (X':=(fun _=>True)) (fun w h=>trivial) ?_
 rw [hS]
 generalize textsV [nameB]=p0 at *
 unfold bld
 repeat' (first|refine gs ?_|refine gs1 fun _=>?_|fail)
 refine cj (pre:=bld bb A1 c1 p0) (fr:=[cel bf 164 (formCells nameB 175 it.ballot.e it.ballot.s),cel bi 60 it.cells]) (hc:=nN bb A1 c1 p0 it hl hz) (hX:=fun _ _=>trivial) (h:=?_)
 rintro v R X' ⟨A2,c2,rfl,rfl⟩
 unfold bld
 repeat' (first|refine gs ?_|refine gs1 fun _=>?_|fail)
 refine eL (hm:=Zv _ aw) ?_
 repeat' (first|refine gs ?_|refine gs1 fun _=>?_|(refine gp ?_ ?_<;>intro hx_ this)|fail)
 all_goals
  apply ad;apply ag;rfl;rfl
  simp only [cI]
def sgnB (p:Int) (x:BallotD):Bool:=verN p (msgB x) x.e x.s
theorem pL (p:Int) (it:ItemD) (h:it.kind=2) (hl:it.ballot.Lt) (hz:(msgB it.ballot).size≤1000000000000):Pu Tryz.prog 126 #[.int .i64 p,it.v] (fun w=>it.at_ w∧Glob w) (.bool (sgnB p it.ballot)):=by
 refine ak (args:=[_,_]) _ Tryz.func126 rfl Tryz.ntmps126 rfl fun av bor w0=>?_
 have hms:=D3 it h hl aa
 have hfo:=nt it h
 have hve:=iu p (msgB it.ballot) it.ballot.e it.ballot.s hz
 rw [sgnB]
 generalize verN p (msgB it.ballot) it.ballot.e it.ballot.s=V at *
 repeat' (first|refine gs ?_|refine gs1 fun _=>?_|(refine gp ?_ ?_<;>intro hx_ this)|fail)
 rename_i b3
 (refine ar ⟨[0,1,3],[(2,⟨[],[(4,⟨[5],[(6,⟨[7],[]⟩)]⟩)]⟩)]⟩ [cel b3 60 it.cells] (fun w=>it.at_ w∧Glob w) (h:=?_))
 all_goals repeat' (first|(refine ab (hc:=hms) (hX:=fun w h=>trivial) ?_)|(refine ab (hc:=hfo) (hX:=fun _ _=>trivial) ?_)|(refine ab (hc:=hve) (hX:=fun w h=>h.2) ?_)|refine gd ?_|refine ay (hy:=by first|(apply gU;rfl)) ?_|refine aA ?_ (h':=?_)|exact aB|refine gs1 fun _=>?_|(refine gq ?_ ?_<;>intro hx_ this)|fail)
 all_goals
  repeat' (first|refine gs ?_|refine gs1 fun _=>?_|(refine gp ?_ ?_<;>intro hx_ this)|fail)
  exact ad (ag rfl rfl) rfl
def nameD:ByteArray:=⟨#[100,101,99,105,115,105,111,110]⟩
theorem nq (it:ItemD) (h:it.kind=3):Pu Tryz.prog 98 #[it.v] (fun _=>True) (.agg (formCells nameD 176 it.dec.e it.dec.s).toArray):=by
 refine ak (args:=[_]) _ Tryz.func98 rfl Tryz.ntmps98 rfl fun av bor w0=>?_
 repeat' (first|refine aH (hab:=by omega) ?_|refine aG (hab:=by omega) ?_|refine gs ?_|refine gs1 fun _=>?_|(refine ax (vs:=[.int .i64 it.dec.e,.int .i64 it.dec.s]) (hv:=rfl) ?_)|(refine aD (cs:=formCells nameD 176 it.dec.e it.dec.s) (hf:=by rfl) ?_)|(refine gp ?_ ?_<;>intro hx_ this)|fail)
 all_goals exact ad (cL rfl rfl aW (by rfl)) rfl
def msgD (x:DecD):ByteArray:=textsV [nameD]++coreDe x
theorem DY (it:ItemD) (h:it.kind=3) (hl:it.dec.Lt) (hz:(msgD it.dec).size≤1099511627776):Pu Tryz.prog 202 #[it.v] (fun w=>it.at_ w) (.string (msgD it.dec)):=by
 refine ak (args:=[_]) _ Tryz.func202 rfl Tryz.ntmps202 rfl fun av bor w0=>?_
 have hfo:=nq it h
 rw [msgD] at hz ⊢
 rw [Za] at hz
 have hS:(⟨#[]⟩:ByteArray)++textsV [nameD]=textsV [nameD]:=ByteArray.empty_append
 have hts:(⟨#[]⟩:ByteArray).size+(textsV [nameD]).size≤1099511627776:=by
  rw [←Za,hS]
  omega
 repeat' (first|(refine ab (hc:=hfo) (hX:=fun _ _=>trivial) ?_)|refine gs ?_|refine gs1 fun _=>?_|(refine gp ?_ ?_<;>intro hx_ this)|fail)
 rename_i bi bf bb bs
 refine aZ ?_
 refine ga 5 1 ?_
 refine dl (l:=bld bb none 0 ⟨#[]⟩++[cel bf 164 (formCells nameD 176 it.dec.e it.dec.s),cel bi 60 it.cells]) (List.Perm.swap _ _ _) ?_
 refine cj (pre:=bld bb none 0 ⟨#[]⟩) (fr:=[cel bf 164 (formCells nameD 176 it.dec.e it.dec.s),cel bi 60 it.cells]) (hc:=fe bb none 0 ⟨#[]⟩ ⟨some ⟨bs,0,none⟩,1,1⟩ [nameD] hts) (hX:=fun w h=>aN (xs:=[[encB nameD]]) h.2 rfl (by decide) (by simp)) (h:=?_)
 rintro v R X' ⟨A1,c1,rfl,rfl⟩
 refine cH (X':=(fun w=>it.at_ w)) (fun w h=>h.1.1) ?_
 rw [hS]
 generalize textsV [nameD]=p0 at *
 unfold bld
 repeat' (first|refine gs ?_|refine gs1 fun _=>?_|fail)
 refine cj (pre:=bld bb A1 c1 p0) (fr:=[cel bf 164 (formCells nameD 176 it.dec.e it.dec.s),cel bi 60 it.cells]) (hc:=jR bb A1 c1 p0 it hl hz) (hX:=fun w h=>h) (h:=?_)
 rintro v R X' ⟨A2,c2,rfl,rfl⟩
 unfold bld
 repeat' (first|refine gs ?_|refine gs1 fun _=>?_|fail)
 refine eL (hm:=Zv _ aw) ?_
 repeat' (first|refine gs ?_|refine gs1 fun _=>?_|(refine gp ?_ ?_<;>intro hx_ this)|fail)
 all_goals
  apply ad;apply ag;rfl;rfl
  simp only [cI]
def sgnD (p:Int) (x:DecD):Bool:=verN p (msgD x) x.e x.s
theorem pJ (p:Int) (it:ItemD) (h:it.kind=3) (hl:it.dec.Lt) (hz:(msgD it.dec).size≤1000000000000):Pu Tryz.prog 126 #[.int .i64 p,it.v] (fun w=>it.at_ w∧Glob w) (.bool (sgnD p it.dec)):=by
 refine ak (args:=[_,_]) _ Tryz.func126 rfl Tryz.ntmps126 rfl fun av bor w0=>?_
 have hms:=DY it h hl aa
 have hfo:=nq it h
 have hve:=iu p (msgD it.dec) it.dec.e it.dec.s hz
 rw [sgnD]
 generalize verN p (msgD it.dec) it.dec.e it.dec.s=V at *
 repeat' (first|refine gs ?_|refine gs1 fun _=>?_|(refine gp ?_ ?_<;>intro hx_ this)|fail)
 rename_i b3
 (refine ar ⟨[0,1,3],[(2,⟨[],[(4,⟨[5],[(6,⟨[7],[]⟩)]⟩)]⟩)]⟩ [cel b3 60 it.cells] (fun w=>it.at_ w∧Glob w) (h:=?_))
 all_goals repeat' (first|(refine ab (hc:=hms) (hX:=fun w h=>h.1) ?_)|(refine ab (hc:=hfo) (hX:=fun _ _=>trivial) ?_)|(refine ab (hc:=hve) (hX:=fun w h=>h.2) ?_)|refine gd ?_|refine ay (hy:=by first|(apply gU;rfl)) ?_|refine aA ?_ (h':=?_)|exact aB|refine gs1 fun _=>?_|(refine gq ?_ ?_<;>intro hx_ this)|fail)
 all_goals
  repeat' (first|refine gs ?_|refine gs1 fun _=>?_|(refine gp ?_ ?_<;>intro hx_ this)|fail)
  exact ad (ag rfl rfl) rfl
section
variable {P:Program} {N:Nat} {av bor:List Nat} {w0:World} {ty:TypeId}
theorem yZ {st:St} {x:Operand} {t t2 e b':TypeId} [hs:TySl P t e 1 b'] [he:TyInt P e .u8] [h2:TyStr P t2] {b n:Nat} {ns:List Int} (hx:ev st.env x=some (.slice (some ⟨b,0,none⟩) n n)) (hm:cel b e (u8s ns)∈st.loc) (hn:ns.length=n) (hn2:n≤maxLen) :
  Sy.Yields P N av bor w0 st (.convert t t2 x) ty (.string (ofInts ns)):=Sy.Yields.mk fun A w ok d pos af g=>by
 have hh:w.heap[b]?=some (.cells (u8s ns).toArray e (0,0)):=(ok.gam.here _ hm).now
 have ho:ORow w e 1 (.slice (some ⟨b,0,none⟩) n n) n (u8s ns):=kV hh (by simp [u8s,hn]) hn2
 have hl:(u8s ns).length=n:=by have:=ho.1;omega
 rcases ho.2 with ⟨h,_⟩|⟨g,cap,cur,fz,hv,hg,hnc,hcm,hcs,htake,hfz⟩
 · cases h
 · cases hv
   have hlc:=run_loadCells_list (P:=P) w ⟨b,0,none⟩ (u8s ns) (fun j u hj=>by
    have hadd:(⟨b,0,none⟩:Addr).add j=⟨b,j,none⟩:=by unfold Addr.add;split<;>simp_all
    rw [hadd,cell_of_row w b j cur e fz hg]
    rw [←htake,QH] at hj
    split at hj
    · simpa using hj
    · cases hj)
   rw [hl] at hlc
   have h3:=run_bytesToString (P:=P) w ⟨b,0,none⟩ n n ns hlc
   have h4:=run_convert_bytes_string (P:=P) w t t2 e (some ⟨b,0,none⟩) n n (cN hs.out).1 he.out h2.out
   rw [h3] at h4
   simp [execOp,ok.eval hx,h4,ofInts]
end
section
variable {P:Program} {N:Nat} {av bor:List Nat} {w0:World} {st:St} {ty:TypeId} {x y z:Operand} {t t2:TypeId}
theorem CE {e size b':Nat} [hI:TySl P t e size b'] {s:SlV} {kk kk':IntKind} {i j:Int} (hx:ev st.env x=some s.v) (hy:ev st.env y=some (.int kk i)) (hz:ev st.env z=some (.int kk' j)) (h0:0≤i) (h1:i≤j) (h2:j≤(s.c:Int)) :
  Sy.Yields P N av bor w0 st (.slice t x (some y) (some z) none) ty (.slice (s.from size i.toNat).p (j.toNat-i.toNat) (s.c-i.toNat)):=Sy.Yields.mk fun A w ok d pos af g=>by
 obtain ⟨p,m,c⟩:=s
 obtain ⟨hu,inf,hi,hs,hb⟩:=cN hI.out
 have hsz:=Sy.run_sizeOf (P:=P) (w:=w) (t:=e) (n:=size) (by simp [hi,hs])
 have hx':ev st.env x=some (.slice p m c):=hx
 have h2':j≤(c:Int):=h2
 have hj:0≤j:=by omega
 obtain ⟨j,rfl⟩:=Int.eq_ofNat_of_zero_le hj
 have h2'':j≤c:=by omega
 simp [execOp,ok.eval hx',ok.eval hy,ok.eval hz,Instr.sliceAt,run_underlying hu,Instr.slice,Instr.sliceBounds,run_sliceBound,h0,h1,h2',h2'',hsz,SlV.from]
end
section
variable {P:Program} {N:Nat} {av bor:List Nat} {w0:World} {st:St} {ty:TypeId} {x:Operand} {t:TypeId}
theorem d8 {e m i c:Nat} [h:TyOne P t] {A:Option Addr} {vs:List Value} {u:Value} (hx:ev st.env x=some (elP A i)) (hm:orow e 1 (.slice A m c) m vs∈st.loc) (hn:m=vs.length) (hi:vs[i]?=some u) :
  Sy.Yields P N av bor w0 st (.load t x) ty u:=Sy.Yields.mk fun B w ok d pos af g=>by
 have e1:(vs.map fun v=>[v]).flatten=vs:=by
  clear hm hn hi
  induction vs with
  | nil=>rfl
  | cons v vs ih=>rw [Z1,Qb,ih];rfl
 have ho:=(ok.gam.here _ hm).now
 have hr:RowsD w 1 ⟨A,m,c⟩ (vs.map fun v=>[v]):=bz (e:=e) (by rw [e1];exact ho) (by rw [ZF];exact hn) fun r hr=>by
  obtain ⟨v,_,rfl⟩:=QJ.1 hr
  rfl
 obtain ⟨h1,hp,hc⟩:=RowsD.row hr i [u] (by rw [Z7,hi];rfl)
 have hc0:=hc 0 u rfl
 rw [Nat.mul_one,ZT] at hc0
 obtain ⟨a,rfl⟩:=QO.1 hp
 simp [execOp,ok.eval hx,elP,Instr.loadAt,Instr.sureAddr,loadVar,(cv h.out w).1,hc0.2 a rfl]
end
section
variable {P:Program} {N:Nat} {av bor:List Nat} {w0:World} {ops:Array Oper} {rest:List Oper} {kk:St→Prop} {E:Env} {loc:List Res} {X:World→Prop} {x y:Operand} {t t2:TypeId}
variable {n:Nat} {ty:TypeId} {pos:String} {af:Array Edge} {g:Option (Nat×Bool)} {bb want:Bool}
theorem Av {k:IntKind} {a b:Int} [hI:TyInt P t k] (h:Sw P N av bor w0 ops rest ⟨(n,.bool false)::E,loc,X⟩ kk) (hx:ev E x=some (.int k a):=by rfl) (hy:ev E y=some (.int k b):=by rfl) (hab:¬ a<b) (hg:gdB ops E g=some (bb,want):=by rfl) (hbb:bb=want:=by exact ao) (hd:Nat.blt n N=true:=by rfl) :
  Sw P N av bor w0 ops (⟨some n,.binOp .lss t x y t2,ty,pos,af,g⟩::rest) ⟨E,loc,X⟩ kk:=bP (hx:=hx) (hy:=hy) (hg:=hg) (hbb:=hbb) (hd:=hd) (h:=by
   have e:∀ u,u=Value.bool false→Sw P N av bor w0 ops rest ⟨(n,u)::E,loc,X⟩ kk:=fun u hu=>hu▸h
   exact e _ (by simp [hab]))
theorem Au {k:IntKind} {a b:Int} [hI:TyInt P t k] (h:Sw P N av bor w0 ops rest ⟨(n,.bool true)::E,loc,X⟩ kk) (hx:ev E x=some (.int k a):=by rfl) (hy:ev E y=some (.int k b):=by rfl) (hab:a<b:=by (first|decide|omega)) (hg:gdB ops E g=some (bb,want):=by rfl) (hbb:bb=want:=by exact ao) (hd:Nat.blt n N=true:=by rfl) :
  Sw P N av bor w0 ops (⟨some n,.binOp .lss t x y t2,ty,pos,af,g⟩::rest) ⟨E,loc,X⟩ kk:=bP (hx:=hx) (hy:=hy) (hg:=hg) (hbb:=hbb) (hd:=hd) (h:=by
   have e:∀ u,u=Value.bool true→Sw P N av bor w0 ops rest ⟨(n,u)::E,loc,X⟩ kk:=fun u hu=>hu▸h
   exact e _ (by simp [hab]))
end
theorem ic:∀ (l:List Int) (r:ByteArray),(l.foldl (fun r n=>r.push (UInt8.ofNat n.toNat)) r)=r++ofInts l
 | [],r=>by simp [ofInts]
 | b::l,r=>by
  have e:ofInts (b::l)=ofInts [b]++ofInts l:=by
   conv=>lhs;rw [ofInts,QG,ic l]
   rfl
  rw [QG,ic l,e,←Zy]
  congr 1
  simp [ofInts,ByteArray.ext_iff]
theorem rN (a:Int) (l:List Int):ofInts [a]++ofInts l=ofInts (a::l):=by
 conv=>rhs;rw [ofInts,QG,ic]
 rfl
set_option maxRecDepth 4000 in
theorem refNumD:∀ (f:Nat) (n:Int),0≤n→n<128 ^ f→f≤9→Pu Tryz.prog 156 #[.int .i64 n] (fun _=>True) (.string (ofInts (numD (f+1) n)))
 | f,n,h0,h1,hf=>by
  have hb:(128:Int) ^ f≤9223372036854775808:=by
   have h4:(128:Nat) ^ f≤128 ^ 9:=Nat.pow_le_pow_right aa hf
   have h5:((128 ^ f:Nat):Int)≤((128 ^ 9:Nat):Int):=by exact_mod_cast h4
   have h6:((128 ^ 9:Nat):Int)=9223372036854775808:=by decide
   have h7:((128 ^ f:Nat):Int)=(128:Int) ^ f:=by simp
   omega
  refine ak (args:=[_]) _ Tryz.func156 rfl Tryz.ntmps156 rfl fun av bor w0=>?_
  by_cases hs:128≤n
  · have hf0:f≠0:=fun e=>by rw [e] at h1;simp at h1;omega
    obtain ⟨g,rfl⟩:∃ g,f=g+1:=⟨f-1,by omega⟩
    have ih:=refNumD g (n.tdiv 128) (by rw [Qq h0];omega) (by
     rw [Qq h0]
     rw [Int.pow_succ] at h1
     omega) aa
    rw [rO hs,←rN]
    have hlw:IntKind.u8.wrap (128+n.tmod 128)=lowD n:=rfl
    have ht1:=Int.tmod_lt_of_pos n (b:=128) aa
    have ht2:=Int.tmod_nonneg 128 h0
    have hq:IntKind.i64.wrap (n.tdiv 128)=n.tdiv 128:=IntWalk.i64_in _ (by rw [Qq h0];omega)
    have hsz:=fg [lowD n]
    have hsz2:=mV (g+1) (n.tdiv 128)
    have hsz3:=fg (numD (g+1) (n.tdiv 128))
    simp only [ZB,ZR,ZU] at hsz
    repeat' (first|refine Av (hab:=by omega) ?_|refine gs ?_|refine gs1 fun _=>?_|(refine gp ?_ ?_<;>intro hx_ this)|fail)
    (refine aV ⟨[0,1,2,3,6,7],[(4,⟨[],[(5,⟨[],[(8,⟨[9,10],[]⟩)]⟩),(8,⟨[],[(5,⟨[9,10],[]⟩)]⟩)]⟩),(8,⟨[],[(4,⟨[],[(5,⟨[9,10],[]⟩)]⟩)]⟩)]⟩ (h:=?_))
    all_goals repeat' (first|(refine ab (hc:=ih) (hX:=fun _ _=>trivial) ?_)|refine gd ?_|refine ay (hy:=by first|(apply om;rfl;rfl;decide;rfl)|(apply oo;rfl;exact hlw)|(apply lE;rfl;rfl;decide;exact hq)|(apply dz;rfl;rfl;omega)) ?_|refine aA ?_ (h':=?_)|exact aB|(refine ai (yZ (ns:=[lowD n]) rfl aw rfl (by decide)) rfl ao rfl ?_)|(refine cQ (vs:=[.int .u8 (lowD n)]) fun _=>?_)|refine gs1 fun _=>?_|(refine gq ?_ ?_<;>intro hx_ this)|fail)
    all_goals
     apply cw_ret
     exact ad (ag rfl rfl) rfl
  · rw [mU hs]
    repeat' (first|refine Av (hab:=by omega) ?_|refine Au (hab:=by omega) ?_|refine gs ?_|refine gs1 fun _=>?_|(refine ai (yZ (ns:=[IntKind.u8.wrap n]) rfl aw rfl (by decide)) rfl ao rfl ?_)|(refine gp ?_ ?_<;>intro hx_ this)|fail)
    exact ad (ag rfl rfl) rfl
theorem cB (n:Int) (hn:n<9223372036854775808):Pu Tryz.prog 156 #[.int .i64 n] (fun _=>True) (.string (numV n)):=by
 by_cases h0:0≤n
 · have h:=refNumD 9 n h0 (by rw [show (128:Int) ^ 9=9223372036854775808 from by decide];exact hn) (ZX _)
   rw [numV,Zc (by omega)]
   exact h
 · rw [numV,Zd (by omega)]
   refine ak (args:=[_]) _ Tryz.func156 rfl Tryz.ntmps156 rfl fun av bor w0=>?_
   repeat' (first|refine Au (hab:=by omega) ?_|refine gs ?_|refine gs1 fun _=>?_|(refine gp ?_ ?_<;>intro hx_ this)|fail)
   exact ad (ag rfl rfl) rfl
theorem cZ (s:ByteArray) (hs:s.size≤1099511627776):Pu Tryz.prog 153 #[.string s] (fun _=>True) (.string (textV s)):=by
 refine ak (args:=[_]) _ Tryz.func153 rfl Tryz.ntmps153 rfl fun av bor w0=>?_
 have:=ap s.size
 repeat' (first|refine ab (hc:=cB _ aa) ?_|refine gs ?_|(refine mz ?_)|(refine gp ?_ ?_<;>intro hx_ this)|fail)
 exact ad (ag rfl rfl) rfl
theorem mO (s:SlV) (l:List ByteArray) (hs:(listV l).size≤1099511627776):Pu Tryz.prog 238 #[s.v] (fun w=>Strs w s l) (.string (listV l)):=by
 refine ak (args:=[_]) _ Tryz.func238 rfl Tryz.ntmps238 rfl fun av bor w0=>?_
 refine aP (p:=s.n=l.length∧s.n≤maxLen∧(0<l.length→s.p.isSome=true)) (fun w h=>⟨h.len_,ZY (RowsD.cap h) (RowsD.max h),h.some_⟩) fun ⟨hl,hm,hp⟩=>?_
 simp only [maxLen] at hm
 have hn10:=ap s.n
 have hsz:(numV l.length).size+(cats (l.map textV)).size≤1099511627776:=by rw [←Za];exact hs
 have h0:numV l.length++cats ((l.map textV).take 0)=numV s.n:=by simp [cats,hl]
 repeat' (first|refine ab (hc:=cB _ aa) ?_|refine gs ?_|(refine gp ?_ ?_<;>intro hx_ this)|fail)
 refine aq (ι:=Kth l.length) (fun i=>⟨[(0,s.v),(3,.string (numV l.length++cats ((l.map textV).take i.k))),(4,.int .i64 (i.k:Nat))],[],fun w=>Strs w s l⟩) (fun i=>l.length-i.k) ⟨0,Z4 _⟩ (aj ⟨rfl,by rw [h0];rfl,rfl,trivial⟩ (al _) fun _ h=>h) fun i=>?_
 obtain ⟨k,hk⟩:=i
 simp only
 repeat' (first|refine gs ?_|(refine gp ?_ ?_<;>intro hx_ this)|fail)
 · have hlt:k<l.length:=by omega
   have hp':=hp aa
   have hsucc:=fG (l.map textV) (k:=k) (by rw [ZF];exact hlt)
   have hg:(l.map textV).getD k .empty=textV (l.getD k .empty):=by
    rw [Zo,Z7,Zo,Zb hlt];rfl
   have hle:=eZ (l.map textV) (k+1)
   rw [hsucc,Za,hg] at hle
   have hte:(textV (l.getD k .empty)).size=(numV (l.getD k .empty).size).size+(l.getD k .empty).size:=by rw [textV,Za]
   have hca:(numV l.length++cats ((l.map textV).take k)).size=(numV l.length).size+(cats ((l.map textV).take k)).size:=Za
   repeat' (first|refine ab (hc:=cZ _ aa) ?_|refine gs ?_|(refine aI (q:=k) ?_)|(refine dc (hF:=fun w h=>Strs.get h hlt) ?_)|(refine mz ?_)|(refine gp ?_ ?_<;>intro hx_ this)|fail)
   exact ⟨(⟨k+1,hlt⟩:Kth l.length),(by show l.length-(k+1)<l.length-k;omega),aj ⟨rfl,by rw [hsucc,hg,←Zy];rfl,rfl,trivial⟩ (al _) fun _ h=>h⟩
 · have hkE:k=l.length:=by omega
   subst hkE
   exact ad (ag rfl rfl) (by rw [listV,Qf (by rw [ZF];exact ZX _)])
def u32n (l:List Nat):List Value:=l.map fun (n:Nat)=>.int .u32 (n:Int)
def U32s (w:World) (s:SlV) (l:List Nat):Prop:=RowsD w 1 s (l.map fun (n:Nat)=>[.int .u32 (n:Int)])
def U8s (w:World) (s:SlV) (l:List Nat):Prop:=RowsD w 1 s (l.map fun (n:Nat)=>[.int .u8 (n:Int)])
theorem qO (l:List Nat):(u32n l).length=l.length:=by simp [u32n]
theorem qP {l:List Nat} {i:Nat} (h:i<l.length):(u32n l)[i]?=some (.int .u32 ((l.getD i 0:Nat):Int)):=by simp [u32n,h]
theorem js {w:World} {s:SlV} {l:List Nat} {f:Nat→Value} (h:RowsD w 1 s (l.map fun n=>[f n])) {i:Nat} (hi:i<l.length):CellAt w s.p i (f (l.getD i 0)):=by
 obtain ⟨_,_,hc⟩:=RowsD.row h i [f (l.getD i 0)] (by rw [Z7,Zb hi,Zo,Zb hi];rfl)
 have:=hc 0 _ rfl
 rwa [Nat.mul_one,ZT] at this
theorem iz {w:World} {s:SlV} {l:List Nat} {f:Nat→Value} (h:RowsD w 1 s (l.map fun n=>[f n])):s.n=l.length:=by have:=RowsD.len h;simpa using this
theorem gi {w:World} {s:SlV} {l:List Nat} {f:Nat→Value} (h:RowsD w 1 s (l.map fun n=>[f n])) (h0:0<l.length):s.p.isSome=true:=(RowsD.row h 0 [f l[0]] (by rw [Z7,Zb h0];rfl)).2.1
theorem U32s.of_row {w:World} {e n c:Nat} {A:Option Addr} {l:List Nat} (h:ORow w e 1 (.slice A n c) n (u32n l)) (hn:n=l.length):U32s w ⟨A,n,c⟩ l:=by
 have e1:(l.map fun (n:Nat)=>[(.int .u32 (n:Int):Value)]).flatten=u32n l:=by
  clear h hn
  induction l with
  | nil=>rfl
  | cons a l ih=>rw [Z1,Qb,ih];rfl
 rw [←e1] at h
 exact bz h (by rw [ZF,hn]) fun r hr=>by
  obtain ⟨n,_,rfl⟩:=QJ.1 hr
  rfl
theorem tC {n:Nat} (h:n<4294967296):IntKind.u32.wrap (n:Int)=(n:Int):=by rw [wrap32,ZD h]
section
variable {P:Program} {N:Nat} {av bor:List Nat} {w0:World} {st:St} {ty:TypeId} {x y:Operand} {t t2:TypeId} {a b:Nat}
theorem tv (hx:ev st.env x=some (.int .u32 (a:Int))) (hy:ev st.env y=some (.int .u32 (b:Int))) (hc:a*b<4294967296):Sy.Yields P N av bor w0 st (.binOp .mul t x y t2) ty (.int .u32 ((a*b:Nat):Int)) :=
 qH hx hy (by rw [←Int.natCast_mul];exact tC hc)
theorem yS (hx:ev st.env x=some (.int .i64 (a:Int))) (hy:ev st.env y=some (.int .i64 (b:Int))) (hc:a*b<9223372036854775808):Sy.Yields P N av bor w0 st (.binOp .mul t x y t2) ty (.int .i64 ((a*b:Nat):Int)) :=
 qH hx hy (by rw [←Int.natCast_mul];exact IntWalk.i64_in _ aa)
theorem Fs (hx:ev st.env x=some (.int .u32 (a:Int))) (hy:ev st.env y=some (.int .u32 (b:Int))) (hc:a+b<4294967296):Sy.Yields P N av bor w0 st (.binOp .add t x y t2) ty (.int .u32 ((a+b:Nat):Int)) :=
 lL hx hy (by rw [←Int.natCast_add];exact tC hc)
theorem lK (hx:ev st.env x=some (.int .u32 (a:Int))) (hy:ev st.env y=some (.int .u32 (b:Int))):Sy.Yields P N av bor w0 st (.binOp .add t x y t2) ty (.int .u32 (((a+b)%4294967296:Nat):Int)) :=
 lL hx hy (by rw [←Int.natCast_add,wrap32])
theorem lD (hx:ev st.env x=some (.int .u32 (a:Int))) (hy:ev st.env y=some (.int .u32 (b:Int))) (ha:a<4294967296) (hb:b<4294967296):Sy.Yields P N av bor w0 st (.binOp .xor t x y t2) ty (.int .u32 ((a ^^^ b:Nat):Int)) :=
 (IsN.xor (x:=(a:Int)) (y:=(b:Int)) ⟨rfl,ha⟩ ⟨rfl,hb⟩).1▸uW hx hy
theorem za (hx:ev st.env x=some (.int .u32 (a:Int))) (hy:ev st.env y=some (.int .u32 (b:Int))) (ha:a<4294967296) (hb:b<4294967296):Sy.Yields P N av bor w0 st (.binOp .and t x y t2) ty (.int .u32 ((a &&& b:Nat):Int)) :=
 (IsN.and (x:=(a:Int)) (y:=(b:Int)) ⟨rfl,ha⟩ ⟨rfl,hb⟩).1▸qJ hx hy
theorem tt {k':IntKind} {c:Int} {p:Nat} (hx:ev st.env x=some (.int .u32 (a:Int))) (hy:ev st.env y=some (.int k' c)) (hc:0≤c) (ha:a<4294967296) (hp:(2:Int) ^ (min c.toNat 32)=(p:Int)):Sy.Yields P N av bor w0 st (.binOp .shr t x y t2) ty (.int .u32 ((a/p:Nat):Int)) :=
 (IsN.shr (x:=(a:Int)) ⟨rfl,ha⟩ p hp).1▸qG hx hy hc
theorem Fk (hx:ev st.env x=some (.int .u32 (a:Int))) (ha:a<4294967296):Sy.Yields P N av bor w0 st (.unOp .xor t x) ty (.int .u32 ((4294967295 ^^^ a:Nat):Int)):=by
 have hm:IsN (if IntKind.u32.signed then -1 else IntKind.u32.max) 4294967295:=⟨by kernel_rfl,by decide⟩
 exact (hm.xor (y:=(a:Int)) ⟨rfl,ha⟩).1▸tj hx
end
theorem CP {w:World} {s:SlV} {l:List Nat} (h:U32s w s l):Src Tryz.prog w 1 s.v s.n (u32n l):=by
 have e1:(l.map fun (n:Nat)=>[(.int .u32 (n:Int):Value)]).flatten=u32n l:=by
  clear h
  induction l with
  | nil=>rfl
  | cons a l ih=>rw [Z1,Qb,ih];rfl
 have h1:=fJ (P:=Tryz.prog) (s:=s) h fun cs hcs=>by
  obtain ⟨n,_,rfl⟩:=QJ.1 hcs
  rfl
 rwa [e1] at h1
theorem zr (l:List Nat) {i v:Nat} (h:i<l.length):(u32n l).take (i*1)++[.int .u32 (v:Int)]++(u32n l).drop (i*1+1)=u32n (l.set i v):=by
 rw [Nat.mul_one,u32n,u32n,List.map_set,List.set_eq_take_append_cons_drop,ZO (by rw [ZF];exact h)]
 simp
theorem FE {m n:Nat} (hm:m<4294967296) (h0:0<n) (hn:n<32):bitsV .or .u32 (shrV .u32 (m:Int) (n:Int)) (shlV .u32 (m:Int) (32-(n:Int)))=((rot (2 ^ (32-n)) (2 ^ n) m:Nat):Int):=by
 have hw:32-(n:Int)=((32-n:Nat):Int):=by omega
 rw [hw]
 have h1:IsN (m:Int) m:=⟨rfl,hm⟩
 have h2:=(h1.shr (c:=(n:Int)) (2 ^ n) (by rw [ZZ,Nat.min_eq_left (by omega)];simp)).or (h1.shl (c:=((32-n:Nat):Int)) (2 ^ (32-n)) (by rw [ZZ,Nat.min_eq_left (by omega)];simp))
 rw [h2.1,rot,Nat.or_comm]
theorem fV {m n:Nat} (hm:m<4294967296) (h0:0<n) (hn:n<32):rot (2 ^ (32-n)) (2 ^ n) m<4294967296:=by
 have h1:IsN (m:Int) m:=⟨rfl,hm⟩
 have h2:=(h1.shl (c:=((32-n:Nat):Int)) (2 ^ (32-n)) (by rw [ZZ,Nat.min_eq_left (by omega)];simp)).or (h1.shr (c:=(n:Int)) (2 ^ n) (by rw [ZZ,Nat.min_eq_left (by omega)];simp))
 exact h2.2
theorem dv (m n:Nat) (hm:m<4294967296) (h0:0<n) (hn:n<32):Pu Tryz.prog 242 #[.int .u32 (m:Int),.int .i64 (n:Int)] (fun _=>True) (.int .u32 ((rot (2 ^ (32-n)) (2 ^ n) m:Nat):Int)):=by
 refine ak (args:=[_,_]) _ Tryz.func242 rfl Tryz.ntmps242 rfl fun av bor w0=>?_
 rw [←FE hm h0 hn]
 repeat' (first|refine gs ?_|(refine gp ?_ ?_<;>intro hx_ this)|fail)
 (refine aV ⟨[0,1,2,3,4,5,6,7,8],[]⟩ (h:=?_))
 all_goals repeat' (first|refine gd ?_|refine ay (hy:=by first|(apply uX;rfl;rfl;omega)|(apply qG;rfl;rfl;omega)) ?_|refine aA ?_ (h':=?_)|exact aB|(refine gq ?_ ?_<;>intro hx_ this)|fail)
 repeat' (first|refine gs ?_|(refine gp ?_ ?_<;>intro hx_ this)|fail)
 all_goals exact ad (ag rfl rfl) rfl
theorem ze {a b c d:Nat} (ha:a<256) (hb:b<256) (hc:c<256) (hd:d<256):wdN a b c d=a*16777216+b*65536+c*256+d:=by
 rw [wdN,ZD (show a*16777216<4294967296 by omega),ZD (show b*65536<4294967296 by omega),ZD (show c*256<4294967296 by omega)]
 have h1:a*16777216 ||| b*65536=a*16777216+b*65536:=by
  have:=Nat.two_pow_add_eq_or_of_lt (i:=24) (b:=b*65536) aa a
  rw [show a*16777216=2 ^ 24*a from by omega]
  exact this.symm
 have h2:(a*16777216+b*65536) ||| c*256=a*16777216+b*65536+c*256:=by
  have:=Nat.two_pow_add_eq_or_of_lt (i:=16) (b:=c*256) aa (a*256+b)
  rw [show a*16777216+b*65536=2 ^ 16*(a*256+b) from by omega]
  exact this.symm
 have h3:(a*16777216+b*65536+c*256) ||| d=a*16777216+b*65536+c*256+d:=by
  have:=Nat.two_pow_add_eq_or_of_lt (i:=8) (b:=d) aa (a*65536+b*256+c)
  rw [show a*16777216+b*65536+c*256=2 ^ 8*(a*65536+b*256+c) from by omega]
  exact this.symm
 rw [h1,h2,h3]
def row1 (l:List Nat) (k:Nat):List Nat:=(List.range k).map (fW l)
def row2 (l:List Nat) (k:Nat):List Nat:=(List.range (16+k)).map (sN (fW l) k)
theorem xJ (l:List Nat) (k:Nat):row1 l (k+1)=row1 l k++[fW l k]:=by rw [row1,row1,List.range_succ,ZW];rfl
theorem xH (l:List Nat):row2 l 0=row1 l 16:=rfl
theorem rc (l:List Nat) {k t:Nat} (h:t<16+k):(row2 l k).getD t 0=sN (fW l) k t:=by
 rw [row2,Zo,Z7,List.getElem?_range h]
 rfl
theorem xI (l:List Nat) (k:Nat):row2 l (k+1)=row2 l k++[nextW (sN (fW l) k k) (sN (fW l) k (k+1)) (sN (fW l) k (k+9)) (sN (fW l) k (k+14))]:=by
 rw [row2,row2,show 16+(k+1)=(16+k)+1 from by omega,List.range_succ,ZW,Z1,List.map_nil,tT]
 congr 1
 refine QA fun t ht=>?_
 exact pN _ (by rw [List.mem_range] at ht;omega)
theorem jt (l:List Nat) (k:Nat):(row2 l k).length=16+k:=by simp [row2]
theorem GM {l:List Nat} (h:∀ x∈l,x<256) (t:Nat):fW l t<4294967296:=by
 have g:=fun i=>fQ h i
 rw [fW,ze (g _) (g _) (g _) (g _)]
 have g0:=g (4*t)
 have g1:=g (4*t+1)
 have g2:=g (4*t+2)
 have g3:=g (4*t+3)
 omega
theorem E0 (f:Nat→Nat) (h:∀ t,f t<4294967296):∀ k t,sN f k t<4294967296
 | 0,t=>h t
 | k+1,t=>by
  rw [sN]
  split
  · exact Qc _ aa
  · exact E0 f h k t
structure RowU (n:Nat) where
 k:Nat
 hk:k≤n
 A:Option Addr
 c:Nat
set_option maxRecDepth 20000 in
theorem rC (s:SlV) (l:List Nat) (hl:l.length=64) (hb:∀ x∈l,x<256):Mk Tryz.prog 240 #[s.v] (fun w=>U8s w s l) (fun u X'=>∃ s':SlV,u=s'.v∧∀ w,X' w→U32s w s' (row2 l 48)):=by
 refine bM (args:=[_]) _ Tryz.func240 rfl Tryz.ntmps240 rfl fun av bor w0=>?_
 refine aP (p:=s.n=64∧s.p.isSome=true) (fun w h=>⟨by rw [iz (f:=fun n=>.int .u8 (n:Int)) h,hl],gi (f:=fun n=>.int .u8 (n:Int)) h aa⟩) fun ⟨hsn,hsp⟩=>?_
 have hg:∀ i,l.getD i 0<256:=fun i=>fQ hb i
 repeat' (first|refine gs ?_|refine gs1 fun _=>?_|fail)
 refine cS 167 1 ?_
 refine aq (ι:=RowU 16) (fun i=>⟨[(0,s.v),(3,.slice i.A i.k i.c),(4,.int .i64 (i.k:Nat))],[orow 167 1 (.slice i.A i.k i.c) i.k (u32n (row1 l i.k))],fun w=>U8s w s l⟩) (fun i=>16-i.k) ⟨0,by omega,none,0⟩ (aj am (.cons_cons _ (Zu _)) fun _ h=>h) fun i=>?_
 obtain ⟨k,hk,A,c⟩:=i
 simp only
 repeat' (first|refine gs ?_|refine gs1 fun _=>?_|(refine gp ?_ ?_<;>intro hx_ this)|fail)
 · have hlt:k<16:=by omega
   have g0:=hg (4*k)
   have g1:=hg (4*k+1)
   have g2:=hg (4*k+2)
   have g3:=hg (4*k+3)
   have hfw:fW l k=l.getD (4*k) 0*16777216+l.getD (4*k+1) 0*65536+l.getD (4*k+2) 0*256+l.getD (4*k+3) 0:=ze g0 g1 g2 g3
   obtain ⟨b0,e0⟩:∃ b,b=l.getD (4*k) 0:=⟨_,rfl⟩
   obtain ⟨b1,e1⟩:∃ b,b=l.getD (4*k+1) 0:=⟨_,rfl⟩
   obtain ⟨b2,e2⟩:∃ b,b=l.getD (4*k+2) 0:=⟨_,rfl⟩
   obtain ⟨b3,e3⟩:∃ b,b=l.getD (4*k+3) 0:=⟨_,rfl⟩
   rw [←e0] at g0 hfw
   rw [←e1] at g1 hfw
   rw [←e2] at g2 hfw
   rw [←e3] at g3 hfw
   have hget:∀ w,U8s w s l→∀ i,i<64→CellAt w s.p i (.int .u8 ((l.getD i 0:Nat):Int)):=fun w h i hi=>js (f:=fun n=>.int .u8 (n:Int)) h aa
   (refine ar ⟨[0,1,2,3,4,5,6,7,8,9,10,11,12,13,14,15,16,17,18,19,20,21,22,23,24,25,26,27,28,29,30,31,32,33],[(34,⟨[],[(35,⟨[36],[]⟩)]⟩)]⟩ [] (fun w=>U8s w s l) (h:=?_))
   all_goals repeat' (first|refine ay (hy:=by first|(apply Fs;rfl;rfl;omega)|(apply oo;rfl;exact tC aa)) ?_|refine gd ?_|refine ay (hy:=by first|(apply yS (a:=4) (b:=k);rfl;rfl;omega)|(apply tv (b:=16777216);rfl;rfl;omega)|(apply tv (b:=65536);rfl;rfl;omega)|(apply tv (b:=256);rfl;rfl;omega)|(apply aC (q:=4*k);rfl;rfl;omega;omega;assumption;omega)|(apply aC (q:=4*k+1);rfl;rfl;omega;omega;assumption;omega)|(apply aC (q:=4*k+2);rfl;rfl;omega;omega;assumption;omega)|(apply aC (q:=4*k+3);rfl;rfl;omega;omega;assumption;omega)|(apply er (q:=4*k) (u:=.int .u8 (b0:Int));rfl;exact fun w h=>e0▸hget w h (4*k) aa)|(apply er (q:=4*k+1) (u:=.int .u8 (b1:Int));rfl;exact fun w h=>e1▸hget w h (4*k+1) aa)|(apply er (q:=4*k+2) (u:=.int .u8 (b2:Int));rfl;exact fun w h=>e2▸hget w h (4*k+2) aa)|(apply er (q:=4*k+3) (u:=.int .u8 (b3:Int));rfl;exact fun w h=>e3▸hget w h (4*k+3) aa)) ?_|refine aA ?_ (h':=?_)|exact aB|refine cQ (vs:=[.int .u32 ((b0*16777216+b1*65536+b2*256+b3:Nat):Int)]) fun _=>?_|(refine iS ?_;refine aF (size:=1) (news:=u32n [b0*16777216+b1*65536+b2*256+b3]) (q:=1) rfl rfl rfl rfl (fun _=>At.there _ (At.here _)) (fun w G=>bT G aw rfl rfl 1) aa (by simp only [maxLen];omega) rfl ?_ rfl ?_;(first|with_reducible rfl|with_reducible assumption|with_reducible exact Zl|with_reducible exact Zn);intro A2 c2)|refine gs1 fun _=>?_|(refine gq ?_ ?_<;>intro hx_ this)|fail)
   have hrow:=xJ l k
   rw [hfw] at hrow
   repeat' (first|refine gs ?_|refine gs1 fun _=>?_|(refine gp ?_ ?_<;>intro hx_ this)|fail)
   exact ⟨(⟨k+1,hlt,A2,c2⟩:RowU 16),(by show 16-(k+1)<16-k;omega),aj am (by rw [hrow,u32n,ZW];exact .cons _ (al _)) fun _ h=>h⟩
 · obtain rfl:k=16:=by omega
   rw [←xH]
   refine aq (ι:=RowU 48) (fun i=>⟨[(3,.slice i.A (16+i.k) i.c),(5,.int .i64 ((16+i.k:Nat):Int))],[orow 167 1 (.slice i.A (16+i.k) i.c) (16+i.k) (u32n (row2 l i.k))],fun w=>True⟩) (fun i=>48-i.k) ⟨0,by omega,A,c⟩ (aj am (al _) fun _ h=>trivial) fun i=>?_
   obtain ⟨k,hk,A,c⟩:=i
   simp only
   refine cO aw (fun w h=>cC h aa) fun hAs=>?_
   repeat' (first|refine gs ?_|refine gs1 fun _=>?_|(refine gp ?_ ?_<;>intro hx_ this)|fail)
   · have hlt:k<48:=by omega
     have hm:∀ t,sN (fW l) k t<4294967296:=E0 _ (GM hb) k
     have hA:∀ t,t<16+k→(u32n (row2 l k))[t]?=some (.int .u32 ((sN (fW l) k t:Nat):Int)):=fun t h=>by rw [qP (by rw [jt];exact h),rc l h]
     have hn:16+k=(u32n (row2 l k)).length:=by rw [qO,jt]
     have hg0:=hA k aa
     have hg1:=hA (k+1) aa
     have hg9:=hA (k+9) aa
     have hg14:=hA (k+14) aa
     have hnx:nextW (sN (fW l) k k) (sN (fW l) k (k+1)) (sN (fW l) k (k+9)) (sN (fW l) k (k+14))=(((sN (fW l) k k+s0N (sN (fW l) k (k+1)))%4294967296+sN (fW l) k (k+9))%4294967296+s1N (sN (fW l) k (k+14)))%4294967296:=rfl
     have hrow:=xI l k
     rw [hnx] at hrow
     have m1:=hm (k+1)
     have m14:=hm (k+14)
     obtain ⟨x0,e0⟩:∃ x,x=sN (fW l) k k:=⟨_,rfl⟩
     obtain ⟨x1,e1⟩:∃ x,x=sN (fW l) k (k+1):=⟨_,rfl⟩
     obtain ⟨x9,e9⟩:∃ x,x=sN (fW l) k (k+9):=⟨_,rfl⟩
     obtain ⟨x14,e14⟩:∃ x,x=sN (fW l) k (k+14):=⟨_,rfl⟩
     rw [←e0] at hg0 hrow
     rw [←e1] at hg1 m1 hrow
     rw [←e9] at hg9 hrow
     rw [←e14] at hg14 m14 hrow
     clear hA hm hnx
     have t7:=dv x1 7 m1 aa aa
     have t18:=dv x1 18 m1 aa aa
     have t17:=dv x14 17 m14 aa aa
     have t19:=dv x14 19 m14 aa aa
     have l7:=fV (n:=7) m1 aa aa
     have l18:=fV (n:=18) m1 aa aa
     have l17:=fV (n:=17) m14 aa aa
     have l19:=fV (n:=19) m14 aa aa
     have hs0:s0N x1=(rot (2 ^ (32-7)) (2 ^ 7) x1 ^^^ rot (2 ^ (32-18)) (2 ^ 18) x1) ^^^ (x1/8):=rfl
     have hs1:s1N x14=(rot (2 ^ (32-17)) (2 ^ 17) x14 ^^^ rot (2 ^ (32-19)) (2 ^ 19) x14) ^^^ (x14/1024):=rfl
     rw [hs0,hs1] at hrow
     clear hs0 hs1
     generalize rot (2 ^ (32-7)) (2 ^ 7) x1=r7 at *
     generalize rot (2 ^ (32-18)) (2 ^ 18) x1=r18 at *
     generalize rot (2 ^ (32-17)) (2 ^ 17) x14=r17 at *
     generalize rot (2 ^ (32-19)) (2 ^ 19) x14=r19 at *
     have lx:=Nat.xor_lt_two_pow (n:=32) l7 l18
     have ly:=Nat.xor_lt_two_pow (n:=32) l17 l19
     have d3:x1/8<4294967296:=by omega
     have d10:x14/1024<4294967296:=by omega
     repeat' (first|refine ai (lD rfl rfl (by assumption) (by assumption)) rfl ao rfl ?_|refine ai (tt (p:=8) rfl rfl (by decide) (by assumption) (by decide)) rfl ao rfl ?_|refine ai (tt (p:=1024) rfl rfl (by decide) (by assumption) (by decide)) rfl ao rfl ?_|(refine ab (hc:=t7) (hX:=fun _ _=>trivial) ?_)|(refine ab (hc:=t18) (hX:=fun _ _=>trivial) ?_)|(refine ab (hc:=t17) (hX:=fun _ _=>trivial) ?_)|(refine ab (hc:=t19) (hX:=fun _ _=>trivial) ?_)|refine gs ?_|refine gs1 fun _=>?_|(refine aI (q:=k+1) ?_)|(refine aI (q:=k+14) ?_)|(refine ai (d8 rfl aw hn hg1) rfl ao rfl ?_)|(refine ai (d8 rfl aw hn hg14) rfl ao rfl ?_)|(refine gp ?_ ?_<;>intro hx_ this)|fail)
     obtain ⟨v,hv⟩:∃ v,v=((((x0+(r7 ^^^ r18 ^^^ x1/8))%4294967296+x9)%4294967296+(r17 ^^^ r19 ^^^ x14/1024))%4294967296):=⟨_,rfl⟩
     rw [←hv] at hrow
     (refine ar ⟨[0,1,2,3,4,6,8,9,10,11,14],[(5,⟨[7],[(12,⟨[13,15],[(16,⟨[],[(17,⟨[18],[]⟩)]⟩)]⟩)]⟩),(12,⟨[],[(5,⟨[7,13,15],[(16,⟨[],[(17,⟨[18],[]⟩)]⟩)]⟩)]⟩)]⟩ [] (fun w=>True) (h:=?_))
     all_goals repeat' (first|refine ay (hy:=by first|(apply lK;rfl;rfl)) ?_|refine gd ?_|refine ay (hy:=by first|(apply aC (q:=k);rfl;rfl;omega;omega;assumption;omega)|(apply aC (q:=k+9);rfl;rfl;omega;omega;assumption;omega)) ?_|refine aA ?_ (h':=?_)|exact aB|(refine ai (d8 rfl aw hn hg0) rfl ao rfl ?_)|(refine ai (d8 rfl aw hn hg9) rfl ao rfl ?_)|((rw [←hv];refine cQ (vs:=[.int .u32 (v:Int)]) fun _=>?_))|(refine iS ?_;refine aF (size:=1) (news:=u32n [v]) (q:=1) rfl rfl rfl rfl (fun _=>At.there _ (At.here _)) (fun w G=>bT G aw rfl rfl 1) aa (by simp only [maxLen];omega) rfl ?_ rfl ?_;(first|with_reducible rfl|with_reducible assumption|with_reducible exact Zl|with_reducible exact Zn);intro A2 c2)|refine gs1 fun _=>?_|(refine gq ?_ ?_<;>intro hx_ this)|fail)
     all_goals
      repeat' (first|refine gs ?_|refine gs1 fun _=>?_|(refine gp ?_ ?_<;>intro hx_ this)|fail)
      exact ⟨(⟨k+1,hlt,A2,c2⟩:RowU 48),(by show 48-(k+1)<48-k;omega),aj am (by rw [hrow,u32n,ZW];exact .cons _ (al _)) fun _ h=>h⟩
   · obtain rfl:k=48:=by omega
     exact ad (ag rfl rfl) ⟨⟨A,64,c⟩,rfl,fun w h=>U32s.of_row (h.2 (orow 167 1 (.slice A (16+48) c) (16+48) (u32n (row2 l 48))) aw) (by rw [jt])⟩
def S8.l (s:S8):List Nat:=[s.a,s.b,s.c,s.d,s.e,s.f,s.g,s.h]
structure S8.Lt (s:S8):Prop where
 a:s.a<4294967296
 b:s.b<4294967296
 c:s.c<4294967296
 d:s.d<4294967296
 e:s.e<4294967296
 f:s.f<4294967296
 g:s.g<4294967296
 h:s.h<4294967296
theorem rf (s:S8) (k w:Nat):roundN s k w=⟨(t1N s.h s.e s.f s.g k w+t2N s.a s.b s.c)%4294967296,s.a,s.b,s.c,(s.d+t1N s.h s.e s.f s.g k w)%4294967296,s.e,s.f,s.g⟩:=by
 obtain ⟨a,b,c,d,e,f,g,h⟩:=s
 simp only [roundN,ny]
theorem S8.Lt.round {s:S8} (h:s.Lt) (k w:Nat):(roundN s k w).Lt:=by
 rw [rf]
 exact ⟨Qc _ aa,h.a,h.b,h.c,Qc _ aa,h.e,h.f,h.g⟩
def rndN (f:Nat→Nat) (s:S8):Nat→S8
 | 0=>s
 | i+1=>roundN (rndN f s i) (kN.getD i 0) (sN f 48 i)
theorem AS (f:Nat→Nat) {s:S8} (h:s.Lt):∀ i,(rndN f s i).Lt
 | 0=>h
 | i+1=>(AS f h i).round _ _
theorem Dt (f:Nat→Nat) {i:Nat} (h:i<64):sN f 48 i=sN f i i:=by
 by_cases hi:i≤48
 · have:=jp f (k:=i) (t:=i) (48-i) aa
   rw [show i+(48-i)=48 from by omega] at this
   exact this
 · have:=jp f (k:=48) (t:=i) (i-48) aa
   rw [show 48+(i-48)=i from by omega] at this
   exact this.symm
theorem rj (f:Nat→Nat) (s:S8):∀ i,i≤64→(kN.take i).foldl stepN (s,winN f 0)=(rndN f s i,winN f i)
 | 0,_=>rfl
 | i+1,h=>by
  have hl:kN.length=64:=by kernel_rfl
  have e:kN.take (i+1)=kN.take i++[kN.getD i 0]:=by
   rw [Qg,Zo,Zb (by omega)]
   rfl
  rw [e,List.foldl_append,rj f s i aa,QG,List.foldl_nil,qU,ot,rndN,Dt f (by omega)]
  have hw:(winN f i).w0=sN f i i:=by unfold winN;rfl
  rw [hw]
theorem tU (f:Nat→Nat) (s:S8):roundsN kN s (winN f 0)=rndN f s 64:=by
 have hl:kN.length=64:=by kernel_rfl
 have h:=rj f s 64 (ZX _)
 rw [Qf (by omega)] at h
 rw [roundsN,h]
theorem GK (s:S8) (w:W16):(mixN s w).l=[(s.a+(roundsN kN s w).a)%4294967296,(s.b+(roundsN kN s w).b)%4294967296,(s.c+(roundsN kN s w).c)%4294967296,(s.d+(roundsN kN s w).d)%4294967296,(s.e+(roundsN kN s w).e)%4294967296,(s.f+(roundsN kN s w).f)%4294967296,(s.g+(roundsN kN s w).g)%4294967296,(s.h+(roundsN kN s w).h)%4294967296]:=by
 rw [mixN]
 generalize roundsN kN s w=t
 obtain ⟨a,b,c,d,e,f,g,h⟩:=s
 obtain ⟨a',b',c',d',e',f',g',h'⟩:=t
 simp only [addN,ny,S8.l]
theorem F3 (s:S8) (w:W16):(mixN s w).Lt:=by
 rw [mixN]
 generalize roundsN kN s w=t
 obtain ⟨a,b,c,d,e,f,g,h⟩:=s
 obtain ⟨a',b',c',d',e',f',g',h'⟩:=t
 simp only [addN,ny]
 exact ⟨Qc _ aa,Qc _ aa,Qc _ aa,Qc _ aa,Qc _ aa,Qc _ aa,Qc _ aa,Qc _ aa⟩
theorem Gg:iniN.Lt:=⟨by decide,by decide,by decide,by decide,by decide,by decide,by decide,by decide⟩
set_option maxRecDepth 8000 in
theorem pU:Mk Tryz.prog 160 #[] (fun _=>True) (fun u X'=>∃ s':SlV,u=s'.v∧∀ w,X' w→U32s w s' iniN.l):=by
 refine bM (args:=[]) _ Tryz.func160 rfl Tryz.ntmps160 rfl fun av bor w0=>?_
 repeat' (first|(refine cQ (vs:=u32n iniN.l) fun b=>?_;refine pH 1 8 rfl (by decide) ?_)|refine gs ?_|refine gs1 fun _=>?_|(refine gp ?_ ?_<;>intro hx_ this)|fail)
 exact ad (ag rfl rfl) ⟨⟨some ⟨b,0,none⟩,8,8⟩,rfl,fun w h=>U32s.of_row (h.2 _ aw) rfl⟩
set_option maxRecDepth 20000 in
theorem uf:Mk Tryz.prog 241 #[] (fun _=>True) (fun u X'=>∃ s':SlV,u=s'.v∧∀ w,X' w→U32s w s' kN):=by
 refine bM (args:=[]) _ Tryz.func241 rfl Tryz.ntmps241 rfl fun av bor w0=>?_
 repeat' (first|(refine cQ (vs:=u32n kN) fun b=>?_;refine pH 1 64 rfl (by decide) ?_)|refine gs ?_|refine gs1 fun _=>?_|(refine gp ?_ ?_<;>intro hx_ this)|fail)
 exact ad (ag rfl rfl) ⟨⟨some ⟨b,0,none⟩,64,64⟩,rfl,fun w h=>U32s.of_row (h.2 _ aw) ae⟩
end Go.Proofs.YtaolfiikahlmkaaGreatDoor
namespace Go.Proofs.YtaolfiikahlmkaaGreatDoor
open Go Go.Proofs Sy
section
variable {P:Program} {N:Nat} {av bor:List Nat} {w0:World} {st:St} {ty:TypeId} {x y:Operand} {t t2:TypeId} {k:IntKind}
end
end Go.Proofs.YtaolfiikahlmkaaGreatDoor
namespace Go.Proofs.YtaolfiikahlmkaaGreatDoor
open Go Go.Proofs Sy
section
variable {P:Program} {N:Nat} {av bor:List Nat} {w0:World} {ops:Array Oper} {rest:List Oper} {kk:St→Prop} {E:Env} {loc:List Res} {X:World→Prop} {x y:Operand} {t t2:TypeId}
variable {n:Nat} {ty:TypeId} {pos:String} {af:Array Edge} {g:Option (Nat×Bool)} {bb want:Bool}
end
structure PostTo (P Q:List PostD):Prop where
 to:Q.map (fun p=>(p.to,p.toL,p.pos))=P.map fun p=>(p.to,p.toL,p.pos)
end Go.Proofs.YtaolfiikahlmkaaGreatDoor
namespace Go.Proofs.YtaolfiikahlmkaaGreatDoor
open Go Go.Proofs Sy
end Go.Proofs.YtaolfiikahlmkaaGreatDoor
namespace Go.Proofs.YtaolfiikahlmkaaGreatDoor
open Go Go.Proofs Sy
section
variable {P:Program} {N:Nat} {av bor:List Nat} {w0:World} {E:Env} {loc:List Res} {X:World→Prop} {K:Exit→St→Prop} {c:Code}
end
theorem PostTo.trans {P Q R:List PostD} (h:PostTo P Q) (k:PostTo Q R):PostTo P R:=⟨k.to.trans h.to⟩
theorem PostTo.pos {P Q:List PostD} (h:PostTo P Q) (j:Nat):posP Q j=posP P j:=by
 have e:∀ L:List PostD,posP L j=(L.map fun p=>(p.to,p.toL,p.pos)).findIdx? fun t=>t.2.2==j:=fun L=>by rw [posP,List.findIdx?_map];rfl
 rw [e,e,h.to]
structure OfI (c:ChainD) (P:List PostD) where
 k:Nat
 hk:k≤c.actsL.length
 Q:List PostD
 hQ:Q.map PostD.can=ofP c k
 hT:PostTo P Q
end Go.Proofs.YtaolfiikahlmkaaGreatDoor
namespace Go.Proofs.YtaolfiikahlmkaaGreatDoor
open Go Go.Proofs Sy
def isPost (id:ByteArray) (p:PostD):Bool:=seqB p.id id
structure FinI (l:List ChainD) (id:ByteArray) where
 k:Nat
 hk:k≤l.length
 no:∀ i x,i<k→l[i]?=some x→∀ q∈postsV x,isPost id q=false
structure FinJ (P:List PostD) (id:ByteArray) where
 j:Nat
 hj:j≤P.length
 no:∀ i q,i<j→P[i]?=some q→isPost id q=false
def gOk (a:ActD) (sc:Int) (g:ByteArray) (nx:Nat):Bool:=decide (a.kind=16)&&decide (a.scope=sc)&&seqB a.group g&&decide (a.epoch=(nx:Int))
def grantF (l:List ActD) (sc:Int) (g:ByteArray):Nat→Nat×Nat
 | 0=>(0,0)
 | i+1=>bif gOk (l.getD i ActD.zero) sc g (grantF l sc g i).2 then (i,(grantF l sc g i).2+1) else grantF l sc g i
def grantV (l:List ActD) (n sc:Int) (g:ByteArray):Nat×Nat:=grantF l sc g (limN n l.length)
def epochO (l:List ActD) (n sc:Int) (g:ByteArray):Option ActD:=bif decide ((0:Int)<((grantV l n sc g).2:Nat)) then l[(grantV l n sc g).1]? else none
theorem sT {e n:Nat} {v:Value} {ss:List ByteArray}:Ct Tryz.prog 49 #[v] [orow e 1 v n (ss.map encB)] (fun _=>True) fun u R _=>∃ A c,u=.slice A (compB ss).length c∧R=[orow e 1 u (compB ss).length ((compB ss).map encB)]:=by
 have h:=compS_c.ct (e:=e) (n:=n) (v:=v) (ss:=ss.map bl)
 rw [r4 ss]
 refine h.mono fun u R X' ⟨A,c,h1,h2⟩=>⟨A,c,?_,?_⟩
 · rw [h1];simp [compB]
 · rw [h2,gJ,compB];simp
def circF (l:List ActD) (g:ByteArray):Nat→Option ActD
 | 0=>none
 | i+1=>bif decide ((l.getD i ActD.zero).kind=15)&&seqB (l.getD i ActD.zero).group g then some (l.getD i ActD.zero) else circF l g i
def listOf (c:ChainD) (n sc:Int) (g:ByteArray) (toL:List ByteArray):List ByteArray :=
 bif decide (sc=1) then sortB (tieV c.actsL n).a else bif decide (sc=2) then ((circF c.actsL g (limN n c.actsL.length)).map (·.toL)).getD [] else bif decide (sc=3) then toL else []
def keepM (c:ChainD) (bs:List ByteArray) (x:ByteArray):Bool:=!seqB x c.id&&!hasS bs x
def membersV (c:ChainD) (n sc:Int) (g:ByteArray) (toL:List ByteArray):List ByteArray:=compB (sortB ((listOf c n sc g toL).filter (keepM c (sortB (tieV c.actsL n).b))))
structure FilS (m:Nat) where
 k:Nat
 hk:k≤m
 A:Option Addr
 c:Nat
end Go.Proofs.YtaolfiikahlmkaaGreatDoor
namespace Go.Proofs.YtaolfiikahlmkaaGreatDoor
open Go Go.Proofs Sy Go.Shelf Go.Maps Go.Sort
end Go.Proofs.YtaolfiikahlmkaaGreatDoor
namespace Go.Proofs.YtaolfiikahlmkaaGreatDoor
open Go Go.Proofs Sy
def OwnStrs (l:List ByteArray) (u:Value) (R:List Res):Prop:=∃ A c,u=.slice A l.length c∧R=[orow 9 1 u l.length (l.map encB)]
theorem xZ {f:FuncId} {args:Array Value} {X:World→Prop} {l:List ByteArray} (h:Ct Tryz.prog f args [] X (fun u R _=>OwnStrs l u R)):Mk Tryz.prog f args X (StrsAt l):=by
 unfold Mk
 exact Ct.mk fun w av G=>(Ct.run h w av G).mono fun e w' ⟨u,R,X',he,hu,G'⟩=>⟨u,[],_,he,⟨by
  obtain ⟨A,c,rfl,rfl⟩:=hu
  exact ⟨⟨A,_,c⟩,rfl,fun w h=>gC (h.2 _ aw) rfl⟩,rfl⟩,G'.giveAll⟩
def wellA (c:ChainD) (i:Int) (a:ActD):Bool:=(postK a.kind||decide (a.kind=14))&&(decide (a.scope=1)||decide (a.scope=2)||decide (a.scope=3))&&(match epochO c.actsL i a.scope a.group with
 | some e=>decide (e.epoch=a.epoch)&&eqL e.toL (membersV c i a.scope a.group a.toL)
 | none=>false)
def wellV (c:ChainD) (i:Int):Bool:=decide (0≤i)&&(match c.actsL[i.toNat]? with
 | some a=>wellA c i a
 | none=>false)
structure Agree (n:Nat) (l l':List ActD):Prop where
 at_:∀ k,k<n→l[k]?=l'[k]?
 left:n≤l.length
 right:n≤l'.length
theorem Agree.getD {n:Nat} {l l':List ActD} (h:Agree n l l') {k:Nat} (hk:k<n):l.getD k ActD.zero=l'.getD k ActD.zero:=by
 rw [Zo,Zo,h.at_ k hk]
theorem Agree.symm {n:Nat} {l l':List ActD} (h:Agree n l l'):Agree n l' l:=⟨fun k hk=>(h.at_ k hk).symm,h.right,h.left⟩
structure ReadF (c:ChainD) (i:Int) (a:ActD) (l:List ByteArray):Prop where
 asc:Asc l
 own:c.id∈l
 mem:∀ x∈l,x≠c.id→x∈membersV c i a.scope a.group a.toL
 len:l.length=1+(bif wellV c i then (membersV c i a.scope a.group a.toL).length else 0)
structure ChOk (c:ChainD):Prop where
 acts:ActsOk c.actsL
 len:c.actsL.length≤1000000
 to:∀ x∈c.actsL,x.to.n≤1000000
structure HisI (m:Nat) where
 k:Nat
 hk:k≤m
 A:Option Addr
 c:Nat
end Go.Proofs.YtaolfiikahlmkaaGreatDoor
namespace Go.Proofs.YtaolfiikahlmkaaGreatDoor
open Go Go.Proofs Sy
section
variable {P:Program} {N:Nat} {av bor:List Nat} {w0:World} {E:Env} {loc:List Res} {X:World→Prop}
end
end Go.Proofs.YtaolfiikahlmkaaGreatDoor
namespace Go.Proofs.YtaolfiikahlmkaaGreatDoor
open Go Go.Proofs Sy
def accL (vs hs:List Nat):Nat→List Nat
 | 0=>vs
 | i+1=>(accL vs hs i).set i (((accL vs hs i).getD i 0+hs.getD i 0)%4294967296)
theorem ti (vs hs:List Nat):∀ i,(accL vs hs i).length=vs.length
 | 0=>rfl
 | i+1=>by rw [accL,Z9,ti vs hs i]
structure RowA (n:Nat) where
 k:Nat
 hk:k≤n
 A:Option Addr
 c:Nat
set_option maxRecDepth 20000 in
theorem tY (sh sb:SlV) (h:S8) (hh:h.Lt) (l:List Nat) (hl:l.length=64) (hb:∀ x∈l,x<256):Mk Tryz.prog 161 #[sh.v,sb.v] (fun w=>U32s w sh h.l∧U8s w sb l) (fun u X'=>∃ s':SlV,u=s'.v∧∀ w,X' w→U32s w s' (mixN h (winN (fW l) 0)).l):=by
 refine bM (args:=[_,_]) _ Tryz.func161 rfl Tryz.ntmps161 rfl fun av bor w0=>?_
 have hwo:=rC sb l hl hb
 refine aP (p:=sh.n=8∧sh.p.isSome=true) (fun w h1=>⟨by rw [iz (f:=fun n=>.int .u32 (n:Int)) h1.1];rfl,gi (f:=fun n=>.int .u32 (n:Int)) h1.1 (by rw [show h.l.length=8 from rfl];omega)⟩) fun ⟨hsn,hsp⟩=>?_
 have hkl:kN.length=64:=by kernel_rfl
 have hwl:(row2 l 48).length=64:=jt l 48
 repeat' (first|refine jl fun _=>?_|(refine bZ (hc:=hwo) (hX:=fun w h=>h.2) fun v1 X1 h1=>?_;obtain ⟨sw,rfl,hW⟩:=h1)|(refine bZ (hc:=uf) (hX:=fun _ _=>trivial) fun v2 X2 h2=>?_;obtain ⟨sk,rfl,hK⟩:=h2)|(refine aF (size:=1) (news:=u32n h.l) (q:=sh.n) rfl rfl rfl rfl (fun _=>At.here _) (fun w G=>CP G.keep.now.1.1.1) aa (by simp only [maxLen];omega) rfl ?_ rfl ?_;(first|with_reducible rfl|with_reducible assumption|with_reducible exact Zl|with_reducible exact Zn);intro A0 c0)|refine gs ?_|refine gs1 fun _=>?_|(refine gp ?_ ?_<;>intro hx_ this)|fail)
 rw [hsn]
 refine aP (p:=(sw.n=64∧sw.p.isSome=true)∧(sk.n=64∧sk.p.isSome=true)) (fun w h1=>⟨⟨by rw [iz (f:=fun n=>.int .u32 (n:Int)) (hW w h1.1.2),hwl],gi (f:=fun n=>.int .u32 (n:Int)) (hW w h1.1.2) aa⟩,⟨by rw [iz (f:=fun n=>.int .u32 (n:Int)) (hK w h1.2),hkl],gi (f:=fun n=>.int .u32 (n:Int)) (hK w h1.2) aa⟩⟩) fun ⟨⟨hwn,hwp⟩,⟨hkn,hkp⟩⟩=>?_
 refine aq (ι:=RowA 64) (fun i=>⟨[(0,sh.v),(5,sw.v),(6,sk.v),(7,.slice i.A 8 i.c),(8,.int .i64 (i.k:Nat))],[orow 167 1 (.slice i.A 8 i.c) 8 (u32n (rndN (fW l) h i.k).l)],fun w=>(U32s w sh h.l∧U32s w sw (row2 l 48))∧U32s w sk kN⟩) (fun i=>64-i.k) ⟨0,by omega,A0,c0⟩ (aj am (al _) fun w h1=>⟨⟨h1.1.1.1,hW w h1.1.2⟩,hK w h1.2⟩) fun i=>?_
 obtain ⟨k,hk,A,c⟩:=i
 simp only
 refine cO aw (fun w h=>cC h aa) fun hAs=>?_
 repeat' (first|refine gs ?_|refine gs1 fun _=>?_|(refine gp ?_ ?_<;>intro hx_ this)|fail)
 · have hlt:k<64:=by omega
   have hLt:=AS (fW l) hh k
   obtain ⟨kk,hkk⟩:∃ x,x=kN.getD k 0:=⟨_,rfl⟩
   obtain ⟨ww,hww⟩:∃ x,x=sN (fW l) 48 k:=⟨_,rfl⟩
   have hgk:∀ w,(U32s w sh h.l∧U32s w sw (row2 l 48))∧U32s w sk kN→CellAt w sk.p k (.int .u32 (kk:Int)):=fun w h1=>hkk▸js (f:=fun n=>.int .u32 (n:Int)) h1.2 aa
   have hgw:∀ w,(U32s w sh h.l∧U32s w sw (row2 l 48))∧U32s w sk kN→CellAt w sw.p k (.int .u32 (ww:Int)):=fun w h1=>by
    have h2:=js (f:=fun n=>.int .u32 (n:Int)) h1.1.2 (i:=k) aa
    rw [rc l aa,←hww] at h2
    exact h2
   have hnext:rndN (fW l) h (k+1)=roundN (rndN (fW l) h k) kk ww:=by rw [rndN,hkk,hww]
   rw [rf] at hnext
   generalize rndN (fW l) h k=S at *
   obtain ⟨a,b,d,e,f,g,p,q⟩:=S
   obtain ⟨ha,hbb,hd,he,hf,hg,hp,hq⟩:=hLt
   simp only at ha hbb hd he hf hg hp hq hnext
   simp only [S8.l]
   have hn:8=(u32n [a,b,d,e,f,g,p,q]).length:=rfl
   have hg0:(u32n [a,b,d,e,f,g,p,q])[0]?=some (.int .u32 (a:Int)):=rfl
   have hg1:(u32n [a,b,d,e,f,g,p,q])[1]?=some (.int .u32 (b:Int)):=rfl
   have hg2:(u32n [a,b,d,e,f,g,p,q])[2]?=some (.int .u32 (d:Int)):=rfl
   have hg3:(u32n [a,b,d,e,f,g,p,q])[3]?=some (.int .u32 (e:Int)):=rfl
   have hg4:(u32n [a,b,d,e,f,g,p,q])[4]?=some (.int .u32 (f:Int)):=rfl
   have hg5:(u32n [a,b,d,e,f,g,p,q])[5]?=some (.int .u32 (g:Int)):=rfl
   have hg6:(u32n [a,b,d,e,f,g,p,q])[6]?=some (.int .u32 (p:Int)):=rfl
   have hg7:(u32n [a,b,d,e,f,g,p,q])[7]?=some (.int .u32 (q:Int)):=rfl
   have t6:=dv f 6 hf aa aa
   have t11:=dv f 11 hf aa aa
   have t25:=dv f 25 hf aa aa
   have t2:=dv a 2 ha aa aa
   have t13:=dv a 13 ha aa aa
   have t22:=dv a 22 ha aa aa
   have l6:=fV (n:=6) hf aa aa
   have l11:=fV (n:=11) hf aa aa
   have l25:=fV (n:=25) hf aa aa
   have l2:=fV (n:=2) ha aa aa
   have l13:=fV (n:=13) ha aa aa
   have l22:=fV (n:=22) ha aa aa
   have e1:t1N q f g p kk ww=((((q+((rot (2 ^ (32-6)) (2 ^ 6) f ^^^ rot (2 ^ (32-11)) (2 ^ 11) f) ^^^ rot (2 ^ (32-25)) (2 ^ 25) f))%4294967296+((f &&& g) ^^^ ((4294967295 ^^^ f) &&& p)))%4294967296+kk)%4294967296+ww)%4294967296:=rfl
   have e2:t2N a b d=(((rot (2 ^ (32-2)) (2 ^ 2) a ^^^ rot (2 ^ (32-13)) (2 ^ 13) a) ^^^ rot (2 ^ (32-22)) (2 ^ 22) a)+(((a &&& b) ^^^ (a &&& d)) ^^^ (b &&& d)))%4294967296:=rfl
   rw [e1,e2] at hnext
   clear e1 e2
   generalize rot (2 ^ (32-6)) (2 ^ 6) f=r6 at *
   generalize rot (2 ^ (32-11)) (2 ^ 11) f=r11 at *
   generalize rot (2 ^ (32-25)) (2 ^ 25) f=r25 at *
   generalize rot (2 ^ (32-2)) (2 ^ 2) a=r2 at *
   generalize rot (2 ^ (32-13)) (2 ^ 13) a=r13 at *
   generalize rot (2 ^ (32-22)) (2 ^ 22) a=r22 at *
   have x1:=Nat.xor_lt_two_pow (n:=32) l6 l11
   have x3:=Nat.xor_lt_two_pow (n:=32) l2 l13
   have x5:f &&& g<4294967296:=Nat.lt_of_le_of_lt Nat.and_le_left hf
   have x6:4294967295 ^^^ f<4294967296:=Nat.xor_lt_two_pow (n:=32) (by decide) hf
   have x7:(4294967295 ^^^ f) &&& p<4294967296:=Nat.lt_of_le_of_lt Nat.and_le_left x6
   have x8:a &&& b<4294967296:=Nat.lt_of_le_of_lt Nat.and_le_left ha
   have x9:a &&& d<4294967296:=Nat.lt_of_le_of_lt Nat.and_le_left ha
   have x10:b &&& d<4294967296:=Nat.lt_of_le_of_lt Nat.and_le_left hbb
   have x11:(a &&& b) ^^^ (a &&& d)<4294967296:=Nat.xor_lt_two_pow (n:=32) x8 x9
   (refine ar ⟨[0,1,2,4,5,6,9,10,11],[(3,⟨[],[(7,⟨[8],[(12,⟨[13,14],[]⟩)]⟩)]⟩)]⟩ [orow 167 1 (.slice A 8 c) 8 (u32n [a,b,d,e,f,g,p,q])] (fun w=>(U32s w sh h.l∧U32s w sw (row2 l 48))∧U32s w sk kN) (h:=?_))
   all_goals repeat' (first|refine ay (hy:=by first|(apply lD;rfl;rfl;assumption;assumption)) ?_|(refine ab (hc:=t6) (hX:=fun _ _=>trivial) ?_)|(refine ab (hc:=t11) (hX:=fun _ _=>trivial) ?_)|(refine ab (hc:=t25) (hX:=fun _ _=>trivial) ?_)|refine gd ?_|refine ay (hy:=by first|(apply aC (q:=4);rfl;rfl;omega;omega;assumption;omega)|(apply d8;rfl;exact aw;exact hn;exact hg4)) ?_|refine aA ?_ (h':=?_)|exact aB|refine gs1 fun _=>?_|(refine gq ?_ ?_<;>intro hx_ this)|fail)
   apply QS
   (refine ar ⟨[0,1,2,3,4,5,6,7,8,9,10,11,12,13,14,15,16,17,18,19,20,21,22,23,24,25,26,27,28,29,30,31,32],[]⟩ [orow 167 1 (.slice A 8 c) 8 (u32n [a,b,d,e,f,g,p,q])] (fun w=>(U32s w sh h.l∧U32s w sw (row2 l 48))∧U32s w sk kN) (h:=?_))
   all_goals repeat' (first|refine ay (hy:=by first|(apply lK;rfl;rfl)|(apply lD;rfl;rfl;assumption;assumption)|(apply za;rfl;rfl;assumption;assumption)|(apply Fk;rfl;assumption)) ?_|refine gd ?_|refine ay (hy:=by first|(apply aC (q:=4);rfl;rfl;omega;omega;assumption;omega)|(apply aC (q:=5);rfl;rfl;omega;omega;assumption;omega)|(apply aC (q:=6);rfl;rfl;omega;omega;assumption;omega)|(apply aC (q:=7);rfl;rfl;omega;omega;assumption;omega)|(apply aC (q:=k);rfl;rfl;omega;omega;assumption;omega)|(apply d8;rfl;exact aw;exact hn;exact hg4)|(apply d8;rfl;exact aw;exact hn;exact hg5)|(apply d8;rfl;exact aw;exact hn;exact hg6)|(apply d8;rfl;exact aw;exact hn;exact hg7)|(apply er (q:=k) (u:=.int .u32 (kk:Int));rfl;exact hgk)|(apply er (q:=k) (u:=.int .u32 (ww:Int));rfl;exact hgw)) ?_|refine aA ?_ (h':=?_)|exact aB|refine gs1 fun _=>?_|(refine gq ?_ ?_<;>intro hx_ this)|fail)
   apply QS
   (refine ar ⟨[0,1,2,4,5,6,9,10,11],[(3,⟨[],[(7,⟨[8],[(12,⟨[13,14],[]⟩)]⟩)]⟩)]⟩ [orow 167 1 (.slice A 8 c) 8 (u32n [a,b,d,e,f,g,p,q])] (fun w=>(U32s w sh h.l∧U32s w sw (row2 l 48))∧U32s w sk kN) (h:=?_))
   all_goals repeat' (first|refine ay (hy:=by first|(apply lD;rfl;rfl;assumption;assumption)) ?_|(refine ab (hc:=t2) (hX:=fun _ _=>trivial) ?_)|(refine ab (hc:=t13) (hX:=fun _ _=>trivial) ?_)|(refine ab (hc:=t22) (hX:=fun _ _=>trivial) ?_)|refine gd ?_|refine ay (hy:=by first|(apply aC (q:=0);rfl;rfl;omega;omega;assumption;omega)|(apply d8;rfl;exact aw;exact hn;exact hg0)) ?_|refine aA ?_ (h':=?_)|exact aB|refine gs1 fun _=>?_|(refine gq ?_ ?_<;>intro hx_ this)|fail)
   apply QS
   (refine ar ⟨[0,1,2,3,4,5,6,7,8,9,10,11,12,13,14,15,16,17,18,19,20,21,22,23,24,25],[]⟩ [orow 167 1 (.slice A 8 c) 8 (u32n [a,b,d,e,f,g,p,q])] (fun w=>(U32s w sh h.l∧U32s w sw (row2 l 48))∧U32s w sk kN) (h:=?_))
   all_goals repeat' (first|refine ay (hy:=by first|(apply lK;rfl;rfl)|(apply lD;rfl;rfl;assumption;assumption)|(apply za;rfl;rfl;assumption;assumption)) ?_|refine gd ?_|refine ay (hy:=by first|(apply aC (q:=0);rfl;rfl;omega;omega;assumption;omega)|(apply aC (q:=1);rfl;rfl;omega;omega;assumption;omega)|(apply aC (q:=2);rfl;rfl;omega;omega;assumption;omega)|(apply d8;rfl;exact aw;exact hn;exact hg0)|(apply d8;rfl;exact aw;exact hn;exact hg1)|(apply d8;rfl;exact aw;exact hn;exact hg2)) ?_|refine aA ?_ (h':=?_)|exact aB|refine gs1 fun _=>?_|(refine gq ?_ ?_<;>intro hx_ this)|fail)
   obtain ⟨one,h1⟩:∃ x,x=((((q+((r6 ^^^ r11) ^^^ r25))%4294967296+((f &&& g) ^^^ ((4294967295 ^^^ f) &&& p)))%4294967296+kk)%4294967296+ww)%4294967296:=⟨_,rfl⟩
   obtain ⟨two,h2⟩:∃ x,x=(((r2 ^^^ r13) ^^^ r22)+(((a &&& b) ^^^ (a &&& d)) ^^^ (b &&& d)))%4294967296:=⟨_,rfl⟩
   rw [←h1,←h2] at hnext
   rw [←h1,←h2]
   (refine ar ⟨[0,1,2,3,4,5,6,7,8,9,10,11,12,13,14,15,16,17,18,19,20,21,22,23,24,25],[(26,⟨[27],[]⟩)]⟩ [orow 167 1 (.slice A 8 c) 8 (u32n [a,b,d,e,f,g,p,q])] (fun w=>(U32s w sh h.l∧U32s w sw (row2 l 48))∧U32s w sk kN) (h:=?_))
   all_goals repeat' (first|refine ay (hy:=by first|(apply lK;rfl;rfl)) ?_|refine gd ?_|refine ay (hy:=by first|(apply aC (q:=0);rfl;rfl;omega;omega;assumption;omega)|(apply aC (q:=1);rfl;rfl;omega;omega;assumption;omega)|(apply aC (q:=2);rfl;rfl;omega;omega;assumption;omega)|(apply aC (q:=3);rfl;rfl;omega;omega;assumption;omega)|(apply aC (q:=4);rfl;rfl;omega;omega;assumption;omega)|(apply aC (q:=5);rfl;rfl;omega;omega;assumption;omega)|(apply aC (q:=6);rfl;rfl;omega;omega;assumption;omega)|(apply d8;rfl;exact aw;exact hn;exact hg0)|(apply d8;rfl;exact aw;exact hn;exact hg1)|(apply d8;rfl;exact aw;exact hn;exact hg2)|(apply d8;rfl;exact aw;exact hn;exact hg3)|(apply d8;rfl;exact aw;exact hn;exact hg4)|(apply d8;rfl;exact aw;exact hn;exact hg5)|(apply d8;rfl;exact aw;exact hn;exact hg6)) ?_|refine aA ?_ (h':=?_)|exact aB|((refine cQ (vs:=u32n [(one+two)%4294967296,a,b,d,(e+one)%4294967296,f,g,p]) fun bb=>?_;refine pH 1 8 rfl (by decide) ?_))|refine gs1 fun _=>?_|(refine gq ?_ ?_<;>intro hx_ this)|fail)
   repeat' (first|refine gs ?_|refine gs1 fun _=>?_|(refine gp ?_ ?_<;>intro hx_ this)|fail)
   exact ⟨(⟨k+1,hlt,some ⟨bb,0,none⟩,8⟩:RowA 64),(by show 64-(k+1)<64-k;omega),aj am (by rw [hnext];exact .cons_cons _ (Zu _)) fun _ h=>h⟩
 · obtain rfl:k=64:=by omega
   have hmix:=GK h (winN (fW l) 0)
   rw [tU] at hmix
   generalize rndN (fW l) h 64=S at *
   refine aq (ι:=RowA 8) (fun i=>⟨[(0,sh.v),(7,.slice A 8 c),(13,.int .i64 (i.k:Nat))],[orow 167 1 (.slice A 8 c) 8 (u32n (accL S.l h.l i.k))],fun w=>U32s w sh h.l⟩) (fun i=>8-i.k) ⟨0,by omega,A,c⟩ (aj am (al _) fun _ h=>h.1.1) fun i=>?_
   obtain ⟨k,hk,_,_⟩:=i
   simp only
   have hlen:(accL S.l h.l k).length=8:=ti _ _ k
   repeat' (first|refine gs ?_|refine gs1 fun _=>?_|(refine gp ?_ ?_<;>intro hx_ this)|fail)
   · have hlt:k<8:=by omega
     have hn:8=(u32n (accL S.l h.l k)).length:=by rw [qO,hlen]
     obtain ⟨v,hv⟩:∃ v,v=(accL S.l h.l k).getD k 0:=⟨_,rfl⟩
     obtain ⟨u,hu⟩:∃ u,u=h.l.getD k 0:=⟨_,rfl⟩
     have hg:(u32n (accL S.l h.l k))[k]?=some (.int .u32 (v:Int)):=by rw [qP aa,hv]
     have hget:∀ w,U32s w sh h.l→CellAt w sh.p k (.int .u32 (u:Int)):=fun w h1=>hu▸js (f:=fun n=>.int .u32 (n:Int)) h1 (by rw [show h.l.length=8 from rfl];exact hlt)
     have hacc:accL S.l h.l (k+1)=(accL S.l h.l k).set k ((v+u)%4294967296):=by rw [accL,hv,hu]
     have hset:=zr (accL S.l h.l k) (i:=k) (v:=(v+u)%4294967296) aa
     rw [←hacc] at hset
     (refine ar ⟨[0,1,2,3,4,6,7,8,9],[(5,⟨[10,11],[(12,⟨[],[]⟩)]⟩)]⟩ [] (fun w=>U32s w sh h.l) (h:=?_))
     all_goals repeat' (first|refine ay (hy:=by first|(apply lK;rfl;rfl)) ?_|refine gd ?_|refine ay (hy:=by first|(apply aC (q:=k);rfl;rfl;omega;omega;assumption;omega)|(apply er (q:=k) (u:=.int .u32 (u:Int));rfl;exact hget)) ?_|refine aA ?_ (h':=?_)|exact aB|(refine ai (d8 rfl aw hn hg) rfl ao rfl ?_)|((refine pG (A:=A) (m:=8) (c:=c) (e:=167) (size:=1) (i:=k) (xs:=u32n (accL S.l h.l k)) (xs':=u32n (accL S.l h.l (k+1))) (vs:=[.int .u32 (((v+u)%4294967296:Nat):Int)]) (v:=.int .u32 (((v+u)%4294967296:Nat):Int)) ae (by rw [Nat.mul_one];rfl) rfl rfl rfl rfl hlt hset (At.here _) rfl ao rfl ?_))|refine gs1 fun _=>?_|(refine gq ?_ ?_<;>intro hx_ this)|fail)
     repeat' (first|refine gs ?_|refine gs1 fun _=>?_|(refine gp ?_ ?_<;>intro hx_ this)|fail)
     exact ⟨(⟨k+1,hlt,A,c⟩:RowA 8),(by show 8-(k+1)<8-k;omega),aj am (al _) fun _ h=>h⟩
   · obtain rfl:k=8:=by omega
     have he:accL S.l h.l 8=(mixN h (winN (fW l) 0)).l:=by
      rw [hmix]
      obtain ⟨a,b,d,e,f,g,p,q⟩:=S
      obtain ⟨a',b',d',e',f',g',p',q'⟩:=h
      simp only [accL,S8.l,List.set_cons_zero,List.set_cons_succ,List.getD_cons_zero,List.getD_cons_succ,List.cons.injEq,and_true,ZS]
     rw [he]
     exact ad (ag rfl rfl) ⟨⟨A,8,c⟩,rfl,fun w h1=>U32s.of_row (h1.2 (orow 167 1 (.slice A 8 c) 8 (u32n (mixN h (winN (fW l) 0)).l)) aw) rfl⟩
end Go.Proofs.YtaolfiikahlmkaaGreatDoor
