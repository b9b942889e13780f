/- Joined. -/
import Derived.Test.YtaolfiikahlmkaaGreatDoorZ11
set_option linter.unusedVariables false
set_option linter.unusedSimpArgs false
set_option maxHeartbeats 16000000
namespace Go.Proofs.YtaolfiikahlmkaaGreatDoor
open Go Go.Proofs Sy
theorem qZq9 {E E':Env} (h:sub E E':=by ((repeat (first|exact trivial|refine ⟨rfl,?_⟩));first|done|fail)):sub E E':=h
end Go.Proofs.YtaolfiikahlmkaaGreatDoor
namespace Go.Proofs.YtaolfiikahlmkaaGreatDoor
open Go Go.Proofs Sy
theorem pw (b:BoxD) (hb:b.Fit):Pu Tryz.prog 280 #[b.v] (fun _=>True) (.string (boxV b)):=by
 refine ak (args:=[_]) _ Tryz.func280 rfl Tryz.ntmps280 rfl fun av bor w0=>?_
 have h1:=aB b.nonce
 have h2:=aB b.data
 have h3:=aB b.tag
 have k1:=hb.nonce
 have k2:=hb.data
 have k3:=hb.tag
 repeat' (first|refine gs ?_|refine gs1 fun _=>?_|(refine gp ?_ ?_<;>intro hx_ this)|fail)
 (refine bo ⟨[0,1,3,4,7,8],[(2,⟨[],[(5,⟨[6],[(9,⟨[10,11],[]⟩)]⟩)]⟩)]⟩ (h:=?_))
 all_goals repeat' (first|refine ab (hc:=cX _ aa) ?_|refine gd ?_|refine ay (hy:=by first|(apply dt;rfl;rfl;(try simp only [Za]);omega)) ?_|refine az ?_ (h':=?_)|exact aA|refine gs1 fun _=>?_|(refine gq ?_ ?_<;>intro hx_ this)|fail)
 repeat' (first|refine gs ?_|refine gs1 fun _=>?_|(refine gp ?_ ?_<;>intro hx_ this)|fail)
 all_goals exact ad (ag rfl rfl) rfl
theorem zE {w:World} {p:Option Addr} {q:Nat} {x:WrapD} (h:∀ j u,x.cells[j]?=some u→CellAt w p (q+j) u):∀ j u,x.box.cells[j]?=some u→CellAt w p (q+2+j) u:=fun j u hj=>by
 have h1:=h (j+2) u hj
 rw [show q+2+j=q+(j+2) from by omega]
 exact h1
set_option maxRecDepth 8000 in
theorem uE (a:ActD) (hs:a.Str) (ha:rightB a=true→a.Fit):Pu Tryz.prog 239 #[a.v] (ActD.at_ · a) (.string (actCore a)):=by
 have hri:=lu a hs
 rw [actCore]
 cases hrB:rightB a with
 | false =>
  rw [hrB] at hri
  refine ak (args:=[_]) _ Tryz.func239 rfl Tryz.ntmps239 rfl fun av bor w0=>?_
  repeat' (first|(refine ab (hc:=hri) (hX:=fun w h=>h) ?_)|refine gs ?_|refine gs1 fun _=>?_|(refine gp ?_ ?_<;>intro hx_ this)|fail)
  exact ad (ag rfl rfl) rfl
 | true =>
 rw [hrB] at hri
 replace ha:=ha hrB
 refine ak (args:=[_]) _ Tryz.func239 rfl Tryz.ntmps239 rfl fun av bor w0=>?_
 refine aM (p:=a.wraps.n=a.wrapsL.length∧a.wraps.n≤maxLen∧(0<a.wrapsL.length→a.wraps.p.isSome=true)) (fun w h=>⟨h.2.len_,ZY (RowsD.cap h.2) (RowsD.max h.2),h.2.some_⟩) fun ⟨hl,hm,hp⟩=>?_
 simp only [maxLen] at hm
 obtain ⟨i1,i2,i3,i4,i5,i6,i7,i8,i9⟩:=ha.ints
 have s1:=aB a.author
 have s2:=aB a.prev
 have s3:=aB a.object
 have s4:=aB a.target
 have s5:=aB a.group
 have s6:=aB a.text
 have s7:=aB ⟨#[97,99,116]⟩
 have s8:=gF ha.body
 have h1:=ha.author
 have h2:=ha.prev
 have h3:=ha.object
 have h4:=ha.target
 have h5:=ha.group
 have h6:=ha.text
 have h7:=ha.to
 have h8:(⟨#[97,99,116]⟩:ByteArray).size=3:=rfl
 have n1:=ap a.seq
 have n2:=ap a.kind
 have n3:=ap a.time
 have n4:=ap a.scope
 have n5:=ap a.epoch
 have n6:=ap a.wraps.n
 have n7:=ap a.n
 have n8:=ap a.m
 repeat' (first|(refine ab (hc:=hri) (hX:=fun w h=>h) ?_)|refine gs ?_|refine gs1 fun _=>?_|(refine gp ?_ ?_<;>intro hx_ this)|fail)
 (refine bo ⟨[1,2,5,6,9,10,13,14,17,18],[(0,⟨[],[(3,⟨[4],[(7,⟨[8],[(11,⟨[12],[(15,⟨[16],[(19,⟨[20,21],[]⟩)]⟩)]⟩)]⟩)]⟩)]⟩)]⟩ (h:=?_))
 all_goals repeat' (first|refine ab (hc:=cw _ aa) ?_|refine ab (hc:=cX _ aa) ?_|refine gd ?_|refine ay (hy:=by first|(apply dt;rfl;rfl;(try simp only [Za]);omega)) ?_|refine az ?_ (h':=?_)|exact aA|refine gs1 fun _=>?_|(refine gq ?_ ?_<;>intro hx_ this)|fail)
 repeat' (first|refine gs ?_|refine gs1 fun _=>?_|(refine gp ?_ ?_<;>intro hx_ this)|fail)
 (refine bo ⟨[0,1,2,5,6,9,10,13,14,17,18,21,22],[(3,⟨[4],[(7,⟨[8],[(11,⟨[12],[(15,⟨[16],[(19,⟨[20],[(23,⟨[24,25],[]⟩)]⟩)]⟩)]⟩)]⟩)]⟩)]⟩ (h:=?_))
 all_goals repeat' (first|refine ab (hc:=cw _ aa) ?_|refine ab (hc:=cX _ aa) ?_|refine ab (hc:=nB a.to a.toL aa) ?_|refine gd ?_|refine ay (hy:=by first|(apply dt;rfl;rfl;(try simp only [Za]);omega)) ?_|refine az ?_ (h':=?_)|exact aA|refine gs1 fun _=>?_|(refine gq ?_ ?_<;>intro hx_ this)|fail)
 repeat' (first|refine gs ?_|refine gs1 fun _=>?_|(refine gp ?_ ?_<;>intro hx_ this)|fail)
 (refine bo ⟨[0,1,2,5,6,9,10,11],[(3,⟨[4],[(7,⟨[8],[(12,⟨[13,14],[]⟩)]⟩)]⟩)]⟩ (h:=?_))
 all_goals repeat' (first|refine ab (hc:=cw _ aa) ?_|refine ab (hc:=pw a.body ha.body) ?_|refine gd ?_|refine ay (hy:=by first|(apply cC;rfl;(repeat (first|exact ax|apply Zv));exact ActD.cells_body _;rfl)|(apply dt;rfl;rfl;(try simp only [Za]);omega)) ?_|refine az ?_ (h':=?_)|exact aA|refine gs1 fun _=>?_|(refine gq ?_ ?_<;>intro hx_ this)|fail)
 repeat' (first|refine gs ?_|refine gs1 fun _=>?_|(refine gp ?_ ?_<;>intro hx_ this)|fail)
 rename_i b
 have hc4:(core4 a).size≤100000000000:=by
  have:(numV a.wrapsL.length).size≤10:=ap _
  simp only [core4,core3,core2,core1,Za]
  omega
 have hle:=eX (a.wrapsL.map wrapV)
 have hw:=ha.wrapsV
 have e0:core5 a 0=core4 a:=by simp [core5,cats]
 refine ar (ι:=Kth a.wrapsL.length) (fun i=>⟨[(1,.pointer (some ⟨b,0,none⟩)),(4,.string (core5 a i.k)),(5,.int .i64 (i.k:Nat))],[cel b 46 a.cells],(ActD.at_ · a)⟩) (fun i=>a.wrapsL.length-i.k) ⟨0,Z4 _⟩ (aj ⟨rfl,?_,rfl,trivial⟩ (al _) fun _ h=>h) fun i=>?_
 · simp only [e0,core4,core3,core2,core1,←hl,Zy];rfl
 have hik:=i.hk
 have hk5:(core5 a i.k).size≤200000000000:=by have:=hle i.k;simp only [core5,Za];omega
 repeat' (first|refine gs ?_|refine gs1 fun _=>?_|(refine gp ?_ ?_<;>intro hx_ this)|fail)
 · have hlt:i.k<a.wrapsL.length:=by omega
   have hp':=hp aa
   obtain ⟨x,hx⟩:∃ x,a.wrapsL[i.k]?=some x:=⟨_,Zb hlt⟩
   have hxm:x∈a.wrapsL:=Z6 hx
   have hf:=ha.wraps x hxm
   have hfs:=gF hf
   obtain ⟨w1,w2⟩:=ha.wints x hxm
   have m1:=ap x.to
   have m2:=ap x.eph
   (refine aq ⟨[0,1,2,3,4,5,6,9,10,11,12,13,14,17,18,19,20,21,22],[(7,⟨[8],[(15,⟨[16],[(23,⟨[24,25],[]⟩)]⟩)]⟩)]⟩ [cel b 46 a.cells] (ActD.at_ · a) (h:=?_))
   all_goals repeat' (first|refine ab (hc:=cw _ aa) ?_|refine ab (hc:=pw x.box hf) ?_|refine gdz ?_|refine ay (hsub:=by exact aK) (hy:=by first|(apply aC (q:=i.k*5);rfl;rfl;omega;omega;assumption;omega)|(apply jg;rfl;assumption;rfl)|(apply dR (q:=i.k*5) (u:=.int .i64 x.to);rfl;exact fun w h=>(Wraps.get h.2 hx).2.2 0 _ rfl)|(apply dR (q:=i.k*5+1) (u:=.int .i64 x.eph);rfl;exact fun w h=>(Wraps.get h.2 hx).2.2 1 _ rfl)|(apply fZ (q:=i.k*5+2) (cs:=x.box.cells);rfl;exact fun w h=>⟨rfl,(Wraps.get h.2 hx).2.1,zE (Wraps.get h.2 hx).2.2⟩)|(apply dt;rfl;rfl;(try simp only [Za]);omega)) ?_|refine az ?_ (h':=?_)|exact aA|refine gs1 fun _=>?_|(refine gq ?_ ?_<;>intro hx_ this)|fail)
   repeat' (first|refine gs ?_|refine gs1 fun _=>?_|(refine gp ?_ ?_<;>intro hx_ this)|fail)
   have hsucc:=fJ (a.wrapsL.map wrapV) (k:=i.k) (by simpa using hlt)
   have hget:(a.wrapsL.map wrapV).getD i.k .empty=wrapV x:=by simp [hx]
   rw [hget] at hsucc
   have e2:core5 a (i.k+1)=core5 a i.k++numV x.to++numV x.eph++boxV x.box:=by simp only [core5,hsucc,Zy,wrapV]
   all_goals exact ⟨(⟨i.k+1,hlt⟩:Kth a.wrapsL.length),(by show a.wrapsL.length-(i.k+1)<a.wrapsL.length-i.k;omega),aj ⟨rfl,by rw [e2];rfl,rfl,trivial⟩ (al _) fun _ h=>h⟩
 have hke:i.k=a.wrapsL.length:=by omega
 (refine bo ⟨[0,1,2,5,6],[(3,⟨[4],[(7,⟨[8,9],[]⟩)]⟩)]⟩ (h:=?_))
 all_goals repeat' (first|refine ab (hc:=cw _ aa) ?_|refine gd ?_|refine ay (hy:=by first|(apply dt;rfl;rfl;(try simp only [Za]);omega)) ?_|refine az ?_ (h':=?_)|exact aA|refine gs1 fun _=>?_|(refine gq ?_ ?_<;>intro hx_ this)|fail)
 repeat' (first|refine gs ?_|refine gs1 fun _=>?_|(refine gp ?_ ?_<;>intro hx_ this)|fail)
 refine ad (ag rfl rfl) ?_
 simp only [Zf,coreV,←hke]
theorem nE (a:ActD) (hs:a.Str) (ha:rightB a=true→a.Fit) (hi:a.e<9223372036854775808∧a.s<9223372036854775808):Pu Tryz.prog 157 #[a.v] (ActD.at_ · a) (.string (actBytes a)):=by
 refine ak (args:=[_]) _ Tryz.func157 rfl Tryz.ntmps157 rfl fun av bor w0=>?_
 obtain ⟨i8,i9⟩:=hi
 have n7:=ap a.e
 have n8:=ap a.s
 have hc:(actCore a).size≤300000000000:=by
  unfold actCore
  cases hrB:rightB a with
  | true=>exact fN (ha hrB)
  | false=>simp [ByteArray.size]
 have hcp:=uE a hs ha
 repeat' (first|(refine ab (hc:=hcp) (hX:=fun w h=>h) ?_)|refine gs ?_|refine gs1 fun _=>?_|(refine gp ?_ ?_<;>intro hx_ this)|fail)
 · (all_goals (apply ad;apply ag;rfl;rfl));all_goals first|rfl|(simp only [actBytes, *,Zt,Zr,Zf,Ze,Zh,Zg,Zk,Zj,Zn,Zl,Zs,Zm,Zq,Zi];done)|(simp_all [actBytes];done)
 (refine bo ⟨[0,1,2,3,6,7,8],[(4,⟨[5],[(9,⟨[10,11],[]⟩)]⟩)]⟩ (h:=?_))
 all_goals repeat' (first|refine ab (hc:=cw _ aa) ?_|refine gd ?_|refine ay (hy:=by first|(apply dt;rfl;rfl;(try simp only [Za]);omega)) ?_|refine az ?_ (h':=?_)|exact aA|refine gs1 fun _=>?_|(refine gq ?_ ?_<;>intro hx_ this)|fail)
 repeat' (first|refine gs ?_|refine gs1 fun _=>?_|(refine gp ?_ ?_<;>intro hx_ this)|fail)
 all_goals ((all_goals (apply ad;apply ag;rfl;rfl));all_goals first|rfl|(simp only [actBytes, *,Zt,Zr,Zf,Ze,Zh,Zg,Zk,Zj,Zn,Zl,Zs,Zm,Zq,Zi];done)|(simp_all [actBytes];done))
theorem ur:Tryz.prog.underlying 44=some (.struct (Tryz.prog.fieldsOf 44)):=by kernel_rfl
theorem xV:Tryz.prog.stoodInHeld 44=false:=by kernel_rfl
theorem xW:Tryz.prog.eqGuardType Tryz.prog.depth 44=false:=by kernel_rfl
theorem ya (w:World) (a b c d:Int):(Op.equalIn 10000 44 (.agg #[.int .i64 a,.int .i64 b]) (.agg #[.int .i64 c,.int .i64 d])).run Tryz.prog w=.ok (decide (a=c)&&decide (b=d)) w:=by
 have e:(10000:Nat)=9999+1:=rfl
 have e2:(9999:Nat)=9998+1:=rfl
 rw [e,run_equalIn_agg _ _ _ _ _ ur xV]
 have hf:(Tryz.prog.fieldsOf 44).toList.map (fun f=>(f.name,f.type,f.offset))=[("E",3,0),("S",3,1)]:=by kernel_rfl
 generalize (Tryz.prog.fieldsOf 44).toList=l at hf
 rcases l with _|⟨f1,_|⟨f2,_|⟨f3,l⟩⟩⟩
 case cons.cons.nil =>
  simp only [Z1,List.map_nil,List.cons.injEq,Prod.mk.injEq,and_true] at hf
  obtain ⟨⟨n1,t1,o1⟩,n2,t2,o2⟩:=hf
  have hag:=fun w=>(cv (TyOne.out (P:=Tryz.prog) (t:=3)) w).1
  have hst:=fun (x y:Int) (w:World)=>run_equalIn_int (P:=Tryz.prog) w 9998 3 .i64 .i64 x y TyInt.out
  cases h1:decide (a=c)<;>cases h2:decide (b=d) <;>
  · simp only [Zw,Qd] at h1 h2
    simp [Op.eqFields,n1,n2,t1,t2,o1,o2,part,hag,e2,hst,h1,h2]
 all_goals (have:=congrArg List.length hf;simp at this)
theorem CW {N:Nat} {av bor:List Nat} {w0:World} {E:Env} {loc:List Res} {X:World→Prop} {ty t2:TypeId} {x y:Operand} {a b c d:Int} (hx:ev E x=some (.agg #[.int .i64 a,.int .i64 b])) (hy:ev E y=some (.agg #[.int .i64 c,.int .i64 d])) :
  Sy.Yields Tryz.prog N av bor w0 ⟨E,loc,X⟩ (.binOp .eql 44 x y t2) ty (.bool (decide (a=c)&&decide (b=d))):=Sy.Yields.mk fun A w ok dd pos af g=>by
 have h1:=run_eql_struct (P:=Tryz.prog) w 44 #[.int .i64 a,.int .i64 b] #[.int .i64 c,.int .i64 d]
 have h2:=ya w a b c d
 rw [h2] at h1
 simp [execOp,ok.eval (st:=⟨E,loc,X⟩) hx,ok.eval (st:=⟨E,loc,X⟩) hy,run_eqGuard_agg _ _ _ _ _ _ _ xW,h1]
section
variable {N:Nat} {av bor:List Nat} {w0:World} {ops:Array Oper} {rest:List Oper} {kk:St→Prop} {E:Env} {loc:List Res} {X:World→Prop} {n:Nat} {ty t2:TypeId} {pos:String} {af:Array Edge} {g:Option (Nat×Bool)} {bb want:Bool} {x y:Operand} {a b c d:Int}
theorem AN (h:Sw Tryz.prog N av bor w0 ops rest ⟨(n,.bool (decide (a=c)&&decide (b=d)))::E,loc,X⟩ kk) (hx:ev E x=some (.agg #[.int .i64 a,.int .i64 b]):=by rfl) (hy:ev E y=some (.agg #[.int .i64 c,.int .i64 d]):=by rfl) (hg:gdB ops E g=some (bb,want):=by rfl) (hbb:bb=want:=by exact am) (hd:Nat.blt n N=true:=by rfl) :
  Sw Tryz.prog N av bor w0 ops (⟨some n,.binOp .eql 44 x y t2,ty,pos,af,g⟩::rest) ⟨E,loc,X⟩ kk:=ai (CW hx hy) hg hbb hd h
end
def sameZ (a:ActD):Bool:=decide ((a.to.n:Int)=0)&&(decide ((a.wraps.n:Int)=0)&&(seqB a.author ActD.zero.author&&(decide (a.seq=ActD.zero.seq)&&(seqB a.prev ActD.zero.prev&&(decide (a.kind=ActD.zero.kind)&&(decide (a.time=ActD.zero.time)&&(seqB a.object ActD.zero.object&&(seqB a.target ActD.zero.target&&(decide (a.scope=ActD.zero.scope)&&(seqB a.group ActD.zero.group&&(seqB a.text ActD.zero.text&&(boxEq a.body BoxD.zero&&(decide (a.epoch=ActD.zero.epoch)&&(decide (a.n=ActD.zero.n)&&(decide (a.m=ActD.zero.m)&&(decide (a.e=0)&&decide (a.s=0)))))))))))))))))
set_option maxRecDepth 20000 in
theorem uz (a:ActD):Pu Tryz.prog 144 #[a.v,ActD.zero.v] (fun _=>True) (.bool (sameZ a)):=by
 refine ak (args:=[_,_]) _ Tryz.func144 rfl Tryz.ntmps144 rfl fun av bor w0=>?_
 repeat' (first|apply bq|apply QQ|apply QR|refine aX ?_|refine aD ?_|refine bC ?_|refine bU ?_|refine aE ?_|refine aH ?_|refine aI ?_|refine bF ?_|refine bN ?_|refine bA ?_|refine bj ?_|refine bw ?_|refine be ?_|refine bE ?_|refine co (h:=?_)|refine aT ?_|refine aU ?_|refine aS ?_|refine bH fun _=>?_|refine QU ?_|refine QV ?_|apply QT|apply QS|apply cw_ret|apply cw_exit|refine sy_beql (h:=?_)|refine br ?_|refine bc ?_|refine aZ ?_|((fail_if_success (refine bI ?_));refine aW (ht:=?_) (hf:=?_);all_goals (intro hx_;first|have:=aG hx_|have:=aQ hx_|skip))|(refine cw_cond (ht:=?_) (hf:=?_);all_goals (intro hx_;first|have:=aG hx_|have:=aQ hx_|skip)))
 · refine ad (ag rfl rfl) ?_
   have h0:ActD.zero.to.n=0:=rfl
   rw [h0] at hx_
   simp_all [sameZ]
 · refine ad (ag rfl rfl) ?_
   have h0:ActD.zero.wraps.n=0:=rfl
   rw [h0] at hx_
   simp_all [sameZ]
 rename_i b1 b2 g1
 have n1:a.to.n=0:=by
  have h0:ActD.zero.to.n=0:=rfl
  rw [h0] at g1
  simpa using g1
 have n2:a.wraps.n=0:=by
  have h0:ActD.zero.wraps.n=0:=rfl
  rw [h0] at hx_
  simpa using hx_
 refine ar (ι:=Unit) (fun _=>⟨[(2,.pointer (some ⟨b1,0,none⟩)),(3,.pointer (some ⟨b2,0,none⟩)),(5,.int .i64 0)],[cel b2 46 ActD.zero.cells,cel b1 46 a.cells],fun _=>True⟩) (fun _=>0) () (aj qZq9 (al _) fun _ h=>h) fun _=>?_
 repeat' (first|apply bq|apply QQ|apply QR|refine aX ?_|refine aD ?_|refine bC ?_|refine bU ?_|refine aE ?_|refine aH ?_|refine aI ?_|refine bF ?_|refine bN ?_|refine bA ?_|refine bj ?_|refine bw ?_|refine be ?_|refine bE ?_|refine co (h:=?_)|refine aT ?_|refine aU ?_|refine aS ?_|refine bH fun _=>?_|refine QU ?_|refine QV ?_|apply QT|apply QS|apply cw_ret|apply cw_exit|refine sy_beql (h:=?_)|refine br ?_|refine bc ?_|refine aZ ?_|((fail_if_success (refine bI ?_));refine aW (ht:=?_) (hf:=?_);all_goals (intro hx_;first|have:=aG hx_|have:=aQ hx_|skip))|(refine cw_cond (ht:=?_) (hf:=?_);all_goals (intro hx_;first|have:=aG hx_|have:=aQ hx_|skip)))
 · exact absurd this (by rw [n1];decide)
 refine ar (ι:=Unit) (fun _=>⟨[(2,.pointer (some ⟨b1,0,none⟩)),(3,.pointer (some ⟨b2,0,none⟩)),(6,.int .i64 0)],[cel b2 46 ActD.zero.cells,cel b1 46 a.cells],fun _=>True⟩) (fun _=>0) () (aj qZq9 (al _) fun _ h=>h) fun _=>?_
 repeat' (first|apply bq|apply QQ|apply QR|refine aX ?_|refine aD ?_|refine bC ?_|refine bU ?_|refine aE ?_|refine aH ?_|refine aI ?_|refine bF ?_|refine bN ?_|refine bA ?_|refine bj ?_|refine bw ?_|refine be ?_|refine bE ?_|refine co (h:=?_)|refine aT ?_|refine aU ?_|refine aS ?_|refine bH fun _=>?_|refine QU ?_|refine QV ?_|apply QT|apply QS|apply cw_ret|apply cw_exit|refine sy_beql (h:=?_)|refine br ?_|refine bc ?_|refine aZ ?_|(refine jB (a:=a.body) (b:=BoxD.zero) ?_)|(refine AN (a:=a.e) (b:=a.s) (c:=0) (d:=0) ?_)|(refine aw ?_)|(refine aw (vs:=[.int .i64 a.e,.int .i64 a.s]) (hv:=rfl) ?_)|(refine aw (vs:=[.int .i64 0,.int .i64 0]) (hv:=rfl) ?_)|((fail_if_success (refine bI ?_));refine aW (ht:=?_) (hf:=?_);all_goals (intro hx_;first|have:=aG hx_|have:=aQ hx_|skip))|(refine cw_cond (ht:=?_) (hf:=?_);all_goals (intro hx_;first|have:=aG hx_|have:=aQ hx_|skip)))
 · exact absurd this (by rw [n2];decide)
 all_goals (
  refine ad (ag rfl rfl) ?_
  have q1:decide ((a.to.n:Int)=0)=true:=by rw [n1];rfl
  have q2:decide ((a.wraps.n:Int)=0)=true:=by rw [n2];rfl
  rw [sameZ,q1,q2]
  clear q1 q2 n1 n2
  first
   | rfl
   | (simp_all only [Zg,Zj,Zk,Zt,Zr,Zh];done)
   | (simp_all;done)
   | skip)
theorem CellAt.same {w:World} {p:Option Addr} {q:Nat} {u v:Value} (h1:CellAt w p q u) (h2:CellAt w p q v):u=v:=by
 obtain ⟨a,ha⟩:=QN.1 h1.1
 have:=(h1.2 a ha).symm.trans (h2.2 a ha)
 exact Option.some.inj this
theorem Strs.same {w:World} {s:SlV} {l m:List ByteArray} (h1:Strs w s l) (h2:Strs w s m):l=m:=by
 have hl:l.length=m.length:=h1.len_.symm.trans h2.len_
 apply List.ext_getElem hl
 intro i i1 i2
 have a1:=h1.at_ (Zb i1)
 have a2:=h2.at_ (Zb i2)
 exact Value.string.inj (CellAt.same a1 a2)
section
variable {H:Type} {enc:TypeId×Value→H} {P:Program} {w:World} {base:Nat} {spare:Nat→Bool} {held:Bool}
theorem SlV.v_inj {s t:SlV} (h:s.v=t.v):s=t:=by
 obtain ⟨p,n,c⟩:=s
 obtain ⟨p',n',c'⟩:=t
 simp only [SlV.v,Value.slice.injEq] at h
 obtain ⟨rfl,rfl,rfl⟩:=h
 rfl
theorem CS {fuel:Nat} {a:ActD} {x:DataW H×List MemPlace} (h:DataW.trod enc Tryz.prog w base spare held fuel 46 a.cells=some x) (ha:a.at_ w):a.Str:=by
 obtain ⟨n0,y0,h0⟩:=bm (i:=0) (off:=0) (k:=1) (t':=9) Tryz.underlying46 h rfl rfl rfl ae
 obtain ⟨n6,y6,h6⟩:=bm (i:=6) (off:=6) (k:=1) (t':=9) Tryz.underlying46 h rfl rfl rfl ae
 obtain ⟨n8,y8,h8⟩:=bm (i:=8) (off:=8) (k:=1) (t':=9) Tryz.underlying46 h rfl rfl rfl ae
 obtain ⟨n9,y9,h9⟩:=bm (i:=9) (off:=9) (k:=1) (t':=39) Tryz.underlying46 h rfl rfl rfl ae
 obtain ⟨n10,y10,h10⟩:=bm (i:=10) (off:=10) (k:=1) (t':=9) Tryz.underlying46 h rfl rfl rfl ae
 obtain ⟨s0,e0,b0⟩:=cb h0
 obtain ⟨s6,e6,b6⟩:=cb h6
 obtain ⟨s8,e8,b8⟩:=cb h8
 obtain ⟨s9,l9,e9,r9,b9⟩:=gc h9
 obtain ⟨s10,e10,b10⟩:=cb h10
 simp [ActD.cells] at e0 e6 e8 e9 e10
 have e9':=SlV.v_inj e9
 subst e0;subst e6;subst e8;subst e10
 rw [←e9'] at r9
 have e:=Strs.same ha.1 r9
 exact ⟨b0,b6,b8,b10,by rw [e];exact b9⟩
theorem yw {fuel:Nat} {cs:List Value} {x:DataW H×List MemPlace} (h:DataW.trod enc Tryz.prog w base spare held fuel 46 cs=some x):∃ a:ActD,cs=a.cells∧a.at_ w∧a.Rng∧a.target.size≤maxLen∧a.Str:=by
 obtain ⟨a,e,h1,h2,h3⟩:=sM h
 subst e
 exact ⟨a,rfl,h1,h2,h3,CS h h1⟩
end
end Go.Proofs.YtaolfiikahlmkaaGreatDoor
namespace Go.Proofs.YtaolfiikahlmkaaGreatDoor
open Go Go.Proofs Sy Go.RowKit Go.Deep Go.ChangeShapes
structure ClaimD.Str (c:ClaimD):Prop where
 actor:c.actor.size≤maxLen
 prev:c.prev.size≤maxLen
 rng:c.base<9223372036854775808∧c.gen<9223372036854775808∧c.home<9223372036854775808∧c.pub<9223372036854775808∧c.time<9223372036854775808∧c.e<9223372036854775808∧c.s<9223372036854775808
structure BallotD.Str (b:BallotD):Prop where
 actor:b.actor.size≤maxLen
 claim:b.claim.size≤maxLen
 rng:b.server<9223372036854775808∧b.gen<9223372036854775808∧b.time<9223372036854775808∧b.e<9223372036854775808∧b.s<9223372036854775808
structure DecD.Str (d:DecD):Prop where
 actor:d.actor.size≤maxLen
 object:d.object.size≤maxLen
 text:d.text.size≤maxLen
 to:∀ x∈d.toL,x.size≤maxLen
 rng:d.server<9223372036854775808∧d.number<9223372036854775808∧d.kind<9223372036854775808∧d.n<9223372036854775808∧d.from_<9223372036854775808∧d.until_<9223372036854775808∧d.e<9223372036854775808∧d.s<9223372036854775808
structure ItemD.Str (i:ItemD):Prop where
 act:i.act.Str
 rng:i.act.Rng
 claim:i.claim.Str
 ballot:i.ballot.Str
 dec:i.dec.Str
section
variable {H:Type} {enc:TypeId×Value→H} {P:Program} {w:World} {base:Nat} {spare:Nat→Bool} {held:Bool}
theorem uO {fuel:Nat} {cs:List Value} {x:DataW H×List MemPlace} (h:DataW.trod enc Tryz.prog w base spare held fuel 22 cs=some x):∃ (s:SlV) (l:List Int),cs=[s.v]∧Ints w s l∧∀ n∈l,n<9223372036854775808:=by
 obtain ⟨s,l,h1,h2,h3⟩:=fE (α:=Int) Tryz.underlying22 (size:=1) ae (fun n=>[.int .i64 n]) (fun n=>n<9223372036854775808) (fun n cs y hy=>by obtain ⟨s,h1,h2⟩:=bD hy;exact ⟨s,h1,h2⟩) h
 exact ⟨s,l,h1,h2,h3⟩
theorem uP {fuel:Nat} {cs:List Value} {x:DataW H×List MemPlace} (h:DataW.trod enc Tryz.prog w base spare held fuel 54 cs=some x):∃ a:ClaimD,cs=a.cells∧a.Str:=by
 have hl:=gi Tryz.underlying54 (k:=9) ae h
 obtain ⟨n0,y0,h0⟩:=bm (i:=0) (off:=0) (k:=1) (t':=9) Tryz.underlying54 h rfl rfl rfl ae
 obtain ⟨n1,y1,h1⟩:=bm (i:=1) (off:=1) (k:=1) (t':=3) Tryz.underlying54 h rfl rfl rfl ae
 obtain ⟨n2,y2,h2⟩:=bm (i:=2) (off:=2) (k:=1) (t':=9) Tryz.underlying54 h rfl rfl rfl ae
 obtain ⟨n3,y3,h3⟩:=bm (i:=3) (off:=3) (k:=1) (t':=3) Tryz.underlying54 h rfl rfl rfl ae
 obtain ⟨n4,y4,h4⟩:=bm (i:=4) (off:=4) (k:=1) (t':=3) Tryz.underlying54 h rfl rfl rfl ae
 obtain ⟨n5,y5,h5⟩:=bm (i:=5) (off:=5) (k:=1) (t':=3) Tryz.underlying54 h rfl rfl rfl ae
 obtain ⟨n6,y6,h6⟩:=bm (i:=6) (off:=6) (k:=1) (t':=3) Tryz.underlying54 h rfl rfl rfl ae
 obtain ⟨n7,y7,h7⟩:=bm (i:=7) (off:=7) (k:=2) (t':=44) Tryz.underlying54 h rfl rfl rfl ae
 match cs,hl with
 | [c0,c1,c2,c3,c4,c5,c6,c7,c8],_ =>
  obtain ⟨s0,e0,b0⟩:=cb h0
  obtain ⟨s1,e1,b1⟩:=bD h1
  obtain ⟨s2,e2,b2⟩:=cb h2
  obtain ⟨s3,e3,b3⟩:=bD h3
  obtain ⟨s4,e4,b4⟩:=bD h4
  obtain ⟨s5,e5,b5⟩:=bD h5
  obtain ⟨s6,e6,b6⟩:=bD h6
  obtain ⟨s7,t7,e7,b7,bb7⟩:=jW h7
  simp at e0 e1 e2 e3 e4 e5 e6 e7
  exact ⟨⟨s0,s1,s2,s3,s4,s5,s6,s7,t7⟩,by simp [ClaimD.cells,e0,e1,e2,e3,e4,e5,e6,e7],⟨b0,b2,b1,b3,b4,b5,b6,b7,bb7⟩⟩
theorem sL {fuel:Nat} {cs:List Value} {x:DataW H×List MemPlace} (h:DataW.trod enc Tryz.prog w base spare held fuel 56 cs=some x):∃ a:BallotD,cs=a.cells∧a.Str:=by
 have hl:=gi Tryz.underlying56 (k:=7) ae h
 obtain ⟨n0,y0,h0⟩:=bm (i:=0) (off:=0) (k:=1) (t':=3) Tryz.underlying56 h rfl rfl rfl ae
 obtain ⟨n1,y1,h1⟩:=bm (i:=1) (off:=1) (k:=1) (t':=9) Tryz.underlying56 h rfl rfl rfl ae
 obtain ⟨n2,y2,h2⟩:=bm (i:=2) (off:=2) (k:=1) (t':=3) Tryz.underlying56 h rfl rfl rfl ae
 obtain ⟨n3,y3,h3⟩:=bm (i:=3) (off:=3) (k:=1) (t':=9) Tryz.underlying56 h rfl rfl rfl ae
 obtain ⟨n4,y4,h4⟩:=bm (i:=4) (off:=4) (k:=1) (t':=3) Tryz.underlying56 h rfl rfl rfl ae
 obtain ⟨n5,y5,h5⟩:=bm (i:=5) (off:=5) (k:=2) (t':=44) Tryz.underlying56 h rfl rfl rfl ae
 match cs,hl with
 | [c0,c1,c2,c3,c4,c5,c6],_ =>
  obtain ⟨s0,e0,b0⟩:=bD h0
  obtain ⟨s1,e1,b1⟩:=cb h1
  obtain ⟨s2,e2,b2⟩:=bD h2
  obtain ⟨s3,e3,b3⟩:=cb h3
  obtain ⟨s4,e4,b4⟩:=bD h4
  obtain ⟨s5,t5,e5,b5,bb5⟩:=jW h5
  simp at e0 e1 e2 e3 e4 e5
  exact ⟨⟨s0,s1,s2,s3,s4,s5,t5⟩,by simp [BallotD.cells,e0,e1,e2,e3,e4,e5],⟨b1,b3,b0,b2,b4,b5,bb5⟩⟩
theorem Bw {fuel:Nat} {cs:List Value} {x:DataW H×List MemPlace} (h:DataW.trod enc Tryz.prog w base spare held fuel 58 cs=some x):∃ a:DecD,cs=a.cells∧DecD.at_ w a∧a.Str:=by
 have hl:=gi Tryz.underlying58 (k:=12) ae h
 obtain ⟨n0,y0,h0⟩:=bm (i:=0) (off:=0) (k:=1) (t':=3) Tryz.underlying58 h rfl rfl rfl ae
 obtain ⟨n1,y1,h1⟩:=bm (i:=1) (off:=1) (k:=1) (t':=3) Tryz.underlying58 h rfl rfl rfl ae
 obtain ⟨n2,y2,h2⟩:=bm (i:=2) (off:=2) (k:=1) (t':=3) Tryz.underlying58 h rfl rfl rfl ae
 obtain ⟨n3,y3,h3⟩:=bm (i:=3) (off:=3) (k:=1) (t':=9) Tryz.underlying58 h rfl rfl rfl ae
 obtain ⟨n4,y4,h4⟩:=bm (i:=4) (off:=4) (k:=1) (t':=9) Tryz.underlying58 h rfl rfl rfl ae
 obtain ⟨n5,y5,h5⟩:=bm (i:=5) (off:=5) (k:=1) (t':=9) Tryz.underlying58 h rfl rfl rfl ae
 obtain ⟨n6,y6,h6⟩:=bm (i:=6) (off:=6) (k:=1) (t':=39) Tryz.underlying58 h rfl rfl rfl ae
 obtain ⟨n7,y7,h7⟩:=bm (i:=7) (off:=7) (k:=1) (t':=3) Tryz.underlying58 h rfl rfl rfl ae
 obtain ⟨n8,y8,h8⟩:=bm (i:=8) (off:=8) (k:=1) (t':=3) Tryz.underlying58 h rfl rfl rfl ae
 obtain ⟨n9,y9,h9⟩:=bm (i:=9) (off:=9) (k:=1) (t':=3) Tryz.underlying58 h rfl rfl rfl ae
 obtain ⟨n10,y10,h10⟩:=bm (i:=10) (off:=10) (k:=2) (t':=44) Tryz.underlying58 h rfl rfl rfl ae
 match cs,hl with
 | [c0,c1,c2,c3,c4,c5,c6,c7,c8,c9,c10,c11],_ =>
  obtain ⟨s0,e0,b0⟩:=bD h0
  obtain ⟨s1,e1,b1⟩:=bD h1
  obtain ⟨s2,e2,b2⟩:=bD h2
  obtain ⟨s3,e3,b3⟩:=cb h3
  obtain ⟨s4,e4,b4⟩:=cb h4
  obtain ⟨s5,e5,b5⟩:=cb h5
  obtain ⟨s6,l6,e6,r6,b6⟩:=gc h6
  obtain ⟨s7,e7,b7⟩:=bD h7
  obtain ⟨s8,e8,b8⟩:=bD h8
  obtain ⟨s9,e9,b9⟩:=bD h9
  obtain ⟨s10,t10,e10,b10,bb10⟩:=jW h10
  simp at e0 e1 e2 e3 e4 e5 e6 e7 e8 e9 e10
  exact ⟨⟨s0,s1,s2,s3,s4,s5,s6,s7,s8,s9,s10,t10,l6⟩,by simp [DecD.cells,e0,e1,e2,e3,e4,e5,e6,e7,e8,e9,e10],r6,⟨b3,b4,b5,b6,b0,b1,b2,b7,b8,b9,b10,bb10⟩⟩
theorem yu {fuel:Nat} {cs:List Value} {x:DataW H×List MemPlace} (h:DataW.trod enc Tryz.prog w base spare held fuel 60 cs=some x):∃ a:ItemD,cs=a.cells∧ItemD.at_ w a∧a.Str:=by
 have hl:=gi Tryz.underlying60 (k:=49) ae h
 obtain ⟨n0,y0,h0⟩:=bm (i:=0) (off:=0) (k:=1) (t':=3) Tryz.underlying60 h rfl rfl rfl ae
 obtain ⟨n1,y1,h1⟩:=bm (i:=1) (off:=1) (k:=20) (t':=46) Tryz.underlying60 h rfl rfl rfl ae
 obtain ⟨n2,y2,h2⟩:=bm (i:=2) (off:=21) (k:=9) (t':=54) Tryz.underlying60 h rfl rfl rfl ae
 obtain ⟨n3,y3,h3⟩:=bm (i:=3) (off:=30) (k:=7) (t':=56) Tryz.underlying60 h rfl rfl rfl ae
 obtain ⟨n4,y4,h4⟩:=bm (i:=4) (off:=37) (k:=12) (t':=58) Tryz.underlying60 h rfl rfl rfl ae
 obtain ⟨a0,e0,_⟩:=bD h0
 obtain ⟨a1,e1,q1,r1,_,s1⟩:=yw h1
 obtain ⟨a2,e2,s2⟩:=uP h2
 obtain ⟨a3,e3,s3⟩:=sL h3
 obtain ⟨a4,e4,q4,s4⟩:=Bw h4
 refine ⟨⟨a0,a1,a2,a3,a4⟩,?_,⟨q1,q4⟩,⟨s1,r1,s2,s3,s4⟩⟩
 have h5:cs=cs.take 1++((cs.drop 1).take 20++((cs.drop 21).take 9++((cs.drop 30).take 7++(cs.drop 37).take 12))):=by
  have t1:(cs.drop 37).take 12=cs.drop 37:=Qf (by rw [Qr];omega)
  rw [t1,show cs.drop 37=(cs.drop 30).drop 7 from by rw [List.drop_drop],Qs,show cs.drop 30=(cs.drop 21).drop 9 from by rw [List.drop_drop],Qs,show cs.drop 21=(cs.drop 1).drop 20 from by rw [List.drop_drop],Qs,Qs]
 rw [List.drop_zero] at e0
 rw [h5,e0,e1,e2,e3,e4]
 simp [ItemD.cells]
theorem uN {fuel:Nat} {cs:List Value} {x:DataW H×List MemPlace} (h:DataW.trod enc Tryz.prog w base spare held fuel 23 cs=some x):∃ (s:SlV) (l:List ItemD),cs=[s.v]∧Items w s l∧∀ i∈l,i.Str:=by
 haveI:Inhabited ItemD:=⟨ItemD.zero⟩
 obtain ⟨s,l,h1,h2,h3⟩:=fE (α:=ItemD) Tryz.underlying23 (size:=49) ae ItemD.cells (fun a=>ItemD.at_ w a∧a.Str) (fun n cs y hy=>yu hy) h
 exact ⟨s,l,h1,⟨h2,fun a ha=>(h3 a ha).1⟩,fun a ha=>(h3 a ha).2⟩
theorem nI {fuel:Nat} {cs:List Value} {x:DataW H×List MemPlace} (h:DataW.trod enc Tryz.prog w base spare held fuel 25 cs=some x):∃ (s t:SlV) (l:List Int) (I:List ItemD),cs=[s.v,t.v]∧Ints w s l∧Items w t I∧(∀ n∈l,n<9223372036854775808)∧∀ i∈I,i.Str:=by
 have hl:=gi Tryz.underlying25 (k:=2) ae h
 obtain ⟨n0,y0,h0⟩:=bm (i:=0) (off:=0) (k:=1) (t':=22) Tryz.underlying25 h rfl rfl rfl ae
 obtain ⟨n1,y1,h1⟩:=bm (i:=1) (off:=1) (k:=1) (t':=23) Tryz.underlying25 h rfl rfl rfl ae
 match cs,hl with
 | [c0,c1],_ =>
  obtain ⟨s0,l0,e0,r0,b0⟩:=uO h0
  obtain ⟨s1,l1,e1,r1,b1⟩:=uN h1
  simp at e0 e1
  exact ⟨s0,s1,l0,l1,by rw [e0,e1],r0,r1,b0,b1⟩
end
end Go.Proofs.YtaolfiikahlmkaaGreatDoor
namespace Go.Proofs.YtaolfiikahlmkaaGreatDoor
open Go Go.Proofs Sy
theorem gO (n l h:Int):Pu Tryz.prog 232 #[.int .i64 n,.int .i64 l,.int .i64 h] (fun _=>True) (.bool (withinB n l h)):=by
 refine ak (args:=[_,_,_]) _ Tryz.func232 rfl Tryz.ntmps232 rfl fun av bor w0=>?_
 repeat' (first|refine gs ?_|(refine gp ?_ ?_<;>intro hx_ this)|fail)
 (all_goals (apply ad;apply ag;rfl;rfl));all_goals first|rfl|(simp only [withinB, *,Zt,Zr,Zf,Ze,Zh,Zg,Zk,Zj,Zn,Zl,Zs,Zm,Zq,Zi];done)|(simp_all [withinB];done)
theorem kF (e s:Int):Pu Tryz.prog 233 #[.agg #[.int .i64 e,.int .i64 s]] (fun _=>True) (.bool (sigB e s)):=by
 refine ak (args:=[_]) _ Tryz.func233 rfl Tryz.ntmps233 rfl fun av bor w0=>?_
 repeat' (first|refine ab (hc:=gO _ _ _) ?_|refine gs ?_|refine gs1 fun _=>?_|(refine gp ?_ ?_<;>intro hx_ this)|fail)
 (all_goals (apply ad;apply ag;rfl;rfl));all_goals first|rfl|(simp only [sigB, *,Zt,Zr,Zf,Ze,Zh,Zg,Zk,Zj,Zn,Zl,Zs,Zm,Zq,Zi];done)|(simp_all [sigB];done)
theorem oP (c:ClaimD) (hs:c.Str):Pu Tryz.prog 147 #[c.v] (fun _=>True) (.bool (claimR c)):=by
 refine ak (args:=[_]) _ Tryz.func147 rfl Tryz.ntmps147 rfl fun av bor w0=>?_
 have hid:=gB c.actor hs.actor
 repeat' (first|(refine ab (hc:=hid) (hX:=fun _ _=>trivial) ?_)|refine ab (hc:=gO _ _ _) ?_|refine ab (hc:=kF c.e c.s) ?_|refine gs ?_|refine gs1 fun _=>?_|(refine aw (vs:=[.int .i64 c.e,.int .i64 c.s]) (hv:=rfl) ?_)|(refine gp ?_ ?_<;>intro hx_ this)|fail)
 (all_goals (apply ad;apply ag;rfl;rfl));all_goals first|rfl|(simp only [claimR,isDigestB, *,Zt,Zr,Zf,Ze,Zh,Zg,Zk,Zj,Zn,Zl,Zs,Zm,Zq,Zi];done)|(simp_all [claimR,isDigestB];done)
theorem sE (b:BallotD) (hs:b.Str):Pu Tryz.prog 148 #[b.v] (fun _=>True) (.bool (ballotR b)):=by
 refine ak (args:=[_]) _ Tryz.func148 rfl Tryz.ntmps148 rfl fun av bor w0=>?_
 have hid:=gB b.actor hs.actor
 repeat' (first|(refine ab (hc:=hid) (hX:=fun _ _=>trivial) ?_)|refine ab (hc:=gO _ _ _) ?_|refine ab (hc:=kF b.e b.s) ?_|refine gs ?_|refine gs1 fun _=>?_|(refine aw (vs:=[.int .i64 b.e,.int .i64 b.s]) (hv:=rfl) ?_)|(refine gp ?_ ?_<;>intro hx_ this)|fail)
 (all_goals (apply ad;apply ag;rfl;rfl));all_goals first|rfl|(simp only [ballotR,isDigestB, *,Zt,Zr,Zf,Ze,Zh,Zg,Zk,Zj,Zn,Zl,Zs,Zm,Zq,Zi];done)|(simp_all [ballotR,isDigestB];done)
def numsD (d:DecD):Bool:=withinB d.server 0 19&&(withinB d.number 0 1073741824&&(withinB d.kind 0 9&&(withinB d.from_ 0 1099511627776&&(withinB d.until_ 0 1099511627776&&decide (d.from_<d.until_)))))
def decF (d:DecD):Bool:=bif !numsD d||!sigB d.e d.s then false
 else bif kindO d.kind then seqB d.actor ⟨#[]⟩&&(isDigestB d.object&&(reasonD d&&plainD d))
 else bif decide (d.kind=8) then seqB d.actor ⟨#[]⟩&&(seqB d.object ⟨#[]⟩&&(reasonD d&&(isIds d.toL&&withinB d.n 1 (d.to.n:Nat))))
 else bif decide (d.kind=9) then seqB d.actor ⟨#[]⟩&&(seqB d.object ⟨#[]⟩&&(decide ((d.text.size:Int)≤4096)&&plainD d))
 else isId d.actor&&(seqB d.object ⟨#[]⟩&&(reasonD d&&plainD d))
theorem BZ {k:Int} (h:withinB k 0 9=true) (h1:kindO k=false) (h2:decide (k=8)=false) (h3:decide (k=9)=false):kindA k=true:=by
 simp only [withinB,kindO,kindA,Zp,Bool.or_eq_true,Ql,Zw,Qd] at *
 omega
theorem Ek {k:Int} (h1:kindO k=true):withinB k 0 9=true∧kindA k=false:=by
 simp only [withinB,kindO,kindA,Zp,Bool.or_eq_true,Ql,Zw,Qd] at *
 omega
theorem El {k:Int} (h1:kindA k=true):withinB k 0 9=true∧kindO k=false∧decide (k=8)=false∧decide (k=9)=false:=by
 simp only [withinB,kindO,kindA,Zp,Bool.or_eq_true,Ql,Zw,Qd] at *
 omega
theorem ET (d:DecD):decF d=decR d:=by
 rw [decF,decR,numsD,termsB]
 cases hA:kindA d.kind with
 | true =>
  obtain ⟨h1,h2,h3,h4⟩:=El hA
  rw [h1,h2,h3,h4]
  generalize withinB d.server 0 19=b1
  generalize withinB d.number 0 1073741824=b2
  generalize withinB d.from_ 0 1099511627776=b3
  generalize withinB d.until_ 0 1099511627776=b4
  generalize decide (d.from_<d.until_)=b5
  generalize sigB d.e d.s=b6
  simp only [Zf,Ze]
  generalize (isId d.actor&&(seqB d.object ⟨#[]⟩&&(reasonD d&&plainD d)))=b7
  cases b1<;>cases b2<;>cases b3<;>cases b4<;>cases b5<;>cases b6<;>cases b7<;>rfl
 | false =>
  cases hO:kindO d.kind with
  | true =>
   rw [(Ek hO).1]
   generalize withinB d.server 0 19=b1
   generalize withinB d.number 0 1073741824=b2
   generalize withinB d.from_ 0 1099511627776=b3
   generalize withinB d.until_ 0 1099511627776=b4
   generalize decide (d.from_<d.until_)=b5
   generalize sigB d.e d.s=b6
   simp only [Zf,Ze]
   generalize (seqB d.actor ⟨#[]⟩&&(isDigestB d.object&&(reasonD d&&plainD d)))=b7
   cases b1<;>cases b2<;>cases b3<;>cases b4<;>cases b5<;>cases b6<;>cases b7<;>rfl
  | false =>
   cases h8:decide (d.kind=8) with
   | true =>
    have hw:withinB d.kind 0 9=true:=by rw [aG h8];rfl
    rw [hw]
    generalize withinB d.server 0 19=b1
    generalize withinB d.number 0 1073741824=b2
    generalize withinB d.from_ 0 1099511627776=b3
    generalize withinB d.until_ 0 1099511627776=b4
    generalize decide (d.from_<d.until_)=b5
    generalize sigB d.e d.s=b6
    simp only [Zf,Ze]
    generalize (seqB d.actor ⟨#[]⟩&&(seqB d.object ⟨#[]⟩&&(reasonD d&&(isIds d.toL&&withinB d.n 1 (d.to.n:Nat)))))=b7
    cases b1<;>cases b2<;>cases b3<;>cases b4<;>cases b5<;>cases b6<;>cases b7<;>rfl
   | false =>
    cases h9:decide (d.kind=9) with
    | true =>
     have hw:withinB d.kind 0 9=true:=by rw [aG h9];rfl
     rw [hw]
     generalize withinB d.server 0 19=b1
     generalize withinB d.number 0 1073741824=b2
     generalize withinB d.from_ 0 1099511627776=b3
     generalize withinB d.until_ 0 1099511627776=b4
     generalize decide (d.from_<d.until_)=b5
     generalize sigB d.e d.s=b6
     simp only [Zf,Ze]
     generalize (seqB d.actor ⟨#[]⟩&&(seqB d.object ⟨#[]⟩&&(decide ((d.text.size:Int)≤4096)&&plainD d)))=b7
     cases b1<;>cases b2<;>cases b3<;>cases b4<;>cases b5<;>cases b6<;>cases b7<;>rfl
    | false =>
     cases hw:withinB d.kind 0 9 with
     | true=>rw [BZ hw hO h8 h9] at hA;cases hA
     | false=>simp
theorem oO (d:DecD) (hs:d.Str):Pu Tryz.prog 149 #[d.v] (fun w=>d.at_ w) (.bool (decR d)):=by
 refine ak (args:=[_]) _ Tryz.func149 rfl Tryz.ntmps149 rfl fun av bor w0=>?_
 rw [←ET]
 have hid:=gB d.actor hs.actor
 have hids:=kI d.to d.toL hs.to
 repeat' (first|(refine ab (hc:=hid) (hX:=fun _ _=>trivial) ?_)|(refine ab (hc:=hids) (hX:=fun w h=>h) ?_)|refine ab (hc:=gO _ _ _) ?_|refine ab (hc:=kF d.e d.s) ?_|refine gs ?_|refine gs1 fun _=>?_|(refine aw (vs:=[.int .i64 d.e,.int .i64 d.s]) (hv:=rfl) ?_)|(refine gp ?_ ?_<;>intro hx_ this)|fail)
 all_goals (apply ad;apply ag;rfl;rfl)
 all_goals first
  | rfl
  | (simp_all [decF,numsD,plainD,reasonD,kindO,isDigestB];done)
  | (simp_all [decF,numsD,plainD,reasonD,kindO,isDigestB];intros;omega)
theorem db (x:ByteArray) (l:List ByteArray):textsV (x::l)=textV x++textsV l:=rfl
theorem dB:textsV []=ByteArray.empty:=rfl
theorem dW (x:Int) (l:List Int):numsV (x::l)=numV x++numsV l:=rfl
theorem eF:numsV []=ByteArray.empty:=rfl
structure ClaimD.Sm (c:ClaimD):Prop where
 actor:c.actor.size≤1000000
 prev:c.prev.size≤1000000
structure BallotD.Sm (c:BallotD):Prop where
 actor:c.actor.size≤1000000
 claim:c.claim.size≤1000000
structure DecD.Sm (c:DecD):Prop where
 actor:c.actor.size≤1000000
 object:c.object.size≤1000000
 text:c.text.size≤1000000
 to:(listV c.toL).size≤1000000
theorem qx (c:ClaimD) (hl:c.Lt) (hs:c.Sm):Pu Tryz.prog 158 #[c.v] (fun _=>True) (.string (coreCl c)):=by
 refine ak (args:=[_]) _ Tryz.func158 rfl Tryz.ntmps158 rfl fun av bor w0=>?_
 have h1:=hs.actor
 have h2:=hs.prev
 have s1:=aB c.actor
 have s2:=aB c.prev
 have n1:=ap c.base
 have n2:=ap c.gen
 have n3:=ap c.home
 have n4:=ap c.pub
 have n5:=ap c.time
 obtain ⟨i1,i2,i3,i4,i5,_,_⟩:=hl
 repeat' (first|refine gs ?_|refine gs1 fun _=>?_|(refine gp ?_ ?_<;>intro hx_ this)|fail)
 (refine bo ⟨[0,1,3,4,7,8,11,12,15,16,19,20,23,24],[(2,⟨[],[(5,⟨[6],[(9,⟨[10],[(13,⟨[14],[(17,⟨[18],[(21,⟨[22],[(25,⟨[26,27],[]⟩)]⟩)]⟩)]⟩)]⟩)]⟩)]⟩)]⟩ (h:=?_))
 all_goals repeat' (first|refine ab (hc:=cw _ aa) ?_|refine ab (hc:=cX _ aa) ?_|refine gd ?_|refine ay (hy:=by first|(apply dt;rfl;rfl;(try simp only [Za]);omega)) ?_|refine az ?_ (h':=?_)|exact aA|refine gs1 fun _=>?_|(refine gq ?_ ?_<;>intro hx_ this)|fail)
 all_goals
  repeat' (first|refine gs ?_|refine gs1 fun _=>?_|(refine gp ?_ ?_<;>intro hx_ this)|fail)
  refine ad (ag rfl rfl) ?_
  simp only [coreCl,db,dB,dW,eF,Qj,Zy]
theorem jT (c:BallotD) (hl:c.Lt) (hs:c.Sm):Pu Tryz.prog 154 #[c.v] (fun _=>True) (.string (coreBa c)):=by
 refine ak (args:=[_]) _ Tryz.func154 rfl Tryz.ntmps154 rfl fun av bor w0=>?_
 have h1:=hs.actor
 have h2:=hs.claim
 have s1:=aB c.actor
 have s2:=aB c.claim
 have n1:=ap c.server
 have n2:=ap c.gen
 have n3:=ap c.time
 obtain ⟨i1,i2,i3,_,_⟩:=hl
 repeat' (first|refine gs ?_|refine gs1 fun _=>?_|(refine gp ?_ ?_<;>intro hx_ this)|fail)
 (refine bo ⟨[0,1,3,4,7,8,11,12,15,16],[(2,⟨[],[(5,⟨[6],[(9,⟨[10],[(13,⟨[14],[(17,⟨[18,19],[]⟩)]⟩)]⟩)]⟩)]⟩)]⟩ (h:=?_))
 all_goals repeat' (first|refine ab (hc:=cw _ aa) ?_|refine ab (hc:=cX _ aa) ?_|refine gd ?_|refine ay (hy:=by first|(apply dt;rfl;rfl;(try simp only [Za]);omega)) ?_|refine az ?_ (h':=?_)|exact aA|refine gs1 fun _=>?_|(refine gq ?_ ?_<;>intro hx_ this)|fail)
 all_goals
  repeat' (first|refine gs ?_|refine gs1 fun _=>?_|(refine gp ?_ ?_<;>intro hx_ this)|fail)
  refine ad (ag rfl rfl) ?_
  simp only [coreBa,db,dB,dW,eF,Qj,Zy]
theorem jS (c:DecD) (hl:c.Lt) (hs:c.Sm):Pu Tryz.prog 155 #[c.v] (fun w=>c.at_ w) (.string (coreDe c)):=by
 refine ak (args:=[_]) _ Tryz.func155 rfl Tryz.ntmps155 rfl fun av bor w0=>?_
 have h1:=hs.actor
 have h2:=hs.object
 have h3:=hs.text
 have h4:=hs.to
 have s1:=aB c.actor
 have s2:=aB c.object
 have s3:=aB c.text
 have n1:=ap c.server
 have n2:=ap c.number
 have n3:=ap c.kind
 have n4:=ap c.n
 have n5:=ap c.from_
 have n6:=ap c.until_
 have hli:=nB c.to c.toL aa
 obtain ⟨i1,i2,i3,i4,i5,i6,_,_⟩:=hl
 repeat' (first|refine gs ?_|refine gs1 fun _=>?_|(refine gp ?_ ?_<;>intro hx_ this)|fail)
 (refine bo ⟨[0,1,3,4,7,8,11,12,15,16,19,20],[(2,⟨[],[(5,⟨[6],[(9,⟨[10],[(13,⟨[14],[(17,⟨[18],[(21,⟨[22,23],[]⟩)]⟩)]⟩)]⟩)]⟩)]⟩)]⟩ (h:=?_))
 all_goals repeat' (first|refine ab (hc:=cw _ aa) ?_|refine ab (hc:=cX _ aa) ?_|refine gd ?_|refine ay (hy:=by first|(apply dt;rfl;rfl;(try simp only [Za]);omega)) ?_|refine az ?_ (h':=?_)|exact aA|refine gs1 fun _=>?_|(refine gq ?_ ?_<;>intro hx_ this)|fail)
 all_goals
  repeat' (first|refine gs ?_|refine gs1 fun _=>?_|(refine gp ?_ ?_<;>intro hx_ this)|fail)
  (refine bo ⟨[0,1,2,5,6,9,10,13,14],[(3,⟨[4],[(7,⟨[8],[(11,⟨[12],[(15,⟨[16,17],[]⟩)]⟩)]⟩)]⟩)]⟩ (h:=?_))
  all_goals repeat' (first|refine ab (hc:=cw _ aa) ?_|(refine ab (hc:=hli) (hX:=fun w h=>h) ?_)|refine gd ?_|refine ay (hy:=by first|(apply dt;rfl;rfl;(try simp only [Za]);omega)) ?_|refine az ?_ (h':=?_)|exact aA|refine gs1 fun _=>?_|(refine gq ?_ ?_<;>intro hx_ this)|fail)
  all_goals
   repeat' (first|refine gs ?_|refine gs1 fun _=>?_|(refine gp ?_ ?_<;>intro hx_ this)|fail)
   refine ad (ag rfl rfl) ?_
   simp only [coreDe,db,dB,dW,eF,Qj,Zy]
theorem jl (e s:Int) (he:e<9223372036854775808) (hs:s<9223372036854775808):Pu Tryz.prog 159 #[.agg #[.int .i64 e,.int .i64 s]] (fun _=>True) (.string (numsV [e,s])):=by
 refine ak (args:=[_]) _ Tryz.func159 rfl Tryz.ntmps159 rfl fun av bor w0=>?_
 have n1:=ap e
 have n2:=ap s
 repeat' (first|refine gs ?_|refine gs1 fun _=>?_|(refine gp ?_ ?_<;>intro hx_ this)|fail)
 (refine bo ⟨[0,1,3,4],[(2,⟨[],[(5,⟨[6,7],[]⟩)]⟩)]⟩ (h:=?_))
 all_goals repeat' (first|refine ab (hc:=cw _ aa) ?_|refine gd ?_|refine ay (hy:=by first|(apply dt;rfl;rfl;(try simp only [Za]);omega)) ?_|refine az ?_ (h':=?_)|exact aA|refine gs1 fun _=>?_|(refine gq ?_ ?_<;>intro hx_ this)|fail)
 all_goals
  repeat' (first|refine gs ?_|refine gs1 fun _=>?_|(refine gp ?_ ?_<;>intro hx_ this)|fail)
  refine ad (ag rfl rfl) ?_
  simp only [dW,eF,Qj]
theorem cu {n l h:Int} (w:withinB n l h=true):l≤n∧n≤h:=by
 simpa only [withinB,Zp,Zw] using w
theorem uq {e s:Int} (w:sigB e s=true):(0≤e∧e≤2305843009213693949)∧0≤s∧s≤2305843009213693949:=by
 rw [sigB,Zp] at w
 exact ⟨cu w.1,cu w.2⟩
theorem iW {s:ByteArray} (h:isId s=true):s.size=16:=by
 rw [isId,Zp,Zw] at h
 exact_mod_cast h.1
theorem jt {s:ByteArray} (h:isDigestB s=true):s.size=32:=by
 rw [isDigestB,Zw] at h
 exact_mod_cast h
theorem dL {s:ByteArray} (h:seqB s ⟨#[]⟩=true):s.size=0:=by
 rw [seqB_iff.1 h];rfl
theorem ja {c:ClaimD} (h:claimR c=true):c.Lt∧c.Sm:=by
 simp only [claimR,Zp] at h
 obtain ⟨h1,h2,h3,h4,h5,h6,h7,h8⟩:=h
 have e1:=iW h1
 have e2:=cu h2
 have e3:=jt h3
 have e4:=cu h4
 have e5:=cu h5
 have e6:=cu h6
 have e7:=cu h7
 have e8:=uq h8
 exact ⟨⟨by omega,by omega,by omega,by omega,by omega,by omega,by omega⟩,⟨by omega,by omega⟩⟩
theorem fO {c:BallotD} (h:ballotR c=true):c.Lt∧c.Sm:=by
 simp only [ballotR,Zp] at h
 obtain ⟨h2,h1,h4,h3,h7,h8⟩:=h
 have e1:=iW h1
 have e2:=cu h2
 have e3:=jt h3
 have e4:=cu h4
 have e7:=cu h7
 have e8:=uq h8
 exact ⟨⟨by omega,by omega,by omega,by omega,by omega⟩,⟨by omega,by omega⟩⟩
theorem pS {m:Nat}:∀ {l:List ByteArray},(∀ x∈l,x.size≤m)→(cats l).size≤l.length*m
 | [],_=>by simp [cats]
 | a::l,h=>by
  have h1:=h a ax
  have h2:=pS (m:=m) (l:=l) fun x hx=>h x (Zv _ hx)
  rw [cats,Za,ZB,QE]
  omega
theorem uS {l:List ByteArray} (h:isIds l=true):(listV l).size≤2000:=by
 rw [isIds,Zp,Bool.not_eq_true',Qd] at h
 have hl:l.length≤64:=by omega
 have he:∀ x∈l,x.size=16:=fun x hx=>by
  obtain ⟨k,hk,rfl⟩:=Qx hx
  have h2:=h.2
  rw [allB,List.all_eq_true] at h2
  have h3:=h2 k (List.mem_range.2 hk)
  rw [Bool.not_eq_true',badIds,Ql,Bool.not_eq_false'] at h3
  have h4:=h3.1
  rw [Zo,Zb hk,Qe] at h4
  exact iW h4
 have h1:=ap (l.length:Int)
 have h2:=pS (m:=26) (l:=l.map textV) fun x hx=>by
  obtain ⟨y,hy,rfl⟩:=QI.1 hx
  have:=ap (y.size:Int)
  rw [textV,Za,he y hy]
  have:=ap ((16:Nat):Int)
  omega
 rw [ZF] at h2
 rw [listV,Za]
 omega
theorem yD:(listV []).size≤2000:=by
 have h1:=ap ((0:Nat):Int)
 rw [listV,Za]
 simp only [List.map_nil,cats,ByteArray.size_empty,ZR]
 omega
theorem jo {d:DecD} (hn:d.to.n=d.toL.length) (h:plainD d=true):(listV d.toL).size≤2000∧d.n=0:=by
 rw [plainD,Zp,Zw,Zw] at h
 have:d.toL=[]:=List.length_eq_zero_iff.1 aa
 rw [this]
 exact ⟨yD,h.2⟩
theorem iu {d:DecD} (h:reasonD d=true):d.text.size≤500:=by
 rw [reasonD,Zw] at h
 omega
theorem ud {d:DecD} (hn:d.to.n=d.toL.length) (h:termsB d=true):d.Sm∧0≤d.n∧d.n≤64∧d.kind<10:=by
 rw [termsB] at h
 cases hA:kindA d.kind with
 | true =>
  rw [hA,Zf] at h
  simp only [Zp] at h
  have e1:=iW h.1
  have e2:=dL h.2.1
  have e3:=iu h.2.2.1
  have e4:=jo hn h.2.2.2
  simp only [kindA,Bool.or_eq_true,Zw] at hA
  exact ⟨⟨by omega,by omega,by omega,by omega⟩,by omega,by omega,by omega⟩
 | false =>
  rw [hA,Ze] at h
  cases hO:kindO d.kind with
  | true =>
   rw [hO,Zf] at h
   simp only [Zp] at h
   have e1:=dL h.1
   have e2:=jt h.2.1
   have e3:=iu h.2.2.1
   have e4:=jo hn h.2.2.2
   simp only [kindO,Bool.or_eq_true,Zw] at hO
   exact ⟨⟨by omega,by omega,by omega,by omega⟩,by omega,by omega,by omega⟩
  | false =>
   rw [hO,Ze] at h
   cases h8:decide (d.kind=8) with
   | true =>
    rw [h8,Zf] at h
    simp only [Zp] at h
    have e1:=dL h.1
    have e2:=dL h.2.1
    have e3:=iu h.2.2.1
    have e4:=uS h.2.2.2.1
    have e5:=cu h.2.2.2.2
    have e6:=aG h8
    have e7:d.toL.length≤64:=by
     have:=h.2.2.2.1
     rw [isIds,Zp,Bool.not_eq_true',Qd] at this
     omega
    exact ⟨⟨by omega,by omega,by omega,by omega⟩,by omega,by omega,by omega⟩
   | false =>
    rw [h8,Ze] at h
    cases h9:decide (d.kind=9) with
    | true =>
     rw [h9,Zf] at h
     simp only [Zp] at h
     have e1:=dL h.1
     have e2:=dL h.2.1
     have e3:=aG h.2.2.1
     have e4:=jo hn h.2.2.2
     have e6:=aG h9
     exact ⟨⟨by omega,by omega,by omega,by omega⟩,by omega,by omega,by omega⟩
    | false=>rw [h9] at h;cases h
theorem kg {d:DecD} (hn:d.to.n=d.toL.length) (h:decR d=true):d.Lt∧d.Sm:=by
 simp only [decR,Zp] at h
 obtain ⟨h1,h2,h3,h4,h5,h6,h7⟩:=h
 have e1:=cu h1
 have e2:=cu h2
 have e3:=cu h3
 have e4:=cu h4
 obtain ⟨e6,e7,e8,e9⟩:=ud hn h6
 have e10:=uq h7
 exact ⟨⟨by omega,by omega,by omega,by omega,by omega,by omega,by omega,by omega⟩,e6⟩
theorem fY {c:ClaimD} (hs:c.Sm):(coreCl c).size≤3000000:=by
 have h1:=hs.actor
 have h2:=hs.prev
 have s1:=aB c.actor
 have s2:=aB c.prev
 have n1:=ap c.base
 have n2:=ap c.gen
 have n3:=ap c.home
 have n4:=ap c.pub
 have n5:=ap c.time
 simp only [coreCl,db,dB,dW,eF,Qj,Za]
 omega
theorem eH {c:BallotD} (hs:c.Sm):(coreBa c).size≤3000000:=by
 have h1:=hs.actor
 have h2:=hs.claim
 have s1:=aB c.actor
 have s2:=aB c.claim
 have n1:=ap c.server
 have n2:=ap c.gen
 have n3:=ap c.time
 simp only [coreBa,db,dB,dW,eF,Qj,Za]
 omega
theorem eG {c:DecD} (hs:c.Sm):(coreDe c).size≤5000000:=by
 have h1:=hs.actor
 have h2:=hs.object
 have h3:=hs.text
 have h4:=hs.to
 have s1:=aB c.actor
 have s2:=aB c.object
 have s3:=aB c.text
 have n1:=ap c.server
 have n2:=ap c.number
 have n3:=ap c.kind
 have n4:=ap c.n
 have n5:=ap c.from_
 have n6:=ap c.until_
 simp only [coreDe,db,dB,dW,eF,Qj,Za]
 omega
theorem ix {nm p:ByteArray} (h:nm.size≤20) (hp:p.size≤5000000):(textsV [nm]++p).size≤6000000:=by
 have s1:=aB nm
 simp only [db,dB,Qj,Za]
 omega
theorem dE (e s:Int):(numsV [e,s]).size≤20:=by
 have n1:=ap e
 have n2:=ap s
 simp only [dW,eF,Qj,Za]
 omega
def bodyIt (i:ItemD):ByteArray:=bif decide (i.kind=0) then actBytes i.act else bif decide (i.kind=1) then coreCl i.claim++numsV [i.claim.e,i.claim.s] else bif decide (i.kind=2) then coreBa i.ballot++numsV [i.ballot.e,i.ballot.s] else coreDe i.dec++numsV [i.dec.e,i.dec.s]
def bytesIt (i:ItemD):ByteArray:=bif rightIt i then numV i.kind++bodyIt i else ⟨#[]⟩
def digIt (i:ItemD):ByteArray:=bif seqB (bytesIt i) ⟨#[]⟩ then ⟨#[]⟩ else shaV (bytesIt i)
theorem de {i:ItemD} (h:rightIt i=true):i.kind=0∧rightB i.act=true∨i.kind=1∧claimR i.claim=true∨i.kind=2∧ballotR i.ballot=true∨i.kind=3∧decR i.dec=true:=by
 rw [rightIt,Zp] at h
 have h:=h.1
 rw [rightK2] at h
 by_cases h0:i.kind=0
 · rw [Zd h0] at h;exact .inl ⟨h0,h⟩
 by_cases h1:i.kind=1
 · rw [Zc h0,Zd h1] at h;exact .inr (.inl ⟨h1,h⟩)
 by_cases h2:i.kind=2
 · rw [Zc h0,Zc h1,Zd h2] at h;exact .inr (.inr (.inl ⟨h2,h⟩))
 by_cases h3:i.kind=3
 · rw [Zc h0,Zc h1,Zc h2,Zd h3] at h;exact .inr (.inr (.inr ⟨h3,h⟩))
 rw [Zc h0,Zc h1,Zc h2,Zc h3] at h
 cases h
theorem lq {i:ItemD} (h:i.kind=0) (hr:rightIt i=true):rightB i.act=true:=by
 rcases de hr with h1|h1|h1|h1
 · exact h1.2
 all_goals (rw [h] at h1;exact absurd h1.1 (by decide))
theorem iL {i:ItemD} (hr:i.act.Rng) (hn:i.dec.to.n=i.dec.toL.length) (h:rightIt i=true):(bodyIt i).size≤300000000025:=by
 rw [bodyIt]
 rcases de h with ⟨h0,h1⟩|⟨h0,h1⟩|⟨h0,h1⟩|⟨h0,h1⟩
 · have:=gj hr
   rw [h0]
   show (actBytes i.act).size≤_
   omega
 · have:=fY (ja h1).2
   have:=dE i.claim.e i.claim.s
   rw [h0]
   show (coreCl i.claim++numsV [i.claim.e,i.claim.s]).size≤_
   rw [Za]
   omega
 · have:=eH (fO h1).2
   have:=dE i.ballot.e i.ballot.s
   rw [h0]
   show (coreBa i.ballot++numsV [i.ballot.e,i.ballot.s]).size≤_
   rw [Za]
   omega
 · have:=eG (kg hn h1).2
   have:=dE i.dec.e i.dec.s
   rw [h0]
   show (coreDe i.dec++numsV [i.dec.e,i.dec.s]).size≤_
   rw [Za]
   omega
theorem kn {i:ItemD} (hr:i.act.Rng) (hn:i.dec.to.n=i.dec.toL.length):(bytesIt i).size≤300000000040:=by
 rw [bytesIt]
 cases h:rightIt i with
 | false=>rw [Ze];simp [ByteArray.size]
 | true =>
  have:=iL hr hn h
  have:=ap i.kind
  rw [Zf,Za]
  omega
set_option maxRecDepth 20000 in
theorem oR (i:ItemD) (hr:i.act.Rng) (hdn:i.dec.to.n=i.dec.toL.length):Pu Tryz.prog 53 #[i.v] (fun w=>i.at_ w) (.string (bytesIt i)):=by
 have hri:=dM i
 have hbs:=@iL i hr hdn
 rw [bytesIt]
 cases hrB:rightIt i with
 | false =>
  rw [hrB] at hri
  refine ak (args:=[_]) _ Tryz.func53 rfl Tryz.ntmps53 rfl fun av bor w0=>?_
  repeat' (first|(refine ab (hc:=hri) (hX:=fun w h=>h) ?_)|refine gs ?_|refine gs1 fun _=>?_|(refine gp ?_ ?_<;>intro hx_ this)|fail)
  all_goals exact ad (ag rfl rfl) rfl
 | true =>
 rw [hrB] at hri
 have hk:=de hrB
 replace hbs:=hbs hrB
 have hkl:i.kind<9223372036854775808:=by rcases hk with h|h|h|h<;>omega
 refine ak (args:=[_]) _ Tryz.func53 rfl Tryz.ntmps53 rfl fun av bor w0=>?_
 repeat' (first|(refine ab (hc:=hri) (hX:=fun w h=>h) ?_)|refine gs ?_|refine gs1 fun _=>?_|(refine gp ?_ ?_<;>intro hx_ this)|fail)
 rename_i bi bb bs
 have hS:(⟨#[]⟩:ByteArray)++numsV [i.kind]=numV i.kind:=by
  show ByteArray.empty++(numV i.kind++ByteArray.empty)=numV i.kind
  rw [Qj,ByteArray.empty_append]
 have hnk:=ap i.kind
 have hns:(⟨#[]⟩:ByteArray).size+(numsV [i.kind]).size≤1099511627776:=by
  rw [←Za,hS]
  omega
 refine bL ?_
 refine gm 5 1 ?_
 refine dc (l:=bld bb none 0 ⟨#[]⟩++[cel bi 60 i.cells]) (List.Perm.swap _ _ _) ?_
 refine cj (pre:=bld bb none 0 ⟨#[]⟩) (fr:=[cel bi 60 i.cells]) (hc:=er bb none 0 ⟨#[]⟩ ⟨some ⟨bs,0,none⟩,1,1⟩ [i.kind] (by simpa using hkl) hns) (hX:=fun w h=>bt (xs:=[[.int .i64 i.kind]]) h.2 rfl (by decide) (by simp)) (h:=?_)
 rintro v R X' ⟨A1,c1,rfl,rfl⟩
 refine cD (X':=fun w=>i.at_ w) (fun w h=>h.1.1) ?_
 rw [hS]
 generalize hs1:numV i.kind=s1 at *
 rw [bodyIt] at hbs ⊢
 rcases hk with ⟨h0,h1⟩|⟨h0,h1⟩|⟨h0,h1⟩|⟨h0,h1⟩
 · rw [Zd h0,Zf] at hbs ⊢
   have hab:=lT i.act (dl hr) ⟨hr.ints.2.2.2.2.2.2.2.1,hr.ints.2.2.2.2.2.2.2.2⟩
   generalize actBytes i.act=body at *
   unfold bld
   repeat' (first|refine aP (hab:=h0) ?_|refine gs ?_|refine gs1 fun _=>?_|(refine gp ?_ ?_<;>intro hx_ this)|fail)
   simp only [ZK,ZL]
   (refine aq ⟨[0,2,3],[(1,⟨[],[(4,⟨[],[(5,⟨[6],[(7,⟨[],[]⟩)]⟩)]⟩)]⟩),(4,⟨[],[(1,⟨[],[(5,⟨[6],[(7,⟨[],[]⟩)]⟩)]⟩)]⟩)]⟩ [cel bi 60 i.cells] (fun w=>i.at_ w) (h:=?_))
   all_goals repeat' (first|(refine ab (hc:=hab) (hX:=fun w h=>h.1) ?_)|refine gdz ?_|refine ay (hsub:=by exact aK) (hy:=by first|(apply cC (vs:=i.act.cells);rfl;exact .head _;rfl;rfl)) ?_|refine az ?_ (h':=?_)|exact aA|(refine ia ?_;refine aN (size:=1) (z:=.int .u8 0) rfl rfl rfl rfl (fun _=>At.there _ (At.here _)) (fun w G=>iS aa) aa (by simp only [maxLen];omega) rfl ?_ rfl ?_;(first|with_reducible rfl|with_reducible assumption|with_reducible exact Zl|with_reducible exact Zn);intro A2 c2)|refine gs1 fun _=>?_|(refine gq ?_ ?_<;>intro hx_ this)|fail)
   all_goals
    repeat' (first|refine gs ?_|refine gs1 fun _=>?_|(refine gp ?_ ?_<;>intro hx_ this)|fail)
    rw [←cq,←dO]
    refine eJ (hm:=Zv _ ax) ?_
    repeat' (first|refine gs ?_|refine gs1 fun _=>?_|(refine gp ?_ ?_<;>intro hx_ this)|fail)
    apply ad;apply ag;rfl;rfl
    simp only [cF,Zf]
 · rw [Zc (show ¬ i.kind=0 by omega),Ze,Zd h0,Zf] at hbs ⊢
   obtain ⟨hl,hsm⟩:=ja h1
   have hfo:=od i h0
   have hcs:=fY hsm
   have hn2:=dE i.claim.e i.claim.s
   have hc1:=fun (A:Option Addr) (c:Nat)=>pR bb A c s1 i hl aa
   have hc2:=fun (A:Option Addr) (c:Nat) (p:ByteArray) (hp:p.size≤6000000) (sl:SlV)=>er bb A c p sl [i.claim.e,i.claim.s] (by simp;exact ⟨hl.e,hl.s⟩) aa
   generalize coreCl i.claim=core at *
   generalize numsV [i.claim.e,i.claim.s]=sg at *
   unfold bld
   repeat' (first|refine aL (hab:=by omega) ?_|(refine ab (hc:=hfo) (hX:=fun _ _=>trivial) ?_)|refine gs ?_|refine gs1 fun _=>?_|(refine gp ?_ ?_<;>intro hx_ this)|fail)
   rename_i bf
   refine dc (l:=bld bb A1 c1 s1++[cel bf 164 (formCells nameC 174 i.claim.e i.claim.s),cel bi 60 i.cells]) (show List.Perm ([_]++[_,_]++[_]) ([_,_]++[_]++[_]) from List.perm_append_comm.append_right _) ?_
   refine cj (pre:=bld bb A1 c1 s1) (fr:=[cel bf 164 (formCells nameC 174 i.claim.e i.claim.s),cel bi 60 i.cells]) (hc:=hc1 A1 c1) (hX:=fun _ _=>trivial) (h:=?_)
   rintro v R X' ⟨A2,c2,rfl,rfl⟩
   refine cD (X':=fun w=>i.at_ w) (fun w h=>h.1) ?_
   unfold bld
   repeat' (first|refine gs ?_|refine gs1 fun _=>?_|fail)
   rename_i bs2
   refine bL ?_
   refine cj (pre:=bld bb A2 c2 (s1++core)) (fr:=[cel bf 164 (formCells nameC 174 i.claim.e i.claim.s),cel bi 60 i.cells]) (hc:=hc2 A2 c2 (s1++core) (by rw [Za];omega) ⟨some ⟨bs2,0,none⟩,2,2⟩) (hX:=fun w h=>bt (xs:=[[.int .i64 i.claim.e],[.int .i64 i.claim.s]]) h.2 rfl (by decide) (by simp)) (h:=?_)
   rintro v R X' ⟨A3,c3,rfl,rfl⟩
   unfold bld
   repeat' (first|refine gs ?_|refine gs1 fun _=>?_|fail)
   refine eJ (hm:=Zv _ ax) ?_
   repeat' (first|refine gs ?_|refine gs1 fun _=>?_|(refine gp ?_ ?_<;>intro hx_ this)|fail)
   all_goals
    apply ad;apply ag;rfl;rfl
    simp only [cF,Zf,Zy]
 · rw [Zc (show ¬ i.kind=0 by omega),Ze,Zc (show ¬ i.kind=1 by omega),Ze,Zd h0,Zf] at hbs ⊢
   obtain ⟨hl,hsm⟩:=fO h1
   have hfo:=oe i h0
   have hcs:=eH hsm
   have hn2:=dE i.ballot.e i.ballot.s
   have hc1:=fun (A:Option Addr) (c:Nat)=>oD bb A c s1 i hl aa
   have hc2:=fun (A:Option Addr) (c:Nat) (p:ByteArray) (hp:p.size≤6000000) (sl:SlV)=>er bb A c p sl [i.ballot.e,i.ballot.s] (by simp;exact ⟨hl.e,hl.s⟩) aa
   generalize coreBa i.ballot=core at *
   generalize numsV [i.ballot.e,i.ballot.s]=sg at *
   unfold bld
   repeat' (first|refine aL (hab:=by omega) ?_|(refine ab (hc:=hfo) (hX:=fun _ _=>trivial) ?_)|refine gs ?_|refine gs1 fun _=>?_|(refine gp ?_ ?_<;>intro hx_ this)|fail)
   rename_i bf
   refine dc (l:=bld bb A1 c1 s1++[cel bf 164 (formCells nameB 175 i.ballot.e i.ballot.s),cel bi 60 i.cells]) (show List.Perm ([_]++[_,_]++[_]) ([_,_]++[_]++[_]) from List.perm_append_comm.append_right _) ?_
   refine cj (pre:=bld bb A1 c1 s1) (fr:=[cel bf 164 (formCells nameB 175 i.ballot.e i.ballot.s),cel bi 60 i.cells]) (hc:=hc1 A1 c1) (hX:=fun _ _=>trivial) (h:=?_)
   rintro v R X' ⟨A2,c2,rfl,rfl⟩
   refine cD (X':=fun w=>i.at_ w) (fun w h=>h.1) ?_
   unfold bld
   repeat' (first|refine gs ?_|refine gs1 fun _=>?_|fail)
   rename_i bs2
   refine bL ?_
   refine cj (pre:=bld bb A2 c2 (s1++core)) (fr:=[cel bf 164 (formCells nameB 175 i.ballot.e i.ballot.s),cel bi 60 i.cells]) (hc:=hc2 A2 c2 (s1++core) (by rw [Za];omega) ⟨some ⟨bs2,0,none⟩,2,2⟩) (hX:=fun w h=>bt (xs:=[[.int .i64 i.ballot.e],[.int .i64 i.ballot.s]]) h.2 rfl (by decide) (by simp)) (h:=?_)
   rintro v R X' ⟨A3,c3,rfl,rfl⟩
   unfold bld
   repeat' (first|refine gs ?_|refine gs1 fun _=>?_|fail)
   refine eJ (hm:=Zv _ ax) ?_
   repeat' (first|refine gs ?_|refine gs1 fun _=>?_|(refine gp ?_ ?_<;>intro hx_ this)|fail)
   all_goals
    apply ad;apply ag;rfl;rfl
    simp only [cF,Zf,Zy]
 · rw [Zc (show ¬ i.kind=0 by omega),Ze,Zc (show ¬ i.kind=1 by omega),Ze,Zc (show ¬ i.kind=2 by omega),Ze] at hbs ⊢
   obtain ⟨hl,hsm⟩:=kg hdn h1
   have hfo:=oc i h0
   have hcs:=eG hsm
   have hn2:=dE i.dec.e i.dec.s
   have hc1:=fun (A:Option Addr) (c:Nat)=>kf bb A c s1 i hl aa
   have hc2:=fun (A:Option Addr) (c:Nat) (p:ByteArray) (hp:p.size≤6000000) (sl:SlV)=>er bb A c p sl [i.dec.e,i.dec.s] (by simp;exact ⟨hl.e,hl.s⟩) aa
   generalize coreDe i.dec=core at *
   generalize numsV [i.dec.e,i.dec.s]=sg at *
   unfold bld
   repeat' (first|refine aL (hab:=by omega) ?_|(refine ab (hc:=hfo) (hX:=fun _ _=>trivial) ?_)|refine gs ?_|refine gs1 fun _=>?_|(refine gp ?_ ?_<;>intro hx_ this)|fail)
   rename_i bf
   refine dc (l:=bld bb A1 c1 s1++[cel bf 164 (formCells nameD 176 i.dec.e i.dec.s),cel bi 60 i.cells]) (show List.Perm ([_]++[_,_]++[_]) ([_,_]++[_]++[_]) from List.perm_append_comm.append_right _) ?_
   refine cj (pre:=bld bb A1 c1 s1) (fr:=[cel bf 164 (formCells nameD 176 i.dec.e i.dec.s),cel bi 60 i.cells]) (hc:=hc1 A1 c1) (hX:=fun w h=>h) (h:=?_)
   rintro v R X' ⟨A2,c2,rfl,rfl⟩
   refine cD (X':=fun w=>i.at_ w) (fun w h=>h.1) ?_
   unfold bld
   repeat' (first|refine gs ?_|refine gs1 fun _=>?_|fail)
   rename_i bs2
   refine bL ?_
   refine cj (pre:=bld bb A2 c2 (s1++core)) (fr:=[cel bf 164 (formCells nameD 176 i.dec.e i.dec.s),cel bi 60 i.cells]) (hc:=hc2 A2 c2 (s1++core) (by rw [Za];omega) ⟨some ⟨bs2,0,none⟩,2,2⟩) (hX:=fun w h=>bt (xs:=[[.int .i64 i.dec.e],[.int .i64 i.dec.s]]) h.2 rfl (by decide) (by simp)) (h:=?_)
   rintro v R X' ⟨A3,c3,rfl,rfl⟩
   unfold bld
   repeat' (first|refine gs ?_|refine gs1 fun _=>?_|fail)
   refine eJ (hm:=Zv _ ax) ?_
   repeat' (first|refine gs ?_|refine gs1 fun _=>?_|(refine gp ?_ ?_<;>intro hx_ this)|fail)
   all_goals
    apply ad;apply ag;rfl;rfl
    simp only [cF,Zf,Zy]
theorem dw (i:ItemD) (hr:i.act.Rng) (hdn:i.dec.to.n=i.dec.toL.length):Pu Tryz.prog 18 #[i.v] (fun w=>i.at_ w∧Glob w) (.string (digIt i)):=by
 refine ak (args:=[_]) _ Tryz.func18 rfl Tryz.ntmps18 rfl fun av bor w0=>?_
 have hsz:=kn hr hdn
 have hb:=oR i hr hdn
 repeat' (first|(refine ab (hc:=hb) (hX:=fun w h=>h.1) ?_)|refine ab (hc:=qo _ aa) ?_|refine gs ?_|refine gs1 fun _=>?_|(refine gp ?_ ?_<;>intro hx_ this)|fail)
 all_goals (apply ad;apply ag;rfl;rfl)
 · simp only [digIt,hx_,Zf]
 · simp only [digIt,hx_,Ze]
theorem yY {i:ItemD} (h:i.kind=0) (hr:rightIt i=true):digIt i=digV i.act:=by
 have e:bytesIt i=bytesV i.act:=by rw [bytesIt,bytesV,hr,lq h hr,Zf,Zf,bodyIt,h];rfl
 rw [digIt,digV,e]
theorem vb (p:Int) (c:ClaimD) (h:claimR c=true):Pu Tryz.prog 116 #[.int .i64 p,c.v] Glob (.bool (sgnC p c)):=by
 refine ak (args:=[_,_]) _ Tryz.func116 rfl Tryz.ntmps116 rfl fun av bor w0=>?_
 obtain ⟨hl,hsm⟩:=ja h
 have hsi:=ql p (ofClaimI c) rfl hl (ZY (ix (by decide) (ZY (fY hsm) (by decide))) (by decide))
 have hat:∀ w,(ofClaimI c).at_ w:=fun w=>⟨⟨aY w 1,aY w 5⟩,aY w 1⟩
 repeat' (first|(refine ab (hc:=gP c) (hX:=fun _ _=>trivial) ?_)|(refine ab (hc:=hsi) (hX:=fun w h=>⟨hat w,h⟩) ?_)|refine gs ?_|refine gs1 fun _=>?_|(refine gp ?_ ?_<;>intro hx_ this)|fail)
 exact ad (ag rfl rfl) rfl
def signedIt (L:List Int) (i:ItemD):Bool:=rightIt i&&bif decide (i.kind=2) then decide (i.ballot.server<(L.length:Nat))&&sgnB (L.getD i.ballot.server.toNat 0) i.ballot else bif decide (i.kind=3) then decide (i.dec.server<(L.length:Nat))&&sgnD (L.getD i.dec.server.toNat 0) i.dec else true
set_option maxRecDepth 20000 in
theorem ik (s:SlV) (L:List Int) (i:ItemD) (hdn:i.dec.to.n=i.dec.toL.length):Pu Tryz.prog 74 #[s.v,i.v] (fun w=>(Ints w s L∧i.at_ w)∧Glob w) (.bool (signedIt L i)):=by
 refine ak (args:=[_,_]) _ Tryz.func74 rfl Tryz.ntmps74 rfl fun av bor w0=>?_
 refine aM (p:=s.n=L.length∧s.n≤maxLen∧(0<L.length→s.p.isSome=true)) (fun w h=>⟨h.1.1.len_,ZY (RowsD.cap h.1.1) (RowsD.max h.1.1),h.1.1.some_⟩) fun ⟨hsn,hsm,hsp⟩=>?_
 simp only [maxLen] at hsm
 have hri:=dM i
 cases hrB:rightIt i with
 | false =>
  rw [hrB] at hri
  rw [show signedIt L i=false from by rw [signedIt,hrB];rfl]
  repeat' (first|(refine ab (hc:=hri) (hX:=fun w h=>h.1.2) ?_)|refine gs ?_|refine gs1 fun _=>?_|(refine gp ?_ ?_<;>intro hx_ this)|fail)
  exact ad (ag rfl rfl) rfl
 | true =>
 rw [hrB] at hri
 have hk:=de hrB
 by_cases h2:i.kind=2
 · rcases hk with h|h|h|h
   all_goals first|(exfalso;omega)|skip
   have h1:=h.2
   clear h
   obtain ⟨hl,hz⟩:=fO h1
   have hlo:0≤i.ballot.server:=(cu (by have:=h1;simp only [ballotR,Zp] at this;exact this.1)).1
   have hms:=ix (nm:=nameB) (by decide) (ZY (eH hz) (by decide))
   have hsg:=fun p:Int=>qm p i h2 hl (ZY hms (by decide))
   by_cases hlt:i.ballot.server<(L.length:Nat)
   · have hsp':=hsp aa
     have e:signedIt L i=sgnB (L.getD i.ballot.server.toNat 0) i.ballot:=by rw [signedIt,hrB,Zd h2,Zf,Zd hlt,Zg,Zg]
     rw [e]
     have hget:∀ w,(Ints w s L∧i.at_ w)∧Glob w→CellAt w s.p i.ballot.server.toNat (.int .i64 (L.getD i.ballot.server.toNat 0)):=fun w h=>Ints.get h.1.1 aa
     have hsg1:=hsg (L.getD i.ballot.server.toNat 0)
     generalize L.getD i.ballot.server.toNat 0=pk at *
     repeat' (first|refine aP (hab:=by omega) ?_|refine aL (hab:=by omega) ?_|(refine ab (hc:=hri) (hX:=fun w h=>h.1.2) ?_)|refine gs ?_|refine gs1 fun _=>?_|(refine gp ?_ ?_<;>intro hx_ this)|fail)
     rename_i b3
     (refine aq ⟨[0,1,2,3,4,5,6,7,8,9],[(10,⟨[11,12],[]⟩)]⟩ [cel b3 60 i.cells] (fun w=>(Ints w s L∧i.at_ w)∧Glob w) (h:=?_))
     all_goals repeat' (first|refine ay (hsub:=by exact aK) (hy:=by first|(apply cf true;rfl;rfl;exact Zd aa)) ?_|(refine ab (hc:=hsg1) (hX:=fun w h=>⟨h.1.2,h.2⟩) ?_)|refine gdz ?_|refine ay (hsub:=by exact aK) (hy:=by first|(apply aC (q:=i.ballot.server.toNat);rfl;rfl;omega;omega;assumption;omega)|(apply dR (q:=i.ballot.server.toNat) (u:=.int .i64 pk);rfl;exact hget)) ?_|refine az ?_ (h':=?_)|exact aA|refine gs1 fun _=>?_|(refine gq ?_ ?_<;>intro hx_ this)|fail)
     all_goals
      repeat' (first|refine gs ?_|refine gs1 fun _=>?_|(refine gp ?_ ?_<;>intro hx_ this)|fail)
      exact ad (ag rfl rfl) rfl
   · have e:signedIt L i=false:=by rw [signedIt,hrB,Zd h2,Zf,Zc hlt];rfl
     rw [e]
     repeat' (first|refine aP (hab:=by omega) ?_|refine aL (hab:=by omega) ?_|(refine ab (hc:=hri) (hX:=fun w h=>h.1.2) ?_)|refine gs ?_|refine gs1 fun _=>?_|(refine gp ?_ ?_<;>intro hx_ this)|fail)
     rename_i b3
     (refine aq ⟨[0,1,2,3,4,5,6,7,8,9],[(10,⟨[11,12],[]⟩)]⟩ [cel b3 60 i.cells] (fun w=>(Ints w s L∧i.at_ w)∧Glob w) (h:=?_))
     all_goals repeat' (first|refine ay (hsub:=by exact aK) (hy:=by first|(apply cf false;rfl;rfl;exact Zc aa)) ?_|refine gdz ?_|refine az ?_ (h':=?_)|exact aA|refine gs1 fun _=>?_|(refine gq ?_ ?_<;>intro hx_ this)|fail)
     all_goals
      repeat' (first|refine gs ?_|refine gs1 fun _=>?_|(refine gp ?_ ?_<;>intro hx_ this)|fail)
      exact ad (ag rfl rfl) rfl
 by_cases h3:i.kind=3
 · rcases hk with h|h|h|h
   all_goals first|(exfalso;omega)|skip
   have h1:=h.2
   clear h
   obtain ⟨hl,hz⟩:=kg hdn h1
   have hlo:0≤i.dec.server:=(cu (by have:=h1;simp only [decR,Zp] at this;exact this.1)).1
   have hms:=ix (nm:=nameD) (by decide) (ZY (eG hz) (by decide))
   have hsg:=fun p:Int=>qj p i h3 hl (ZY hms (by decide))
   by_cases hlt:i.dec.server<(L.length:Nat)
   · have hsp':=hsp aa
     have e:signedIt L i=sgnD (L.getD i.dec.server.toNat 0) i.dec:=by rw [signedIt,hrB,Zc h2,Ze,Zd h3,Zf,Zd hlt,Zg,Zg]
     rw [e]
     have hget:∀ w,(Ints w s L∧i.at_ w)∧Glob w→CellAt w s.p i.dec.server.toNat (.int .i64 (L.getD i.dec.server.toNat 0)):=fun w h=>Ints.get h.1.1 aa
     have hsg1:=hsg (L.getD i.dec.server.toNat 0)
     generalize L.getD i.dec.server.toNat 0=pk at *
     repeat' (first|refine aP (hab:=by omega) ?_|refine aL (hab:=by omega) ?_|(refine ab (hc:=hri) (hX:=fun w h=>h.1.2) ?_)|refine gs ?_|refine gs1 fun _=>?_|(refine gp ?_ ?_<;>intro hx_ this)|fail)
     rename_i b3
     (refine aq ⟨[0,1,2,3,4,5,6,7,8,9],[(10,⟨[11,12],[]⟩)]⟩ [cel b3 60 i.cells] (fun w=>(Ints w s L∧i.at_ w)∧Glob w) (h:=?_))
     all_goals repeat' (first|refine ay (hsub:=by exact aK) (hy:=by first|(apply cf true;rfl;rfl;exact Zd aa)) ?_|(refine ab (hc:=hsg1) (hX:=fun w h=>⟨h.1.2,h.2⟩) ?_)|refine gdz ?_|refine ay (hsub:=by exact aK) (hy:=by first|(apply aC (q:=i.dec.server.toNat);rfl;rfl;omega;omega;assumption;omega)|(apply dR (q:=i.dec.server.toNat) (u:=.int .i64 pk);rfl;exact hget)) ?_|refine az ?_ (h':=?_)|exact aA|refine gs1 fun _=>?_|(refine gq ?_ ?_<;>intro hx_ this)|fail)
     all_goals
      repeat' (first|refine gs ?_|refine gs1 fun _=>?_|(refine gp ?_ ?_<;>intro hx_ this)|fail)
      exact ad (ag rfl rfl) rfl
   · have e:signedIt L i=false:=by rw [signedIt,hrB,Zc h2,Ze,Zd h3,Zf,Zc hlt];rfl
     rw [e]
     repeat' (first|refine aP (hab:=by omega) ?_|refine aL (hab:=by omega) ?_|(refine ab (hc:=hri) (hX:=fun w h=>h.1.2) ?_)|refine gs ?_|refine gs1 fun _=>?_|(refine gp ?_ ?_<;>intro hx_ this)|fail)
     rename_i b3
     (refine aq ⟨[0,1,2,3,4,5,6,7,8,9],[(10,⟨[11,12],[]⟩)]⟩ [cel b3 60 i.cells] (fun w=>(Ints w s L∧i.at_ w)∧Glob w) (h:=?_))
     all_goals repeat' (first|refine ay (hsub:=by exact aK) (hy:=by first|(apply cf false;rfl;rfl;exact Zc aa)) ?_|refine gdz ?_|refine az ?_ (h':=?_)|exact aA|refine gs1 fun _=>?_|(refine gq ?_ ?_<;>intro hx_ this)|fail)
     all_goals
      repeat' (first|refine gs ?_|refine gs1 fun _=>?_|(refine gp ?_ ?_<;>intro hx_ this)|fail)
      exact ad (ag rfl rfl) rfl
 have e:signedIt L i=true:=by rw [signedIt,hrB,Zc h2,Zc h3];rfl
 rw [e]
 repeat' (first|refine aL (hab:=by omega) ?_|(refine ab (hc:=hri) (hX:=fun w h=>h.1.2) ?_)|refine gs ?_|refine gs1 fun _=>?_|(refine gp ?_ ?_<;>intro hx_ this)|fail)
 all_goals exact ad (ag rfl rfl) rfl
def actsFor (L:List ActD) (k:PosK):List ActD:=L.filter fun a=>decide (a.seq=k.1)&&seqB a.prev k.2
structure NextD (q:Nat) (G:List (PosK×SlV)) (L:List ActD) (w:World):Prop where
 map:SMapAt Tryz.prog 129 w q (G.map fun g=>(g.1,g.2.v))
 rows:∀ k,Acts w ((dget G k).getD ⟨none,0,0⟩) (actsFor L k)
theorem iF {κ β γ:Type} [DecidableEq κ] (f:β→γ):∀ (l:List (κ×β)) (k:κ),dget (l.map fun p=>(p.1,f p.2)) k=(dget l k).map f
 | [],_=>rfl
 | (k',v')::r,k=>by
  simp only [Z1,dget,iF f r k]
  cases decide (k=k')<;>rfl
theorem Cg {st:ChS} {h:BldH} {sa sk:SlV} {id:ByteArray} (hid:h.id=id) (hn:sa.n=st.acts.length) (a:ActD) (pl:Option Nat):fitsV ⟨h.id,sa,sk,st.prev,(st.gen:Nat),h.fork,st.acts⟩ a pl=fitsV (st.ch id) a pl:=by
 subst hid
 obtain ⟨p,n,c⟩:=sa
 simp only at hn
 subst hn
 rfl
theorem pI (l:List KeyD):∀ r∈l.map KeyD.cells,r.length=3:=fun r hr=>by
 obtain ⟨c,_,rfl⟩:=QI.1 hr
 rfl
theorem pz {l:List ActD} (h:l.length≠1):oneA l=none:=by
 match l,h with
 | [],_=>rfl
 | [x],h=>exact absurd rfl h
 | x::y::r,_=>rfl
structure CanI (M:List ActD) (B:ActD→Bool) where
 k:Nat
 hk:k≤M.length
 A:Option Addr
 c:Nat
 n:Nat
 hn:n=((M.take k).filter B).length
 xs:List Value
 hxs:xs=(((M.take k).filter B).map ActD.cells).flatten
theorem qU (b:Nat) (h:BldH) (sa sk:SlV) (st:ChS) (pl:List (ByteArray×Value)) (ok:BldOk sa sk st pl) (W:OfW) (G:List (PosK×SlV)) (hI:InvS W st) (hid:h.id=W.id)
  (hok:ActsOk W.L) (hL:W.L.length≤100000) (hB:W.B≤100000)
  (hver:∀ a∈W.L,∀ p:Int,Pu Tryz.prog 64 #[.int .i64 p,a.v] (fun w=>a.at_ w∧Glob w) (.bool (W.ver p a))) :
  Ct Tryz.prog 68 #[.pointer (some ⟨b,0,none⟩)] (bldR b h sa sk st pl) (fun w=>(NextD h.q1 G W.L w∧∀ a∈W.L,a.at_ w)∧Glob w)
   (fun u R _=>(∀ a,oneA (candL W st)=some a→BldAt b h (addS st a) (.bool true) u R)∧(oneA (candL W st)=none→BldAt b { h with fork:=decide (1<(candL W st).length) } st (.bool false) u R)):=by
 have hlen:=hI.len
 have hkn:=hI.keyn
 have hgen:=hI.gen
 have ok':=ok
 obtain ⟨hn,hk,hp⟩:=ok
 refine dN (args:=[_]) _ Tryz.func68 rfl Tryz.ntmps68 rfl fun av bor w0=>?_
 obtain ⟨K,hK⟩:∃ K,st.keys[st.keys.length-1]?=some K:=⟨_,Zb (by have:=hI.key;omega)⟩
 have hKey:st.key=K.public_:=by rw [ChS.key,Zo,hK];rfl
 have hk0:=hI.key
 obtain ⟨M,hM⟩:∃ M,actsFor W.L ((sa.n:Int),st.prev)=M:=⟨_,rfl⟩
 have hcand:candL W st=M.filter (candB W st):=by rw [candL,←hM,actsFor,hn];rfl
 have hMm:∀ a∈M,a∈W.L:=fun a ha=>by rw [←hM] at ha;exact (QM.1 ha).1
 have hMl:M.length≤W.L.length:=by rw [←hM];exact Qa _ _
 obtain ⟨s,hs⟩:∃ s,(dget G ((sa.n:Int),st.prev)).getD ⟨none,0,0⟩=s:=⟨_,rfl⟩
 have hgl:∃ o,dget (G.map fun g=>(g.1,g.2.v)) ((sa.n:Int),st.prev)=o∧o.getD (.slice none 0 0)=s.v:=by
  refine ⟨_,rfl,?_⟩
  rw [iF,←hs]
  cases dget G ((sa.n:Int),st.prev)<;>rfl
 obtain ⟨o,ho,hov⟩:=hgl
 refine aM (p:=s.n=M.length∧s.n≤maxLen∧(0<M.length→s.p.isSome=true)) (fun w h=>by
  have h1:=h.1.1.rows ((sa.n:Int),st.prev)
  rw [hs,hM] at h1
  exact ⟨h1.len_,h1.max_,h1.some_⟩) fun ⟨hsn,hsm,hsp⟩=>?_
 simp only [maxLen] at hsm
 have hro:∀ w,((NextD h.q1 G W.L w∧∀ a∈W.L,a.at_ w)∧Glob w)→Acts w s M:=fun w h=>by
  have h1:=h.1.1.rows ((sa.n:Int),st.prev)
  rwa [hs,hM] at h1
 unfold bldR keyR actR
 refine cK (r:=orow 133 3 (.slice sk.p sk.n sk.c) sk.n (st.keys.map KeyD.cells).flatten) bz (p:=sk.p.isSome=true) (fun w h=>cA h aa) fun hkp=>?_
 repeat' (first|refine gs ?_|refine gs1 fun _=>?_|(refine gp ?_ ?_<;>intro hx_ this)|fail)
 rename_i b1
 have hLOC:True:=trivial
 (refine aq ⟨[0,1,2,3,4,5,6,7,8,9,10,11,12,13],[]⟩ [cel b1 122 [.pointer (some ⟨b,0,none⟩)],cel b 126 (bldC h sa sk st.prev (st.gen:Nat)),orow 46 20 (.slice sa.p sa.n sa.c) sa.n (st.acts.map ActD.cells).flatten,orow 133 3 (.slice sk.p sk.n sk.c) sk.n (st.keys.map KeyD.cells).flatten,mapr h.q2 pl] (fun w=>(NextD h.q1 G W.L w∧∀ a∈W.L,a.at_ w)∧Glob w) (h:=?_))
 all_goals repeat' (first|refine gdz ?_|refine ay (hsub:=by exact aK) (hy:=by first|(apply aC (q:=(sk.n-1)*3);rfl;rfl;omega;omega;assumption;omega)|(apply jg;rfl;assumption;rfl)|(apply gH (xs:=st.keys.map KeyD.cells) (cs:=K.cells) (i:=sk.n-1) (j:=1) (u:=.int .i64 K.public_);rfl;(repeat (first|exact ax|apply Zv));(simp [hk]);exact pI st.keys;(simp [hk,hK]);rfl)) ?_|refine az ?_ (h':=?_)|exact aA|refine gs1 fun _=>?_|(refine gq ?_ ?_<;>intro hx_ this)|fail)
 repeat' (first|refine gs ?_|refine gs1 fun _=>?_|(refine eB ?_)|(refine gp ?_ ?_<;>intro hx_ this)|fail)
 (refine aq ⟨[0,1,2,3,4,5,6,7,8,9,10,11,12,13,16],[(14,⟨[15],[]⟩)]⟩ [cel b1 122 [.pointer (some ⟨b,0,none⟩)],cel b 126 (bldC h sa sk st.prev (st.gen:Nat)),orow 46 20 (.slice sa.p sa.n sa.c) sa.n (st.acts.map ActD.cells).flatten,orow 133 3 (.slice sk.p sk.n sk.c) sk.n (st.keys.map KeyD.cells).flatten,mapr h.q2 pl] (fun w=>(NextD h.q1 G W.L w∧∀ a∈W.L,a.at_ w)∧Glob w) (h:=?_))
 all_goals repeat' (first|refine gdz ?_|refine ay (hsub:=by exact aK) (hy:=by first|(apply ft (cs:=[.int .i64 (sa.n:Nat),.string st.prev]);rfl;rfl)) ?_|refine az ?_ (h':=?_)|exact aA|(refine ai (oY (κ:=PosK) (kk:=((sa.n:Int),st.prev)) (z:=.slice none 0 0) (o:=o) (v:=s.v) rfl rfl (rM fun w h=>h.1.1.map) ho hov) rfl rfl rfl ?_)|refine gs1 fun _=>?_|(refine gq ?_ ?_<;>intro hx_ this)|fail)
 apply QS
 refine cJ 46 20 ?_
 refine ar (ι:=CanI M (candB W st)) (fun i=>⟨[(1,.pointer (some ⟨b1,0,none⟩)),(3,.pointer (some ⟨b,2,none⟩)),(4,.int .i64 K.public_),(5,.func (.func 118) #[] #[.pointer (some ⟨b1,0,none⟩)]),(6,.slice i.A i.n i.c),(40,s.v),(41,.int .i64 (s.n:Nat)),(42,.int .i64 (i.k:Nat))],[orow 46 20 (.slice i.A i.n i.c) i.n i.xs,cel b1 122 [.pointer (some ⟨b,0,none⟩)],cel b 126 (bldC h sa sk st.prev (st.gen:Nat)),orow 46 20 (.slice sa.p sa.n sa.c) sa.n (st.acts.map ActD.cells).flatten,orow 133 3 (.slice sk.p sk.n sk.c) sk.n (st.keys.map KeyD.cells).flatten,mapr h.q2 pl],(fun w=>(NextD h.q1 G W.L w∧∀ a∈W.L,a.at_ w)∧Glob w)⟩) (fun i=>M.length-i.k) ⟨0,Z4 _,none,0,0,rfl,[],rfl⟩ (aj qZq9 (al _) fun _ h=>h) fun i=>?_
 obtain ⟨k,hk',A,cc,n,hn',xs,hxs⟩:=i
 simp only
 have hnl:n≤100000:=by have h1:=Qa (candB W st) (M.take k);rw [←hn',Qi] at h1;omega
 repeat' (first|refine gs ?_|refine gs1 fun _=>?_|(refine gp ?_ ?_<;>intro hx_ this)|fail)
 · have hlt:k<M.length:=by omega
   have hsp':=hsp aa
   obtain ⟨a,ha⟩:∃ a,M[k]?=some a:=⟨_,Zb hlt⟩
   have ham:a∈M:=Z6 ha
   repeat' (first|refine gs ?_|refine gs1 fun _=>?_|(refine aO (q:=k*20) ?_)|(refine ca (cs:=a.cells) (hF:=fun w h=>Acts.get (hro w h) ha) ?_)|(refine gp ?_ ?_<;>intro hx_ this)|fail)
   rename_i b8
   have hf:=Eu ⟨h.id,sa,sk,st.prev,(st.gen:Nat),h.fork,st.acts⟩ a 118 [.pointer (some ⟨b1,0,none⟩)] (idxV st.acts a.object) _ (Cz b b1 h sa sk st pl hp a.object) (fun j hj=>wv hj)
   rw [Cg hid hn] at hf
   have hXf:∀ w,((NextD h.q1 G W.L w∧∀ a∈W.L,a.at_ w)∧Glob w)→(∀ r∈[cel b8 46 a.cells,orow 46 20 (.slice A n cc) n xs,cel b1 122 [.pointer (some ⟨b,0,none⟩)],cel b 126 (bldC h sa sk st.prev (st.gen:Nat)),orow 46 20 (.slice sa.p sa.n sa.c) sa.n (st.acts.map ActD.cells).flatten,orow 133 3 (.slice sk.p sk.n sk.c) sk.n (st.keys.map KeyD.cells).flatten,mapr h.q2 pl],r.F w)→(ChainD.at_ w ⟨h.id,sa,sk,st.prev,(st.gen:Nat),h.fork,st.acts⟩∧a.at_ w∧CelD b1 [.pointer (some ⟨b,0,none⟩)] w∧CelD b (bldC h sa sk st.prev (st.gen:Nat)) w∧MapAt w h.q2 pl):=fun w hw hr =>
    ⟨eP (hr _ (.tail _ (.tail _ (.tail _ (.tail _ (.head _)))))) hn (fun x hx=>hw.1.2 x (hI.mem x hx)),hw.1.2 a (hMm a ham),fC (hr _ (.tail _ (.tail _ (.head _)))),fC (hr _ (.tail _ (.tail _ (.tail _ (.head _))))),hr _ (.tail _ (.tail _ (.tail _ (.tail _ (.tail _ (.tail _ (.head _)))))))⟩
   have hv:=hver a (hMm a ham) K.public_
   have htk:((M.take (k+1)).filter (candB W st))=(M.take k).filter (candB W st)++(bif candB W st a then [a] else []):=by
    rw [Qg,ha,Qv,Qu]
    congr 1
   have hcb:candB W st a=(fitsV (st.ch W.id) a (idxV st.acts a.object)&&W.ver K.public_ a):=by rw [candB,hKey]
   cases hfv:fitsV (st.ch W.id) a (idxV st.acts a.object) with
   | false =>
    rw [hfv] at hf hcb
    have hno:(M.take (k+1)).filter (candB W st)=(M.take k).filter (candB W st):=by simp [htk,hcb]
    (refine aq ⟨[0,1,2,3,4],[(5,⟨[6,7,8],[(9,⟨[10],[]⟩)]⟩)]⟩ [cel b8 46 a.cells,orow 46 20 (.slice A n cc) n xs,cel b1 122 [.pointer (some ⟨b,0,none⟩)],cel b 126 (bldC h sa sk st.prev (st.gen:Nat)),orow 46 20 (.slice sa.p sa.n sa.c) sa.n (st.acts.map ActD.cells).flatten,orow 133 3 (.slice sk.p sk.n sk.c) sk.n (st.keys.map KeyD.cells).flatten,mapr h.q2 pl] (fun w=>(NextD h.q1 G W.L w∧∀ a∈W.L,a.at_ w)∧Glob w) (h:=?_))
    all_goals repeat' (first|(refine ng (hc:=hf) (hX:=hXf) ?_)|(refine ab (hc:=hv) (hX:=fun w h=>⟨h.1.2 a (hMm a ham),h.2⟩) ?_)|refine gdz ?_|refine ay (hsub:=by exact aK) (hy:=by first|(apply cC (vs:=[.string h.id,.slice sa.p sa.n sa.c,.slice sk.p sk.n sk.c,.string st.prev,.int .i64 (st.gen:Nat),.bool h.fork]);rfl;(repeat (first|exact ax|apply Zv));rfl;rfl)) ?_|refine az ?_ (h':=?_)|exact aA|refine gs1 fun _=>?_|(refine gq ?_ ?_<;>intro hx_ this)|fail)
    all_goals
     repeat' (first|refine gs ?_|refine gs1 fun _=>?_|(refine gp ?_ ?_<;>intro hx_ this)|fail)
     exact ⟨(⟨k+1,hlt,A,cc,n,by rw [hno];exact hn',xs,by rw [hno];exact hxs⟩:CanI M (candB W st)),(by show M.length-(k+1)<M.length-k;omega),aj qZq9 (Z2 _ (al _)) fun _ h=>h⟩
   | true =>
    rw [hfv] at hf hcb
    cases hve:W.ver K.public_ a with
    | false =>
     rw [hve] at hv hcb
     have hno:(M.take (k+1)).filter (candB W st)=(M.take k).filter (candB W st):=by simp [htk,hcb]
     (refine aq ⟨[0,1,2,3,4],[(5,⟨[6,7,8],[(9,⟨[10],[]⟩)]⟩)]⟩ [cel b8 46 a.cells,orow 46 20 (.slice A n cc) n xs,cel b1 122 [.pointer (some ⟨b,0,none⟩)],cel b 126 (bldC h sa sk st.prev (st.gen:Nat)),orow 46 20 (.slice sa.p sa.n sa.c) sa.n (st.acts.map ActD.cells).flatten,orow 133 3 (.slice sk.p sk.n sk.c) sk.n (st.keys.map KeyD.cells).flatten,mapr h.q2 pl] (fun w=>(NextD h.q1 G W.L w∧∀ a∈W.L,a.at_ w)∧Glob w) (h:=?_))
     all_goals repeat' (first|(refine ng (hc:=hf) (hX:=hXf) ?_)|(refine ab (hc:=hv) (hX:=fun w h=>⟨h.1.2 a (hMm a ham),h.2⟩) ?_)|refine gdz ?_|refine ay (hsub:=by exact aK) (hy:=by first|(apply cC (vs:=[.string h.id,.slice sa.p sa.n sa.c,.slice sk.p sk.n sk.c,.string st.prev,.int .i64 (st.gen:Nat),.bool h.fork]);rfl;(repeat (first|exact ax|apply Zv));rfl;rfl)) ?_|refine az ?_ (h':=?_)|exact aA|refine gs1 fun _=>?_|(refine gq ?_ ?_<;>intro hx_ this)|fail)
     all_goals
      repeat' (first|refine gs ?_|refine gs1 fun _=>?_|(refine gp ?_ ?_<;>intro hx_ this)|fail)
      exact ⟨(⟨k+1,hlt,A,cc,n,by rw [hno];exact hn',xs,by rw [hno];exact hxs⟩:CanI M (candB W st)),(by show M.length-(k+1)<M.length-k;omega),aj qZq9 (Z2 _ (al _)) fun _ h=>h⟩
    | true =>
     rw [hve] at hv hcb
     have hyes:(M.take (k+1)).filter (candB W st)=(M.take k).filter (candB W st)++[a]:=by rw [htk,hcb];rfl
     (refine aq ⟨[0,1,2,3,4],[(5,⟨[6,7,8],[(9,⟨[10],[]⟩)]⟩)]⟩ [cel b8 46 a.cells,orow 46 20 (.slice A n cc) n xs,cel b1 122 [.pointer (some ⟨b,0,none⟩)],cel b 126 (bldC h sa sk st.prev (st.gen:Nat)),orow 46 20 (.slice sa.p sa.n sa.c) sa.n (st.acts.map ActD.cells).flatten,orow 133 3 (.slice sk.p sk.n sk.c) sk.n (st.keys.map KeyD.cells).flatten,mapr h.q2 pl] (fun w=>(NextD h.q1 G W.L w∧∀ a∈W.L,a.at_ w)∧Glob w) (h:=?_))
     all_goals repeat' (first|(refine ng (hc:=hf) (hX:=hXf) ?_)|(refine ab (hc:=hv) (hX:=fun w h=>⟨h.1.2 a (hMm a ham),h.2⟩) ?_)|refine gdz ?_|refine ay (hsub:=by exact aK) (hy:=by first|(apply cC (vs:=[.string h.id,.slice sa.p sa.n sa.c,.slice sk.p sk.n sk.c,.string st.prev,.int .i64 (st.gen:Nat),.bool h.fork]);rfl;(repeat (first|exact ax|apply Zv));rfl;rfl)) ?_|refine az ?_ (h':=?_)|exact aA|refine gs1 fun _=>?_|(refine gq ?_ ?_<;>intro hx_ this)|fail)
     all_goals
      repeat' (first|refine du (size:=20) (vs:=[a.v]) (css:=a.cells) (hsz:=by rfl) (hcs:=by rfl) fun _=>?_|refine gs ?_|refine gs1 fun _=>?_|(refine gp ?_ ?_<;>intro hx_ this)|fail)
      refine aN (size:=20) (news:=a.cells) (q:=1) rfl rfl rfl rfl (fun _=>At.there _ (At.there _ (At.here _))) (fun w G=>bX G ax rfl rfl 1) aa (by simp only [maxLen];omega) rfl ?_ rfl ?_
      · (first|with_reducible rfl|with_reducible assumption|with_reducible exact Zl|with_reducible exact Zn)
      intro A2 c2
      repeat' (first|refine gs ?_|refine gs1 fun _=>?_|(refine gp ?_ ?_<;>intro hx_ this)|fail)
      exact ⟨(⟨k+1,hlt,A2,c2,n+1,by rw [hyes,ZA,←hn'];rfl,xs++a.cells,by rw [hyes,hxs];simp⟩:CanI M (candB W st)),(by show M.length-(k+1)<M.length-k;omega),aj qZq9 (Z2 _ (Z2 _ (al _))) fun _ h=>h⟩
 have hkE:k=M.length:=by omega
 have hfin:candL W st=(M.take k).filter (candB W st):=by rw [hcand,hkE,Qh]
 have hnc:n=(candL W st).length:=by rw [hfin];exact hn'
 · have hn1:n≠1:=by
    intro e
    rw [e] at hx_
    exact absurd hx_ (by decide)
   have hone:oneA (candL W st)=none:=pz aa
   have hdc:decide ((1:Int)<(n:Int))=decide (1<(candL W st).length):=by
    rw [←hnc]
    by_cases h1:1<n
    · rw [Zd h1,Zd (by omega)]
    · rw [Zc h1,Zc (by omega)]
   refine ad (ag rfl rfl) ⟨bldR b { h with fork:=decide ((1:Int)<(n:Int)) } sa sk st pl,Z2 _ (Z2 _ (al _)),fun a ha=>?_,fun _=>?_⟩
   · rw [hone] at ha
     cases ha
   · rw [←hdc]
     exact ⟨rfl,sa,sk,pl,ok',rfl⟩
 have hkE:k=M.length:=by omega
 have hfin:candL W st=(M.take k).filter (candB W st):=by rw [hcand,hkE,Qh]
 have hnc:n=(candL W st).length:=by rw [hfin];exact hn'
 have hn1:n=1:=by
  by_cases e:n=1
  · exact e
  · exact absurd hx_ (by simp;omega)
 obtain ⟨a,ha⟩:∃ a,candL W st=[a]:=List.length_eq_one_iff.1 aa
 have ham:a∈W.L:=(km (show a∈candL W st from by rw [ha];exact Z5.2 rfl)).1
 have hxa:xs=a.cells:=by rw [hxs,←hfin,ha];simp
 subst hxa
 subst hn1
 refine cK (r:=orow 46 20 (.slice A 1 cc) 1 a.cells) bz (p:=A.isSome=true) (fun w h=>cA h (by decide)) fun hAp=>?_
 have had:=CO b h sa sk st pl ok' a (hok.rng a ham) (hok.sm a ham) aa aa
 (refine aq ⟨[1,2],[(0,⟨[],[(3,⟨[],[(4,⟨[],[]⟩)]⟩)]⟩),(3,⟨[],[(0,⟨[],[(4,⟨[],[]⟩)]⟩)]⟩)]⟩ [] (fun _=>True) (h:=?_))
 all_goals repeat' (first|refine gd ?_|refine ay (hy:=by first|(apply aC (q:=0);rfl;rfl;omega;omega;assumption;rfl)) ?_|refine az ?_ (h':=?_)|exact aA|((refine ai (ib (size:=20) (m:=1) (i:=0) (xs:=[a.cells]) (cs:=a.cells) rfl (by exact ax) rfl (fun r hr=>by rw [Z5.1 hr];rfl) rfl) rfl rfl rfl ?_))|((refine dc (l:=bldR b h sa sk st pl++[orow 46 20 (.slice A 1 cc) 1 a.cells,cel b1 122 [.pointer (some ⟨b,0,none⟩)]]) (QP (l₁:=[orow 46 20 (.slice A 1 cc) 1 a.cells,cel b1 122 [.pointer (some ⟨b,0,none⟩)]]) (l₂:=bldR b h sa sk st pl)) ?_;refine cj (pre:=bldR b h sa sk st pl) (fr:=[orow 46 20 (.slice A 1 cc) 1 a.cells,cel b1 122 [.pointer (some ⟨b,0,none⟩)]]) (first:=#[]) (caps:=#[]) (hc:=had) (hX:=fun w hw=>⟨hw.1.2 a ham,hw.2⟩) (h:=?_);rintro v R X' ⟨rfl,sa2,sk2,pl2,ok2,rfl⟩;simp only [bldR,ZK,ZL]))|refine gs1 fun _=>?_|(refine gq ?_ ?_<;>intro hx_ this)|fail)
 all_goals
  repeat' (first|refine gs ?_|refine gs1 fun _=>?_|(refine gp ?_ ?_<;>intro hx_ this)|fail)
  refine ad (ag rfl rfl) ⟨bldR b h sa2 sk2 (addS st a) pl2,QD _ _,fun a' ha'=>?_,fun ho=>?_⟩
  · rw [ha,oneA,ZM] at ha'
    subst ha'
    exact ⟨rfl,sa2,sk2,pl2,ok2,rfl⟩
  · rw [ha] at ho
    cases ho
end Go.Proofs.YtaolfiikahlmkaaGreatDoor
namespace Go.Proofs.YtaolfiikahlmkaaGreatDoor
open Go Go.Proofs Sy
structure Grp where
 s:SlV
 l:List ActD
def grpR (g:PosK×Grp):Res:=actR g.2.s g.2.l
theorem tG {κ β γ:Type} [DecidableEq κ] (f:β→γ):∀ (l:List (κ×β)) (k:κ) (v:β),(dput l k v).map (fun p=>(p.1,f p.2))=dput (l.map fun p=>(p.1,f p.2)) k (f v)
 | [],_,_=>rfl
 | (k',v')::r,k,v=>by
  simp only [dput,Z1,←tG f r k v]
  cases decide (k=k')<;>rfl
theorem tu {κ β:Type} [DecidableEq κ] (R:κ×β→Res):∀ (G:List (κ×β)) (k:κ),∃ rest:List Res,(∀ g',((dput G k g').map R).Perm (R (k,g')::rest))∧(∀ g,dget G k=some g→(G.map R).Perm (R (k,g)::rest))∧(dget G k=none→rest=G.map R)
 | [],k=>⟨[],fun g'=>Qn _,fun g h=>(by cases h),fun _=>rfl⟩
 | (k',v')::r,k=>by
  by_cases e:k=k'
  · subst e
    refine ⟨r.map R,fun g'=>?_,fun g h=>?_,fun h=>?_⟩
    · simp [dput]
    · simp only [dget,Zt,Zf,ZM] at h
      subst h
      exact Qn _
    · simp [dget] at h
  · obtain ⟨rest,h1,h2,h3⟩:=tu R r k
    refine ⟨R (k',v')::rest,fun g'=>?_,fun g h=>?_,fun h=>?_⟩
    · have:=(h1 g').cons (R (k',v'))
      simp only [dput,e,Zr,Ze,Z1]
      exact this.trans (List.Perm.swap _ _ _)
    · simp only [dget,e,Zr,Ze] at h
      exact ((h2 g h).cons (R (k',v'))).trans (List.Perm.swap _ _ _)
    · simp only [dget,e,Zr,Ze] at h
      rw [h3 h]
      rfl
theorem permG {x O:Res} {C rest R:List Res} (h:R.Perm (O::rest)):(x::O::(C++rest)).Perm (x::(C++R)):=((List.perm_middle.symm).trans (h.symm.append_left C)).cons x
theorem permH {c m sm c4:Res} {R:List Res}:([c,m,sm,c4]++R).Perm ((sm::R)++[c,m,c4]):=(List.perm_middle (l₁:=[c,m])).trans (List.Perm.cons sm (QP (l₁:=[c,m,c4])))
theorem permK {an kb o c m c4:Res}:[an,kb,o,c,m,c4].Perm [c,an,kb,m,o,c4]:=(List.perm_middle (l₁:=[an,kb,o])).trans (.cons _ (.cons _ (.cons _ (.swap _ _ _))))
def grpL (o:Option Grp):List ActD:=(o.map Grp.l).getD []
def grpS (o:Option Grp):SlV:=(o.map Grp.s).getD ⟨none,0,0⟩
structure GrpOk (G:List (PosK×Grp)) (L:List ActD):Prop where
 all:∀ k,grpL (dget G k)=actsFor L k
 len:∀ k g,dget G k=some g→g.s.n=g.l.length
theorem rk (L:List ActD) (a:ActD) (k:PosK):actsFor (L++[a]) k=actsFor L k++(bif decide (k=((a.seq,a.prev):PosK)) then [a] else []):=by
 rw [actsFor,actsFor,Qv]
 congr 1
 obtain ⟨n,p⟩:=k
 by_cases h1:a.seq=n
 · by_cases h2:a.prev=p
   · subst h1;subst h2;simp [List.filter,cW]
   · have hb:seqB a.prev p=false:=by
      cases h:seqB a.prev p with
      | false=>rfl
      | true=>exact absurd (seqB_iff.1 h) h2
     have hne:¬ ((n,p):PosK)=(a.seq,a.prev):=fun e=>h2 (congrArg Prod.snd e).symm
     simp [List.filter,hb,hne]
 · have hne:¬ ((n,p):PosK)=(a.seq,a.prev):=fun e=>h1 (congrArg Prod.fst e).symm
   simp [List.filter,h1,hne]
theorem GrpOk.step {G:List (PosK×Grp)} {L:List ActD} (h:GrpOk G L) (a:ActD) (s':SlV) (hs:s'.n=(grpL (dget G ((a.seq,a.prev):PosK))).length+1) :
  GrpOk (dput G ((a.seq,a.prev):PosK) ⟨s',grpL (dget G ((a.seq,a.prev):PosK))++[a]⟩) (L++[a]):=by
 refine ⟨fun k=>?_,fun k g hg=>?_⟩
 · rw [rk,kY]
   by_cases e:k=((a.seq,a.prev):PosK)
   · subst e
     simp only [Zt,Zf]
     rw [←h.all]
     rfl
   · rw [Zc e,Ze,Ze,ZJ]
     exact h.all k
 · rw [kY] at hg
   by_cases e:k=((a.seq,a.prev):PosK)
   · subst e
     simp only [Zt,Zf,ZM] at hg
     subst hg
     rw [ZA]
     exact hs
   · rw [Zc e,Ze] at hg
     exact h.len k g hg
namespace Sy
section
variable {P:Program} {N:Nat} {av bor:List Nat} {w0:World} {E:Env} {loc:List Res} {X:World→Prop} {K:Exit→St→Prop} {c:Code}
theorem Gam.giveL {w:World}:∀ (L:List Res) {X:World→Prop},Gam av bor w0 (L++loc) X w→Gam av bor w0 loc (fun w=>X w∧∀ r∈L,r.F w) w
  | [],X,G=>G.imp fun _ h=>⟨h,by simp⟩
  | r :: L,X,G=>(Gam.giveL L (Gam.give (r:=r) (loc:=L++loc) G)).imp fun w h=>⟨h.1.1,fun q hq=>by
      rcases ZI.1 hq with rfl|hq
      · exact h.1.2
      · exact h.2 q hq⟩
theorem AU {ops:Array Oper} {rest:List Oper} {k:St→Prop} (L:List Res) (h:Sw P N av bor w0 ops rest ⟨E,loc,fun w=>X w∧∀ r∈L,r.F w⟩ k):Sw P N av bor w0 ops rest ⟨E,L++loc,X⟩ k:=Sw.mk fun a w ok=>h.run a w (ok.via fun M G=>by
 rw [ZC] at G
 exact G.giveL L)
theorem Cx {b e:Nat} {cs:List Value} (size m:Nat) (hl:cs.length=m*size:=by rfl) (hm:m≤maxLen) (h:Cw P N av bor w0 c ⟨E,orow e size (.slice (some ⟨b,0,none⟩) m m) m cs::loc,X⟩ K):Cw P N av bor w0 c ⟨E,cel b e cs::loc,X⟩ K:=Cw.mk fun a w ok=>h.run a w (ok.via fun M G=>G.orow hl hm)
theorem ov {l:List Res} (hs:loc.Perm l) (h:Cw P N av bor w0 c ⟨E,l,X⟩ K):Cw P N av bor w0 c ⟨E,loc,X⟩ K:=Cw.mk fun a w ok=>h.run a w (ok.via fun M G=>G.perm (hs.append_right M))
end
end Sy
section
variable {N:Nat} {av bor:List Nat} {w0:World} {E:Env} {X:World→Prop} {K:Exit→St→Prop} {c:Code}
theorem GD {G:List (PosK×Grp)} {k:PosK} {rest:List Res} (C:List Res) (h2:∀ g,dget G k=some g→(G.map grpR).Perm (grpR (k,g)::rest)) (h3:dget G k=none→rest=G.map grpR)
  (h:Cw Tryz.prog N av bor w0 c ⟨E,actR (grpS (dget G k)) (grpL (dget G k))::(C++rest),X⟩ K):Cw Tryz.prog N av bor w0 c ⟨E,C++G.map grpR,X⟩ K:=by
 cases hd:dget G k with
 | none =>
  rw [hd,h3 hd] at h
  exact cJ 46 20 h
 | some g =>
  rw [hd] at h
  exact ov (((h2 g hd).append_left C).trans List.perm_middle) h
end
theorem Ec {q:Nat} {G:List (PosK×Grp)} {L:List ActD} (h:GrpOk G L) {w:World} (hm:SMapAt Tryz.prog 129 w q (G.map fun g=>(g.1,g.2.s.v))) (hr:∀ r∈G.map grpR,r.F w) (ha:∀ a∈L,a.at_ w) :
  NextD q (G.map fun g=>(g.1,g.2.s)) L w:=by
 refine ⟨by rw [Z0];exact hm,fun k=>?_⟩
 rw [iF,←h.all k]
 have hsub:∀ a∈grpL (dget G k),a.at_ w:=fun a h1=>by
  rw [h.all k] at h1
  exact ha a (QM.1 h1).1
 cases hd:dget G k with
 | none=>exact ⟨aY w 20,fun a h=>by cases h⟩
 | some g =>
  rw [hd] at hsub
  have hg:=hr (grpR (k,g)) (List.mem_map_of_mem (tH hd))
  exact eP hg (h.len k g hd) hsub
end Go.Proofs.YtaolfiikahlmkaaGreatDoor
