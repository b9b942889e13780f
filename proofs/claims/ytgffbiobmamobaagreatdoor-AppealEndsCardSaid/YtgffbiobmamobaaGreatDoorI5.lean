/- Joined. -/
import Derived.Test.YtgffbiobmamobaaGreatDoorI0
import Derived.Test.YtgffbiobmamobaaGreatDoorI4
set_option linter.unusedVariables false
set_option linter.unusedSimpArgs false
set_option maxHeartbeats 16000000
namespace Go.Proofs.YtgffbiobmamobaaGreatDoor
open Go Go.Proofs Sy
theorem vc {N:Nat} {av bor:List Nat} {w0:World} {E:Env} {loc:List Xl} {X:World→Prop} {ty:TypeId}:Sy.Yields Tryz.prog N av bor w0 ⟨E,loc,X⟩ (.build 69 #[]) ty Xw.zero.v:=Sy.Yields.mk fun a w ok d pos af g=>by
 simp [execOp,Instr.build,dT (Xn.out (P:=Tryz.prog) (t:=69)),run_underlying Tryz.underlying69,Instr.fill,Value.cells,Xw.zero,Xw.v,Xw.cells,run_sizeOf]
def boxEq (a b:Xw):Bool:=seqB a.nonce b.nonce&&seqB a.data b.data&&seqB a.tag b.tag
theorem qX:Tryz.prog.underlying 69=some (.struct (Tryz.prog.fieldsOf 69)):=by kernel_rfl
theorem uJ:Tryz.prog.stoodInHeld 69=false:=by kernel_rfl
theorem uK:Tryz.prog.eqGuardType Tryz.prog.depth 69=false:=by kernel_rfl
theorem te (w:World) (a b:Xw):(Op.equalIn 10000 69 a.v b.v).run Tryz.prog w=.ok (boxEq a b) w:=by
 have e:(10000:Nat)=9999+1:=rfl
 have e2:(9999:Nat)=9998+1:=rfl
 rw [Xw.v,Xw.v,e,run_equalIn_agg _ _ _ _ _ qX uJ]
 have hf:(Tryz.prog.fieldsOf 69).toList.map (fun f=>(f.name,f.type,f.offset))=[("Nonce",9,0),("Data",9,1),("Tag",9,2)]:=by kernel_rfl
 generalize (Tryz.prog.fieldsOf 69).toList=l at hf
 rcases l with _|⟨f1,_|⟨f2,_|⟨f3,_|⟨f4,l⟩⟩⟩⟩
 case cons.cons.cons.nil =>
  simp only [List.map_cons,List.map_nil,List.cons.injEq,Prod.mk.injEq,and_true] at hf
  obtain ⟨⟨n1,t1,o1⟩,⟨n2,t2,o2⟩,n3,t3,o3⟩:=hf
  have hag:=fun w=>(bI (Xv.out (P:=Tryz.prog) (t:=9)) w).1
  have hst:=fun (x y:ByteArray) (w:World)=>run_equalIn_string (P:=Tryz.prog) w 9998 9 x y X8.out
  cases h1:seqB a.nonce b.nonce<;>cases h2:seqB a.data b.data<;>cases h3:seqB a.tag b.tag <;>
  · simp only [seqB] at h1 h2 h3
    simp [Op.eqFields,n1,n2,n3,t1,t2,t3,o1,o2,o3,part,hag,Xw.cells,e2,hst,h1,h2,h3,boxEq,seqB]
 all_goals (have:=congrArg List.length hf;simp at this)
theorem x6 {N:Nat} {av bor:List Nat} {w0:World} {E:Env} {loc:List Xl} {X:World→Prop} {ty t2:TypeId} {x y:Operand} {a b:Xw} (hx:ev E x=some a.v) (hy:ev E y=some b.v) :
  Sy.Yields Tryz.prog N av bor w0 ⟨E,loc,X⟩ (.binOp .eql 69 x y t2) ty (.bool (boxEq a b)):=Sy.Yields.mk fun A w ok d pos af g=>by
 have h1:=run_eql_struct (P:=Tryz.prog) w 69 a.cells.toArray b.cells.toArray
 have h2:=te w a b
 simp only [Xw.v] at h2
 rw [h2] at h1
 simp [execOp,ok.eval (st:=⟨E,loc,X⟩) hx,ok.eval (st:=⟨E,loc,X⟩) hy,Xw.v,run_eqGuard_agg _ _ _ _ _ _ _ uK,h1]
section
variable {N:Nat} {av bor:List Nat} {w0:World} {ops:Array Oper} {rest:List Oper} {kk:St→Prop} {E:Env} {loc:List Xl} {X:World→Prop} {n:Nat} {ty t2:TypeId} {pos:String} {af:Array Edge} {g:Option (Nat×Bool)} {bb want:Bool} {x y:Operand} {a b:Xw}
theorem lN (h:Sw Tryz.prog N av bor w0 ops rest ⟨(n,Xw.zero.v)::E,loc,X⟩ kk) (hg:gdB ops E g=some (bb,want):=by rfl) (hbb:bb=want:=by exact ax) (hd:Nat.blt n N=true:=by rfl) :
  Sw Tryz.prog N av bor w0 ops (⟨some n,.build 69 #[],ty,pos,af,g⟩::rest) ⟨E,loc,X⟩ kk:=am vc hg hbb hd h
theorem kj (h:Sw Tryz.prog N av bor w0 ops rest ⟨(n,.bool (boxEq a b))::E,loc,X⟩ kk) (hx:ev E x=some a.v:=by rfl) (hy:ev E y=some b.v:=by rfl) (hg:gdB ops E g=some (bb,want):=by rfl) (hbb:bb=want:=by exact ax) (hd:Nat.blt n N=true:=by rfl) :
  Sw Tryz.prog N av bor w0 ops (⟨some n,.binOp .eql 69 x y t2,ty,pos,af,g⟩::rest) ⟨E,loc,X⟩ kk:=am (x6 hx hy) hg hbb hd h
end
def withinB (n l h:Int):Bool:=decide (l≤n)&&decide (n≤h)
theorem cZ (n l h:Int):Pu Tryz.prog 96 #[.int .i64 n,.int .i64 l,.int .i64 h] (fun _=>True) (.bool (withinB n l h)):=by
 refine aq Tryz.func96 Tryz.ntmps96 fun av bor w0=>?_
 repeat' (first|refine gs ?_|(refine gp ?_ ?_<;>intro hx_ this)|fail)
 (all_goals (apply ae;apply aj;rfl;rfl));all_goals first|rfl|(simp only [withinB, *,decide_true,decide_false,cond_true,cond_false,Bool.and_true,Bool.true_and,Bool.and_false,Bool.false_and,Bool.not_true,Bool.not_false,Bool.or_true,Bool.true_or,Bool.or_false,Bool.false_or];done)|(simp_all [withinB];done)
def isDigestB (s:ByteArray):Bool:=decide ((s.size:Int)=32)
theorem jC (s:ByteArray):Pu Tryz.prog 133 #[.string s] (fun _=>True) (.bool (isDigestB s)):=by
 refine aq Tryz.func133 Tryz.ntmps133 fun av bor w0=>?_
 repeat' (first|refine gs ?_|(refine gp ?_ ?_<;>intro hx_ this)|fail)
 (all_goals (apply ae;apply aj;rfl;rfl));all_goals first|rfl|(simp only [isDigestB, *,decide_true,decide_false,cond_true,cond_false,Bool.and_true,Bool.true_and,Bool.and_false,Bool.false_and,Bool.not_true,Bool.not_false,Bool.or_true,Bool.true_or,Bool.or_false,Bool.false_or];done)|(simp_all [isDigestB];done)
def isShortB (s:ByteArray):Bool:=decide ((s.size:Int)≤500)
theorem fY (s:ByteArray):Pu Tryz.prog 139 #[.string s] (fun _=>True) (.bool (isShortB s)):=by
 refine aq Tryz.func139 Tryz.ntmps139 fun av bor w0=>?_
 repeat' (first|refine gs ?_|(refine gp ?_ ?_<;>intro hx_ this)|fail)
 (all_goals (apply ae;apply aj;rfl;rfl));all_goals first|rfl|(simp only [isShortB, *,decide_true,decide_false,cond_true,cond_false,Bool.and_true,Bool.true_and,Bool.and_false,Bool.false_and,Bool.not_true,Bool.not_false,Bool.or_true,Bool.true_or,Bool.or_false,Bool.false_or];done)|(simp_all [isShortB];done)
def isPublicB (n:Int):Bool:=withinB n 1 2305843009213693950
theorem gx (n:Int):Pu Tryz.prog 177 #[.int .i64 n] (fun _=>True) (.bool (isPublicB n)):=by
 refine aq Tryz.func177 Tryz.ntmps177 fun av bor w0=>?_
 repeat' (first|refine ag (hc:=cZ _ _ _) ?_|refine gs ?_|(refine gp ?_ ?_<;>intro hx_ this)|fail)
 (all_goals (apply ae;apply aj;rfl;rfl));all_goals first|rfl|(simp only [isPublicB, *,decide_true,decide_false,cond_true,cond_false,Bool.and_true,Bool.true_and,Bool.and_false,Bool.false_and,Bool.not_true,Bool.not_false,Bool.or_true,Bool.true_or,Bool.or_false,Bool.false_or];done)|(simp_all [isPublicB];done)
def isSealedB (b:Xw):Bool:=decide ((b.nonce.size:Int)=32)&&decide ((b.tag.size:Int)=16)&&isShortB b.data
theorem jA (b:Xw):Pu Tryz.prog 176 #[b.v] (fun _=>True) (.bool (isSealedB b)):=by
 refine aq Tryz.func176 Tryz.ntmps176 fun av bor w0=>?_
 repeat' (first|refine ag (hc:=fY _) ?_|refine gs ?_|refine gs1 fun _=>?_|(refine gp ?_ ?_<;>intro hx_ this)|fail)
 (all_goals (apply ae;apply aj;rfl;rfl));all_goals first|rfl|(simp only [isSealedB, *,decide_true,decide_false,cond_true,cond_false,Bool.and_true,Bool.true_and,Bool.and_false,Bool.false_and,Bool.not_true,Bool.not_false,Bool.or_true,Bool.true_or,Bool.or_false,Bool.false_or];done)|(simp_all [isSealedB];done)
def sealedScopeB (scope:Int) (group:ByteArray):Bool:=bif decide (scope=2) then isName group else bif decide (scope=1) then seqB group ⟨#[]⟩ else bif decide (scope=3) then seqB group ⟨#[]⟩ else false
theorem gl (scope:Int) (group:ByteArray):Pu Tryz.prog 175 #[.int .i64 scope,.string group] (fun _=>True) (.bool (sealedScopeB scope group)):=by
 refine aq Tryz.func175 Tryz.ntmps175 fun av bor w0=>?_
 repeat' (first|refine ag (hc:=jT _) ?_|refine gs ?_|(refine gp ?_ ?_<;>intro hx_ this)|fail)
 (all_goals (apply ae;apply aj;rfl;rfl));all_goals first|rfl|(simp only [sealedScopeB, *,decide_true,decide_false,cond_true,cond_false,Bool.and_true,Bool.true_and,Bool.and_false,Bool.false_and,Bool.not_true,Bool.not_false,Bool.or_true,Bool.true_or,Bool.or_false,Bool.false_or];done)|(simp_all [sealedScopeB];done)
def placedB (a:Xc):Bool:=bif decide (a.seq=0) then decide (a.kind=0)&&seqB a.prev ⟨#[]⟩ else withinB a.seq 1 1073741824&&!decide (a.kind=0)&&isDigestB a.prev
theorem tq (a:Xc):Pu Tryz.prog 95 #[a.v] (fun _=>True) (.bool (placedB a)):=by
 refine aq Tryz.func95 Tryz.ntmps95 fun av bor w0=>?_
 repeat' (first|refine ag (hc:=cZ _ _ _) ?_|refine ag (hc:=jC _) ?_|refine gs ?_|refine gs1 fun _=>?_|(refine gp ?_ ?_<;>intro hx_ this)|fail)
 (all_goals (apply ae;apply aj;rfl;rfl));all_goals first|rfl|(simp only [placedB, *,decide_true,decide_false,cond_true,cond_false,Bool.and_true,Bool.true_and,Bool.and_false,Bool.false_and,Bool.not_true,Bool.not_false,Bool.or_true,Bool.true_or,Bool.or_false,Bool.false_or];done)|(simp_all [placedB];done)
def objectB (a:Xc):Bool:=isDigestB a.object
theorem dv (a:Xc):Pu Tryz.prog 135 #[a.v] (fun _=>True) (.bool (objectB a)):=by
 refine aq Tryz.func135 Tryz.ntmps135 fun av bor w0=>?_
 repeat' (first|refine ag (hc:=jC _) ?_|refine gs ?_|refine gs1 fun _=>?_|(refine gp ?_ ?_<;>intro hx_ this)|fail)
 (all_goals (apply ae;apply aj;rfl;rfl));all_goals first|rfl|(simp only [objectB, *,decide_true,decide_false,cond_true,cond_false,Bool.and_true,Bool.true_and,Bool.and_false,Bool.false_and,Bool.not_true,Bool.not_false,Bool.or_true,Bool.true_or,Bool.or_false,Bool.false_or];done)|(simp_all [objectB];done)
def targetB (a:Xc):Bool:=isId a.target
theorem d6 (a:Xc):Pu Tryz.prog 137 #[a.v] (fun _=>True) (.bool (targetB a)):=by
 refine aq Tryz.func137 Tryz.ntmps137 fun av bor w0=>?_
 repeat' (first|refine ag (hc:=eV _) ?_|refine gs ?_|refine gs1 fun _=>?_|(refine gp ?_ ?_<;>intro hx_ this)|fail)
 (all_goals (apply ae;apply aj;rfl;rfl));all_goals first|rfl|(simp only [targetB, *,decide_true,decide_false,cond_true,cond_false,Bool.and_true,Bool.true_and,Bool.and_false,Bool.false_and,Bool.not_true,Bool.not_false,Bool.or_true,Bool.true_or,Bool.or_false,Bool.false_or];done)|(simp_all [targetB];done)
def homeB (a:Xc):Bool:=isPublicB a.n&&withinB a.m 0 19
theorem rX (a:Xc):Pu Tryz.prog 142 #[a.v] (fun _=>True) (.bool (homeB a)):=by
 refine aq Tryz.func142 Tryz.ntmps142 fun av bor w0=>?_
 repeat' (first|refine ag (hc:=gx _) ?_|refine ag (hc:=cZ _ _ _) ?_|refine gs ?_|refine gs1 fun _=>?_|(refine gp ?_ ?_<;>intro hx_ this)|fail)
 (all_goals (apply ae;apply aj;rfl;rfl));all_goals first|rfl|(simp only [homeB, *,decide_true,decide_false,cond_true,cond_false,Bool.and_true,Bool.true_and,Bool.and_false,Bool.false_and,Bool.not_true,Bool.not_false,Bool.or_true,Bool.true_or,Bool.or_false,Bool.false_or];done)|(simp_all [homeB];done)
def labelB (a:Xc):Bool:=bif !isName a.text then false else objectB a&&seqB a.target ⟨#[]⟩||targetB a&&seqB a.object ⟨#[]⟩
theorem ww (a:Xc):Pu Tryz.prog 146 #[a.v] (fun _=>True) (.bool (labelB a)):=by
 refine aq Tryz.func146 Tryz.ntmps146 fun av bor w0=>?_
 repeat' (first|refine ag (hc:=jT _) ?_|refine ag (hc:=dv a) ?_|refine ag (hc:=d6 a) ?_|refine gs ?_|refine gs1 fun _=>?_|(refine gp ?_ ?_<;>intro hx_ this)|fail)
 (all_goals (apply ae;apply aj;rfl;rfl));all_goals first|rfl|(simp only [labelB, *,decide_true,decide_false,cond_true,cond_false,Bool.and_true,Bool.true_and,Bool.and_false,Bool.false_and,Bool.not_true,Bool.not_false,Bool.or_true,Bool.true_or,Bool.or_false,Bool.false_or];done)|(simp_all [labelB];done)
def audienceB (a:Xc):Bool:=bif !isIds a.toL then false else bif decide (a.scope=0) then seqB a.group ⟨#[]⟩&&decide (a.epoch=0)&&isShortB a.text&&boxEq a.body Xw.zero
 else bif decide (0<(a.to.n:Int))&&!decide (a.scope=3) then false else sealedScopeB a.scope a.group&&withinB a.epoch 0 1073741824&&seqB a.text ⟨#[]⟩&&isSealedB a.body
theorem jJ (a:Xc):Pu Tryz.prog 136 #[a.v] (Xc.at_ · a) (.bool (audienceB a)):=by
 refine aq Tryz.func136 Tryz.ntmps136 fun av bor w0=>?_
 repeat' (first|refine ag (hc:=kR a.to a.toL) ?_|refine ag (hc:=fY _) ?_|refine ag (hc:=gl _ _) ?_|refine ag (hc:=cZ _ _ _) ?_|refine ag (hc:=jA a.body) ?_|refine gs ?_|refine gs1 fun _=>?_|(refine lN ?_)|(refine kj ?_)|(refine aE ?_)|(refine gp ?_ ?_<;>intro hx_ this)|fail)
 (all_goals (apply ae;apply aj;rfl;rfl));all_goals first|rfl|(simp only [audienceB, *,decide_true,decide_false,cond_true,cond_false,Bool.and_true,Bool.true_and,Bool.and_false,Bool.false_and,Bool.not_true,Bool.not_false,Bool.or_true,Bool.true_or,Bool.or_false,Bool.false_or];done)|(simp_all [audienceB];done)
end Go.Proofs.YtgffbiobmamobaaGreatDoor
