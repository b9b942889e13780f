/- Joined. -/
import Derived.Test.YtggionfjlgfihaaGreatDoorI0
import Derived.Test.YtggionfjlgfihaaGreatDoorI3
set_option linter.unusedVariables false
set_option linter.unusedSimpArgs false
set_option maxHeartbeats 16000000
namespace Go.Proofs.YtggionfjlgfihaaGreatDoor
open Go Go.Proofs Sy
theorem vH {N:Nat} {av bor:List Nat} {w0:World} {E:Env} {loc:List Xk} {X:World→Prop} {ty:TypeId}:Sy.Yields Tryz.prog N av bor w0 ⟨E,loc,X⟩ (.build 32 #[]) ty Xx.zero.v:=Sy.Yields.mk fun a w ok d pos af g=>by
 simp [execOp,Instr.build,dj (Xo.out (P:=Tryz.prog) (t:=32)),run_underlying Tryz.underlying32,Instr.fill,Value.cells,Xx.zero,Xx.v,Xx.cells,run_sizeOf]
def boxEq (a b:Xx):Bool:=seqB a.nonce b.nonce&&seqB a.data b.data&&seqB a.tag b.tag
theorem lN:Tryz.prog.underlying 32=some (.struct (Tryz.prog.fieldsOf 32)):=by kernel_rfl
theorem mZ:Tryz.prog.stoodInHeld 32=false:=by kernel_rfl
theorem vi:Tryz.prog.eqGuardType Tryz.prog.depth 32=false:=by kernel_rfl
theorem ud (w:World) (a b:Xx):(Op.equalIn 10000 32 a.v b.v).run Tryz.prog w=.ok (boxEq a b) w:=by
 have e:(10000:Nat)=9999+1:=rfl
 have e2:(9999:Nat)=9998+1:=rfl
 rw [Xx.v,Xx.v,e,run_equalIn_agg _ _ _ _ _ lN mZ]
 have hf:(Tryz.prog.fieldsOf 32).toList.map (fun f=>(f.name,f.type,f.offset))=[("Nonce",9,0),("Data",9,1),("Tag",9,2)]:=by kernel_rfl
 generalize (Tryz.prog.fieldsOf 32).toList=l at hf
 rcases l with _|⟨f1,_|⟨f2,_|⟨f3,_|⟨f4,l⟩⟩⟩⟩
 case cons.cons.cons.nil =>
  simp only [List.map_cons,List.map_nil,List.cons.injEq,Prod.mk.injEq,and_true] at hf
  obtain ⟨⟨n1,t1,o1⟩,⟨n2,t2,o2⟩,n3,t3,o3⟩:=hf
  have hag:=fun w=>(bI (Xy.out (P:=Tryz.prog) (t:=9)) w).1
  have hst:=fun (x y:ByteArray) (w:World)=>run_equalIn_string (P:=Tryz.prog) w 9998 9 x y Eb.out
  cases h1:seqB a.nonce b.nonce<;>cases h2:seqB a.data b.data<;>cases h3:seqB a.tag b.tag <;>
  · simp only [seqB] at h1 h2 h3
    simp [Op.eqFields,n1,n2,n3,t1,t2,t3,o1,o2,o3,part,hag,Xx.cells,e2,hst,h1,h2,h3,boxEq,seqB]
 all_goals (have:=congrArg List.length hf;simp at this)
theorem yq {N:Nat} {av bor:List Nat} {w0:World} {E:Env} {loc:List Xk} {X:World→Prop} {ty t2:TypeId} {x y:Operand} {a b:Xx} (hx:ev E x=some a.v) (hy:ev E y=some b.v) :
  Sy.Yields Tryz.prog N av bor w0 ⟨E,loc,X⟩ (.binOp .eql 32 x y t2) ty (.bool (boxEq a b)):=Sy.Yields.mk fun A w ok d pos af g=>by
 have h1:=run_eql_struct (P:=Tryz.prog) w 32 a.cells.toArray b.cells.toArray
 have h2:=ud w a b
 simp only [Xx.v] at h2
 rw [h2] at h1
 simp [execOp,ok.eval (st:=⟨E,loc,X⟩) hx,ok.eval (st:=⟨E,loc,X⟩) hy,Xx.v,run_eqGuard_agg _ _ _ _ _ _ _ vi,h1]
section
variable {N:Nat} {av bor:List Nat} {w0:World} {ops:Array Oper} {rest:List Oper} {kk:St→Prop} {E:Env} {loc:List Xk} {X:World→Prop} {n:Nat} {ty t2:TypeId} {pos:String} {af:Array Edge} {g:Option (Nat×Bool)} {bb want:Bool} {x y:Operand} {a b:Xx}
theorem mi (h:Sw Tryz.prog N av bor w0 ops rest ⟨(n,Xx.zero.v)::E,loc,X⟩ kk) (hg:gdB ops E g=some (bb,want):=by rfl) (hbb:bb=want:=by exact aq) (hd:Nat.blt n N=true:=by rfl) :
  Sw Tryz.prog N av bor w0 ops (⟨some n,.build 32 #[],ty,pos,af,g⟩::rest) ⟨E,loc,X⟩ kk:=ak vH hg hbb hd h
theorem iv (h:Sw Tryz.prog N av bor w0 ops rest ⟨(n,.bool (boxEq a b))::E,loc,X⟩ kk) (hx:ev E x=some a.v:=by rfl) (hy:ev E y=some b.v:=by rfl) (hg:gdB ops E g=some (bb,want):=by rfl) (hbb:bb=want:=by exact aq) (hd:Nat.blt n N=true:=by rfl) :
  Sw Tryz.prog N av bor w0 ops (⟨some n,.binOp .eql 32 x y t2,ty,pos,af,g⟩::rest) ⟨E,loc,X⟩ kk:=ak (yq hx hy) hg hbb hd h
end
def withinB (n l h:Int):Bool:=decide (l≤n)&&decide (n≤h)
theorem cT (n l h:Int):Pu Tryz.prog 99 #[.int .i64 n,.int .i64 l,.int .i64 h] (fun _=>True) (.bool (withinB n l h)):=by
 refine ar Tryz.func99 Tryz.ntmps99 fun av bor w0=>?_
 repeat' (first|refine gs ?_|(refine gp ?_ ?_<;>intro hx_ this)|fail)
 (all_goals (apply ab;apply ai;rfl;rfl));all_goals first|rfl|(simp only [withinB, *,decide_true,decide_false,cond_true,cond_false,Bool.and_true,Bool.true_and,Bool.and_false,Bool.false_and,Bool.not_true,Bool.not_false,Bool.or_true,Bool.true_or,Bool.or_false,Bool.false_or];done)|(simp_all [withinB];done)
def isDigestB (s:ByteArray):Bool:=decide ((s.size:Int)=32)
theorem jN (s:ByteArray):Pu Tryz.prog 153 #[.string s] (fun _=>True) (.bool (isDigestB s)):=by
 refine ar Tryz.func153 Tryz.ntmps153 fun av bor w0=>?_
 repeat' (first|refine gs ?_|(refine gp ?_ ?_<;>intro hx_ this)|fail)
 (all_goals (apply ab;apply ai;rfl;rfl));all_goals first|rfl|(simp only [isDigestB, *,decide_true,decide_false,cond_true,cond_false,Bool.and_true,Bool.true_and,Bool.and_false,Bool.false_and,Bool.not_true,Bool.not_false,Bool.or_true,Bool.true_or,Bool.or_false,Bool.false_or];done)|(simp_all [isDigestB];done)
def isShortB (s:ByteArray):Bool:=decide ((s.size:Int)≤500)
theorem fP (s:ByteArray):Pu Tryz.prog 159 #[.string s] (fun _=>True) (.bool (isShortB s)):=by
 refine ar Tryz.func159 Tryz.ntmps159 fun av bor w0=>?_
 repeat' (first|refine gs ?_|(refine gp ?_ ?_<;>intro hx_ this)|fail)
 (all_goals (apply ab;apply ai;rfl;rfl));all_goals first|rfl|(simp only [isShortB, *,decide_true,decide_false,cond_true,cond_false,Bool.and_true,Bool.true_and,Bool.and_false,Bool.false_and,Bool.not_true,Bool.not_false,Bool.or_true,Bool.true_or,Bool.or_false,Bool.false_or];done)|(simp_all [isShortB];done)
def isPublicB (n:Int):Bool:=withinB n 1 2305843009213693950
theorem gA (n:Int):Pu Tryz.prog 202 #[.int .i64 n] (fun _=>True) (.bool (isPublicB n)):=by
 refine ar Tryz.func202 Tryz.ntmps202 fun av bor w0=>?_
 repeat' (first|refine ag (hc:=cT _ _ _) ?_|refine gs ?_|(refine gp ?_ ?_<;>intro hx_ this)|fail)
 (all_goals (apply ab;apply ai;rfl;rfl));all_goals first|rfl|(simp only [isPublicB, *,decide_true,decide_false,cond_true,cond_false,Bool.and_true,Bool.true_and,Bool.and_false,Bool.false_and,Bool.not_true,Bool.not_false,Bool.or_true,Bool.true_or,Bool.or_false,Bool.false_or];done)|(simp_all [isPublicB];done)
def isSealedB (b:Xx):Bool:=decide ((b.nonce.size:Int)=32)&&decide ((b.tag.size:Int)=16)&&isShortB b.data
theorem jL (b:Xx):Pu Tryz.prog 201 #[b.v] (fun _=>True) (.bool (isSealedB b)):=by
 refine ar Tryz.func201 Tryz.ntmps201 fun av bor w0=>?_
 repeat' (first|refine ag (hc:=fP _) ?_|refine gs ?_|refine gs1 fun _=>?_|(refine gp ?_ ?_<;>intro hx_ this)|fail)
 (all_goals (apply ab;apply ai;rfl;rfl));all_goals first|rfl|(simp only [isSealedB, *,decide_true,decide_false,cond_true,cond_false,Bool.and_true,Bool.true_and,Bool.and_false,Bool.false_and,Bool.not_true,Bool.not_false,Bool.or_true,Bool.true_or,Bool.or_false,Bool.false_or];done)|(simp_all [isSealedB];done)
def sealedScopeB (scope:Int) (group:ByteArray):Bool:=bif decide (scope=2) then isName group else bif decide (scope=1) then seqB group ⟨#[]⟩ else bif decide (scope=3) then seqB group ⟨#[]⟩ else false
theorem gj (scope:Int) (group:ByteArray):Pu Tryz.prog 200 #[.int .i64 scope,.string group] (fun _=>True) (.bool (sealedScopeB scope group)):=by
 refine ar Tryz.func200 Tryz.ntmps200 fun av bor w0=>?_
 repeat' (first|refine ag (hc:=kc _) ?_|refine gs ?_|(refine gp ?_ ?_<;>intro hx_ this)|fail)
 (all_goals (apply ab;apply ai;rfl;rfl));all_goals first|rfl|(simp only [sealedScopeB, *,decide_true,decide_false,cond_true,cond_false,Bool.and_true,Bool.true_and,Bool.and_false,Bool.false_and,Bool.not_true,Bool.not_false,Bool.or_true,Bool.true_or,Bool.or_false,Bool.false_or];done)|(simp_all [sealedScopeB];done)
def placedB (a:Xa):Bool:=bif decide (a.seq=0) then decide (a.kind=0)&&seqB a.prev ⟨#[]⟩ else withinB a.seq 1 1073741824&&!decide (a.kind=0)&&isDigestB a.prev
theorem um (a:Xa):Pu Tryz.prog 98 #[a.v] (fun _=>True) (.bool (placedB a)):=by
 refine ar Tryz.func98 Tryz.ntmps98 fun av bor w0=>?_
 repeat' (first|refine ag (hc:=cT _ _ _) ?_|refine ag (hc:=jN _) ?_|refine gs ?_|refine gs1 fun _=>?_|(refine gp ?_ ?_<;>intro hx_ this)|fail)
 (all_goals (apply ab;apply ai;rfl;rfl));all_goals first|rfl|(simp only [placedB, *,decide_true,decide_false,cond_true,cond_false,Bool.and_true,Bool.true_and,Bool.and_false,Bool.false_and,Bool.not_true,Bool.not_false,Bool.or_true,Bool.true_or,Bool.or_false,Bool.false_or];done)|(simp_all [placedB];done)
def objectB (a:Xa):Bool:=isDigestB a.object
theorem dt (a:Xa):Pu Tryz.prog 155 #[a.v] (fun _=>True) (.bool (objectB a)):=by
 refine ar Tryz.func155 Tryz.ntmps155 fun av bor w0=>?_
 repeat' (first|refine ag (hc:=jN _) ?_|refine gs ?_|refine gs1 fun _=>?_|(refine gp ?_ ?_<;>intro hx_ this)|fail)
 (all_goals (apply ab;apply ai;rfl;rfl));all_goals first|rfl|(simp only [objectB, *,decide_true,decide_false,cond_true,cond_false,Bool.and_true,Bool.true_and,Bool.and_false,Bool.false_and,Bool.not_true,Bool.not_false,Bool.or_true,Bool.true_or,Bool.or_false,Bool.false_or];done)|(simp_all [objectB];done)
def targetB (a:Xa):Bool:=isId a.target
theorem d3 (a:Xa):Pu Tryz.prog 157 #[a.v] (fun _=>True) (.bool (targetB a)):=by
 refine ar Tryz.func157 Tryz.ntmps157 fun av bor w0=>?_
 repeat' (first|refine ag (hc:=eN _) ?_|refine gs ?_|refine gs1 fun _=>?_|(refine gp ?_ ?_<;>intro hx_ this)|fail)
 (all_goals (apply ab;apply ai;rfl;rfl));all_goals first|rfl|(simp only [targetB, *,decide_true,decide_false,cond_true,cond_false,Bool.and_true,Bool.true_and,Bool.and_false,Bool.false_and,Bool.not_true,Bool.not_false,Bool.or_true,Bool.true_or,Bool.or_false,Bool.false_or];done)|(simp_all [targetB];done)
def homeB (a:Xa):Bool:=isPublicB a.n&&withinB a.m 0 19
theorem sH (a:Xa):Pu Tryz.prog 162 #[a.v] (fun _=>True) (.bool (homeB a)):=by
 refine ar Tryz.func162 Tryz.ntmps162 fun av bor w0=>?_
 repeat' (first|refine ag (hc:=gA _) ?_|refine ag (hc:=cT _ _ _) ?_|refine gs ?_|refine gs1 fun _=>?_|(refine gp ?_ ?_<;>intro hx_ this)|fail)
 (all_goals (apply ab;apply ai;rfl;rfl));all_goals first|rfl|(simp only [homeB, *,decide_true,decide_false,cond_true,cond_false,Bool.and_true,Bool.true_and,Bool.and_false,Bool.false_and,Bool.not_true,Bool.not_false,Bool.or_true,Bool.true_or,Bool.or_false,Bool.false_or];done)|(simp_all [homeB];done)
def labelB (a:Xa):Bool:=bif !isName a.text then false else objectB a&&seqB a.target ⟨#[]⟩||targetB a&&seqB a.object ⟨#[]⟩
theorem xu (a:Xa):Pu Tryz.prog 166 #[a.v] (fun _=>True) (.bool (labelB a)):=by
 refine ar Tryz.func166 Tryz.ntmps166 fun av bor w0=>?_
 repeat' (first|refine ag (hc:=kc _) ?_|refine ag (hc:=dt a) ?_|refine ag (hc:=d3 a) ?_|refine gs ?_|refine gs1 fun _=>?_|(refine gp ?_ ?_<;>intro hx_ this)|fail)
 (all_goals (apply ab;apply ai;rfl;rfl));all_goals first|rfl|(simp only [labelB, *,decide_true,decide_false,cond_true,cond_false,Bool.and_true,Bool.true_and,Bool.and_false,Bool.false_and,Bool.not_true,Bool.not_false,Bool.or_true,Bool.true_or,Bool.or_false,Bool.false_or];done)|(simp_all [labelB];done)
def audienceB (a:Xa):Bool:=bif !isIds a.toL then false else bif decide (a.scope=0) then seqB a.group ⟨#[]⟩&&decide (a.epoch=0)&&isShortB a.text&&boxEq a.body Xx.zero
 else bif decide (0<(a.to.n:Int))&&!decide (a.scope=3) then false else sealedScopeB a.scope a.group&&withinB a.epoch 0 1073741824&&seqB a.text ⟨#[]⟩&&isSealedB a.body
theorem jX (a:Xa):Pu Tryz.prog 156 #[a.v] (Xa.at_ · a) (.bool (audienceB a)):=by
 refine ar Tryz.func156 Tryz.ntmps156 fun av bor w0=>?_
 repeat' (first|refine ag (hc:=lr a.to a.toL) ?_|refine ag (hc:=fP _) ?_|refine ag (hc:=gj _ _) ?_|refine ag (hc:=cT _ _ _) ?_|refine ag (hc:=jL a.body) ?_|refine gs ?_|refine gs1 fun _=>?_|(refine mi ?_)|(refine iv ?_)|(refine aB ?_)|(refine gp ?_ ?_<;>intro hx_ this)|fail)
 (all_goals (apply ab;apply ai;rfl;rfl));all_goals first|rfl|(simp only [audienceB, *,decide_true,decide_false,cond_true,cond_false,Bool.and_true,Bool.true_and,Bool.and_false,Bool.false_and,Bool.not_true,Bool.not_false,Bool.or_true,Bool.true_or,Bool.or_false,Bool.false_or];done)|(simp_all [audienceB];done)
end Go.Proofs.YtggionfjlgfihaaGreatDoor
