/- Joined. -/
import Derived.Test.YtamfbppnlomgfaaGreatDoorG1
set_option linter.unusedVariables false
set_option linter.unusedSimpArgs false
set_option maxHeartbeats 16000000
namespace Go.Proofs.YtamfbppnlomgfaaGreatDoor
open Go Go.Proofs Sy Tryz
theorem qc {N:Nat} {av bor:List Nat} {w0:World} {E:Env} {loc:List Xi} {X:World→Prop} {ty:TypeId}:Sy.Yields prog N av bor w0 ⟨E,loc,X⟩ (.build 31 #[]) ty Xo.zero.v:=Sy.Yields.mk fun a w ok d pos af g=>by
 simp [execOp,Instr.build,cb (Xl.out (P:=prog) (t:=31)),run_underlying underlying31,Instr.fill,Value.cells,Xo.zero,Xo.v,Xo.cells,run_sizeOf]
def boxEq (a b:Xo):Bool:=seqB a.nonce b.nonce&&seqB a.data b.data&&seqB a.tag b.tag
theorem nd:prog.underlying 31=some (.struct (prog.fieldsOf 31)):=by kernel_rfl
theorem pO:prog.stoodInHeld 31=false:=by kernel_rfl
theorem pP:prog.eqGuardType prog.depth 31=false:=by kernel_rfl
theorem oY (w:World) (a b:Xo):(Op.equalIn 10000 31 a.v b.v).run prog w=.ok (boxEq a b) w:=by
 have e:(10000:Nat)=9999+1:=rfl
 have e2:(9999:Nat)=9998+1:=rfl
 rw [Xo.v,Xo.v,e,run_equalIn_agg _ _ _ _ _ nd pO]
 have hf:(prog.fieldsOf 31).toList.map (fun f=>(f.name,f.type,f.offset))=[("Nonce",9,0),("Data",9,1),("Tag",9,2)]:=by kernel_rfl
 generalize (prog.fieldsOf 31).toList=l at hf
 rcases l with _|⟨f1,_|⟨f2,_|⟨f3,_|⟨f4,l⟩⟩⟩⟩
 case cons.cons.cons.nil =>
  simp only [ZR,List.map_nil,List.cons.injEq,Prod.mk.injEq,and_true] at hf
  obtain ⟨⟨n1,t1,o1⟩,⟨n2,t2,o2⟩,n3,t3,o3⟩:=hf
  have hag:=fun w=>(aT (Xs.out (P:=prog) (t:=9)) w).1
  have hst:=fun (x y:ByteArray) (w:World)=>run_equalIn_string (P:=prog) w 9998 9 x y Xv.out
  cases h1:seqB a.nonce b.nonce<;>cases h2:seqB a.data b.data<;>cases h3:seqB a.tag b.tag <;>
  · simp only [seqB] at h1 h2 h3
    simp [Op.eqFields,n1,n2,n3,t1,t2,t3,o1,o2,o3,part,hag,Xo.cells,e2,hst,h1,h2,h3,boxEq,seqB]
 all_goals (have:=congrArg List.length hf;simp at this)
theorem rY {N:Nat} {av bor:List Nat} {w0:World} {E:Env} {loc:List Xi} {X:World→Prop} {ty t2:TypeId} {x y:Operand} {a b:Xo} (hx:ev E x=some a.v) (hy:ev E y=some b.v) :
  Sy.Yields prog N av bor w0 ⟨E,loc,X⟩ (.binOp .eql 31 x y t2) ty (.bool (boxEq a b)):=Sy.Yields.mk fun A w ok d pos af g=>by
 have h1:=run_eql_struct (P:=prog) w 31 a.cells.toArray b.cells.toArray
 have h2:=oY w a b
 simp only [Xo.v] at h2
 rw [h2] at h1
 simp [execOp,ok.eval (st:=⟨E,loc,X⟩) hx,ok.eval (st:=⟨E,loc,X⟩) hy,Xo.v,run_eqGuard_agg _ _ _ _ _ _ _ pP,h1]
section
variable {N:Nat} {av bor:List Nat} {w0:World} {ops:Array Oper} {rest:List Oper} {kk:St→Prop} {E:Env} {loc:List Xi} {X:World→Prop} {n:Nat} {ty t2:TypeId} {pos:String} {af:Array Edge} {g:Option (Nat×Bool)} {bb want:Bool} {x y:Operand} {a b:Xo}
theorem jz (h:Sw prog N av bor w0 ops rest ⟨(n,Xo.zero.v)::E,loc,X⟩ kk) (hg:gdB ops E g=some (bb,want):=by rfl) (hbb:bb=want:=by exact ay) (hd:Nat.blt n N=true:=by rfl) :
  Sw prog N av bor w0 ops (⟨some n,.build 31 #[],ty,pos,af,g⟩::rest) ⟨E,loc,X⟩ kk:=ao qc hg hbb hd h
theorem li (h:Sw prog N av bor w0 ops rest ⟨(n,.bool (boxEq a b))::E,loc,X⟩ kk) (hx:ev E x=some a.v:=by rfl) (hy:ev E y=some b.v:=by rfl) (hg:gdB ops E g=some (bb,want):=by rfl) (hbb:bb=want:=by exact ay) (hd:Nat.blt n N=true:=by rfl) :
  Sw prog N av bor w0 ops (⟨some n,.binOp .eql 31 x y t2,ty,pos,af,g⟩::rest) ⟨E,loc,X⟩ kk:=ao (rY hx hy) hg hbb hd h
end
def withinB (n l h:Int):Bool:=decide (l≤n)&&decide (n≤h)
theorem bP (n l h:Int):Pu prog 75 #[.int .i64 n,.int .i64 l,.int .i64 h] (fun _=>True) (.bool (withinB n l h)):=by
 refine ax func75 ntmps75 fun av bor w0=>?_
 repeat' (first|refine gs ?_|(refine gp ?_ ?_<;>intro hx_ this)|fail)
 (all_goals (apply aa;apply ai;rfl;rfl));all_goals first|rfl|(simp only [withinB, *,Za,Zg,Zf];done)|(simp_all [withinB];done)
def isDigestB (s:ByteArray):Bool:=decide ((s.size:Int)=32)
theorem g8 (s:ByteArray):Pu prog 116 #[.string s] (fun _=>True) (.bool (isDigestB s)):=by
 refine ax func116 ntmps116 fun av bor w0=>?_
 repeat' (first|refine gs ?_|(refine gp ?_ ?_<;>intro hx_ this)|fail)
 (all_goals (apply aa;apply ai;rfl;rfl));all_goals first|rfl|(simp only [isDigestB, *,Za,Zg,Zf];done)|(simp_all [isDigestB];done)
def isShortB (s:ByteArray):Bool:=decide ((s.size:Int)≤500)
theorem eA (s:ByteArray):Pu prog 122 #[.string s] (fun _=>True) (.bool (isShortB s)):=by
 refine ax func122 ntmps122 fun av bor w0=>?_
 repeat' (first|refine gs ?_|(refine gp ?_ ?_<;>intro hx_ this)|fail)
 (all_goals (apply aa;apply ai;rfl;rfl));all_goals first|rfl|(simp only [isShortB, *,Za,Zg,Zf];done)|(simp_all [isShortB];done)
def isPublicB (n:Int):Bool:=withinB n 1 2305843009213693950
theorem eS (n:Int):Pu prog 171 #[.int .i64 n] (fun _=>True) (.bool (isPublicB n)):=by
 refine ax func171 ntmps171 fun av bor w0=>?_
 repeat' (first|refine ae (hc:=bP _ _ _) ?_|refine gs ?_|(refine gp ?_ ?_<;>intro hx_ this)|fail)
 (all_goals (apply aa;apply ai;rfl;rfl));all_goals first|rfl|(simp only [isPublicB, *,Za,Zg,Zf];done)|(simp_all [isPublicB];done)
def isSealedB (b:Xo):Bool:=decide ((b.nonce.size:Int)=32)&&decide ((b.tag.size:Int)=16)&&isShortB b.data
theorem g6 (b:Xo):Pu prog 170 #[b.v] (fun _=>True) (.bool (isSealedB b)):=by
 refine ax func170 ntmps170 fun av bor w0=>?_
 repeat' (first|refine ae (hc:=eA _) ?_|refine gs ?_|refine gs1 fun _=>?_|(refine gp ?_ ?_<;>intro hx_ this)|fail)
 (all_goals (apply aa;apply ai;rfl;rfl));all_goals first|rfl|(simp only [isSealedB, *,Za,Zg,Zf];done)|(simp_all [isSealedB];done)
def sealedScopeB (scope:Int) (group:ByteArray):Bool:=bif decide (scope=2) then isName group else bif decide (scope=1) then seqB group ⟨#[]⟩ else bif decide (scope=3) then seqB group ⟨#[]⟩ else false
theorem eN (scope:Int) (group:ByteArray):Pu prog 169 #[.int .i64 scope,.string group] (fun _=>True) (.bool (sealedScopeB scope group)):=by
 refine ax func169 ntmps169 fun av bor w0=>?_
 repeat' (first|refine ae (hc:=io _) ?_|refine gs ?_|(refine gp ?_ ?_<;>intro hx_ this)|fail)
 (all_goals (apply aa;apply ai;rfl;rfl));all_goals first|rfl|(simp only [sealedScopeB, *,Za,Zg,Zf];done)|(simp_all [sealedScopeB];done)
def placedB (a:Xa):Bool:=bif decide (a.seq=0) then decide (a.kind=0)&&seqB a.prev ⟨#[]⟩ else withinB a.seq 1 1073741824&&!decide (a.kind=0)&&isDigestB a.prev
theorem o4 (a:Xa):Pu prog 74 #[a.v] (fun _=>True) (.bool (placedB a)):=by
 refine ax func74 ntmps74 fun av bor w0=>?_
 repeat' (first|refine ae (hc:=bP _ _ _) ?_|refine ae (hc:=g8 _) ?_|refine gs ?_|refine gs1 fun _=>?_|(refine gp ?_ ?_<;>intro hx_ this)|fail)
 (all_goals (apply aa;apply ai;rfl;rfl));all_goals first|rfl|(simp only [placedB, *,Za,Zg,Zf];done)|(simp_all [placedB];done)
def objectB (a:Xa):Bool:=isDigestB a.object
theorem ck (a:Xa):Pu prog 118 #[a.v] (fun _=>True) (.bool (objectB a)):=by
 refine ax func118 ntmps118 fun av bor w0=>?_
 repeat' (first|refine ae (hc:=g8 _) ?_|refine gs ?_|refine gs1 fun _=>?_|(refine gp ?_ ?_<;>intro hx_ this)|fail)
 (all_goals (apply aa;apply ai;rfl;rfl));all_goals first|rfl|(simp only [objectB, *,Za,Zg,Zf];done)|(simp_all [objectB];done)
def targetB (a:Xa):Bool:=isId a.target
theorem cM (a:Xa):Pu prog 120 #[a.v] (fun _=>True) (.bool (targetB a)):=by
 refine ax func120 ntmps120 fun av bor w0=>?_
 repeat' (first|refine ae (hc:=fT _) ?_|refine gs ?_|refine gs1 fun _=>?_|(refine gp ?_ ?_<;>intro hx_ this)|fail)
 (all_goals (apply aa;apply ai;rfl;rfl));all_goals first|rfl|(simp only [targetB, *,Za,Zg,Zf];done)|(simp_all [targetB];done)
def homeB (a:Xa):Bool:=isPublicB a.n&&withinB a.m 0 19
theorem nX (a:Xa):Pu prog 125 #[a.v] (fun _=>True) (.bool (homeB a)):=by
 refine ax func125 ntmps125 fun av bor w0=>?_
 repeat' (first|refine ae (hc:=eS _) ?_|refine ae (hc:=bP _ _ _) ?_|refine gs ?_|refine gs1 fun _=>?_|(refine gp ?_ ?_<;>intro hx_ this)|fail)
 (all_goals (apply aa;apply ai;rfl;rfl));all_goals first|rfl|(simp only [homeB, *,Za,Zg,Zf];done)|(simp_all [homeB];done)
def labelB (a:Xa):Bool:=bif !isName a.text then false else objectB a&&seqB a.target ⟨#[]⟩||targetB a&&seqB a.object ⟨#[]⟩
theorem q9 (a:Xa):Pu prog 129 #[a.v] (fun _=>True) (.bool (labelB a)):=by
 refine ax func129 ntmps129 fun av bor w0=>?_
 repeat' (first|refine ae (hc:=io _) ?_|refine ae (hc:=ck a) ?_|refine ae (hc:=cM a) ?_|refine gs ?_|refine gs1 fun _=>?_|(refine gp ?_ ?_<;>intro hx_ this)|fail)
 (all_goals (apply aa;apply ai;rfl;rfl));all_goals first|rfl|(simp only [labelB, *,Za,Zg,Zf];done)|(simp_all [labelB];done)
def audienceB (a:Xa):Bool:=bif !isIds a.toL then false else bif decide (a.scope=0) then seqB a.group ⟨#[]⟩&&decide (a.epoch=0)&&isShortB a.text&&boxEq a.body Xo.zero
 else bif decide (0<(a.to.n:Int))&&!decide (a.scope=3) then false else sealedScopeB a.scope a.group&&withinB a.epoch 0 1073741824&&seqB a.text ⟨#[]⟩&&isSealedB a.body
theorem ib (a:Xa):Pu prog 119 #[a.v] (Xa.at_ · a) (.bool (audienceB a)):=by
 refine ax func119 ntmps119 fun av bor w0=>?_
 repeat' (first|refine ae (hc:=kK a.to a.toL) ?_|refine ae (hc:=eA _) ?_|refine ae (hc:=eN _ _) ?_|refine ae (hc:=bP _ _ _) ?_|refine ae (hc:=g6 a.body) ?_|refine gs ?_|refine gs1 fun _=>?_|(refine jz ?_)|(refine li ?_)|(refine aV ?_)|(refine gp ?_ ?_<;>intro hx_ this)|fail)
 (all_goals (apply aa;apply ai;rfl;rfl));all_goals first|rfl|(simp only [audienceB, *,Za,Zg,Zf];done)|(simp_all [audienceB];done)
def badW (l:List Xk) (k:Nat):Bool :=
 match l[k]? with
 | some x=>!isPublicB x.to||(!isPublicB x.eph||!isSealedB x.box)
 | none=>false
theorem kW {l:List Xk} {k:Nat} {x:Xk} (h:l[k]?=some x):badW l k=(!isPublicB x.to||(!isPublicB x.eph||!isSealedB x.box)):=by simp only [badW,h]
def wrappedB (a:Xa):Bool:=allB a.wrapsL.length (badW a.wrapsL)&&decide ((a.wraps.n:Int)=(a.to.n:Int))
theorem iB (a:Xa):Pu prog 172 #[a.v] (Xa.at_ · a) (.bool (wrappedB a)):=by
 refine ax func172 ntmps172 fun av bor w0=>?_
 refine aK (p:=a.wraps.n=a.wrapsL.length∧a.wraps.n≤maxLen∧(0<a.wrapsL.length→a.wraps.p.isSome=true)) (fun w h=>⟨h.2.len_,ZO (Xd.cap h.2) (Xd.max h.2),h.2.some_⟩) fun ⟨hl,hm,hp⟩=>?_
 simp only [maxLen] at hm
 repeat' (first|refine gs ?_|refine gs1 fun _=>?_|(refine gp ?_ ?_<;>intro hx_ this)|fail)
 rename_i b
 refine az (ι:=Ec a.wrapsL.length (badW a.wrapsL)) (fun i=>⟨[(1,.pointer (some ⟨b,0,none⟩)),(6,a.wraps.v),(7,.int .i64 a.wraps.n),(8,.int .i64 i.k)],[cel b 36 a.cells],(Xa.at_ · a)⟩) (fun i=>a.wrapsL.length-i.k) (Ec.zero _ _) (ak aw (aj _) fun _ h=>h) fun i=>?_
 have hik:=i.hk
 repeat' (first|refine ae (hc:=bP _ _ _) ?_|refine gs ?_|refine gs1 fun _=>?_|(refine gp ?_ ?_<;>intro hx_ this)|fail)
 · have hlt:i.k<a.wrapsL.length:=by omega
   have hp':=hp ab
   obtain ⟨x,hx⟩:∃ x,a.wrapsL[i.k]?=some x:=⟨_,Zc hlt⟩
   repeat' (first|refine ae (hc:=eS _) ?_|refine ae (hc:=g6 x.box) ?_|refine gs ?_|refine gs1 fun _=>?_|(refine aA (q:=i.k*5) ?_)|(refine aO (cs:=x.cells) (hF:=fun w h=>Wraps.get h.2 hx) ?_)|(refine aV ?_)|(refine gp ?_ ?_<;>intro hx_ this)|fail)
   all_goals first
    | (apply aa;apply ai;rfl;rfl;rw [wrappedB,fL hlt (by simp only [kW hx, *,Za,Zg,Zf]),Bool.false_and])
    | exact ⟨i.next hlt (by simp only [kW hx, *,Za,Zg,Zf]),(by show a.wrapsL.length-(i.k+1)<a.wrapsL.length-i.k;omega),ak aw (ZS _ (aj _)) fun _ h=>h⟩
 · apply aa;apply ai;rfl;rfl
   rw [wrappedB,i.all ab,Zh]
def grantB (a:Xa):Bool:=sealedScopeB a.scope a.group&&withinB a.epoch 0 1073741824&&isIds a.toL&&wrappedB a
theorem rk (a:Xa):Pu prog 128 #[a.v] (Xa.at_ · a) (.bool (grantB a)):=by
 refine ax func128 ntmps128 fun av bor w0=>?_
 repeat' (first|refine ae (hc:=eN _ _) ?_|refine ae (hc:=bP _ _ _) ?_|refine ae (hc:=kK a.to a.toL) ?_|refine ae (hc:=iB a) ?_|refine gs ?_|refine gs1 fun _=>?_|(refine gp ?_ ?_<;>intro hx_ this)|fail)
 (all_goals (apply aa;apply ai;rfl;rfl));all_goals first|rfl|(simp only [grantB, *,Za,Zg,Zf];done)|(simp_all [grantB];done)
def setupB (a:Xa):Bool:=decide (0<(a.to.n:Int))&&isIds a.toL&&wrappedB a&&withinB a.n 1 a.to.n&&isPublicB a.m
theorem qA (a:Xa):Pu prog 130 #[a.v] (Xa.at_ · a) (.bool (setupB a)):=by
 refine ax func130 ntmps130 fun av bor w0=>?_
 repeat' (first|refine ae (hc:=bP _ _ _) ?_|refine ae (hc:=kK a.to a.toL) ?_|refine ae (hc:=iB a) ?_|refine ae (hc:=eS _) ?_|refine gs ?_|refine gs1 fun _=>?_|(refine gp ?_ ?_<;>intro hx_ this)|fail)
 (all_goals (apply aa;apply ai;rfl;rfl));all_goals first|rfl|(simp only [setupB, *,Za,Zg,Zf];done)|(simp_all [setupB];done)
def rule1B (a:Xa):Bool:=objectB a&&audienceB a
theorem iN (a:Xa):Pu prog 117 #[a.v] (Xa.at_ · a) (.bool (rule1B a)):=by
 refine ax func117 ntmps117 fun av bor w0=>?_
 repeat' (first|refine ae (hc:=ck a) ?_|refine ae (hc:=ib a) ?_|refine gs ?_|refine gs1 fun _=>?_|(refine gp ?_ ?_<;>intro hx_ this)|fail)
 (all_goals (apply aa;apply ai;rfl;rfl));all_goals first|rfl|(simp only [rule1B, *,Za,Zg,Zf];done)|(simp_all [rule1B];done)
def rule2B (a:Xa):Bool:=objectB a&&isShortB a.text
theorem lw (a:Xa):Pu prog 121 #[a.v] (fun _=>True) (.bool (rule2B a)):=by
 refine ax func121 ntmps121 fun av bor w0=>?_
 repeat' (first|refine ae (hc:=ck a) ?_|refine ae (hc:=eA _) ?_|refine gs ?_|refine gs1 fun _=>?_|(refine gp ?_ ?_<;>intro hx_ this)|fail)
 (all_goals (apply aa;apply ai;rfl;rfl));all_goals first|rfl|(simp only [rule2B, *,Za,Zg,Zf];done)|(simp_all [rule2B];done)
def rule3B (a:Xa):Bool:=isName a.text&&homeB a
theorem qI (a:Xa):Pu prog 123 #[a.v] (fun _=>True) (.bool (rule3B a)):=by
 refine ax func123 ntmps123 fun av bor w0=>?_
 repeat' (first|refine ae (hc:=io _) ?_|refine ae (hc:=nX a) ?_|refine gs ?_|refine gs1 fun _=>?_|(refine gp ?_ ?_<;>intro hx_ this)|fail)
 (all_goals (apply aa;apply ai;rfl;rfl));all_goals first|rfl|(simp only [rule3B, *,Za,Zg,Zf];done)|(simp_all [rule3B];done)
def rule4B (a:Xa):Bool:=isName a.group&&isIds a.toL
theorem qH (a:Xa):Pu prog 126 #[a.v] (Xa.at_ · a) (.bool (rule4B a)):=by
 refine ax func126 ntmps126 fun av bor w0=>?_
 repeat' (first|refine ae (hc:=io _) ?_|refine ae (hc:=kK a.to a.toL) ?_|refine gs ?_|refine gs1 fun _=>?_|(refine gp ?_ ?_<;>intro hx_ this)|fail)
 (all_goals (apply aa;apply ai;rfl;rfl));all_goals first|rfl|(simp only [rule4B, *,Za,Zg,Zf];done)|(simp_all [rule4B];done)
def rule5B (a:Xa):Bool:=objectB a&&withinB a.n 0 1
theorem qG (a:Xa):Pu prog 131 #[a.v] (fun _=>True) (.bool (rule5B a)):=by
 refine ax func131 ntmps131 fun av bor w0=>?_
 repeat' (first|refine ae (hc:=ck a) ?_|refine ae (hc:=bP _ _ _) ?_|refine gs ?_|refine gs1 fun _=>?_|(refine gp ?_ ?_<;>intro hx_ this)|fail)
 (all_goals (apply aa;apply ai;rfl;rfl));all_goals first|rfl|(simp only [rule5B, *,Za,Zg,Zf];done)|(simp_all [rule5B];done)
def rule6B (a:Xa):Bool:=targetB a&&isShortB a.text&&withinB a.n 0 1099511627776
theorem qF (a:Xa):Pu prog 132 #[a.v] (fun _=>True) (.bool (rule6B a)):=by
 refine ax func132 ntmps132 fun av bor w0=>?_
 repeat' (first|refine ae (hc:=cM a) ?_|refine ae (hc:=eA _) ?_|refine ae (hc:=bP _ _ _) ?_|refine gs ?_|refine gs1 fun _=>?_|(refine gp ?_ ?_<;>intro hx_ this)|fail)
 (all_goals (apply aa;apply ai;rfl;rfl));all_goals first|rfl|(simp only [rule6B, *,Za,Zg,Zf];done)|(simp_all [rule6B];done)
end Go.Proofs.YtamfbppnlomgfaaGreatDoor
namespace Go.Proofs.YtamfbppnlomgfaaGreatDoor.Sy
open Go Go.RowKit
section
variable {P:Program} {N:Nat} {av bor:List Nat} {w0:World} {ops:Array Oper} {rest:List Oper} {k:St→Prop} {E:Env} {loc loc':List Xi} {X:World→Prop}
variable {d:Option Tmp} {ty:TypeId} {pos:String} {af:Array Edge} {g:Option (Nat×Bool)} {bb want:Bool} {K:Exit→St→Prop}
theorem gJ:∀ (vs pre z:List Value),(∀ v∈vs,v.oneCell'=true)→z.length=vs.length →
  Instr.fill (fun i=>some (i*1,1)) (pre++z).toArray ((vs.zipIdx pre.length).map fun p=>(p.2,p.1))=some (pre++vs).toArray
 | [],pre,z,_,hz=>by
  have:z=[]:=ZY (by simpa using hz)
  subst this
  simp [Instr.fill]
 | v::vs,pre,z,h1,hz=>by
  cases z with
  | nil=>simp at hz
  | cons y z =>
   have hv:v.cells=#[v]:=by
    have:=h1 v aC
    cases v<;>first|rfl|(simp [Value.oneCell'] at this)
   have ih:=gJ vs (pre++[v]) z (fun u hu=>h1 u (Zr _ hu)) (by simpa using hz)
   simp only [List.zipIdx_cons,ZR,Instr.fill,hv]
   have e:((pre++y::z).toArray.setIfInBounds pre.length v)=(pre++[v]++z).toArray:=by
    apply Array.ext'
    simp
   simp only [Zw,Zx,ZJ,ZL] at ih
   simp [e]
   simpa using ih
def partsOf (E:Env):Nat→List (Nat×Operand)→Option (List Value)
 | _,[]=>some []
 | i,(j,x)::r =>
  bif Nat.beq i j then
   match ev E x,partsOf E (i+1) r with
   | some v,some l=>some (v::l)
   | _,_=>none
  else none
theorem di {a:Act} {w:World} (ok:Ok N av bor w0 ⟨E,loc,X⟩ a w):∀ (l:List (Nat×Operand)) (i:Nat) (vs:List Value),partsOf E i l=some vs→(l.map fun p=>(p.1,a.eval p.2))=(vs.zipIdx i).map fun p=>(p.2,p.1)
 | [],i,vs,h=>by simp [partsOf] at h;subst h;rfl
 | (j,x)::r,i,vs,h=>by
  unfold partsOf at h
  cases hb:Nat.beq i j with
  | false=>simp [hb] at h
  | true =>
   have e:i=j:=Nat.eq_of_beq_eq_true hb
   subst e
   simp only [hb,Zg] at h
   split at h
   · rename_i v l' hv hl
     simp at h
     subst h
     simp [ok.eval (st:=⟨E,loc,X⟩) hv,di ok r (i+1) l' hl]
   · cases h
theorem dK {n len:Nat} {t e b':Nat} [hs:Xu P t e 1 b'] {z:Value} [hz:Xl P e z] {parts:List (Nat×Operand)} {vs:List Value} (h:∀ b,Sw P N av bor w0 ops rest ⟨(n,.slice (some ⟨b,0,none⟩) len len)::E,cel b e vs::loc,X⟩ k) (hp:partsOf E 0 parts=some vs:=by rfl) (hl:vs.length=len:=by rfl) (h1:vs.all (·.oneCell')=true:=by rfl) (hpos:Nat.ble len 1000000=true:=by rfl) (hg:gdB ops E g=some (bb,want):=by rfl) (hb:bb=want:=by exact ay) (hd:Nat.blt n N=true:=by rfl):Sw P N av bor w0 ops (⟨some n,.buildSlice t len parts.toArray,ty,pos,af,g⟩::rest) ⟨E,loc,X⟩ k:=Sw.mk fun a w ok=>by
 have hd':inB N (some n)=true:=by have h1:n<N:=Zt hd;simpa [inB] using h1
 have hle:len≤1000000:=Zt hpos
 obtain ⟨ht,inf,hi,hi1,hi2⟩:=aY hs.out
 have hsz:(sizeOf e).run P w=.ok 1 w:=by simp [sizeOf,typeInfo,hi,hi1]
 have hzr:(zeroValue e).run P w=.ok z w:=cb hz.out w
 simp only [wpList]
 rw [aM ok (o:=⟨some n,.buildSlice t len parts.toArray,ty,pos,af,g⟩) hg]
 subst hb
 simp only [Zv,ZF]
 left
 unfold Oper.wp
 have hfill:∀ Z:Array Value,Z.size=len→Instr.fill (fun i=>some (i*1,1)) Z (parts.map fun p=>(p.1,a.eval p.2))=some vs.toArray:=fun Z hZ=>by
  rw [di ok parts 0 vs hp]
  have:=gJ vs [] Z.toList (by simpa using h1) (by simp [hZ,hl])
  simpa using this
 have hr:(execOp a.eval ⟨some n,.buildSlice t len parts.toArray,ty,pos,af,g⟩).run P w=.ok (.value (.slice (some ⟨w.heap.size,0,none⟩) len len)) (w.alloc (.cells vs.toArray e)):=by
  have hn:¬ (16777216<len):=by omega
  by_cases h0:len=0
  · subst h0
    have hf:=hfill #[] rfl
    have hr0:∀ f:Nat→Value,Array.map f (Array.range 0)=#[]:=fun f=>Array.eq_empty_of_size_eq_zero (by simp)
    simp at hf
    simp [execOp,Instr.buildSlice,run_underlying ht,hsz,hf,hr0,cG]
  · have hf:=hfill ((Array.range len).map (fun x=>z.cells[x%z.cells.size]!)) (by simp)
    simp at hf
    simp [execOp,Instr.buildSlice,run_underlying ht,hsz,hzr,h0,hn,hf,cG]
 rw [hr]
 have ok':Ok N av bor w0 ⟨E,cel w.heap.size e vs::loc,X⟩ a (w.alloc (.cells vs.toArray e)):=(ok.via fun M G=>G.new _ _ fun _ h=>h)
 exact (h _).run _ _ (bw (some n) _▸ok'.put hd' _)
end
end Go.Proofs.YtamfbppnlomgfaaGreatDoor.Sy
namespace Go.Proofs.YtamfbppnlomgfaaGreatDoor
open Go Go.Proofs Sy Tryz
def lowD (n:Int):Int:=IntKind.u8.wrap (128+n.tmod 128)
def numD:Nat→Int→List Int
 | 0,_=>[]
 | f+1,n=>bif decide (128≤n) then lowD n::numD f (n.tdiv 128) else [IntKind.u8.wrap n]
def numV (n:Int):ByteArray:=bif decide (n<0) then ⟨#[]⟩ else ofInts (numD 10 n)
structure NumAt (n0:Int) where
 f:Nat
 acc:List Int
 n:Int
 h:acc++numD (f+1) n=numD 10 n0
 hl:acc.length+f=9
 h0:0≤n
 h1:n<128 ^ f
theorem mT {f:Nat} {n:Int} (h:¬ 128≤n):numD (f+1) n=[IntKind.u8.wrap n]:=by
 have:decide (128≤n)=false:=Zd h
 simp only [numD,this,Zf]
theorem qV {f:Nat} {n:Int} (h:128≤n):numD (f+1) n=lowD n::numD f (n.tdiv 128):=by
 simp only [numD,Ze h,Zg]
def NumAt.next {n0:Int} (i:NumAt n0) (h:128≤i.n):NumAt n0 :=
 ⟨i.f-1,i.acc++[lowD i.n],i.n.tdiv 128,by
  have hf:i.f≠0:=fun e=>by have:=i.h1;rw [e] at this;simp at this;omega
  have:=i.h
  rw [qV h] at this
  rw [show i.f-1+1=i.f from by omega]
  simpa using this,by
  have hf:i.f≠0:=fun e=>by have:=i.h1;rw [e] at this;simp at this;omega
  have:=i.hl
  simp
  omega,by
  rw [Qe i.h0]
  have:=i.h0
  omega,by
  have hf:i.f≠0:=fun e=>by have:=i.h1;rw [e] at this;simp at this;omega
  rw [Qe i.h0]
  have h1:=i.h1
  obtain ⟨f,hf'⟩:∃ f,i.f=f+1:=⟨i.f-1,by omega⟩
  rw [hf'] at h1 ⊢
  rw [Int.pow_succ] at h1
  simp only [Nat.add_sub_cancel]
  omega⟩
theorem NumAt.f_pos {n0:Int} (i:NumAt n0) (h:128≤i.n):0<i.f:=by
 rcases Nat.eq_zero_or_pos i.f with e|e
 · have:=i.h1;rw [e] at this;simp at this;omega
 · exact e
theorem NumAt.lt {n0:Int} (i:NumAt n0):i.n<9223372036854775808:=by
 have h1:=i.h1
 have h2:=i.hl
 have h3:i.f≤9:=by omega
 have h4:(128:Int) ^ i.f≤128 ^ 9:=by
  have:=Nat.pow_le_pow_right (n:=128) ab h3
  exact_mod_cast this
 have h5:(128:Int) ^ 9=9223372036854775808:=by decide
 omega
structure NumS (n0:Int) where
 i:NumAt n0
 A:Option Addr
 c:Nat
def NumS.v {n0:Int} (s:NumS n0):Value:=.slice s.A s.i.acc.length s.c
def NumS.st {n0:Int} (s:NumS n0):St:=⟨[(0,.int .i64 s.i.n),(3,s.v)],[orow 5 1 s.v s.i.acc.length (u8s s.i.acc)],fun _=>True⟩
theorem bF (n:Int) (hn:n<9223372036854775808):Pu prog 31 #[.int .i64 n] (fun _=>True) (.string (numV n)):=by
 refine ax func31 ntmps31 fun av bor w0=>?_
 repeat' (first|refine gs ?_|refine gs1 fun _=>?_|(refine gp ?_ ?_<;>intro hx_ this)|fail)
 · (all_goals (apply aa;apply ai;rfl;rfl));all_goals first|rfl|(simp only [numV, *,Za,Zg,Zf];done)|(simp_all [numV];done)
 have hn0:0≤n:=by omega
 refine bA 5 1 ?_
 refine az (ι:=NumS n) NumS.st (fun s=>s.i.f) ⟨⟨9,[],n,rfl,rfl,by omega,by omega⟩,none,0⟩ (ak aw (aj _) fun _ h=>h) fun s=>?_
 unfold NumS.st
 repeat' (first|refine gs ?_|refine gs1 fun _=>?_|(refine gp ?_ ?_<;>intro hx_ this)|fail)
 · have hl:=s.i.hl
   refine eI (hc:=rfl) ?_
   refine dw (hc:=IntWalk.i64_in _ (by have:=Int.tmod_lt_of_pos s.i.n (b:=128) ab;have:=Int.tmod_nonneg 128 s.i.h0;omega)) ?_
   refine iF (hc:=rfl) ?_
   refine dK fun b=>?_
   refine aD (size:=1) (z:=.int .u8 0) (news:=u8s [lowD s.i.n]) (q:=1) rfl rfl rfl rfl (fun _=>At.there _ (At.here _)) (fun w G=>aR G aC rfl rfl 1) ?_ ?_ rfl ?_ rfl ?_
   · omega
   · simp only [maxLen];omega
   · rfl
   intro A c
   repeat' (first|refine gs ?_|refine gs1 fun _=>?_|(refine gp ?_ ?_<;>intro hx_ this)|fail)
   refine mA (hc:=IntWalk.i64_in _ (by rw [Qe s.i.h0];have:=s.i.lt;have:=s.i.h0;omega)) ?_
   repeat' (first|refine gs ?_|refine gs1 fun _=>?_|(refine gp ?_ ?_<;>intro hx_ this)|fail)
   have e1:(s.i.next this).acc=s.i.acc++[lowD s.i.n]:=rfl
   have e2:(s.i.next this).acc.length=s.i.acc.length+1:=by rw [e1];simp
   refine ⟨(⟨s.i.next this,A,c⟩:NumS n),?_,ak ⟨?_,?_,trivial⟩ ?_ fun _ h=>h⟩
   · have:=s.i.f_pos this
     show s.i.f-1<s.i.f
     omega
   · rfl
   · simp only [NumS.v,e2];rfl
   · simp only [NumS.v,e1,bp]
     refine ZS _ ?_
     simp only [Zw,Zx,ZJ,ZL]
     exact aj _
 · have hl:=s.i.hl
   refine aD (size:=1) (z:=.int .u8 0) (news:=u8s [IntKind.u8.wrap s.i.n]) (q:=1) rfl rfl rfl rfl (fun _=>At.there _ (At.here _)) (fun w G=>aR G aC rfl rfl 1) ?_ ?_ rfl ?_ rfl ?_
   · omega
   · simp only [maxLen];omega
   · rfl
   intro A c
   rw [←bp]
   refine fE (hm:=Zr _ aC) ?_
   repeat' (first|refine gs ?_|refine gs1 fun _=>?_|(refine gp ?_ ?_<;>intro hx_ this)|fail)
   apply aa;apply ai;rfl;rfl
   have h0:decide (n<0)=false:=Zd ab
   have h1:=s.i.h
   rw [mT this] at h1
   simp only [numV,h0,Zf,h1]
theorem gZ:∀ (ns:List Int) (r:ByteArray),(ns.foldl (fun r n=>r.push (UInt8.ofNat n.toNat)) r).size=r.size+ns.length
 | [],r=>rfl
 | n::ns,r=>by rw [Qq,gZ ns];simp [ByteArray.size_push];omega
theorem eM (ns:List Int):(ofInts ns).size=ns.length:=by rw [ofInts,gZ];simp
theorem lE:∀ (f:Nat) (n:Int),(numD f n).length≤f
 | 0,n=>by simp [numD]
 | f+1,n=>by
  have:=lE f (n.tdiv 128)
  unfold numD
  cases decide (128≤n)<;>simp<;>omega
theorem ar (n:Int):(numV n).size≤10:=by
 unfold numV
 cases decide (n<0) with
 | true=>simp [ByteArray.size]
 | false=>rw [Zf,eM];exact lE _ _
theorem dL (s:ByteArray):ofInts (bytesI s)=s:=by
 have key:∀ (l:List UInt8) (r:ByteArray),((l.map fun b=>(b.toNat:Int)).foldl (fun r n=>r.push (UInt8.ofNat n.toNat)) r)=⟨(r.data.toList++l).toArray⟩:=by
  intro l
  induction l with
  | nil=>intro r;simp
  | cons b l ih =>
   intro r
   rw [ZR,Qq,ih]
   simp [ByteArray.push]
 rw [ofInts,bytesI,key]
 simp
theorem dP (a b:ByteArray):bytesI (a++b)=bytesI a++bytesI b:=by simp [bytesI,ByteArray.data_append]
theorem nc (a:ByteArray):(bytesI a).length=a.size:=by simp [bytesI]
def textV (s:ByteArray):ByteArray:=numV s.size++s
theorem bD (s:ByteArray) (hs:s.size≤1099511627776):Pu prog 24 #[.string s] (fun _=>True) (.string (textV s)):=by
 refine ax func24 ntmps24 fun av bor w0=>?_
 have:=ar s.size
 repeat' (first|refine ae (hc:=bF _ ab) ?_|refine gs ?_|(refine mD ?_)|(refine gp ?_ ?_<;>intro hx_ this)|fail)
 (all_goals (apply aa;apply ai;rfl;rfl));all_goals first|rfl|(simp only [textV, *,Za,Zg,Zf];done)|(simp_all [textV];done)
def cats:List ByteArray→ByteArray
 | []=>ByteArray.empty
 | a::l=>a++cats l
theorem eX:∀ (a b:List ByteArray),cats (a++b)=cats a++cats b
 | [],b=>by simp [cats]
 | x::a,b=>by simp [cats,eX a b,Zu]
theorem gQ (l:List ByteArray) {k:Nat} (h:k<l.length):cats (l.take (k+1))=cats (l.take k)++l.getD k .empty:=by
 rw [Z5,eX]
 simp [h,cats]
theorem fq (l:List ByteArray) (k:Nat):(cats (l.take k)).size≤(cats l).size:=by
 have:cats l=cats (l.take k)++cats (l.drop k):=by rw [←eX,List.take_append_drop]
 rw [this,Zb]
 omega
def listV (l:List ByteArray):ByteArray:=numV l.length++cats (l.map textV)
structure Xt (m:Nat) where
 k:Nat
 hk:k≤m
 A:Option Addr
 c:Nat
def Xt.out {l:List ByteArray} (i:Xt l.length):ByteArray:=numV l.length++cats ((l.map textV).take i.k)
def Xt.v {l:List ByteArray} (i:Xt l.length):Value:=.slice i.A i.out.size i.c
def Xt.st (s:Xh) (l:List ByteArray) (i:Xt l.length):St :=
 ⟨[(1,.func (.func 24) #[] #[]),(5,i.v),(12,s.v),(13,.int .i64 s.n),(14,.int .i64 i.k)],[orow 5 1 i.v i.out.size (u8s (bytesI i.out))],fun w=>Strs w s l⟩
theorem kg (s:Xh) (l:List ByteArray) (hs:(listV l).size≤1099511627776) :
  Pu prog 135 #[s.v,.func (.func 24) #[] #[]] (fun w=>Strs w s l) (.string (listV l)):=by
 refine ax func135 ntmps135 fun av bor w0=>?_
 refine aK (p:=s.n=l.length∧s.n≤maxLen∧(0<l.length→s.p.isSome=true)) (fun w h=>⟨h.len_,ZO (Xd.cap h) (Xd.max h),h.some_⟩) fun ⟨hl,hm,hp⟩=>?_
 simp only [maxLen] at hm
 have hn10:=ar s.n
 repeat' (first|refine ae (hc:=bF _ ab) ?_|refine gs ?_|(refine qq fun A c=>?_)|(refine gp ?_ ?_<;>intro hx_ this)|fail)
 have hle:=fq (l.map textV)
 have hsz:(numV l.length).size+(cats (l.map textV)).size≤1099511627776:=by rw [←Zb];exact hs
 have h0:Xt.out (l:=l) ⟨0,ZU _,A,c⟩=numV s.n:=by simp [Xt.out,cats,hl]
 refine az (ι:=Xt l.length) (Xt.st s l) (fun i=>l.length-i.k) ⟨0,ZU _,A,c⟩ (ak ⟨rfl,?_,rfl,rfl,rfl,trivial⟩ ?_ fun _ h=>h) fun i=>?_
 · simp only [Xt.v,h0];rfl
 · simp only [Xt.v,h0];exact aj _
 have hik:=i.hk
 have hout:i.out.size≤1099511627776:=by simp only [Xt.out,Zb];have:=hle i.k;omega
 unfold Xt.st
 repeat' (first|refine gs ?_|(refine gp ?_ ?_<;>intro hx_ this)|fail)
 · have hlt:i.k<l.length:=by omega
   have hp':=hp ab
   have hsucc:=gQ (l.map textV) (k:=i.k) (by simpa using hlt)
   have hget:(l.map textV).getD i.k .empty=textV (l.getD i.k .empty):=by simp [hlt]
   rw [hget] at hsucc
   have hnext:(numV l.length++cats ((l.map textV).take (i.k+1)))=i.out++textV (l.getD i.k .empty):=by rw [hsucc,←Zu];rfl
   have hb:i.out.size+(textV (l.getD i.k .empty)).size≤1099511627776:=by
    rw [←Zb,←hnext,Zb]
    have:=hle (i.k+1)
    omega
   have hb2:(l.getD i.k .empty).size≤1099511627776:=by simp only [textV,Zb] at hb;omega
   repeat' (first|refine ae (hc:=bD _ ab) ?_|refine gs ?_|(refine aA (q:=i.k) ?_)|(refine bm (hF:=fun w h=>Strs.get h hlt) ?_)|(refine gp ?_ ?_<;>intro hx_ this)|fail)
   refine aD (size:=1) (z:=.int .u8 0) rfl rfl rfl rfl (fun _=>At.here _) (fun w G=>kv ab) ?_ ?_ rfl ?_ rfl ?_
   · omega
   · simp only [maxLen];omega
   · rfl
   intro A c
   repeat' (first|refine gs ?_|(refine gp ?_ ?_<;>intro hx_ this)|fail)
   have e2:Xt.out (l:=l) ⟨i.k+1,hlt,A,c⟩=i.out++textV (l.getD i.k .empty):=hnext
   refine ⟨(⟨i.k+1,hlt,A,c⟩:Xt l.length),(by show l.length-(i.k+1)<l.length-i.k;omega),ak ⟨rfl,?_,rfl,rfl,rfl,trivial⟩ ?_ fun _ h=>h⟩
   · simp only [Xt.v,e2,Zb];rfl
   · simp only [Xt.v,e2,Zb,dP,bp];exact aj _
 · have hk:i.k=l.length:=by omega
   repeat' (first|refine gs ?_|(refine gp ?_ ?_<;>intro hx_ this)|fail)
   refine fE (hm:=aC) ?_
   repeat' (first|refine gs ?_|(refine gp ?_ ?_<;>intro hx_ this)|fail)
   apply aa;apply ai;rfl;rfl
   rw [dL,Xt.out,hk,Z4 (by simp),listV]
theorem nR (s:Xh) (l:List ByteArray) (hs:(listV l).size≤1099511627776):Pu prog 81 #[s.v] (fun w=>Strs w s l) (.string (listV l)):=by
 refine ax func81 ntmps81 fun av bor w0=>?_
 repeat' (first|refine ae (hc:=kg s l hs) ?_|refine gs ?_|(refine gp ?_ ?_<;>intro hx_ this)|fail)
 (all_goals (apply aa;apply ai;rfl;rfl));all_goals first|rfl|(simp only [*,Za,Zg,Zf];done)|(simp_all [];done)
theorem aq (s:ByteArray):(textV s).size≤10+s.size:=by have:=ar s.size;rw [textV,Zb];omega
structure Xo.Fit (b:Xo):Prop where
 nonce:b.nonce.size≤1073741824
 data:b.data.size≤1073741824
 tag:b.tag.size≤1073741824
def boxV (b:Xo):ByteArray:=textV b.nonce++textV b.data++textV b.tag
theorem gR {b:Xo} (h:b.Fit):(boxV b).size≤4294967296:=by
 have h1:=aq b.nonce
 have h2:=aq b.data
 have h3:=aq b.tag
 have:=h.nonce
 have:=h.data
 have:=h.tag
 simp only [boxV,Zb]
 omega
theorem ia (b:Xo) (hb:b.Fit):Pu prog 82 #[b.v] (fun _=>True) (.string (boxV b)):=by
 refine ax func82 ntmps82 fun av bor w0=>?_
 have h1:=aq b.nonce
 have h2:=aq b.data
 have h3:=aq b.tag
 have:=hb.nonce
 have:=hb.data
 have:=hb.tag
 repeat' (first|refine gs ?_|refine gs1 fun _=>?_|(refine gp ?_ ?_<;>intro hx_ this)|fail)
 (refine aJ ⟨[0,1,3,4,7,8],[(2,⟨[],[(5,⟨[6],[(9,⟨[10,11],[]⟩)]⟩)]⟩)]⟩ (h:=?_))
 all_goals repeat' (first|refine ae (hc:=bD _ ab) ?_|refine gd ?_|refine aH (hy:=by first|(apply eG;rfl;rfl;(try simp only [Zb]);omega)) ?_|refine aE ?_ (h':=?_)|exact aF|refine gs1 fun _=>?_|(refine gq ?_ ?_<;>intro hx_ this)|fail)
 repeat' (first|refine gs ?_|refine gs1 fun _=>?_|(refine gp ?_ ?_<;>intro hx_ this)|fail)
 (all_goals (apply aa;apply ai;rfl;rfl));all_goals first|rfl|(simp only [boxV, *,Za,Zg,Zf];done)|(simp_all [boxV];done)
end Go.Proofs.YtamfbppnlomgfaaGreatDoor
namespace Go.Proofs.YtamfbppnlomgfaaGreatDoor.Sy
open Go Go.RowKit
section
variable {P:Program} {N:Nat} {av bor:List Nat} {w0:World} {ops:Array Oper} {rest:List Oper} {k:St→Prop} {E:Env} {loc loc':List Xi} {X:World→Prop}
variable {d:Option Tmp} {ty:TypeId} {pos:String} {af:Array Edge} {g:Option (Nat×Bool)} {bb want:Bool} {K:Exit→St→Prop}
theorem mv {st:St} {fn:Fn} {xs:List Operand} {vs:List Value} (hx:evs st.env xs=some vs):Sy.Yields P N av bor w0 st (.makeFunc fn #[] xs.toArray) ty (.func fn #[] vs.toArray):=Sy.Yields.mk fun A w ok d pos af g=>by
 have e:=eU (E:=st.env) (loc:=st.loc) (X:=st.ext) ok xs vs hx
 have e1:xs.toArray.map A.eval=vs.toArray:=by rw [List.map_toArray,e]
 simp [execOp,Instr.makeFunc,e1,e]
theorem bV {n:Nat} {fn:Fn} {xs:List Operand} {vs:List Value} (h:Sw P N av bor w0 ops rest ⟨(n,.func fn #[] vs.toArray)::E,loc,X⟩ k) (hx:evs E xs=some vs:=by rfl) (hg:gdB ops E g=some (bb,want):=by rfl) (hbb:bb=want:=by exact ay) (hd:Nat.blt n N=true:=by rfl) :
  Sw P N av bor w0 ops (⟨some n,.makeFunc fn #[] xs.toArray,ty,pos,af,g⟩::rest) ⟨E,loc,X⟩ k:=ao (mv hx) hg hbb hd h
theorem dC {x:Operand} {xs:List Operand} {ats:Array TypeId} {f:FuncId} {first caps:Array Value} {args all:List Value} {X1:World→Prop} {v:Value} {r r':Xi} (h:Sw P N av bor w0 ops rest ⟨putE E d v,loc',X⟩ k) (hx:ev E x=some (.func (.func f) first caps):=by rfl) (ha:evs E xs=some args:=by rfl) (hall:first.toList++args++caps.toList=all:=by rfl) (hg:gdB ops E g=some (bb,want):=by rfl) (hb:bb=want:=by exact ay) (hd:inB N d=true:=by rfl) (hf:Xz P f:=by first|infer_instance|exact ⟨ac⟩) (hc:Ct P f all.toArray [r] X1 fun u R _=>u=v∧R=[r']) (hA:At r r' loc loc':=by (repeat (first|exact At.here _|apply At.there))) (hX:∀ w,X w→X1 w:=by (first|exact fun _ _=>trivial|exact fun _ h=>h|exact fun _ h=>h.1|exact fun _ h=>h.2)) :
  Sw P N av bor w0 ops (⟨d,.call ⟨.value x,xs.toArray,ats⟩,ty,pos,af,g⟩::rest) ⟨E,loc,X⟩ k:=by
 obtain ⟨f',h1,h2⟩:=hA.perm
 refine d7 h1 ?_
 refine cr (pre:=[r]) (fr:=f') (Post:=fun u R _=>u=v∧R=[r']) hx ha hall hg hb hd hf hc hX fun u R X' ⟨h3,h4⟩=>?_
 subst h3;subst h4
 refine qp (fun a w ok=>?_) h
 exact ok.via fun M G=>(G.imp fun _ h=>h.1).perm (h2.symm.append_right M)
end
end Go.Proofs.YtamfbppnlomgfaaGreatDoor.Sy
namespace Go.Proofs.YtamfbppnlomgfaaGreatDoor
open Go Go.Proofs Sy Tryz
def noteV (n f:Int) (z:Bool):Int:=bif !z then bitsV .or .i64 n f else n
theorem qj (b:Nat) (f:Int) (z:Bool) (n:Int):Ct prog 133 #[.int .i64 f,.bool z,.pointer (some ⟨b,0,none⟩)] [cel b 3 [.int .i64 n]] (fun _=>True) fun u R _=>u=.tuple #[]∧R=[cel b 3 [.int .i64 (noteV n f z)]]:=by
 refine eD func133 ntmps133 fun av bor w0=>?_
 repeat' (first|refine gs ?_|(refine tD ?_)|(refine gp ?_ ?_<;>intro hx_ this)|fail)
 · refine bj (aX rfl) ⟨rfl,?_⟩
   simp only [noteV, *,Za,Zg,Zf]
   rfl
 · refine bj (aX rfl) ⟨rfl,?_⟩
   simp only [noteV, *,Za,Zg,Zf]
def usedV (a:Xa):Int :=
 noteV (noteV (noteV (noteV (noteV (noteV (noteV (noteV (noteV (noteV (noteV 0 1 (seqB a.object ⟨#[]⟩)) 2 (seqB a.target ⟨#[]⟩)) 4 (decide (a.scope=0))) 8 (seqB a.group ⟨#[]⟩)) 16 (decide ((a.to.n:Int)=0))) 32 (seqB a.text ⟨#[]⟩))
  64 (boxEq a.body Xo.zero)) 128 (decide (a.epoch=0))) 256 (decide ((a.wraps.n:Int)=0))) 512 (decide (a.n=0))) 1024 (decide (a.m=0))
theorem nv (a:Xa):Pu prog 77 #[a.v] (fun _=>True) (.int .i64 (usedV a)):=by
 refine ax func77 ntmps77 fun av bor w0=>?_
 repeat' (first|(refine dC (hc:=qj _ _ _ _) (hX:=fun _ _=>trivial) ?_)|refine gs ?_|refine gs1 fun _=>?_|(refine bV ?_)|(refine jz ?_)|(refine li ?_)|(refine aV ?_)|fail)
 (all_goals (apply aa;apply ai;rfl;rfl));all_goals first|rfl|(simp only [usedV, *,Za,Zg,Zf];done)|(simp_all [usedV];done)
end Go.Proofs.YtamfbppnlomgfaaGreatDoor
namespace Go.Proofs.YtamfbppnlomgfaaGreatDoor.Sy
open Go Go.RowKit
theorem jg (off:Nat):∀ (vs:List Value) (i:Nat) (cur:Array Value),off+i+vs.length≤cur.size →
  (vs.zipIdx i).foldl (fun cs (p:Value×Nat)=>cs.setIfInBounds (off+p.2) p.1) cur=(cur.toList.take (off+i)++vs++cur.toList.drop (off+i+vs.length)).toArray
 | [],i,cur,_=>by simp
 | v::vs,i,cur,h=>by
  simp only [Zx] at h
  rw [List.zipIdx_cons,Qq,jg off vs (i+1) _ (by simp;omega)]
  have e:=list_seg_step cur.toList (off+i) v vs (by simp;omega)
  congr 1
  simpa [Array.toList_setIfInBounds,ZB] using e
def fillL (pl:List (Nat×Nat)):List Value→List (Nat×Value)→Option (List Value)
 | cs,[]=>some cs
 | cs,(i,v)::r =>
  match pl[i]? with
  | none=>none
  | some (off,size)=>bif Nat.beq v.cells.size size&&Nat.ble (off+size) cs.length then fillL pl (cs.take off++v.cells.toList++cs.drop (off+size)) r else none
theorem ji (pl:List (Nat×Nat)):∀ (vs:List (Nat×Value)) (cs cs':List Value),fillL pl cs vs=some cs'→Instr.fill (pl.toArray[·]?) cs.toArray vs=some cs'.toArray
 | [],cs,cs',h=>by simp [fillL] at h;subst h;rfl
 | (i,v)::r,cs,cs',h=>by
  unfold fillL at h
  cases hp:pl[i]? with
  | none=>simp [hp] at h
  | some q =>
   obtain ⟨off,size⟩:=q
   simp only [hp] at h
   cases hb:Nat.beq v.cells.size size&&Nat.ble (off+size) cs.length with
   | false=>simp [hb] at h
   | true =>
    simp only [hb,Zg] at h
    have hb':=(Zm _ _).mp hb
    have h1:v.cells.size=size:=Nat.eq_of_beq_eq_true hb'.1
    have h2:off+size≤cs.length:=Zt hb'.2
    have h3:=jg off v.cells.toList 0 cs.toArray (by simp;omega)
    have h4:(v.cells.zipIdx.foldl (fun cs (p:Value×Nat)=>cs.setIfInBounds (off+p.2) p.1) cs.toArray)=(cs.take off++v.cells.toList++cs.drop (off+size)).toArray:=by
     rw [←Array.foldl_toList,Array.toList_zipIdx,h3]
     simp [h1]
    have ih:=ji pl r _ _ h
    have hp':pl.toArray[i]?=some (off,size):=by simpa using hp
    unfold Instr.fill
    simp only [hp']
    rw [ZH (by simp [h1];omega),←ih,←h4]
section
variable {P:Program} {N:Nat} {av bor:List Nat} {w0:World} {ops:Array Oper} {rest:List Oper} {k:St→Prop} {E:Env} {loc loc':List Xi} {X:World→Prop}
variable {d:Option Tmp} {ty:TypeId} {pos:String} {af:Array Edge} {g:Option (Nat×Bool)} {bb want:Bool} {K:Exit→St→Prop}
theorem iL {w:World}:∀ (fs:List Field) (pl:List (Nat×Nat)),fs.mapM (fun f=>(P.info? f.type).map fun i=>(f.offset,i.size))=some pl →
  (fs.mapM fun f=>(Prod.mk f.offset <$> sizeOf f.type:Sem (Nat×Nat))).run P w=.ok pl w
 | [],pl,h=>by simp at h;subst h;simp
 | f::fs,pl,h=>by
  simp only [List.mapM_cons,Option.bind_eq_bind,Option.bind_eq_some_iff,Option.map_eq_some_iff,Option.pure_def,ZE] at h
  obtain ⟨q,⟨i,hi,rfl⟩,l,hl,rfl⟩:=h
  have hs:=run_sizeOf (P:=P) (w:=w) (t:=f.type) (n:=i.size) (by simp [hi])
  simp [List.mapM_cons,hs,iL fs l hl]
def partsE (E:Env):List (Nat×Operand)→Option (List (Nat×Value))
 | []=>some []
 | (j,x)::r =>
  match ev E x,partsE E r with
  | some v,some l=>some ((j,v)::l)
  | _,_=>none
theorem gY {st:St} {a:Act} {w:World} (ok:Ok N av bor w0 st a w):∀ (l:List (Nat×Operand)) (vs:List (Nat×Value)),partsE st.env l=some vs→(l.map fun p=>(p.1,a.eval p.2))=vs
 | [],vs,h=>by simp [partsE] at h;subst h;rfl
 | (j,x)::r,vs,h=>by
  unfold partsE at h
  split at h
  · rename_i v l' hv hl
    simp at h
    subst h
    simp [ok.eval hv,gY ok r l' hl]
  · cases h
theorem dy {st:St} {t:TypeId} {z:Value} [hz:Xl P t z] {pl:List (Nat×Nat)} [hp:Ef P t pl] {parts:List (Nat×Operand)} {vs:List (Nat×Value)} {cs:List Value}
  (hx:partsE st.env parts=some vs) (hf:fillL pl z.cells.toList vs=some cs):Sy.Yields P N av bor w0 st (.build t parts.toArray) ty (.agg cs.toArray):=Sy.Yields.mk fun A w ok d pos af g=>by
 have hz':=cb hz.out w
 have h1:=hp.out
 unfold plOf at h1
 split at h1
 · rename_i fs hu
   have h2:=iL (w:=w) fs.toList pl h1
   have h3:(fs.mapM fun f=>(Prod.mk f.offset <$> sizeOf f.type:Sem (Nat×Nat))).run P w=.ok pl.toArray w:=by
    have e:fs=fs.toList.toArray:=by simp
    rw [e,List.mapM_toArray]
    simp [Sem.run_bind,h2]
   have h4:=gY ok parts vs hx
   have h5:=ji pl vs _ _ hf
   simp only [Array.toArray_toList,List.getElem?_toArray] at h5
   simp [execOp,Instr.build,hz',run_underlying hu,h3,h4,h5]
 · cases h1
theorem aI {n:Nat} {t:TypeId} {z:Value} [hz:Xl P t z] {pl:List (Nat×Nat)} [hp:Ef P t pl] {parts:List (Nat×Operand)} {vs:List (Nat×Value)} {cs:List Value} (h:Sw P N av bor w0 ops rest ⟨(n,.agg cs.toArray)::E,loc,X⟩ k) (hx:partsE E parts=some vs:=by rfl) (hf:fillL pl z.cells.toList vs=some cs:=by rfl) (hg:gdB ops E g=some (bb,want):=by rfl) (hbb:bb=want:=by exact ay) (hd:Nat.blt n N=true:=by rfl) :
  Sw P N av bor w0 ops (⟨some n,.build t parts.toArray,ty,pos,af,g⟩::rest) ⟨E,loc,X⟩ k:=ao (dy hx hf) hg hbb hd h
end
end Go.Proofs.YtamfbppnlomgfaaGreatDoor.Sy
namespace Go.Proofs.YtamfbppnlomgfaaGreatDoor
open Go Go.Proofs Sy Tryz
instance:TyMap prog 137 135 (keyD Int):=⟨ac⟩
def ruleV (fs:Int) (f:Nat):Value:=.agg #[.int .i64 fs,.func (.func f) #[] #[]]
def rulesL:List (Int×Value):=[(0,ruleV 1568 123),(1,ruleV 252 119),(2,ruleV 253 117),(3,ruleV 253 117),(14,ruleV 253 117),(4,ruleV 1 118),(5,ruleV 1 118),(6,ruleV 1 118),(13,ruleV 1 118),(20,ruleV 1 118),(7,ruleV 2 120),(8,ruleV 2 120),(9,ruleV 2 120),(10,ruleV 2 120),(11,ruleV 2 120),(12,ruleV 33 121),(21,ruleV 33 121),(15,ruleV 24 126),(16,ruleV 412 128),(17,ruleV 35 129),(18,ruleV 1536 125),(19,ruleV 1808 130),(22,ruleV 513 131),(23,ruleV 546 132)]
def RulesAt (u:Value) (X:World→Prop):Prop:=∃ q,u=.map (some q)∧∀ w,X w→MapAt w q rulesL
theorem lv:Mk prog 76 #[] (fun _=>True) RulesAt:=by
 refine cF func76 ntmps76 fun av bor w0=>?_
 repeat' (first|refine gs ?_|refine gs1 fun _=>?_|(refine aI ?_)|(refine fF Int (h:=fun _=>?_))|(refine oL ?_)|fail)
 refine aa (ai rfl rfl) ⟨_,rfl,fun w h=>?_⟩
 have:=h.2 _ aC
 exact this
theorem cg {P:Program} {f:FuncId} {args:Array Value} {X:World→Prop} {v:Value} (h:Pu P f args (fun _=>True) v):Pu P f args X v:=by
 unfold Pu at h ⊢
 exact Ct.mk fun w av G=>h.run w av (G.imp fun _ _=>trivial)
def ruleL (a:Xa):List (Int×(Int×Bool)):=[(0,(1568,rule3B a)),(1,(252,audienceB a)),(2,(253,rule1B a)),(3,(253,rule1B a)),(14,(253,rule1B a)),(4,(1,objectB a)),(5,(1,objectB a)),(6,(1,objectB a)),(13,(1,objectB a)),(20,(1,objectB a)),(7,(2,targetB a)),(8,(2,targetB a)),(9,(2,targetB a)),(10,(2,targetB a)),(11,(2,targetB a)),(12,(33,rule2B a)),(21,(33,rule2B a)),(15,(24,rule4B a)),(16,(412,grantB a)),(17,(35,labelB a)),(18,(1536,homeB a)),(19,(1808,setupB a)),(22,(513,rule5B a)),(23,(546,rule6B a))]
def RuleOk (a:Xa) (v:Value) (x:Int×Bool):Prop:=∃ f,v=ruleV x.1 f∧Xz prog f∧Pu prog f #[a.v] (Xa.at_ · a) (.bool x.2)
def Rel2 (R:Value→Int×Bool→Prop):List (Int×Value)→List (Int×(Int×Bool))→Prop
 | [],[]=>True
 | (k,v)::r,(k',x)::r'=>k=k'∧R v x∧Rel2 R r r'
 | _,_=>False
theorem rel2 {R:Value→Int×Bool→Prop} (k:Int):∀ (l:List (Int×Value)) (l':List (Int×(Int×Bool))),Rel2 R l l'→(mget l k=none∧mget l' k=none)∨∃ v x,mget l k=some v∧mget l' k=some x∧R v x
 | [],[],_=>.inl ⟨rfl,rfl⟩
 | [],_::_,h=>h.elim
 | _::_,[],h=>h.elim
 | (j,v)::r,(j',x)::r',h=>by
  obtain ⟨rfl,h1,h2⟩:=h
  simp only [mget]
  cases Xj.eqb k j with
  | true=>exact .inr ⟨v,x,rfl,rfl,h1⟩
  | false=>exact rel2 k r r' h2
theorem oZ (a:Xa):Rel2 (RuleOk a) rulesL (ruleL a):=⟨rfl,⟨_,rfl,⟨ac⟩,cg (qI a)⟩,rfl,⟨_,rfl,⟨ac⟩,ib a⟩,rfl,⟨_,rfl,⟨ac⟩,iN a⟩,rfl,⟨_,rfl,⟨ac⟩,iN a⟩,rfl,⟨_,rfl,⟨ac⟩,iN a⟩,rfl,⟨_,rfl,⟨ac⟩,cg (ck a)⟩,rfl,⟨_,rfl,⟨ac⟩,cg (ck a)⟩,rfl,⟨_,rfl,⟨ac⟩,cg (ck a)⟩,rfl,⟨_,rfl,⟨ac⟩,cg (ck a)⟩,rfl,⟨_,rfl,⟨ac⟩,cg (ck a)⟩,rfl,⟨_,rfl,⟨ac⟩,cg (cM a)⟩,rfl,⟨_,rfl,⟨ac⟩,cg (cM a)⟩,rfl,⟨_,rfl,⟨ac⟩,cg (cM a)⟩,rfl,⟨_,rfl,⟨ac⟩,cg (cM a)⟩,rfl,⟨_,rfl,⟨ac⟩,cg (cM a)⟩,rfl,⟨_,rfl,⟨ac⟩,cg (lw a)⟩,rfl,⟨_,rfl,⟨ac⟩,cg (lw a)⟩,rfl,⟨_,rfl,⟨ac⟩,qH a⟩,rfl,⟨_,rfl,⟨ac⟩,rk a⟩,rfl,⟨_,rfl,⟨ac⟩,cg (q9 a)⟩,rfl,⟨_,rfl,⟨ac⟩,cg (nX a)⟩,rfl,⟨_,rfl,⟨ac⟩,qA a⟩,rfl,⟨_,rfl,⟨ac⟩,cg (qG a)⟩,rfl,⟨_,rfl,⟨ac⟩,cg (qF a)⟩,trivial⟩
def ruleB (a:Xa):Bool :=
 match mget (ruleL a) a.kind with
 | none=>false
 | some (fs,b)=>decide (bitsV .andNot .i64 (usedV a) fs=0)&&b
def rightB (a:Xa):Bool :=
 isId a.author&&placedB a&&withinB a.time 0 1099511627776&&withinB a.e 0 2305843009213693949&&withinB a.s 0 2305843009213693949&&ruleB a
theorem bL (a:Xa):Pu prog 34 #[a.v] (Xa.at_ · a) (.bool (rightB a)):=by
 refine ax func34 ntmps34 fun av bor w0=>?_
 repeat' (first|refine ae (hc:=fT _) ?_|refine ae (hc:=o4 a) ?_|refine ae (hc:=bP _ _ _) ?_|refine gs ?_|refine gs1 fun _=>?_|(refine gp ?_ ?_<;>intro hx_ this)|fail)
 all_goals try ((all_goals (apply aa;apply ai;rfl;rfl));all_goals first|rfl|(simp only [rightB, *,Za,Zg,Zf];done)|(simp_all [rightB];done))
 rcases rel2 a.kind _ _ (oZ a) with ⟨hk,hk'⟩|⟨v,⟨fs,b⟩,hk,hk',f,rfl,hf,hc⟩
 · (refine aJ ⟨[1,2],[(0,⟨[],[(3,⟨[4,5,6],[(7,⟨[],[(8,⟨[9],[]⟩)]⟩)]⟩),(7,⟨[],[(3,⟨[4,5,6],[(8,⟨[9],[]⟩)]⟩)]⟩)]⟩),(7,⟨[],[(0,⟨[],[(3,⟨[4,5,6],[(8,⟨[9],[]⟩)]⟩)]⟩)]⟩)]⟩ (h:=?_))
   all_goals repeat' (first|((refine aU (hc:=lv) fun _ _ hR_=>?_;obtain ⟨q_,hq_,hM_⟩:=hR_;subst hq_))|refine gd ?_|refine aE ?_ (h':=?_)|exact aF|(refine cN (κ:=Int) (b:=false) (v:=.agg #[.int .i64 0,.nilFunc]) (hl:=by exact iq (fun w h=>hM_ w h.2)) (ho:=hk) ?_)|refine gs1 fun _=>?_|(refine gq ?_ ?_<;>intro hx_ this)|fail)
   all_goals (repeat' (first|refine gs ?_|refine gs1 fun _=>?_|(refine gp ?_ ?_<;>intro hx_ this)|fail))
   all_goals (
    (refine aJ ⟨[0,1,2,4,5],[(3,⟨[6,7,8,9,10,11,12],[(13,⟨[14,15],[]⟩)]⟩)]⟩ (h:=?_))
    all_goals repeat' (first|refine ae (hc:=nv a) ?_|(refine ae (hf:=hf) (hc:=hc) ?_)|refine gd ?_|refine aH (hy:=by first|(apply fM;rfl;rfl)) ?_|refine aE ?_ (h':=?_)|exact aF|refine gs1 fun _=>?_|(refine gq ?_ ?_<;>intro hx_ this)|fail))
   all_goals (repeat' (first|refine gs ?_|refine gs1 fun _=>?_|(refine gp ?_ ?_<;>intro hx_ this)|fail))<;>(apply aa;apply ai;rfl;rfl)<;>(simp only [rightB,ruleB,hk', *,Za,Zg,Zf] at *;try simp_all)
 · (refine aJ ⟨[1,2],[(0,⟨[],[(3,⟨[4,5,6],[(7,⟨[],[(8,⟨[9],[]⟩)]⟩)]⟩),(7,⟨[],[(3,⟨[4,5,6],[(8,⟨[9],[]⟩)]⟩)]⟩)]⟩),(7,⟨[],[(0,⟨[],[(3,⟨[4,5,6],[(8,⟨[9],[]⟩)]⟩)]⟩)]⟩)]⟩ (h:=?_))
   all_goals repeat' (first|((refine aU (hc:=lv) fun _ _ hR_=>?_;obtain ⟨q_,hq_,hM_⟩:=hR_;subst hq_))|refine gd ?_|refine aE ?_ (h':=?_)|exact aF|(refine cN (κ:=Int) (b:=true) (v:=ruleV fs f) (hl:=by exact iq (fun w h=>hM_ w h.2)) (ho:=hk) ?_)|refine gs1 fun _=>?_|(refine gq ?_ ?_<;>intro hx_ this)|fail)
   all_goals (repeat' (first|refine gs ?_|refine gs1 fun _=>?_|(refine gp ?_ ?_<;>intro hx_ this)|fail))
   all_goals (
    (refine aJ ⟨[0,1,2,4,5],[(3,⟨[6,7,8,9,10,11,12],[(13,⟨[14,15],[]⟩)]⟩)]⟩ (h:=?_))
    all_goals repeat' (first|refine ae (hc:=nv a) ?_|(refine ae (hf:=hf) (hc:=hc) ?_)|refine gd ?_|refine aH (hy:=by first|(apply fM;rfl;rfl)) ?_|refine aE ?_ (h':=?_)|exact aF|refine gs1 fun _=>?_|(refine gq ?_ ?_<;>intro hx_ this)|fail))
   all_goals (repeat' (first|refine gs ?_|refine gs1 fun _=>?_|(refine gp ?_ ?_<;>intro hx_ this)|fail))<;>(apply aa;apply ai;rfl;rfl)<;>(simp only [rightB,ruleB,hk', *,Za,Zg,Zf] at *;try simp_all)
structure Kth (n:Nat) where
 k:Nat
 hk:k≤n
def wrapV (w:Xk):ByteArray:=numV w.to++numV w.eph++boxV w.box
structure Xa.Fit (a:Xa):Prop where
 author:a.author.size≤1073741824
 prev:a.prev.size≤1073741824
 object:a.object.size≤1073741824
 target:a.target.size≤1073741824
 group:a.group.size≤1073741824
 text:a.text.size≤1073741824
 body:a.body.Fit
 to:(listV a.toL).size≤1073741824
 wraps:∀ w∈a.wrapsL,w.box.Fit
 wrapsV:(cats (a.wrapsL.map wrapV)).size≤1073741824
 ints:a.seq<9223372036854775808∧a.kind<9223372036854775808∧a.time<9223372036854775808∧a.scope<9223372036854775808∧a.epoch<9223372036854775808∧a.n<9223372036854775808∧a.m<9223372036854775808∧a.e<9223372036854775808∧a.s<9223372036854775808
 wints:∀ w∈a.wrapsL,w.to<9223372036854775808∧w.eph<9223372036854775808
def core1 (a:Xa):ByteArray:=textV ⟨#[97,99,116]⟩++textV a.author++numV a.seq++textV a.prev
def core2 (a:Xa):ByteArray:=core1 a++(numV a.kind++numV a.time++textV a.object++textV a.target)
def core3 (a:Xa):ByteArray:=core2 a++(numV a.scope++textV a.group++listV a.toL++textV a.text)
def core4 (a:Xa):ByteArray:=core3 a++(boxV a.body++numV a.epoch++numV a.wrapsL.length)
def core5 (a:Xa) (k:Nat):ByteArray:=core4 a++cats ((a.wrapsL.map wrapV).take k)
def coreV (a:Xa):ByteArray:=core5 a a.wrapsL.length++numV a.n++numV a.m
theorem kR (a:Xa) (ha:rightB a=true→a.Fit):Pu prog 37 #[a.v] (Xa.at_ · a) (.string (bif rightB a then coreV a else ⟨#[]⟩)):=by
 cases hrB:rightB a with
 | false =>
  have hrN:(!rightB a)=true:=by rw [hrB];rfl
  refine ax func37 ntmps37 fun av bor w0=>?_
  repeat' (first|refine ae (hc:=bL a) ?_|refine gs ?_|refine gs1 fun _=>?_|(refine gp ?_ ?_<;>intro hx_ this)|fail)
  apply aa;apply ai;rfl;rfl;rfl
 | true =>
 have hrN:(!rightB a)=false:=by rw [hrB];rfl
 replace ha:=ha hrB
 refine ax func37 ntmps37 fun av bor w0=>?_
 refine aK (p:=a.wraps.n=a.wrapsL.length∧a.wraps.n≤maxLen∧(0<a.wrapsL.length→a.wraps.p.isSome=true)) (fun w h=>⟨h.2.len_,ZO (Xd.cap h.2) (Xd.max h.2),h.2.some_⟩) fun ⟨hl,hm,hp⟩=>?_
 simp only [maxLen] at hm
 obtain ⟨i1,i2,i3,i4,i5,i6,i7,i8,i9⟩:=ha.ints
 have s1:=aq a.author
 have s2:=aq a.prev
 have s3:=aq a.object
 have s4:=aq a.target
 have s5:=aq a.group
 have s6:=aq a.text
 have s7:=aq ⟨#[97,99,116]⟩
 have s8:=gR ha.body
 have h1:=ha.author
 have h2:=ha.prev
 have h3:=ha.object
 have h4:=ha.target
 have h5:=ha.group
 have h6:=ha.text
 have h7:=ha.to
 have h8:(⟨#[97,99,116]⟩:ByteArray).size=3:=rfl
 have n1:=ar a.seq
 have n2:=ar a.kind
 have n3:=ar a.time
 have n4:=ar a.scope
 have n5:=ar a.epoch
 have n6:=ar a.wraps.n
 have n7:=ar a.n
 have n8:=ar a.m
 repeat' (first|refine ae (hc:=bL a) ?_|refine gs ?_|refine gs1 fun _=>?_|(refine gp ?_ ?_<;>intro hx_ this)|fail)
 (refine aJ ⟨[1,2,5,6,9,10],[(0,⟨[],[(3,⟨[4],[(7,⟨[8],[(11,⟨[12,13],[]⟩)]⟩)]⟩)]⟩)]⟩ (h:=?_))
 all_goals repeat' (first|refine ae (hc:=bF _ ab) ?_|refine ae (hc:=bD _ ab) ?_|refine gd ?_|refine aH (hy:=by first|(apply eG;rfl;rfl;(try simp only [Zb]);omega)) ?_|refine aE ?_ (h':=?_)|exact aF|refine gs1 fun _=>?_|(refine gq ?_ ?_<;>intro hx_ this)|fail)
 repeat' (first|refine gs ?_|refine gs1 fun _=>?_|(refine gp ?_ ?_<;>intro hx_ this)|fail)
 (refine aJ ⟨[0,1,2,4,5,8,9,12,13],[(3,⟨[],[(6,⟨[7],[(10,⟨[11],[(14,⟨[15,16,17],[]⟩)]⟩)]⟩)]⟩)]⟩ (h:=?_))
 all_goals repeat' (first|refine ae (hc:=bF _ ab) ?_|refine ae (hc:=bD _ ab) ?_|refine gd ?_|refine aH (hy:=by first|(apply eG;rfl;rfl;(try simp only [Zb]);omega)) ?_|refine aE ?_ (h':=?_)|exact aF|refine gs1 fun _=>?_|(refine gq ?_ ?_<;>intro hx_ this)|fail)
 repeat' (first|refine gs ?_|refine gs1 fun _=>?_|(refine gp ?_ ?_<;>intro hx_ this)|fail)
 (refine aJ ⟨[0,1,2,4,5,8,9,12,13],[(3,⟨[],[(6,⟨[7],[(10,⟨[11],[(14,⟨[15,16,17],[]⟩)]⟩)]⟩)]⟩)]⟩ (h:=?_))
 all_goals repeat' (first|refine ae (hc:=bF _ ab) ?_|refine ae (hc:=bD _ ab) ?_|refine ae (hc:=nR a.to a.toL ab) ?_|refine gd ?_|refine aH (hy:=by first|(apply eG;rfl;rfl;(try simp only [Zb]);omega)) ?_|refine aE ?_ (h':=?_)|exact aF|refine gs1 fun _=>?_|(refine gq ?_ ?_<;>intro hx_ this)|fail)
 repeat' (first|refine gs ?_|refine gs1 fun _=>?_|(refine gp ?_ ?_<;>intro hx_ this)|fail)
 (refine aJ ⟨[0,1,2,4,5,8,9,10],[(3,⟨[],[(6,⟨[7],[(11,⟨[12,13,14],[]⟩)]⟩)]⟩)]⟩ (h:=?_))
 all_goals repeat' (first|refine ae (hc:=bF _ ab) ?_|refine ae (hc:=ia a.body ha.body) ?_|refine gd ?_|refine aH (hy:=by first|(apply bS;rfl;(repeat (first|exact aC|apply Zr));exact Xa.cells_body _;rfl)|(apply eG;rfl;rfl;(try simp only [Zb]);omega)) ?_|refine aE ?_ (h':=?_)|exact aF|refine gs1 fun _=>?_|(refine gq ?_ ?_<;>intro hx_ this)|fail)
 repeat' (first|refine gs ?_|refine gs1 fun _=>?_|(refine gp ?_ ?_<;>intro hx_ this)|fail)
 rename_i b
 have hc4:(core4 a).size≤100000000000:=by
  have:(numV a.wrapsL.length).size≤10:=ar _
  simp only [core4,core3,core2,core1,Zb]
  omega
 have hle:=fq (a.wrapsL.map wrapV)
 have hw:=ha.wrapsV
 have e0:core5 a 0=core4 a:=by simp [core5,cats]
 refine az (ι:=Kth a.wrapsL.length) (fun i=>⟨[(1,.pointer (some ⟨b,0,none⟩)),(3,.string (core5 a i.k)),(71,a.wraps.v),(72,.int .i64 a.wraps.n),(73,.int .i64 i.k)],[cel b 36 a.cells],(Xa.at_ · a)⟩) (fun i=>a.wrapsL.length-i.k) ⟨0,ZU _⟩ (ak ⟨rfl,?_,rfl,rfl,rfl,trivial⟩ (aj _) fun _ h=>h) fun i=>?_
 · simp only [e0,core4,core3,core2,core1,←hl];rfl
 have hik:=i.hk
 have hk5:(core5 a i.k).size≤200000000000:=by have:=hle i.k;simp only [core5,Zb];omega
 repeat' (first|refine gs ?_|refine gs1 fun _=>?_|(refine gp ?_ ?_<;>intro hx_ this)|fail)
 · have hlt:i.k<a.wrapsL.length:=by omega
   have hp':=hp ab
   obtain ⟨x,hx⟩:∃ x,a.wrapsL[i.k]?=some x:=⟨_,Zc hlt⟩
   have hxm:x∈a.wrapsL:=ZW hx
   have hf:=ha.wraps x hxm
   have hfs:=gR hf
   obtain ⟨w1,w2⟩:=ha.wints x hxm
   have m1:=ar x.to
   have m2:=ar x.eph
   repeat' (first|refine gs ?_|refine gs1 fun _=>?_|(refine aA (q:=i.k*5) ?_)|(refine aO (cs:=x.cells) (hF:=fun w h=>Wraps.get h.2 hx) ?_)|(refine gp ?_ ?_<;>intro hx_ this)|fail)
   (refine aJ ⟨[0,1,2,4,5,8,9],[(3,⟨[],[(6,⟨[7],[(10,⟨[11,12,13],[]⟩)]⟩)]⟩)]⟩ (h:=?_))
   all_goals repeat' (first|refine ae (hc:=bF _ ab) ?_|refine ae (hc:=ia x.box hf) ?_|refine gd ?_|refine aH (hy:=by first|(apply bS;rfl;(repeat (first|exact aC|apply Zr));exact Xk.cells_box _;rfl)|(apply eG;rfl;rfl;(try simp only [Zb]);omega)) ?_|refine aE ?_ (h':=?_)|exact aF|refine gs1 fun _=>?_|(refine gq ?_ ?_<;>intro hx_ this)|fail)
   repeat' (first|refine gs ?_|refine gs1 fun _=>?_|(refine gp ?_ ?_<;>intro hx_ this)|fail)
   have hsucc:=gQ (a.wrapsL.map wrapV) (k:=i.k) (by simpa using hlt)
   have hget:(a.wrapsL.map wrapV).getD i.k .empty=wrapV x:=by simp [hx]
   rw [hget] at hsucc
   have e2:core5 a (i.k+1)=core5 a i.k++(numV x.to++numV x.eph++boxV x.box):=by simp only [core5,hsucc,Zu,wrapV]
   all_goals exact ⟨(⟨i.k+1,hlt⟩:Kth a.wrapsL.length),(by show a.wrapsL.length-(i.k+1)<a.wrapsL.length-i.k;omega),ak ⟨rfl,by rw [e2];rfl,rfl,rfl,rfl,trivial⟩ (ZS _ (aj _)) fun _ h=>h⟩
 have hke:i.k=a.wrapsL.length:=by omega
 (refine aJ ⟨[0,1,2,5,6],[(3,⟨[4],[(7,⟨[8,9],[]⟩)]⟩)]⟩ (h:=?_))
 all_goals repeat' (first|refine ae (hc:=bF _ ab) ?_|refine gd ?_|refine aH (hy:=by first|(apply eG;rfl;rfl;(try simp only [Zb]);omega)) ?_|refine aE ?_ (h':=?_)|exact aF|refine gs1 fun _=>?_|(refine gq ?_ ?_<;>intro hx_ this)|fail)
 repeat' (first|refine gs ?_|refine gs1 fun _=>?_|(refine gp ?_ ?_<;>intro hx_ this)|fail)
 apply aa;apply ai;rfl;rfl
 simp only [Zg,coreV,←hke]
theorem eB {a:Xa} (ha:a.Fit):(coreV a).size≤300000000000:=by
 have s1:=aq a.author
 have s2:=aq a.prev
 have s3:=aq a.object
 have s4:=aq a.target
 have s5:=aq a.group
 have s6:=aq a.text
 have s7:=aq ⟨#[97,99,116]⟩
 have s8:=gR ha.body
 have h1:=ha.author
 have h2:=ha.prev
 have h3:=ha.object
 have h4:=ha.target
 have h5:=ha.group
 have h6:=ha.text
 have h7:=ha.to
 have h8:(⟨#[97,99,116]⟩:ByteArray).size=3:=rfl
 have n1:=ar a.seq
 have n2:=ar a.kind
 have n3:=ar a.time
 have n4:=ar a.scope
 have n5:=ar a.epoch
 have n6:=ar a.wrapsL.length
 have n7:=ar a.n
 have n8:=ar a.m
 have hle:=fq (a.wrapsL.map wrapV) a.wrapsL.length
 have hw:=ha.wrapsV
 simp only [coreV,core5,core4,core3,core2,core1,Zb]
 omega
def actCore (a:Xa):ByteArray:=bif rightB a then coreV a else ⟨#[]⟩
def actBytes (a:Xa):ByteArray:=bif seqB (actCore a) ⟨#[]⟩ then ⟨#[]⟩ else actCore a++numV a.e++numV a.s
theorem mq (a:Xa) (ha:rightB a=true→a.Fit) (hi:a.e<9223372036854775808∧a.s<9223372036854775808):Pu prog 113 #[a.v] (Xa.at_ · a) (.string (actBytes a)):=by
 refine ax func113 ntmps113 fun av bor w0=>?_
 obtain ⟨i8,i9⟩:=hi
 have n7:=ar a.e
 have n8:=ar a.s
 have hc:(actCore a).size≤300000000000:=by
  unfold actCore
  cases hrB:rightB a with
  | true=>exact eB (ha hrB)
  | false=>simp [ByteArray.size]
 have hcp:Pu prog 37 #[a.v] (Xa.at_ · a) (.string (actCore a)):=kR a ha
 repeat' (first|refine ae (hc:=hcp) ?_|refine gs ?_|refine gs1 fun _=>?_|(refine gp ?_ ?_<;>intro hx_ this)|fail)
 · (all_goals (apply aa;apply ai;rfl;rfl));all_goals first|rfl|(simp only [actBytes, *,Za,Zg,Zf];done)|(simp_all [actBytes];done)
 (refine aJ ⟨[0,1,2,3,6,7,8],[(4,⟨[5],[(9,⟨[10,11],[]⟩)]⟩)]⟩ (h:=?_))
 all_goals repeat' (first|refine ae (hc:=bF _ ab) ?_|refine gd ?_|refine aH (hy:=by first|(apply eG;rfl;rfl;(try simp only [Zb]);omega)) ?_|refine aE ?_ (h':=?_)|exact aF|refine gs1 fun _=>?_|(refine gq ?_ ?_<;>intro hx_ this)|fail)
 repeat' (first|refine gs ?_|refine gs1 fun _=>?_|(refine gp ?_ ?_<;>intro hx_ this)|fail)
 all_goals ((all_goals (apply aa;apply ai;rfl;rfl));all_goals first|rfl|(simp only [actBytes, *,Za,Zg,Zf];done)|(simp_all [actBytes];done))
end Go.Proofs.YtamfbppnlomgfaaGreatDoor
namespace Go.Proofs.YtamfbppnlomgfaaGreatDoor.Sy
open Go Go.RowKit
section
variable {P:Program} {N:Nat} {av bor:List Nat} {w0:World} {ops:Array Oper} {rest:List Oper} {k:St→Prop} {E:Env} {loc loc':List Xi} {X:World→Prop}
variable {d:Option Tmp} {ty:TypeId} {pos:String} {af:Array Edge} {g:Option (Nat×Bool)} {bb want:Bool} {K:Exit→St→Prop}
theorem fx {st:St} {x:Operand} {a:Addr} (hx:ev st.env x=some (.pointer (some a))):Sy.Yields P N av bor w0 st (.nilCheck x) ty (.pointer (some a)):=Sy.Yields.mk fun A w ok d pos af g=>by
 simp [execOp,ok.eval hx]
theorem gS {n:Nat} {x:Operand} {a:Addr} (h:Sw P N av bor w0 ops rest ⟨(n,.pointer (some a))::E,loc,X⟩ k) (hx:ev E x=some (.pointer (some a)):=by rfl) (hg:gdB ops E g=some (bb,want):=by rfl) (hbb:bb=want:=by exact ay) (hd:Nat.blt n N=true:=by rfl) :
  Sw P N av bor w0 ops (⟨some n,.nilCheck x,ty,pos,af,g⟩::rest) ⟨E,loc,X⟩ k:=ao (fx hx) hg hbb hd h
end
end Go.Proofs.YtamfbppnlomgfaaGreatDoor.Sy
namespace Go.Proofs.YtamfbppnlomgfaaGreatDoor
open Go Go.Proofs Sy Tryz
def Ints (w:World) (s:Xh) (l:List Int):Prop:=Xd w 1 s (l.map fun n=>[.int .i64 n])
theorem Ints.len_ {w:World} {s:Xh} {l:List Int} (h:Ints w s l):s.n=l.length:=by have:=Xd.len h;simpa using this
theorem Ints.some_ {w:World} {s:Xh} {l:List Int} (h:Ints w s l) (hl:0<l.length):s.p.isSome=true:=by
 have hx:l[0]?=some l[0]:=Zc hl
 exact (Xd.row h 0 [.int .i64 l[0]] (by simp [hx])).2.1
theorem Ints.get {w:World} {s:Xh} {l:List Int} (h:Ints w s l) {i:Nat} (hi:i<l.length):CellAt w s.p i (.int .i64 (l.getD i 0)):=by
 have hx:l[i]?=some l[i]:=Zc hi
 have:=(Xd.row h i [.int .i64 l[i]] (by simp [hx])).2.2 0 (.int .i64 l[i]) rfl
 simpa [hi] using this
def bld (b:Nat) (A:Option Addr) (c:Nat) (s:ByteArray):List Xi:=[cel b 181 [.slice A s.size c],orow 5 1 (.slice A s.size c) s.size (u8s (bytesI s))]
def numsV (l:List Int):ByteArray:=cats (l.map numV)
structure NumsS (n:Nat) where
 k:Nat
 hk:k≤n
 A:Option Addr
 c:Nat
theorem sB (b:Nat) (A:Option Addr) (c:Nat) (s:ByteArray) (sl:Xh) (l:List Int) (hl:∀ n∈l,n<9223372036854775808) (hs:s.size+(numsV l).size≤1099511627776) :
  Ct prog 112 #[.pointer (some ⟨b,0,none⟩),sl.v] (bld b A c s) (fun w=>Ints w sl l) fun u R _=>∃ A' c',u=.tuple #[]∧R=bld b A' c' (s++numsV l):=by
 refine eD func112 ntmps112 fun av bor w0=>?_
 refine aK (p:=sl.n=l.length∧sl.n≤maxLen∧(0<l.length→sl.p.isSome=true)) (fun w h=>⟨h.len_,ZO (Xd.cap h) (Xd.max h),h.some_⟩) fun ⟨hn,hm,hp⟩=>?_
 simp only [maxLen] at hm
 repeat' (first|refine gs ?_|(refine gp ?_ ?_<;>intro hx_ this)|fail)
 have hle:=fq (l.map numV)
 have e0:s++cats ((l.map numV).take 0)=s:=by simp [cats]
 have hs':s.size+(cats (l.map numV)).size≤1099511627776:=hs
 refine az (ι:=NumsS l.length) (fun i=>⟨[(0,.pointer (some ⟨b,0,none⟩)),(6,sl.v),(7,.int .i64 sl.n),(8,.int .i64 i.k)],bld b i.A i.c (s++cats ((l.map numV).take i.k)),fun w=>Ints w sl l⟩) (fun i=>l.length-i.k) ⟨0,ZU _,A,c⟩ (ak aw (by rw [e0];exact aj _) fun _ h=>h) fun i=>?_
 have hik:=i.hk
 have hout:(s++cats ((l.map numV).take i.k)).size≤1099511627776:=by rw [Zb];have:=hle i.k;omega
 generalize ho:s++cats ((l.map numV).take i.k)=out at *
 unfold bld
 repeat' (first|refine gs ?_|(refine gp ?_ ?_<;>intro hx_ this)|fail)
 · have hlt:i.k<l.length:=by omega
   have hp':=hp ab
   have hsucc:=gQ (l.map numV) (k:=i.k) (by simpa using hlt)
   have hget:(l.map numV).getD i.k .empty=numV (l.getD i.k 0):=by simp [hlt]
   rw [hget] at hsucc
   have hln:l.getD i.k 0<9223372036854775808:=by simp only [Zl,Zc hlt,Z3];exact hl _ (ZI hlt)
   have hn10:=ar (l.getD i.k 0)
   repeat' (first|refine gs ?_|(refine aA (q:=i.k) ?_)|(refine bm (hF:=fun w h=>Ints.get h hlt) ?_)|(refine gp ?_ ?_<;>intro hx_ this)|fail)
   (refine aw_draw ⟨[0,1,2,3,5],[(4,⟨[],[(6,⟨[],[(7,⟨[8,9],[(10,⟨[],[]⟩)]⟩)]⟩)]⟩),(6,⟨[],[(4,⟨[],[(7,⟨[8,9],[(10,⟨[],[]⟩)]⟩)]⟩)]⟩)]⟩ [] (fun _=>True) (h:=?_))
   all_goals repeat' (first|refine ae (hc:=bF _ ab) ?_|refine gd ?_|refine aE ?_ (h':=?_)|exact aF|(refine ga ?_;refine aD (size:=1) (z:=.int .u8 0) rfl rfl rfl rfl (fun _=>At.there _ (At.here _)) (fun w G=>kv ab) ab (by simp only [maxLen];omega) rfl ?_ rfl ?_;(first|with_reducible rfl|with_reducible assumption|with_reducible exact Zj|with_reducible exact Zk);intro A1 c1)|(refine gq ?_ ?_<;>intro hx_ this)|fail)
   all_goals (repeat' (first|refine gs ?_|(refine gp ?_ ?_<;>intro hx_ this)|fail))
   have e2:s++cats ((l.map numV).take (i.k+1))=out++numV (l.getD i.k 0):=by rw [hsucc,←Zu,ho]
   all_goals exact ⟨(⟨i.k+1,hlt,A1,c1⟩:NumsS l.length),(by show l.length-(i.k+1)<l.length-i.k;omega),ak aw (by
    show List.Sublist (bld b A1 c1 (s++cats ((l.map numV).take (i.k+1)))) _
    have e2:s++cats ((l.map numV).take (i.k+1))=out++numV (l.getD i.k 0):=by rw [hsucc,←Zu,ho]
    rw [e2]
    simp only [bld,Zb,dP,bp]
    exact aj _) fun _ h=>h⟩
 · have hk:i.k=l.length:=by omega
   refine bj (aX rfl) ⟨i.A,i.c,rfl,?_⟩
   rw [numsV,←ho,hk,Z4 (by simp)]
end Go.Proofs.YtamfbppnlomgfaaGreatDoor
namespace Go.Proofs.YtamfbppnlomgfaaGreatDoor.Sy
open Go Go.RowKit
section
variable {P:Program} {N:Nat} {av bor:List Nat} {w0:World} {ops:Array Oper} {rest:List Oper} {k:St→Prop} {E:Env} {loc loc':List Xi} {X:World→Prop}
variable {d:Option Tmp} {ty:TypeId} {pos:String} {af:Array Edge} {g:Option (Nat×Bool)} {bb want:Bool} {K:Exit→St→Prop}
theorem uD {st:St} {x y:Operand} {t t2:TypeId} {a b:Value} (hx:ev st.env x=some a) (hy:ev st.env y=some b)
  (h:∀ w,(do eqGuard .eql t x y a b;binOp .eql t a b:Sem Value).run P w=.ok (.bool true) w):Sy.Yields P N av bor w0 st (.binOp .eql t x y t2) ty (.bool true):=Sy.Yields.mk fun A w ok d pos af g=>by
 have:=h w
 simp only [execOp,ok.eval hx,ok.eval hy]
 simp only [Sem.run_bind] at this ⊢
 rw [this]
 rfl
theorem mC {n:Nat} {x y:Operand} {t t2:TypeId} {a b:Value} (h:Sw P N av bor w0 ops rest ⟨(n,.bool true)::E,loc,X⟩ k) (hx:ev E x=some a:=by rfl) (hy:ev E y=some b:=by rfl) (h0:∀ w,(do eqGuard .eql t x y a b;binOp .eql t a b:Sem Value).run P w=.ok (.bool true) w) (hg:gdB ops E g=some (bb,want):=by rfl) (hbb:bb=want:=by exact ay) (hd:Nat.blt n N=true:=by rfl) :
  Sw P N av bor w0 ops (⟨some n,.binOp .eql t x y t2,ty,pos,af,g⟩::rest) ⟨E,loc,X⟩ k:=ao (uD hx hy h0) hg hbb hd h
end
end Go.Proofs.YtamfbppnlomgfaaGreatDoor.Sy
namespace Go.Proofs.YtamfbppnlomgfaaGreatDoor
open Go Go.Proofs Sy Tryz
theorem j0:Pu prog 136 #[.slice none 0 0,.slice none 0 0] (fun _=>True) (.bool true):=by
 refine ax func136 ntmps136 fun av bor w0=>?_
 repeat' (first|refine gs ?_|(refine gp ?_ ?_<;>intro hx_ this)|fail)
 · simp at *
 refine az (ι:=Unit) (fun _=>⟨[(12,.int .i64 0),(13,.int .i64 0)],[],fun _=>True⟩) (fun _=>0) () (ak aw (aj _) fun _ h=>h) fun _=>?_
 repeat' (first|refine gs ?_|(refine gp ?_ ?_<;>intro hx_ this)|fail)
 · exact absurd this (by decide)
 · apply aa;apply ai;rfl;rfl;rfl
theorem pF:Pu prog 191 #[.slice none 0 0,.slice none 0 0] (fun _=>True) (.bool true):=by
 refine ax func191 ntmps191 fun av bor w0=>?_
 repeat' (first|refine gs ?_|(refine gp ?_ ?_<;>intro hx_ this)|fail)
 · simp at *
 refine az (ι:=Unit) (fun _=>⟨[(12,.int .i64 0),(13,.int .i64 0)],[],fun _=>True⟩) (fun _=>0) () (ak aw (aj _) fun _ h=>h) fun _=>?_
 repeat' (first|refine gs ?_|(refine gp ?_ ?_<;>intro hx_ this)|fail)
 · exact absurd this (by decide)
 · apply aa;apply ai;rfl;rfl;rfl
def Xa.zero:Xa:=⟨⟨#[]⟩,0,⟨#[]⟩,0,0,⟨#[]⟩,⟨#[]⟩,0,⟨#[]⟩,⟨none,0,0⟩,⟨#[]⟩,Xo.zero,0,⟨none,0,0⟩,0,0,0,0,[],[]⟩
set_option maxRecDepth 20000 in
theorem ni:Pu prog 153 #[Xa.zero.v,Xa.zero.v] (fun _=>True) (.bool true):=by
 refine ax func153 ntmps153 fun av bor w0=>?_
 repeat' (first|(refine mC (h0:=by intro _;kernel_rfl) ?_)|refine ae (hc:=j0) ?_|refine ae (hc:=pF) ?_|refine gs ?_|refine gs1 fun _=>?_|(refine aV ?_)|(refine aV (vs:=[.int .i64 0,.int .i64 0]) (hv:=rfl) ?_)|fail)
 all_goals (apply aa;apply ai;rfl;rfl;rfl)
def decZero:List Value:=[.int .i64 0,.int .i64 0,.int .i64 0,.string ⟨#[]⟩,.string ⟨#[]⟩,.string ⟨#[]⟩,.slice none 0 0,.int .i64 0,.int .i64 0,.int .i64 0,.int .i64 0,.int .i64 0]
set_option maxRecDepth 20000 in
theorem ie:Pu prog 154 #[.agg decZero.toArray,.agg decZero.toArray] (fun _=>True) (.bool true):=by
 refine ax func154 ntmps154 fun av bor w0=>?_
 repeat' (first|(refine mC (h0:=by intro _;kernel_rfl) ?_)|refine ae (hc:=j0) ?_|refine gs ?_|refine gs1 fun _=>?_|(refine aV (vs:=[.int .i64 0,.int .i64 0]) (hv:=rfl) ?_)|fail)
 all_goals (apply aa;apply ai;rfl;rfl;rfl)
def claimZero:List Value:=[.string ⟨#[]⟩,.int .i64 0,.string ⟨#[]⟩,.int .i64 0,.int .i64 0,.int .i64 0,.int .i64 0,.int .i64 0,.int .i64 0]
def ballotZero:List Value:=[.int .i64 0,.string ⟨#[]⟩,.int .i64 0,.string ⟨#[]⟩,.int .i64 0,.int .i64 0,.int .i64 0]
def itemCells (kind:Int) (a:Xa):List Value:=.int .i64 kind::(a.cells++claimZero++ballotZero++decZero)
def itemV (kind:Int) (a:Xa):Value:=.agg (itemCells kind a).toArray
set_option maxRecDepth 20000 in
theorem lO:Pu prog 100 #[itemV 0 Xa.zero,itemV 0 Xa.zero] (fun _=>True) (.bool true):=by
 refine ax func100 ntmps100 fun av bor w0=>?_
 repeat' (first|(refine mC (h0:=by intro _;kernel_rfl) ?_)|refine ae (hc:=ni) ?_|refine ae (hc:=ie) ?_|refine gs ?_|refine gs1 fun _=>?_|(refine aV (vs:=Xa.zero.cells) (hv:=rfl) ?_)|(refine aV (vs:=claimZero) (hv:=rfl) ?_)|(refine aV (vs:=ballotZero) (hv:=rfl) ?_)|(refine aV (vs:=decZero) (hv:=rfl) ?_)|fail)
 all_goals (apply aa;apply ai;rfl;rfl;rfl)
end Go.Proofs.YtamfbppnlomgfaaGreatDoor
namespace Go.Proofs.YtamfbppnlomgfaaGreatDoor.Sy
open Go Go.RowKit Go.MapKept
def arrOf (P:Program) (t:TypeId):Option (Nat×Nat) :=
 match P.underlying t with
 | some (.array n e)=>bif oneCell P e then some (n,e) else none
 | _=>none
class TyArr (P:Program) (t:TypeId) (n e:outParam Nat):Prop where out:arrOf P t=some (n,e)
theorem fK {P:Program} {t n e:Nat} (h:arrOf P t=some (n,e)):P.underlying t=some (.array n e)∧oneCell P e=true:=by
 unfold arrOf at h
 split at h
 · rename_i n' e' he
   cases ho:oneCell P e' with
   | false=>simp [ho] at h
   | true=>simp [ho] at h;obtain ⟨rfl,rfl⟩:=h;exact ⟨he,ho⟩
 · cases h
class TyBool (P:Program) (t:TypeId):Prop where out:P.underlying t=some .bool
def byteAt (s:ByteArray) (i:Nat):Int:=((s.data.toList.getD i 0).toNat:Int)
section
variable {P:Program} {N:Nat} {av bor:List Nat} {w0:World} {st:St} {ty:TypeId} {x y z:Operand} {t t2:TypeId} {k:IntKind} {a b c:Int}
theorem mr {s:ByteArray} [hI:Xv P t] (hx:ev st.env x=some (.string s)) (hy:ev st.env y=some (.int k a)) (h0:0≤a) (h1:a≤s.size):Yields P N av bor w0 st (.slice t x none (some y) none) ty (.string (s.extract 0 a.toNat)):=Sy.Yields.mk fun A w ok d pos af g=>by
 simp [execOp,ok.eval hx,ok.eval hy,Instr.sliceAt,run_underlying hI.out,run_slice_string_h w t s hI.out k a h0 h1]
theorem tL {s:ByteArray} [hI:Xv P t] (hx:ev st.env x=some (.string s)) (hy:ev st.env y=some (.int k a)) (h0:0≤a) (h1:a≤s.size):Yields P N av bor w0 st (.slice t x (some y) none none) ty (.string (s.extract a.toNat s.size)):=Sy.Yields.mk fun A w ok d pos af g=>by
 simp [execOp,ok.eval hx,ok.eval hy,Instr.sliceAt,run_underlying hI.out,run_slice_string_l w t s hI.out k a h0 h1]
theorem rW {s:ByteArray} {k':IntKind} [hI:Xv P t] (hx:ev st.env x=some (.string s)) (hy:ev st.env y=some (.int k a)) (hz:ev st.env z=some (.int k' b)) (h0:0≤a) (h1:a≤b) (h2:b≤s.size):Yields P N av bor w0 st (.slice t x (some y) (some z) none) ty (.string (s.extract a.toNat b.toNat)):=Sy.Yields.mk fun A w ok d pos af g=>by
 simp [execOp,ok.eval hx,ok.eval hy,ok.eval hz,Instr.sliceAt,run_underlying hI.out,run_slice_string w t s k k' a b hI.out h0 h1 h2]
theorem j7 {s:ByteArray} [hI:Xv P t] (hx:ev st.env x=some (.string s)) (hy:ev st.env y=some (.int k a)) (h0:0≤a) (h1:a<s.size):Yields P N av bor w0 st (.index t x y) ty (.int .u8 (byteAt s a.toNat)):=Sy.Yields.mk fun A w ok d pos af g=>by
 have hn:a.toNat<s.data.size:=by have:s.size=s.data.size:=rfl;omega
 have hn':a.toNat<s.size:=hn
 have e:s[a.toNat]=s.data[a.toNat]:=rfl
 have e2:byteAt s a.toNat=((s[a.toNat]'hn').toNat:Int):=by rw [byteAt,Zl,Qc,Array.getElem?_eq_getElem hn];rfl
 rw [e2]
 simp [execOp,ok.eval hx,ok.eval hy,run_index_string w t s k a hI.out,h0,h1]
theorem tU {n e:Nat} {cs:Array Value} {v:Value} [hI:TyArr P t n e] (hx:ev st.env x=some (.agg cs)) (hy:ev st.env y=some (.int k a)) (h0:0≤a) (h1:a<n) (hv:cs[a.toNat]?=some v):Yields P N av bor w0 st (.index t x y) ty v:=Sy.Yields.mk fun A w ok d pos af g=>by
 obtain ⟨hu,ho⟩:=fK hI.out
 obtain ⟨h2,h3⟩:=aT ho w
 simp [execOp,ok.eval hx,ok.eval hy,Instr.index,asIntOf,run_underlying hu,h0,h1,run_sizeOf h3,part,h2,hv]
theorem dH {n e:Nat} {bl off q:Nat} [hI:TyArr P t n e] (hx:ev st.env x=some (.pointer (some ⟨bl,off,none⟩))) (hy:ev st.env y=some (.int k a)) (h0:0≤a) (h1:a<n) (hq:off+a.toNat=q):Yields P N av bor w0 st (.indexAddr t x y) ty (.pointer (some ⟨bl,q,none⟩)):=Sy.Yields.mk fun A w ok d pos af g=>by
 obtain ⟨hu,ho⟩:=fK hI.out
 obtain ⟨h2,h3⟩:=aT ho w
 have e1:(⟨bl,off,none⟩:Addr).add a.toNat=⟨bl,q,none⟩:=by
  unfold Addr.add
  split
  · rename_i hz;rw [hz] at hq;simp at hq;subst hq;rfl
  · subst hq;rfl
 simp [execOp,ok.eval hx,ok.eval hy,Instr.indexAt,asIntOf,Instr.sureAddr,run_underlying hu,h0,h1,run_sizeOf h3,e1]
theorem uB (hx:ev st.env x=some (.int k a)) (hy:ev st.env y=some (.int k b)):Yields P N av bor w0 st (.call ⟨.builtin .min,#[x,y],#[t,t2]⟩) ty (.int k (if b<a then b else a)):=Sy.Yields.mk fun A w ok d pos af g=>by
 simp [execOp,resolve,invoke,builtin,Builtin.min_,Builtin.min2,ok.eval hx,ok.eval hy]
theorem uC (hx:ev st.env x=some (.int k a)) (hy:ev st.env y=some (.int k b)):Yields P N av bor w0 st (.call ⟨.builtin .max,#[x,y],#[t,t2]⟩) ty (.int k (if a<b then b else a)):=Sy.Yields.mk fun A w ok d pos af g=>by
 simp [execOp,resolve,invoke,builtin,Builtin.max_,Builtin.max2,ok.eval hx,ok.eval hy]
theorem tT {p q:Bool} [hI:TyBool P t] (hx:ev st.env x=some (.bool p)) (hy:ev st.env y=some (.bool q)):Yields P N av bor w0 st (.binOp .neq t x y t2) ty (.bool (p != q)):=Sy.Yields.mk fun A w ok d pos af g=>by
 simp [execOp,ok.eval hx,ok.eval hy,eqGuard,binOp,run_equal_bool w t p q hI.out]
 cases p<;>cases q<;>rfl
theorem nq {bl off:Nat} {v:Value} [hI:Xs P t] (hx:ev st.env x=some (.pointer (some ⟨bl,off,none⟩))) (hF:∀ w,st.ext w→w.cell? ⟨bl,off,none⟩=some v):Yields P N av bor w0 st (.load t x) ty v:=Sy.Yields.mk fun A w ok d pos af g=>by
 simp [execOp,ok.eval hx,Instr.loadAt,Instr.sureAddr,loadVar,(aT hI.out w).1,hF w ok.gam.keep.now]
theorem tR {m:Nat} {bl:Nat} {cs:List Value} [hI:Xq P t m] (hx:ev st.env x=some (.pointer (some ⟨bl,0,none⟩))) (hF:∀ w,st.ext w→∀ j v,cs[j]?=some v→w.cell? ⟨bl,j,none⟩=some v) (hl:cs.length=m):Yields P N av bor w0 st (.load t x) ty (.agg cs.toArray):=Sy.Yields.mk fun A w ok d pos af g=>by
 have:=bU (P:=P) (t:=t) hI.out (w:=w) (A:=⟨bl,0,none⟩) hl (fun j v hj=>by
  have e:(⟨bl,0,none⟩:Addr).add j=⟨bl,j,none⟩:=by unfold Addr.add;split<;>simp_all
  rw [e]
  exact hF w ok.gam.keep.now j v hj)
 simp [execOp,ok.eval hx,Instr.loadAt,Instr.sureAddr,this]
theorem qb {n e:Nat} {zv:Value} [hI:TyArr P t n e] [hz:Xl P t zv] {parts:List (Nat×Operand)} {vs:List Value} (hx:partsOf st.env 0 parts=some vs) (h1:vs.all (·.oneCell')=true) (hl:zv.cells.size=vs.length) :
  Yields P N av bor w0 st (.build t parts.toArray) ty (.agg vs.toArray):=Sy.Yields.mk fun A w ok d pos af g=>by
 obtain ⟨hu,ho⟩:=fK hI.out
 obtain ⟨h2,h3⟩:=aT ho w
 have hz':=cb hz.out w
 have hp:=di (E:=st.env) (loc:=st.loc) (X:=st.ext) ok parts 0 vs hx
 have hf:=gJ vs [] zv.cells.toList (by simpa using h1) (by simpa using hl)
 simp only [List.nil_append,ZJ,Array.toArray_toList] at hf
 rw [←hp] at hf
 simp only [Nat.mul_one] at hf
 simp [execOp,Instr.build,hz',run_underlying hu,run_sizeOf h3,hf]
end
theorem cK (k:IntKind) (hk:k.signed=false) (n:Int):0≤k.wrap n:=by
 cases k<;>first|(simp [IntKind.signed] at hk;done)|(simp only [IntKind.wrap,IntKind.bits,IntKind.signed];simp;try exact Int.emod_nonneg _ (by decide))
theorem bE (op:BinOp) (k:IntKind) (hk:k.signed=false) (a b:Int):0≤bitsV op k a b:=cK k hk _
section
variable {P:Program} {N:Nat} {av bor:List Nat} {w0:World} {ops:Array Oper} {rest:List Oper} {k:St→Prop} {E:Env} {loc loc':List Xi} {X:World→Prop}
variable {d:Option Tmp} {ty:TypeId} {pos:String} {af:Array Edge} {g:Option (Nat×Bool)} {bb want:Bool} {K:Exit→St→Prop}
theorem fO {n c:Nat} {t e size bytes:Nat} [hs:Xu P t e size bytes] {z:Value} [hz:Xl P e z] {x y:Operand} (h:∀ q,Sw P N av bor w0 ops rest ⟨(n,.slice (some ⟨q,0,none⟩) 0 c)::E,orow e size (.slice (some ⟨q,0,none⟩) 0 c) 0 []::loc,X⟩ k) (hx:ev E x=some (.int .i64 0):=by rfl) (hy:ev E y=some (.int .i64 (c:Int)):=by rfl) (hm:Nat.ble (bytes*c) 1000000=true:=by rfl) (hm2:Nat.ble c 1000000=true:=by rfl) (hg:gdB ops E g=some (bb,want):=by rfl) (hb:bb=want:=by exact ay) (hd:Nat.blt n N=true:=by rfl) :
  Sw P N av bor w0 ops (⟨some n,.makeSlice t x y,ty,pos,af,g⟩::rest) ⟨E,loc,X⟩ k:=Sw.mk fun a w ok=>by
 have hd':inB N (some n)=true:=by have h1:n<N:=Zt hd;simpa [inB] using h1
 obtain ⟨ht,inf,hi,hi1,hi2⟩:=aY hs.out
 have hz1:inf.zero=some z:=by have:=hz.out;simpa [zeroOf,hi] using this
 have h1:=Zt hm
 have h2:=Zt hm2
 have hby:(inf.bytes:Int)*(c:Int)≤281474976710656:=by
  have h:((inf.bytes*c:Nat):Int)≤281474976710656:=by rw [hi2];omega
  rwa [Int.natCast_mul] at h
 have hr:=run_make (P:=P) w t e inf z ht hi hz1 .i64 .i64 0 (c:Int) (Int.le_refl _) ab hby ab
 simp only [Int.toNat_zero,ZP] at hr
 simp only [wpList]
 rw [aM ok (o:=⟨some n,.makeSlice t x y,ty,pos,af,g⟩) hg]
 subst hb
 simp only [Zv,ZF]
 left
 unfold Oper.wp
 have hr':(execOp a.eval ⟨some n,.makeSlice t x y,ty,pos,af,g⟩).run P w=.ok (.value (.slice (some ⟨w.heap.size,0,none⟩) 0 c)) (w.alloc (.cells (madeCells z.cells (c*inf.size)) e)):=by
  simp [execOp,ok.eval (st:=⟨E,loc,X⟩) hx,ok.eval (st:=⟨E,loc,X⟩) hy,hr]
 rw [hr']
 have ok':Ok N av bor w0 ⟨E,orow e size (.slice (some ⟨w.heap.size,0,none⟩) 0 c) 0 []::loc,X⟩ a (w.alloc (.cells (madeCells z.cells (c*inf.size)) e)):=(ok.via fun M G=>G.new (.cells (madeCells z.cells (c*inf.size)) e) (fun w2=>ORow w2 e size (.slice (some ⟨w.heap.size,0,none⟩) 0 c) 0 []) (fun w2 h=>⟨by simp,.inr ⟨w.heap.size,c,_,(0,0),rfl,h,ZU _,by simp only [maxLen];omega,by rw [size_madeCells,hi1],by simp,.inl rfl⟩⟩))
 exact (h _).run _ _ (bw (some n) _▸ok'.put hd' _)
end
section
variable {P:Program}
theorem aP {fn:Func} {N t ty n:Nat} {s:St} {b T:Nat} {cs:List Value} [hI:Xq P ty n] (hr:fn.results=#[.cell t ty]) (h:look s.env t=some (.pointer (some ⟨b,0,none⟩))) (hm:cel b T cs∈s.loc) (hn:cs.length=n):Res1 P fn N s (.agg cs.toArray):=fun av bor w0 a w ok=>by
 obtain ⟨D,h1,h2,h3⟩:=bN hI.out
 have ht:=ok.env t _ h
 have:(loadVar ty ⟨b,0,none⟩).run P w=.ok (.agg cs.toArray) w:=by
  cases D<;>simp at h2
  · exact run_loadVar_row w b T ty cs.toArray (0,0) _ (dc ok hm) h1 rfl (by rw [h3];simp [hn])
  · exact run_loadVar_row w b T ty cs.toArray (0,0) _ (dc ok hm) h1 rfl (by rw [h3];simp [hn])
 simp [results,hr,ht,asAddr,this]
end
section
variable {P:Program} {N:Nat} {av bor:List Nat} {w0:World} {ty:TypeId} {x y z:Operand} {t t2:TypeId} {k:IntKind} {a b c:Int}
variable {E:Env} {loc:List Xi} {X:World→Prop} {ops:Array Oper} {kk:St→Prop} {n:Nat} {pos:String} {af:Array Edge} {g:Option (Nat×Bool)} {rest:List Oper} {bb want:Bool}
theorem nA {s:ByteArray} [hI:Xv P t] (h:Sw P N av bor w0 ops rest ⟨(n,.string (s.extract 0 a.toNat))::E,loc,X⟩ kk) (hx:ev E x=some (.string s):=by rfl) (hy:ev E y=some (.int k a):=by rfl) (h0:0≤a:=by (first|decide|omega)) (h1:a≤s.size:=by (first|decide|omega)) (hg:gdB ops E g=some (bb,want):=by rfl) (hbb:bb=want:=by exact ay) (hd:Nat.blt n N=true:=by rfl) :
  Sw P N av bor w0 ops (⟨some n,.slice t x none (some y) none,ty,pos,af,g⟩::rest) ⟨E,loc,X⟩ kk:=ao (mr hx hy h0 h1) hg hbb hd h
theorem nz {s:ByteArray} [hI:Xv P t] (h:Sw P N av bor w0 ops rest ⟨(n,.string (s.extract a.toNat s.size))::E,loc,X⟩ kk) (hx:ev E x=some (.string s):=by rfl) (hy:ev E y=some (.int k a):=by rfl) (h0:0≤a:=by (first|decide|omega)) (h1:a≤s.size:=by (first|decide|omega)) (hg:gdB ops E g=some (bb,want):=by rfl) (hbb:bb=want:=by exact ay) (hd:Nat.blt n N=true:=by rfl) :
  Sw P N av bor w0 ops (⟨some n,.slice t x (some y) none none,ty,pos,af,g⟩::rest) ⟨E,loc,X⟩ kk:=ao (tL hx hy h0 h1) hg hbb hd h
theorem qo {s:ByteArray} {k':IntKind} [hI:Xv P t] (h:Sw P N av bor w0 ops rest ⟨(n,.string (s.extract a.toNat b.toNat))::E,loc,X⟩ kk) (hx:ev E x=some (.string s):=by rfl) (hy:ev E y=some (.int k a):=by rfl) (hz:ev E z=some (.int k' b):=by rfl) (h0:0≤a:=by (first|decide|omega)) (h1:a≤b:=by (first|decide|omega)) (h2:b≤s.size:=by (first|decide|omega)) (hg:gdB ops E g=some (bb,want):=by rfl) (hbb:bb=want:=by exact ay) (hd:Nat.blt n N=true:=by rfl) :
  Sw P N av bor w0 ops (⟨some n,.slice t x (some y) (some z) none,ty,pos,af,g⟩::rest) ⟨E,loc,X⟩ kk:=ao (rW hx hy hz h0 h1 h2) hg hbb hd h
theorem cv {s:ByteArray} [hI:Xv P t] (h:Sw P N av bor w0 ops rest ⟨(n,.int .u8 (byteAt s a.toNat))::E,loc,X⟩ kk) (hx:ev E x=some (.string s):=by rfl) (hy:ev E y=some (.int k a):=by rfl) (h0:0≤a:=by (first|decide|omega)) (h1:a<s.size:=by (first|decide|omega)) (hg:gdB ops E g=some (bb,want):=by rfl) (hbb:bb=want:=by exact ay) (hd:Nat.blt n N=true:=by rfl) :
  Sw P N av bor w0 ops (⟨some n,.index t x y,ty,pos,af,g⟩::rest) ⟨E,loc,X⟩ kk:=ao (j7 hx hy h0 h1) hg hbb hd h
theorem sf {n0 e:Nat} {cs:Array Value} {v:Value} [hI:TyArr P t n0 e] (h:Sw P N av bor w0 ops rest ⟨(n,v)::E,loc,X⟩ kk) (hx:ev E x=some (.agg cs):=by rfl) (hy:ev E y=some (.int k a):=by rfl) (h0:0≤a:=by (first|decide|omega)) (h1:a<n0:=by (first|decide|omega)) (hv:cs[a.toNat]?=some v:=by rfl) (hg:gdB ops E g=some (bb,want):=by rfl) (hbb:bb=want:=by exact ay) (hd:Nat.blt n N=true:=by rfl) :
  Sw P N av bor w0 ops (⟨some n,.index t x y,ty,pos,af,g⟩::rest) ⟨E,loc,X⟩ kk:=ao (tU hx hy h0 h1 hv) hg hbb hd h
theorem cC {n0 e:Nat} {bl off q:Nat} [hI:TyArr P t n0 e] (h:Sw P N av bor w0 ops rest ⟨(n,.pointer (some ⟨bl,q,none⟩))::E,loc,X⟩ kk) (hx:ev E x=some (.pointer (some ⟨bl,off,none⟩)):=by rfl) (hy:ev E y=some (.int k a):=by rfl) (h0:0≤a:=by (first|decide|omega)) (h1:a<n0:=by (first|decide|omega)) (hq:off+a.toNat=q:=by (first|rfl|omega)) (hg:gdB ops E g=some (bb,want):=by rfl) (hbb:bb=want:=by exact ay) (hd:Nat.blt n N=true:=by rfl) :
  Sw P N av bor w0 ops (⟨some n,.indexAddr t x y,ty,pos,af,g⟩::rest) ⟨E,loc,X⟩ kk:=ao (dH hx hy h0 h1 hq) hg hbb hd h
theorem t6 (h:Sw P N av bor w0 ops rest ⟨(n,.int k (if b<a then b else a))::E,loc,X⟩ kk) (hx:ev E x=some (.int k a):=by rfl) (hy:ev E y=some (.int k b):=by rfl) (hg:gdB ops E g=some (bb,want):=by rfl) (hbb:bb=want:=by exact ay) (hd:Nat.blt n N=true:=by rfl) :
  Sw P N av bor w0 ops (⟨some n,.call ⟨.builtin .min,#[x,y],#[t,t2]⟩,ty,pos,af,g⟩::rest) ⟨E,loc,X⟩ kk:=ao (uB hx hy) hg hbb hd h
theorem t7 (h:Sw P N av bor w0 ops rest ⟨(n,.int k (if a<b then b else a))::E,loc,X⟩ kk) (hx:ev E x=some (.int k a):=by rfl) (hy:ev E y=some (.int k b):=by rfl) (hg:gdB ops E g=some (bb,want):=by rfl) (hbb:bb=want:=by exact ay) (hd:Nat.blt n N=true:=by rfl) :
  Sw P N av bor w0 ops (⟨some n,.call ⟨.builtin .max,#[x,y],#[t,t2]⟩,ty,pos,af,g⟩::rest) ⟨E,loc,X⟩ kk:=ao (uC hx hy) hg hbb hd h
theorem fa {p q:Bool} [hI:TyBool P t] (h:Sw P N av bor w0 ops rest ⟨(n,.bool (p != q))::E,loc,X⟩ kk) (hx:ev E x=some (.bool p):=by rfl) (hy:ev E y=some (.bool q):=by rfl) (hg:gdB ops E g=some (bb,want):=by rfl) (hbb:bb=want:=by exact ay) (hd:Nat.blt n N=true:=by rfl) :
  Sw P N av bor w0 ops (⟨some n,.binOp .neq t x y t2,ty,pos,af,g⟩::rest) ⟨E,loc,X⟩ kk:=ao (tT hx hy) hg hbb hd h
theorem mB {bl off:Nat} {v:Value} [hI:Xs P t] (h:Sw P N av bor w0 ops rest ⟨(n,v)::E,loc,X⟩ kk) (hx:ev E x=some (.pointer (some ⟨bl,off,none⟩)):=by rfl) (hF:∀ w,X w→w.cell? ⟨bl,off,none⟩=some v) (hg:gdB ops E g=some (bb,want):=by rfl) (hbb:bb=want:=by exact ay) (hd:Nat.blt n N=true:=by rfl) :
  Sw P N av bor w0 ops (⟨some n,.load t x,ty,pos,af,g⟩::rest) ⟨E,loc,X⟩ kk:=ao (nq hx hF) hg hbb hd h
theorem kp {m:Nat} {bl:Nat} {cs:List Value} [hI:Xq P t m] (h:Sw P N av bor w0 ops rest ⟨(n,.agg cs.toArray)::E,loc,X⟩ kk) (hx:ev E x=some (.pointer (some ⟨bl,0,none⟩)):=by rfl) (hF:∀ w,X w→∀ j v,cs[j]?=some v→w.cell? ⟨bl,j,none⟩=some v) (hl:cs.length=m:=by rfl) (hg:gdB ops E g=some (bb,want):=by rfl) (hbb:bb=want:=by exact ay) (hd:Nat.blt n N=true:=by rfl) :
  Sw P N av bor w0 ops (⟨some n,.load t x,ty,pos,af,g⟩::rest) ⟨E,loc,X⟩ kk:=ao (tR hx hF hl) hg hbb hd h
theorem oI {n0 e:Nat} {zv:Value} [hI:TyArr P t n0 e] [hz:Xl P t zv] {parts:List (Nat×Operand)} {vs:List Value} (h:Sw P N av bor w0 ops rest ⟨(n,.agg vs.toArray)::E,loc,X⟩ kk) (hx:partsOf E 0 parts=some vs:=by rfl) (h1:vs.all (·.oneCell')=true:=by rfl) (hl:zv.cells.size=vs.length:=by rfl) (hg:gdB ops E g=some (bb,want):=by rfl) (hbb:bb=want:=by exact ay) (hd:Nat.blt n N=true:=by rfl) :
  Sw P N av bor w0 ops (⟨some n,.build t parts.toArray,ty,pos,af,g⟩::rest) ⟨E,loc,X⟩ kk:=ao (qb hx h1 hl) hg hbb hd h
end
end Go.Proofs.YtamfbppnlomgfaaGreatDoor.Sy
namespace Go.Proofs.YtamfbppnlomgfaaGreatDoor
open Go Go.Proofs Sy Tryz
instance:TyArr prog 127 8 126:=⟨ac⟩
instance:TyArr prog 177 64 126:=⟨ac⟩
instance:TyBool prog 4:=⟨ac⟩
def rotlV (x k:Int):Int:=bitsV .or .u32 (shlV .u32 x (bitsV .and .u64 (IntKind.u64.wrap k) 31)) (shrV .u32 x (IntKind.u64.wrap (32-bitsV .and .u64 (IntKind.u64.wrap k) 31)))
theorem sx (x k:Int):Pu prog 165 #[.int .u32 x,.int .i64 k] (fun _=>True) (.int .u32 (rotlV x k)):=by
 refine ax func165 ntmps165 fun av bor w0=>?_
 repeat' (first|refine gs ?_|fail)
 apply aa;apply ai;rfl;rfl;rfl
def turnV (w n:Int):Int:=rotlV w (IntKind.i64.wrap (0-n))
theorem kn (w n:Int):Pu prog 110 #[.int .u32 w,.int .i64 n] (fun _=>True) (.int .u32 (turnV w n)):=by
 refine ax func110 ntmps110 fun av bor w0=>?_
 repeat' (first|refine ae (hc:=sx _ _) ?_|refine gs ?_|(refine tZ (hc:=rfl) ?_)|fail)
 apply aa;apply ai;rfl;rfl;rfl
theorem rN {a b:Nat} (h:a<b):Nat.blt a b=true:=Nat.ble_eq_true_of_le h
def u32s (ws:List Int):List Value:=ws.map (.int .u32)
theorem dQ (ws:List Int):(u32s ws).length=ws.length:=by simp [u32s]
theorem lc (ws:List Int) (i:Nat) (v:Int):(u32s ws).set i (.int .u32 v)=u32s (ws.set i v):=by simp [u32s,List.map_set]
theorem eH (ws:List Int) (i:Nat) (h:i<ws.length):(u32s ws)[i]?=some (.int .u32 (ws.getD i 0)):=by simp [u32s,h]
def a32 (a b:Int):Int:=IntKind.u32.wrap (a+b)
def wordV (s:ByteArray) (i:Nat):Int :=
 bitsV .or .u32 (bitsV .or .u32 (bitsV .or .u32 (shlV .u32 (IntKind.u32.wrap (byteAt (s.extract (4*(i:Int)).toNat (4*(i:Int)+4).toNat) 0)) 24) (shlV .u32 (IntKind.u32.wrap (byteAt (s.extract (4*(i:Int)).toNat (4*(i:Int)+4).toNat) 1)) 16))
  (shlV .u32 (IntKind.u32.wrap (byteAt (s.extract (4*(i:Int)).toNat (4*(i:Int)+4).toNat) 2)) 8)) (IntKind.u32.wrap (byteAt (s.extract (4*(i:Int)).toNat (4*(i:Int)+4).toNat) 3))
def w1 (s:ByteArray):Nat→List Int
 | 0=>List.replicate 64 0
 | i+1=>(w1 s i).set i (wordV s i)
theorem km (s:ByteArray):∀ i,(w1 s i).length=64
 | 0=>rfl
 | i+1=>by rw [w1,List.length_set,km s i]
def early (w:List Int) (i:Nat):Int:=bitsV .xor .u32 (bitsV .xor .u32 (turnV (w.getD (i-15) 0) 7) (turnV (w.getD (i-15) 0) 18)) (shrV .u32 (w.getD (i-15) 0) 3)
def late (w:List Int) (i:Nat):Int:=bitsV .xor .u32 (bitsV .xor .u32 (turnV (w.getD (i-2) 0) 17) (turnV (w.getD (i-2) 0) 19)) (shrV .u32 (w.getD (i-2) 0) 10)
def w2 (s:ByteArray):Nat→List Int
 | 0=>w1 s 16
 | k+1=>(w2 s k).set (16+k) (a32 (a32 (a32 ((w2 s k).getD k 0) (early (w2 s k) (16+k))) ((w2 s k).getD (16+k-7) 0)) (late (w2 s k) (16+k)))
theorem kj (s:ByteArray):∀ i,(w2 s i).length=64
 | 0=>km s 16
 | i+1=>by rw [w2,List.length_set,kj s i]
def schedV (s:ByteArray):List Int:=w2 s 48
theorem lr (s:ByteArray) (hs:s.size=64):Pu prog 109 #[.string s] (fun _=>True) (.agg (u32s (schedV s)).toArray):=by
 refine ax func109 ntmps109 fun av bor w0=>?_
 repeat' (first|refine gs ?_|refine gs1 fun _=>?_|fail)
 rename_i b1 b2
 refine az (ι:=Kth 16) (fun i=>⟨[(0,.string s),(2,.pointer (some ⟨b1,0,none⟩)),(3,.pointer (some ⟨b2,0,none⟩)),(11,.int .i64 i.k)],[cel b2 177 (u32s (w1 s i.k)),cel b1 177 (u32s (List.replicate 64 0))],fun _=>True⟩) (fun i=>16-i.k) ⟨0,ZU _⟩ (ak aw (aj _) fun _ h=>h) fun i=>?_
 have hik:=i.hk
 repeat' (first|refine gs ?_|refine gs1 fun _=>?_|(refine gp ?_ ?_<;>intro hx_ this)|fail)
 · have hlt:i.k<16:=by omega
   have hlen:=km s i.k
   have hes:(s.extract (4*(i.k:Int)).toNat (4*(i.k:Int)+4).toNat).size=4:=by simp only [ByteArray.size_extract];omega
   repeat' (first|refine gs ?_|refine gs1 fun _=>?_|(refine gp ?_ ?_<;>intro hx_ this)|fail)
   refine qo (h0:=by omega) (h1:=by omega) (h2:=by omega) ?_
   repeat' (first|refine gs ?_|refine gs1 fun _=>?_|(refine gp ?_ ?_<;>intro hx_ this)|fail)
   (refine aw_draw ⟨[0,1,2,3,4,5,6,7,8,9,10,11,12,13,14,15,16,17,18,19],[(20,⟨[],[]⟩)]⟩ [] (fun _=>True) (h:=?_))
   all_goals repeat' (first|refine gd ?_|refine aH (hy:=by first|(apply j7;rfl;rfl;decide;(rw [hes];decide))|(apply dH (q:=i.k);rfl;rfl;omega;omega;omega)) ?_|refine aE ?_ (h':=?_)|exact aF|((refine bX (hl:=rN (by simp only [dQ,hlen];omega)) ?_))|refine gs1 fun _=>?_|(refine gq ?_ ?_<;>intro hx_ this)|fail)
   repeat' (first|refine gs ?_|refine gs1 fun _=>?_|(refine gp ?_ ?_<;>intro hx_ this)|fail)
   exact ⟨(⟨i.k+1,hlt⟩:Kth 16),(by show 16-(i.k+1)<16-i.k;omega),ak aw (by
    show List.Sublist [cel b2 _ (u32s (w1 s (i.k+1))),_] _
    rw [w1,←lc]
    exact aj _) fun _ h=>h⟩
 have hk:i.k=16:=by omega
 refine az (ι:=Kth 48) (fun i=>⟨[(0,.string s),(2,.pointer (some ⟨b1,0,none⟩)),(3,.pointer (some ⟨b2,0,none⟩)),(6,.int .i64 (16+i.k))],[cel b2 177 (u32s (w2 s i.k)),cel b1 177 (u32s (List.replicate 64 0))],fun _=>True⟩) (fun i=>48-i.k) ⟨0,ZU _⟩ (ak aw (by
  show List.Sublist [cel b2 _ (u32s (w1 s 16)),_] _
  rw [hk]
  exact aj _) fun _ h=>h) fun i=>?_
 have hik:=i.hk
 have hlen:=kj s i.k
 repeat' (first|refine gs ?_|refine gs1 fun _=>?_|(refine gp ?_ ?_<;>intro hx_ this)|fail)
 · have hlt:i.k<48:=by omega
   (refine aJ ⟨[0,1,2,3,4,5,6,7,8,9],[]⟩ (h:=?_))
   all_goals repeat' (first|refine gd ?_|refine aH (hy:=by first|(apply dH (q:=16+i.k-15);rfl;rfl;omega;omega;omega)|(apply dH (q:=16+i.k-2);rfl;rfl;omega;omega;omega)|(apply kf;rfl;(repeat (first|exact aC|apply Zr));exact eH _ _ ab)) ?_|refine aE ?_ (h':=?_)|exact aF|refine gs1 fun _=>?_|(refine gq ?_ ?_<;>intro hx_ this)|fail)
   repeat' (first|refine ae (hc:=kn _ _) ?_|refine gs ?_|refine gs1 fun _=>?_|(refine gp ?_ ?_<;>intro hx_ this)|fail)
   (refine aw_draw ⟨[0,1,2,3,5,7,8,9,12],[(4,⟨[6],[(10,⟨[11,13,14],[(15,⟨[],[]⟩)]⟩)]⟩),(10,⟨[],[(4,⟨[6,11,13,14],[(15,⟨[],[]⟩)]⟩)]⟩)]⟩ [] (fun _=>True) (h:=?_))
   all_goals repeat' (first|refine gd ?_|refine aH (hy:=by first|(apply dH (q:=i.k);rfl;rfl;omega;omega;omega)|(apply dH (q:=16+i.k-7);rfl;rfl;omega;omega;omega)|(apply dH (q:=16+i.k);rfl;rfl;omega;omega;omega)) ?_|refine aE ?_ (h':=?_)|exact aF|(refine dv (hv:=eH _ _ ab) ?_)|((refine bX (hl:=rN (by simp only [dQ,hlen];omega)) ?_))|refine gs1 fun _=>?_|(refine gq ?_ ?_<;>intro hx_ this)|fail)
   all_goals (repeat' (first|refine gs ?_|refine gs1 fun _=>?_|(refine gp ?_ ?_<;>intro hx_ this)|fail))
   all_goals exact ⟨(⟨i.k+1,hlt⟩:Kth 48),(by show 48-(i.k+1)<48-i.k;omega),ak aw (by
    show List.Sublist [cel b2 _ (u32s (w2 s (i.k+1))),_] _
    rw [w2,←lc]
    exact aj _) fun _ h=>h⟩
 have hk2:i.k=48:=by omega
 repeat' (first|refine gs ?_|refine gs1 fun _=>?_|(refine be (hn:=by simp only [dQ,hlen]) ?_)|(refine bf (hm:=by simp only [dQ,hlen]) (hn:=by rfl) (h1:=by simp [u32s,Value.oneCell']) ?_)|fail)
 apply aa;refine aP rfl rfl aB ?_
 · simp only [dQ,hlen]
 rw [hk2]
 rfl
def iniC:List Int:=[1779033703,3144134277,1013904242,2773480762,1359893119,2600822924,528734635,1541459225]
def kC:List Int:=[1116352408,1899447441,3049323471,3921009573,961987163,1508970993,2453635748,2870763221,3624381080,310598401,607225278,1426881987,1925078388,2162078206,2614888103,3248222580,3835390401,4022224774,264347078,604807628,770255983,1249150122,1555081692,1996064986,2554220882,2821834349,2952996808,3210313671,3336571891,3584528711,113926993,338241895,666307205,773529912,1294757372,1396182291,1695183700,1986661051,2177026350,2456956037,2730485921,2820302411,3259730800,3345764771,3516065817,3600352804,4094571909,275423344,430227734,506948616,659060556,883997877,958139571,1322822218,1537002063,1747873779,1955562222,2024104815,2227730452,2361852424,2428436474,2756734187,3204031479,3329325298]
def CellsAt (g:Nat) (l:List Value) (w:World):Prop:=∀ j v,l[j]?=some v→w.cell? ⟨g,j,none⟩=some v
structure Xc (w:World):Prop where
 ini:CellsAt 0 (u32s iniC) w
 k:CellsAt 1 (u32s kC) w
structure St8 where
 a:Int
 b:Int
 c:Int
 d:Int
 e:Int
 f:Int
 g:Int
 h:Int
def St8.l (x:St8):List Int:=[x.a,x.b,x.c,x.d,x.e,x.f,x.g,x.h]
def x32 (a b:Int):Int:=bitsV .xor .u32 a b
def n32 (a b:Int):Int:=bitsV .and .u32 a b
def t1V (x:St8) (k w:Int):Int :=
 a32 (a32 (a32 (a32 x.h (x32 (x32 (turnV x.e 6) (turnV x.e 11)) (turnV x.e 25))) (x32 (n32 x.e x.f) (n32 (x32 (if IntKind.u32.signed then -1 else IntKind.u32.max) x.e) x.g))) k) w
def t2V (x:St8):Int:=a32 (x32 (x32 (turnV x.a 2) (turnV x.a 13)) (turnV x.a 22)) (x32 (x32 (n32 x.a x.b) (n32 x.a x.c)) (n32 x.b x.c))
def roundV (x:St8) (k w:Int):St8:=⟨a32 (t1V x k w) (t2V x),x.a,x.b,x.c,a32 x.d (t1V x k w),x.e,x.f,x.g⟩
def roundsV (x:St8) (ws:List Int):Nat→St8
 | 0=>x
 | i+1=>roundV (roundsV x ws i) (kC.getD i 0) (ws.getD i 0)
def mixV (x:St8) (s:ByteArray):St8 :=
 let y:=roundsV x (schedV s) 64
 ⟨a32 x.a y.a,a32 x.b y.b,a32 x.c y.c,a32 x.d y.d,a32 x.e y.e,a32 x.f y.f,a32 x.g y.g,a32 x.h y.h⟩
theorem ue (i:Nat) (h:i<64):(u32s kC)[i]?=some (.int .u32 (kC.getD i 0)):=eH kC i h
theorem qZ (x:St8) (s:ByteArray) (hs:s.size=64):Pu prog 67 #[.agg (u32s x.l).toArray,.string s] Xc (.agg (u32s (mixV x s).l).toArray):=by
 refine ax func67 ntmps67 fun av bor w0=>?_
 obtain ⟨ws,hws,hlen⟩:∃ ws,schedV s=ws∧ws.length=64:=⟨_,rfl,kj s 48⟩
 have hsp:Pu prog 109 #[.string s] (fun _=>True) (.agg (u32s ws).toArray):=hws▸lr s hs
 unfold mixV
 rw [hws]
 repeat' (first|refine ae (hc:=hsp) ?_|refine gs ?_|refine gs1 fun _=>?_|(refine bf (hm:=by simp only [dQ,hlen]) (hn:=by rfl) (h1:=by simp [u32s,Value.oneCell']) ?_)|fail)
 (refine aJ ⟨[0,1,2,3,4,5,6,7,8,9,10,11],[]⟩ (h:=?_))
 all_goals repeat' (first|refine gd ?_|refine aE ?_ (h':=?_)|exact aF|refine gs1 fun _=>?_|(refine gq ?_ ?_<;>intro hx_ this)|fail)
 repeat' (first|refine gs ?_|refine gs1 fun _=>?_|fail)
 (refine aJ ⟨[0,1,2,3,4,5,6,7,8,9,10,11],[]⟩ (h:=?_))
 all_goals repeat' (first|refine gd ?_|refine aE ?_ (h':=?_)|exact aF|refine gs1 fun _=>?_|(refine gq ?_ ?_<;>intro hx_ this)|fail)
 repeat' (first|refine gs ?_|refine gs1 fun _=>?_|fail)
 rename_i b1 b2 b3
 refine az (ι:=Kth 64) (fun i=>⟨[(2,.pointer (some ⟨b1,0,none⟩)),(4,.pointer (some ⟨b2,0,none⟩)),(5,.pointer (some ⟨b3,0,none⟩)),(6,.int .u32 (roundsV x ws i.k).a),(7,.int .u32 (roundsV x ws i.k).b),(8,.int .u32 (roundsV x ws i.k).c),(9,.int .u32 (roundsV x ws i.k).d),(10,.int .u32 (roundsV x ws i.k).e),(11,.int .u32 (roundsV x ws i.k).f),(12,.int .u32 (roundsV x ws i.k).g),(13,.int .u32 (roundsV x ws i.k).h),(35,.int .i64 i.k)],
  [cel b3 177 (u32s ws),cel b2 127 (u32s (List.replicate 8 0)),cel b1 127 (u32s x.l)],Xc⟩) (fun i=>64-i.k) ⟨0,ZU _⟩ (ak aw (aj _) fun _ h=>h) fun i=>?_
 have hik:=i.hk
 repeat' (first|refine gs ?_|refine gs1 fun _=>?_|(refine gp ?_ ?_<;>intro hx_ this)|fail)
 · have hlt:i.k<64:=by omega
   generalize hy:roundsV x ws i.k=y at *
   (refine aJ ⟨[0,1,3,6,10,11,12,13,14,15,16,17,19,20,21,23,24,25],[(2,⟨[],[(4,⟨[5],[(7,⟨[8,9,18,22,26,27],[]⟩)]⟩)]⟩)]⟩ (h:=?_))
   all_goals repeat' (first|refine ae (hc:=kn _ _) ?_|refine gd ?_|refine aH (hy:=by first|(apply dH (q:=i.k);rfl;rfl;omega;omega;omega)|(apply nq;rfl;exact fun w h=>h.k i.k _ (ue _ hlt))|(apply kf;rfl;(repeat (first|exact aC|apply Zr));exact eH _ _ ab)) ?_|refine aE ?_ (h':=?_)|exact aF|refine gs1 fun _=>?_|(refine gq ?_ ?_<;>intro hx_ this)|fail)
   repeat' (first|refine ae (hc:=kn _ _) ?_|refine gs ?_|refine gs1 fun _=>?_|(refine gp ?_ ?_<;>intro hx_ this)|fail)
   exact ⟨(⟨i.k+1,hlt⟩:Kth 64),(by show 64-(i.k+1)<64-i.k;omega),ak (by
    have e:roundsV x ws (i.k+1)=roundV y (kC.getD i.k 0) (ws.getD i.k 0):=by rw [roundsV,hy]
    simp only [e]
    exact ⟨rfl,rfl,rfl,rfl,rfl,rfl,rfl,rfl,rfl,rfl,rfl,rfl,trivial⟩) (aj _) fun _ h=>h⟩
 have hk:i.k=64:=by omega
 repeat' (first|refine gs ?_|refine gs1 fun _=>?_|(refine oI ?_)|(refine gp ?_ ?_<;>intro hx_ this)|fail)
 apply aa;refine aP rfl rfl aB ?_
 · rfl
 rw [hk]
 rfl
end Go.Proofs.YtamfbppnlomgfaaGreatDoor
