/- Joined. -/
import Derived.Test.YtggionfjlgfihaaGreatDoorI0
import Derived.Test.YtggionfjlgfihaaGreatDoorI14
import Derived.Test.YtggionfjlgfihaaGreatDoorI22
import Derived.Test.YtggionfjlgfihaaGreatDoorI7
set_option linter.unusedVariables false
set_option linter.unusedSimpArgs false
set_option maxHeartbeats 16000000
namespace Go.Proofs.YtggionfjlgfihaaGreatDoor
open Go Go.Proofs Sy
theorem lC (s:Xj):Pu Tryz.prog 67 #[s.v,.slice none 0 0] (fun _=>True) (.bool (decide ((s.n:Int)=0))):=by
 refine ar Tryz.func67 Tryz.ntmps67 fun av bor w0=>?_
 by_cases h0:s.n=0
 · rw [h0]
   repeat' (first|refine aO ?_ (dd false rfl rfl (by rw [h0];rfl))|refine gs ?_|(refine gp ?_ ?_<;>intro hx_ this)|fail)
   refine am (ι:=Unit) (fun _=>⟨[(12,.int .i64 (s.n:Nat)),(13,.int .i64 0)],[],fun _=>True⟩) (fun _=>0) () (ae al (aj _) fun _ h=>h) fun _=>?_
   repeat' (first|refine aO ?_ (bj false rfl rfl (by rw [h0];rfl))|refine gs ?_|(refine gp ?_ ?_<;>intro hx_ this)|fail)
   all_goals exact ab (ai rfl rfl) rfl
 · rw [decide_eq_false (by omega)]
   repeat' (first|refine aO ?_ (dd true rfl rfl (by simp;omega))|refine gs ?_|(refine gp ?_ ?_<;>intro hx_ this)|fail)
   all_goals exact ab (ai rfl rfl) rfl
theorem ry (s:Xj):Pu Tryz.prog 68 #[s.v,.slice none 0 0] (fun _=>True) (.bool (decide ((s.n:Int)=0))):=by
 refine ar Tryz.func68 Tryz.ntmps68 fun av bor w0=>?_
 by_cases h0:s.n=0
 · rw [h0]
   repeat' (first|refine aO ?_ (dd false rfl rfl (by rw [h0];rfl))|refine gs ?_|(refine gp ?_ ?_<;>intro hx_ this)|fail)
   refine am (ι:=Unit) (fun _=>⟨[(12,.int .i64 (s.n:Nat)),(13,.int .i64 0)],[],fun _=>True⟩) (fun _=>0) () (ae al (aj _) fun _ h=>h) fun _=>?_
   repeat' (first|refine aO ?_ (bj false rfl rfl (by rw [h0];rfl))|refine gs ?_|(refine gp ?_ ?_<;>intro hx_ this)|fail)
   all_goals exact ab (ai rfl rfl) rfl
 · rw [decide_eq_false (by omega)]
   repeat' (first|refine aO ?_ (dd true rfl rfl (by simp;omega))|refine gs ?_|(refine gp ?_ ?_<;>intro hx_ this)|fail)
   all_goals exact ab (ai rfl rfl) rfl
section
variable {P:Program} {N:Nat} {av bor:List Nat} {w0:World} {ops:Array Oper} {rest:List Oper} {kk:St→Prop} {E:Env} {loc:List Xk} {X:World→Prop} {n:Nat} {ty t2:TypeId} {pos:String} {af:Array Edge} {g:Option (Nat×Bool)} {bb want:Bool} {x y:Operand}
theorem kF {a b:Xg} (h:Sw Tryz.prog N av bor w0 ops rest ⟨(n,.bool (claimEq a b))::E,loc,X⟩ kk) (hx:ev E x=some (.agg a.cells.toArray):=by rfl) (hy:ev E y=some (.agg b.cells.toArray):=by rfl) (hg:gdB ops E g=some (bb,want):=by rfl) (hbb:bb=want:=by exact aq) (hd:Nat.blt n N=true:=by rfl) :
  Sw Tryz.prog N av bor w0 ops (⟨some n,.binOp .eql 39 x y t2,ty,pos,af,g⟩::rest) ⟨E,loc,X⟩ kk:=ak (lS hx hy) hg hbb hd h
theorem jB {a b:Xi} (h:Sw Tryz.prog N av bor w0 ops rest ⟨(n,.bool (ballotEq a b))::E,loc,X⟩ kk) (hx:ev E x=some (.agg a.cells.toArray):=by rfl) (hy:ev E y=some (.agg b.cells.toArray):=by rfl) (hg:gdB ops E g=some (bb,want):=by rfl) (hbb:bb=want:=by exact aq) (hd:Nat.blt n N=true:=by rfl) :
  Sw Tryz.prog N av bor w0 ops (⟨some n,.binOp .eql 41 x y t2,ty,pos,af,g⟩::rest) ⟨E,loc,X⟩ kk:=ak (kz hx hy) hg hbb hd h
theorem vr {st:St} {a b c e:Int} (hx:ev st.env x=some (.agg #[.int .i64 a,.int .i64 b])) (hy:ev st.env y=some (.agg #[.int .i64 c,.int .i64 e])) :
  Sy.Yields Tryz.prog N av bor w0 st (.binOp .eql 35 x y t2) ty (.bool (decide (a=c)&&(decide (b=e)&&true))):=Sy.Yields.mk fun A w ok d pos af g=>by
 have h1:=run_eql_struct (P:=Tryz.prog) w 35 #[.int .i64 a,.int .i64 b] #[.int .i64 c,.int .i64 e]
 rw [show (10000:Nat)=9998+2 from rfl,lD] at h1
 have hgu:Tryz.prog.eqGuardType Tryz.prog.depth 35=false:=by kernel_rfl
 simp [execOp,ok.eval (st:=st) hx,ok.eval (st:=st) hy,run_eqGuard_agg _ _ _ _ _ _ _ hgu,h1]
theorem gL {a b c e:Int} (h:Sw Tryz.prog N av bor w0 ops rest ⟨(n,.bool (decide (a=c)&&(decide (b=e)&&true)))::E,loc,X⟩ kk) (hx:ev E x=some (.agg #[.int .i64 a,.int .i64 b]):=by rfl) (hy:ev E y=some (.agg #[.int .i64 c,.int .i64 e]):=by rfl) (hg:gdB ops E g=some (bb,want):=by rfl) (hbb:bb=want:=by exact aq) (hd:Nat.blt n N=true:=by rfl) :
  Sw Tryz.prog N av bor w0 ops (⟨some n,.binOp .eql 35 x y t2,ty,pos,af,g⟩::rest) ⟨E,loc,X⟩ kk:=ak (vr hx hy) hg hbb hd h
end
def actZ (a:Xa):Bool:=seqB a.author ⟨#[]⟩&&(decide (a.seq=0)&&(seqB a.prev ⟨#[]⟩&&(decide (a.kind=0)&&(decide (a.time=0)&&(seqB a.object ⟨#[]⟩&&(seqB a.target ⟨#[]⟩&&(decide (a.scope=0)&&(seqB a.group ⟨#[]⟩&&(decide ((a.to.n:Int)=0)&&(seqB a.text ⟨#[]⟩&&(boxEq a.body Xx.zero&&(decide (a.epoch=0)&&(decide ((a.wraps.n:Int)=0)&&(decide (a.n=0)&&(decide (a.m=0)&&(decide (a.e=0)&&(decide (a.s=0)&&true)))))))))))))))))
set_option maxRecDepth 20000 in
theorem qo (a:Xa):Pu Tryz.prog 28 #[a.v,Xa.zero.v] (fun _=>True) (.bool (actZ a)):=by
 refine ar Tryz.func28 Tryz.ntmps28 fun av bor w0=>?_
 repeat' (first|refine ag (hc:=lC a.to) ?_|refine ag (hc:=ry a.wraps) ?_|refine gs ?_|refine gs1 fun _=>?_|(refine iv (a:=a.body) (b:=Xx.zero) ?_)|(refine gL (a:=a.e) (b:=a.s) (c:=0) (e:=0) ?_)|(refine aB ?_)|(refine aB (vs:=[.int .i64 a.e,.int .i64 a.s]) (hv:=rfl) ?_)|(refine aB (vs:=[.int .i64 0,.int .i64 0]) (hv:=rfl) ?_)|(refine gp ?_ ?_<;>intro hx_ this)|fail)
 all_goals refine ab (ai rfl rfl) ?_
 all_goals rw [actZ]
 all_goals simp_all [Xa.zero]
def decZ (d:Xr):Bool:=decide (d.server=0)&&(decide (d.number=0)&&(decide (d.kind=0)&&(seqB d.actor ⟨#[]⟩&&(seqB d.object ⟨#[]⟩&&(seqB d.text ⟨#[]⟩&&(decide ((d.to.n:Int)=0)&&(decide (d.n=0)&&(decide (d.from_=0)&&(decide (d.until_=0)&&(decide (d.e=0)&&(decide (d.s=0)&&true)))))))))))
set_option maxRecDepth 20000 in
theorem p9 (d:Xr):Pu Tryz.prog 29 #[d.v,Xr.zero.v] (fun _=>True) (.bool (decZ d)):=by
 refine ar Tryz.func29 Tryz.ntmps29 fun av bor w0=>?_
 repeat' (first|refine ag (hc:=lC d.to) ?_|refine gs ?_|refine gs1 fun _=>?_|(refine gL (a:=d.e) (b:=d.s) (c:=0) (e:=0) ?_)|(refine aB (vs:=[.int .i64 d.e,.int .i64 d.s]) (hv:=rfl) ?_)|(refine aB (vs:=[.int .i64 0,.int .i64 0]) (hv:=rfl) ?_)|(refine gp ?_ ?_<;>intro hx_ this)|fail)
 all_goals refine ab (ai rfl rfl) ?_
 all_goals rw [decZ]
 all_goals simp_all [Xr.zero]
def sameIZ (i:Xb):Bool:=decide (i.kind=0)&&(actZ i.act&&(claimEq i.claim Xg.zero&&(ballotEq i.ballot Xi.zero&&decZ i.dec)))
set_option maxRecDepth 20000 in
theorem eC (i:Xb):Pu Tryz.prog 8 #[i.v,Xb.zero.v] (fun _=>True) (.bool (sameIZ i)):=by
 refine ar Tryz.func8 Tryz.ntmps8 fun av bor w0=>?_
 repeat' (first|refine ag (hc:=qo i.act) ?_|refine ag (hc:=p9 i.dec) ?_|refine gs ?_|refine gs1 fun _=>?_|(refine kF (a:=i.claim) (b:=Xg.zero) ?_)|(refine jB (a:=i.ballot) (b:=Xi.zero) ?_)|(refine aB (vs:=i.act.cells) (hv:=rfl) ?_)|(refine aB (vs:=i.claim.cells) (hv:=rfl) ?_)|(refine aB (vs:=i.ballot.cells) (hv:=rfl) ?_)|(refine aB (vs:=i.dec.cells) (hv:=rfl) ?_)|(refine aB (vs:=Xa.zero.cells) (hv:=rfl) ?_)|(refine aB (vs:=Xg.zero.cells) (hv:=rfl) ?_)|(refine aB (vs:=Xi.zero.cells) (hv:=rfl) ?_)|(refine aB (vs:=Xr.zero.cells) (hv:=rfl) ?_)|(refine gp ?_ ?_<;>intro hx_ this)|fail)
 all_goals refine ab (ai rfl rfl) ?_
 all_goals rw [sameIZ]
 all_goals simp_all [Xb.zero,ofActI]
end Go.Proofs.YtggionfjlgfihaaGreatDoor
