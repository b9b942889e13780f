/- Joined. -/
import Derived.Test.YtgffbiobmamobaaGreatDoorI0
import Derived.Test.YtgffbiobmamobaaGreatDoorI9
import Derived.Test.YtgffbiobmamobaaGreatDoorI10
import Derived.Test.YtgffbiobmamobaaGreatDoorI8
set_option linter.unusedVariables false
set_option linter.unusedSimpArgs false
set_option maxHeartbeats 16000000
namespace Go.Proofs.YtgffbiobmamobaaGreatDoor
open Go Go.Proofs Sy
theorem ld (s:Xi):Pu Tryz.prog 106 #[s.v,.slice none 0 0] (fun _=>True) (.bool (decide ((s.n:Int)=0))):=by
 refine aq Tryz.func106 Tryz.ntmps106 fun av bor w0=>?_
 by_cases h0:s.n=0
 · rw [h0]
   repeat' (first|refine aw ?_ (cw false rfl rfl (by rw [h0];rfl))|refine gs ?_|(refine gp ?_ ?_<;>intro hx_ this)|fail)
   refine az (ι:=Unit) (fun _=>⟨[(12,.int .i64 (s.n:Nat)),(13,.int .i64 0)],[],fun _=>True⟩) (fun _=>0) () (ak an (al _) fun _ h=>h) fun _=>?_
   repeat' (first|refine aw ?_ (be false rfl rfl (by rw [h0];rfl))|refine gs ?_|(refine gp ?_ ?_<;>intro hx_ this)|fail)
   all_goals exact ae (aj rfl rfl) rfl
 · rw [decide_eq_false (by omega)]
   repeat' (first|refine aw ?_ (cw true rfl rfl (by simp;omega))|refine gs ?_|(refine gp ?_ ?_<;>intro hx_ this)|fail)
   all_goals exact ae (aj rfl rfl) rfl
theorem qI (s:Xi):Pu Tryz.prog 107 #[s.v,.slice none 0 0] (fun _=>True) (.bool (decide ((s.n:Int)=0))):=by
 refine aq Tryz.func107 Tryz.ntmps107 fun av bor w0=>?_
 by_cases h0:s.n=0
 · rw [h0]
   repeat' (first|refine aw ?_ (cw false rfl rfl (by rw [h0];rfl))|refine gs ?_|(refine gp ?_ ?_<;>intro hx_ this)|fail)
   refine az (ι:=Unit) (fun _=>⟨[(12,.int .i64 (s.n:Nat)),(13,.int .i64 0)],[],fun _=>True⟩) (fun _=>0) () (ak an (al _) fun _ h=>h) fun _=>?_
   repeat' (first|refine aw ?_ (be false rfl rfl (by rw [h0];rfl))|refine gs ?_|(refine gp ?_ ?_<;>intro hx_ this)|fail)
   all_goals exact ae (aj rfl rfl) rfl
 · rw [decide_eq_false (by omega)]
   repeat' (first|refine aw ?_ (cw true rfl rfl (by simp;omega))|refine gs ?_|(refine gp ?_ ?_<;>intro hx_ this)|fail)
   all_goals exact ae (aj rfl rfl) rfl
section
variable {P:Program} {N:Nat} {av bor:List Nat} {w0:World} {ops:Array Oper} {rest:List Oper} {kk:St→Prop} {E:Env} {loc:List Xl} {X:World→Prop} {n:Nat} {ty t2:TypeId} {pos:String} {af:Array Edge} {g:Option (Nat×Bool)} {bb want:Bool} {x y:Operand}
theorem kg {a b:Xm} (h:Sw Tryz.prog N av bor w0 ops rest ⟨(n,.bool (claimEq a b))::E,loc,X⟩ kk) (hx:ev E x=some (.agg a.cells.toArray):=by rfl) (hy:ev E y=some (.agg b.cells.toArray):=by rfl) (hg:gdB ops E g=some (bb,want):=by rfl) (hbb:bb=want:=by exact ax) (hd:Nat.blt n N=true:=by rfl) :
  Sw Tryz.prog N av bor w0 ops (⟨some n,.binOp .eql 74 x y t2,ty,pos,af,g⟩::rest) ⟨E,loc,X⟩ kk:=am (lz hx hy) hg hbb hd h
theorem jq {a b:Xj} (h:Sw Tryz.prog N av bor w0 ops rest ⟨(n,.bool (ballotEq a b))::E,loc,X⟩ kk) (hx:ev E x=some (.agg a.cells.toArray):=by rfl) (hy:ev E y=some (.agg b.cells.toArray):=by rfl) (hg:gdB ops E g=some (bb,want):=by rfl) (hbb:bb=want:=by exact ax) (hd:Nat.blt n N=true:=by rfl) :
  Sw Tryz.prog N av bor w0 ops (⟨some n,.binOp .eql 76 x y t2,ty,pos,af,g⟩::rest) ⟨E,loc,X⟩ kk:=am (j7 hx hy) hg hbb hd h
theorem uP {st:St} {a b c e:Int} (hx:ev st.env x=some (.agg #[.int .i64 a,.int .i64 b])) (hy:ev st.env y=some (.agg #[.int .i64 c,.int .i64 e])) :
  Sy.Yields Tryz.prog N av bor w0 st (.binOp .eql 40 x y t2) ty (.bool (decide (a=c)&&(decide (b=e)&&true))):=Sy.Yields.mk fun A w ok d pos af g=>by
 have h1:=run_eql_struct (P:=Tryz.prog) w 40 #[.int .i64 a,.int .i64 b] #[.int .i64 c,.int .i64 e]
 rw [show (10000:Nat)=9998+2 from rfl,lf] at h1
 have hgu:Tryz.prog.eqGuardType Tryz.prog.depth 40=false:=by kernel_rfl
 simp [execOp,ok.eval (st:=st) hx,ok.eval (st:=st) hy,run_eqGuard_agg _ _ _ _ _ _ _ hgu,h1]
theorem iP {a b c e:Int} (h:Sw Tryz.prog N av bor w0 ops rest ⟨(n,.bool (decide (a=c)&&(decide (b=e)&&true)))::E,loc,X⟩ kk) (hx:ev E x=some (.agg #[.int .i64 a,.int .i64 b]):=by rfl) (hy:ev E y=some (.agg #[.int .i64 c,.int .i64 e]):=by rfl) (hg:gdB ops E g=some (bb,want):=by rfl) (hbb:bb=want:=by exact ax) (hd:Nat.blt n N=true:=by rfl) :
  Sw Tryz.prog N av bor w0 ops (⟨some n,.binOp .eql 40 x y t2,ty,pos,af,g⟩::rest) ⟨E,loc,X⟩ kk:=am (uP hx hy) hg hbb hd h
end
def actZ (a:Xc):Bool:=seqB a.author ⟨#[]⟩&&(decide (a.seq=0)&&(seqB a.prev ⟨#[]⟩&&(decide (a.kind=0)&&(decide (a.time=0)&&(seqB a.object ⟨#[]⟩&&(seqB a.target ⟨#[]⟩&&(decide (a.scope=0)&&(seqB a.group ⟨#[]⟩&&(decide ((a.to.n:Int)=0)&&(seqB a.text ⟨#[]⟩&&(boxEq a.body Xw.zero&&(decide (a.epoch=0)&&(decide ((a.wraps.n:Int)=0)&&(decide (a.n=0)&&(decide (a.m=0)&&(decide (a.e=0)&&(decide (a.s=0)&&true)))))))))))))))))
set_option maxRecDepth 20000 in
theorem pA (a:Xc):Pu Tryz.prog 62 #[a.v,Xc.zero.v] (fun _=>True) (.bool (actZ a)):=by
 refine aq Tryz.func62 Tryz.ntmps62 fun av bor w0=>?_
 repeat' (first|refine ag (hc:=ld a.to) ?_|refine ag (hc:=qI a.wraps) ?_|refine gs ?_|refine gs1 fun _=>?_|(refine kj (a:=a.body) (b:=Xw.zero) ?_)|(refine iP (a:=a.e) (b:=a.s) (c:=0) (e:=0) ?_)|(refine aE ?_)|(refine aE (vs:=[.int .i64 a.e,.int .i64 a.s]) (hv:=rfl) ?_)|(refine aE (vs:=[.int .i64 0,.int .i64 0]) (hv:=rfl) ?_)|(refine gp ?_ ?_<;>intro hx_ this)|fail)
 all_goals refine ae (aj rfl rfl) ?_
 all_goals rw [actZ]
 all_goals simp_all [Xc.zero]
def decZ (d:Xf):Bool:=decide (d.server=0)&&(decide (d.number=0)&&(decide (d.kind=0)&&(seqB d.actor ⟨#[]⟩&&(seqB d.object ⟨#[]⟩&&(seqB d.text ⟨#[]⟩&&(decide ((d.to.n:Int)=0)&&(decide (d.n=0)&&(decide (d.from_=0)&&(decide (d.until_=0)&&(decide (d.e=0)&&(decide (d.s=0)&&true)))))))))))
set_option maxRecDepth 20000 in
theorem pd (d:Xf):Pu Tryz.prog 63 #[d.v,Xf.zero.v] (fun _=>True) (.bool (decZ d)):=by
 refine aq Tryz.func63 Tryz.ntmps63 fun av bor w0=>?_
 repeat' (first|refine ag (hc:=ld d.to) ?_|refine gs ?_|refine gs1 fun _=>?_|(refine iP (a:=d.e) (b:=d.s) (c:=0) (e:=0) ?_)|(refine aE (vs:=[.int .i64 d.e,.int .i64 d.s]) (hv:=rfl) ?_)|(refine aE (vs:=[.int .i64 0,.int .i64 0]) (hv:=rfl) ?_)|(refine gp ?_ ?_<;>intro hx_ this)|fail)
 all_goals refine ae (aj rfl rfl) ?_
 all_goals rw [decZ]
 all_goals simp_all [Xf.zero]
def sameIZ (i:Xb):Bool:=decide (i.kind=0)&&(actZ i.act&&(claimEq i.claim Xm.zero&&(ballotEq i.ballot Xj.zero&&decZ i.dec)))
set_option maxRecDepth 20000 in
theorem eF (i:Xb):Pu Tryz.prog 29 #[i.v,Xb.zero.v] (fun _=>True) (.bool (sameIZ i)):=by
 refine aq Tryz.func29 Tryz.ntmps29 fun av bor w0=>?_
 repeat' (first|refine ag (hc:=pA i.act) ?_|refine ag (hc:=pd i.dec) ?_|refine gs ?_|refine gs1 fun _=>?_|(refine kg (a:=i.claim) (b:=Xm.zero) ?_)|(refine jq (a:=i.ballot) (b:=Xj.zero) ?_)|(refine aE (vs:=i.act.cells) (hv:=rfl) ?_)|(refine aE (vs:=i.claim.cells) (hv:=rfl) ?_)|(refine aE (vs:=i.ballot.cells) (hv:=rfl) ?_)|(refine aE (vs:=i.dec.cells) (hv:=rfl) ?_)|(refine aE (vs:=Xc.zero.cells) (hv:=rfl) ?_)|(refine aE (vs:=Xm.zero.cells) (hv:=rfl) ?_)|(refine aE (vs:=Xj.zero.cells) (hv:=rfl) ?_)|(refine aE (vs:=Xf.zero.cells) (hv:=rfl) ?_)|(refine gp ?_ ?_<;>intro hx_ this)|fail)
 all_goals refine ae (aj rfl rfl) ?_
 all_goals rw [sameIZ]
 all_goals simp_all [Xb.zero,ofActI]
end Go.Proofs.YtgffbiobmamobaaGreatDoor
