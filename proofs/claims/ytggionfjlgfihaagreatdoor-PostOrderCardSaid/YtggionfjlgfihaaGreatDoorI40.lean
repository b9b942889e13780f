/- Joined. -/
import Derived.Test.YtggionfjlgfihaaGreatDoorI0
import Derived.Test.YtggionfjlgfihaaGreatDoorI14
import Derived.Test.YtggionfjlgfihaaGreatDoorI29
import Derived.Test.YtggionfjlgfihaaGreatDoorI13
import Derived.Test.YtggionfjlgfihaaGreatDoorI7
import Derived.Test.YtggionfjlgfihaaGreatDoorI9
set_option linter.unusedVariables false
set_option linter.unusedSimpArgs false
set_option maxHeartbeats 16000000
namespace Go.Proofs.YtggionfjlgfihaaGreatDoor
open Go Go.Proofs Sy
theorem wr (w:World):(isAgg 32).run Tryz.prog w=.ok true w:=by kernel_rfl
theorem ub (w:World):(Go.sizeOf 32).run Tryz.prog w=.ok 3 w:=by kernel_rfl
theorem pp {cs:Array Value} {o:Nat} {w:World}:(part 32 cs o).run Tryz.prog w=.ok (.agg (cs.extract o (o+3))) w:=by
 simp [part,wr,ub]
theorem xQ {d:Nat} {a b c a' b' c':ByteArray} {w:World}:(Op.equalIn (d+2) 32 (.agg #[.string a,.string b,.string c]) (.agg #[.string a',.string b',.string c'])).run Tryz.prog w=.ok (seqB a a'&&(seqB b b'&&(seqB c c'&&true))) w:=by
 rw [run_equalIn_agg w (d+1) _ _ _ lN mZ]
 have hf:(Tryz.prog.fieldsOf 32).toList.map (fun f=>(f.name,f.type,f.offset))=[("Nonce",9,0),("Data",9,1),("Tag",9,2)]:=by kernel_rfl
 generalize (Tryz.prog.fieldsOf 32).toList=l at hf
 rcases l with _|⟨⟨n1,t1,o1,_⟩,_|⟨⟨n2,t2,o2,_⟩,_|⟨⟨n3,t3,o3,_⟩,_|⟨f4,l⟩⟩⟩⟩
 case cons.cons.cons.nil =>
  simp only [List.map_cons,List.map_nil,List.cons.injEq,Prod.mk.injEq,and_true] at hf
  obtain ⟨⟨rfl,rfl,rfl⟩,⟨rfl,rfl,rfl⟩,rfl,rfl,rfl⟩:=hf
  exact bD (by dsimp only;decide) (aQ rfl) (aQ rfl) eR (bD (by dsimp only;decide) (aQ rfl) (aQ rfl) eR (bD (by dsimp only;decide) (aQ rfl) (aQ rfl) eR iR))
 all_goals (have:=congrArg List.length hf;simp at this)
def wrapEq (a b:Xu):Bool:=decide (a.to=b.to)&&(decide (a.eph=b.eph)&&((seqB a.box.nonce b.box.nonce&&(seqB a.box.data b.box.data&&(seqB a.box.tag b.box.tag&&true)))&&true))
theorem lU:Tryz.prog.underlying 110=some (.struct (Tryz.prog.fieldsOf 110)):=by kernel_rfl
theorem nk:Tryz.prog.stoodInHeld 110=false:=by kernel_rfl
theorem np:Tryz.prog.eqGuardType Tryz.prog.depth 110=false:=by kernel_rfl
theorem qQ (w:World) (a b:Xu):(Op.equalIn 10000 110 (.agg a.cells.toArray) (.agg b.cells.toArray)).run Tryz.prog w=.ok (wrapEq a b) w:=by
 rw [show (10000:Nat)=9999+1 from rfl,run_equalIn_agg w 9999 _ _ _ lU nk]
 have hf:(Tryz.prog.fieldsOf 110).toList.map (fun f=>(f.name,f.type,f.offset))=[("To",3,0),("Eph",3,1),("Box",32,2)]:=by kernel_rfl
 generalize (Tryz.prog.fieldsOf 110).toList=l at hf
 rcases l with _|⟨⟨n1,t1,o1,_⟩,_|⟨⟨n2,t2,o2,_⟩,_|⟨⟨n3,t3,o3,_⟩,_|⟨f4,l⟩⟩⟩⟩
 case cons.cons.cons.nil =>
  simp only [List.map_cons,List.map_nil,List.cons.injEq,Prod.mk.injEq,and_true] at hf
  obtain ⟨⟨rfl,rfl,rfl⟩,⟨rfl,rfl,rfl⟩,rfl,rfl,rfl⟩:=hf
  exact bD (by dsimp only;decide) (aQ rfl) (aQ rfl) cS (bD (by dsimp only;decide) (aQ rfl) (aQ rfl) cS (bD (by dsimp only;decide) pp pp xQ iR))
 all_goals (have:=congrArg List.length hf;simp at this)
theorem m8 {N:Nat} {av bor:List Nat} {w0:World} {st:St} {ty t2:TypeId} {x y:Operand} {a b:Xu} (hx:ev st.env x=some (.agg a.cells.toArray)) (hy:ev st.env y=some (.agg b.cells.toArray)) :
  Sy.Yields Tryz.prog N av bor w0 st (.binOp .neq 110 x y t2) ty (.bool (!wrapEq a b)):=Sy.Yields.mk fun A w ok d pos af g=>by
 have h1:=run_neq_struct (P:=Tryz.prog) w 110 a.cells.toArray b.cells.toArray
 rw [qQ w a b] at h1
 simp [execOp,ok.eval (st:=st) hx,ok.eval (st:=st) hy,run_eqGuard_agg _ _ _ _ _ _ _ np,h1]
structure SameC (a b:Xd):Prop where
 id:a.id=b.id
 prev:a.prev=b.prev
 gen:a.gen=b.gen
 fork:a.fork=b.fork
 acts:b.actsL.map Xa.can=a.actsL.map Xa.can
end Go.Proofs.YtggionfjlgfihaaGreatDoor
