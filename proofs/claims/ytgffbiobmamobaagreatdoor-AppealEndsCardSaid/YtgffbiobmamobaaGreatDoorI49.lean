/- Joined. -/
import Derived.Test.YtgffbiobmamobaaGreatDoorI0
import Derived.Test.YtgffbiobmamobaaGreatDoorI1
import Derived.Test.YtgffbiobmamobaaGreatDoorI31
import Derived.Test.YtgffbiobmamobaaGreatDoorI9
import Derived.Test.YtgffbiobmamobaaGreatDoorI2
import Derived.Test.YtgffbiobmamobaaGreatDoorI36
set_option linter.unusedVariables false
set_option linter.unusedSimpArgs false
set_option maxHeartbeats 16000000
namespace Go.Proofs.YtgffbiobmamobaaGreatDoor
open Go Go.Proofs Sy
theorem uB {P:Program} {f:FuncId} {fn:Func} {c:Code} {args:List Value} {pre:List Xl} {X:World→Prop} {Post:Value→List Xl→(World→Prop)→Prop} (N:Nat)
  (hf:P.funcs[f]?=some fn) (hb:fn.body=some c) (hN:fn.ntmps=N) (hn:Nat.ble args.length N=true)
  (h:∀ av bor w0,Cw P N av bor w0 c ⟨params 0 args,pre,X⟩ (ends P fn N fun u R X'=>∃ R',R'.Sublist R∧Post u R' X')):Ct P f args.toArray pre X Post:=Ct.mk fun w av G=>by
 have h1:=(gz (P:=P) (Post:=fun u R X'=>∃ R',R'.Sublist R∧Post u R' X') N hf hb hN hn h).run w av G
 refine h1.mono fun e w' ⟨u,R,X',he,⟨R',hs,hp⟩,G'⟩=>⟨u,R',X',he,hp,G'.drop hs⟩
theorem fg {P:Program} {f:FuncId} {args:Array Value} {X X1:World→Prop} {Φ:Value→(World→Prop)→Prop} (r:Xl) (h:Mk P f args X Φ) (hx:∀ w,X1 w→X w):Ct P f args [r] X1 (fun u R X'=>R=[r]∧Φ u X'):=Ct.mk fun w av G=>by
 have h0:Ct P f args [] X fun u R X'=>Φ u X'∧R=[]:=by unfold Mk at h;exact h
 have G0:=Xr.start (pre:=[]) (fr:=[r]) G
 refine (h0.run w _ (G0.imp hx)).mono fun e w' ⟨u,R,X',he,⟨hp,hR⟩,G'⟩=>?_
 subst hR
 have G2:=Xr.frame (pre:=[]) (fr:=[r]) (R:=[]) (X:=X1) G (G'.imp fun _ h=>h)
 exact ⟨u,[r],X',he,⟨rfl,hp⟩,G2.imp fun _ h=>h.2⟩
def decO (p1 n p2 p3:Nat) (k:Int) (x:ByteArray):Xf:=⟨(p1:Int),(n:Int),k,⟨#[]⟩,x,⟨#[]⟩,⟨none,0,0⟩,0,(p2:Int),(p2:Int)+1+(p3:Int),0,0,[]⟩
end Go.Proofs.YtgffbiobmamobaaGreatDoor
