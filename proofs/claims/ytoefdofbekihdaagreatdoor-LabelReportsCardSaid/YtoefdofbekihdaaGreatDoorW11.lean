/- Joined by program out of: Ul Um Un Uo Up Ur Va Zp Zq Zr Zs Jt. -/
import Derived.Test.YtoefdofbekihdaaGreatDoorW10
set_option linter.unusedVariables false
set_option linter.unusedSimpArgs false
set_option maxHeartbeats 16000000
namespace Go.Proofs.YtoefdofbekihdaaGreatDoor
open Go Go.Proofs Sy
theorem zS:seqB (⟨#[]⟩:ByteArray) ⟨#[]⟩=true:=by kernel_rfl
theorem zB:boxEq BoxD.zero BoxD.zero=true:=by kernel_rfl
theorem zI:decide ((0:Int)=0)=true:=rfl
theorem zN:decide (((0:Nat):Int)=0)=true:=rfl
theorem lS:Nat.testBit 1 0=true:=by decide +kernel
theorem lR:Nat.testBit 1 1=false:=by decide +kernel
theorem lQ:Nat.testBit 1 2=false:=by decide +kernel
theorem lP:Nat.testBit 1 3=false:=by decide +kernel
theorem lO:Nat.testBit 1 4=false:=by decide +kernel
theorem lN:Nat.testBit 1 5=false:=by decide +kernel
theorem lM:Nat.testBit 1 6=false:=by decide +kernel
theorem lL:Nat.testBit 1 7=false:=by decide +kernel
theorem lK:Nat.testBit 1 8=false:=by decide +kernel
theorem lJ:Nat.testBit 1 9=false:=by decide +kernel
theorem iG:Nat.testBit 1 10=false:=by decide +kernel
theorem lw:Nat.testBit 2 0=false:=by decide +kernel
theorem lv:Nat.testBit 2 1=true:=by decide +kernel
theorem lu:Nat.testBit 2 2=false:=by decide +kernel
theorem ls:Nat.testBit 2 3=false:=by decide +kernel
theorem lr:Nat.testBit 2 4=false:=by decide +kernel
theorem lq:Nat.testBit 2 5=false:=by decide +kernel
theorem lp:Nat.testBit 2 6=false:=by decide +kernel
theorem ln:Nat.testBit 2 7=false:=by decide +kernel
theorem lm:Nat.testBit 2 8=false:=by decide +kernel
theorem ll:Nat.testBit 2 9=false:=by decide +kernel
theorem iF:Nat.testBit 2 10=false:=by decide +kernel
theorem B6:Nat.testBit 24 0=false:=by decide +kernel
theorem B5:Nat.testBit 24 1=false:=by decide +kernel
theorem B4:Nat.testBit 24 2=false:=by decide +kernel
theorem B3:Nat.testBit 24 3=true:=by decide +kernel
theorem B2:Nat.testBit 24 4=true:=by decide +kernel
theorem B1:Nat.testBit 24 5=false:=by decide +kernel
theorem B0:Nat.testBit 24 6=false:=by decide +kernel
theorem BZ:Nat.testBit 24 7=false:=by decide +kernel
theorem BY:Nat.testBit 24 8=false:=by decide +kernel
theorem BX:Nat.testBit 24 9=false:=by decide +kernel
theorem zg:Nat.testBit 24 10=false:=by decide +kernel
theorem ut:Nat.testBit 33 0=true:=by decide +kernel
theorem ur:Nat.testBit 33 1=false:=by decide +kernel
theorem uq:Nat.testBit 33 2=false:=by decide +kernel
theorem up:Nat.testBit 33 3=false:=by decide +kernel
theorem uo:Nat.testBit 33 4=false:=by decide +kernel
theorem un:Nat.testBit 33 5=true:=by decide +kernel
theorem um:Nat.testBit 33 6=false:=by decide +kernel
theorem ul:Nat.testBit 33 7=false:=by decide +kernel
theorem uk:Nat.testBit 33 8=false:=by decide +kernel
theorem uj:Nat.testBit 33 9=false:=by decide +kernel
theorem qb:Nat.testBit 33 10=false:=by decide +kernel
theorem BW:Nat.testBit 35 0=true:=by decide +kernel
theorem BV:Nat.testBit 35 1=true:=by decide +kernel
theorem BU:Nat.testBit 35 2=false:=by decide +kernel
theorem BT:Nat.testBit 35 3=false:=by decide +kernel
theorem BS:Nat.testBit 35 4=false:=by decide +kernel
theorem BR:Nat.testBit 35 5=true:=by decide +kernel
theorem BQ:Nat.testBit 35 6=false:=by decide +kernel
theorem BP:Nat.testBit 35 7=false:=by decide +kernel
theorem BO:Nat.testBit 35 8=false:=by decide +kernel
theorem BN:Nat.testBit 35 9=false:=by decide +kernel
theorem yU:Nat.testBit 35 10=false:=by decide +kernel
theorem zf:Nat.testBit 252 0=false:=by decide +kernel
theorem ze:Nat.testBit 252 1=false:=by decide +kernel
theorem zc:Nat.testBit 252 2=true:=by decide +kernel
theorem zb:Nat.testBit 252 3=true:=by decide +kernel
theorem za:Nat.testBit 252 4=true:=by decide +kernel
theorem yZ:Nat.testBit 252 5=true:=by decide +kernel
theorem yY:Nat.testBit 252 6=true:=by decide +kernel
theorem yX:Nat.testBit 252 7=true:=by decide +kernel
theorem yW:Nat.testBit 252 8=false:=by decide +kernel
theorem yV:Nat.testBit 252 9=false:=by decide +kernel
theorem vv:Nat.testBit 252 10=false:=by decide +kernel
theorem lI:Nat.testBit 253 0=true:=by decide +kernel
theorem lH:Nat.testBit 253 1=false:=by decide +kernel
theorem lG:Nat.testBit 253 2=true:=by decide +kernel
theorem lF:Nat.testBit 253 3=true:=by decide +kernel
theorem lE:Nat.testBit 253 4=true:=by decide +kernel
theorem lD:Nat.testBit 253 5=true:=by decide +kernel
theorem lC:Nat.testBit 253 6=true:=by decide +kernel
theorem lB:Nat.testBit 253 7=true:=by decide +kernel
theorem lA:Nat.testBit 253 8=false:=by decide +kernel
theorem lz:Nat.testBit 253 9=false:=by decide +kernel
theorem jD:Nat.testBit 253 10=false:=by decide +kernel
theorem yT:Nat.testBit 412 0=false:=by decide +kernel
theorem yS:Nat.testBit 412 1=false:=by decide +kernel
theorem yR:Nat.testBit 412 2=true:=by decide +kernel
theorem yQ:Nat.testBit 412 3=true:=by decide +kernel
theorem yP:Nat.testBit 412 4=true:=by decide +kernel
theorem yO:Nat.testBit 412 5=false:=by decide +kernel
theorem yN:Nat.testBit 412 6=false:=by decide +kernel
theorem yM:Nat.testBit 412 7=true:=by decide +kernel
theorem yL:Nat.testBit 412 8=true:=by decide +kernel
theorem yK:Nat.testBit 412 9=false:=by decide +kernel
theorem vu:Nat.testBit 412 10=false:=by decide +kernel
theorem yJ:Nat.testBit 513 0=true:=by decide +kernel
theorem yI:Nat.testBit 513 1=false:=by decide +kernel
theorem yH:Nat.testBit 513 2=false:=by decide +kernel
theorem yG:Nat.testBit 513 3=false:=by decide +kernel
theorem yF:Nat.testBit 513 4=false:=by decide +kernel
theorem yE:Nat.testBit 513 5=false:=by decide +kernel
theorem yD:Nat.testBit 513 6=false:=by decide +kernel
theorem yC:Nat.testBit 513 7=false:=by decide +kernel
theorem yB:Nat.testBit 513 8=false:=by decide +kernel
theorem yA:Nat.testBit 513 9=true:=by decide +kernel
theorem vt:Nat.testBit 513 10=false:=by decide +kernel
theorem yz:Nat.testBit 546 0=false:=by decide +kernel
theorem yy:Nat.testBit 546 1=true:=by decide +kernel
theorem yx:Nat.testBit 546 2=false:=by decide +kernel
theorem yw:Nat.testBit 546 3=false:=by decide +kernel
theorem yv:Nat.testBit 546 4=false:=by decide +kernel
theorem yu:Nat.testBit 546 5=true:=by decide +kernel
theorem yt:Nat.testBit 546 6=false:=by decide +kernel
theorem yr:Nat.testBit 546 7=false:=by decide +kernel
theorem yq:Nat.testBit 546 8=false:=by decide +kernel
theorem yo:Nat.testBit 546 9=true:=by decide +kernel
theorem vr:Nat.testBit 546 10=false:=by decide +kernel
theorem v8:Nat.testBit 1536 0=false:=by decide +kernel
theorem vZ:Nat.testBit 1536 1=false:=by decide +kernel
theorem vY:Nat.testBit 1536 2=false:=by decide +kernel
theorem vX:Nat.testBit 1536 3=false:=by decide +kernel
theorem vW:Nat.testBit 1536 4=false:=by decide +kernel
theorem vV:Nat.testBit 1536 5=false:=by decide +kernel
theorem vU:Nat.testBit 1536 6=false:=by decide +kernel
theorem vT:Nat.testBit 1536 7=false:=by decide +kernel
theorem vS:Nat.testBit 1536 8=false:=by decide +kernel
theorem vR:Nat.testBit 1536 9=true:=by decide +kernel
theorem sD:Nat.testBit 1536 10=true:=by decide +kernel
theorem vQ:Nat.testBit 1568 0=false:=by decide +kernel
theorem vP:Nat.testBit 1568 1=false:=by decide +kernel
theorem vO:Nat.testBit 1568 2=false:=by decide +kernel
theorem vN:Nat.testBit 1568 3=false:=by decide +kernel
theorem vM:Nat.testBit 1568 4=false:=by decide +kernel
theorem vL:Nat.testBit 1568 5=true:=by decide +kernel
theorem vK:Nat.testBit 1568 6=false:=by decide +kernel
theorem vJ:Nat.testBit 1568 7=false:=by decide +kernel
theorem vI:Nat.testBit 1568 8=false:=by decide +kernel
theorem vH:Nat.testBit 1568 9=true:=by decide +kernel
theorem sC:Nat.testBit 1568 10=true:=by decide +kernel
theorem vG:Nat.testBit 1808 0=false:=by decide +kernel
theorem vF:Nat.testBit 1808 1=false:=by decide +kernel
theorem vE:Nat.testBit 1808 2=false:=by decide +kernel
theorem vD:Nat.testBit 1808 3=false:=by decide +kernel
theorem vC:Nat.testBit 1808 4=true:=by decide +kernel
theorem vB:Nat.testBit 1808 5=false:=by decide +kernel
theorem vA:Nat.testBit 1808 6=false:=by decide +kernel
theorem vz:Nat.testBit 1808 7=false:=by decide +kernel
theorem vy:Nat.testBit 1808 8=true:=by decide +kernel
theorem vw:Nat.testBit 1808 9=true:=by decide +kernel
theorem sB:Nat.testBit 1808 10=true:=by decide +kernel
theorem E9 {a:ActD} (h:a.kind=0):fitsR a=ruleB a:=by
 rw [EL h,fitsR,h,D5,uO]
 simp only [zeroR,bareA,maskB,zS,zB,zI,zN,vQ,vP,vO,vN,vM,vL,vK,vJ,vI,vH,sC,ZD,ZE,ZJ,ZF,rule1B,rule2B,rule3B,rule4B,rule5B,rule6B,objectB,targetB,homeB,isDigestB,isShortB,withinB,lt20,grantB,setupB,aN]
 ac_rfl
theorem E8 {a:ActD} (h:a.kind=1):fitsR a=ruleB a:=by
 rw [EK h,fitsR,h,D4,uN]
 simp only [zeroR,bareA,maskB,zS,zB,zI,zN,zf,ze,zc,zb,za,yZ,yY,yX,yW,yV,vv,ZD,ZE,ZJ,ZF,rule1B,rule2B,rule3B,rule4B,rule5B,rule6B,objectB,targetB,homeB,isDigestB,isShortB,withinB,lt20,grantB,setupB,aN]
 ac_rfl
theorem E7 {a:ActD} (h:a.kind=2):fitsR a=ruleB a:=by
 rw [EJ h,fitsR,h,D3,uM]
 simp only [zeroR,bareA,maskB,zS,zB,zI,zN,lI,lH,lG,lF,lE,lD,lC,lB,lA,lz,jD,ZD,ZE,ZJ,ZF,rule1B,rule2B,rule3B,rule4B,rule5B,rule6B,objectB,targetB,homeB,isDigestB,isShortB,withinB,lt20,grantB,setupB,aN]
 ac_rfl
theorem E6 {a:ActD} (h:a.kind=3):fitsR a=ruleB a:=by
 rw [EI h,fitsR,h,D1,uL]
 simp only [zeroR,bareA,maskB,zS,zB,zI,zN,lI,lH,lG,lF,lE,lD,lC,lB,lA,lz,jD,ZD,ZE,ZJ,ZF,rule1B,rule2B,rule3B,rule4B,rule5B,rule6B,objectB,targetB,homeB,isDigestB,isShortB,withinB,lt20,grantB,setupB,aN]
 ac_rfl
theorem E5 {a:ActD} (h:a.kind=4):fitsR a=ruleB a:=by
 rw [EH h,fitsR,h,DZ,uK]
 simp only [zeroR,bareA,maskB,zS,zB,zI,zN,lS,lR,lQ,lP,lO,lN,lM,lL,lK,lJ,iG,ZD,ZE,ZJ,ZF,rule1B,rule2B,rule3B,rule4B,rule5B,rule6B,objectB,targetB,homeB,isDigestB,isShortB,withinB,lt20,grantB,setupB,aN]
 ac_rfl
theorem E4 {a:ActD} (h:a.kind=5):fitsR a=ruleB a:=by
 rw [EG h,fitsR,h,DY,uJ]
 simp only [zeroR,bareA,maskB,zS,zB,zI,zN,lS,lR,lQ,lP,lO,lN,lM,lL,lK,lJ,iG,ZD,ZE,ZJ,ZF,rule1B,rule2B,rule3B,rule4B,rule5B,rule6B,objectB,targetB,homeB,isDigestB,isShortB,withinB,lt20,grantB,setupB,aN]
 ac_rfl
theorem E3 {a:ActD} (h:a.kind=6):fitsR a=ruleB a:=by
 rw [EF h,fitsR,h,DX,uI]
 simp only [zeroR,bareA,maskB,zS,zB,zI,zN,lS,lR,lQ,lP,lO,lN,lM,lL,lK,lJ,iG,ZD,ZE,ZJ,ZF,rule1B,rule2B,rule3B,rule4B,rule5B,rule6B,objectB,targetB,homeB,isDigestB,isShortB,withinB,lt20,grantB,setupB,aN]
 ac_rfl
theorem E2 {a:ActD} (h:a.kind=7):fitsR a=ruleB a:=by
 rw [EE h,fitsR,h,DW,uH]
 simp only [zeroR,bareA,maskB,zS,zB,zI,zN,lw,lv,lu,ls,lr,lq,lp,ln,lm,ll,iF,ZD,ZE,ZJ,ZF,rule1B,rule2B,rule3B,rule4B,rule5B,rule6B,objectB,targetB,homeB,isDigestB,isShortB,withinB,lt20,grantB,setupB,aN]
 ac_rfl
theorem E1 {a:ActD} (h:a.kind=8):fitsR a=ruleB a:=by
 rw [ED h,fitsR,h,DV,uG]
 simp only [zeroR,bareA,maskB,zS,zB,zI,zN,lw,lv,lu,ls,lr,lq,lp,ln,lm,ll,iF,ZD,ZE,ZJ,ZF,rule1B,rule2B,rule3B,rule4B,rule5B,rule6B,objectB,targetB,homeB,isDigestB,isShortB,withinB,lt20,grantB,setupB,aN]
 ac_rfl
theorem E0 {a:ActD} (h:a.kind=9):fitsR a=ruleB a:=by
 rw [EC h,fitsR,h,DU,uF]
 simp only [zeroR,bareA,maskB,zS,zB,zI,zN,lw,lv,lu,ls,lr,lq,lp,ln,lm,ll,iF,ZD,ZE,ZJ,ZF,rule1B,rule2B,rule3B,rule4B,rule5B,rule6B,objectB,targetB,homeB,isDigestB,isShortB,withinB,lt20,grantB,setupB,aN]
 ac_rfl
theorem Dq {a:ActD} (h:a.kind=10):fitsR a=ruleB a:=by
 rw [CG h,fitsR,h,An,qL]
 simp only [zeroR,bareA,maskB,zS,zB,zI,zN,lw,lv,lu,ls,lr,lq,lp,ln,lm,ll,iF,ZD,ZE,ZJ,ZF,rule1B,rule2B,rule3B,rule4B,rule5B,rule6B,objectB,targetB,homeB,isDigestB,isShortB,withinB,lt20,grantB,setupB,aN]
 ac_rfl
theorem Dp {a:ActD} (h:a.kind=11):fitsR a=ruleB a:=by
 rw [CF h,fitsR,h,Am,qK]
 simp only [zeroR,bareA,maskB,zS,zB,zI,zN,lw,lv,lu,ls,lr,lq,lp,ln,lm,ll,iF,ZD,ZE,ZJ,ZF,rule1B,rule2B,rule3B,rule4B,rule5B,rule6B,objectB,targetB,homeB,isDigestB,isShortB,withinB,lt20,grantB,setupB,aN]
 ac_rfl
theorem Do {a:ActD} (h:a.kind=12):fitsR a=ruleB a:=by
 rw [CE h,fitsR,h,Al,qJ]
 simp only [zeroR,bareA,maskB,zS,zB,zI,zN,ut,ur,uq,up,uo,un,um,ul,uk,uj,qb,ZD,ZE,ZJ,ZF,rule1B,rule2B,rule3B,rule4B,rule5B,rule6B,objectB,targetB,homeB,isDigestB,isShortB,withinB,lt20,grantB,setupB,aN]
 ac_rfl
theorem Dn {a:ActD} (h:a.kind=13):fitsR a=ruleB a:=by
 rw [CD h,fitsR,h,Ak,qI]
 simp only [zeroR,bareA,maskB,zS,zB,zI,zN,lS,lR,lQ,lP,lO,lN,lM,lL,lK,lJ,iG,ZD,ZE,ZJ,ZF,rule1B,rule2B,rule3B,rule4B,rule5B,rule6B,objectB,targetB,homeB,isDigestB,isShortB,withinB,lt20,grantB,setupB,aN]
 ac_rfl
theorem Dm {a:ActD} (h:a.kind=14):fitsR a=ruleB a:=by
 rw [CC h,fitsR,h,Aj,qH]
 simp only [zeroR,bareA,maskB,zS,zB,zI,zN,lI,lH,lG,lF,lE,lD,lC,lB,lA,lz,jD,ZD,ZE,ZJ,ZF,rule1B,rule2B,rule3B,rule4B,rule5B,rule6B,objectB,targetB,homeB,isDigestB,isShortB,withinB,lt20,grantB,setupB,aN]
 ac_rfl
theorem Dl {a:ActD} (h:a.kind=15):fitsR a=ruleB a:=by
 rw [CB h,fitsR,h,Ai,qG]
 simp only [zeroR,bareA,maskB,zS,zB,zI,zN,B6,B5,B4,B3,B2,B1,B0,BZ,BY,BX,zg,ZD,ZE,ZJ,ZF,rule1B,rule2B,rule3B,rule4B,rule5B,rule6B,objectB,targetB,homeB,isDigestB,isShortB,withinB,lt20,grantB,setupB,aN]
 ac_rfl
theorem Dk {a:ActD} (h:a.kind=16):fitsR a=ruleB a:=by
 rw [CA h,fitsR,h,Ag,qF]
 simp only [zeroR,bareA,maskB,zS,zB,zI,zN,yT,yS,yR,yQ,yP,yO,yN,yM,yL,yK,vu,ZD,ZE,ZJ,ZF,rule1B,rule2B,rule3B,rule4B,rule5B,rule6B,objectB,targetB,homeB,isDigestB,isShortB,withinB,lt20,grantB,setupB,aN]
 ac_rfl
theorem Dj {a:ActD} (h:a.kind=17):fitsR a=ruleB a:=by
 rw [Cz h,fitsR,h,Af,qE]
 simp only [zeroR,bareA,maskB,zS,zB,zI,zN,BW,BV,BU,BT,BS,BR,BQ,BP,BO,BN,yU,ZD,ZE,ZJ,ZF,rule1B,rule2B,rule3B,rule4B,rule5B,rule6B,objectB,targetB,homeB,isDigestB,isShortB,withinB,lt20,grantB,setupB,aN]
 rw [labelB,objectB,targetB,isDigestB]
 cases hz:seqB a.object ⟨#[]⟩ with
 | true =>
  rw [tJ _ hz]
  cases isName a.text<;>simp [Bool.and_comm,Bool.and_assoc]
 | false=>cases isName a.text<;>cases decide ((a.object.size:Int)=32)<;>cases seqB a.target ⟨#[]⟩<;>simp [Bool.and_comm,Bool.and_assoc]
theorem Di {a:ActD} (h:a.kind=18):fitsR a=ruleB a:=by
 rw [Cy h,fitsR,h,Ae,qD]
 simp only [zeroR,bareA,maskB,zS,zB,zI,zN,v8,vZ,vY,vX,vW,vV,vU,vT,vS,vR,sD,ZD,ZE,ZJ,ZF,rule1B,rule2B,rule3B,rule4B,rule5B,rule6B,objectB,targetB,homeB,isDigestB,isShortB,withinB,lt20,grantB,setupB,aN]
 ac_rfl
theorem Dg {a:ActD} (h:a.kind=19):fitsR a=ruleB a:=by
 rw [Cx h,fitsR,h,Ad,qC]
 simp only [zeroR,bareA,maskB,zS,zB,zI,zN,vG,vF,vE,vD,vC,vB,vA,vz,vy,vw,sB,ZD,ZE,ZJ,ZF,rule1B,rule2B,rule3B,rule4B,rule5B,rule6B,objectB,targetB,homeB,isDigestB,isShortB,withinB,lt20,grantB,setupB,aN]
 ac_rfl
theorem De {a:ActD} (h:a.kind=20):fitsR a=ruleB a:=by
 rw [Cv h,fitsR,h,Ac,qB]
 simp only [zeroR,bareA,maskB,zS,zB,zI,zN,lS,lR,lQ,lP,lO,lN,lM,lL,lK,lJ,iG,ZD,ZE,ZJ,ZF,rule1B,rule2B,rule3B,rule4B,rule5B,rule6B,objectB,targetB,homeB,isDigestB,isShortB,withinB,lt20,grantB,setupB,aN]
 ac_rfl
theorem Dd {a:ActD} (h:a.kind=21):fitsR a=ruleB a:=by
 rw [Cu h,fitsR,h,Ab,qA]
 simp only [zeroR,bareA,maskB,zS,zB,zI,zN,ut,ur,uq,up,uo,un,um,ul,uk,uj,qb,ZD,ZE,ZJ,ZF,rule1B,rule2B,rule3B,rule4B,rule5B,rule6B,objectB,targetB,homeB,isDigestB,isShortB,withinB,lt20,grantB,setupB,aN]
 ac_rfl
theorem Dc {a:ActD} (h:a.kind=22):fitsR a=ruleB a:=by
 rw [Cs h,fitsR,h,Aa,qz]
 simp only [zeroR,bareA,maskB,zS,zB,zI,zN,yJ,yI,yH,yG,yF,yE,yD,yC,yB,yA,vt,ZD,ZE,ZJ,ZF,rule1B,rule2B,rule3B,rule4B,rule5B,rule6B,objectB,targetB,homeB,isDigestB,isShortB,withinB,lt20,grantB,setupB,aN]
 ac_rfl
theorem Db {a:ActD} (h:a.kind=23):fitsR a=ruleB a:=by
 rw [Cq h,fitsR,h,zZ,qy]
 simp only [zeroR,bareA,maskB,zS,zB,zI,zN,yz,yy,yx,yw,yv,yu,yt,yr,yq,yo,vr,ZD,ZE,ZJ,ZF,rule1B,rule2B,rule3B,rule4B,rule5B,rule6B,objectB,targetB,homeB,isDigestB,isShortB,withinB,lt20,grantB,setupB,aN]
 ac_rfl
theorem Da (a:ActD):fitsR a=ruleB a:=by
 by_cases hk:0≤a.kind∧a.kind≤23
 · rcases oe hk with h|h|h|h|h|h|h|h|h|h|h|h|h|h|h|h|h|h|h|h|h|h|h|h
   · exact E9 h
   · exact E8 h
   · exact E7 h
   · exact E6 h
   · exact E5 h
   · exact E4 h
   · exact E3 h
   · exact E2 h
   · exact E1 h
   · exact E0 h
   · exact Dq h
   · exact Dp h
   · exact Do h
   · exact Dn h
   · exact Dm h
   · exact Dl h
   · exact Dk h
   · exact Dj h
   · exact Di h
   · exact Dg h
   · exact De h
   · exact Dd h
   · exact Dc h
   · exact Db h
 · rw [wD hk,fitsR,q6 hk,ZG]
def numsR (a:ActD):Bool:=!isId a.author||(decide (a.seq<0)||(decide (1073741824<a.seq)||(decide (a.time<0)||(decide (1099511627776<a.time)||(decide (a.e<0)||(decide (2305843009213693950≤a.e)||(decide (a.s<0)||decide (2305843009213693950≤a.s))))))))
def seqR (a:ActD):Bool:=decide (a.seq=0)&&(!seqB a.prev ⟨#[]⟩||!decide (a.kind=0))||decide (0<a.seq)&&(!decide ((a.prev.size:Int)=32)||decide (a.kind=0))
theorem dnot {p q:Prop} [Decidable p] [Decidable q] (h:p↔¬ q):decide p=!decide q:=by rw [←decide_not];exact decide_eq_decide.2 h
theorem zM (a:ActD):(bif numsR a then false else bif seqR a then false else fitsR a)=rightB a:=by
 rw [Da,rightB,numsR,seqR,placedB,withinB,withinB,withinB,withinB,isDigestB]
 rw [dnot (p:=a.seq<0) (q:=0≤a.seq) aa,dnot (p:=1073741824<a.seq) (q:=a.seq≤1073741824) aa,dnot (p:=a.time<0) (q:=0≤a.time) aa,dnot (p:=1099511627776<a.time) (q:=a.time≤1099511627776) aa,
  dnot (p:=a.e<0) (q:=0≤a.e) aa,dnot (p:=2305843009213693950≤a.e) (q:=a.e≤2305843009213693949) aa,dnot (p:=a.s<0) (q:=0≤a.s) aa,dnot (p:=2305843009213693950≤a.s) (q:=a.s≤2305843009213693949) (by omega)]
 cases isId a.author
 · rfl
 cases decide (0≤a.time)
 · cases decide (0≤a.seq)<;>cases decide (a.seq≤1073741824)<;>simp
 cases decide (a.time≤1099511627776)
 · cases decide (0≤a.seq)<;>cases decide (a.seq≤1073741824)<;>simp
 cases decide (0≤a.e)
 · cases decide (0≤a.seq)<;>cases decide (a.seq≤1073741824)<;>simp
 cases decide (a.e≤2305843009213693949)
 · cases decide (0≤a.seq)<;>cases decide (a.seq≤1073741824)<;>simp
 cases decide (0≤a.s)
 · cases decide (0≤a.seq)<;>cases decide (a.seq≤1073741824)<;>simp
 cases decide (a.s≤2305843009213693949)
 · cases decide (0≤a.seq)<;>cases decide (a.seq≤1073741824)<;>simp
 by_cases h0:a.seq=0
 · rw [h0]
   cases seqB a.prev ⟨#[]⟩<;>cases decide (a.kind=0)<;>simp
 by_cases h1:0<a.seq
 · rw [Zn h0,ZA h1,ZA (show 0≤a.seq by omega),ZA (show 1≤a.seq by omega)]
   cases decide (a.seq≤1073741824)<;>cases decide ((a.prev.size:Int)=32)<;>cases decide (a.kind=0)<;>simp
 · rw [Zn h0,Zn (show ¬ 0≤a.seq by omega),Zn (show ¬ 1≤a.seq by omega)]
   simp
set_option maxRecDepth 8000 in
set_option maxHeartbeats 8000000 in
theorem kg (a:ActD) (hs:a.Str):Pu Tryz.prog 78 #[a.v] (ActD.at_ · a) (.bool (rightB a)):=by
 refine ak (args:=[_]) _ Tryz.func78 rfl Tryz.ntmps78 rfl fun av bor w0=>?_
 rw [←zM]
 have c1:=fS a.author hs.author
 have c2:=ta a hs
 repeat' (first|(refine ab (hc:=c1) (hX:=fun _ _=>trivial) ?_)|(refine ab (hc:=c2) (hX:=fun w h=>h) ?_)|refine gs ?_|refine gs1 fun _=>?_|(refine gp ?_ ?_<;>intro hx_ this)|fail)
 all_goals refine ad (ag rfl rfl) ?_
 all_goals first
  | rfl
  | (simp only [numsR,seqR, *,ZQ,ZO,ZC,ZB,ZE,ZD,ZH,ZG,ZK,ZI,ZP,ZJ,ZN,ZF];done)
  | (simp_all [numsR,seqR];done)
  | (simp_all [numsR,seqR];intros;omega)
  | skip
theorem nT (b:BoxD) (hb:b.Fit):Pu Tryz.prog 225 #[b.v] (fun _=>True) (.string (boxV b)):=by
 refine ak (args:=[_]) _ Tryz.func225 rfl Tryz.ntmps225 rfl fun av bor w0=>?_
 have h1:=ax b.nonce
 have h2:=ax b.data
 have h3:=ax b.tag
 have k1:=hb.nonce
 have k2:=hb.data
 have k3:=hb.tag
 repeat' (first|refine gs ?_|refine gs1 fun _=>?_|(refine gp ?_ ?_<;>intro hx_ this)|fail)
 (refine aR ⟨[0,1,3,4,7,8],[(2,⟨[],[(5,⟨[6],[(9,⟨[10,11],[]⟩)]⟩)]⟩)]⟩ (h:=?_))
 all_goals repeat' (first|refine ab (hc:=cY _ aa) ?_|refine gd ?_|refine ay (hy:=by first|(apply dr;rfl;rfl;(try simp only [Zl]);omega)) ?_|refine az ?_ (h':=?_)|exact aA|refine gs1 fun _=>?_|(refine gq ?_ ?_<;>intro hx_ this)|fail)
 repeat' (first|refine gs ?_|refine gs1 fun _=>?_|(refine gp ?_ ?_<;>intro hx_ this)|fail)
 all_goals exact ad (ag rfl rfl) rfl
theorem ya {w:World} {p:Option Addr} {q:Nat} {x:WrapD} (h:∀ j u,x.cells[j]?=some u→CellAt w p (q+j) u):∀ j u,x.box.cells[j]?=some u→CellAt w p (q+2+j) u:=fun j u hj=>by
 have h1:=h (j+2) u hj
 rw [show q+2+j=q+(j+2) from by omega]
 exact h1
set_option maxRecDepth 8000 in
set_option maxHeartbeats 8000000 in
theorem tc (a:ActD) (hs:a.Str) (ha:rightB a=true→a.Fit):Pu Tryz.prog 154 #[a.v] (ActD.at_ · a) (.string (actCore a)):=by
 have hri:=kg a hs
 rw [actCore]
 cases hrB:rightB a with
 | false =>
  rw [hrB] at hri
  refine ak (args:=[_]) _ Tryz.func154 rfl Tryz.ntmps154 rfl fun av bor w0=>?_
  repeat' (first|(refine ab (hc:=hri) (hX:=fun w h=>h) ?_)|refine gs ?_|refine gs1 fun _=>?_|(refine gp ?_ ?_<;>intro hx_ this)|fail)
  exact ad (ag rfl rfl) rfl
 | true =>
 rw [hrB] at hri
 replace ha:=ha hrB
 refine ak (args:=[_]) _ Tryz.func154 rfl Tryz.ntmps154 rfl fun av bor w0=>?_
 refine aO (p:=a.wraps.n=a.wrapsL.length∧a.wraps.n≤maxLen∧(0<a.wrapsL.length→a.wraps.p.isSome=true)) (fun w h=>⟨h.2.len_,Qr (RowsD.cap h.2) (RowsD.max h.2),h.2.some_⟩) fun ⟨hl,hm,hp⟩=>?_
 simp only [maxLen] at hm
 obtain ⟨i1,i2,i3,i4,i5,i6,i7,i8,i9⟩:=ha.ints
 have s1:=ax a.author
 have s2:=ax a.prev
 have s3:=ax a.object
 have s4:=ax a.target
 have s5:=ax a.group
 have s6:=ax a.text
 have s7:=ax ⟨#[97,99,116]⟩
 have s8:=fU ha.body
 have h1:=ha.author
 have h2:=ha.prev
 have h3:=ha.object
 have h4:=ha.target
 have h5:=ha.group
 have h6:=ha.text
 have h7:=ha.to
 have h8:(⟨#[97,99,116]⟩:ByteArray).size=3:=rfl
 have n1:=ao a.seq
 have n2:=ao a.kind
 have n3:=ao a.time
 have n4:=ao a.scope
 have n5:=ao a.epoch
 have n6:=ao a.wraps.n
 have n7:=ao a.n
 have n8:=ao a.m
 repeat' (first|(refine ab (hc:=hri) (hX:=fun w h=>h) ?_)|refine gs ?_|refine gs1 fun _=>?_|(refine gp ?_ ?_<;>intro hx_ this)|fail)
 (refine aR ⟨[1,2,5,6,9,10,13,14,17,18],[(0,⟨[],[(3,⟨[4],[(7,⟨[8],[(11,⟨[12],[(15,⟨[16],[(19,⟨[20,21],[]⟩)]⟩)]⟩)]⟩)]⟩)]⟩)]⟩ (h:=?_))
 all_goals repeat' (first|refine ab (hc:=ci _ aa) ?_|refine ab (hc:=cY _ aa) ?_|refine gd ?_|refine ay (hy:=by first|(apply dr;rfl;rfl;(try simp only [Zl]);omega)) ?_|refine az ?_ (h':=?_)|exact aA|refine gs1 fun _=>?_|(refine gq ?_ ?_<;>intro hx_ this)|fail)
 repeat' (first|refine gs ?_|refine gs1 fun _=>?_|(refine gp ?_ ?_<;>intro hx_ this)|fail)
 (refine aR ⟨[0,1,2,5,6,9,10,13,14,17,18,21,22],[(3,⟨[4],[(7,⟨[8],[(11,⟨[12],[(15,⟨[16],[(19,⟨[20],[(23,⟨[24,25],[]⟩)]⟩)]⟩)]⟩)]⟩)]⟩)]⟩ (h:=?_))
 all_goals repeat' (first|refine ab (hc:=ci _ aa) ?_|refine ab (hc:=cY _ aa) ?_|refine ab (hc:=md a.to a.toL aa) ?_|refine gd ?_|refine ay (hy:=by first|(apply dr;rfl;rfl;(try simp only [Zl]);omega)) ?_|refine az ?_ (h':=?_)|exact aA|refine gs1 fun _=>?_|(refine gq ?_ ?_<;>intro hx_ this)|fail)
 repeat' (first|refine gs ?_|refine gs1 fun _=>?_|(refine gp ?_ ?_<;>intro hx_ this)|fail)
 (refine aR ⟨[0,1,2,5,6,9,10,11],[(3,⟨[4],[(7,⟨[8],[(12,⟨[13,14],[]⟩)]⟩)]⟩)]⟩ (h:=?_))
 all_goals repeat' (first|refine ab (hc:=ci _ aa) ?_|refine ab (hc:=nT a.body ha.body) ?_|refine gd ?_|refine ay (hy:=by first|(apply cr;rfl;(repeat (first|exact ar|apply ZS));exact ActD.cells_body _;rfl)|(apply dr;rfl;rfl;(try simp only [Zl]);omega)) ?_|refine az ?_ (h':=?_)|exact aA|refine gs1 fun _=>?_|(refine gq ?_ ?_<;>intro hx_ this)|fail)
 repeat' (first|refine gs ?_|refine gs1 fun _=>?_|(refine gp ?_ ?_<;>intro hx_ this)|fail)
 rename_i b
 have hc4:(core4 a).size≤100000000000:=by
  have:(numV a.wrapsL.length).size≤10:=ao _
  simp only [core4,core3,core2,core1,Zl]
  omega
 have hle:=eP (a.wrapsL.map wrapV)
 have hw:=ha.wrapsV
 have e0:core5 a 0=core4 a:=by simp [core5,cats]
 refine ap (ι:=Kth a.wrapsL.length) (fun i=>⟨[(1,.pointer (some ⟨b,0,none⟩)),(4,.string (core5 a i.k)),(5,.int .i64 (i.k:Nat))],[cel b 50 a.cells],(ActD.at_ · a)⟩) (fun i=>a.wrapsL.length-i.k) ⟨0,Nat.zero_le _⟩ (aj ⟨rfl,?_,rfl,trivial⟩ (al _) fun _ h=>h) fun i=>?_
 · simp only [e0,core4,core3,core2,core1,←hl,ZV];rfl
 have hik:=i.hk
 have hk5:(core5 a i.k).size≤200000000000:=by have:=hle i.k;simp only [core5,Zl];omega
 repeat' (first|refine gs ?_|refine gs1 fun _=>?_|(refine gp ?_ ?_<;>intro hx_ this)|fail)
 · have hlt:i.k<a.wrapsL.length:=by omega
   have hp':=hp aa
   obtain ⟨x,hx⟩:∃ x,a.wrapsL[i.k]?=some x:=⟨_,Zm hlt⟩
   have hxm:x∈a.wrapsL:=List.mem_of_getElem? hx
   have hf:=ha.wraps x hxm
   have hfs:=fU hf
   obtain ⟨w1,w2⟩:=ha.wints x hxm
   have m1:=ao x.to
   have m2:=ao x.eph
   (refine aq ⟨[0,1,2,3,4,5,6,9,10,11,12,13,14,17,18,19,20,21,22],[(7,⟨[8],[(15,⟨[16],[(23,⟨[24,25],[]⟩)]⟩)]⟩)]⟩ [cel b 50 a.cells] (ActD.at_ · a) (h:=?_))
   all_goals repeat' (first|refine ab (hc:=ci _ aa) ?_|refine ab (hc:=nT x.box hf) ?_|refine gdz ?_|refine ay (hsub:=by exact aF) (hy:=by first|(apply aB (q:=i.k*5);rfl;rfl;omega;omega;assumption;omega)|(apply jA;rfl;assumption;rfl)|(apply eI (q:=i.k*5) (u:=.int .i64 x.to);rfl;exact fun w h=>(Wraps.get h.2 hx).2.2 0 _ rfl)|(apply eI (q:=i.k*5+1) (u:=.int .i64 x.eph);rfl;exact fun w h=>(Wraps.get h.2 hx).2.2 1 _ rfl)|(apply eX (q:=i.k*5+2) (cs:=x.box.cells);rfl;exact fun w h=>⟨rfl,(Wraps.get h.2 hx).2.1,ya (Wraps.get h.2 hx).2.2⟩)|(apply dr;rfl;rfl;(try simp only [Zl]);omega)) ?_|refine az ?_ (h':=?_)|exact aA|refine gs1 fun _=>?_|(refine gq ?_ ?_<;>intro hx_ this)|fail)
   repeat' (first|refine gs ?_|refine gs1 fun _=>?_|(refine gp ?_ ?_<;>intro hx_ this)|fail)
   have hsucc:=fu (a.wrapsL.map wrapV) (k:=i.k) (by simpa using hlt)
   have hget:(a.wrapsL.map wrapV).getD i.k .empty=wrapV x:=by simp [hx]
   rw [hget] at hsucc
   have e2:core5 a (i.k+1)=core5 a i.k++numV x.to++numV x.eph++boxV x.box:=by simp only [core5,hsucc,ZV,wrapV]
   all_goals exact ⟨(⟨i.k+1,hlt⟩:Kth a.wrapsL.length),(by show a.wrapsL.length-(i.k+1)<a.wrapsL.length-i.k;omega),aj ⟨rfl,by rw [e2];rfl,rfl,trivial⟩ (al _) fun _ h=>h⟩
 have hke:i.k=a.wrapsL.length:=by omega
 (refine aR ⟨[0,1,2,5,6],[(3,⟨[4],[(7,⟨[8,9],[]⟩)]⟩)]⟩ (h:=?_))
 all_goals repeat' (first|refine ab (hc:=ci _ aa) ?_|refine gd ?_|refine ay (hy:=by first|(apply dr;rfl;rfl;(try simp only [Zl]);omega)) ?_|refine az ?_ (h':=?_)|exact aA|refine gs1 fun _=>?_|(refine gq ?_ ?_<;>intro hx_ this)|fail)
 repeat' (first|refine gs ?_|refine gs1 fun _=>?_|(refine gp ?_ ?_<;>intro hx_ this)|fail)
 refine ad (ag rfl rfl) ?_
 simp only [ZC,coreV,←hke]
theorem mg (a:ActD) (hs:a.Str) (ha:rightB a=true→a.Fit) (hi:a.e<9223372036854775808∧a.s<9223372036854775808):Pu Tryz.prog 89 #[a.v] (ActD.at_ · a) (.string (actBytes a)):=by
 refine ak (args:=[_]) _ Tryz.func89 rfl Tryz.ntmps89 rfl fun av bor w0=>?_
 obtain ⟨i8,i9⟩:=hi
 have n7:=ao a.e
 have n8:=ao a.s
 have hc:(actCore a).size≤300000000000:=by
  unfold actCore
  cases hrB:rightB a with
  | true=>exact fB (ha hrB)
  | false=>simp [ByteArray.size]
 have hcp:=tc a hs ha
 repeat' (first|(refine ab (hc:=hcp) (hX:=fun w h=>h) ?_)|refine gs ?_|refine gs1 fun _=>?_|(refine gp ?_ ?_<;>intro hx_ this)|fail)
 · (all_goals (apply ad;apply ag;rfl;rfl));all_goals first|rfl|(simp only [actBytes, *,ZQ,ZO,ZC,ZB,ZE,ZD,ZH,ZG,ZK,ZI,ZP,ZJ,ZN,ZF];done)|(simp_all [actBytes];done)
 (refine aR ⟨[0,1,2,3,6,7,8],[(4,⟨[5],[(9,⟨[10,11],[]⟩)]⟩)]⟩ (h:=?_))
 all_goals repeat' (first|refine ab (hc:=ci _ aa) ?_|refine gd ?_|refine ay (hy:=by first|(apply dr;rfl;rfl;(try simp only [Zl]);omega)) ?_|refine az ?_ (h':=?_)|exact aA|refine gs1 fun _=>?_|(refine gq ?_ ?_<;>intro hx_ this)|fail)
 repeat' (first|refine gs ?_|refine gs1 fun _=>?_|(refine gp ?_ ?_<;>intro hx_ this)|fail)
 all_goals ((all_goals (apply ad;apply ag;rfl;rfl));all_goals first|rfl|(simp only [actBytes, *,ZQ,ZO,ZC,ZB,ZE,ZD,ZH,ZG,ZK,ZI,ZP,ZJ,ZN,ZF];done)|(simp_all [actBytes];done))
theorem sS:Tryz.prog.underlying 48=some (.struct (Tryz.prog.fieldsOf 48)):=by kernel_rfl
theorem wm:Tryz.prog.stoodInHeld 48=false:=by kernel_rfl
theorem wo:Tryz.prog.eqGuardType Tryz.prog.depth 48=false:=by kernel_rfl
theorem wx (w:World) (a b c d:Int):(Op.equalIn 10000 48 (.agg #[.int .i64 a,.int .i64 b]) (.agg #[.int .i64 c,.int .i64 d])).run Tryz.prog w=.ok (decide (a=c)&&decide (b=d)) w:=by
 have e:(10000:Nat)=9999+1:=rfl
 have e2:(9999:Nat)=9998+1:=rfl
 rw [e,run_equalIn_agg _ _ _ _ _ sS wm]
 have hf:(Tryz.prog.fieldsOf 48).toList.map (fun f=>(f.name,f.type,f.offset))=[("E",3,0),("S",3,1)]:=by kernel_rfl
 generalize (Tryz.prog.fieldsOf 48).toList=l at hf
 rcases l with _|⟨f1,_|⟨f2,_|⟨f3,l⟩⟩⟩
 case cons.cons.nil =>
  simp only [Qu,List.map_nil,List.cons.injEq,Prod.mk.injEq,and_true] at hf
  obtain ⟨⟨n1,t1,o1⟩,n2,t2,o2⟩:=hf
  have hag:=fun w=>(cf (TyOne.out (P:=Tryz.prog) (t:=3)) w).1
  have hst:=fun (x y:Int) (w:World)=>run_equalIn_int (P:=Tryz.prog) w 9998 3 .i64 .i64 x y TyInt.out
  cases h1:decide (a=c)<;>cases h2:decide (b=d) <;>
  · simp only [ZT,decide_eq_false_iff_not] at h1 h2
    simp [Op.eqFields,n1,n2,t1,t2,o1,o2,part,hag,e2,hst,h1,h2]
 all_goals (have:=congrArg List.length hf;simp at this)
theorem BF {N:Nat} {av bor:List Nat} {w0:World} {E:Env} {loc:List Res} {X:World→Prop} {ty t2:TypeId} {x y:Operand} {a b c d:Int} (hx:ev E x=some (.agg #[.int .i64 a,.int .i64 b])) (hy:ev E y=some (.agg #[.int .i64 c,.int .i64 d])) :
  Sy.Yields Tryz.prog N av bor w0 ⟨E,loc,X⟩ (.binOp .eql 48 x y t2) ty (.bool (decide (a=c)&&decide (b=d))):=Sy.Yields.mk fun A w ok dd pos af g=>by
 have h1:=run_eql_struct (P:=Tryz.prog) w 48 #[.int .i64 a,.int .i64 b] #[.int .i64 c,.int .i64 d]
 have h2:=wx w a b c d
 rw [h2] at h1
 simp [execOp,ok.eval (st:=⟨E,loc,X⟩) hx,ok.eval (st:=⟨E,loc,X⟩) hy,run_eqGuard_agg _ _ _ _ _ _ _ wo,h1]
section
variable {N:Nat} {av bor:List Nat} {w0:World} {ops:Array Oper} {rest:List Oper} {kk:St→Prop} {E:Env} {loc:List Res} {X:World→Prop} {n:Nat} {ty t2:TypeId} {pos:String} {af:Array Edge} {g:Option (Nat×Bool)} {bb want:Bool} {x y:Operand} {a b c d:Int}
theorem zk (h:Sw Tryz.prog N av bor w0 ops rest ⟨(n,.bool (decide (a=c)&&decide (b=d)))::E,loc,X⟩ kk) (hx:ev E x=some (.agg #[.int .i64 a,.int .i64 b]):=by rfl) (hy:ev E y=some (.agg #[.int .i64 c,.int .i64 d]):=by rfl) (hg:gdB ops E g=some (bb,want):=by rfl) (hbb:bb=want:=by exact am) (hd:Nat.blt n N=true:=by rfl) :
  Sw Tryz.prog N av bor w0 ops (⟨some n,.binOp .eql 48 x y t2,ty,pos,af,g⟩::rest) ⟨E,loc,X⟩ kk:=ai (BF hx hy) hg hbb hd h
end
def sameZ (a:ActD):Bool:=decide ((a.to.n:Int)=0)&&(decide ((a.wraps.n:Int)=0)&&(seqB a.author ActD.zero.author&&(decide (a.seq=ActD.zero.seq)&&(seqB a.prev ActD.zero.prev&&(decide (a.kind=ActD.zero.kind)&&(decide (a.time=ActD.zero.time)&&(seqB a.object ActD.zero.object&&(seqB a.target ActD.zero.target&&(decide (a.scope=ActD.zero.scope)&&(seqB a.group ActD.zero.group&&(seqB a.text ActD.zero.text&&(boxEq a.body BoxD.zero&&(decide (a.epoch=ActD.zero.epoch)&&(decide (a.n=ActD.zero.n)&&(decide (a.m=ActD.zero.m)&&(decide (a.e=0)&&decide (a.s=0)))))))))))))))))
set_option maxRecDepth 20000 in
set_option maxHeartbeats 8000000 in
theorem sX (a:ActD):Pu Tryz.prog 76 #[a.v,ActD.zero.v] (fun _=>True) (.bool (sameZ a)):=by
 refine ak (args:=[_,_]) _ Tryz.func76 rfl Tryz.ntmps76 rfl fun av bor w0=>?_
 repeat' (first|apply bO|apply Qv|apply Qw|refine bo ?_|refine aM ?_|refine cg ?_|refine cJ ?_|refine aL ?_|refine aV ?_|refine aW ?_|refine co ?_|refine cw ?_|refine bY ?_|refine bI ?_|refine bV ?_|refine bH ?_|refine ck ?_|refine dO (h:=?_)|refine bm ?_|refine bn ?_|refine bj ?_|refine cq fun _=>?_|refine Qz ?_|refine QA ?_|apply Qy|apply Qx|apply cw_ret|apply cw_exit|refine sy_beql (h:=?_)|refine bX ?_|refine bu ?_|refine bt ?_|((fail_if_success (refine cA ?_));refine bq (ht:=?_) (hf:=?_);all_goals (intro hx_;first|have:=aP hx_|have:=aZ hx_|skip))|(refine cw_cond (ht:=?_) (hf:=?_);all_goals (intro hx_;first|have:=aP hx_|have:=aZ hx_|skip)))
 · refine ad (ag rfl rfl) ?_
   have h0:ActD.zero.to.n=0:=rfl
   rw [h0] at hx_
   simp_all [sameZ]
 · refine ad (ag rfl rfl) ?_
   have h0:ActD.zero.wraps.n=0:=rfl
   rw [h0] at hx_
   simp_all [sameZ]
 rename_i b1 b2 g1
 have n1:a.to.n=0:=by
  have h0:ActD.zero.to.n=0:=rfl
  rw [h0] at g1
  simpa using g1
 have n2:a.wraps.n=0:=by
  have h0:ActD.zero.wraps.n=0:=rfl
  rw [h0] at hx_
  simpa using hx_
 refine ap (ι:=Unit) (fun _=>⟨[(2,.pointer (some ⟨b1,0,none⟩)),(3,.pointer (some ⟨b2,0,none⟩)),(5,.int .i64 0)],[cel b2 50 ActD.zero.cells,cel b1 50 a.cells],fun _=>True⟩) (fun _=>0) () (aj ⟨rfl,rfl,rfl,trivial⟩ (al _) fun _ h=>h) fun _=>?_
 repeat' (first|apply bO|apply Qv|apply Qw|refine bo ?_|refine aM ?_|refine cg ?_|refine cJ ?_|refine aL ?_|refine aV ?_|refine aW ?_|refine co ?_|refine cw ?_|refine bY ?_|refine bI ?_|refine bV ?_|refine bH ?_|refine ck ?_|refine dO (h:=?_)|refine bm ?_|refine bn ?_|refine bj ?_|refine cq fun _=>?_|refine Qz ?_|refine QA ?_|apply Qy|apply Qx|apply cw_ret|apply cw_exit|refine sy_beql (h:=?_)|refine bX ?_|refine bu ?_|refine bt ?_|((fail_if_success (refine cA ?_));refine bq (ht:=?_) (hf:=?_);all_goals (intro hx_;first|have:=aP hx_|have:=aZ hx_|skip))|(refine cw_cond (ht:=?_) (hf:=?_);all_goals (intro hx_;first|have:=aP hx_|have:=aZ hx_|skip)))
 · exact absurd this (by rw [n1];decide)
 refine ap (ι:=Unit) (fun _=>⟨[(2,.pointer (some ⟨b1,0,none⟩)),(3,.pointer (some ⟨b2,0,none⟩)),(6,.int .i64 0)],[cel b2 50 ActD.zero.cells,cel b1 50 a.cells],fun _=>True⟩) (fun _=>0) () (aj ⟨rfl,rfl,rfl,trivial⟩ (al _) fun _ h=>h) fun _=>?_
 repeat' (first|apply bO|apply Qv|apply Qw|refine bo ?_|refine aM ?_|refine cg ?_|refine cJ ?_|refine aL ?_|refine aV ?_|refine aW ?_|refine co ?_|refine cw ?_|refine bY ?_|refine bI ?_|refine bV ?_|refine bH ?_|refine ck ?_|refine dO (h:=?_)|refine bm ?_|refine bn ?_|refine bj ?_|refine cq fun _=>?_|refine Qz ?_|refine QA ?_|apply Qy|apply Qx|apply cw_ret|apply cw_exit|refine sy_beql (h:=?_)|refine bX ?_|refine bu ?_|refine bt ?_|(refine iI (a:=a.body) (b:=BoxD.zero) ?_)|(refine zk (a:=a.e) (b:=a.s) (c:=0) (d:=0) ?_)|(refine aw ?_)|(refine aw (vs:=[.int .i64 a.e,.int .i64 a.s]) (hv:=rfl) ?_)|(refine aw (vs:=[.int .i64 0,.int .i64 0]) (hv:=rfl) ?_)|((fail_if_success (refine cA ?_));refine bq (ht:=?_) (hf:=?_);all_goals (intro hx_;first|have:=aP hx_|have:=aZ hx_|skip))|(refine cw_cond (ht:=?_) (hf:=?_);all_goals (intro hx_;first|have:=aP hx_|have:=aZ hx_|skip)))
 · exact absurd this (by rw [n2];decide)
 all_goals (
  refine ad (ag rfl rfl) ?_
  have q1:decide ((a.to.n:Int)=0)=true:=by rw [n1];rfl
  have q2:decide ((a.wraps.n:Int)=0)=true:=by rw [n2];rfl
  rw [sameZ,q1,q2]
  clear q1 q2 n1 n2
  first
   | rfl
   | (simp_all only [ZD,ZG,ZH,ZQ,ZO,ZE];done)
   | (simp_all;done)
   | skip)
theorem CellAt.same {w:World} {p:Option Addr} {q:Nat} {u v:Value} (h1:CellAt w p q u) (h2:CellAt w p q v):u=v:=by
 obtain ⟨a,ha⟩:=Option.isSome_iff_exists.1 h1.1
 have:=(h1.2 a ha).symm.trans (h2.2 a ha)
 exact Option.some.inj this
theorem Strs.same {w:World} {s:SlV} {l m:List ByteArray} (h1:Strs w s l) (h2:Strs w s m):l=m:=by
 have hl:l.length=m.length:=h1.len_.symm.trans h2.len_
 apply List.ext_getElem hl
 intro i i1 i2
 have a1:=h1.at_ (Zm i1)
 have a2:=h2.at_ (Zm i2)
 exact Value.string.inj (CellAt.same a1 a2)
section
variable {H:Type} {enc:TypeId×Value→H} {P:Program} {w:World} {base:Nat} {spare:Nat→Bool} {held:Bool}
theorem SlV.v_inj {s t:SlV} (h:s.v=t.v):s=t:=by
 obtain ⟨p,n,c⟩:=s
 obtain ⟨p',n',c'⟩:=t
 simp only [SlV.v,Value.slice.injEq] at h
 obtain ⟨rfl,rfl,rfl⟩:=h
 rfl
theorem BB {fuel:Nat} {a:ActD} {x:DataW H×List MemPlace} (h:DataW.trod enc Tryz.prog w base spare held fuel 50 a.cells=some x) (ha:a.at_ w):a.Str:=by
 obtain ⟨n0,y0,h0⟩:=aK (i:=0) (off:=0) (k:=1) (t':=9) Tryz.underlying50 h rfl rfl rfl ae
 obtain ⟨n6,y6,h6⟩:=aK (i:=6) (off:=6) (k:=1) (t':=9) Tryz.underlying50 h rfl rfl rfl ae
 obtain ⟨n8,y8,h8⟩:=aK (i:=8) (off:=8) (k:=1) (t':=9) Tryz.underlying50 h rfl rfl rfl ae
 obtain ⟨n9,y9,h9⟩:=aK (i:=9) (off:=9) (k:=1) (t':=28) Tryz.underlying50 h rfl rfl rfl ae
 obtain ⟨n10,y10,h10⟩:=aK (i:=10) (off:=10) (k:=1) (t':=9) Tryz.underlying50 h rfl rfl rfl ae
 obtain ⟨s0,e0,b0⟩:=bL h0
 obtain ⟨s6,e6,b6⟩:=bL h6
 obtain ⟨s8,e8,b8⟩:=bL h8
 obtain ⟨s9,l9,e9,r9,b9⟩:=ip h9
 obtain ⟨s10,e10,b10⟩:=bL h10
 simp [ActD.cells] at e0 e6 e8 e9 e10
 have e9':=SlV.v_inj e9
 subst e0;subst e6;subst e8;subst e10
 rw [←e9'] at r9
 have e:=Strs.same ha.1 r9
 exact ⟨b0,b6,b8,b10,by rw [e];exact b9⟩
theorem wR {fuel:Nat} {cs:List Value} {x:DataW H×List MemPlace} (h:DataW.trod enc Tryz.prog w base spare held fuel 50 cs=some x):∃ a:ActD,cs=a.cells∧a.at_ w∧a.Rng∧a.target.size≤maxLen∧a.Str:=by
 obtain ⟨a,e,h1,h2,h3⟩:=zY h
 subst e
 exact ⟨a,rfl,h1,h2,h3,BB h h1⟩
end
end Go.Proofs.YtoefdofbekihdaaGreatDoor
set_option maxHeartbeats 16000000
namespace Go.Proofs.YtoefdofbekihdaaGreatDoor
open Go Go.Proofs Sy Go.RowKit Go.Deep Go.ChangeShapes
structure ClaimD.Str (c:ClaimD):Prop where
 actor:c.actor.size≤maxLen
 prev:c.prev.size≤maxLen
 rng:c.base<9223372036854775808∧c.gen<9223372036854775808∧c.home<9223372036854775808∧c.pub<9223372036854775808∧c.time<9223372036854775808∧c.e<9223372036854775808∧c.s<9223372036854775808
structure BallotD.Str (b:BallotD):Prop where
 actor:b.actor.size≤maxLen
 claim:b.claim.size≤maxLen
 rng:b.server<9223372036854775808∧b.gen<9223372036854775808∧b.time<9223372036854775808∧b.e<9223372036854775808∧b.s<9223372036854775808
structure DecD.Str (d:DecD):Prop where
 actor:d.actor.size≤maxLen
 object:d.object.size≤maxLen
 text:d.text.size≤maxLen
 to:∀ x∈d.toL,x.size≤maxLen
 rng:d.server<9223372036854775808∧d.number<9223372036854775808∧d.kind<9223372036854775808∧d.n<9223372036854775808∧d.from_<9223372036854775808∧d.until_<9223372036854775808∧d.e<9223372036854775808∧d.s<9223372036854775808
structure ItemD.Str (i:ItemD):Prop where
 act:i.act.Str
 rng:i.act.Rng
 claim:i.claim.Str
 ballot:i.ballot.Str
 dec:i.dec.Str
section
variable {H:Type} {enc:TypeId×Value→H} {P:Program} {w:World} {base:Nat} {spare:Nat→Bool} {held:Bool}
theorem tv {fuel:Nat} {cs:List Value} {x:DataW H×List MemPlace} (h:DataW.trod enc Tryz.prog w base spare held fuel 22 cs=some x):∃ (s:SlV) (l:List Int),cs=[s.v]∧Ints w s l∧∀ n∈l,n<9223372036854775808:=by
 obtain ⟨s,l,h1,h2,h3⟩:=fT (α:=Int) Tryz.underlying22 (size:=1) ae (fun n=>[.int .i64 n]) (fun n=>n<9223372036854775808) (fun n cs y hy=>by obtain ⟨s,h1,h2⟩:=aY hy;exact ⟨s,h1,h2⟩) h
 exact ⟨s,l,h1,h2,h3⟩
theorem tw {fuel:Nat} {cs:List Value} {x:DataW H×List MemPlace} (h:DataW.trod enc Tryz.prog w base spare held fuel 57 cs=some x):∃ a:ClaimD,cs=a.cells∧a.Str:=by
 have hl:=fJ Tryz.underlying57 (k:=9) ae h
 obtain ⟨n0,y0,h0⟩:=aK (i:=0) (off:=0) (k:=1) (t':=9) Tryz.underlying57 h rfl rfl rfl ae
 obtain ⟨n1,y1,h1⟩:=aK (i:=1) (off:=1) (k:=1) (t':=3) Tryz.underlying57 h rfl rfl rfl ae
 obtain ⟨n2,y2,h2⟩:=aK (i:=2) (off:=2) (k:=1) (t':=9) Tryz.underlying57 h rfl rfl rfl ae
 obtain ⟨n3,y3,h3⟩:=aK (i:=3) (off:=3) (k:=1) (t':=3) Tryz.underlying57 h rfl rfl rfl ae
 obtain ⟨n4,y4,h4⟩:=aK (i:=4) (off:=4) (k:=1) (t':=3) Tryz.underlying57 h rfl rfl rfl ae
 obtain ⟨n5,y5,h5⟩:=aK (i:=5) (off:=5) (k:=1) (t':=3) Tryz.underlying57 h rfl rfl rfl ae
 obtain ⟨n6,y6,h6⟩:=aK (i:=6) (off:=6) (k:=1) (t':=3) Tryz.underlying57 h rfl rfl rfl ae
 obtain ⟨n7,y7,h7⟩:=aK (i:=7) (off:=7) (k:=2) (t':=48) Tryz.underlying57 h rfl rfl rfl ae
 match cs,hl with
 | [c0,c1,c2,c3,c4,c5,c6,c7,c8],_ =>
  obtain ⟨s0,e0,b0⟩:=bL h0
  obtain ⟨s1,e1,b1⟩:=aY h1
  obtain ⟨s2,e2,b2⟩:=bL h2
  obtain ⟨s3,e3,b3⟩:=aY h3
  obtain ⟨s4,e4,b4⟩:=aY h4
  obtain ⟨s5,e5,b5⟩:=aY h5
  obtain ⟨s6,e6,b6⟩:=aY h6
  obtain ⟨s7,t7,e7,b7,bb7⟩:=jd h7
  simp at e0 e1 e2 e3 e4 e5 e6 e7
  exact ⟨⟨s0,s1,s2,s3,s4,s5,s6,s7,t7⟩,by simp [ClaimD.cells,e0,e1,e2,e3,e4,e5,e6,e7],⟨b0,b2,b1,b3,b4,b5,b6,b7,bb7⟩⟩
theorem qZ {fuel:Nat} {cs:List Value} {x:DataW H×List MemPlace} (h:DataW.trod enc Tryz.prog w base spare held fuel 59 cs=some x):∃ a:BallotD,cs=a.cells∧a.Str:=by
 have hl:=fJ Tryz.underlying59 (k:=7) ae h
 obtain ⟨n0,y0,h0⟩:=aK (i:=0) (off:=0) (k:=1) (t':=3) Tryz.underlying59 h rfl rfl rfl ae
 obtain ⟨n1,y1,h1⟩:=aK (i:=1) (off:=1) (k:=1) (t':=9) Tryz.underlying59 h rfl rfl rfl ae
 obtain ⟨n2,y2,h2⟩:=aK (i:=2) (off:=2) (k:=1) (t':=3) Tryz.underlying59 h rfl rfl rfl ae
 obtain ⟨n3,y3,h3⟩:=aK (i:=3) (off:=3) (k:=1) (t':=9) Tryz.underlying59 h rfl rfl rfl ae
 obtain ⟨n4,y4,h4⟩:=aK (i:=4) (off:=4) (k:=1) (t':=3) Tryz.underlying59 h rfl rfl rfl ae
 obtain ⟨n5,y5,h5⟩:=aK (i:=5) (off:=5) (k:=2) (t':=48) Tryz.underlying59 h rfl rfl rfl ae
 match cs,hl with
 | [c0,c1,c2,c3,c4,c5,c6],_ =>
  obtain ⟨s0,e0,b0⟩:=aY h0
  obtain ⟨s1,e1,b1⟩:=bL h1
  obtain ⟨s2,e2,b2⟩:=aY h2
  obtain ⟨s3,e3,b3⟩:=bL h3
  obtain ⟨s4,e4,b4⟩:=aY h4
  obtain ⟨s5,t5,e5,b5,bb5⟩:=jd h5
  simp at e0 e1 e2 e3 e4 e5
  exact ⟨⟨s0,s1,s2,s3,s4,s5,t5⟩,by simp [BallotD.cells,e0,e1,e2,e3,e4,e5],⟨b1,b3,b0,b2,b4,b5,bb5⟩⟩
theorem zX {fuel:Nat} {cs:List Value} {x:DataW H×List MemPlace} (h:DataW.trod enc Tryz.prog w base spare held fuel 61 cs=some x):∃ a:DecD,cs=a.cells∧DecD.at_ w a∧a.Str:=by
 have hl:=fJ Tryz.underlying61 (k:=12) ae h
 obtain ⟨n0,y0,h0⟩:=aK (i:=0) (off:=0) (k:=1) (t':=3) Tryz.underlying61 h rfl rfl rfl ae
 obtain ⟨n1,y1,h1⟩:=aK (i:=1) (off:=1) (k:=1) (t':=3) Tryz.underlying61 h rfl rfl rfl ae
 obtain ⟨n2,y2,h2⟩:=aK (i:=2) (off:=2) (k:=1) (t':=3) Tryz.underlying61 h rfl rfl rfl ae
 obtain ⟨n3,y3,h3⟩:=aK (i:=3) (off:=3) (k:=1) (t':=9) Tryz.underlying61 h rfl rfl rfl ae
 obtain ⟨n4,y4,h4⟩:=aK (i:=4) (off:=4) (k:=1) (t':=9) Tryz.underlying61 h rfl rfl rfl ae
 obtain ⟨n5,y5,h5⟩:=aK (i:=5) (off:=5) (k:=1) (t':=9) Tryz.underlying61 h rfl rfl rfl ae
 obtain ⟨n6,y6,h6⟩:=aK (i:=6) (off:=6) (k:=1) (t':=28) Tryz.underlying61 h rfl rfl rfl ae
 obtain ⟨n7,y7,h7⟩:=aK (i:=7) (off:=7) (k:=1) (t':=3) Tryz.underlying61 h rfl rfl rfl ae
 obtain ⟨n8,y8,h8⟩:=aK (i:=8) (off:=8) (k:=1) (t':=3) Tryz.underlying61 h rfl rfl rfl ae
 obtain ⟨n9,y9,h9⟩:=aK (i:=9) (off:=9) (k:=1) (t':=3) Tryz.underlying61 h rfl rfl rfl ae
 obtain ⟨n10,y10,h10⟩:=aK (i:=10) (off:=10) (k:=2) (t':=48) Tryz.underlying61 h rfl rfl rfl ae
 match cs,hl with
 | [c0,c1,c2,c3,c4,c5,c6,c7,c8,c9,c10,c11],_ =>
  obtain ⟨s0,e0,b0⟩:=aY h0
  obtain ⟨s1,e1,b1⟩:=aY h1
  obtain ⟨s2,e2,b2⟩:=aY h2
  obtain ⟨s3,e3,b3⟩:=bL h3
  obtain ⟨s4,e4,b4⟩:=bL h4
  obtain ⟨s5,e5,b5⟩:=bL h5
  obtain ⟨s6,l6,e6,r6,b6⟩:=ip h6
  obtain ⟨s7,e7,b7⟩:=aY h7
  obtain ⟨s8,e8,b8⟩:=aY h8
  obtain ⟨s9,e9,b9⟩:=aY h9
  obtain ⟨s10,t10,e10,b10,bb10⟩:=jd h10
  simp at e0 e1 e2 e3 e4 e5 e6 e7 e8 e9 e10
  exact ⟨⟨s0,s1,s2,s3,s4,s5,s6,s7,s8,s9,s10,t10,l6⟩,by simp [DecD.cells,e0,e1,e2,e3,e4,e5,e6,e7,e8,e9,e10],r6,⟨b3,b4,b5,b6,b0,b1,b2,b7,b8,b9,b10,bb10⟩⟩
theorem wQ {fuel:Nat} {cs:List Value} {x:DataW H×List MemPlace} (h:DataW.trod enc Tryz.prog w base spare held fuel 63 cs=some x):∃ a:ItemD,cs=a.cells∧ItemD.at_ w a∧a.Str:=by
 have hl:=fJ Tryz.underlying63 (k:=49) ae h
 obtain ⟨n0,y0,h0⟩:=aK (i:=0) (off:=0) (k:=1) (t':=3) Tryz.underlying63 h rfl rfl rfl ae
 obtain ⟨n1,y1,h1⟩:=aK (i:=1) (off:=1) (k:=20) (t':=50) Tryz.underlying63 h rfl rfl rfl ae
 obtain ⟨n2,y2,h2⟩:=aK (i:=2) (off:=21) (k:=9) (t':=57) Tryz.underlying63 h rfl rfl rfl ae
 obtain ⟨n3,y3,h3⟩:=aK (i:=3) (off:=30) (k:=7) (t':=59) Tryz.underlying63 h rfl rfl rfl ae
 obtain ⟨n4,y4,h4⟩:=aK (i:=4) (off:=37) (k:=12) (t':=61) Tryz.underlying63 h rfl rfl rfl ae
 obtain ⟨a0,e0,_⟩:=aY h0
 obtain ⟨a1,e1,q1,r1,_,s1⟩:=wR h1
 obtain ⟨a2,e2,s2⟩:=tw h2
 obtain ⟨a3,e3,s3⟩:=qZ h3
 obtain ⟨a4,e4,q4,s4⟩:=zX h4
 refine ⟨⟨a0,a1,a2,a3,a4⟩,?_,⟨q1,q4⟩,⟨s1,r1,s2,s3,s4⟩⟩
 have h5:cs=cs.take 1++((cs.drop 1).take 20++((cs.drop 21).take 9++((cs.drop 30).take 7++(cs.drop 37).take 12))):=by
  have t1:(cs.drop 37).take 12=cs.drop 37:=List.take_of_length_le (by rw [List.length_drop];omega)
  rw [t1,show cs.drop 37=(cs.drop 30).drop 7 from by rw [List.drop_drop],List.take_append_drop,show cs.drop 30=(cs.drop 21).drop 9 from by rw [List.drop_drop],List.take_append_drop,show cs.drop 21=(cs.drop 1).drop 20 from by rw [List.drop_drop],List.take_append_drop,List.take_append_drop]
 rw [List.drop_zero] at e0
 rw [h5,e0,e1,e2,e3,e4]
 simp [ItemD.cells]
theorem tu {fuel:Nat} {cs:List Value} {x:DataW H×List MemPlace} (h:DataW.trod enc Tryz.prog w base spare held fuel 23 cs=some x):∃ (s:SlV) (l:List ItemD),cs=[s.v]∧Items w s l∧∀ i∈l,i.Str:=by
 haveI:Inhabited ItemD:=⟨ItemD.zero⟩
 obtain ⟨s,l,h1,h2,h3⟩:=fT (α:=ItemD) Tryz.underlying23 (size:=49) ae ItemD.cells (fun a=>ItemD.at_ w a∧a.Str) (fun n cs y hy=>wQ hy) h
 exact ⟨s,l,h1,⟨h2,fun a ha=>(h3 a ha).1⟩,fun a ha=>(h3 a ha).2⟩
theorem tt {fuel:Nat} {cs:List Value} {x:DataW H×List MemPlace} (h:DataW.trod enc Tryz.prog w base spare held fuel 25 cs=some x):∃ (s t:SlV) (l:List Int) (I:List ItemD),cs=[s.v,t.v]∧Ints w s l∧Items w t I∧(∀ n∈l,n<9223372036854775808)∧∀ i∈I,i.Str:=by
 have hl:=fJ Tryz.underlying25 (k:=2) ae h
 obtain ⟨n0,y0,h0⟩:=aK (i:=0) (off:=0) (k:=1) (t':=22) Tryz.underlying25 h rfl rfl rfl ae
 obtain ⟨n1,y1,h1⟩:=aK (i:=1) (off:=1) (k:=1) (t':=23) Tryz.underlying25 h rfl rfl rfl ae
 match cs,hl with
 | [c0,c1],_ =>
  obtain ⟨s0,l0,e0,r0,b0⟩:=tv h0
  obtain ⟨s1,l1,e1,r1,b1⟩:=tu h1
  simp at e0 e1
  exact ⟨s0,s1,l0,l1,by rw [e0,e1],r0,r1,b0,b1⟩
end
end Go.Proofs.YtoefdofbekihdaaGreatDoor
set_option maxHeartbeats 16000000
namespace Go.Proofs.YtoefdofbekihdaaGreatDoor
open Go Go.Proofs Sy
theorem gg (n l h:Int):Pu Tryz.prog 147 #[.int .i64 n,.int .i64 l,.int .i64 h] (fun _=>True) (.bool (withinB n l h)):=by
 refine ak (args:=[_,_,_]) _ Tryz.func147 rfl Tryz.ntmps147 rfl fun av bor w0=>?_
 repeat' (first|refine gs ?_|(refine gp ?_ ?_<;>intro hx_ this)|fail)
 (all_goals (apply ad;apply ag;rfl;rfl));all_goals first|rfl|(simp only [withinB, *,ZQ,ZO,ZC,ZB,ZE,ZD,ZH,ZG,ZK,ZI,ZP,ZJ,ZN,ZF];done)|(simp_all [withinB];done)
theorem jK (e s:Int):Pu Tryz.prog 148 #[.agg #[.int .i64 e,.int .i64 s]] (fun _=>True) (.bool (sigB e s)):=by
 refine ak (args:=[_]) _ Tryz.func148 rfl Tryz.ntmps148 rfl fun av bor w0=>?_
 repeat' (first|refine ab (hc:=gg _ _ _) ?_|refine gs ?_|refine gs1 fun _=>?_|(refine gp ?_ ?_<;>intro hx_ this)|fail)
 (all_goals (apply ad;apply ag;rfl;rfl));all_goals first|rfl|(simp only [sigB, *,ZQ,ZO,ZC,ZB,ZE,ZD,ZH,ZG,ZK,ZI,ZP,ZJ,ZN,ZF];done)|(simp_all [sigB];done)
set_option maxHeartbeats 8000000 in
theorem nf (c:ClaimD) (hs:c.Str):Pu Tryz.prog 79 #[c.v] (fun _=>True) (.bool (claimR c)):=by
 refine ak (args:=[_]) _ Tryz.func79 rfl Tryz.ntmps79 rfl fun av bor w0=>?_
 have hid:=fS c.actor hs.actor
 repeat' (first|(refine ab (hc:=hid) (hX:=fun _ _=>trivial) ?_)|refine ab (hc:=gg _ _ _) ?_|refine ab (hc:=jK c.e c.s) ?_|refine gs ?_|refine gs1 fun _=>?_|(refine aw (vs:=[.int .i64 c.e,.int .i64 c.s]) (hv:=rfl) ?_)|(refine gp ?_ ?_<;>intro hx_ this)|fail)
 (all_goals (apply ad;apply ag;rfl;rfl));all_goals first|rfl|(simp only [claimR,isDigestB, *,ZQ,ZO,ZC,ZB,ZE,ZD,ZH,ZG,ZK,ZI,ZP,ZJ,ZN,ZF];done)|(simp_all [claimR,isDigestB];done)
set_option maxHeartbeats 8000000 in
theorem qT (b:BallotD) (hs:b.Str):Pu Tryz.prog 80 #[b.v] (fun _=>True) (.bool (ballotR b)):=by
 refine ak (args:=[_]) _ Tryz.func80 rfl Tryz.ntmps80 rfl fun av bor w0=>?_
 have hid:=fS b.actor hs.actor
 repeat' (first|(refine ab (hc:=hid) (hX:=fun _ _=>trivial) ?_)|refine ab (hc:=gg _ _ _) ?_|refine ab (hc:=jK b.e b.s) ?_|refine gs ?_|refine gs1 fun _=>?_|(refine aw (vs:=[.int .i64 b.e,.int .i64 b.s]) (hv:=rfl) ?_)|(refine gp ?_ ?_<;>intro hx_ this)|fail)
 (all_goals (apply ad;apply ag;rfl;rfl));all_goals first|rfl|(simp only [ballotR,isDigestB, *,ZQ,ZO,ZC,ZB,ZE,ZD,ZH,ZG,ZK,ZI,ZP,ZJ,ZN,ZF];done)|(simp_all [ballotR,isDigestB];done)
def numsD (d:DecD):Bool:=withinB d.server 0 19&&(withinB d.number 0 1073741824&&(withinB d.kind 0 9&&(withinB d.from_ 0 1099511627776&&(withinB d.until_ 0 1099511627776&&decide (d.from_<d.until_)))))
def decF (d:DecD):Bool:=bif !numsD d||!sigB d.e d.s then false
 else bif kindO d.kind then seqB d.actor ⟨#[]⟩&&(isDigestB d.object&&(reasonD d&&plainD d))
 else bif decide (d.kind=8) then seqB d.actor ⟨#[]⟩&&(seqB d.object ⟨#[]⟩&&(reasonD d&&(isIds d.toL&&withinB d.n 1 (d.to.n:Nat))))
 else bif decide (d.kind=9) then seqB d.actor ⟨#[]⟩&&(seqB d.object ⟨#[]⟩&&(decide ((d.text.size:Int)≤4096)&&plainD d))
 else isId d.actor&&(seqB d.object ⟨#[]⟩&&(reasonD d&&plainD d))
theorem AC {k:Int} (h:withinB k 0 9=true) (h1:kindO k=false) (h2:decide (k=8)=false) (h3:decide (k=9)=false):kindA k=true:=by
 simp only [withinB,kindO,kindA,ZM,Bool.or_eq_true,Bool.or_eq_false_iff,ZT,decide_eq_false_iff_not] at *
 omega
theorem CZ {k:Int} (h1:kindO k=true):withinB k 0 9=true∧kindA k=false:=by
 simp only [withinB,kindO,kindA,ZM,Bool.or_eq_true,Bool.or_eq_false_iff,ZT,decide_eq_false_iff_not] at *
 omega
theorem C0 {k:Int} (h1:kindA k=true):withinB k 0 9=true∧kindO k=false∧decide (k=8)=false∧decide (k=9)=false:=by
 simp only [withinB,kindO,kindA,ZM,Bool.or_eq_true,Bool.or_eq_false_iff,ZT,decide_eq_false_iff_not] at *
 omega
theorem DE (d:DecD):decF d=decR d:=by
 rw [decF,decR,numsD,termsB]
 cases hA:kindA d.kind with
 | true =>
  obtain ⟨h1,h2,h3,h4⟩:=C0 hA
  rw [h1,h2,h3,h4]
  generalize withinB d.server 0 19=b1
  generalize withinB d.number 0 1073741824=b2
  generalize withinB d.from_ 0 1099511627776=b3
  generalize withinB d.until_ 0 1099511627776=b4
  generalize decide (d.from_<d.until_)=b5
  generalize sigB d.e d.s=b6
  simp only [ZC,ZB]
  generalize (isId d.actor&&(seqB d.object ⟨#[]⟩&&(reasonD d&&plainD d)))=b7
  cases b1<;>cases b2<;>cases b3<;>cases b4<;>cases b5<;>cases b6<;>cases b7<;>rfl
 | false =>
  cases hO:kindO d.kind with
  | true =>
   rw [(CZ hO).1]
   generalize withinB d.server 0 19=b1
   generalize withinB d.number 0 1073741824=b2
   generalize withinB d.from_ 0 1099511627776=b3
   generalize withinB d.until_ 0 1099511627776=b4
   generalize decide (d.from_<d.until_)=b5
   generalize sigB d.e d.s=b6
   simp only [ZC,ZB]
   generalize (seqB d.actor ⟨#[]⟩&&(isDigestB d.object&&(reasonD d&&plainD d)))=b7
   cases b1<;>cases b2<;>cases b3<;>cases b4<;>cases b5<;>cases b6<;>cases b7<;>rfl
  | false =>
   cases h8:decide (d.kind=8) with
   | true =>
    have hw:withinB d.kind 0 9=true:=by rw [aP h8];rfl
    rw [hw]
    generalize withinB d.server 0 19=b1
    generalize withinB d.number 0 1073741824=b2
    generalize withinB d.from_ 0 1099511627776=b3
    generalize withinB d.until_ 0 1099511627776=b4
    generalize decide (d.from_<d.until_)=b5
    generalize sigB d.e d.s=b6
    simp only [ZC,ZB]
    generalize (seqB d.actor ⟨#[]⟩&&(seqB d.object ⟨#[]⟩&&(reasonD d&&(isIds d.toL&&withinB d.n 1 (d.to.n:Nat)))))=b7
    cases b1<;>cases b2<;>cases b3<;>cases b4<;>cases b5<;>cases b6<;>cases b7<;>rfl
   | false =>
    cases h9:decide (d.kind=9) with
    | true =>
     have hw:withinB d.kind 0 9=true:=by rw [aP h9];rfl
     rw [hw]
     generalize withinB d.server 0 19=b1
     generalize withinB d.number 0 1073741824=b2
     generalize withinB d.from_ 0 1099511627776=b3
     generalize withinB d.until_ 0 1099511627776=b4
     generalize decide (d.from_<d.until_)=b5
     generalize sigB d.e d.s=b6
     simp only [ZC,ZB]
     generalize (seqB d.actor ⟨#[]⟩&&(seqB d.object ⟨#[]⟩&&(decide ((d.text.size:Int)≤4096)&&plainD d)))=b7
     cases b1<;>cases b2<;>cases b3<;>cases b4<;>cases b5<;>cases b6<;>cases b7<;>rfl
    | false =>
     cases hw:withinB d.kind 0 9 with
     | true=>rw [AC hw hO h8 h9] at hA;cases hA
     | false=>simp
set_option maxHeartbeats 16000000 in
theorem nd (d:DecD) (hs:d.Str):Pu Tryz.prog 81 #[d.v] (fun w=>d.at_ w) (.bool (decR d)):=by
 refine ak (args:=[_]) _ Tryz.func81 rfl Tryz.ntmps81 rfl fun av bor w0=>?_
 rw [←DE]
 have hid:=fS d.actor hs.actor
 have hids:=jN d.to d.toL hs.to
 repeat' (first|(refine ab (hc:=hid) (hX:=fun _ _=>trivial) ?_)|(refine ab (hc:=hids) (hX:=fun w h=>h) ?_)|refine ab (hc:=gg _ _ _) ?_|refine ab (hc:=jK d.e d.s) ?_|refine gs ?_|refine gs1 fun _=>?_|(refine aw (vs:=[.int .i64 d.e,.int .i64 d.s]) (hv:=rfl) ?_)|(refine gp ?_ ?_<;>intro hx_ this)|fail)
 all_goals (apply ad;apply ag;rfl;rfl)
 all_goals first
  | rfl
  | (simp_all [decF,numsD,plainD,reasonD,kindO,isDigestB];done)
  | (simp_all [decF,numsD,plainD,reasonD,kindO,isDigestB];intros;omega)
theorem de (x:ByteArray) (l:List ByteArray):textsV (x::l)=textV x++textsV l:=rfl
theorem dz:textsV []=ByteArray.empty:=rfl
theorem dV (x:Int) (l:List Int):numsV (x::l)=numV x++numsV l:=rfl
theorem eu:numsV []=ByteArray.empty:=rfl
structure ClaimD.Sm (c:ClaimD):Prop where
 actor:c.actor.size≤1000000
 prev:c.prev.size≤1000000
structure BallotD.Sm (c:BallotD):Prop where
 actor:c.actor.size≤1000000
 claim:c.claim.size≤1000000
structure DecD.Sm (c:DecD):Prop where
 actor:c.actor.size≤1000000
 object:c.object.size≤1000000
 text:c.text.size≤1000000
 to:(listV c.toL).size≤1000000
theorem pf (c:ClaimD) (hl:c.Lt) (hs:c.Sm):Pu Tryz.prog 90 #[c.v] (fun _=>True) (.string (coreCl c)):=by
 refine ak (args:=[_]) _ Tryz.func90 rfl Tryz.ntmps90 rfl fun av bor w0=>?_
 have h1:=hs.actor
 have h2:=hs.prev
 have s1:=ax c.actor
 have s2:=ax c.prev
 have n1:=ao c.base
 have n2:=ao c.gen
 have n3:=ao c.home
 have n4:=ao c.pub
 have n5:=ao c.time
 obtain ⟨i1,i2,i3,i4,i5,_,_⟩:=hl
 repeat' (first|refine gs ?_|refine gs1 fun _=>?_|(refine gp ?_ ?_<;>intro hx_ this)|fail)
 (refine aR ⟨[0,1,3,4,7,8,11,12,15,16,19,20,23,24],[(2,⟨[],[(5,⟨[6],[(9,⟨[10],[(13,⟨[14],[(17,⟨[18],[(21,⟨[22],[(25,⟨[26,27],[]⟩)]⟩)]⟩)]⟩)]⟩)]⟩)]⟩)]⟩ (h:=?_))
 all_goals repeat' (first|refine ab (hc:=ci _ aa) ?_|refine ab (hc:=cY _ aa) ?_|refine gd ?_|refine ay (hy:=by first|(apply dr;rfl;rfl;(try simp only [Zl]);omega)) ?_|refine az ?_ (h':=?_)|exact aA|refine gs1 fun _=>?_|(refine gq ?_ ?_<;>intro hx_ this)|fail)
 all_goals
  repeat' (first|refine gs ?_|refine gs1 fun _=>?_|(refine gp ?_ ?_<;>intro hx_ this)|fail)
  refine ad (ag rfl rfl) ?_
  simp only [coreCl,de,dz,dV,eu,ByteArray.append_empty,ZV]
theorem ja (c:BallotD) (hl:c.Lt) (hs:c.Sm):Pu Tryz.prog 86 #[c.v] (fun _=>True) (.string (coreBa c)):=by
 refine ak (args:=[_]) _ Tryz.func86 rfl Tryz.ntmps86 rfl fun av bor w0=>?_
 have h1:=hs.actor
 have h2:=hs.claim
 have s1:=ax c.actor
 have s2:=ax c.claim
 have n1:=ao c.server
 have n2:=ao c.gen
 have n3:=ao c.time
 obtain ⟨i1,i2,i3,_,_⟩:=hl
 repeat' (first|refine gs ?_|refine gs1 fun _=>?_|(refine gp ?_ ?_<;>intro hx_ this)|fail)
 (refine aR ⟨[0,1,3,4,7,8,11,12,15,16],[(2,⟨[],[(5,⟨[6],[(9,⟨[10],[(13,⟨[14],[(17,⟨[18,19],[]⟩)]⟩)]⟩)]⟩)]⟩)]⟩ (h:=?_))
 all_goals repeat' (first|refine ab (hc:=ci _ aa) ?_|refine ab (hc:=cY _ aa) ?_|refine gd ?_|refine ay (hy:=by first|(apply dr;rfl;rfl;(try simp only [Zl]);omega)) ?_|refine az ?_ (h':=?_)|exact aA|refine gs1 fun _=>?_|(refine gq ?_ ?_<;>intro hx_ this)|fail)
 all_goals
  repeat' (first|refine gs ?_|refine gs1 fun _=>?_|(refine gp ?_ ?_<;>intro hx_ this)|fail)
  refine ad (ag rfl rfl) ?_
  simp only [coreBa,de,dz,dV,eu,ByteArray.append_empty,ZV]
theorem iZ (c:DecD) (hl:c.Lt) (hs:c.Sm):Pu Tryz.prog 87 #[c.v] (fun w=>c.at_ w) (.string (coreDe c)):=by
 refine ak (args:=[_]) _ Tryz.func87 rfl Tryz.ntmps87 rfl fun av bor w0=>?_
 have h1:=hs.actor
 have h2:=hs.object
 have h3:=hs.text
 have h4:=hs.to
 have s1:=ax c.actor
 have s2:=ax c.object
 have s3:=ax c.text
 have n1:=ao c.server
 have n2:=ao c.number
 have n3:=ao c.kind
 have n4:=ao c.n
 have n5:=ao c.from_
 have n6:=ao c.until_
 have hli:=md c.to c.toL aa
 obtain ⟨i1,i2,i3,i4,i5,i6,_,_⟩:=hl
 repeat' (first|refine gs ?_|refine gs1 fun _=>?_|(refine gp ?_ ?_<;>intro hx_ this)|fail)
 (refine aR ⟨[0,1,3,4,7,8,11,12,15,16,19,20],[(2,⟨[],[(5,⟨[6],[(9,⟨[10],[(13,⟨[14],[(17,⟨[18],[(21,⟨[22,23],[]⟩)]⟩)]⟩)]⟩)]⟩)]⟩)]⟩ (h:=?_))
 all_goals repeat' (first|refine ab (hc:=ci _ aa) ?_|refine ab (hc:=cY _ aa) ?_|refine gd ?_|refine ay (hy:=by first|(apply dr;rfl;rfl;(try simp only [Zl]);omega)) ?_|refine az ?_ (h':=?_)|exact aA|refine gs1 fun _=>?_|(refine gq ?_ ?_<;>intro hx_ this)|fail)
 all_goals
  repeat' (first|refine gs ?_|refine gs1 fun _=>?_|(refine gp ?_ ?_<;>intro hx_ this)|fail)
  (refine aR ⟨[0,1,2,5,6,9,10,13,14],[(3,⟨[4],[(7,⟨[8],[(11,⟨[12],[(15,⟨[16,17],[]⟩)]⟩)]⟩)]⟩)]⟩ (h:=?_))
  all_goals repeat' (first|refine ab (hc:=ci _ aa) ?_|(refine ab (hc:=hli) (hX:=fun w h=>h) ?_)|refine gd ?_|refine ay (hy:=by first|(apply dr;rfl;rfl;(try simp only [Zl]);omega)) ?_|refine az ?_ (h':=?_)|exact aA|refine gs1 fun _=>?_|(refine gq ?_ ?_<;>intro hx_ this)|fail)
  all_goals
   repeat' (first|refine gs ?_|refine gs1 fun _=>?_|(refine gp ?_ ?_<;>intro hx_ this)|fail)
   refine ad (ag rfl rfl) ?_
   simp only [coreDe,de,dz,dV,eu,ByteArray.append_empty,ZV]
theorem iv (e s:Int) (he:e<9223372036854775808) (hs:s<9223372036854775808):Pu Tryz.prog 91 #[.agg #[.int .i64 e,.int .i64 s]] (fun _=>True) (.string (numsV [e,s])):=by
 refine ak (args:=[_]) _ Tryz.func91 rfl Tryz.ntmps91 rfl fun av bor w0=>?_
 have n1:=ao e
 have n2:=ao s
 repeat' (first|refine gs ?_|refine gs1 fun _=>?_|(refine gp ?_ ?_<;>intro hx_ this)|fail)
 (refine aR ⟨[0,1,3,4],[(2,⟨[],[(5,⟨[6,7],[]⟩)]⟩)]⟩ (h:=?_))
 all_goals repeat' (first|refine ab (hc:=ci _ aa) ?_|refine gd ?_|refine ay (hy:=by first|(apply dr;rfl;rfl;(try simp only [Zl]);omega)) ?_|refine az ?_ (h':=?_)|exact aA|refine gs1 fun _=>?_|(refine gq ?_ ?_<;>intro hx_ this)|fail)
 all_goals
  repeat' (first|refine gs ?_|refine gs1 fun _=>?_|(refine gp ?_ ?_<;>intro hx_ this)|fail)
  refine ad (ag rfl rfl) ?_
  simp only [dV,eu,ByteArray.append_empty]
theorem cd {n l h:Int} (w:withinB n l h=true):l≤n∧n≤h:=by
 simpa only [withinB,ZM,ZT] using w
theorem sR {e s:Int} (w:sigB e s=true):(0≤e∧e≤2305843009213693949)∧0≤s∧s≤2305843009213693949:=by
 rw [sigB,ZM] at w
 exact ⟨cd w.1,cd w.2⟩
theorem ik {s:ByteArray} (h:isId s=true):s.size=16:=by
 rw [isId,ZM,ZT] at h
 exact_mod_cast h.1
theorem iB {s:ByteArray} (h:isDigestB s=true):s.size=32:=by
 rw [isDigestB,ZT] at h
 exact_mod_cast h
theorem dG {s:ByteArray} (h:seqB s ⟨#[]⟩=true):s.size=0:=by
 rw [seqB_iff.1 h];rfl
theorem il {c:ClaimD} (h:claimR c=true):c.Lt∧c.Sm:=by
 simp only [claimR,ZM] at h
 obtain ⟨h1,h2,h3,h4,h5,h6,h7,h8⟩:=h
 have e1:=ik h1
 have e2:=cd h2
 have e3:=iB h3
 have e4:=cd h4
 have e5:=cd h5
 have e6:=cd h6
 have e7:=cd h7
 have e8:=sR h8
 exact ⟨⟨by omega,by omega,by omega,by omega,by omega,by omega,by omega⟩,⟨by omega,by omega⟩⟩
theorem fC {c:BallotD} (h:ballotR c=true):c.Lt∧c.Sm:=by
 simp only [ballotR,ZM] at h
 obtain ⟨h2,h1,h4,h3,h7,h8⟩:=h
 have e1:=ik h1
 have e2:=cd h2
 have e3:=iB h3
 have e4:=cd h4
 have e7:=cd h7
 have e8:=sR h8
 exact ⟨⟨by omega,by omega,by omega,by omega,by omega⟩,⟨by omega,by omega⟩⟩
theorem ox {m:Nat}:∀ {l:List ByteArray},(∀ x∈l,x.size≤m)→(cats l).size≤l.length*m
 | [],_=>by simp [cats]
 | a::l,h=>by
  have h1:=h a ar
  have h2:=ox (m:=m) (l:=l) fun x hx=>h x (ZS _ hx)
  rw [cats,Zl,ZY,Nat.add_mul]
  omega
theorem tB {l:List ByteArray} (h:isIds l=true):(listV l).size≤2000:=by
 rw [isIds,ZM,Bool.not_eq_true',decide_eq_false_iff_not] at h
 have hl:l.length≤64:=by omega
 have he:∀ x∈l,x.size=16:=fun x hx=>by
  obtain ⟨k,hk,rfl⟩:=List.getElem_of_mem hx
  have h2:=h.2
  rw [allB,List.all_eq_true] at h2
  have h3:=h2 k (List.mem_range.2 hk)
  rw [Bool.not_eq_true',badIds,Bool.or_eq_false_iff,Bool.not_eq_false'] at h3
  have h4:=h3.1
  rw [ZL,Zm hk,Option.getD_some] at h4
  exact ik h4
 have h1:=ao (l.length:Int)
 have h2:=ox (m:=26) (l:=l.map textV) fun x hx=>by
  obtain ⟨y,hy,rfl⟩:=List.mem_map.1 hx
  have:=ao (y.size:Int)
  rw [textV,Zl,he y hy]
  have:=ao ((16:Nat):Int)
  omega
 rw [Z3] at h2
 rw [listV,Zl]
 omega
theorem xa:(listV []).size≤2000:=by
 have h1:=ao ((0:Nat):Int)
 rw [listV,Zl]
 simp only [List.map_nil,cats,ByteArray.size_empty,Qi]
 omega
theorem ix {d:DecD} (hn:d.to.n=d.toL.length) (h:plainD d=true):(listV d.toL).size≤2000∧d.n=0:=by
 rw [plainD,ZM,ZT,ZT] at h
 have:d.toL=[]:=List.length_eq_zero_iff.1 aa
 rw [this]
 exact ⟨xa,h.2⟩
theorem gN {d:DecD} (h:reasonD d=true):d.text.size≤500:=by
 rw [reasonD,ZT] at h
 omega
theorem sA {d:DecD} (hn:d.to.n=d.toL.length) (h:termsB d=true):d.Sm∧0≤d.n∧d.n≤64∧d.kind<10:=by
 rw [termsB] at h
 cases hA:kindA d.kind with
 | true =>
  rw [hA,ZC] at h
  simp only [ZM] at h
  have e1:=ik h.1
  have e2:=dG h.2.1
  have e3:=gN h.2.2.1
  have e4:=ix hn h.2.2.2
  simp only [kindA,Bool.or_eq_true,ZT] at hA
  exact ⟨⟨by omega,by omega,by omega,by omega⟩,by omega,by omega,by omega⟩
 | false =>
  rw [hA,ZB] at h
  cases hO:kindO d.kind with
  | true =>
   rw [hO,ZC] at h
   simp only [ZM] at h
   have e1:=dG h.1
   have e2:=iB h.2.1
   have e3:=gN h.2.2.1
   have e4:=ix hn h.2.2.2
   simp only [kindO,Bool.or_eq_true,ZT] at hO
   exact ⟨⟨by omega,by omega,by omega,by omega⟩,by omega,by omega,by omega⟩
  | false =>
   rw [hO,ZB] at h
   cases h8:decide (d.kind=8) with
   | true =>
    rw [h8,ZC] at h
    simp only [ZM] at h
    have e1:=dG h.1
    have e2:=dG h.2.1
    have e3:=gN h.2.2.1
    have e4:=tB h.2.2.2.1
    have e5:=cd h.2.2.2.2
    have e6:=aP h8
    have e7:d.toL.length≤64:=by
     have:=h.2.2.2.1
     rw [isIds,ZM,Bool.not_eq_true',decide_eq_false_iff_not] at this
     omega
    exact ⟨⟨by omega,by omega,by omega,by omega⟩,by omega,by omega,by omega⟩
   | false =>
    rw [h8,ZB] at h
    cases h9:decide (d.kind=9) with
    | true =>
     rw [h9,ZC] at h
     simp only [ZM] at h
     have e1:=dG h.1
     have e2:=dG h.2.1
     have e3:=aP h.2.2.1
     have e4:=ix hn h.2.2.2
     have e6:=aP h9
     exact ⟨⟨by omega,by omega,by omega,by omega⟩,by omega,by omega,by omega⟩
    | false=>rw [h9] at h;cases h
theorem js {d:DecD} (hn:d.to.n=d.toL.length) (h:decR d=true):d.Lt∧d.Sm:=by
 simp only [decR,ZM] at h
 obtain ⟨h1,h2,h3,h4,h5,h6,h7⟩:=h
 have e1:=cd h1
 have e2:=cd h2
 have e3:=cd h3
 have e4:=cd h4
 obtain ⟨e6,e7,e8,e9⟩:=sA hn h6
 have e10:=sR h7
 exact ⟨⟨by omega,by omega,by omega,by omega,by omega,by omega,by omega,by omega⟩,e6⟩
theorem fG {c:ClaimD} (hs:c.Sm):(coreCl c).size≤3000000:=by
 have h1:=hs.actor
 have h2:=hs.prev
 have s1:=ax c.actor
 have s2:=ax c.prev
 have n1:=ao c.base
 have n2:=ao c.gen
 have n3:=ao c.home
 have n4:=ao c.pub
 have n5:=ao c.time
 simp only [coreCl,de,dz,dV,eu,ByteArray.append_empty,Zl]
 omega
theorem eA {c:BallotD} (hs:c.Sm):(coreBa c).size≤3000000:=by
 have h1:=hs.actor
 have h2:=hs.claim
 have s1:=ax c.actor
 have s2:=ax c.claim
 have n1:=ao c.server
 have n2:=ao c.gen
 have n3:=ao c.time
 simp only [coreBa,de,dz,dV,eu,ByteArray.append_empty,Zl]
 omega
theorem ew {c:DecD} (hs:c.Sm):(coreDe c).size≤5000000:=by
 have h1:=hs.actor
 have h2:=hs.object
 have h3:=hs.text
 have h4:=hs.to
 have s1:=ax c.actor
 have s2:=ax c.object
 have s3:=ax c.text
 have n1:=ao c.server
 have n2:=ao c.number
 have n3:=ao c.kind
 have n4:=ao c.n
 have n5:=ao c.from_
 have n6:=ao c.until_
 simp only [coreDe,de,dz,dV,eu,ByteArray.append_empty,Zl]
 omega
theorem gQ {nm p:ByteArray} (h:nm.size≤20) (hp:p.size≤5000000):(textsV [nm]++p).size≤6000000:=by
 have s1:=ax nm
 simp only [de,dz,ByteArray.append_empty,Zl]
 omega
theorem dD (e s:Int):(numsV [e,s]).size≤20:=by
 have n1:=ao e
 have n2:=ao s
 simp only [dV,eu,ByteArray.append_empty,Zl]
 omega
def bodyIt (i:ItemD):ByteArray:=bif decide (i.kind=0) then actBytes i.act else bif decide (i.kind=1) then coreCl i.claim++numsV [i.claim.e,i.claim.s] else bif decide (i.kind=2) then coreBa i.ballot++numsV [i.ballot.e,i.ballot.s] else coreDe i.dec++numsV [i.dec.e,i.dec.s]
def bytesIt (i:ItemD):ByteArray:=bif rightIt i then numV i.kind++bodyIt i else ⟨#[]⟩
def digIt (i:ItemD):ByteArray:=bif seqB (bytesIt i) ⟨#[]⟩ then ⟨#[]⟩ else shaV (bytesIt i)
theorem df {i:ItemD} (h:rightIt i=true):i.kind=0∧rightB i.act=true∨i.kind=1∧claimR i.claim=true∨i.kind=2∧ballotR i.ballot=true∨i.kind=3∧decR i.dec=true:=by
 rw [rightIt,ZM] at h
 have h:=h.1
 rw [rightK2] at h
 by_cases h0:i.kind=0
 · rw [ZA h0] at h;exact .inl ⟨h0,h⟩
 by_cases h1:i.kind=1
 · rw [Zn h0,ZA h1] at h;exact .inr (.inl ⟨h1,h⟩)
 by_cases h2:i.kind=2
 · rw [Zn h0,Zn h1,ZA h2] at h;exact .inr (.inr (.inl ⟨h2,h⟩))
 by_cases h3:i.kind=3
 · rw [Zn h0,Zn h1,Zn h2,ZA h3] at h;exact .inr (.inr (.inr ⟨h3,h⟩))
 rw [Zn h0,Zn h1,Zn h2,Zn h3] at h
 cases h
theorem kf {i:ItemD} (h:i.kind=0) (hr:rightIt i=true):rightB i.act=true:=by
 rcases df hr with h1|h1|h1|h1
 · exact h1.2
 all_goals (rw [h] at h1;exact absurd h1.1 (by decide))
theorem gZ {i:ItemD} (hr:i.act.Rng) (hn:i.dec.to.n=i.dec.toL.length) (h:rightIt i=true):(bodyIt i).size≤300000000025:=by
 rw [bodyIt]
 rcases df h with ⟨h0,h1⟩|⟨h0,h1⟩|⟨h0,h1⟩|⟨h0,h1⟩
 · have:=fK hr
   rw [h0]
   show (actBytes i.act).size≤_
   omega
 · have:=fG (il h1).2
   have:=dD i.claim.e i.claim.s
   rw [h0]
   show (coreCl i.claim++numsV [i.claim.e,i.claim.s]).size≤_
   rw [Zl]
   omega
 · have:=eA (fC h1).2
   have:=dD i.ballot.e i.ballot.s
   rw [h0]
   show (coreBa i.ballot++numsV [i.ballot.e,i.ballot.s]).size≤_
   rw [Zl]
   omega
 · have:=ew (js hn h1).2
   have:=dD i.dec.e i.dec.s
   rw [h0]
   show (coreDe i.dec++numsV [i.dec.e,i.dec.s]).size≤_
   rw [Zl]
   omega
theorem jv {i:ItemD} (hr:i.act.Rng) (hn:i.dec.to.n=i.dec.toL.length):(bytesIt i).size≤300000000040:=by
 rw [bytesIt]
 cases h:rightIt i with
 | false=>rw [ZB];simp [ByteArray.size]
 | true =>
  have:=gZ hr hn h
  have:=ao i.kind
  rw [ZC,Zl]
  omega
set_option maxRecDepth 20000 in
set_option maxHeartbeats 16000000 in
theorem ni (i:ItemD) (hr:i.act.Rng) (hdn:i.dec.to.n=i.dec.toL.length):Pu Tryz.prog 36 #[i.v] (fun w=>i.at_ w) (.string (bytesIt i)):=by
 have hri:=dH i
 have hbs:=@gZ i hr hdn
 rw [bytesIt]
 cases hrB:rightIt i with
 | false =>
  rw [hrB] at hri
  refine ak (args:=[_]) _ Tryz.func36 rfl Tryz.ntmps36 rfl fun av bor w0=>?_
  repeat' (first|(refine ab (hc:=hri) (hX:=fun w h=>h) ?_)|refine gs ?_|refine gs1 fun _=>?_|(refine gp ?_ ?_<;>intro hx_ this)|fail)
  all_goals exact ad (ag rfl rfl) rfl
 | true =>
 rw [hrB] at hri
 have hk:=df hrB
 replace hbs:=hbs hrB
 have hkl:i.kind<9223372036854775808:=by rcases hk with h|h|h|h<;>omega
 refine ak (args:=[_]) _ Tryz.func36 rfl Tryz.ntmps36 rfl fun av bor w0=>?_
 repeat' (first|(refine ab (hc:=hri) (hX:=fun w h=>h) ?_)|refine gs ?_|refine gs1 fun _=>?_|(refine gp ?_ ?_<;>intro hx_ this)|fail)
 rename_i bi bb bs
 have hS:(⟨#[]⟩:ByteArray)++numsV [i.kind]=numV i.kind:=by
  show ByteArray.empty++(numV i.kind++ByteArray.empty)=numV i.kind
  rw [ByteArray.append_empty,ByteArray.empty_append]
 have hnk:=ao i.kind
 have hns:(⟨#[]⟩:ByteArray).size+(numsV [i.kind]).size≤1099511627776:=by
  rw [←Zl,hS]
  omega
 refine aX ?_
 refine fo 5 1 ?_
 refine da (l:=bld bb none 0 ⟨#[]⟩++[cel bi 63 i.cells]) (List.Perm.swap _ _ _) ?_
 refine bZ (pre:=bld bb none 0 ⟨#[]⟩) (fr:=[cel bi 63 i.cells]) (hc:=d9 bb none 0 ⟨#[]⟩ ⟨some ⟨bs,0,none⟩,1,1⟩ [i.kind] (by simpa using hkl) hns) (hX:=fun w h=>aJ (xs:=[[.int .i64 i.kind]]) h.2 rfl (by decide) (by simp)) (h:=?_)
 rintro v R X' ⟨A1,c1,rfl,rfl⟩
 refine cE (X':=fun w=>i.at_ w) (fun w h=>h.1.1) ?_
 rw [hS]
 generalize hs1:numV i.kind=s1 at *
 rw [bodyIt] at hbs ⊢
 rcases hk with ⟨h0,h1⟩|⟨h0,h1⟩|⟨h0,h1⟩|⟨h0,h1⟩
 · rw [ZA h0,ZC] at hbs ⊢
   have hab:=kF i.act (dk hr) ⟨hr.ints.2.2.2.2.2.2.2.1,hr.ints.2.2.2.2.2.2.2.2⟩
   generalize actBytes i.act=body at *
   unfold bld
   repeat' (first|refine aE (hab:=h0) ?_|refine gs ?_|refine gs1 fun _=>?_|(refine gp ?_ ?_<;>intro hx_ this)|fail)
   simp only [Qa,Qb]
   (refine aq ⟨[0,2,3],[(1,⟨[],[(4,⟨[],[(5,⟨[6],[(7,⟨[],[]⟩)]⟩)]⟩)]⟩),(4,⟨[],[(1,⟨[],[(5,⟨[6],[(7,⟨[],[]⟩)]⟩)]⟩)]⟩)]⟩ [cel bi 63 i.cells] (fun w=>i.at_ w) (h:=?_))
   all_goals repeat' (first|(refine ab (hc:=hab) (hX:=fun w h=>h.1) ?_)|refine gdz ?_|refine ay (hsub:=by exact aF) (hy:=by first|(apply cr (vs:=i.act.cells);rfl;exact .head _;rfl;rfl)) ?_|refine az ?_ (h':=?_)|exact aA|(refine iz ?_;refine aH (size:=1) (z:=.int .u8 0) rfl rfl rfl rfl (fun _=>At.there _ (At.here _)) (fun w G=>ic aa) aa (by simp only [maxLen];omega) rfl ?_ rfl ?_;(first|with_reducible rfl|with_reducible assumption|with_reducible exact ZI|with_reducible exact ZK);intro A2 c2)|refine gs1 fun _=>?_|(refine gq ?_ ?_<;>intro hx_ this)|fail)
   all_goals
    repeat' (first|refine gs ?_|refine gs1 fun _=>?_|(refine gp ?_ ?_<;>intro hx_ this)|fail)
    rw [←ca,←dJ]
    refine eD (hm:=ZS _ ar) ?_
    repeat' (first|refine gs ?_|refine gs1 fun _=>?_|(refine gp ?_ ?_<;>intro hx_ this)|fail)
    apply ad;apply ag;rfl;rfl
    simp only [cB,ZC]
 · rw [Zn (show ¬ i.kind=0 by omega),ZB,ZA h0,ZC] at hbs ⊢
   obtain ⟨hl,hsm⟩:=il h1
   have hfo:=mG i h0
   have hcs:=fG hsm
   have hn2:=dD i.claim.e i.claim.s
   have hc1:=fun (A:Option Addr) (c:Nat)=>ov bb A c s1 i hl aa
   have hc2:=fun (A:Option Addr) (c:Nat) (p:ByteArray) (hp:p.size≤6000000) (sl:SlV)=>d9 bb A c p sl [i.claim.e,i.claim.s] (by simp;exact ⟨hl.e,hl.s⟩) aa
   generalize coreCl i.claim=core at *
   generalize numsV [i.claim.e,i.claim.s]=sg at *
   unfold bld
   repeat' (first|refine aD (hab:=by omega) ?_|(refine ab (hc:=hfo) (hX:=fun _ _=>trivial) ?_)|refine gs ?_|refine gs1 fun _=>?_|(refine gp ?_ ?_<;>intro hx_ this)|fail)
   rename_i bf
   refine da (l:=bld bb A1 c1 s1++[cel bf 142 (formCells nameC 139 i.claim.e i.claim.s),cel bi 63 i.cells]) (show List.Perm ([_]++[_,_]++[_]) ([_,_]++[_]++[_]) from List.perm_append_comm.append_right _) ?_
   refine bZ (pre:=bld bb A1 c1 s1) (fr:=[cel bf 142 (formCells nameC 139 i.claim.e i.claim.s),cel bi 63 i.cells]) (hc:=hc1 A1 c1) (hX:=fun _ _=>trivial) (h:=?_)
   rintro v R X' ⟨A2,c2,rfl,rfl⟩
   refine cE (X':=fun w=>i.at_ w) (fun w h=>h.1) ?_
   unfold bld
   repeat' (first|refine gs ?_|refine gs1 fun _=>?_|fail)
   rename_i bs2
   refine aX ?_
   refine bZ (pre:=bld bb A2 c2 (s1++core)) (fr:=[cel bf 142 (formCells nameC 139 i.claim.e i.claim.s),cel bi 63 i.cells]) (hc:=hc2 A2 c2 (s1++core) (by rw [Zl];omega) ⟨some ⟨bs2,0,none⟩,2,2⟩) (hX:=fun w h=>aJ (xs:=[[.int .i64 i.claim.e],[.int .i64 i.claim.s]]) h.2 rfl (by decide) (by simp)) (h:=?_)
   rintro v R X' ⟨A3,c3,rfl,rfl⟩
   unfold bld
   repeat' (first|refine gs ?_|refine gs1 fun _=>?_|fail)
   refine eD (hm:=ZS _ ar) ?_
   repeat' (first|refine gs ?_|refine gs1 fun _=>?_|(refine gp ?_ ?_<;>intro hx_ this)|fail)
   all_goals
    apply ad;apply ag;rfl;rfl
    simp only [cB,ZC,ZV]
 · rw [Zn (show ¬ i.kind=0 by omega),ZB,Zn (show ¬ i.kind=1 by omega),ZB,ZA h0,ZC] at hbs ⊢
   obtain ⟨hl,hsm⟩:=fC h1
   have hfo:=mH i h0
   have hcs:=eA hsm
   have hn2:=dD i.ballot.e i.ballot.s
   have hc1:=fun (A:Option Addr) (c:Nat)=>mZ bb A c s1 i hl aa
   have hc2:=fun (A:Option Addr) (c:Nat) (p:ByteArray) (hp:p.size≤6000000) (sl:SlV)=>d9 bb A c p sl [i.ballot.e,i.ballot.s] (by simp;exact ⟨hl.e,hl.s⟩) aa
   generalize coreBa i.ballot=core at *
   generalize numsV [i.ballot.e,i.ballot.s]=sg at *
   unfold bld
   repeat' (first|refine aD (hab:=by omega) ?_|(refine ab (hc:=hfo) (hX:=fun _ _=>trivial) ?_)|refine gs ?_|refine gs1 fun _=>?_|(refine gp ?_ ?_<;>intro hx_ this)|fail)
   rename_i bf
   refine da (l:=bld bb A1 c1 s1++[cel bf 142 (formCells nameB 140 i.ballot.e i.ballot.s),cel bi 63 i.cells]) (show List.Perm ([_]++[_,_]++[_]) ([_,_]++[_]++[_]) from List.perm_append_comm.append_right _) ?_
   refine bZ (pre:=bld bb A1 c1 s1) (fr:=[cel bf 142 (formCells nameB 140 i.ballot.e i.ballot.s),cel bi 63 i.cells]) (hc:=hc1 A1 c1) (hX:=fun _ _=>trivial) (h:=?_)
   rintro v R X' ⟨A2,c2,rfl,rfl⟩
   refine cE (X':=fun w=>i.at_ w) (fun w h=>h.1) ?_
   unfold bld
   repeat' (first|refine gs ?_|refine gs1 fun _=>?_|fail)
   rename_i bs2
   refine aX ?_
   refine bZ (pre:=bld bb A2 c2 (s1++core)) (fr:=[cel bf 142 (formCells nameB 140 i.ballot.e i.ballot.s),cel bi 63 i.cells]) (hc:=hc2 A2 c2 (s1++core) (by rw [Zl];omega) ⟨some ⟨bs2,0,none⟩,2,2⟩) (hX:=fun w h=>aJ (xs:=[[.int .i64 i.ballot.e],[.int .i64 i.ballot.s]]) h.2 rfl (by decide) (by simp)) (h:=?_)
   rintro v R X' ⟨A3,c3,rfl,rfl⟩
   unfold bld
   repeat' (first|refine gs ?_|refine gs1 fun _=>?_|fail)
   refine eD (hm:=ZS _ ar) ?_
   repeat' (first|refine gs ?_|refine gs1 fun _=>?_|(refine gp ?_ ?_<;>intro hx_ this)|fail)
   all_goals
    apply ad;apply ag;rfl;rfl
    simp only [cB,ZC,ZV]
 · rw [Zn (show ¬ i.kind=0 by omega),ZB,Zn (show ¬ i.kind=1 by omega),ZB,Zn (show ¬ i.kind=2 by omega),ZB] at hbs ⊢
   obtain ⟨hl,hsm⟩:=js hdn h1
   have hfo:=mF i h0
   have hcs:=ew hsm
   have hn2:=dD i.dec.e i.dec.s
   have hc1:=fun (A:Option Addr) (c:Nat)=>jr bb A c s1 i hl aa
   have hc2:=fun (A:Option Addr) (c:Nat) (p:ByteArray) (hp:p.size≤6000000) (sl:SlV)=>d9 bb A c p sl [i.dec.e,i.dec.s] (by simp;exact ⟨hl.e,hl.s⟩) aa
   generalize coreDe i.dec=core at *
   generalize numsV [i.dec.e,i.dec.s]=sg at *
   unfold bld
   repeat' (first|refine aD (hab:=by omega) ?_|(refine ab (hc:=hfo) (hX:=fun _ _=>trivial) ?_)|refine gs ?_|refine gs1 fun _=>?_|(refine gp ?_ ?_<;>intro hx_ this)|fail)
   rename_i bf
   refine da (l:=bld bb A1 c1 s1++[cel bf 142 (formCells nameD 141 i.dec.e i.dec.s),cel bi 63 i.cells]) (show List.Perm ([_]++[_,_]++[_]) ([_,_]++[_]++[_]) from List.perm_append_comm.append_right _) ?_
   refine bZ (pre:=bld bb A1 c1 s1) (fr:=[cel bf 142 (formCells nameD 141 i.dec.e i.dec.s),cel bi 63 i.cells]) (hc:=hc1 A1 c1) (hX:=fun w h=>h) (h:=?_)
   rintro v R X' ⟨A2,c2,rfl,rfl⟩
   refine cE (X':=fun w=>i.at_ w) (fun w h=>h.1) ?_
   unfold bld
   repeat' (first|refine gs ?_|refine gs1 fun _=>?_|fail)
   rename_i bs2
   refine aX ?_
   refine bZ (pre:=bld bb A2 c2 (s1++core)) (fr:=[cel bf 142 (formCells nameD 141 i.dec.e i.dec.s),cel bi 63 i.cells]) (hc:=hc2 A2 c2 (s1++core) (by rw [Zl];omega) ⟨some ⟨bs2,0,none⟩,2,2⟩) (hX:=fun w h=>aJ (xs:=[[.int .i64 i.dec.e],[.int .i64 i.dec.s]]) h.2 rfl (by decide) (by simp)) (h:=?_)
   rintro v R X' ⟨A3,c3,rfl,rfl⟩
   unfold bld
   repeat' (first|refine gs ?_|refine gs1 fun _=>?_|fail)
   refine eD (hm:=ZS _ ar) ?_
   repeat' (first|refine gs ?_|refine gs1 fun _=>?_|(refine gp ?_ ?_<;>intro hx_ this)|fail)
   all_goals
    apply ad;apply ag;rfl;rfl
    simp only [cB,ZC,ZV]
theorem du (i:ItemD) (hr:i.act.Rng) (hdn:i.dec.to.n=i.dec.toL.length):Pu Tryz.prog 14 #[i.v] (fun w=>i.at_ w∧Glob w) (.string (digIt i)):=by
 refine ak (args:=[_]) _ Tryz.func14 rfl Tryz.ntmps14 rfl fun av bor w0=>?_
 have hsz:=jv hr hdn
 have hb:=ni i hr hdn
 repeat' (first|(refine ab (hc:=hb) (hX:=fun w h=>h.1) ?_)|refine ab (hc:=oW _ aa) ?_|refine gs ?_|refine gs1 fun _=>?_|(refine gp ?_ ?_<;>intro hx_ this)|fail)
 all_goals (apply ad;apply ag;rfl;rfl)
 · simp only [digIt,hx_,ZC]
 · simp only [digIt,hx_,ZB]
theorem xu {i:ItemD} (h:i.kind=0) (hr:rightIt i=true):digIt i=digV i.act:=by
 have e:bytesIt i=bytesV i.act:=by rw [bytesIt,bytesV,hr,kf h hr,ZC,ZC,bodyIt,h];rfl
 rw [digIt,digV,e]
theorem tM (p:Int) (c:ClaimD) (h:claimR c=true):Pu Tryz.prog 112 #[.int .i64 p,c.v] Glob (.bool (sgnC p c)):=by
 refine ak (args:=[_,_]) _ Tryz.func112 rfl Tryz.ntmps112 rfl fun av bor w0=>?_
 obtain ⟨hl,hsm⟩:=il h
 have hsi:=oU p (ofClaimI c) rfl hl (Qr (gQ (by decide) (Qr (fG hsm) (by decide))) (by decide))
 have hat:∀ w,(ofClaimI c).at_ w:=fun w=>⟨⟨bp w 1,bp w 5⟩,bp w 1⟩
 repeat' (first|(refine ab (hc:=gj c) (hX:=fun _ _=>trivial) ?_)|(refine ab (hc:=hsi) (hX:=fun w h=>⟨hat w,h⟩) ?_)|refine gs ?_|refine gs1 fun _=>?_|(refine gp ?_ ?_<;>intro hx_ this)|fail)
 exact ad (ag rfl rfl) rfl
def signedIt (L:List Int) (i:ItemD):Bool:=rightIt i&&bif decide (i.kind=2) then decide (i.ballot.server<(L.length:Nat))&&sgnB (L.getD i.ballot.server.toNat 0) i.ballot else bif decide (i.kind=3) then decide (i.dec.server<(L.length:Nat))&&sgnD (L.getD i.dec.server.toNat 0) i.dec else true
set_option maxRecDepth 20000 in
set_option maxHeartbeats 16000000 in
theorem gH (s:SlV) (L:List Int) (i:ItemD) (hdn:i.dec.to.n=i.dec.toL.length):Pu Tryz.prog 64 #[s.v,i.v] (fun w=>(Ints w s L∧i.at_ w)∧Glob w) (.bool (signedIt L i)):=by
 refine ak (args:=[_,_]) _ Tryz.func64 rfl Tryz.ntmps64 rfl fun av bor w0=>?_
 refine aO (p:=s.n=L.length∧s.n≤maxLen∧(0<L.length→s.p.isSome=true)) (fun w h=>⟨h.1.1.len_,Qr (RowsD.cap h.1.1) (RowsD.max h.1.1),h.1.1.some_⟩) fun ⟨hsn,hsm,hsp⟩=>?_
 simp only [maxLen] at hsm
 have hri:=dH i
 cases hrB:rightIt i with
 | false =>
  rw [hrB] at hri
  rw [show signedIt L i=false from by rw [signedIt,hrB];rfl]
  repeat' (first|(refine ab (hc:=hri) (hX:=fun w h=>h.1.2) ?_)|refine gs ?_|refine gs1 fun _=>?_|(refine gp ?_ ?_<;>intro hx_ this)|fail)
  exact ad (ag rfl rfl) rfl
 | true =>
 rw [hrB] at hri
 have hk:=df hrB
 by_cases h2:i.kind=2
 · rcases hk with h|h|h|h
   all_goals first|(exfalso;omega)|skip
   have h1:=h.2
   clear h
   obtain ⟨hl,hz⟩:=fC h1
   have hlo:0≤i.ballot.server:=(cd (by have:=h1;simp only [ballotR,ZM] at this;exact this.1)).1
   have hms:=gQ (nm:=nameB) (by decide) (Qr (eA hz) (by decide))
   have hsg:=fun p:Int=>oV p i h2 hl (Qr hms (by decide))
   by_cases hlt:i.ballot.server<(L.length:Nat)
   · have hsp':=hsp aa
     have e:signedIt L i=sgnB (L.getD i.ballot.server.toNat 0) i.ballot:=by rw [signedIt,hrB,ZA h2,ZC,ZA hlt,ZD,ZD]
     rw [e]
     have hget:∀ w,(Ints w s L∧i.at_ w)∧Glob w→CellAt w s.p i.ballot.server.toNat (.int .i64 (L.getD i.ballot.server.toNat 0)):=fun w h=>Ints.get h.1.1 aa
     have hsg1:=hsg (L.getD i.ballot.server.toNat 0)
     generalize L.getD i.ballot.server.toNat 0=pk at *
     repeat' (first|refine aE (hab:=by omega) ?_|refine aD (hab:=by omega) ?_|(refine ab (hc:=hri) (hX:=fun w h=>h.1.2) ?_)|refine gs ?_|refine gs1 fun _=>?_|(refine gp ?_ ?_<;>intro hx_ this)|fail)
     rename_i b3
     (refine aq ⟨[0,1,2,3,4,5,6,7,8,9],[(10,⟨[11,12],[]⟩)]⟩ [cel b3 63 i.cells] (fun w=>(Ints w s L∧i.at_ w)∧Glob w) (h:=?_))
     all_goals repeat' (first|refine ay (hsub:=by exact aF) (hy:=by first|(apply cv true;rfl;rfl;exact ZA aa)) ?_|(refine ab (hc:=hsg1) (hX:=fun w h=>⟨h.1.2,h.2⟩) ?_)|refine gdz ?_|refine ay (hsub:=by exact aF) (hy:=by first|(apply aB (q:=i.ballot.server.toNat);rfl;rfl;omega;omega;assumption;omega)|(apply eI (q:=i.ballot.server.toNat) (u:=.int .i64 pk);rfl;exact hget)) ?_|refine az ?_ (h':=?_)|exact aA|refine gs1 fun _=>?_|(refine gq ?_ ?_<;>intro hx_ this)|fail)
     all_goals
      repeat' (first|refine gs ?_|refine gs1 fun _=>?_|(refine gp ?_ ?_<;>intro hx_ this)|fail)
      exact ad (ag rfl rfl) rfl
   · have e:signedIt L i=false:=by rw [signedIt,hrB,ZA h2,ZC,Zn hlt];rfl
     rw [e]
     repeat' (first|refine aE (hab:=by omega) ?_|refine aD (hab:=by omega) ?_|(refine ab (hc:=hri) (hX:=fun w h=>h.1.2) ?_)|refine gs ?_|refine gs1 fun _=>?_|(refine gp ?_ ?_<;>intro hx_ this)|fail)
     rename_i b3
     (refine aq ⟨[0,1,2,3,4,5,6,7,8,9],[(10,⟨[11,12],[]⟩)]⟩ [cel b3 63 i.cells] (fun w=>(Ints w s L∧i.at_ w)∧Glob w) (h:=?_))
     all_goals repeat' (first|refine ay (hsub:=by exact aF) (hy:=by first|(apply cv false;rfl;rfl;exact Zn aa)) ?_|refine gdz ?_|refine az ?_ (h':=?_)|exact aA|refine gs1 fun _=>?_|(refine gq ?_ ?_<;>intro hx_ this)|fail)
     all_goals
      repeat' (first|refine gs ?_|refine gs1 fun _=>?_|(refine gp ?_ ?_<;>intro hx_ this)|fail)
      exact ad (ag rfl rfl) rfl
 by_cases h3:i.kind=3
 · rcases hk with h|h|h|h
   all_goals first|(exfalso;omega)|skip
   have h1:=h.2
   clear h
   obtain ⟨hl,hz⟩:=js hdn h1
   have hlo:0≤i.dec.server:=(cd (by have:=h1;simp only [decR,ZM] at this;exact this.1)).1
   have hms:=gQ (nm:=nameD) (by decide) (Qr (ew hz) (by decide))
   have hsg:=fun p:Int=>oT p i h3 hl (Qr hms (by decide))
   by_cases hlt:i.dec.server<(L.length:Nat)
   · have hsp':=hsp aa
     have e:signedIt L i=sgnD (L.getD i.dec.server.toNat 0) i.dec:=by rw [signedIt,hrB,Zn h2,ZB,ZA h3,ZC,ZA hlt,ZD,ZD]
     rw [e]
     have hget:∀ w,(Ints w s L∧i.at_ w)∧Glob w→CellAt w s.p i.dec.server.toNat (.int .i64 (L.getD i.dec.server.toNat 0)):=fun w h=>Ints.get h.1.1 aa
     have hsg1:=hsg (L.getD i.dec.server.toNat 0)
     generalize L.getD i.dec.server.toNat 0=pk at *
     repeat' (first|refine aE (hab:=by omega) ?_|refine aD (hab:=by omega) ?_|(refine ab (hc:=hri) (hX:=fun w h=>h.1.2) ?_)|refine gs ?_|refine gs1 fun _=>?_|(refine gp ?_ ?_<;>intro hx_ this)|fail)
     rename_i b3
     (refine aq ⟨[0,1,2,3,4,5,6,7,8,9],[(10,⟨[11,12],[]⟩)]⟩ [cel b3 63 i.cells] (fun w=>(Ints w s L∧i.at_ w)∧Glob w) (h:=?_))
     all_goals repeat' (first|refine ay (hsub:=by exact aF) (hy:=by first|(apply cv true;rfl;rfl;exact ZA aa)) ?_|(refine ab (hc:=hsg1) (hX:=fun w h=>⟨h.1.2,h.2⟩) ?_)|refine gdz ?_|refine ay (hsub:=by exact aF) (hy:=by first|(apply aB (q:=i.dec.server.toNat);rfl;rfl;omega;omega;assumption;omega)|(apply eI (q:=i.dec.server.toNat) (u:=.int .i64 pk);rfl;exact hget)) ?_|refine az ?_ (h':=?_)|exact aA|refine gs1 fun _=>?_|(refine gq ?_ ?_<;>intro hx_ this)|fail)
     all_goals
      repeat' (first|refine gs ?_|refine gs1 fun _=>?_|(refine gp ?_ ?_<;>intro hx_ this)|fail)
      exact ad (ag rfl rfl) rfl
   · have e:signedIt L i=false:=by rw [signedIt,hrB,Zn h2,ZB,ZA h3,ZC,Zn hlt];rfl
     rw [e]
     repeat' (first|refine aE (hab:=by omega) ?_|refine aD (hab:=by omega) ?_|(refine ab (hc:=hri) (hX:=fun w h=>h.1.2) ?_)|refine gs ?_|refine gs1 fun _=>?_|(refine gp ?_ ?_<;>intro hx_ this)|fail)
     rename_i b3
     (refine aq ⟨[0,1,2,3,4,5,6,7,8,9],[(10,⟨[11,12],[]⟩)]⟩ [cel b3 63 i.cells] (fun w=>(Ints w s L∧i.at_ w)∧Glob w) (h:=?_))
     all_goals repeat' (first|refine ay (hsub:=by exact aF) (hy:=by first|(apply cv false;rfl;rfl;exact Zn aa)) ?_|refine gdz ?_|refine az ?_ (h':=?_)|exact aA|refine gs1 fun _=>?_|(refine gq ?_ ?_<;>intro hx_ this)|fail)
     all_goals
      repeat' (first|refine gs ?_|refine gs1 fun _=>?_|(refine gp ?_ ?_<;>intro hx_ this)|fail)
      exact ad (ag rfl rfl) rfl
 have e:signedIt L i=true:=by rw [signedIt,hrB,Zn h2,Zn h3];rfl
 rw [e]
 repeat' (first|refine aD (hab:=by omega) ?_|(refine ab (hc:=hri) (hX:=fun w h=>h.1.2) ?_)|refine gs ?_|refine gs1 fun _=>?_|(refine gp ?_ ?_<;>intro hx_ this)|fail)
 all_goals exact ad (ag rfl rfl) rfl
def actsFor (L:List ActD) (k:PosK):List ActD:=L.filter fun a=>decide (a.seq=k.1)&&seqB a.prev k.2
structure NextD (q:Nat) (G:List (PosK×SlV)) (L:List ActD) (w:World):Prop where
 map:SMapAt Tryz.prog 120 w q (G.map fun g=>(g.1,g.2.v))
 rows:∀ k,Acts w ((dget G k).getD ⟨none,0,0⟩) (actsFor L k)
theorem gU {κ β γ:Type} [DecidableEq κ] (f:β→γ):∀ (l:List (κ×β)) (k:κ),dget (l.map fun p=>(p.1,f p.2)) k=(dget l k).map f
 | [],_=>rfl
 | (k',v')::r,k=>by
  simp only [Qu,dget,gU f r k]
  cases decide (k=k')<;>rfl
theorem AT {st:ChS} {h:BldH} {sa sk:SlV} {id:ByteArray} (hid:h.id=id) (hn:sa.n=st.acts.length) (a:ActD) (pl:Option Nat):fitsV ⟨h.id,sa,sk,st.prev,(st.gen:Nat),h.fork,st.acts⟩ a pl=fitsV (st.ch id) a pl:=by
 subst hid
 obtain ⟨p,n,c⟩:=sa
 simp only at hn
 subst hn
 rfl
theorem og (l:List KeyD):∀ r∈l.map KeyD.cells,r.length=3:=fun r hr=>by
 obtain ⟨c,_,rfl⟩:=List.mem_map.1 hr
 rfl
theorem nX {l:List ActD} (h:l.length≠1):oneA l=none:=by
 match l,h with
 | [],_=>rfl
 | [x],h=>exact absurd rfl h
 | x::y::r,_=>rfl
structure CanI (M:List ActD) (B:ActD→Bool) where
 k:Nat
 hk:k≤M.length
 A:Option Addr
 c:Nat
 n:Nat
 hn:n=((M.take k).filter B).length
 xs:List Value
 hxs:xs=(((M.take k).filter B).map ActD.cells).flatten
set_option maxHeartbeats 16000000 in
theorem pH (b:Nat) (h:BldH) (sa sk:SlV) (st:ChS) (pl:List (ByteArray×Value)) (ok:BldOk sa sk st pl) (W:OfW) (G:List (PosK×SlV)) (hI:InvS W st) (hid:h.id=W.id)
  (hok:ActsOk W.L) (hL:W.L.length≤100000) (hB:W.B≤100000)
  (hver:∀ a∈W.L,∀ p:Int,Pu Tryz.prog 54 #[.int .i64 p,a.v] (fun w=>a.at_ w∧Glob w) (.bool (W.ver p a))) :
  Ct Tryz.prog 58 #[.pointer (some ⟨b,0,none⟩)] (bldR b h sa sk st pl) (fun w=>(NextD h.q1 G W.L w∧∀ a∈W.L,a.at_ w)∧Glob w)
   (fun u R _=>(∀ a,oneA (candL W st)=some a→BldAt b h (addS st a) (.bool true) u R)∧(oneA (candL W st)=none→BldAt b { h with fork:=decide (1<(candL W st).length) } st (.bool false) u R)):=by
 have hlen:=hI.len
 have hkn:=hI.keyn
 have hgen:=hI.gen
 have ok':=ok
 obtain ⟨hn,hk,hp⟩:=ok
 refine dw (args:=[_]) _ Tryz.func58 rfl Tryz.ntmps58 rfl fun av bor w0=>?_
 obtain ⟨K,hK⟩:∃ K,st.keys[st.keys.length-1]?=some K:=⟨_,Zm (by have:=hI.key;omega)⟩
 have hKey:st.key=K.public_:=by rw [ChS.key,ZL,hK];rfl
 have hk0:=hI.key
 obtain ⟨M,hM⟩:∃ M,actsFor W.L ((sa.n:Int),st.prev)=M:=⟨_,rfl⟩
 have hcand:candL W st=M.filter (candB W st):=by rw [candL,←hM,actsFor,hn];rfl
 have hMm:∀ a∈M,a∈W.L:=fun a ha=>by rw [←hM] at ha;exact (List.mem_filter.1 ha).1
 have hMl:M.length≤W.L.length:=by rw [←hM];exact List.length_filter_le _ _
 obtain ⟨s,hs⟩:∃ s,(dget G ((sa.n:Int),st.prev)).getD ⟨none,0,0⟩=s:=⟨_,rfl⟩
 have hgl:∃ o,dget (G.map fun g=>(g.1,g.2.v)) ((sa.n:Int),st.prev)=o∧o.getD (.slice none 0 0)=s.v:=by
  refine ⟨_,rfl,?_⟩
  rw [gU,←hs]
  cases dget G ((sa.n:Int),st.prev)<;>rfl
 obtain ⟨o,ho,hov⟩:=hgl
 refine aO (p:=s.n=M.length∧s.n≤maxLen∧(0<M.length→s.p.isSome=true)) (fun w h=>by
  have h1:=h.1.1.rows ((sa.n:Int),st.prev)
  rw [hs,hM] at h1
  exact ⟨h1.len_,h1.max_,h1.some_⟩) fun ⟨hsn,hsm,hsp⟩=>?_
 simp only [maxLen] at hsm
 have hro:∀ w,((NextD h.q1 G W.L w∧∀ a∈W.L,a.at_ w)∧Glob w)→Acts w s M:=fun w h=>by
  have h1:=h.1.1.rows ((sa.n:Int),st.prev)
  rwa [hs,hM] at h1
 unfold bldR keyR actR
 refine cL (r:=orow 124 3 (.slice sk.p sk.n sk.c) sk.n (st.keys.map KeyD.cells).flatten) aS (p:=sk.p.isSome=true) (fun w h=>cj h aa) fun hkp=>?_
 repeat' (first|refine gs ?_|refine gs1 fun _=>?_|(refine gp ?_ ?_<;>intro hx_ this)|fail)
 rename_i b1
 have hLOC:True:=trivial
 (refine aq ⟨[0,1,2,3,4,5,6,7,8,9,10,11,12,13],[]⟩ [cel b1 113 [.pointer (some ⟨b,0,none⟩)],cel b 117 (bldC h sa sk st.prev (st.gen:Nat)),orow 50 20 (.slice sa.p sa.n sa.c) sa.n (st.acts.map ActD.cells).flatten,orow 124 3 (.slice sk.p sk.n sk.c) sk.n (st.keys.map KeyD.cells).flatten,mapr h.q2 pl] (fun w=>(NextD h.q1 G W.L w∧∀ a∈W.L,a.at_ w)∧Glob w) (h:=?_))
 all_goals repeat' (first|refine gdz ?_|refine ay (hsub:=by exact aF) (hy:=by first|(apply aB (q:=(sk.n-1)*3);rfl;rfl;omega;omega;assumption;omega)|(apply jA;rfl;assumption;rfl)|(apply fY (xs:=st.keys.map KeyD.cells) (cs:=K.cells) (i:=sk.n-1) (j:=1) (u:=.int .i64 K.public_);rfl;(repeat (first|exact ar|apply ZS));(simp [hk]);exact og st.keys;(simp [hk,hK]);rfl)) ?_|refine az ?_ (h':=?_)|exact aA|refine gs1 fun _=>?_|(refine gq ?_ ?_<;>intro hx_ this)|fail)
 repeat' (first|refine gs ?_|refine gs1 fun _=>?_|(refine dN ?_)|(refine gp ?_ ?_<;>intro hx_ this)|fail)
 (refine aq ⟨[0,1,2,3,4,5,6,7,8,9,10,11,12,13,16],[(14,⟨[15],[]⟩)]⟩ [cel b1 113 [.pointer (some ⟨b,0,none⟩)],cel b 117 (bldC h sa sk st.prev (st.gen:Nat)),orow 50 20 (.slice sa.p sa.n sa.c) sa.n (st.acts.map ActD.cells).flatten,orow 124 3 (.slice sk.p sk.n sk.c) sk.n (st.keys.map KeyD.cells).flatten,mapr h.q2 pl] (fun w=>(NextD h.q1 G W.L w∧∀ a∈W.L,a.at_ w)∧Glob w) (h:=?_))
 all_goals repeat' (first|refine gdz ?_|refine ay (hsub:=by exact aF) (hy:=by first|(apply fD (cs:=[.int .i64 (sa.n:Nat),.string st.prev]);rfl;rfl)) ?_|refine az ?_ (h':=?_)|exact aA|(refine ai (nu (κ:=PosK) (kk:=((sa.n:Int),st.prev)) (z:=.slice none 0 0) (o:=o) (v:=s.v) rfl rfl (qj fun w h=>h.1.1.map) ho hov) rfl rfl rfl ?_)|refine gs1 fun _=>?_|(refine gq ?_ ?_<;>intro hx_ this)|fail)
 apply Qx
 refine cO 50 20 ?_
 refine ap (ι:=CanI M (candB W st)) (fun i=>⟨[(1,.pointer (some ⟨b1,0,none⟩)),(3,.pointer (some ⟨b,2,none⟩)),(4,.int .i64 K.public_),(5,.func (.func 114) #[] #[.pointer (some ⟨b1,0,none⟩)]),(6,.slice i.A i.n i.c),(40,s.v),(41,.int .i64 (s.n:Nat)),(42,.int .i64 (i.k:Nat))],[orow 50 20 (.slice i.A i.n i.c) i.n i.xs,cel b1 113 [.pointer (some ⟨b,0,none⟩)],cel b 117 (bldC h sa sk st.prev (st.gen:Nat)),orow 50 20 (.slice sa.p sa.n sa.c) sa.n (st.acts.map ActD.cells).flatten,orow 124 3 (.slice sk.p sk.n sk.c) sk.n (st.keys.map KeyD.cells).flatten,mapr h.q2 pl],(fun w=>(NextD h.q1 G W.L w∧∀ a∈W.L,a.at_ w)∧Glob w)⟩) (fun i=>M.length-i.k) ⟨0,Nat.zero_le _,none,0,0,rfl,[],rfl⟩ (aj ⟨rfl,rfl,rfl,rfl,rfl,rfl,rfl,rfl,trivial⟩ (al _) fun _ h=>h) fun i=>?_
 obtain ⟨k,hk',A,cc,n,hn',xs,hxs⟩:=i
 simp only
 have hnl:n≤100000:=by have h1:=List.length_filter_le (candB W st) (M.take k);rw [←hn',List.length_take] at h1;omega
 repeat' (first|refine gs ?_|refine gs1 fun _=>?_|(refine gp ?_ ?_<;>intro hx_ this)|fail)
 · have hlt:k<M.length:=by omega
   have hsp':=hsp aa
   obtain ⟨a,ha⟩:∃ a,M[k]?=some a:=⟨_,Zm hlt⟩
   have ham:a∈M:=List.mem_of_getElem? ha
   repeat' (first|refine gs ?_|refine gs1 fun _=>?_|(refine aI (q:=k*20) ?_)|(refine bN (cs:=a.cells) (hF:=fun w h=>Acts.get (hro w h) ha) ?_)|(refine gp ?_ ?_<;>intro hx_ this)|fail)
   rename_i b8
   have hf:=C9 ⟨h.id,sa,sk,st.prev,(st.gen:Nat),h.fork,st.acts⟩ a 114 [.pointer (some ⟨b1,0,none⟩)] (idxV st.acts a.object) _ (Be b b1 h sa sk st pl hp a.object) (fun j hj=>C4 hj)
   rw [AT hid hn] at hf
   have hXf:∀ w,((NextD h.q1 G W.L w∧∀ a∈W.L,a.at_ w)∧Glob w)→(∀ r∈[cel b8 50 a.cells,orow 50 20 (.slice A n cc) n xs,cel b1 113 [.pointer (some ⟨b,0,none⟩)],cel b 117 (bldC h sa sk st.prev (st.gen:Nat)),orow 50 20 (.slice sa.p sa.n sa.c) sa.n (st.acts.map ActD.cells).flatten,orow 124 3 (.slice sk.p sk.n sk.c) sk.n (st.keys.map KeyD.cells).flatten,mapr h.q2 pl],r.F w)→(ChainD.at_ w ⟨h.id,sa,sk,st.prev,(st.gen:Nat),h.fork,st.acts⟩∧a.at_ w∧CelD b1 [.pointer (some ⟨b,0,none⟩)] w∧CelD b (bldC h sa sk st.prev (st.gen:Nat)) w∧MapAt w h.q2 pl):=fun w hw hr =>
    ⟨fj (hr _ (.tail _ (.tail _ (.tail _ (.tail _ (.head _)))))) hn (fun x hx=>hw.1.2 x (hI.mem x hx)),hw.1.2 a (hMm a ham),fi (hr _ (.tail _ (.tail _ (.head _)))),fi (hr _ (.tail _ (.tail _ (.tail _ (.head _))))),hr _ (.tail _ (.tail _ (.tail _ (.tail _ (.tail _ (.tail _ (.head _)))))))⟩
   have hv:=hver a (hMm a ham) K.public_
   have htk:((M.take (k+1)).filter (candB W st))=(M.take k).filter (candB W st)++(bif candB W st a then [a] else []):=by
    rw [List.take_add_one,ha,List.filter_append,Option.toList_some]
    congr 1
   have hcb:candB W st a=(fitsV (st.ch W.id) a (idxV st.acts a.object)&&W.ver K.public_ a):=by rw [candB,hKey]
   cases hfv:fitsV (st.ch W.id) a (idxV st.acts a.object) with
   | false =>
    rw [hfv] at hf hcb
    have hno:(M.take (k+1)).filter (candB W st)=(M.take k).filter (candB W st):=by simp [htk,hcb]
    (refine aq ⟨[0,1,2,3,4],[(5,⟨[6,7,8],[(9,⟨[10],[]⟩)]⟩)]⟩ [cel b8 50 a.cells,orow 50 20 (.slice A n cc) n xs,cel b1 113 [.pointer (some ⟨b,0,none⟩)],cel b 117 (bldC h sa sk st.prev (st.gen:Nat)),orow 50 20 (.slice sa.p sa.n sa.c) sa.n (st.acts.map ActD.cells).flatten,orow 124 3 (.slice sk.p sk.n sk.c) sk.n (st.keys.map KeyD.cells).flatten,mapr h.q2 pl] (fun w=>(NextD h.q1 G W.L w∧∀ a∈W.L,a.at_ w)∧Glob w) (h:=?_))
    all_goals repeat' (first|(refine lV (hc:=hf) (hX:=hXf) ?_)|(refine ab (hc:=hv) (hX:=fun w h=>⟨h.1.2 a (hMm a ham),h.2⟩) ?_)|refine gdz ?_|refine ay (hsub:=by exact aF) (hy:=by first|(apply cr (vs:=[.string h.id,.slice sa.p sa.n sa.c,.slice sk.p sk.n sk.c,.string st.prev,.int .i64 (st.gen:Nat),.bool h.fork]);rfl;(repeat (first|exact ar|apply ZS));rfl;rfl)) ?_|refine az ?_ (h':=?_)|exact aA|refine gs1 fun _=>?_|(refine gq ?_ ?_<;>intro hx_ this)|fail)
    all_goals
     repeat' (first|refine gs ?_|refine gs1 fun _=>?_|(refine gp ?_ ?_<;>intro hx_ this)|fail)
     exact ⟨(⟨k+1,hlt,A,cc,n,by rw [hno];exact hn',xs,by rw [hno];exact hxs⟩:CanI M (candB W st)),(by show M.length-(k+1)<M.length-k;omega),aj ⟨rfl,rfl,rfl,rfl,rfl,rfl,rfl,rfl,trivial⟩ (List.Sublist.cons _ (al _)) fun _ h=>h⟩
   | true =>
    rw [hfv] at hf hcb
    cases hve:W.ver K.public_ a with
    | false =>
     rw [hve] at hv hcb
     have hno:(M.take (k+1)).filter (candB W st)=(M.take k).filter (candB W st):=by simp [htk,hcb]
     (refine aq ⟨[0,1,2,3,4],[(5,⟨[6,7,8],[(9,⟨[10],[]⟩)]⟩)]⟩ [cel b8 50 a.cells,orow 50 20 (.slice A n cc) n xs,cel b1 113 [.pointer (some ⟨b,0,none⟩)],cel b 117 (bldC h sa sk st.prev (st.gen:Nat)),orow 50 20 (.slice sa.p sa.n sa.c) sa.n (st.acts.map ActD.cells).flatten,orow 124 3 (.slice sk.p sk.n sk.c) sk.n (st.keys.map KeyD.cells).flatten,mapr h.q2 pl] (fun w=>(NextD h.q1 G W.L w∧∀ a∈W.L,a.at_ w)∧Glob w) (h:=?_))
     all_goals repeat' (first|(refine lV (hc:=hf) (hX:=hXf) ?_)|(refine ab (hc:=hv) (hX:=fun w h=>⟨h.1.2 a (hMm a ham),h.2⟩) ?_)|refine gdz ?_|refine ay (hsub:=by exact aF) (hy:=by first|(apply cr (vs:=[.string h.id,.slice sa.p sa.n sa.c,.slice sk.p sk.n sk.c,.string st.prev,.int .i64 (st.gen:Nat),.bool h.fork]);rfl;(repeat (first|exact ar|apply ZS));rfl;rfl)) ?_|refine az ?_ (h':=?_)|exact aA|refine gs1 fun _=>?_|(refine gq ?_ ?_<;>intro hx_ this)|fail)
     all_goals
      repeat' (first|refine gs ?_|refine gs1 fun _=>?_|(refine gp ?_ ?_<;>intro hx_ this)|fail)
      exact ⟨(⟨k+1,hlt,A,cc,n,by rw [hno];exact hn',xs,by rw [hno];exact hxs⟩:CanI M (candB W st)),(by show M.length-(k+1)<M.length-k;omega),aj ⟨rfl,rfl,rfl,rfl,rfl,rfl,rfl,rfl,trivial⟩ (List.Sublist.cons _ (al _)) fun _ h=>h⟩
    | true =>
     rw [hve] at hv hcb
     have hyes:(M.take (k+1)).filter (candB W st)=(M.take k).filter (candB W st)++[a]:=by rw [htk,hcb];rfl
     (refine aq ⟨[0,1,2,3,4],[(5,⟨[6,7,8],[(9,⟨[10],[]⟩)]⟩)]⟩ [cel b8 50 a.cells,orow 50 20 (.slice A n cc) n xs,cel b1 113 [.pointer (some ⟨b,0,none⟩)],cel b 117 (bldC h sa sk st.prev (st.gen:Nat)),orow 50 20 (.slice sa.p sa.n sa.c) sa.n (st.acts.map ActD.cells).flatten,orow 124 3 (.slice sk.p sk.n sk.c) sk.n (st.keys.map KeyD.cells).flatten,mapr h.q2 pl] (fun w=>(NextD h.q1 G W.L w∧∀ a∈W.L,a.at_ w)∧Glob w) (h:=?_))
     all_goals repeat' (first|(refine lV (hc:=hf) (hX:=hXf) ?_)|(refine ab (hc:=hv) (hX:=fun w h=>⟨h.1.2 a (hMm a ham),h.2⟩) ?_)|refine gdz ?_|refine ay (hsub:=by exact aF) (hy:=by first|(apply cr (vs:=[.string h.id,.slice sa.p sa.n sa.c,.slice sk.p sk.n sk.c,.string st.prev,.int .i64 (st.gen:Nat),.bool h.fork]);rfl;(repeat (first|exact ar|apply ZS));rfl;rfl)) ?_|refine az ?_ (h':=?_)|exact aA|refine gs1 fun _=>?_|(refine gq ?_ ?_<;>intro hx_ this)|fail)
     all_goals
      repeat' (first|refine cF (size:=20) (vs:=[a.v]) (css:=a.cells) (hsz:=by rfl) (hcs:=by rfl) fun _=>?_|refine gs ?_|refine gs1 fun _=>?_|(refine gp ?_ ?_<;>intro hx_ this)|fail)
      refine aH (size:=20) (news:=a.cells) (q:=1) rfl rfl rfl rfl (fun _=>At.there _ (At.there _ (At.here _))) (fun w G=>bP G ar rfl rfl 1) aa (by simp only [maxLen];omega) rfl ?_ rfl ?_
      · (first|with_reducible rfl|with_reducible assumption|with_reducible exact ZI|with_reducible exact ZK)
      intro A2 c2
      repeat' (first|refine gs ?_|refine gs1 fun _=>?_|(refine gp ?_ ?_<;>intro hx_ this)|fail)
      exact ⟨(⟨k+1,hlt,A2,c2,n+1,by rw [hyes,ZX,←hn'];rfl,xs++a.cells,by rw [hyes,hxs];simp⟩:CanI M (candB W st)),(by show M.length-(k+1)<M.length-k;omega),aj ⟨rfl,rfl,rfl,rfl,rfl,rfl,rfl,rfl,trivial⟩ (List.Sublist.cons _ (List.Sublist.cons _ (al _))) fun _ h=>h⟩
 have hkE:k=M.length:=by omega
 have hfin:candL W st=(M.take k).filter (candB W st):=by rw [hcand,hkE,List.take_length]
 have hnc:n=(candL W st).length:=by rw [hfin];exact hn'
 · have hn1:n≠1:=by
    intro e
    rw [e] at hx_
    exact absurd hx_ (by decide)
   have hone:oneA (candL W st)=none:=nX aa
   have hdc:decide ((1:Int)<(n:Int))=decide (1<(candL W st).length):=by
    rw [←hnc]
    by_cases h1:1<n
    · rw [ZA h1,ZA (by omega)]
    · rw [Zn h1,Zn (by omega)]
   refine ad (ag rfl rfl) ⟨bldR b { h with fork:=decide ((1:Int)<(n:Int)) } sa sk st pl,List.Sublist.cons _ (List.Sublist.cons _ (al _)),fun a ha=>?_,fun _=>?_⟩
   · rw [hone] at ha
     cases ha
   · rw [←hdc]
     exact ⟨rfl,sa,sk,pl,ok',rfl⟩
 have hkE:k=M.length:=by omega
 have hfin:candL W st=(M.take k).filter (candB W st):=by rw [hcand,hkE,List.take_length]
 have hnc:n=(candL W st).length:=by rw [hfin];exact hn'
 have hn1:n=1:=by
  by_cases e:n=1
  · exact e
  · exact absurd hx_ (by simp;omega)
 obtain ⟨a,ha⟩:∃ a,candL W st=[a]:=List.length_eq_one_iff.1 aa
 have ham:a∈W.L:=(ju (show a∈candL W st from by rw [ha];exact List.mem_singleton.2 rfl)).1
 have hxa:xs=a.cells:=by rw [hxs,←hfin,ha];simp
 subst hxa
 subst hn1
 refine cL (r:=orow 50 20 (.slice A 1 cc) 1 a.cells) aS (p:=A.isSome=true) (fun w h=>cj h (by decide)) fun hAp=>?_
 have had:=Bx b h sa sk st pl ok' a (hok.rng a ham) (hok.sm a ham) aa aa
 (refine aq ⟨[1,2],[(0,⟨[],[(3,⟨[],[(4,⟨[],[]⟩)]⟩)]⟩),(3,⟨[],[(0,⟨[],[(4,⟨[],[]⟩)]⟩)]⟩)]⟩ [] (fun _=>True) (h:=?_))
 all_goals repeat' (first|refine gd ?_|refine ay (hy:=by first|(apply aB (q:=0);rfl;rfl;omega;omega;assumption;rfl)) ?_|refine az ?_ (h':=?_)|exact aA|((refine ai (gB (size:=20) (m:=1) (i:=0) (xs:=[a.cells]) (cs:=a.cells) rfl (by exact ar) rfl (fun r hr=>by rw [List.mem_singleton.1 hr];rfl) rfl) rfl rfl rfl ?_))|((refine da (l:=bldR b h sa sk st pl++[orow 50 20 (.slice A 1 cc) 1 a.cells,cel b1 113 [.pointer (some ⟨b,0,none⟩)]]) (List.perm_append_comm (l₁:=[orow 50 20 (.slice A 1 cc) 1 a.cells,cel b1 113 [.pointer (some ⟨b,0,none⟩)]]) (l₂:=bldR b h sa sk st pl)) ?_;refine bZ (pre:=bldR b h sa sk st pl) (fr:=[orow 50 20 (.slice A 1 cc) 1 a.cells,cel b1 113 [.pointer (some ⟨b,0,none⟩)]]) (first:=#[]) (caps:=#[]) (hc:=had) (hX:=fun w hw=>⟨hw.1.2 a ham,hw.2⟩) (h:=?_);rintro v R X' ⟨rfl,sa2,sk2,pl2,ok2,rfl⟩;simp only [bldR,Qa,Qb]))|refine gs1 fun _=>?_|(refine gq ?_ ?_<;>intro hx_ this)|fail)
 all_goals
  repeat' (first|refine gs ?_|refine gs1 fun _=>?_|(refine gp ?_ ?_<;>intro hx_ this)|fail)
  refine ad (ag rfl rfl) ⟨bldR b h sa2 sk2 (addS st a) pl2,List.sublist_append_left _ _,fun a' ha'=>?_,fun ho=>?_⟩
  · rw [ha,oneA,Qc] at ha'
    subst ha'
    exact ⟨rfl,sa2,sk2,pl2,ok2,rfl⟩
  · rw [ha] at ho
    cases ho
end Go.Proofs.YtoefdofbekihdaaGreatDoor
