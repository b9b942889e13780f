/- Joined. -/
import Derived.Test.YtaolfiikahlmkaaGreatDoorX10
set_option linter.unusedVariables false
set_option linter.unusedSimpArgs false
set_option maxHeartbeats 16000000
namespace Go.Proofs.YtaolfiikahlmkaaGreatDoor
open Go Go.Proofs Sy
theorem zS:seqB (⟨#[]⟩:ByteArray) ⟨#[]⟩=true:=by kernel_rfl
theorem zB:boxEq BoxD.zero BoxD.zero=true:=by kernel_rfl
theorem zI:decide ((0:Int)=0)=true:=rfl
theorem zN:decide (((0:Nat):Int)=0)=true:=rfl
theorem my:Nat.testBit 1 0=true:=by decide +kernel
theorem mx:Nat.testBit 1 1=false:=by decide +kernel
theorem mw:Nat.testBit 1 2=false:=by decide +kernel
theorem mv:Nat.testBit 1 3=false:=by decide +kernel
theorem mu:Nat.testBit 1 4=false:=by decide +kernel
theorem ms:Nat.testBit 1 5=false:=by decide +kernel
theorem mr:Nat.testBit 1 6=false:=by decide +kernel
theorem mq:Nat.testBit 1 7=false:=by decide +kernel
theorem mo:Nat.testBit 1 8=false:=by decide +kernel
theorem mn:Nat.testBit 1 9=false:=by decide +kernel
theorem jc:Nat.testBit 1 10=false:=by decide +kernel
theorem l5:Nat.testBit 2 0=false:=by decide +kernel
theorem l4:Nat.testBit 2 1=true:=by decide +kernel
theorem lZ:Nat.testBit 2 2=false:=by decide +kernel
theorem lY:Nat.testBit 2 3=false:=by decide +kernel
theorem lX:Nat.testBit 2 4=false:=by decide +kernel
theorem lW:Nat.testBit 2 5=false:=by decide +kernel
theorem lV:Nat.testBit 2 6=false:=by decide +kernel
theorem lU:Nat.testBit 2 7=false:=by decide +kernel
theorem lT:Nat.testBit 2 8=false:=by decide +kernel
theorem lS:Nat.testBit 2 9=false:=by decide +kernel
theorem ja:Nat.testBit 2 10=false:=by decide +kernel
theorem C9:Nat.testBit 24 0=false:=by decide +kernel
theorem C8:Nat.testBit 24 1=false:=by decide +kernel
theorem C7:Nat.testBit 24 2=false:=by decide +kernel
theorem C6:Nat.testBit 24 3=true:=by decide +kernel
theorem C5:Nat.testBit 24 4=true:=by decide +kernel
theorem C4:Nat.testBit 24 5=false:=by decide +kernel
theorem C3:Nat.testBit 24 6=false:=by decide +kernel
theorem C2:Nat.testBit 24 7=false:=by decide +kernel
theorem C1:Nat.testBit 24 8=false:=by decide +kernel
theorem C0:Nat.testBit 24 9=false:=by decide +kernel
theorem Ao:Nat.testBit 24 10=false:=by decide +kernel
theorem vm:Nat.testBit 33 0=true:=by decide +kernel
theorem vl:Nat.testBit 33 1=false:=by decide +kernel
theorem vk:Nat.testBit 33 2=false:=by decide +kernel
theorem vj:Nat.testBit 33 3=false:=by decide +kernel
theorem vi:Nat.testBit 33 4=false:=by decide +kernel
theorem vg:Nat.testBit 33 5=true:=by decide +kernel
theorem vf:Nat.testBit 33 6=false:=by decide +kernel
theorem ve:Nat.testBit 33 7=false:=by decide +kernel
theorem vd:Nat.testBit 33 8=false:=by decide +kernel
theorem vc:Nat.testBit 33 9=false:=by decide +kernel
theorem qR:Nat.testBit 33 10=false:=by decide +kernel
theorem CZ:Nat.testBit 35 0=true:=by decide +kernel
theorem CY:Nat.testBit 35 1=true:=by decide +kernel
theorem CX:Nat.testBit 35 2=false:=by decide +kernel
theorem CW:Nat.testBit 35 3=false:=by decide +kernel
theorem CV:Nat.testBit 35 4=false:=by decide +kernel
theorem CU:Nat.testBit 35 5=true:=by decide +kernel
theorem CT:Nat.testBit 35 6=false:=by decide +kernel
theorem CS:Nat.testBit 35 7=false:=by decide +kernel
theorem CR:Nat.testBit 35 8=false:=by decide +kernel
theorem CQ:Nat.testBit 35 9=false:=by decide +kernel
theorem Ac:Nat.testBit 35 10=false:=by decide +kernel
theorem An:Nat.testBit 252 0=false:=by decide +kernel
theorem Am:Nat.testBit 252 1=false:=by decide +kernel
theorem Al:Nat.testBit 252 2=true:=by decide +kernel
theorem Ak:Nat.testBit 252 3=true:=by decide +kernel
theorem Aj:Nat.testBit 252 4=true:=by decide +kernel
theorem Ai:Nat.testBit 252 5=true:=by decide +kernel
theorem Ag:Nat.testBit 252 6=true:=by decide +kernel
theorem Af:Nat.testBit 252 7=true:=by decide +kernel
theorem Ae:Nat.testBit 252 8=false:=by decide +kernel
theorem Ad:Nat.testBit 252 9=false:=by decide +kernel
theorem wF:Nat.testBit 252 10=false:=by decide +kernel
theorem ml:Nat.testBit 253 0=true:=by decide +kernel
theorem mj:Nat.testBit 253 1=false:=by decide +kernel
theorem mi:Nat.testBit 253 2=true:=by decide +kernel
theorem mg:Nat.testBit 253 3=true:=by decide +kernel
theorem mf:Nat.testBit 253 4=true:=by decide +kernel
theorem me:Nat.testBit 253 5=true:=by decide +kernel
theorem md:Nat.testBit 253 6=true:=by decide +kernel
theorem mc:Nat.testBit 253 7=true:=by decide +kernel
theorem ma:Nat.testBit 253 8=false:=by decide +kernel
theorem l8:Nat.testBit 253 9=false:=by decide +kernel
theorem j2:Nat.testBit 253 10=false:=by decide +kernel
theorem Ab:Nat.testBit 412 0=false:=by decide +kernel
theorem Aa:Nat.testBit 412 1=false:=by decide +kernel
theorem zZ:Nat.testBit 412 2=true:=by decide +kernel
theorem zY:Nat.testBit 412 3=true:=by decide +kernel
theorem zX:Nat.testBit 412 4=true:=by decide +kernel
theorem zW:Nat.testBit 412 5=false:=by decide +kernel
theorem zV:Nat.testBit 412 6=false:=by decide +kernel
theorem zU:Nat.testBit 412 7=true:=by decide +kernel
theorem zT:Nat.testBit 412 8=true:=by decide +kernel
theorem zR:Nat.testBit 412 9=false:=by decide +kernel
theorem wE:Nat.testBit 412 10=false:=by decide +kernel
theorem zQ:Nat.testBit 513 0=true:=by decide +kernel
theorem zP:Nat.testBit 513 1=false:=by decide +kernel
theorem zO:Nat.testBit 513 2=false:=by decide +kernel
theorem zM:Nat.testBit 513 3=false:=by decide +kernel
theorem zL:Nat.testBit 513 4=false:=by decide +kernel
theorem zK:Nat.testBit 513 5=false:=by decide +kernel
theorem zJ:Nat.testBit 513 6=false:=by decide +kernel
theorem zH:Nat.testBit 513 7=false:=by decide +kernel
theorem zG:Nat.testBit 513 8=false:=by decide +kernel
theorem zF:Nat.testBit 513 9=true:=by decide +kernel
theorem wD:Nat.testBit 513 10=false:=by decide +kernel
theorem zE:Nat.testBit 546 0=false:=by decide +kernel
theorem zD:Nat.testBit 546 1=true:=by decide +kernel
theorem zC:Nat.testBit 546 2=false:=by decide +kernel
theorem zA:Nat.testBit 546 3=false:=by decide +kernel
theorem zz:Nat.testBit 546 4=false:=by decide +kernel
theorem zy:Nat.testBit 546 5=true:=by decide +kernel
theorem zx:Nat.testBit 546 6=false:=by decide +kernel
theorem zw:Nat.testBit 546 7=false:=by decide +kernel
theorem zu:Nat.testBit 546 8=false:=by decide +kernel
theorem zt:Nat.testBit 546 9=true:=by decide +kernel
theorem wC:Nat.testBit 546 10=false:=by decide +kernel
theorem xk:Nat.testBit 1536 0=false:=by decide +kernel
theorem xj:Nat.testBit 1536 1=false:=by decide +kernel
theorem xi:Nat.testBit 1536 2=false:=by decide +kernel
theorem xg:Nat.testBit 1536 3=false:=by decide +kernel
theorem xf:Nat.testBit 1536 4=false:=by decide +kernel
theorem xe:Nat.testBit 1536 5=false:=by decide +kernel
theorem xd:Nat.testBit 1536 6=false:=by decide +kernel
theorem xc:Nat.testBit 1536 7=false:=by decide +kernel
theorem xb:Nat.testBit 1536 8=false:=by decide +kernel
theorem xa:Nat.testBit 1536 9=true:=by decide +kernel
theorem tG:Nat.testBit 1536 10=true:=by decide +kernel
theorem wZ:Nat.testBit 1568 0=false:=by decide +kernel
theorem wY:Nat.testBit 1568 1=false:=by decide +kernel
theorem wX:Nat.testBit 1568 2=false:=by decide +kernel
theorem wW:Nat.testBit 1568 3=false:=by decide +kernel
theorem wV:Nat.testBit 1568 4=false:=by decide +kernel
theorem wU:Nat.testBit 1568 5=true:=by decide +kernel
theorem wT:Nat.testBit 1568 6=false:=by decide +kernel
theorem wS:Nat.testBit 1568 7=false:=by decide +kernel
theorem wR:Nat.testBit 1568 8=false:=by decide +kernel
theorem wQ:Nat.testBit 1568 9=true:=by decide +kernel
theorem tF:Nat.testBit 1568 10=true:=by decide +kernel
theorem wP:Nat.testBit 1808 0=false:=by decide +kernel
theorem wO:Nat.testBit 1808 1=false:=by decide +kernel
theorem wN:Nat.testBit 1808 2=false:=by decide +kernel
theorem wM:Nat.testBit 1808 3=false:=by decide +kernel
theorem wL:Nat.testBit 1808 4=true:=by decide +kernel
theorem wK:Nat.testBit 1808 5=false:=by decide +kernel
theorem wJ:Nat.testBit 1808 6=false:=by decide +kernel
theorem wI:Nat.testBit 1808 7=false:=by decide +kernel
theorem wH:Nat.testBit 1808 8=true:=by decide +kernel
theorem wG:Nat.testBit 1808 9=true:=by decide +kernel
theorem tE:Nat.testBit 1808 10=true:=by decide +kernel
theorem Gt {a:ActD} (h:a.kind=0):fitsR a=ruleB a:=by
 rw [FW h,fitsR,h,Fa,vJ]
 simp only [zeroR,bareA,maskB,zS,zB,zI,zN,wZ,wY,wX,wW,wV,wU,wT,wS,wR,wQ,tF,Zg,Zh,Zm,Zi,rule1B,rule2B,rule3B,rule4B,rule5B,rule6B,objectB,targetB,homeB,isDigestB,isShortB,withinB,lt20,grantB,setupB,aR]
 ac_rfl
theorem Gs {a:ActD} (h:a.kind=1):fitsR a=ruleB a:=by
 rw [FV h,fitsR,h,E9,vI]
 simp only [zeroR,bareA,maskB,zS,zB,zI,zN,An,Am,Al,Ak,Aj,Ai,Ag,Af,Ae,Ad,wF,Zg,Zh,Zm,Zi,rule1B,rule2B,rule3B,rule4B,rule5B,rule6B,objectB,targetB,homeB,isDigestB,isShortB,withinB,lt20,grantB,setupB,aR]
 ac_rfl
theorem Gr {a:ActD} (h:a.kind=2):fitsR a=ruleB a:=by
 rw [FU h,fitsR,h,E8,vH]
 simp only [zeroR,bareA,maskB,zS,zB,zI,zN,ml,mj,mi,mg,mf,me,md,mc,ma,l8,j2,Zg,Zh,Zm,Zi,rule1B,rule2B,rule3B,rule4B,rule5B,rule6B,objectB,targetB,homeB,isDigestB,isShortB,withinB,lt20,grantB,setupB,aR]
 ac_rfl
theorem Gq {a:ActD} (h:a.kind=3):fitsR a=ruleB a:=by
 rw [FT h,fitsR,h,E7,vG]
 simp only [zeroR,bareA,maskB,zS,zB,zI,zN,ml,mj,mi,mg,mf,me,md,mc,ma,l8,j2,Zg,Zh,Zm,Zi,rule1B,rule2B,rule3B,rule4B,rule5B,rule6B,objectB,targetB,homeB,isDigestB,isShortB,withinB,lt20,grantB,setupB,aR]
 ac_rfl
theorem Gp {a:ActD} (h:a.kind=4):fitsR a=ruleB a:=by
 rw [FS h,fitsR,h,E6,vF]
 simp only [zeroR,bareA,maskB,zS,zB,zI,zN,my,mx,mw,mv,mu,ms,mr,mq,mo,mn,jc,Zg,Zh,Zm,Zi,rule1B,rule2B,rule3B,rule4B,rule5B,rule6B,objectB,targetB,homeB,isDigestB,isShortB,withinB,lt20,grantB,setupB,aR]
 ac_rfl
theorem Gn {a:ActD} (h:a.kind=5):fitsR a=ruleB a:=by
 rw [FR h,fitsR,h,E5,vE]
 simp only [zeroR,bareA,maskB,zS,zB,zI,zN,my,mx,mw,mv,mu,ms,mr,mq,mo,mn,jc,Zg,Zh,Zm,Zi,rule1B,rule2B,rule3B,rule4B,rule5B,rule6B,objectB,targetB,homeB,isDigestB,isShortB,withinB,lt20,grantB,setupB,aR]
 ac_rfl
theorem Gm {a:ActD} (h:a.kind=6):fitsR a=ruleB a:=by
 rw [FQ h,fitsR,h,E4,vD]
 simp only [zeroR,bareA,maskB,zS,zB,zI,zN,my,mx,mw,mv,mu,ms,mr,mq,mo,mn,jc,Zg,Zh,Zm,Zi,rule1B,rule2B,rule3B,rule4B,rule5B,rule6B,objectB,targetB,homeB,isDigestB,isShortB,withinB,lt20,grantB,setupB,aR]
 ac_rfl
theorem Gl {a:ActD} (h:a.kind=7):fitsR a=ruleB a:=by
 rw [FP h,fitsR,h,E3,vC]
 simp only [zeroR,bareA,maskB,zS,zB,zI,zN,l5,l4,lZ,lY,lX,lW,lV,lU,lT,lS,ja,Zg,Zh,Zm,Zi,rule1B,rule2B,rule3B,rule4B,rule5B,rule6B,objectB,targetB,homeB,isDigestB,isShortB,withinB,lt20,grantB,setupB,aR]
 ac_rfl
theorem Gk {a:ActD} (h:a.kind=8):fitsR a=ruleB a:=by
 rw [FO h,fitsR,h,E2,vB]
 simp only [zeroR,bareA,maskB,zS,zB,zI,zN,l5,l4,lZ,lY,lX,lW,lV,lU,lT,lS,ja,Zg,Zh,Zm,Zi,rule1B,rule2B,rule3B,rule4B,rule5B,rule6B,objectB,targetB,homeB,isDigestB,isShortB,withinB,lt20,grantB,setupB,aR]
 ac_rfl
theorem Gj {a:ActD} (h:a.kind=9):fitsR a=ruleB a:=by
 rw [FN h,fitsR,h,E1,vA]
 simp only [zeroR,bareA,maskB,zS,zB,zI,zN,l5,l4,lZ,lY,lX,lW,lV,lU,lT,lS,ja,Zg,Zh,Zm,Zi,rule1B,rule2B,rule3B,rule4B,rule5B,rule6B,objectB,targetB,homeB,isDigestB,isShortB,withinB,lt20,grantB,setupB,aR]
 ac_rfl
theorem Ey {a:ActD} (h:a.kind=10):fitsR a=ruleB a:=by
 rw [DJ h,fitsR,h,Bo,rz]
 simp only [zeroR,bareA,maskB,zS,zB,zI,zN,l5,l4,lZ,lY,lX,lW,lV,lU,lT,lS,ja,Zg,Zh,Zm,Zi,rule1B,rule2B,rule3B,rule4B,rule5B,rule6B,objectB,targetB,homeB,isDigestB,isShortB,withinB,lt20,grantB,setupB,aR]
 ac_rfl
theorem Ex {a:ActD} (h:a.kind=11):fitsR a=ruleB a:=by
 rw [DI h,fitsR,h,Bn,ry]
 simp only [zeroR,bareA,maskB,zS,zB,zI,zN,l5,l4,lZ,lY,lX,lW,lV,lU,lT,lS,ja,Zg,Zh,Zm,Zi,rule1B,rule2B,rule3B,rule4B,rule5B,rule6B,objectB,targetB,homeB,isDigestB,isShortB,withinB,lt20,grantB,setupB,aR]
 ac_rfl
theorem Ew {a:ActD} (h:a.kind=12):fitsR a=ruleB a:=by
 rw [DH h,fitsR,h,Bl,rx]
 simp only [zeroR,bareA,maskB,zS,zB,zI,zN,vm,vl,vk,vj,vi,vg,vf,ve,vd,vc,qR,Zg,Zh,Zm,Zi,rule1B,rule2B,rule3B,rule4B,rule5B,rule6B,objectB,targetB,homeB,isDigestB,isShortB,withinB,lt20,grantB,setupB,aR]
 ac_rfl
theorem Ev {a:ActD} (h:a.kind=13):fitsR a=ruleB a:=by
 rw [DG h,fitsR,h,Bk,rv]
 simp only [zeroR,bareA,maskB,zS,zB,zI,zN,my,mx,mw,mv,mu,ms,mr,mq,mo,mn,jc,Zg,Zh,Zm,Zi,rule1B,rule2B,rule3B,rule4B,rule5B,rule6B,objectB,targetB,homeB,isDigestB,isShortB,withinB,lt20,grantB,setupB,aR]
 ac_rfl
theorem Eu {a:ActD} (h:a.kind=14):fitsR a=ruleB a:=by
 rw [DF h,fitsR,h,Bj,ru]
 simp only [zeroR,bareA,maskB,zS,zB,zI,zN,ml,mj,mi,mg,mf,me,md,mc,ma,l8,j2,Zg,Zh,Zm,Zi,rule1B,rule2B,rule3B,rule4B,rule5B,rule6B,objectB,targetB,homeB,isDigestB,isShortB,withinB,lt20,grantB,setupB,aR]
 ac_rfl
theorem Et {a:ActD} (h:a.kind=15):fitsR a=ruleB a:=by
 rw [DE h,fitsR,h,Bi,rt]
 simp only [zeroR,bareA,maskB,zS,zB,zI,zN,C9,C8,C7,C6,C5,C4,C3,C2,C1,C0,Ao,Zg,Zh,Zm,Zi,rule1B,rule2B,rule3B,rule4B,rule5B,rule6B,objectB,targetB,homeB,isDigestB,isShortB,withinB,lt20,grantB,setupB,aR]
 ac_rfl
theorem Es {a:ActD} (h:a.kind=16):fitsR a=ruleB a:=by
 rw [DD h,fitsR,h,Bg,rs]
 simp only [zeroR,bareA,maskB,zS,zB,zI,zN,Ab,Aa,zZ,zY,zX,zW,zV,zU,zT,zR,wE,Zg,Zh,Zm,Zi,rule1B,rule2B,rule3B,rule4B,rule5B,rule6B,objectB,targetB,homeB,isDigestB,isShortB,withinB,lt20,grantB,setupB,aR]
 ac_rfl
theorem Er {a:ActD} (h:a.kind=17):fitsR a=ruleB a:=by
 rw [DC h,fitsR,h,Bf,rr]
 simp only [zeroR,bareA,maskB,zS,zB,zI,zN,CZ,CY,CX,CW,CV,CU,CT,CS,CR,CQ,Ac,Zg,Zh,Zm,Zi,rule1B,rule2B,rule3B,rule4B,rule5B,rule6B,objectB,targetB,homeB,isDigestB,isShortB,withinB,lt20,grantB,setupB,aR]
 rw [labelB,objectB,targetB,isDigestB]
 cases hz:seqB a.object ⟨#[]⟩ with
 | true =>
  rw [uE _ hz]
  cases isName a.text<;>simp [Bool.and_comm,Bool.and_assoc]
 | false=>cases isName a.text<;>cases decide ((a.object.size:Int)=32)<;>cases seqB a.target ⟨#[]⟩<;>simp [Bool.and_comm,Bool.and_assoc]
theorem Ep {a:ActD} (h:a.kind=18):fitsR a=ruleB a:=by
 rw [DB h,fitsR,h,Be,rq]
 simp only [zeroR,bareA,maskB,zS,zB,zI,zN,xk,xj,xi,xg,xf,xe,xd,xc,xb,xa,tG,Zg,Zh,Zm,Zi,rule1B,rule2B,rule3B,rule4B,rule5B,rule6B,objectB,targetB,homeB,isDigestB,isShortB,withinB,lt20,grantB,setupB,aR]
 ac_rfl
theorem Eo {a:ActD} (h:a.kind=19):fitsR a=ruleB a:=by
 rw [DA h,fitsR,h,Bd,rp]
 simp only [zeroR,bareA,maskB,zS,zB,zI,zN,wP,wO,wN,wM,wL,wK,wJ,wI,wH,wG,tE,Zg,Zh,Zm,Zi,rule1B,rule2B,rule3B,rule4B,rule5B,rule6B,objectB,targetB,homeB,isDigestB,isShortB,withinB,lt20,grantB,setupB,aR]
 ac_rfl
theorem En {a:ActD} (h:a.kind=20):fitsR a=ruleB a:=by
 rw [Dz h,fitsR,h,Bc,ro]
 simp only [zeroR,bareA,maskB,zS,zB,zI,zN,my,mx,mw,mv,mu,ms,mr,mq,mo,mn,jc,Zg,Zh,Zm,Zi,rule1B,rule2B,rule3B,rule4B,rule5B,rule6B,objectB,targetB,homeB,isDigestB,isShortB,withinB,lt20,grantB,setupB,aR]
 ac_rfl
theorem Em {a:ActD} (h:a.kind=21):fitsR a=ruleB a:=by
 rw [Dy h,fitsR,h,Bb,rn]
 simp only [zeroR,bareA,maskB,zS,zB,zI,zN,vm,vl,vk,vj,vi,vg,vf,ve,vd,vc,qR,Zg,Zh,Zm,Zi,rule1B,rule2B,rule3B,rule4B,rule5B,rule6B,objectB,targetB,homeB,isDigestB,isShortB,withinB,lt20,grantB,setupB,aR]
 ac_rfl
theorem El {a:ActD} (h:a.kind=22):fitsR a=ruleB a:=by
 rw [Dx h,fitsR,h,Ba,rm]
 simp only [zeroR,bareA,maskB,zS,zB,zI,zN,zQ,zP,zO,zM,zL,zK,zJ,zH,zG,zF,wD,Zg,Zh,Zm,Zi,rule1B,rule2B,rule3B,rule4B,rule5B,rule6B,objectB,targetB,homeB,isDigestB,isShortB,withinB,lt20,grantB,setupB,aR]
 ac_rfl
theorem Ek {a:ActD} (h:a.kind=23):fitsR a=ruleB a:=by
 rw [Dv h,fitsR,h,A9,rl]
 simp only [zeroR,bareA,maskB,zS,zB,zI,zN,zE,zD,zC,zA,zz,zy,zx,zw,zu,zt,wC,Zg,Zh,Zm,Zi,rule1B,rule2B,rule3B,rule4B,rule5B,rule6B,objectB,targetB,homeB,isDigestB,isShortB,withinB,lt20,grantB,setupB,aR]
 ac_rfl
theorem Ej (a:ActD):fitsR a=ruleB a:=by
 by_cases hk:0≤a.kind∧a.kind≤23
 · rcases oW hk with h|h|h|h|h|h|h|h|h|h|h|h|h|h|h|h|h|h|h|h|h|h|h|h
   · exact Gt h
   · exact Gs h
   · exact Gr h
   · exact Gq h
   · exact Gp h
   · exact Gn h
   · exact Gm h
   · exact Gl h
   · exact Gk h
   · exact Gj h
   · exact Ey h
   · exact Ex h
   · exact Ew h
   · exact Ev h
   · exact Eu h
   · exact Et h
   · exact Es h
   · exact Er h
   · exact Ep h
   · exact Eo h
   · exact En h
   · exact Em h
   · exact El h
   · exact Ek h
 · rw [xG hk,fitsR,rL hk,Zj]
def numsR (a:ActD):Bool:=!isId a.author||(decide (a.seq<0)||(decide (1073741824<a.seq)||(decide (a.time<0)||(decide (1099511627776<a.time)||(decide (a.e<0)||(decide (2305843009213693950≤a.e)||(decide (a.s<0)||decide (2305843009213693950≤a.s))))))))
def seqR (a:ActD):Bool:=decide (a.seq=0)&&(!seqB a.prev ⟨#[]⟩||!decide (a.kind=0))||decide (0<a.seq)&&(!decide ((a.prev.size:Int)=32)||decide (a.kind=0))
theorem dnot {p q:Prop} [Decidable p] [Decidable q] (h:p↔¬ q):decide p=!decide q:=by rw [←decide_not];exact decide_eq_decide.2 h
theorem AT (a:ActD):(bif numsR a then false else bif seqR a then false else fitsR a)=rightB a:=by
 rw [Ej,rightB,numsR,seqR,placedB,withinB,withinB,withinB,withinB,isDigestB]
 rw [dnot (p:=a.seq<0) (q:=0≤a.seq) aa,dnot (p:=1073741824<a.seq) (q:=a.seq≤1073741824) aa,dnot (p:=a.time<0) (q:=0≤a.time) aa,dnot (p:=1099511627776<a.time) (q:=a.time≤1099511627776) aa,
  dnot (p:=a.e<0) (q:=0≤a.e) aa,dnot (p:=2305843009213693950≤a.e) (q:=a.e≤2305843009213693949) aa,dnot (p:=a.s<0) (q:=0≤a.s) aa,dnot (p:=2305843009213693950≤a.s) (q:=a.s≤2305843009213693949) (by omega)]
 cases isId a.author
 · rfl
 cases decide (0≤a.time)
 · cases decide (0≤a.seq)<;>cases decide (a.seq≤1073741824)<;>simp
 cases decide (a.time≤1099511627776)
 · cases decide (0≤a.seq)<;>cases decide (a.seq≤1073741824)<;>simp
 cases decide (0≤a.e)
 · cases decide (0≤a.seq)<;>cases decide (a.seq≤1073741824)<;>simp
 cases decide (a.e≤2305843009213693949)
 · cases decide (0≤a.seq)<;>cases decide (a.seq≤1073741824)<;>simp
 cases decide (0≤a.s)
 · cases decide (0≤a.seq)<;>cases decide (a.seq≤1073741824)<;>simp
 cases decide (a.s≤2305843009213693949)
 · cases decide (0≤a.seq)<;>cases decide (a.seq≤1073741824)<;>simp
 by_cases h0:a.seq=0
 · rw [h0]
   cases seqB a.prev ⟨#[]⟩<;>cases decide (a.kind=0)<;>simp
 by_cases h1:0<a.seq
 · rw [Zc h0,Zd h1,Zd (show 0≤a.seq by omega),Zd (show 1≤a.seq by omega)]
   cases decide (a.seq≤1073741824)<;>cases decide ((a.prev.size:Int)=32)<;>cases decide (a.kind=0)<;>simp
 · rw [Zc h0,Zc (show ¬ 0≤a.seq by omega),Zc (show ¬ 1≤a.seq by omega)]
   simp
set_option maxRecDepth 8000 in
theorem kQ (a:ActD) (hs:a.Str):Pu Tryz.prog 146 #[a.v] (ActD.at_ · a) (.bool (rightB a)):=by
 refine ak (args:=[_]) _ Tryz.func146 rfl Tryz.ntmps146 rfl fun av bor w0=>?_
 rw [←AT]
 have c1:=gl a.author hs.author
 have c2:=ua a hs
 repeat' (first|(refine ab (hc:=c1) (hX:=fun _ _=>trivial) ?_)|(refine ab (hc:=c2) (hX:=fun w h=>h) ?_)|refine gs ?_|refine gs1 fun _=>?_|(refine gp ?_ ?_<;>intro hx_ this)|fail)
 all_goals refine ad (ag rfl rfl) ?_
 all_goals first
  | rfl
  | (simp only [numsR,seqR, *,Zt,Zr,Zf,Ze,Zh,Zg,Zk,Zj,Zn,Zl,Zs,Zm,Zq,Zi];done)
  | (simp_all [numsR,seqR];done)
  | (simp_all [numsR,seqR];intros;omega)
  | skip
theorem oM (b:BoxD) (hb:b.Fit):Pu Tryz.prog 280 #[b.v] (fun _=>True) (.string (boxV b)):=by
 refine ak (args:=[_]) _ Tryz.func280 rfl Tryz.ntmps280 rfl fun av bor w0=>?_
 have h1:=az b.nonce
 have h2:=az b.data
 have h3:=az b.tag
 have k1:=hb.nonce
 have k2:=hb.data
 have k3:=hb.tag
 repeat' (first|refine gs ?_|refine gs1 fun _=>?_|(refine gp ?_ ?_<;>intro hx_ this)|fail)
 (refine aV ⟨[0,1,3,4,7,8],[(2,⟨[],[(5,⟨[6],[(9,⟨[10,11],[]⟩)]⟩)]⟩)]⟩ (h:=?_))
 all_goals repeat' (first|refine ab (hc:=cZ _ aa) ?_|refine gd ?_|refine ay (hy:=by first|(apply dz;rfl;rfl;(try simp only [Za]);omega)) ?_|refine aA ?_ (h':=?_)|exact aB|refine gs1 fun _=>?_|(refine gq ?_ ?_<;>intro hx_ this)|fail)
 repeat' (first|refine gs ?_|refine gs1 fun _=>?_|(refine gp ?_ ?_<;>intro hx_ this)|fail)
 all_goals exact ad (ag rfl rfl) rfl
theorem zc {w:World} {p:Option Addr} {q:Nat} {x:WrapD} (h:∀ j u,x.cells[j]?=some u→CellAt w p (q+j) u):∀ j u,x.box.cells[j]?=some u→CellAt w p (q+2+j) u:=fun j u hj=>by
 have h1:=h (j+2) u hj
 rw [show q+2+j=q+(j+2) from by omega]
 exact h1
set_option maxRecDepth 8000 in
theorem uc (a:ActD) (hs:a.Str) (ha:rightB a=true→a.Fit):Pu Tryz.prog 239 #[a.v] (ActD.at_ · a) (.string (actCore a)):=by
 have hri:=kQ a hs
 rw [actCore]
 cases hrB:rightB a with
 | false =>
  rw [hrB] at hri
  refine ak (args:=[_]) _ Tryz.func239 rfl Tryz.ntmps239 rfl fun av bor w0=>?_
  repeat' (first|(refine ab (hc:=hri) (hX:=fun w h=>h) ?_)|refine gs ?_|refine gs1 fun _=>?_|(refine gp ?_ ?_<;>intro hx_ this)|fail)
  exact ad (ag rfl rfl) rfl
 | true =>
 rw [hrB] at hri
 replace ha:=ha hrB
 refine ak (args:=[_]) _ Tryz.func239 rfl Tryz.ntmps239 rfl fun av bor w0=>?_
 refine aP (p:=a.wraps.n=a.wrapsL.length∧a.wraps.n≤maxLen∧(0<a.wrapsL.length→a.wraps.p.isSome=true)) (fun w h=>⟨h.2.len_,ZY (RowsD.cap h.2) (RowsD.max h.2),h.2.some_⟩) fun ⟨hl,hm,hp⟩=>?_
 simp only [maxLen] at hm
 obtain ⟨i1,i2,i3,i4,i5,i6,i7,i8,i9⟩:=ha.ints
 have s1:=az a.author
 have s2:=az a.prev
 have s3:=az a.object
 have s4:=az a.target
 have s5:=az a.group
 have s6:=az a.text
 have s7:=az ⟨#[97,99,116]⟩
 have s8:=gw ha.body
 have h1:=ha.author
 have h2:=ha.prev
 have h3:=ha.object
 have h4:=ha.target
 have h5:=ha.group
 have h6:=ha.text
 have h7:=ha.to
 have h8:(⟨#[97,99,116]⟩:ByteArray).size=3:=rfl
 have n1:=ap a.seq
 have n2:=ap a.kind
 have n3:=ap a.time
 have n4:=ap a.scope
 have n5:=ap a.epoch
 have n6:=ap a.wraps.n
 have n7:=ap a.n
 have n8:=ap a.m
 repeat' (first|(refine ab (hc:=hri) (hX:=fun w h=>h) ?_)|refine gs ?_|refine gs1 fun _=>?_|(refine gp ?_ ?_<;>intro hx_ this)|fail)
 (refine aV ⟨[1,2,5,6,9,10,13,14,17,18],[(0,⟨[],[(3,⟨[4],[(7,⟨[8],[(11,⟨[12],[(15,⟨[16],[(19,⟨[20,21],[]⟩)]⟩)]⟩)]⟩)]⟩)]⟩)]⟩ (h:=?_))
 all_goals repeat' (first|refine ab (hc:=cB _ aa) ?_|refine ab (hc:=cZ _ aa) ?_|refine gd ?_|refine ay (hy:=by first|(apply dz;rfl;rfl;(try simp only [Za]);omega)) ?_|refine aA ?_ (h':=?_)|exact aB|refine gs1 fun _=>?_|(refine gq ?_ ?_<;>intro hx_ this)|fail)
 repeat' (first|refine gs ?_|refine gs1 fun _=>?_|(refine gp ?_ ?_<;>intro hx_ this)|fail)
 (refine aV ⟨[0,1,2,5,6,9,10,13,14,17,18,21,22],[(3,⟨[4],[(7,⟨[8],[(11,⟨[12],[(15,⟨[16],[(19,⟨[20],[(23,⟨[24,25],[]⟩)]⟩)]⟩)]⟩)]⟩)]⟩)]⟩ (h:=?_))
 all_goals repeat' (first|refine ab (hc:=cB _ aa) ?_|refine ab (hc:=cZ _ aa) ?_|refine ab (hc:=mO a.to a.toL aa) ?_|refine gd ?_|refine ay (hy:=by first|(apply dz;rfl;rfl;(try simp only [Za]);omega)) ?_|refine aA ?_ (h':=?_)|exact aB|refine gs1 fun _=>?_|(refine gq ?_ ?_<;>intro hx_ this)|fail)
 repeat' (first|refine gs ?_|refine gs1 fun _=>?_|(refine gp ?_ ?_<;>intro hx_ this)|fail)
 (refine aV ⟨[0,1,2,5,6,9,10,11],[(3,⟨[4],[(7,⟨[8],[(12,⟨[13,14],[]⟩)]⟩)]⟩)]⟩ (h:=?_))
 all_goals repeat' (first|refine ab (hc:=cB _ aa) ?_|refine ab (hc:=oM a.body ha.body) ?_|refine gd ?_|refine ay (hy:=by first|(apply cE;rfl;(repeat (first|exact aw|apply Zv));exact ActD.cells_body _;rfl)|(apply dz;rfl;rfl;(try simp only [Za]);omega)) ?_|refine aA ?_ (h':=?_)|exact aB|refine gs1 fun _=>?_|(refine gq ?_ ?_<;>intro hx_ this)|fail)
 repeat' (first|refine gs ?_|refine gs1 fun _=>?_|(refine gp ?_ ?_<;>intro hx_ this)|fail)
 rename_i b
 have hc4:(core4 a).size≤100000000000:=by
  have:(numV a.wrapsL.length).size≤10:=ap _
  simp only [core4,core3,core2,core1,Za]
  omega
 have hle:=eZ (a.wrapsL.map wrapV)
 have hw:=ha.wrapsV
 have e0:core5 a 0=core4 a:=by simp [core5,cats]
 refine aq (ι:=Kth a.wrapsL.length) (fun i=>⟨[(1,.pointer (some ⟨b,0,none⟩)),(4,.string (core5 a i.k)),(5,.int .i64 (i.k:Nat))],[cel b 46 a.cells],(ActD.at_ · a)⟩) (fun i=>a.wrapsL.length-i.k) ⟨0,Z4 _⟩ (aj ⟨rfl,?_,rfl,trivial⟩ (al _) fun _ h=>h) fun i=>?_
 · simp only [e0,core4,core3,core2,core1,←hl,Zy];rfl
 have hik:=i.hk
 have hk5:(core5 a i.k).size≤200000000000:=by have:=hle i.k;simp only [core5,Za];omega
 repeat' (first|refine gs ?_|refine gs1 fun _=>?_|(refine gp ?_ ?_<;>intro hx_ this)|fail)
 · have hlt:i.k<a.wrapsL.length:=by omega
   have hp':=hp aa
   obtain ⟨x,hx⟩:∃ x,a.wrapsL[i.k]?=some x:=⟨_,Zb hlt⟩
   have hxm:x∈a.wrapsL:=Z6 hx
   have hf:=ha.wraps x hxm
   have hfs:=gw hf
   obtain ⟨w1,w2⟩:=ha.wints x hxm
   have m1:=ap x.to
   have m2:=ap x.eph
   (refine ar ⟨[0,1,2,3,4,5,6,9,10,11,12,13,14,17,18,19,20,21,22],[(7,⟨[8],[(15,⟨[16],[(23,⟨[24,25],[]⟩)]⟩)]⟩)]⟩ [cel b 46 a.cells] (ActD.at_ · a) (h:=?_))
   all_goals repeat' (first|refine ab (hc:=cB _ aa) ?_|refine ab (hc:=oM x.box hf) ?_|refine gdz ?_|refine ay (hsub:=by exact aE) (hy:=by first|(apply aC (q:=i.k*5);rfl;rfl;omega;omega;assumption;omega)|(apply gT;rfl;assumption;rfl)|(apply er (q:=i.k*5) (u:=.int .i64 x.to);rfl;exact fun w h=>(Wraps.get h.2 hx).2.2 0 _ rfl)|(apply er (q:=i.k*5+1) (u:=.int .i64 x.eph);rfl;exact fun w h=>(Wraps.get h.2 hx).2.2 1 _ rfl)|(apply eG (q:=i.k*5+2) (cs:=x.box.cells);rfl;exact fun w h=>⟨rfl,(Wraps.get h.2 hx).2.1,zc (Wraps.get h.2 hx).2.2⟩)|(apply dz;rfl;rfl;(try simp only [Za]);omega)) ?_|refine aA ?_ (h':=?_)|exact aB|refine gs1 fun _=>?_|(refine gq ?_ ?_<;>intro hx_ this)|fail)
   repeat' (first|refine gs ?_|refine gs1 fun _=>?_|(refine gp ?_ ?_<;>intro hx_ this)|fail)
   have hsucc:=fG (a.wrapsL.map wrapV) (k:=i.k) (by simpa using hlt)
   have hget:(a.wrapsL.map wrapV).getD i.k .empty=wrapV x:=by simp [hx]
   rw [hget] at hsucc
   have e2:core5 a (i.k+1)=core5 a i.k++numV x.to++numV x.eph++boxV x.box:=by simp only [core5,hsucc,Zy,wrapV]
   all_goals exact ⟨(⟨i.k+1,hlt⟩:Kth a.wrapsL.length),(by show a.wrapsL.length-(i.k+1)<a.wrapsL.length-i.k;omega),aj ⟨rfl,by rw [e2];rfl,rfl,trivial⟩ (al _) fun _ h=>h⟩
 have hke:i.k=a.wrapsL.length:=by omega
 (refine aV ⟨[0,1,2,5,6],[(3,⟨[4],[(7,⟨[8,9],[]⟩)]⟩)]⟩ (h:=?_))
 all_goals repeat' (first|refine ab (hc:=cB _ aa) ?_|refine gd ?_|refine ay (hy:=by first|(apply dz;rfl;rfl;(try simp only [Za]);omega)) ?_|refine aA ?_ (h':=?_)|exact aB|refine gs1 fun _=>?_|(refine gq ?_ ?_<;>intro hx_ this)|fail)
 repeat' (first|refine gs ?_|refine gs1 fun _=>?_|(refine gp ?_ ?_<;>intro hx_ this)|fail)
 refine ad (ag rfl rfl) ?_
 simp only [Zf,coreV,←hke]
theorem mR (a:ActD) (hs:a.Str) (ha:rightB a=true→a.Fit) (hi:a.e<9223372036854775808∧a.s<9223372036854775808):Pu Tryz.prog 157 #[a.v] (ActD.at_ · a) (.string (actBytes a)):=by
 refine ak (args:=[_]) _ Tryz.func157 rfl Tryz.ntmps157 rfl fun av bor w0=>?_
 obtain ⟨i8,i9⟩:=hi
 have n7:=ap a.e
 have n8:=ap a.s
 have hc:(actCore a).size≤300000000000:=by
  unfold actCore
  cases hrB:rightB a with
  | true=>exact fM (ha hrB)
  | false=>simp [ByteArray.size]
 have hcp:=uc a hs ha
 repeat' (first|(refine ab (hc:=hcp) (hX:=fun w h=>h) ?_)|refine gs ?_|refine gs1 fun _=>?_|(refine gp ?_ ?_<;>intro hx_ this)|fail)
 · (all_goals (apply ad;apply ag;rfl;rfl));all_goals first|rfl|(simp only [actBytes, *,Zt,Zr,Zf,Ze,Zh,Zg,Zk,Zj,Zn,Zl,Zs,Zm,Zq,Zi];done)|(simp_all [actBytes];done)
 (refine aV ⟨[0,1,2,3,6,7,8],[(4,⟨[5],[(9,⟨[10,11],[]⟩)]⟩)]⟩ (h:=?_))
 all_goals repeat' (first|refine ab (hc:=cB _ aa) ?_|refine gd ?_|refine ay (hy:=by first|(apply dz;rfl;rfl;(try simp only [Za]);omega)) ?_|refine aA ?_ (h':=?_)|exact aB|refine gs1 fun _=>?_|(refine gq ?_ ?_<;>intro hx_ this)|fail)
 repeat' (first|refine gs ?_|refine gs1 fun _=>?_|(refine gp ?_ ?_<;>intro hx_ this)|fail)
 all_goals ((all_goals (apply ad;apply ag;rfl;rfl));all_goals first|rfl|(simp only [actBytes, *,Zt,Zr,Zf,Ze,Zh,Zg,Zk,Zj,Zn,Zl,Zs,Zm,Zq,Zi];done)|(simp_all [actBytes];done))
theorem tR:Tryz.prog.underlying 44=some (.struct (Tryz.prog.fieldsOf 44)):=by kernel_rfl
theorem xv:Tryz.prog.stoodInHeld 44=false:=by kernel_rfl
theorem xw:Tryz.prog.eqGuardType Tryz.prog.depth 44=false:=by kernel_rfl
theorem xA (w:World) (a b c d:Int):(Op.equalIn 10000 44 (.agg #[.int .i64 a,.int .i64 b]) (.agg #[.int .i64 c,.int .i64 d])).run Tryz.prog w=.ok (decide (a=c)&&decide (b=d)) w:=by
 have e:(10000:Nat)=9999+1:=rfl
 have e2:(9999:Nat)=9998+1:=rfl
 rw [e,run_equalIn_agg _ _ _ _ _ tR xv]
 have hf:(Tryz.prog.fieldsOf 44).toList.map (fun f=>(f.name,f.type,f.offset))=[("E",3,0),("S",3,1)]:=by kernel_rfl
 generalize (Tryz.prog.fieldsOf 44).toList=l at hf
 rcases l with _|⟨f1,_|⟨f2,_|⟨f3,l⟩⟩⟩
 case cons.cons.nil =>
  simp only [Z1,List.map_nil,List.cons.injEq,Prod.mk.injEq,and_true] at hf
  obtain ⟨⟨n1,t1,o1⟩,n2,t2,o2⟩:=hf
  have hag:=fun w=>(cv (TyOne.out (P:=Tryz.prog) (t:=3)) w).1
  have hst:=fun (x y:Int) (w:World)=>run_equalIn_int (P:=Tryz.prog) w 9998 3 .i64 .i64 x y TyInt.out
  cases h1:decide (a=c)<;>cases h2:decide (b=d) <;>
  · simp only [Zw,Qd] at h1 h2
    simp [Op.eqFields,n1,n2,t1,t2,o1,o2,part,hag,e2,hst,h1,h2]
 all_goals (have:=congrArg List.length hf;simp at this)
theorem CG {N:Nat} {av bor:List Nat} {w0:World} {E:Env} {loc:List Res} {X:World→Prop} {ty t2:TypeId} {x y:Operand} {a b c d:Int} (hx:ev E x=some (.agg #[.int .i64 a,.int .i64 b])) (hy:ev E y=some (.agg #[.int .i64 c,.int .i64 d])) :
  Sy.Yields Tryz.prog N av bor w0 ⟨E,loc,X⟩ (.binOp .eql 44 x y t2) ty (.bool (decide (a=c)&&decide (b=d))):=Sy.Yields.mk fun A w ok dd pos af g=>by
 have h1:=run_eql_struct (P:=Tryz.prog) w 44 #[.int .i64 a,.int .i64 b] #[.int .i64 c,.int .i64 d]
 have h2:=xA w a b c d
 rw [h2] at h1
 simp [execOp,ok.eval (st:=⟨E,loc,X⟩) hx,ok.eval (st:=⟨E,loc,X⟩) hy,run_eqGuard_agg _ _ _ _ _ _ _ xw,h1]
section
variable {N:Nat} {av bor:List Nat} {w0:World} {ops:Array Oper} {rest:List Oper} {kk:St→Prop} {E:Env} {loc:List Res} {X:World→Prop} {n:Nat} {ty t2:TypeId} {pos:String} {af:Array Edge} {g:Option (Nat×Bool)} {bb want:Bool} {x y:Operand} {a b c d:Int}
theorem Ar (h:Sw Tryz.prog N av bor w0 ops rest ⟨(n,.bool (decide (a=c)&&decide (b=d)))::E,loc,X⟩ kk) (hx:ev E x=some (.agg #[.int .i64 a,.int .i64 b]):=by rfl) (hy:ev E y=some (.agg #[.int .i64 c,.int .i64 d]):=by rfl) (hg:gdB ops E g=some (bb,want):=by rfl) (hbb:bb=want:=by exact ao) (hd:Nat.blt n N=true:=by rfl) :
  Sw Tryz.prog N av bor w0 ops (⟨some n,.binOp .eql 44 x y t2,ty,pos,af,g⟩::rest) ⟨E,loc,X⟩ kk:=ai (CG hx hy) hg hbb hd h
end
def sameZ (a:ActD):Bool:=decide ((a.to.n:Int)=0)&&(decide ((a.wraps.n:Int)=0)&&(seqB a.author ActD.zero.author&&(decide (a.seq=ActD.zero.seq)&&(seqB a.prev ActD.zero.prev&&(decide (a.kind=ActD.zero.kind)&&(decide (a.time=ActD.zero.time)&&(seqB a.object ActD.zero.object&&(seqB a.target ActD.zero.target&&(decide (a.scope=ActD.zero.scope)&&(seqB a.group ActD.zero.group&&(seqB a.text ActD.zero.text&&(boxEq a.body BoxD.zero&&(decide (a.epoch=ActD.zero.epoch)&&(decide (a.n=ActD.zero.n)&&(decide (a.m=ActD.zero.m)&&(decide (a.e=0)&&decide (a.s=0)))))))))))))))))
set_option maxRecDepth 20000 in
theorem tX (a:ActD):Pu Tryz.prog 144 #[a.v,ActD.zero.v] (fun _=>True) (.bool (sameZ a)):=by
 refine ak (args:=[_,_]) _ Tryz.func144 rfl Tryz.ntmps144 rfl fun av bor w0=>?_
 repeat' (first|apply bF|apply QS|apply QT|refine bo ?_|refine aK ?_|refine bY ?_|refine cD ?_|refine aM ?_|refine aS ?_|refine aT ?_|refine cg ?_|refine cq ?_|refine bP ?_|refine bx ?_|refine bJ ?_|refine bw ?_|refine cf ?_|refine de (h:=?_)|refine be ?_|refine bj ?_|refine bc ?_|refine ci fun _=>?_|refine QW ?_|refine QX ?_|apply QV|apply QU|apply cw_ret|apply cw_exit|refine sy_beql (h:=?_)|refine bL ?_|refine br ?_|refine bq ?_|((fail_if_success (refine cr ?_));refine bm (ht:=?_) (hf:=?_);all_goals (intro hx_;first|have:=aL hx_|have:=aX hx_|skip))|(refine cw_cond (ht:=?_) (hf:=?_);all_goals (intro hx_;first|have:=aL hx_|have:=aX hx_|skip)))
 · refine ad (ag rfl rfl) ?_
   have h0:ActD.zero.to.n=0:=rfl
   rw [h0] at hx_
   simp_all [sameZ]
 · refine ad (ag rfl rfl) ?_
   have h0:ActD.zero.wraps.n=0:=rfl
   rw [h0] at hx_
   simp_all [sameZ]
 rename_i b1 b2 g1
 have n1:a.to.n=0:=by
  have h0:ActD.zero.to.n=0:=rfl
  rw [h0] at g1
  simpa using g1
 have n2:a.wraps.n=0:=by
  have h0:ActD.zero.wraps.n=0:=rfl
  rw [h0] at hx_
  simpa using hx_
 refine aq (ι:=Unit) (fun _=>⟨[(2,.pointer (some ⟨b1,0,none⟩)),(3,.pointer (some ⟨b2,0,none⟩)),(5,.int .i64 0)],[cel b2 46 ActD.zero.cells,cel b1 46 a.cells],fun _=>True⟩) (fun _=>0) () (aj am (al _) fun _ h=>h) fun _=>?_
 repeat' (first|apply bF|apply QS|apply QT|refine bo ?_|refine aK ?_|refine bY ?_|refine cD ?_|refine aM ?_|refine aS ?_|refine aT ?_|refine cg ?_|refine cq ?_|refine bP ?_|refine bx ?_|refine bJ ?_|refine bw ?_|refine cf ?_|refine de (h:=?_)|refine be ?_|refine bj ?_|refine bc ?_|refine ci fun _=>?_|refine QW ?_|refine QX ?_|apply QV|apply QU|apply cw_ret|apply cw_exit|refine sy_beql (h:=?_)|refine bL ?_|refine br ?_|refine bq ?_|((fail_if_success (refine cr ?_));refine bm (ht:=?_) (hf:=?_);all_goals (intro hx_;first|have:=aL hx_|have:=aX hx_|skip))|(refine cw_cond (ht:=?_) (hf:=?_);all_goals (intro hx_;first|have:=aL hx_|have:=aX hx_|skip)))
 · exact absurd this (by rw [n1];decide)
 refine aq (ι:=Unit) (fun _=>⟨[(2,.pointer (some ⟨b1,0,none⟩)),(3,.pointer (some ⟨b2,0,none⟩)),(6,.int .i64 0)],[cel b2 46 ActD.zero.cells,cel b1 46 a.cells],fun _=>True⟩) (fun _=>0) () (aj am (al _) fun _ h=>h) fun _=>?_
 repeat' (first|apply bF|apply QS|apply QT|refine bo ?_|refine aK ?_|refine bY ?_|refine cD ?_|refine aM ?_|refine aS ?_|refine aT ?_|refine cg ?_|refine cq ?_|refine bP ?_|refine bx ?_|refine bJ ?_|refine bw ?_|refine cf ?_|refine de (h:=?_)|refine be ?_|refine bj ?_|refine bc ?_|refine ci fun _=>?_|refine QW ?_|refine QX ?_|apply QV|apply QU|apply cw_ret|apply cw_exit|refine sy_beql (h:=?_)|refine bL ?_|refine br ?_|refine bq ?_|(refine jf (a:=a.body) (b:=BoxD.zero) ?_)|(refine Ar (a:=a.e) (b:=a.s) (c:=0) (d:=0) ?_)|(refine ax ?_)|(refine ax (vs:=[.int .i64 a.e,.int .i64 a.s]) (hv:=rfl) ?_)|(refine ax (vs:=[.int .i64 0,.int .i64 0]) (hv:=rfl) ?_)|((fail_if_success (refine cr ?_));refine bm (ht:=?_) (hf:=?_);all_goals (intro hx_;first|have:=aL hx_|have:=aX hx_|skip))|(refine cw_cond (ht:=?_) (hf:=?_);all_goals (intro hx_;first|have:=aL hx_|have:=aX hx_|skip)))
 · exact absurd this (by rw [n2];decide)
 all_goals (
  refine ad (ag rfl rfl) ?_
  have q1:decide ((a.to.n:Int)=0)=true:=by rw [n1];rfl
  have q2:decide ((a.wraps.n:Int)=0)=true:=by rw [n2];rfl
  rw [sameZ,q1,q2]
  clear q1 q2 n1 n2
  first
   | rfl
   | (simp_all only [Zg,Zj,Zk,Zt,Zr,Zh];done)
   | (simp_all;done)
   | skip)
theorem CellAt.same {w:World} {p:Option Addr} {q:Nat} {u v:Value} (h1:CellAt w p q u) (h2:CellAt w p q v):u=v:=by
 obtain ⟨a,ha⟩:=QO.1 h1.1
 have:=(h1.2 a ha).symm.trans (h2.2 a ha)
 exact Option.some.inj this
theorem Strs.same {w:World} {s:SlV} {l m:List ByteArray} (h1:Strs w s l) (h2:Strs w s m):l=m:=by
 have hl:l.length=m.length:=h1.len_.symm.trans h2.len_
 apply List.ext_getElem hl
 intro i i1 i2
 have a1:=h1.at_ (Zb i1)
 have a2:=h2.at_ (Zb i2)
 exact Value.string.inj (CellAt.same a1 a2)
section
variable {H:Type} {enc:TypeId×Value→H} {P:Program} {w:World} {base:Nat} {spare:Nat→Bool} {held:Bool}
theorem SlV.v_inj {s t:SlV} (h:s.v=t.v):s=t:=by
 obtain ⟨p,n,c⟩:=s
 obtain ⟨p',n',c'⟩:=t
 simp only [SlV.v,Value.slice.injEq] at h
 obtain ⟨rfl,rfl,rfl⟩:=h
 rfl
theorem CC {fuel:Nat} {a:ActD} {x:DataW H×List MemPlace} (h:DataW.trod enc Tryz.prog w base spare held fuel 46 a.cells=some x) (ha:a.at_ w):a.Str:=by
 obtain ⟨n0,y0,h0⟩:=aO (i:=0) (off:=0) (k:=1) (t':=9) Tryz.underlying46 h rfl rfl rfl ae
 obtain ⟨n6,y6,h6⟩:=aO (i:=6) (off:=6) (k:=1) (t':=9) Tryz.underlying46 h rfl rfl rfl ae
 obtain ⟨n8,y8,h8⟩:=aO (i:=8) (off:=8) (k:=1) (t':=9) Tryz.underlying46 h rfl rfl rfl ae
 obtain ⟨n9,y9,h9⟩:=aO (i:=9) (off:=9) (k:=1) (t':=39) Tryz.underlying46 h rfl rfl rfl ae
 obtain ⟨n10,y10,h10⟩:=aO (i:=10) (off:=10) (k:=1) (t':=9) Tryz.underlying46 h rfl rfl rfl ae
 obtain ⟨s0,e0,b0⟩:=bV h0
 obtain ⟨s6,e6,b6⟩:=bV h6
 obtain ⟨s8,e8,b8⟩:=bV h8
 obtain ⟨s9,l9,e9,r9,b9⟩:=iK h9
 obtain ⟨s10,e10,b10⟩:=bV h10
 simp [ActD.cells] at e0 e6 e8 e9 e10
 have e9':=SlV.v_inj e9
 subst e0;subst e6;subst e8;subst e10
 rw [←e9'] at r9
 have e:=Strs.same ha.1 r9
 exact ⟨b0,b6,b8,b10,by rw [e];exact b9⟩
theorem xU {fuel:Nat} {cs:List Value} {x:DataW H×List MemPlace} (h:DataW.trod enc Tryz.prog w base spare held fuel 46 cs=some x):∃ a:ActD,cs=a.cells∧a.at_ w∧a.Rng∧a.target.size≤maxLen∧a.Str:=by
 obtain ⟨a,e,h1,h2,h3⟩:=A8 h
 subst e
 exact ⟨a,rfl,h1,h2,h3,CC h h1⟩
end
end Go.Proofs.YtaolfiikahlmkaaGreatDoor
namespace Go.Proofs.YtaolfiikahlmkaaGreatDoor
open Go Go.Proofs Sy Go.RowKit Go.Deep Go.ChangeShapes
structure ClaimD.Str (c:ClaimD):Prop where
 actor:c.actor.size≤maxLen
 prev:c.prev.size≤maxLen
 rng:c.base<9223372036854775808∧c.gen<9223372036854775808∧c.home<9223372036854775808∧c.pub<9223372036854775808∧c.time<9223372036854775808∧c.e<9223372036854775808∧c.s<9223372036854775808
structure BallotD.Str (b:BallotD):Prop where
 actor:b.actor.size≤maxLen
 claim:b.claim.size≤maxLen
 rng:b.server<9223372036854775808∧b.gen<9223372036854775808∧b.time<9223372036854775808∧b.e<9223372036854775808∧b.s<9223372036854775808
structure DecD.Str (d:DecD):Prop where
 actor:d.actor.size≤maxLen
 object:d.object.size≤maxLen
 text:d.text.size≤maxLen
 to:∀ x∈d.toL,x.size≤maxLen
 rng:d.server<9223372036854775808∧d.number<9223372036854775808∧d.kind<9223372036854775808∧d.n<9223372036854775808∧d.from_<9223372036854775808∧d.until_<9223372036854775808∧d.e<9223372036854775808∧d.s<9223372036854775808
structure ItemD.Str (i:ItemD):Prop where
 act:i.act.Str
 rng:i.act.Rng
 claim:i.claim.Str
 ballot:i.ballot.Str
 dec:i.dec.Str
section
variable {H:Type} {enc:TypeId×Value→H} {P:Program} {w:World} {base:Nat} {spare:Nat→Bool} {held:Bool}
theorem uq {fuel:Nat} {cs:List Value} {x:DataW H×List MemPlace} (h:DataW.trod enc Tryz.prog w base spare held fuel 22 cs=some x):∃ (s:SlV) (l:List Int),cs=[s.v]∧Ints w s l∧∀ n∈l,n<9223372036854775808:=by
 obtain ⟨s,l,h1,h2,h3⟩:=gm (α:=Int) Tryz.underlying22 (size:=1) ae (fun n=>[.int .i64 n]) (fun n=>n<9223372036854775808) (fun n cs y hy=>by obtain ⟨s,h1,h2⟩:=bp hy;exact ⟨s,h1,h2⟩) h
 exact ⟨s,l,h1,h2,h3⟩
theorem ur {fuel:Nat} {cs:List Value} {x:DataW H×List MemPlace} (h:DataW.trod enc Tryz.prog w base spare held fuel 54 cs=some x):∃ a:ClaimD,cs=a.cells∧a.Str:=by
 have hl:=fX Tryz.underlying54 (k:=9) ae h
 obtain ⟨n0,y0,h0⟩:=aO (i:=0) (off:=0) (k:=1) (t':=9) Tryz.underlying54 h rfl rfl rfl ae
 obtain ⟨n1,y1,h1⟩:=aO (i:=1) (off:=1) (k:=1) (t':=3) Tryz.underlying54 h rfl rfl rfl ae
 obtain ⟨n2,y2,h2⟩:=aO (i:=2) (off:=2) (k:=1) (t':=9) Tryz.underlying54 h rfl rfl rfl ae
 obtain ⟨n3,y3,h3⟩:=aO (i:=3) (off:=3) (k:=1) (t':=3) Tryz.underlying54 h rfl rfl rfl ae
 obtain ⟨n4,y4,h4⟩:=aO (i:=4) (off:=4) (k:=1) (t':=3) Tryz.underlying54 h rfl rfl rfl ae
 obtain ⟨n5,y5,h5⟩:=aO (i:=5) (off:=5) (k:=1) (t':=3) Tryz.underlying54 h rfl rfl rfl ae
 obtain ⟨n6,y6,h6⟩:=aO (i:=6) (off:=6) (k:=1) (t':=3) Tryz.underlying54 h rfl rfl rfl ae
 obtain ⟨n7,y7,h7⟩:=aO (i:=7) (off:=7) (k:=2) (t':=44) Tryz.underlying54 h rfl rfl rfl ae
 match cs,hl with
 | [c0,c1,c2,c3,c4,c5,c6,c7,c8],_ =>
  obtain ⟨s0,e0,b0⟩:=bV h0
  obtain ⟨s1,e1,b1⟩:=bp h1
  obtain ⟨s2,e2,b2⟩:=bV h2
  obtain ⟨s3,e3,b3⟩:=bp h3
  obtain ⟨s4,e4,b4⟩:=bp h4
  obtain ⟨s5,e5,b5⟩:=bp h5
  obtain ⟨s6,e6,b6⟩:=bp h6
  obtain ⟨s7,t7,e7,b7,bb7⟩:=jB h7
  simp at e0 e1 e2 e3 e4 e5 e6 e7
  exact ⟨⟨s0,s1,s2,s3,s4,s5,s6,s7,t7⟩,by simp [ClaimD.cells,e0,e1,e2,e3,e4,e5,e6,e7],⟨b0,b2,b1,b3,b4,b5,b6,b7,bb7⟩⟩
theorem rK {fuel:Nat} {cs:List Value} {x:DataW H×List MemPlace} (h:DataW.trod enc Tryz.prog w base spare held fuel 56 cs=some x):∃ a:BallotD,cs=a.cells∧a.Str:=by
 have hl:=fX Tryz.underlying56 (k:=7) ae h
 obtain ⟨n0,y0,h0⟩:=aO (i:=0) (off:=0) (k:=1) (t':=3) Tryz.underlying56 h rfl rfl rfl ae
 obtain ⟨n1,y1,h1⟩:=aO (i:=1) (off:=1) (k:=1) (t':=9) Tryz.underlying56 h rfl rfl rfl ae
 obtain ⟨n2,y2,h2⟩:=aO (i:=2) (off:=2) (k:=1) (t':=3) Tryz.underlying56 h rfl rfl rfl ae
 obtain ⟨n3,y3,h3⟩:=aO (i:=3) (off:=3) (k:=1) (t':=9) Tryz.underlying56 h rfl rfl rfl ae
 obtain ⟨n4,y4,h4⟩:=aO (i:=4) (off:=4) (k:=1) (t':=3) Tryz.underlying56 h rfl rfl rfl ae
 obtain ⟨n5,y5,h5⟩:=aO (i:=5) (off:=5) (k:=2) (t':=44) Tryz.underlying56 h rfl rfl rfl ae
 match cs,hl with
 | [c0,c1,c2,c3,c4,c5,c6],_ =>
  obtain ⟨s0,e0,b0⟩:=bp h0
  obtain ⟨s1,e1,b1⟩:=bV h1
  obtain ⟨s2,e2,b2⟩:=bp h2
  obtain ⟨s3,e3,b3⟩:=bV h3
  obtain ⟨s4,e4,b4⟩:=bp h4
  obtain ⟨s5,t5,e5,b5,bb5⟩:=jB h5
  simp at e0 e1 e2 e3 e4 e5
  exact ⟨⟨s0,s1,s2,s3,s4,s5,t5⟩,by simp [BallotD.cells,e0,e1,e2,e3,e4,e5],⟨b1,b3,b0,b2,b4,b5,bb5⟩⟩
theorem A7 {fuel:Nat} {cs:List Value} {x:DataW H×List MemPlace} (h:DataW.trod enc Tryz.prog w base spare held fuel 58 cs=some x):∃ a:DecD,cs=a.cells∧DecD.at_ w a∧a.Str:=by
 have hl:=fX Tryz.underlying58 (k:=12) ae h
 obtain ⟨n0,y0,h0⟩:=aO (i:=0) (off:=0) (k:=1) (t':=3) Tryz.underlying58 h rfl rfl rfl ae
 obtain ⟨n1,y1,h1⟩:=aO (i:=1) (off:=1) (k:=1) (t':=3) Tryz.underlying58 h rfl rfl rfl ae
 obtain ⟨n2,y2,h2⟩:=aO (i:=2) (off:=2) (k:=1) (t':=3) Tryz.underlying58 h rfl rfl rfl ae
 obtain ⟨n3,y3,h3⟩:=aO (i:=3) (off:=3) (k:=1) (t':=9) Tryz.underlying58 h rfl rfl rfl ae
 obtain ⟨n4,y4,h4⟩:=aO (i:=4) (off:=4) (k:=1) (t':=9) Tryz.underlying58 h rfl rfl rfl ae
 obtain ⟨n5,y5,h5⟩:=aO (i:=5) (off:=5) (k:=1) (t':=9) Tryz.underlying58 h rfl rfl rfl ae
 obtain ⟨n6,y6,h6⟩:=aO (i:=6) (off:=6) (k:=1) (t':=39) Tryz.underlying58 h rfl rfl rfl ae
 obtain ⟨n7,y7,h7⟩:=aO (i:=7) (off:=7) (k:=1) (t':=3) Tryz.underlying58 h rfl rfl rfl ae
 obtain ⟨n8,y8,h8⟩:=aO (i:=8) (off:=8) (k:=1) (t':=3) Tryz.underlying58 h rfl rfl rfl ae
 obtain ⟨n9,y9,h9⟩:=aO (i:=9) (off:=9) (k:=1) (t':=3) Tryz.underlying58 h rfl rfl rfl ae
 obtain ⟨n10,y10,h10⟩:=aO (i:=10) (off:=10) (k:=2) (t':=44) Tryz.underlying58 h rfl rfl rfl ae
 match cs,hl with
 | [c0,c1,c2,c3,c4,c5,c6,c7,c8,c9,c10,c11],_ =>
  obtain ⟨s0,e0,b0⟩:=bp h0
  obtain ⟨s1,e1,b1⟩:=bp h1
  obtain ⟨s2,e2,b2⟩:=bp h2
  obtain ⟨s3,e3,b3⟩:=bV h3
  obtain ⟨s4,e4,b4⟩:=bV h4
  obtain ⟨s5,e5,b5⟩:=bV h5
  obtain ⟨s6,l6,e6,r6,b6⟩:=iK h6
  obtain ⟨s7,e7,b7⟩:=bp h7
  obtain ⟨s8,e8,b8⟩:=bp h8
  obtain ⟨s9,e9,b9⟩:=bp h9
  obtain ⟨s10,t10,e10,b10,bb10⟩:=jB h10
  simp at e0 e1 e2 e3 e4 e5 e6 e7 e8 e9 e10
  exact ⟨⟨s0,s1,s2,s3,s4,s5,s6,s7,s8,s9,s10,t10,l6⟩,by simp [DecD.cells,e0,e1,e2,e3,e4,e5,e6,e7,e8,e9,e10],r6,⟨b3,b4,b5,b6,b0,b1,b2,b7,b8,b9,b10,bb10⟩⟩
theorem xT {fuel:Nat} {cs:List Value} {x:DataW H×List MemPlace} (h:DataW.trod enc Tryz.prog w base spare held fuel 60 cs=some x):∃ a:ItemD,cs=a.cells∧ItemD.at_ w a∧a.Str:=by
 have hl:=fX Tryz.underlying60 (k:=49) ae h
 obtain ⟨n0,y0,h0⟩:=aO (i:=0) (off:=0) (k:=1) (t':=3) Tryz.underlying60 h rfl rfl rfl ae
 obtain ⟨n1,y1,h1⟩:=aO (i:=1) (off:=1) (k:=20) (t':=46) Tryz.underlying60 h rfl rfl rfl ae
 obtain ⟨n2,y2,h2⟩:=aO (i:=2) (off:=21) (k:=9) (t':=54) Tryz.underlying60 h rfl rfl rfl ae
 obtain ⟨n3,y3,h3⟩:=aO (i:=3) (off:=30) (k:=7) (t':=56) Tryz.underlying60 h rfl rfl rfl ae
 obtain ⟨n4,y4,h4⟩:=aO (i:=4) (off:=37) (k:=12) (t':=58) Tryz.underlying60 h rfl rfl rfl ae
 obtain ⟨a0,e0,_⟩:=bp h0
 obtain ⟨a1,e1,q1,r1,_,s1⟩:=xU h1
 obtain ⟨a2,e2,s2⟩:=ur h2
 obtain ⟨a3,e3,s3⟩:=rK h3
 obtain ⟨a4,e4,q4,s4⟩:=A7 h4
 refine ⟨⟨a0,a1,a2,a3,a4⟩,?_,⟨q1,q4⟩,⟨s1,r1,s2,s3,s4⟩⟩
 have h5:cs=cs.take 1++((cs.drop 1).take 20++((cs.drop 21).take 9++((cs.drop 30).take 7++(cs.drop 37).take 12))):=by
  have t1:(cs.drop 37).take 12=cs.drop 37:=Qf (by rw [Qr];omega)
  rw [t1,show cs.drop 37=(cs.drop 30).drop 7 from by rw [List.drop_drop],Qs,show cs.drop 30=(cs.drop 21).drop 9 from by rw [List.drop_drop],Qs,show cs.drop 21=(cs.drop 1).drop 20 from by rw [List.drop_drop],Qs,Qs]
 rw [List.drop_zero] at e0
 rw [h5,e0,e1,e2,e3,e4]
 simp [ItemD.cells]
theorem up {fuel:Nat} {cs:List Value} {x:DataW H×List MemPlace} (h:DataW.trod enc Tryz.prog w base spare held fuel 23 cs=some x):∃ (s:SlV) (l:List ItemD),cs=[s.v]∧Items w s l∧∀ i∈l,i.Str:=by
 haveI:Inhabited ItemD:=⟨ItemD.zero⟩
 obtain ⟨s,l,h1,h2,h3⟩:=gm (α:=ItemD) Tryz.underlying23 (size:=49) ae ItemD.cells (fun a=>ItemD.at_ w a∧a.Str) (fun n cs y hy=>xT hy) h
 exact ⟨s,l,h1,⟨h2,fun a ha=>(h3 a ha).1⟩,fun a ha=>(h3 a ha).2⟩
theorem uo {fuel:Nat} {cs:List Value} {x:DataW H×List MemPlace} (h:DataW.trod enc Tryz.prog w base spare held fuel 25 cs=some x):∃ (s t:SlV) (l:List Int) (I:List ItemD),cs=[s.v,t.v]∧Ints w s l∧Items w t I∧(∀ n∈l,n<9223372036854775808)∧∀ i∈I,i.Str:=by
 have hl:=fX Tryz.underlying25 (k:=2) ae h
 obtain ⟨n0,y0,h0⟩:=aO (i:=0) (off:=0) (k:=1) (t':=22) Tryz.underlying25 h rfl rfl rfl ae
 obtain ⟨n1,y1,h1⟩:=aO (i:=1) (off:=1) (k:=1) (t':=23) Tryz.underlying25 h rfl rfl rfl ae
 match cs,hl with
 | [c0,c1],_ =>
  obtain ⟨s0,l0,e0,r0,b0⟩:=uq h0
  obtain ⟨s1,l1,e1,r1,b1⟩:=up h1
  simp at e0 e1
  exact ⟨s0,s1,l0,l1,by rw [e0,e1],r0,r1,b0,b1⟩
end
end Go.Proofs.YtaolfiikahlmkaaGreatDoor
namespace Go.Proofs.YtaolfiikahlmkaaGreatDoor
open Go Go.Proofs Sy
theorem gF (n l h:Int):Pu Tryz.prog 232 #[.int .i64 n,.int .i64 l,.int .i64 h] (fun _=>True) (.bool (withinB n l h)):=by
 refine ak (args:=[_,_,_]) _ Tryz.func232 rfl Tryz.ntmps232 rfl fun av bor w0=>?_
 repeat' (first|refine gs ?_|(refine gp ?_ ?_<;>intro hx_ this)|fail)
 (all_goals (apply ad;apply ag;rfl;rfl));all_goals first|rfl|(simp only [withinB, *,Zt,Zr,Zf,Ze,Zh,Zg,Zk,Zj,Zn,Zl,Zs,Zm,Zq,Zi];done)|(simp_all [withinB];done)
theorem kc (e s:Int):Pu Tryz.prog 233 #[.agg #[.int .i64 e,.int .i64 s]] (fun _=>True) (.bool (sigB e s)):=by
 refine ak (args:=[_]) _ Tryz.func233 rfl Tryz.ntmps233 rfl fun av bor w0=>?_
 repeat' (first|refine ab (hc:=gF _ _ _) ?_|refine gs ?_|refine gs1 fun _=>?_|(refine gp ?_ ?_<;>intro hx_ this)|fail)
 (all_goals (apply ad;apply ag;rfl;rfl));all_goals first|rfl|(simp only [sigB, *,Zt,Zr,Zf,Ze,Zh,Zg,Zk,Zj,Zn,Zl,Zs,Zm,Zq,Zi];done)|(simp_all [sigB];done)
theorem nZ (c:ClaimD) (hs:c.Str):Pu Tryz.prog 147 #[c.v] (fun _=>True) (.bool (claimR c)):=by
 refine ak (args:=[_]) _ Tryz.func147 rfl Tryz.ntmps147 rfl fun av bor w0=>?_
 have hid:=gl c.actor hs.actor
 repeat' (first|(refine ab (hc:=hid) (hX:=fun _ _=>trivial) ?_)|refine ab (hc:=gF _ _ _) ?_|refine ab (hc:=kc c.e c.s) ?_|refine gs ?_|refine gs1 fun _=>?_|(refine ax (vs:=[.int .i64 c.e,.int .i64 c.s]) (hv:=rfl) ?_)|(refine gp ?_ ?_<;>intro hx_ this)|fail)
 (all_goals (apply ad;apply ag;rfl;rfl));all_goals first|rfl|(simp only [claimR,isDigestB, *,Zt,Zr,Zf,Ze,Zh,Zg,Zk,Zj,Zn,Zl,Zs,Zm,Zq,Zi];done)|(simp_all [claimR,isDigestB];done)
theorem rD (b:BallotD) (hs:b.Str):Pu Tryz.prog 148 #[b.v] (fun _=>True) (.bool (ballotR b)):=by
 refine ak (args:=[_]) _ Tryz.func148 rfl Tryz.ntmps148 rfl fun av bor w0=>?_
 have hid:=gl b.actor hs.actor
 repeat' (first|(refine ab (hc:=hid) (hX:=fun _ _=>trivial) ?_)|refine ab (hc:=gF _ _ _) ?_|refine ab (hc:=kc b.e b.s) ?_|refine gs ?_|refine gs1 fun _=>?_|(refine ax (vs:=[.int .i64 b.e,.int .i64 b.s]) (hv:=rfl) ?_)|(refine gp ?_ ?_<;>intro hx_ this)|fail)
 (all_goals (apply ad;apply ag;rfl;rfl));all_goals first|rfl|(simp only [ballotR,isDigestB, *,Zt,Zr,Zf,Ze,Zh,Zg,Zk,Zj,Zn,Zl,Zs,Zm,Zq,Zi];done)|(simp_all [ballotR,isDigestB];done)
def numsD (d:DecD):Bool:=withinB d.server 0 19&&(withinB d.number 0 1073741824&&(withinB d.kind 0 9&&(withinB d.from_ 0 1099511627776&&(withinB d.until_ 0 1099511627776&&decide (d.from_<d.until_)))))
def decF (d:DecD):Bool:=bif !numsD d||!sigB d.e d.s then false
 else bif kindO d.kind then seqB d.actor ⟨#[]⟩&&(isDigestB d.object&&(reasonD d&&plainD d))
 else bif decide (d.kind=8) then seqB d.actor ⟨#[]⟩&&(seqB d.object ⟨#[]⟩&&(reasonD d&&(isIds d.toL&&withinB d.n 1 (d.to.n:Nat))))
 else bif decide (d.kind=9) then seqB d.actor ⟨#[]⟩&&(seqB d.object ⟨#[]⟩&&(decide ((d.text.size:Int)≤4096)&&plainD d))
 else isId d.actor&&(seqB d.object ⟨#[]⟩&&(reasonD d&&plainD d))
theorem BC {k:Int} (h:withinB k 0 9=true) (h1:kindO k=false) (h2:decide (k=8)=false) (h3:decide (k=9)=false):kindA k=true:=by
 simp only [withinB,kindO,kindA,Zp,Bool.or_eq_true,Ql,Zw,Qd] at *
 omega
theorem D7 {k:Int} (h1:kindO k=true):withinB k 0 9=true∧kindA k=false:=by
 simp only [withinB,kindO,kindA,Zp,Bool.or_eq_true,Ql,Zw,Qd] at *
 omega
theorem D8 {k:Int} (h1:kindA k=true):withinB k 0 9=true∧kindO k=false∧decide (k=8)=false∧decide (k=9)=false:=by
 simp only [withinB,kindO,kindA,Zp,Bool.or_eq_true,Ql,Zw,Qd] at *
 omega
theorem EK (d:DecD):decF d=decR d:=by
 rw [decF,decR,numsD,termsB]
 cases hA:kindA d.kind with
 | true =>
  obtain ⟨h1,h2,h3,h4⟩:=D8 hA
  rw [h1,h2,h3,h4]
  generalize withinB d.server 0 19=b1
  generalize withinB d.number 0 1073741824=b2
  generalize withinB d.from_ 0 1099511627776=b3
  generalize withinB d.until_ 0 1099511627776=b4
  generalize decide (d.from_<d.until_)=b5
  generalize sigB d.e d.s=b6
  simp only [Zf,Ze]
  generalize (isId d.actor&&(seqB d.object ⟨#[]⟩&&(reasonD d&&plainD d)))=b7
  cases b1<;>cases b2<;>cases b3<;>cases b4<;>cases b5<;>cases b6<;>cases b7<;>rfl
 | false =>
  cases hO:kindO d.kind with
  | true =>
   rw [(D7 hO).1]
   generalize withinB d.server 0 19=b1
   generalize withinB d.number 0 1073741824=b2
   generalize withinB d.from_ 0 1099511627776=b3
   generalize withinB d.until_ 0 1099511627776=b4
   generalize decide (d.from_<d.until_)=b5
   generalize sigB d.e d.s=b6
   simp only [Zf,Ze]
   generalize (seqB d.actor ⟨#[]⟩&&(isDigestB d.object&&(reasonD d&&plainD d)))=b7
   cases b1<;>cases b2<;>cases b3<;>cases b4<;>cases b5<;>cases b6<;>cases b7<;>rfl
  | false =>
   cases h8:decide (d.kind=8) with
   | true =>
    have hw:withinB d.kind 0 9=true:=by rw [aL h8];rfl
    rw [hw]
    generalize withinB d.server 0 19=b1
    generalize withinB d.number 0 1073741824=b2
    generalize withinB d.from_ 0 1099511627776=b3
    generalize withinB d.until_ 0 1099511627776=b4
    generalize decide (d.from_<d.until_)=b5
    generalize sigB d.e d.s=b6
    simp only [Zf,Ze]
    generalize (seqB d.actor ⟨#[]⟩&&(seqB d.object ⟨#[]⟩&&(reasonD d&&(isIds d.toL&&withinB d.n 1 (d.to.n:Nat)))))=b7
    cases b1<;>cases b2<;>cases b3<;>cases b4<;>cases b5<;>cases b6<;>cases b7<;>rfl
   | false =>
    cases h9:decide (d.kind=9) with
    | true =>
     have hw:withinB d.kind 0 9=true:=by rw [aL h9];rfl
     rw [hw]
     generalize withinB d.server 0 19=b1
     generalize withinB d.number 0 1073741824=b2
     generalize withinB d.from_ 0 1099511627776=b3
     generalize withinB d.until_ 0 1099511627776=b4
     generalize decide (d.from_<d.until_)=b5
     generalize sigB d.e d.s=b6
     simp only [Zf,Ze]
     generalize (seqB d.actor ⟨#[]⟩&&(seqB d.object ⟨#[]⟩&&(decide ((d.text.size:Int)≤4096)&&plainD d)))=b7
     cases b1<;>cases b2<;>cases b3<;>cases b4<;>cases b5<;>cases b6<;>cases b7<;>rfl
    | false =>
     cases hw:withinB d.kind 0 9 with
     | true=>rw [BC hw hO h8 h9] at hA;cases hA
     | false=>simp
theorem nY (d:DecD) (hs:d.Str):Pu Tryz.prog 149 #[d.v] (fun w=>d.at_ w) (.bool (decR d)):=by
 refine ak (args:=[_]) _ Tryz.func149 rfl Tryz.ntmps149 rfl fun av bor w0=>?_
 rw [←EK]
 have hid:=gl d.actor hs.actor
 have hids:=kg d.to d.toL hs.to
 repeat' (first|(refine ab (hc:=hid) (hX:=fun _ _=>trivial) ?_)|(refine ab (hc:=hids) (hX:=fun w h=>h) ?_)|refine ab (hc:=gF _ _ _) ?_|refine ab (hc:=kc d.e d.s) ?_|refine gs ?_|refine gs1 fun _=>?_|(refine ax (vs:=[.int .i64 d.e,.int .i64 d.s]) (hv:=rfl) ?_)|(refine gp ?_ ?_<;>intro hx_ this)|fail)
 all_goals (apply ad;apply ag;rfl;rfl)
 all_goals first
  | rfl
  | (simp_all [decF,numsD,plainD,reasonD,kindO,isDigestB];done)
  | (simp_all [decF,numsD,plainD,reasonD,kindO,isDigestB];intros;omega)
theorem dk (x:ByteArray) (l:List ByteArray):textsV (x::l)=textV x++textsV l:=rfl
theorem dE:textsV []=ByteArray.empty:=rfl
theorem dX (x:Int) (l:List Int):numsV (x::l)=numV x++numsV l:=rfl
theorem eB:numsV []=ByteArray.empty:=rfl
structure ClaimD.Sm (c:ClaimD):Prop where
 actor:c.actor.size≤1000000
 prev:c.prev.size≤1000000
structure BallotD.Sm (c:BallotD):Prop where
 actor:c.actor.size≤1000000
 claim:c.claim.size≤1000000
structure DecD.Sm (c:DecD):Prop where
 actor:c.actor.size≤1000000
 object:c.object.size≤1000000
 text:c.text.size≤1000000
 to:(listV c.toL).size≤1000000
theorem pV (c:ClaimD) (hl:c.Lt) (hs:c.Sm):Pu Tryz.prog 158 #[c.v] (fun _=>True) (.string (coreCl c)):=by
 refine ak (args:=[_]) _ Tryz.func158 rfl Tryz.ntmps158 rfl fun av bor w0=>?_
 have h1:=hs.actor
 have h2:=hs.prev
 have s1:=az c.actor
 have s2:=az c.prev
 have n1:=ap c.base
 have n2:=ap c.gen
 have n3:=ap c.home
 have n4:=ap c.pub
 have n5:=ap c.time
 obtain ⟨i1,i2,i3,i4,i5,_,_⟩:=hl
 repeat' (first|refine gs ?_|refine gs1 fun _=>?_|(refine gp ?_ ?_<;>intro hx_ this)|fail)
 (refine aV ⟨[0,1,3,4,7,8,11,12,15,16,19,20,23,24],[(2,⟨[],[(5,⟨[6],[(9,⟨[10],[(13,⟨[14],[(17,⟨[18],[(21,⟨[22],[(25,⟨[26,27],[]⟩)]⟩)]⟩)]⟩)]⟩)]⟩)]⟩)]⟩ (h:=?_))
 all_goals repeat' (first|refine ab (hc:=cB _ aa) ?_|refine ab (hc:=cZ _ aa) ?_|refine gd ?_|refine ay (hy:=by first|(apply dz;rfl;rfl;(try simp only [Za]);omega)) ?_|refine aA ?_ (h':=?_)|exact aB|refine gs1 fun _=>?_|(refine gq ?_ ?_<;>intro hx_ this)|fail)
 all_goals
  repeat' (first|refine gs ?_|refine gs1 fun _=>?_|(refine gp ?_ ?_<;>intro hx_ this)|fail)
  refine ad (ag rfl rfl) ?_
  simp only [coreCl,dk,dE,dX,eB,Qj,Zy]
theorem jz (c:BallotD) (hl:c.Lt) (hs:c.Sm):Pu Tryz.prog 154 #[c.v] (fun _=>True) (.string (coreBa c)):=by
 refine ak (args:=[_]) _ Tryz.func154 rfl Tryz.ntmps154 rfl fun av bor w0=>?_
 have h1:=hs.actor
 have h2:=hs.claim
 have s1:=az c.actor
 have s2:=az c.claim
 have n1:=ap c.server
 have n2:=ap c.gen
 have n3:=ap c.time
 obtain ⟨i1,i2,i3,_,_⟩:=hl
 repeat' (first|refine gs ?_|refine gs1 fun _=>?_|(refine gp ?_ ?_<;>intro hx_ this)|fail)
 (refine aV ⟨[0,1,3,4,7,8,11,12,15,16],[(2,⟨[],[(5,⟨[6],[(9,⟨[10],[(13,⟨[14],[(17,⟨[18,19],[]⟩)]⟩)]⟩)]⟩)]⟩)]⟩ (h:=?_))
 all_goals repeat' (first|refine ab (hc:=cB _ aa) ?_|refine ab (hc:=cZ _ aa) ?_|refine gd ?_|refine ay (hy:=by first|(apply dz;rfl;rfl;(try simp only [Za]);omega)) ?_|refine aA ?_ (h':=?_)|exact aB|refine gs1 fun _=>?_|(refine gq ?_ ?_<;>intro hx_ this)|fail)
 all_goals
  repeat' (first|refine gs ?_|refine gs1 fun _=>?_|(refine gp ?_ ?_<;>intro hx_ this)|fail)
  refine ad (ag rfl rfl) ?_
  simp only [coreBa,dk,dE,dX,eB,Qj,Zy]
theorem jy (c:DecD) (hl:c.Lt) (hs:c.Sm):Pu Tryz.prog 155 #[c.v] (fun w=>c.at_ w) (.string (coreDe c)):=by
 refine ak (args:=[_]) _ Tryz.func155 rfl Tryz.ntmps155 rfl fun av bor w0=>?_
 have h1:=hs.actor
 have h2:=hs.object
 have h3:=hs.text
 have h4:=hs.to
 have s1:=az c.actor
 have s2:=az c.object
 have s3:=az c.text
 have n1:=ap c.server
 have n2:=ap c.number
 have n3:=ap c.kind
 have n4:=ap c.n
 have n5:=ap c.from_
 have n6:=ap c.until_
 have hli:=mO c.to c.toL aa
 obtain ⟨i1,i2,i3,i4,i5,i6,_,_⟩:=hl
 repeat' (first|refine gs ?_|refine gs1 fun _=>?_|(refine gp ?_ ?_<;>intro hx_ this)|fail)
 (refine aV ⟨[0,1,3,4,7,8,11,12,15,16,19,20],[(2,⟨[],[(5,⟨[6],[(9,⟨[10],[(13,⟨[14],[(17,⟨[18],[(21,⟨[22,23],[]⟩)]⟩)]⟩)]⟩)]⟩)]⟩)]⟩ (h:=?_))
 all_goals repeat' (first|refine ab (hc:=cB _ aa) ?_|refine ab (hc:=cZ _ aa) ?_|refine gd ?_|refine ay (hy:=by first|(apply dz;rfl;rfl;(try simp only [Za]);omega)) ?_|refine aA ?_ (h':=?_)|exact aB|refine gs1 fun _=>?_|(refine gq ?_ ?_<;>intro hx_ this)|fail)
 all_goals
  repeat' (first|refine gs ?_|refine gs1 fun _=>?_|(refine gp ?_ ?_<;>intro hx_ this)|fail)
  (refine aV ⟨[0,1,2,5,6,9,10,13,14],[(3,⟨[4],[(7,⟨[8],[(11,⟨[12],[(15,⟨[16,17],[]⟩)]⟩)]⟩)]⟩)]⟩ (h:=?_))
  all_goals repeat' (first|refine ab (hc:=cB _ aa) ?_|(refine ab (hc:=hli) (hX:=fun w h=>h) ?_)|refine gd ?_|refine ay (hy:=by first|(apply dz;rfl;rfl;(try simp only [Za]);omega)) ?_|refine aA ?_ (h':=?_)|exact aB|refine gs1 fun _=>?_|(refine gq ?_ ?_<;>intro hx_ this)|fail)
  all_goals
   repeat' (first|refine gs ?_|refine gs1 fun _=>?_|(refine gp ?_ ?_<;>intro hx_ this)|fail)
   refine ad (ag rfl rfl) ?_
   simp only [coreDe,dk,dE,dX,eB,Qj,Zy]
theorem iO (e s:Int) (he:e<9223372036854775808) (hs:s<9223372036854775808):Pu Tryz.prog 159 #[.agg #[.int .i64 e,.int .i64 s]] (fun _=>True) (.string (numsV [e,s])):=by
 refine ak (args:=[_]) _ Tryz.func159 rfl Tryz.ntmps159 rfl fun av bor w0=>?_
 have n1:=ap e
 have n2:=ap s
 repeat' (first|refine gs ?_|refine gs1 fun _=>?_|(refine gp ?_ ?_<;>intro hx_ this)|fail)
 (refine aV ⟨[0,1,3,4],[(2,⟨[],[(5,⟨[6,7],[]⟩)]⟩)]⟩ (h:=?_))
 all_goals repeat' (first|refine ab (hc:=cB _ aa) ?_|refine gd ?_|refine ay (hy:=by first|(apply dz;rfl;rfl;(try simp only [Za]);omega)) ?_|refine aA ?_ (h':=?_)|exact aB|refine gs1 fun _=>?_|(refine gq ?_ ?_<;>intro hx_ this)|fail)
 all_goals
  repeat' (first|refine gs ?_|refine gs1 fun _=>?_|(refine gp ?_ ?_<;>intro hx_ this)|fail)
  refine ad (ag rfl rfl) ?_
  simp only [dX,eB,Qj]
theorem cu {n l h:Int} (w:withinB n l h=true):l≤n∧n≤h:=by
 simpa only [withinB,Zp,Zw] using w
theorem tQ {e s:Int} (w:sigB e s=true):(0≤e∧e≤2305843009213693949)∧0≤s∧s≤2305843009213693949:=by
 rw [sigB,Zp] at w
 exact ⟨cu w.1,cu w.2⟩
theorem iD {s:ByteArray} (h:isId s=true):s.size=16:=by
 rw [isId,Zp,Zw] at h
 exact_mod_cast h.1
theorem iU {s:ByteArray} (h:isDigestB s=true):s.size=32:=by
 rw [isDigestB,Zw] at h
 exact_mod_cast h
theorem dL {s:ByteArray} (h:seqB s ⟨#[]⟩=true):s.size=0:=by
 rw [seqB_iff.1 h];rfl
theorem iF {c:ClaimD} (h:claimR c=true):c.Lt∧c.Sm:=by
 simp only [claimR,Zp] at h
 obtain ⟨h1,h2,h3,h4,h5,h6,h7,h8⟩:=h
 have e1:=iD h1
 have e2:=cu h2
 have e3:=iU h3
 have e4:=cu h4
 have e5:=cu h5
 have e6:=cu h6
 have e7:=cu h7
 have e8:=tQ h8
 exact ⟨⟨by omega,by omega,by omega,by omega,by omega,by omega,by omega⟩,⟨by omega,by omega⟩⟩
theorem fO {c:BallotD} (h:ballotR c=true):c.Lt∧c.Sm:=by
 simp only [ballotR,Zp] at h
 obtain ⟨h2,h1,h4,h3,h7,h8⟩:=h
 have e1:=iD h1
 have e2:=cu h2
 have e3:=iU h3
 have e4:=cu h4
 have e7:=cu h7
 have e8:=tQ h8
 exact ⟨⟨by omega,by omega,by omega,by omega,by omega⟩,⟨by omega,by omega⟩⟩
theorem pg {m:Nat}:∀ {l:List ByteArray},(∀ x∈l,x.size≤m)→(cats l).size≤l.length*m
 | [],_=>by simp [cats]
 | a::l,h=>by
  have h1:=h a aw
  have h2:=pg (m:=m) (l:=l) fun x hx=>h x (Zv _ hx)
  rw [cats,Za,ZB,QF]
  omega
theorem uw {l:List ByteArray} (h:isIds l=true):(listV l).size≤2000:=by
 rw [isIds,Zp,Bool.not_eq_true',Qd] at h
 have hl:l.length≤64:=by omega
 have he:∀ x∈l,x.size=16:=fun x hx=>by
  obtain ⟨k,hk,rfl⟩:=Qx hx
  have h2:=h.2
  rw [allB,List.all_eq_true] at h2
  have h3:=h2 k (List.mem_range.2 hk)
  rw [Bool.not_eq_true',badIds,Ql,Bool.not_eq_false'] at h3
  have h4:=h3.1
  rw [Zo,Zb hk,Qe] at h4
  exact iD h4
 have h1:=ap (l.length:Int)
 have h2:=pg (m:=26) (l:=l.map textV) fun x hx=>by
  obtain ⟨y,hy,rfl⟩:=QJ.1 hx
  have:=ap (y.size:Int)
  rw [textV,Za,he y hy]
  have:=ap ((16:Nat):Int)
  omega
 rw [ZF] at h2
 rw [listV,Za]
 omega
theorem ye:(listV []).size≤2000:=by
 have h1:=ap ((0:Nat):Int)
 rw [listV,Za]
 simp only [List.map_nil,cats,ByteArray.size_empty,ZR]
 omega
theorem iQ {d:DecD} (hn:d.to.n=d.toL.length) (h:plainD d=true):(listV d.toL).size≤2000∧d.n=0:=by
 rw [plainD,Zp,Zw,Zw] at h
 have:d.toL=[]:=List.length_eq_zero_iff.1 aa
 rw [this]
 exact ⟨ye,h.2⟩
theorem ia {d:DecD} (h:reasonD d=true):d.text.size≤500:=by
 rw [reasonD,Zw] at h
 omega
theorem tD {d:DecD} (hn:d.to.n=d.toL.length) (h:termsB d=true):d.Sm∧0≤d.n∧d.n≤64∧d.kind<10:=by
 rw [termsB] at h
 cases hA:kindA d.kind with
 | true =>
  rw [hA,Zf] at h
  simp only [Zp] at h
  have e1:=iD h.1
  have e2:=dL h.2.1
  have e3:=ia h.2.2.1
  have e4:=iQ hn h.2.2.2
  simp only [kindA,Bool.or_eq_true,Zw] at hA
  exact ⟨⟨by omega,by omega,by omega,by omega⟩,by omega,by omega,by omega⟩
 | false =>
  rw [hA,Ze] at h
  cases hO:kindO d.kind with
  | true =>
   rw [hO,Zf] at h
   simp only [Zp] at h
   have e1:=dL h.1
   have e2:=iU h.2.1
   have e3:=ia h.2.2.1
   have e4:=iQ hn h.2.2.2
   simp only [kindO,Bool.or_eq_true,Zw] at hO
   exact ⟨⟨by omega,by omega,by omega,by omega⟩,by omega,by omega,by omega⟩
  | false =>
   rw [hO,Ze] at h
   cases h8:decide (d.kind=8) with
   | true =>
    rw [h8,Zf] at h
    simp only [Zp] at h
    have e1:=dL h.1
    have e2:=dL h.2.1
    have e3:=ia h.2.2.1
    have e4:=uw h.2.2.2.1
    have e5:=cu h.2.2.2.2
    have e6:=aL h8
    have e7:d.toL.length≤64:=by
     have:=h.2.2.2.1
     rw [isIds,Zp,Bool.not_eq_true',Qd] at this
     omega
    exact ⟨⟨by omega,by omega,by omega,by omega⟩,by omega,by omega,by omega⟩
   | false =>
    rw [h8,Ze] at h
    cases h9:decide (d.kind=9) with
    | true =>
     rw [h9,Zf] at h
     simp only [Zp] at h
     have e1:=dL h.1
     have e2:=dL h.2.1
     have e3:=aL h.2.2.1
     have e4:=iQ hn h.2.2.2
     have e6:=aL h9
     exact ⟨⟨by omega,by omega,by omega,by omega⟩,by omega,by omega,by omega⟩
    | false=>rw [h9] at h;cases h
theorem jS {d:DecD} (hn:d.to.n=d.toL.length) (h:decR d=true):d.Lt∧d.Sm:=by
 simp only [decR,Zp] at h
 obtain ⟨h1,h2,h3,h4,h5,h6,h7⟩:=h
 have e1:=cu h1
 have e2:=cu h2
 have e3:=cu h3
 have e4:=cu h4
 obtain ⟨e6,e7,e8,e9⟩:=tD hn h6
 have e10:=tQ h7
 exact ⟨⟨by omega,by omega,by omega,by omega,by omega,by omega,by omega,by omega⟩,e6⟩
theorem fT {c:ClaimD} (hs:c.Sm):(coreCl c).size≤3000000:=by
 have h1:=hs.actor
 have h2:=hs.prev
 have s1:=az c.actor
 have s2:=az c.prev
 have n1:=ap c.base
 have n2:=ap c.gen
 have n3:=ap c.home
 have n4:=ap c.pub
 have n5:=ap c.time
 simp only [coreCl,dk,dE,dX,eB,Qj,Za]
 omega
theorem eE {c:BallotD} (hs:c.Sm):(coreBa c).size≤3000000:=by
 have h1:=hs.actor
 have h2:=hs.claim
 have s1:=az c.actor
 have s2:=az c.claim
 have n1:=ap c.server
 have n2:=ap c.gen
 have n3:=ap c.time
 simp only [coreBa,dk,dE,dX,eB,Qj,Za]
 omega
theorem eD {c:DecD} (hs:c.Sm):(coreDe c).size≤5000000:=by
 have h1:=hs.actor
 have h2:=hs.object
 have h3:=hs.text
 have h4:=hs.to
 have s1:=az c.actor
 have s2:=az c.object
 have s3:=az c.text
 have n1:=ap c.server
 have n2:=ap c.number
 have n3:=ap c.kind
 have n4:=ap c.n
 have n5:=ap c.from_
 have n6:=ap c.until_
 simp only [coreDe,dk,dE,dX,eB,Qj,Za]
 omega
theorem ie {nm p:ByteArray} (h:nm.size≤20) (hp:p.size≤5000000):(textsV [nm]++p).size≤6000000:=by
 have s1:=az nm
 simp only [dk,dE,Qj,Za]
 omega
theorem dG (e s:Int):(numsV [e,s]).size≤20:=by
 have n1:=ap e
 have n2:=ap s
 simp only [dX,eB,Qj,Za]
 omega
def bodyIt (i:ItemD):ByteArray:=bif decide (i.kind=0) then actBytes i.act else bif decide (i.kind=1) then coreCl i.claim++numsV [i.claim.e,i.claim.s] else bif decide (i.kind=2) then coreBa i.ballot++numsV [i.ballot.e,i.ballot.s] else coreDe i.dec++numsV [i.dec.e,i.dec.s]
def bytesIt (i:ItemD):ByteArray:=bif rightIt i then numV i.kind++bodyIt i else ⟨#[]⟩
def digIt (i:ItemD):ByteArray:=bif seqB (bytesIt i) ⟨#[]⟩ then ⟨#[]⟩ else shaV (bytesIt i)
theorem dm {i:ItemD} (h:rightIt i=true):i.kind=0∧rightB i.act=true∨i.kind=1∧claimR i.claim=true∨i.kind=2∧ballotR i.ballot=true∨i.kind=3∧decR i.dec=true:=by
 rw [rightIt,Zp] at h
 have h:=h.1
 rw [rightK2] at h
 by_cases h0:i.kind=0
 · rw [Zd h0] at h;exact .inl ⟨h0,h⟩
 by_cases h1:i.kind=1
 · rw [Zc h0,Zd h1] at h;exact .inr (.inl ⟨h1,h⟩)
 by_cases h2:i.kind=2
 · rw [Zc h0,Zc h1,Zd h2] at h;exact .inr (.inr (.inl ⟨h2,h⟩))
 by_cases h3:i.kind=3
 · rw [Zc h0,Zc h1,Zc h2,Zd h3] at h;exact .inr (.inr (.inr ⟨h3,h⟩))
 rw [Zc h0,Zc h1,Zc h2,Zc h3] at h
 cases h
theorem g9 {i:ItemD} (h:i.kind=0) (hr:rightIt i=true):rightB i.act=true:=by
 rcases dm hr with h1|h1|h1|h1
 · exact h1.2
 all_goals (rw [h] at h1;exact absurd h1.1 (by decide))
theorem iq {i:ItemD} (hr:i.act.Rng) (hn:i.dec.to.n=i.dec.toL.length) (h:rightIt i=true):(bodyIt i).size≤300000000025:=by
 rw [bodyIt]
 rcases dm h with ⟨h0,h1⟩|⟨h0,h1⟩|⟨h0,h1⟩|⟨h0,h1⟩
 · have:=fY hr
   rw [h0]
   show (actBytes i.act).size≤_
   omega
 · have:=fT (iF h1).2
   have:=dG i.claim.e i.claim.s
   rw [h0]
   show (coreCl i.claim++numsV [i.claim.e,i.claim.s]).size≤_
   rw [Za]
   omega
 · have:=eE (fO h1).2
   have:=dG i.ballot.e i.ballot.s
   rw [h0]
   show (coreBa i.ballot++numsV [i.ballot.e,i.ballot.s]).size≤_
   rw [Za]
   omega
 · have:=eD (jS hn h1).2
   have:=dG i.dec.e i.dec.s
   rw [h0]
   show (coreDe i.dec++numsV [i.dec.e,i.dec.s]).size≤_
   rw [Za]
   omega
theorem jV {i:ItemD} (hr:i.act.Rng) (hn:i.dec.to.n=i.dec.toL.length):(bytesIt i).size≤300000000040:=by
 rw [bytesIt]
 cases h:rightIt i with
 | false=>rw [Ze];simp [ByteArray.size]
 | true =>
  have:=iq hr hn h
  have:=ap i.kind
  rw [Zf,Za]
  omega
set_option maxRecDepth 20000 in
theorem oc (i:ItemD) (hr:i.act.Rng) (hdn:i.dec.to.n=i.dec.toL.length):Pu Tryz.prog 53 #[i.v] (fun w=>i.at_ w) (.string (bytesIt i)):=by
 have hri:=dM i
 have hbs:=@iq i hr hdn
 rw [bytesIt]
 cases hrB:rightIt i with
 | false =>
  rw [hrB] at hri
  refine ak (args:=[_]) _ Tryz.func53 rfl Tryz.ntmps53 rfl fun av bor w0=>?_
  repeat' (first|(refine ab (hc:=hri) (hX:=fun w h=>h) ?_)|refine gs ?_|refine gs1 fun _=>?_|(refine gp ?_ ?_<;>intro hx_ this)|fail)
  all_goals exact ad (ag rfl rfl) rfl
 | true =>
 rw [hrB] at hri
 have hk:=dm hrB
 replace hbs:=hbs hrB
 have hkl:i.kind<9223372036854775808:=by rcases hk with h|h|h|h<;>omega
 refine ak (args:=[_]) _ Tryz.func53 rfl Tryz.ntmps53 rfl fun av bor w0=>?_
 repeat' (first|(refine ab (hc:=hri) (hX:=fun w h=>h) ?_)|refine gs ?_|refine gs1 fun _=>?_|(refine gp ?_ ?_<;>intro hx_ this)|fail)
 rename_i bi bb bs
 have hS:(⟨#[]⟩:ByteArray)++numsV [i.kind]=numV i.kind:=by
  show ByteArray.empty++(numV i.kind++ByteArray.empty)=numV i.kind
  rw [Qj,ByteArray.empty_append]
 have hnk:=ap i.kind
 have hns:(⟨#[]⟩:ByteArray).size+(numsV [i.kind]).size≤1099511627776:=by
  rw [←Za,hS]
  omega
 refine aZ ?_
 refine ga 5 1 ?_
 refine dl (l:=bld bb none 0 ⟨#[]⟩++[cel bi 60 i.cells]) (List.Perm.swap _ _ _) ?_
 refine cj (pre:=bld bb none 0 ⟨#[]⟩) (fr:=[cel bi 60 i.cells]) (hc:=ei bb none 0 ⟨#[]⟩ ⟨some ⟨bs,0,none⟩,1,1⟩ [i.kind] (by simpa using hkl) hns) (hX:=fun w h=>aN (xs:=[[.int .i64 i.kind]]) h.2 rfl (by decide) (by simp)) (h:=?_)
 rintro v R X' ⟨A1,c1,rfl,rfl⟩
 refine cH (X':=fun w=>i.at_ w) (fun w h=>h.1.1) ?_
 rw [hS]
 generalize hs1:numV i.kind=s1 at *
 rw [bodyIt] at hbs ⊢
 rcases hk with ⟨h0,h1⟩|⟨h0,h1⟩|⟨h0,h1⟩|⟨h0,h1⟩
 · rw [Zd h0,Zf] at hbs ⊢
   have hab:=li i.act (dt hr) ⟨hr.ints.2.2.2.2.2.2.2.1,hr.ints.2.2.2.2.2.2.2.2⟩
   generalize actBytes i.act=body at *
   unfold bld
   repeat' (first|refine aH (hab:=h0) ?_|refine gs ?_|refine gs1 fun _=>?_|(refine gp ?_ ?_<;>intro hx_ this)|fail)
   simp only [ZK,ZL]
   (refine ar ⟨[0,2,3],[(1,⟨[],[(4,⟨[],[(5,⟨[6],[(7,⟨[],[]⟩)]⟩)]⟩)]⟩),(4,⟨[],[(1,⟨[],[(5,⟨[6],[(7,⟨[],[]⟩)]⟩)]⟩)]⟩)]⟩ [cel bi 60 i.cells] (fun w=>i.at_ w) (h:=?_))
   all_goals repeat' (first|(refine ab (hc:=hab) (hX:=fun w h=>h.1) ?_)|refine gdz ?_|refine ay (hsub:=by exact aE) (hy:=by first|(apply cE (vs:=i.act.cells);rfl;exact .head _;rfl;rfl)) ?_|refine aA ?_ (h':=?_)|exact aB|(refine iS ?_;refine aF (size:=1) (z:=.int .u8 0) rfl rfl rfl rfl (fun _=>At.there _ (At.here _)) (fun w G=>iy aa) aa (by simp only [maxLen];omega) rfl ?_ rfl ?_;(first|with_reducible rfl|with_reducible assumption|with_reducible exact Zl|with_reducible exact Zn);intro A2 c2)|refine gs1 fun _=>?_|(refine gq ?_ ?_<;>intro hx_ this)|fail)
   all_goals
    repeat' (first|refine gs ?_|refine gs1 fun _=>?_|(refine gp ?_ ?_<;>intro hx_ this)|fail)
    rw [←ck,←dN]
    refine eL (hm:=Zv _ aw) ?_
    repeat' (first|refine gs ?_|refine gs1 fun _=>?_|(refine gp ?_ ?_<;>intro hx_ this)|fail)
    apply ad;apply ag;rfl;rfl
    simp only [cI,Zf]
 · rw [Zc (show ¬ i.kind=0 by omega),Ze,Zd h0,Zf] at hbs ⊢
   obtain ⟨hl,hsm⟩:=iF h1
   have hfo:=nr i h0
   have hcs:=fT hsm
   have hn2:=dG i.claim.e i.claim.s
   have hc1:=fun (A:Option Addr) (c:Nat)=>pd bb A c s1 i hl aa
   have hc2:=fun (A:Option Addr) (c:Nat) (p:ByteArray) (hp:p.size≤6000000) (sl:SlV)=>ei bb A c p sl [i.claim.e,i.claim.s] (by simp;exact ⟨hl.e,hl.s⟩) aa
   generalize coreCl i.claim=core at *
   generalize numsV [i.claim.e,i.claim.s]=sg at *
   unfold bld
   repeat' (first|refine aG (hab:=by omega) ?_|(refine ab (hc:=hfo) (hX:=fun _ _=>trivial) ?_)|refine gs ?_|refine gs1 fun _=>?_|(refine gp ?_ ?_<;>intro hx_ this)|fail)
   rename_i bf
   refine dl (l:=bld bb A1 c1 s1++[cel bf 164 (formCells nameC 174 i.claim.e i.claim.s),cel bi 60 i.cells]) (show List.Perm ([_]++[_,_]++[_]) ([_,_]++[_]++[_]) from List.perm_append_comm.append_right _) ?_
   refine cj (pre:=bld bb A1 c1 s1) (fr:=[cel bf 164 (formCells nameC 174 i.claim.e i.claim.s),cel bi 60 i.cells]) (hc:=hc1 A1 c1) (hX:=fun _ _=>trivial) (h:=?_)
   rintro v R X' ⟨A2,c2,rfl,rfl⟩
   refine cH (X':=fun w=>i.at_ w) (fun w h=>h.1) ?_
   unfold bld
   repeat' (first|refine gs ?_|refine gs1 fun _=>?_|fail)
   rename_i bs2
   refine aZ ?_
   refine cj (pre:=bld bb A2 c2 (s1++core)) (fr:=[cel bf 164 (formCells nameC 174 i.claim.e i.claim.s),cel bi 60 i.cells]) (hc:=hc2 A2 c2 (s1++core) (by rw [Za];omega) ⟨some ⟨bs2,0,none⟩,2,2⟩) (hX:=fun w h=>aN (xs:=[[.int .i64 i.claim.e],[.int .i64 i.claim.s]]) h.2 rfl (by decide) (by simp)) (h:=?_)
   rintro v R X' ⟨A3,c3,rfl,rfl⟩
   unfold bld
   repeat' (first|refine gs ?_|refine gs1 fun _=>?_|fail)
   refine eL (hm:=Zv _ aw) ?_
   repeat' (first|refine gs ?_|refine gs1 fun _=>?_|(refine gp ?_ ?_<;>intro hx_ this)|fail)
   all_goals
    apply ad;apply ag;rfl;rfl
    simp only [cI,Zf,Zy]
 · rw [Zc (show ¬ i.kind=0 by omega),Ze,Zc (show ¬ i.kind=1 by omega),Ze,Zd h0,Zf] at hbs ⊢
   obtain ⟨hl,hsm⟩:=fO h1
   have hfo:=nt i h0
   have hcs:=eE hsm
   have hn2:=dG i.ballot.e i.ballot.s
   have hc1:=fun (A:Option Addr) (c:Nat)=>nN bb A c s1 i hl aa
   have hc2:=fun (A:Option Addr) (c:Nat) (p:ByteArray) (hp:p.size≤6000000) (sl:SlV)=>ei bb A c p sl [i.ballot.e,i.ballot.s] (by simp;exact ⟨hl.e,hl.s⟩) aa
   generalize coreBa i.ballot=core at *
   generalize numsV [i.ballot.e,i.ballot.s]=sg at *
   unfold bld
   repeat' (first|refine aG (hab:=by omega) ?_|(refine ab (hc:=hfo) (hX:=fun _ _=>trivial) ?_)|refine gs ?_|refine gs1 fun _=>?_|(refine gp ?_ ?_<;>intro hx_ this)|fail)
   rename_i bf
   refine dl (l:=bld bb A1 c1 s1++[cel bf 164 (formCells nameB 175 i.ballot.e i.ballot.s),cel bi 60 i.cells]) (show List.Perm ([_]++[_,_]++[_]) ([_,_]++[_]++[_]) from List.perm_append_comm.append_right _) ?_
   refine cj (pre:=bld bb A1 c1 s1) (fr:=[cel bf 164 (formCells nameB 175 i.ballot.e i.ballot.s),cel bi 60 i.cells]) (hc:=hc1 A1 c1) (hX:=fun _ _=>trivial) (h:=?_)
   rintro v R X' ⟨A2,c2,rfl,rfl⟩
   refine cH (X':=fun w=>i.at_ w) (fun w h=>h.1) ?_
   unfold bld
   repeat' (first|refine gs ?_|refine gs1 fun _=>?_|fail)
   rename_i bs2
   refine aZ ?_
   refine cj (pre:=bld bb A2 c2 (s1++core)) (fr:=[cel bf 164 (formCells nameB 175 i.ballot.e i.ballot.s),cel bi 60 i.cells]) (hc:=hc2 A2 c2 (s1++core) (by rw [Za];omega) ⟨some ⟨bs2,0,none⟩,2,2⟩) (hX:=fun w h=>aN (xs:=[[.int .i64 i.ballot.e],[.int .i64 i.ballot.s]]) h.2 rfl (by decide) (by simp)) (h:=?_)
   rintro v R X' ⟨A3,c3,rfl,rfl⟩
   unfold bld
   repeat' (first|refine gs ?_|refine gs1 fun _=>?_|fail)
   refine eL (hm:=Zv _ aw) ?_
   repeat' (first|refine gs ?_|refine gs1 fun _=>?_|(refine gp ?_ ?_<;>intro hx_ this)|fail)
   all_goals
    apply ad;apply ag;rfl;rfl
    simp only [cI,Zf,Zy]
 · rw [Zc (show ¬ i.kind=0 by omega),Ze,Zc (show ¬ i.kind=1 by omega),Ze,Zc (show ¬ i.kind=2 by omega),Ze] at hbs ⊢
   obtain ⟨hl,hsm⟩:=jS hdn h1
   have hfo:=nq i h0
   have hcs:=eD hsm
   have hn2:=dG i.dec.e i.dec.s
   have hc1:=fun (A:Option Addr) (c:Nat)=>jR bb A c s1 i hl aa
   have hc2:=fun (A:Option Addr) (c:Nat) (p:ByteArray) (hp:p.size≤6000000) (sl:SlV)=>ei bb A c p sl [i.dec.e,i.dec.s] (by simp;exact ⟨hl.e,hl.s⟩) aa
   generalize coreDe i.dec=core at *
   generalize numsV [i.dec.e,i.dec.s]=sg at *
   unfold bld
   repeat' (first|refine aG (hab:=by omega) ?_|(refine ab (hc:=hfo) (hX:=fun _ _=>trivial) ?_)|refine gs ?_|refine gs1 fun _=>?_|(refine gp ?_ ?_<;>intro hx_ this)|fail)
   rename_i bf
   refine dl (l:=bld bb A1 c1 s1++[cel bf 164 (formCells nameD 176 i.dec.e i.dec.s),cel bi 60 i.cells]) (show List.Perm ([_]++[_,_]++[_]) ([_,_]++[_]++[_]) from List.perm_append_comm.append_right _) ?_
   refine cj (pre:=bld bb A1 c1 s1) (fr:=[cel bf 164 (formCells nameD 176 i.dec.e i.dec.s),cel bi 60 i.cells]) (hc:=hc1 A1 c1) (hX:=fun w h=>h) (h:=?_)
   rintro v R X' ⟨A2,c2,rfl,rfl⟩
   refine cH (X':=fun w=>i.at_ w) (fun w h=>h.1) ?_
   unfold bld
   repeat' (first|refine gs ?_|refine gs1 fun _=>?_|fail)
   rename_i bs2
   refine aZ ?_
   refine cj (pre:=bld bb A2 c2 (s1++core)) (fr:=[cel bf 164 (formCells nameD 176 i.dec.e i.dec.s),cel bi 60 i.cells]) (hc:=hc2 A2 c2 (s1++core) (by rw [Za];omega) ⟨some ⟨bs2,0,none⟩,2,2⟩) (hX:=fun w h=>aN (xs:=[[.int .i64 i.dec.e],[.int .i64 i.dec.s]]) h.2 rfl (by decide) (by simp)) (h:=?_)
   rintro v R X' ⟨A3,c3,rfl,rfl⟩
   unfold bld
   repeat' (first|refine gs ?_|refine gs1 fun _=>?_|fail)
   refine eL (hm:=Zv _ aw) ?_
   repeat' (first|refine gs ?_|refine gs1 fun _=>?_|(refine gp ?_ ?_<;>intro hx_ this)|fail)
   all_goals
    apply ad;apply ag;rfl;rfl
    simp only [cI,Zf,Zy]
theorem dA (i:ItemD) (hr:i.act.Rng) (hdn:i.dec.to.n=i.dec.toL.length):Pu Tryz.prog 18 #[i.v] (fun w=>i.at_ w∧Glob w) (.string (digIt i)):=by
 refine ak (args:=[_]) _ Tryz.func18 rfl Tryz.ntmps18 rfl fun av bor w0=>?_
 have hsz:=jV hr hdn
 have hb:=oc i hr hdn
 repeat' (first|(refine ab (hc:=hb) (hX:=fun w h=>h.1) ?_)|refine ab (hc:=pM _ aa) ?_|refine gs ?_|refine gs1 fun _=>?_|(refine gp ?_ ?_<;>intro hx_ this)|fail)
 all_goals (apply ad;apply ag;rfl;rfl)
 · simp only [digIt,hx_,Zf]
 · simp only [digIt,hx_,Ze]
theorem yz {i:ItemD} (h:i.kind=0) (hr:rightIt i=true):digIt i=digV i.act:=by
 have e:bytesIt i=bytesV i.act:=by rw [bytesIt,bytesV,hr,g9 h hr,Zf,Zf,bodyIt,h];rfl
 rw [digIt,digV,e]
theorem uH (p:Int) (c:ClaimD) (h:claimR c=true):Pu Tryz.prog 116 #[.int .i64 p,c.v] Glob (.bool (sgnC p c)):=by
 refine ak (args:=[_,_]) _ Tryz.func116 rfl Tryz.ntmps116 rfl fun av bor w0=>?_
 obtain ⟨hl,hsm⟩:=iF h
 have hsi:=pK p (ofClaimI c) rfl hl (ZY (ie (by decide) (ZY (fT hsm) (by decide))) (by decide))
 have hat:∀ w,(ofClaimI c).at_ w:=fun w=>⟨⟨bt w 1,bt w 5⟩,bt w 1⟩
 repeat' (first|(refine ab (hc:=gH c) (hX:=fun _ _=>trivial) ?_)|(refine ab (hc:=hsi) (hX:=fun w h=>⟨hat w,h⟩) ?_)|refine gs ?_|refine gs1 fun _=>?_|(refine gp ?_ ?_<;>intro hx_ this)|fail)
 exact ad (ag rfl rfl) rfl
def signedIt (L:List Int) (i:ItemD):Bool:=rightIt i&&bif decide (i.kind=2) then decide (i.ballot.server<(L.length:Nat))&&sgnB (L.getD i.ballot.server.toNat 0) i.ballot else bif decide (i.kind=3) then decide (i.dec.server<(L.length:Nat))&&sgnD (L.getD i.dec.server.toNat 0) i.dec else true
set_option maxRecDepth 20000 in
theorem gZ (s:SlV) (L:List Int) (i:ItemD) (hdn:i.dec.to.n=i.dec.toL.length):Pu Tryz.prog 74 #[s.v,i.v] (fun w=>(Ints w s L∧i.at_ w)∧Glob w) (.bool (signedIt L i)):=by
 refine ak (args:=[_,_]) _ Tryz.func74 rfl Tryz.ntmps74 rfl fun av bor w0=>?_
 refine aP (p:=s.n=L.length∧s.n≤maxLen∧(0<L.length→s.p.isSome=true)) (fun w h=>⟨h.1.1.len_,ZY (RowsD.cap h.1.1) (RowsD.max h.1.1),h.1.1.some_⟩) fun ⟨hsn,hsm,hsp⟩=>?_
 simp only [maxLen] at hsm
 have hri:=dM i
 cases hrB:rightIt i with
 | false =>
  rw [hrB] at hri
  rw [show signedIt L i=false from by rw [signedIt,hrB];rfl]
  repeat' (first|(refine ab (hc:=hri) (hX:=fun w h=>h.1.2) ?_)|refine gs ?_|refine gs1 fun _=>?_|(refine gp ?_ ?_<;>intro hx_ this)|fail)
  exact ad (ag rfl rfl) rfl
 | true =>
 rw [hrB] at hri
 have hk:=dm hrB
 by_cases h2:i.kind=2
 · rcases hk with h|h|h|h
   all_goals first|(exfalso;omega)|skip
   have h1:=h.2
   clear h
   obtain ⟨hl,hz⟩:=fO h1
   have hlo:0≤i.ballot.server:=(cu (by have:=h1;simp only [ballotR,Zp] at this;exact this.1)).1
   have hms:=ie (nm:=nameB) (by decide) (ZY (eE hz) (by decide))
   have hsg:=fun p:Int=>pL p i h2 hl (ZY hms (by decide))
   by_cases hlt:i.ballot.server<(L.length:Nat)
   · have hsp':=hsp aa
     have e:signedIt L i=sgnB (L.getD i.ballot.server.toNat 0) i.ballot:=by rw [signedIt,hrB,Zd h2,Zf,Zd hlt,Zg,Zg]
     rw [e]
     have hget:∀ w,(Ints w s L∧i.at_ w)∧Glob w→CellAt w s.p i.ballot.server.toNat (.int .i64 (L.getD i.ballot.server.toNat 0)):=fun w h=>Ints.get h.1.1 aa
     have hsg1:=hsg (L.getD i.ballot.server.toNat 0)
     generalize L.getD i.ballot.server.toNat 0=pk at *
     repeat' (first|refine aH (hab:=by omega) ?_|refine aG (hab:=by omega) ?_|(refine ab (hc:=hri) (hX:=fun w h=>h.1.2) ?_)|refine gs ?_|refine gs1 fun _=>?_|(refine gp ?_ ?_<;>intro hx_ this)|fail)
     rename_i b3
     (refine ar ⟨[0,1,2,3,4,5,6,7,8,9],[(10,⟨[11,12],[]⟩)]⟩ [cel b3 60 i.cells] (fun w=>(Ints w s L∧i.at_ w)∧Glob w) (h:=?_))
     all_goals repeat' (first|refine ay (hsub:=by exact aE) (hy:=by first|(apply cd true;rfl;rfl;exact Zd aa)) ?_|(refine ab (hc:=hsg1) (hX:=fun w h=>⟨h.1.2,h.2⟩) ?_)|refine gdz ?_|refine ay (hsub:=by exact aE) (hy:=by first|(apply aC (q:=i.ballot.server.toNat);rfl;rfl;omega;omega;assumption;omega)|(apply er (q:=i.ballot.server.toNat) (u:=.int .i64 pk);rfl;exact hget)) ?_|refine aA ?_ (h':=?_)|exact aB|refine gs1 fun _=>?_|(refine gq ?_ ?_<;>intro hx_ this)|fail)
     all_goals
      repeat' (first|refine gs ?_|refine gs1 fun _=>?_|(refine gp ?_ ?_<;>intro hx_ this)|fail)
      exact ad (ag rfl rfl) rfl
   · have e:signedIt L i=false:=by rw [signedIt,hrB,Zd h2,Zf,Zc hlt];rfl
     rw [e]
     repeat' (first|refine aH (hab:=by omega) ?_|refine aG (hab:=by omega) ?_|(refine ab (hc:=hri) (hX:=fun w h=>h.1.2) ?_)|refine gs ?_|refine gs1 fun _=>?_|(refine gp ?_ ?_<;>intro hx_ this)|fail)
     rename_i b3
     (refine ar ⟨[0,1,2,3,4,5,6,7,8,9],[(10,⟨[11,12],[]⟩)]⟩ [cel b3 60 i.cells] (fun w=>(Ints w s L∧i.at_ w)∧Glob w) (h:=?_))
     all_goals repeat' (first|refine ay (hsub:=by exact aE) (hy:=by first|(apply cd false;rfl;rfl;exact Zc aa)) ?_|refine gdz ?_|refine aA ?_ (h':=?_)|exact aB|refine gs1 fun _=>?_|(refine gq ?_ ?_<;>intro hx_ this)|fail)
     all_goals
      repeat' (first|refine gs ?_|refine gs1 fun _=>?_|(refine gp ?_ ?_<;>intro hx_ this)|fail)
      exact ad (ag rfl rfl) rfl
 by_cases h3:i.kind=3
 · rcases hk with h|h|h|h
   all_goals first|(exfalso;omega)|skip
   have h1:=h.2
   clear h
   obtain ⟨hl,hz⟩:=jS hdn h1
   have hlo:0≤i.dec.server:=(cu (by have:=h1;simp only [decR,Zp] at this;exact this.1)).1
   have hms:=ie (nm:=nameD) (by decide) (ZY (eD hz) (by decide))
   have hsg:=fun p:Int=>pJ p i h3 hl (ZY hms (by decide))
   by_cases hlt:i.dec.server<(L.length:Nat)
   · have hsp':=hsp aa
     have e:signedIt L i=sgnD (L.getD i.dec.server.toNat 0) i.dec:=by rw [signedIt,hrB,Zc h2,Ze,Zd h3,Zf,Zd hlt,Zg,Zg]
     rw [e]
     have hget:∀ w,(Ints w s L∧i.at_ w)∧Glob w→CellAt w s.p i.dec.server.toNat (.int .i64 (L.getD i.dec.server.toNat 0)):=fun w h=>Ints.get h.1.1 aa
     have hsg1:=hsg (L.getD i.dec.server.toNat 0)
     generalize L.getD i.dec.server.toNat 0=pk at *
     repeat' (first|refine aH (hab:=by omega) ?_|refine aG (hab:=by omega) ?_|(refine ab (hc:=hri) (hX:=fun w h=>h.1.2) ?_)|refine gs ?_|refine gs1 fun _=>?_|(refine gp ?_ ?_<;>intro hx_ this)|fail)
     rename_i b3
     (refine ar ⟨[0,1,2,3,4,5,6,7,8,9],[(10,⟨[11,12],[]⟩)]⟩ [cel b3 60 i.cells] (fun w=>(Ints w s L∧i.at_ w)∧Glob w) (h:=?_))
     all_goals repeat' (first|refine ay (hsub:=by exact aE) (hy:=by first|(apply cd true;rfl;rfl;exact Zd aa)) ?_|(refine ab (hc:=hsg1) (hX:=fun w h=>⟨h.1.2,h.2⟩) ?_)|refine gdz ?_|refine ay (hsub:=by exact aE) (hy:=by first|(apply aC (q:=i.dec.server.toNat);rfl;rfl;omega;omega;assumption;omega)|(apply er (q:=i.dec.server.toNat) (u:=.int .i64 pk);rfl;exact hget)) ?_|refine aA ?_ (h':=?_)|exact aB|refine gs1 fun _=>?_|(refine gq ?_ ?_<;>intro hx_ this)|fail)
     all_goals
      repeat' (first|refine gs ?_|refine gs1 fun _=>?_|(refine gp ?_ ?_<;>intro hx_ this)|fail)
      exact ad (ag rfl rfl) rfl
   · have e:signedIt L i=false:=by rw [signedIt,hrB,Zc h2,Ze,Zd h3,Zf,Zc hlt];rfl
     rw [e]
     repeat' (first|refine aH (hab:=by omega) ?_|refine aG (hab:=by omega) ?_|(refine ab (hc:=hri) (hX:=fun w h=>h.1.2) ?_)|refine gs ?_|refine gs1 fun _=>?_|(refine gp ?_ ?_<;>intro hx_ this)|fail)
     rename_i b3
     (refine ar ⟨[0,1,2,3,4,5,6,7,8,9],[(10,⟨[11,12],[]⟩)]⟩ [cel b3 60 i.cells] (fun w=>(Ints w s L∧i.at_ w)∧Glob w) (h:=?_))
     all_goals repeat' (first|refine ay (hsub:=by exact aE) (hy:=by first|(apply cd false;rfl;rfl;exact Zc aa)) ?_|refine gdz ?_|refine aA ?_ (h':=?_)|exact aB|refine gs1 fun _=>?_|(refine gq ?_ ?_<;>intro hx_ this)|fail)
     all_goals
      repeat' (first|refine gs ?_|refine gs1 fun _=>?_|(refine gp ?_ ?_<;>intro hx_ this)|fail)
      exact ad (ag rfl rfl) rfl
 have e:signedIt L i=true:=by rw [signedIt,hrB,Zc h2,Zc h3];rfl
 rw [e]
 repeat' (first|refine aG (hab:=by omega) ?_|(refine ab (hc:=hri) (hX:=fun w h=>h.1.2) ?_)|refine gs ?_|refine gs1 fun _=>?_|(refine gp ?_ ?_<;>intro hx_ this)|fail)
 all_goals exact ad (ag rfl rfl) rfl
def actsFor (L:List ActD) (k:PosK):List ActD:=L.filter fun a=>decide (a.seq=k.1)&&seqB a.prev k.2
structure NextD (q:Nat) (G:List (PosK×SlV)) (L:List ActD) (w:World):Prop where
 map:SMapAt Tryz.prog 129 w q (G.map fun g=>(g.1,g.2.v))
 rows:∀ k,Acts w ((dget G k).getD ⟨none,0,0⟩) (actsFor L k)
theorem ik {κ β γ:Type} [DecidableEq κ] (f:β→γ):∀ (l:List (κ×β)) (k:κ),dget (l.map fun p=>(p.1,f p.2)) k=(dget l k).map f
 | [],_=>rfl
 | (k',v')::r,k=>by
  simp only [Z1,dget,ik f r k]
  cases decide (k=k')<;>rfl
theorem BS {st:ChS} {h:BldH} {sa sk:SlV} {id:ByteArray} (hid:h.id=id) (hn:sa.n=st.acts.length) (a:ActD) (pl:Option Nat):fitsV ⟨h.id,sa,sk,st.prev,(st.gen:Nat),h.fork,st.acts⟩ a pl=fitsV (st.ch id) a pl:=by
 subst hid
 obtain ⟨p,n,c⟩:=sa
 simp only at hn
 subst hn
 rfl
theorem oX (l:List KeyD):∀ r∈l.map KeyD.cells,r.length=3:=fun r hr=>by
 obtain ⟨c,_,rfl⟩:=QJ.1 hr
 rfl
theorem oP {l:List ActD} (h:l.length≠1):oneA l=none:=by
 match l,h with
 | [],_=>rfl
 | [x],h=>exact absurd rfl h
 | x::y::r,_=>rfl
structure CanI (M:List ActD) (B:ActD→Bool) where
 k:Nat
 hk:k≤M.length
 A:Option Addr
 c:Nat
 n:Nat
 hn:n=((M.take k).filter B).length
 xs:List Value
 hxs:xs=(((M.take k).filter B).map ActD.cells).flatten
theorem qq (b:Nat) (h:BldH) (sa sk:SlV) (st:ChS) (pl:List (ByteArray×Value)) (ok:BldOk sa sk st pl) (W:OfW) (G:List (PosK×SlV)) (hI:InvS W st) (hid:h.id=W.id)
  (hok:ActsOk W.L) (hL:W.L.length≤100000) (hB:W.B≤100000)
  (hver:∀ a∈W.L,∀ p:Int,Pu Tryz.prog 64 #[.int .i64 p,a.v] (fun w=>a.at_ w∧Glob w) (.bool (W.ver p a))) :
  Ct Tryz.prog 68 #[.pointer (some ⟨b,0,none⟩)] (bldR b h sa sk st pl) (fun w=>(NextD h.q1 G W.L w∧∀ a∈W.L,a.at_ w)∧Glob w)
   (fun u R _=>(∀ a,oneA (candL W st)=some a→BldAt b h (addS st a) (.bool true) u R)∧(oneA (candL W st)=none→BldAt b { h with fork:=decide (1<(candL W st).length) } st (.bool false) u R)):=by
 have hlen:=hI.len
 have hkn:=hI.keyn
 have hgen:=hI.gen
 have ok':=ok
 obtain ⟨hn,hk,hp⟩:=ok
 refine eY (args:=[_]) _ Tryz.func68 rfl Tryz.ntmps68 rfl fun av bor w0=>?_
 obtain ⟨K,hK⟩:∃ K,st.keys[st.keys.length-1]?=some K:=⟨_,Zb (by have:=hI.key;omega)⟩
 have hKey:st.key=K.public_:=by rw [ChS.key,Zo,hK];rfl
 have hk0:=hI.key
 obtain ⟨M,hM⟩:∃ M,actsFor W.L ((sa.n:Int),st.prev)=M:=⟨_,rfl⟩
 have hcand:candL W st=M.filter (candB W st):=by rw [candL,←hM,actsFor,hn];rfl
 have hMm:∀ a∈M,a∈W.L:=fun a ha=>by rw [←hM] at ha;exact (QN.1 ha).1
 have hMl:M.length≤W.L.length:=by rw [←hM];exact Qa _ _
 obtain ⟨s,hs⟩:∃ s,(dget G ((sa.n:Int),st.prev)).getD ⟨none,0,0⟩=s:=⟨_,rfl⟩
 have hgl:∃ o,dget (G.map fun g=>(g.1,g.2.v)) ((sa.n:Int),st.prev)=o∧o.getD (.slice none 0 0)=s.v:=by
  refine ⟨_,rfl,?_⟩
  rw [ik,←hs]
  cases dget G ((sa.n:Int),st.prev)<;>rfl
 obtain ⟨o,ho,hov⟩:=hgl
 refine aP (p:=s.n=M.length∧s.n≤maxLen∧(0<M.length→s.p.isSome=true)) (fun w h=>by
  have h1:=h.1.1.rows ((sa.n:Int),st.prev)
  rw [hs,hM] at h1
  exact ⟨h1.len_,h1.max_,h1.some_⟩) fun ⟨hsn,hsm,hsp⟩=>?_
 simp only [maxLen] at hsm
 have hro:∀ w,((NextD h.q1 G W.L w∧∀ a∈W.L,a.at_ w)∧Glob w)→Acts w s M:=fun w h=>by
  have h1:=h.1.1.rows ((sa.n:Int),st.prev)
  rwa [hs,hM] at h1
 unfold bldR keyR actR
 refine cO (r:=orow 133 3 (.slice sk.p sk.n sk.c) sk.n (st.keys.map KeyD.cells).flatten) aW (p:=sk.p.isSome=true) (fun w h=>cC h aa) fun hkp=>?_
 repeat' (first|refine gs ?_|refine gs1 fun _=>?_|(refine gp ?_ ?_<;>intro hx_ this)|fail)
 rename_i b1
 have hLOC:True:=trivial
 (refine ar ⟨[0,1,2,3,4,5,6,7,8,9,10,11,12,13],[]⟩ [cel b1 122 [.pointer (some ⟨b,0,none⟩)],cel b 126 (bldC h sa sk st.prev (st.gen:Nat)),orow 46 20 (.slice sa.p sa.n sa.c) sa.n (st.acts.map ActD.cells).flatten,orow 133 3 (.slice sk.p sk.n sk.c) sk.n (st.keys.map KeyD.cells).flatten,mapr h.q2 pl] (fun w=>(NextD h.q1 G W.L w∧∀ a∈W.L,a.at_ w)∧Glob w) (h:=?_))
 all_goals repeat' (first|refine gdz ?_|refine ay (hsub:=by exact aE) (hy:=by first|(apply aC (q:=(sk.n-1)*3);rfl;rfl;omega;omega;assumption;omega)|(apply gT;rfl;assumption;rfl)|(apply gz (xs:=st.keys.map KeyD.cells) (cs:=K.cells) (i:=sk.n-1) (j:=1) (u:=.int .i64 K.public_);rfl;(repeat (first|exact aw|apply Zv));(simp [hk]);exact oX st.keys;(simp [hk,hK]);rfl)) ?_|refine aA ?_ (h':=?_)|exact aB|refine gs1 fun _=>?_|(refine gq ?_ ?_<;>intro hx_ this)|fail)
 repeat' (first|refine gs ?_|refine gs1 fun _=>?_|(refine dR ?_)|(refine gp ?_ ?_<;>intro hx_ this)|fail)
 (refine ar ⟨[0,1,2,3,4,5,6,7,8,9,10,11,12,13,16],[(14,⟨[15],[]⟩)]⟩ [cel b1 122 [.pointer (some ⟨b,0,none⟩)],cel b 126 (bldC h sa sk st.prev (st.gen:Nat)),orow 46 20 (.slice sa.p sa.n sa.c) sa.n (st.acts.map ActD.cells).flatten,orow 133 3 (.slice sk.p sk.n sk.c) sk.n (st.keys.map KeyD.cells).flatten,mapr h.q2 pl] (fun w=>(NextD h.q1 G W.L w∧∀ a∈W.L,a.at_ w)∧Glob w) (h:=?_))
 all_goals repeat' (first|refine gdz ?_|refine ay (hsub:=by exact aE) (hy:=by first|(apply fa (cs:=[.int .i64 (sa.n:Nat),.string st.prev]);rfl;rfl)) ?_|refine aA ?_ (h':=?_)|exact aB|(refine ai (on (κ:=PosK) (kk:=((sa.n:Int),st.prev)) (z:=.slice none 0 0) (o:=o) (v:=s.v) rfl rfl (qX fun w h=>h.1.1.map) ho hov) rfl rfl rfl ?_)|refine gs1 fun _=>?_|(refine gq ?_ ?_<;>intro hx_ this)|fail)
 apply QU
 refine cS 46 20 ?_
 refine aq (ι:=CanI M (candB W st)) (fun i=>⟨[(1,.pointer (some ⟨b1,0,none⟩)),(3,.pointer (some ⟨b,2,none⟩)),(4,.int .i64 K.public_),(5,.func (.func 118) #[] #[.pointer (some ⟨b1,0,none⟩)]),(6,.slice i.A i.n i.c),(40,s.v),(41,.int .i64 (s.n:Nat)),(42,.int .i64 (i.k:Nat))],[orow 46 20 (.slice i.A i.n i.c) i.n i.xs,cel b1 122 [.pointer (some ⟨b,0,none⟩)],cel b 126 (bldC h sa sk st.prev (st.gen:Nat)),orow 46 20 (.slice sa.p sa.n sa.c) sa.n (st.acts.map ActD.cells).flatten,orow 133 3 (.slice sk.p sk.n sk.c) sk.n (st.keys.map KeyD.cells).flatten,mapr h.q2 pl],(fun w=>(NextD h.q1 G W.L w∧∀ a∈W.L,a.at_ w)∧Glob w)⟩) (fun i=>M.length-i.k) ⟨0,Z4 _,none,0,0,rfl,[],rfl⟩ (aj am (al _) fun _ h=>h) fun i=>?_
 obtain ⟨k,hk',A,cc,n,hn',xs,hxs⟩:=i
 simp only
 have hnl:n≤100000:=by have h1:=Qa (candB W st) (M.take k);rw [←hn',Qi] at h1;omega
 repeat' (first|refine gs ?_|refine gs1 fun _=>?_|(refine gp ?_ ?_<;>intro hx_ this)|fail)
 · have hlt:k<M.length:=by omega
   have hsp':=hsp aa
   obtain ⟨a,ha⟩:∃ a,M[k]?=some a:=⟨_,Zb hlt⟩
   have ham:a∈M:=Z6 ha
   repeat' (first|refine gs ?_|refine gs1 fun _=>?_|(refine aI (q:=k*20) ?_)|(refine ca (cs:=a.cells) (hF:=fun w h=>Acts.get (hro w h) ha) ?_)|(refine gp ?_ ?_<;>intro hx_ this)|fail)
   rename_i b8
   have hf:=Ei ⟨h.id,sa,sk,st.prev,(st.gen:Nat),h.fork,st.acts⟩ a 118 [.pointer (some ⟨b1,0,none⟩)] (idxV st.acts a.object) _ (Cd b b1 h sa sk st pl hp a.object) (fun j hj=>Ec hj)
   rw [BS hid hn] at hf
   have hXf:∀ w,((NextD h.q1 G W.L w∧∀ a∈W.L,a.at_ w)∧Glob w)→(∀ r∈[cel b8 46 a.cells,orow 46 20 (.slice A n cc) n xs,cel b1 122 [.pointer (some ⟨b,0,none⟩)],cel b 126 (bldC h sa sk st.prev (st.gen:Nat)),orow 46 20 (.slice sa.p sa.n sa.c) sa.n (st.acts.map ActD.cells).flatten,orow 133 3 (.slice sk.p sk.n sk.c) sk.n (st.keys.map KeyD.cells).flatten,mapr h.q2 pl],r.F w)→(ChainD.at_ w ⟨h.id,sa,sk,st.prev,(st.gen:Nat),h.fork,st.acts⟩∧a.at_ w∧CelD b1 [.pointer (some ⟨b,0,none⟩)] w∧CelD b (bldC h sa sk st.prev (st.gen:Nat)) w∧MapAt w h.q2 pl):=fun w hw hr =>
    ⟨fD (hr _ (.tail _ (.tail _ (.tail _ (.tail _ (.head _)))))) hn (fun x hx=>hw.1.2 x (hI.mem x hx)),hw.1.2 a (hMm a ham),fC (hr _ (.tail _ (.tail _ (.head _)))),fC (hr _ (.tail _ (.tail _ (.tail _ (.head _))))),hr _ (.tail _ (.tail _ (.tail _ (.tail _ (.tail _ (.tail _ (.head _)))))))⟩
   have hv:=hver a (hMm a ham) K.public_
   have htk:((M.take (k+1)).filter (candB W st))=(M.take k).filter (candB W st)++(bif candB W st a then [a] else []):=by
    rw [Qg,ha,Qv,Qu]
    congr 1
   have hcb:candB W st a=(fitsV (st.ch W.id) a (idxV st.acts a.object)&&W.ver K.public_ a):=by rw [candB,hKey]
   cases hfv:fitsV (st.ch W.id) a (idxV st.acts a.object) with
   | false =>
    rw [hfv] at hf hcb
    have hno:(M.take (k+1)).filter (candB W st)=(M.take k).filter (candB W st):=by simp [htk,hcb]
    (refine ar ⟨[0,1,2,3,4],[(5,⟨[6,7,8],[(9,⟨[10],[]⟩)]⟩)]⟩ [cel b8 46 a.cells,orow 46 20 (.slice A n cc) n xs,cel b1 122 [.pointer (some ⟨b,0,none⟩)],cel b 126 (bldC h sa sk st.prev (st.gen:Nat)),orow 46 20 (.slice sa.p sa.n sa.c) sa.n (st.acts.map ActD.cells).flatten,orow 133 3 (.slice sk.p sk.n sk.c) sk.n (st.keys.map KeyD.cells).flatten,mapr h.q2 pl] (fun w=>(NextD h.q1 G W.L w∧∀ a∈W.L,a.at_ w)∧Glob w) (h:=?_))
    all_goals repeat' (first|(refine mB (hc:=hf) (hX:=hXf) ?_)|(refine ab (hc:=hv) (hX:=fun w h=>⟨h.1.2 a (hMm a ham),h.2⟩) ?_)|refine gdz ?_|refine ay (hsub:=by exact aE) (hy:=by first|(apply cE (vs:=[.string h.id,.slice sa.p sa.n sa.c,.slice sk.p sk.n sk.c,.string st.prev,.int .i64 (st.gen:Nat),.bool h.fork]);rfl;(repeat (first|exact aw|apply Zv));rfl;rfl)) ?_|refine aA ?_ (h':=?_)|exact aB|refine gs1 fun _=>?_|(refine gq ?_ ?_<;>intro hx_ this)|fail)
    all_goals
     repeat' (first|refine gs ?_|refine gs1 fun _=>?_|(refine gp ?_ ?_<;>intro hx_ this)|fail)
     exact ⟨(⟨k+1,hlt,A,cc,n,by rw [hno];exact hn',xs,by rw [hno];exact hxs⟩:CanI M (candB W st)),(by show M.length-(k+1)<M.length-k;omega),aj am (Z2 _ (al _)) fun _ h=>h⟩
   | true =>
    rw [hfv] at hf hcb
    cases hve:W.ver K.public_ a with
    | false =>
     rw [hve] at hv hcb
     have hno:(M.take (k+1)).filter (candB W st)=(M.take k).filter (candB W st):=by simp [htk,hcb]
     (refine ar ⟨[0,1,2,3,4],[(5,⟨[6,7,8],[(9,⟨[10],[]⟩)]⟩)]⟩ [cel b8 46 a.cells,orow 46 20 (.slice A n cc) n xs,cel b1 122 [.pointer (some ⟨b,0,none⟩)],cel b 126 (bldC h sa sk st.prev (st.gen:Nat)),orow 46 20 (.slice sa.p sa.n sa.c) sa.n (st.acts.map ActD.cells).flatten,orow 133 3 (.slice sk.p sk.n sk.c) sk.n (st.keys.map KeyD.cells).flatten,mapr h.q2 pl] (fun w=>(NextD h.q1 G W.L w∧∀ a∈W.L,a.at_ w)∧Glob w) (h:=?_))
     all_goals repeat' (first|(refine mB (hc:=hf) (hX:=hXf) ?_)|(refine ab (hc:=hv) (hX:=fun w h=>⟨h.1.2 a (hMm a ham),h.2⟩) ?_)|refine gdz ?_|refine ay (hsub:=by exact aE) (hy:=by first|(apply cE (vs:=[.string h.id,.slice sa.p sa.n sa.c,.slice sk.p sk.n sk.c,.string st.prev,.int .i64 (st.gen:Nat),.bool h.fork]);rfl;(repeat (first|exact aw|apply Zv));rfl;rfl)) ?_|refine aA ?_ (h':=?_)|exact aB|refine gs1 fun _=>?_|(refine gq ?_ ?_<;>intro hx_ this)|fail)
     all_goals
      repeat' (first|refine gs ?_|refine gs1 fun _=>?_|(refine gp ?_ ?_<;>intro hx_ this)|fail)
      exact ⟨(⟨k+1,hlt,A,cc,n,by rw [hno];exact hn',xs,by rw [hno];exact hxs⟩:CanI M (candB W st)),(by show M.length-(k+1)<M.length-k;omega),aj am (Z2 _ (al _)) fun _ h=>h⟩
    | true =>
     rw [hve] at hv hcb
     have hyes:(M.take (k+1)).filter (candB W st)=(M.take k).filter (candB W st)++[a]:=by rw [htk,hcb];rfl
     (refine ar ⟨[0,1,2,3,4],[(5,⟨[6,7,8],[(9,⟨[10],[]⟩)]⟩)]⟩ [cel b8 46 a.cells,orow 46 20 (.slice A n cc) n xs,cel b1 122 [.pointer (some ⟨b,0,none⟩)],cel b 126 (bldC h sa sk st.prev (st.gen:Nat)),orow 46 20 (.slice sa.p sa.n sa.c) sa.n (st.acts.map ActD.cells).flatten,orow 133 3 (.slice sk.p sk.n sk.c) sk.n (st.keys.map KeyD.cells).flatten,mapr h.q2 pl] (fun w=>(NextD h.q1 G W.L w∧∀ a∈W.L,a.at_ w)∧Glob w) (h:=?_))
     all_goals repeat' (first|(refine mB (hc:=hf) (hX:=hXf) ?_)|(refine ab (hc:=hv) (hX:=fun w h=>⟨h.1.2 a (hMm a ham),h.2⟩) ?_)|refine gdz ?_|refine ay (hsub:=by exact aE) (hy:=by first|(apply cE (vs:=[.string h.id,.slice sa.p sa.n sa.c,.slice sk.p sk.n sk.c,.string st.prev,.int .i64 (st.gen:Nat),.bool h.fork]);rfl;(repeat (first|exact aw|apply Zv));rfl;rfl)) ?_|refine aA ?_ (h':=?_)|exact aB|refine gs1 fun _=>?_|(refine gq ?_ ?_<;>intro hx_ this)|fail)
     all_goals
      repeat' (first|refine cA (size:=20) (vs:=[a.v]) (css:=a.cells) (hsz:=by rfl) (hcs:=by rfl) fun _=>?_|refine gs ?_|refine gs1 fun _=>?_|(refine gp ?_ ?_<;>intro hx_ this)|fail)
      refine aF (size:=20) (news:=a.cells) (q:=1) rfl rfl rfl rfl (fun _=>At.there _ (At.there _ (At.here _))) (fun w G=>bT G aw rfl rfl 1) aa (by simp only [maxLen];omega) rfl ?_ rfl ?_
      · (first|with_reducible rfl|with_reducible assumption|with_reducible exact Zl|with_reducible exact Zn)
      intro A2 c2
      repeat' (first|refine gs ?_|refine gs1 fun _=>?_|(refine gp ?_ ?_<;>intro hx_ this)|fail)
      exact ⟨(⟨k+1,hlt,A2,c2,n+1,by rw [hyes,ZA,←hn'];rfl,xs++a.cells,by rw [hyes,hxs];simp⟩:CanI M (candB W st)),(by show M.length-(k+1)<M.length-k;omega),aj am (Z2 _ (Z2 _ (al _))) fun _ h=>h⟩
 have hkE:k=M.length:=by omega
 have hfin:candL W st=(M.take k).filter (candB W st):=by rw [hcand,hkE,Qh]
 have hnc:n=(candL W st).length:=by rw [hfin];exact hn'
 · have hn1:n≠1:=by
    intro e
    rw [e] at hx_
    exact absurd hx_ (by decide)
   have hone:oneA (candL W st)=none:=oP aa
   have hdc:decide ((1:Int)<(n:Int))=decide (1<(candL W st).length):=by
    rw [←hnc]
    by_cases h1:1<n
    · rw [Zd h1,Zd (by omega)]
    · rw [Zc h1,Zc (by omega)]
   refine ad (ag rfl rfl) ⟨bldR b { h with fork:=decide ((1:Int)<(n:Int)) } sa sk st pl,Z2 _ (Z2 _ (al _)),fun a ha=>?_,fun _=>?_⟩
   · rw [hone] at ha
     cases ha
   · rw [←hdc]
     exact ⟨rfl,sa,sk,pl,ok',rfl⟩
 have hkE:k=M.length:=by omega
 have hfin:candL W st=(M.take k).filter (candB W st):=by rw [hcand,hkE,Qh]
 have hnc:n=(candL W st).length:=by rw [hfin];exact hn'
 have hn1:n=1:=by
  by_cases e:n=1
  · exact e
  · exact absurd hx_ (by simp;omega)
 obtain ⟨a,ha⟩:∃ a,candL W st=[a]:=List.length_eq_one_iff.1 aa
 have ham:a∈W.L:=(jU (show a∈candL W st from by rw [ha];exact Z5.2 rfl)).1
 have hxa:xs=a.cells:=by rw [hxs,←hfin,ha];simp
 subst hxa
 subst hn1
 refine cO (r:=orow 46 20 (.slice A 1 cc) 1 a.cells) aW (p:=A.isSome=true) (fun w h=>cC h (by decide)) fun hAp=>?_
 have had:=Cy b h sa sk st pl ok' a (hok.rng a ham) (hok.sm a ham) aa aa
 (refine ar ⟨[1,2],[(0,⟨[],[(3,⟨[],[(4,⟨[],[]⟩)]⟩)]⟩),(3,⟨[],[(0,⟨[],[(4,⟨[],[]⟩)]⟩)]⟩)]⟩ [] (fun _=>True) (h:=?_))
 all_goals repeat' (first|refine gd ?_|refine ay (hy:=by first|(apply aC (q:=0);rfl;rfl;omega;omega;assumption;rfl)) ?_|refine aA ?_ (h':=?_)|exact aB|((refine ai (gS (size:=20) (m:=1) (i:=0) (xs:=[a.cells]) (cs:=a.cells) rfl (by exact aw) rfl (fun r hr=>by rw [Z5.1 hr];rfl) rfl) rfl rfl rfl ?_))|((refine dl (l:=bldR b h sa sk st pl++[orow 46 20 (.slice A 1 cc) 1 a.cells,cel b1 122 [.pointer (some ⟨b,0,none⟩)]]) (QQ (l₁:=[orow 46 20 (.slice A 1 cc) 1 a.cells,cel b1 122 [.pointer (some ⟨b,0,none⟩)]]) (l₂:=bldR b h sa sk st pl)) ?_;refine cj (pre:=bldR b h sa sk st pl) (fr:=[orow 46 20 (.slice A 1 cc) 1 a.cells,cel b1 122 [.pointer (some ⟨b,0,none⟩)]]) (first:=#[]) (caps:=#[]) (hc:=had) (hX:=fun w hw=>⟨hw.1.2 a ham,hw.2⟩) (h:=?_);rintro v R X' ⟨rfl,sa2,sk2,pl2,ok2,rfl⟩;simp only [bldR,ZK,ZL]))|refine gs1 fun _=>?_|(refine gq ?_ ?_<;>intro hx_ this)|fail)
 all_goals
  repeat' (first|refine gs ?_|refine gs1 fun _=>?_|(refine gp ?_ ?_<;>intro hx_ this)|fail)
  refine ad (ag rfl rfl) ⟨bldR b h sa2 sk2 (addS st a) pl2,QE _ _,fun a' ha'=>?_,fun ho=>?_⟩
  · rw [ha,oneA,ZM] at ha'
    subst ha'
    exact ⟨rfl,sa2,sk2,pl2,ok2,rfl⟩
  · rw [ha] at ho
    cases ho
end Go.Proofs.YtaolfiikahlmkaaGreatDoor
namespace Go.Proofs.YtaolfiikahlmkaaGreatDoor
open Go Go.Proofs Sy
structure Grp where
 s:SlV
 l:List ActD
def grpR (g:PosK×Grp):Res:=actR g.2.s g.2.l
theorem sM {κ β γ:Type} [DecidableEq κ] (f:β→γ):∀ (l:List (κ×β)) (k:κ) (v:β),(dput l k v).map (fun p=>(p.1,f p.2))=dput (l.map fun p=>(p.1,f p.2)) k (f v)
 | [],_,_=>rfl
 | (k',v')::r,k,v=>by
  simp only [dput,Z1,←sM f r k v]
  cases decide (k=k')<;>rfl
theorem sx {κ β:Type} [DecidableEq κ] (R:κ×β→Res):∀ (G:List (κ×β)) (k:κ),∃ rest:List Res,(∀ g',((dput G k g').map R).Perm (R (k,g')::rest))∧(∀ g,dget G k=some g→(G.map R).Perm (R (k,g)::rest))∧(dget G k=none→rest=G.map R)
 | [],k=>⟨[],fun g'=>Qn _,fun g h=>(by cases h),fun _=>rfl⟩
 | (k',v')::r,k=>by
  by_cases e:k=k'
  · subst e
    refine ⟨r.map R,fun g'=>?_,fun g h=>?_,fun h=>?_⟩
    · simp [dput]
    · simp only [dget,Zt,Zf,ZM] at h
      subst h
      exact Qn _
    · simp [dget] at h
  · obtain ⟨rest,h1,h2,h3⟩:=sx R r k
    refine ⟨R (k',v')::rest,fun g'=>?_,fun g h=>?_,fun h=>?_⟩
    · have:=(h1 g').cons (R (k',v'))
      simp only [dput,e,Zr,Ze,Z1]
      exact this.trans (List.Perm.swap _ _ _)
    · simp only [dget,e,Zr,Ze] at h
      exact ((h2 g h).cons (R (k',v'))).trans (List.Perm.swap _ _ _)
    · simp only [dget,e,Zr,Ze] at h
      rw [h3 h]
      rfl
theorem permG {x O:Res} {C rest R:List Res} (h:R.Perm (O::rest)):(x::O::(C++rest)).Perm (x::(C++R)):=((List.perm_middle.symm).trans (h.symm.append_left C)).cons x
theorem permH {c m sm c4:Res} {R:List Res}:([c,m,sm,c4]++R).Perm ((sm::R)++[c,m,c4]):=(List.perm_middle (l₁:=[c,m])).trans (List.Perm.cons sm (QQ (l₁:=[c,m,c4])))
theorem permK {an kb o c m c4:Res}:[an,kb,o,c,m,c4].Perm [c,an,kb,m,o,c4]:=(List.perm_middle (l₁:=[an,kb,o])).trans (.cons _ (.cons _ (.cons _ (.swap _ _ _))))
def grpL (o:Option Grp):List ActD:=(o.map Grp.l).getD []
def grpS (o:Option Grp):SlV:=(o.map Grp.s).getD ⟨none,0,0⟩
structure GrpOk (G:List (PosK×Grp)) (L:List ActD):Prop where
 all:∀ k,grpL (dget G k)=actsFor L k
 len:∀ k g,dget G k=some g→g.s.n=g.l.length
theorem qE (L:List ActD) (a:ActD) (k:PosK):actsFor (L++[a]) k=actsFor L k++(bif decide (k=((a.seq,a.prev):PosK)) then [a] else []):=by
 rw [actsFor,actsFor,Qv]
 congr 1
 obtain ⟨n,p⟩:=k
 by_cases h1:a.seq=n
 · by_cases h2:a.prev=p
   · subst h1;subst h2;simp [List.filter,cF]
   · have hb:seqB a.prev p=false:=by
      cases h:seqB a.prev p with
      | false=>rfl
      | true=>exact absurd (seqB_iff.1 h) h2
     have hne:¬ ((n,p):PosK)=(a.seq,a.prev):=fun e=>h2 (congrArg Prod.snd e).symm
     simp [List.filter,hb,hne]
 · have hne:¬ ((n,p):PosK)=(a.seq,a.prev):=fun e=>h1 (congrArg Prod.fst e).symm
   simp [List.filter,h1,hne]
theorem GrpOk.step {G:List (PosK×Grp)} {L:List ActD} (h:GrpOk G L) (a:ActD) (s':SlV) (hs:s'.n=(grpL (dget G ((a.seq,a.prev):PosK))).length+1) :
  GrpOk (dput G ((a.seq,a.prev):PosK) ⟨s',grpL (dget G ((a.seq,a.prev):PosK))++[a]⟩) (L++[a]):=by
 refine ⟨fun k=>?_,fun k g hg=>?_⟩
 · rw [qE,kB]
   by_cases e:k=((a.seq,a.prev):PosK)
   · subst e
     simp only [Zt,Zf]
     rw [←h.all]
     rfl
   · rw [Zc e,Ze,Ze,ZJ]
     exact h.all k
 · rw [kB] at hg
   by_cases e:k=((a.seq,a.prev):PosK)
   · subst e
     simp only [Zt,Zf,ZM] at hg
     subst hg
     rw [ZA]
     exact hs
   · rw [Zc e,Ze] at hg
     exact h.len k g hg
namespace Sy
section
variable {P:Program} {N:Nat} {av bor:List Nat} {w0:World} {E:Env} {loc:List Res} {X:World→Prop} {K:Exit→St→Prop} {c:Code}
theorem Gam.giveL {w:World}:∀ (L:List Res) {X:World→Prop},Gam av bor w0 (L++loc) X w→Gam av bor w0 loc (fun w=>X w∧∀ r∈L,r.F w) w
  | [],X,G=>G.imp fun _ h=>⟨h,by simp⟩
  | r :: L,X,G=>(Gam.giveL L (Gam.give (r:=r) (loc:=L++loc) G)).imp fun w h=>⟨h.1.1,fun q hq=>by
      rcases ZI.1 hq with rfl|hq
      · exact h.1.2
      · exact h.2 q hq⟩
theorem AA {ops:Array Oper} {rest:List Oper} {k:St→Prop} (L:List Res) (h:Sw P N av bor w0 ops rest ⟨E,loc,fun w=>X w∧∀ r∈L,r.F w⟩ k):Sw P N av bor w0 ops rest ⟨E,L++loc,X⟩ k:=Sw.mk fun a w ok=>h.run a w (ok.via fun M G=>by
 rw [ZC] at G
 exact G.giveL L)
theorem Cb {b e:Nat} {cs:List Value} (size m:Nat) (hl:cs.length=m*size:=by rfl) (hm:m≤maxLen) (h:Cw P N av bor w0 c ⟨E,orow e size (.slice (some ⟨b,0,none⟩) m m) m cs::loc,X⟩ K):Cw P N av bor w0 c ⟨E,cel b e cs::loc,X⟩ K:=Cw.mk fun a w ok=>h.run a w (ok.via fun M G=>G.orow hl hm)
theorem nE {l:List Res} (hs:loc.Perm l) (h:Cw P N av bor w0 c ⟨E,l,X⟩ K):Cw P N av bor w0 c ⟨E,loc,X⟩ K:=Cw.mk fun a w ok=>h.run a w (ok.via fun M G=>G.perm (hs.append_right M))
end
end Sy
section
variable {N:Nat} {av bor:List Nat} {w0:World} {E:Env} {X:World→Prop} {K:Exit→St→Prop} {c:Code}
theorem Gw {G:List (PosK×Grp)} {k:PosK} {rest:List Res} (C:List Res) (h2:∀ g,dget G k=some g→(G.map grpR).Perm (grpR (k,g)::rest)) (h3:dget G k=none→rest=G.map grpR)
  (h:Cw Tryz.prog N av bor w0 c ⟨E,actR (grpS (dget G k)) (grpL (dget G k))::(C++rest),X⟩ K):Cw Tryz.prog N av bor w0 c ⟨E,C++G.map grpR,X⟩ K:=by
 cases hd:dget G k with
 | none =>
  rw [hd,h3 hd] at h
  exact cS 46 20 h
 | some g =>
  rw [hd] at h
  exact nE (((h2 g hd).append_left C).trans List.perm_middle) h
end
theorem DV {q:Nat} {G:List (PosK×Grp)} {L:List ActD} (h:GrpOk G L) {w:World} (hm:SMapAt Tryz.prog 129 w q (G.map fun g=>(g.1,g.2.s.v))) (hr:∀ r∈G.map grpR,r.F w) (ha:∀ a∈L,a.at_ w) :
  NextD q (G.map fun g=>(g.1,g.2.s)) L w:=by
 refine ⟨by rw [Z0];exact hm,fun k=>?_⟩
 rw [ik,←h.all k]
 have hsub:∀ a∈grpL (dget G k),a.at_ w:=fun a h1=>by
  rw [h.all k] at h1
  exact ha a (QN.1 h1).1
 cases hd:dget G k with
 | none=>exact ⟨bt w 20,fun a h=>by cases h⟩
 | some g =>
  rw [hd] at hsub
  have hg:=hr (grpR (k,g)) (List.mem_map_of_mem (sO hd))
  exact fD hg (h.len k g hd) hsub
end Go.Proofs.YtaolfiikahlmkaaGreatDoor
