/- Joined by program out of: Uk Ul Um Un Uo Up Ur Va Zp Zq Zr Zs. -/
import Derived.Test.YtcdilibijnboeaaGreatDoorU9
set_option linter.unusedVariables false
set_option linter.unusedSimpArgs false
namespace Go.Proofs.YtcdilibijnboeaaGreatDoor
open Go Go.Proofs Sy
def maskB (fs:Nat) (z0 z1 z2 z3 z4 z5 z6 z7 z8 z9 z10:Bool):Bool:=(fs.testBit 0||z0)&&(fs.testBit 1||z1)&&(fs.testBit 2||z2)&&(fs.testBit 3||z3)&&(fs.testBit 4||z4)&&(fs.testBit 5||z5)&&(fs.testBit 6||z6)&&(fs.testBit 7||z7)&&(fs.testBit 8||z8)&&(fs.testBit 9||z9)&&(fs.testBit 10||z10)
def maskOk (fs:Nat) (z0 z1 z2 z3 z4 z5 z6 z7 z8 z9 z10:Bool):Bool:=decide (bitsV .andNot .i64 (useU z0 z1 z2 z3 z4 z5 z6 z7 z8 z9 z10) fs=0)==maskB fs z0 z1 z2 z3 z4 z5 z6 z7 z8 z9 z10
def maskAll (fs:Nat):Bool:=bools fun z0=>bools fun z1=>bools fun z2=>bools fun z3=>bools fun z4=>bools fun z5=>bools fun z6=>bools fun z7=>bools fun z8=>bools fun z9=>bools fun z10=>maskOk fs z0 z1 z2 z3 z4 z5 z6 z7 z8 z9 z10
theorem pK:([1568,252,253,1,2,33,24,412,35,1536,1808,513,546].all maskAll)=true:=by decide +kernel
theorem cJ {fs:Nat} (hfs:fs∈[1568,252,253,1,2,33,24,412,35,1536,1808,513,546]) (z0 z1 z2 z3 z4 z5 z6 z7 z8 z9 z10:Bool):decide (bitsV .andNot .i64 (useU z0 z1 z2 z3 z4 z5 z6 z7 z8 z9 z10) fs=0)=maskB fs z0 z1 z2 z3 z4 z5 z6 z7 z8 z9 z10:=by
 have h:=List.all_eq_true.1 pK fs hfs
 have h1:=ci (ci (ci (ci (ci (ci (ci (ci (ci (ci (ci h z0) z1) z2) z3) z4) z5) z6) z7) z8) z9) z10
 exact eq_of_beq h1
theorem ca (a:ActD):usedV a=useU (seqB a.object ⟨#[]⟩) (seqB a.target ⟨#[]⟩) (decide (a.scope=0)) (seqB a.group ⟨#[]⟩) (decide ((a.to.n:Int)=0)) (seqB a.text ⟨#[]⟩) (boxEq a.body BoxD.zero) (decide (a.epoch=0)) (decide ((a.wraps.n:Int)=0)) (decide (a.n=0)) (decide (a.m=0)):=rfl
theorem lt20 (m:Int):decide (m<20)=decide (m≤19):=decide_eq_decide.2 ae
theorem bC (a:ActD):sealedScopeB a.scope a.group=(decide (1≤a.scope)&&decide (a.scope≤3)&&groupR a):=by
 rw [sealedScopeB,groupR]
 by_cases h2:a.scope=2
 · rw [h2];rfl
 by_cases h1:a.scope=1
 · rw [h1];rfl
 by_cases h3:a.scope=3
 · rw [h3];rfl
 rw [Zn h1,Zn h2,Zn h3]
 by_cases hl:1≤a.scope
 · rw [Zn (show ¬ a.scope≤3 by omega),ZH]
   rfl
 · rw [Zn hl]
   rfl
theorem ro (s:ByteArray) (h:seqB s ⟨#[]⟩=true):decide ((s.size:Int)=32)=false:=by
 rw [dK,ZT] at h
 exact Zn ae
theorem BQ {a:ActD} (h:a.kind=0):ruleB a=(maskB 1568 (seqB a.object ⟨#[]⟩) (seqB a.target ⟨#[]⟩) (decide (a.scope=0)) (seqB a.group ⟨#[]⟩) (decide ((a.to.n:Int)=0)) (seqB a.text ⟨#[]⟩) (boxEq a.body BoxD.zero) (decide (a.epoch=0)) (decide ((a.wraps.n:Int)=0)) (decide (a.n=0)) (decide (a.m=0))&&rule3B a):=by
 have hm:mget (ruleL a) a.kind=some (1568,rule3B a):=by rw [h];rfl
 rw [ruleB,hm]
 simp only
 rw [ca]
 exact congrArg (·&&_) (cJ (fs:=1568) (by decide) _ _ _ _ _ _ _ _ _ _ _)
theorem BP {a:ActD} (h:a.kind=1):ruleB a=(maskB 252 (seqB a.object ⟨#[]⟩) (seqB a.target ⟨#[]⟩) (decide (a.scope=0)) (seqB a.group ⟨#[]⟩) (decide ((a.to.n:Int)=0)) (seqB a.text ⟨#[]⟩) (boxEq a.body BoxD.zero) (decide (a.epoch=0)) (decide ((a.wraps.n:Int)=0)) (decide (a.n=0)) (decide (a.m=0))&&audienceB a):=by
 have hm:mget (ruleL a) a.kind=some (252,audienceB a):=by rw [h];rfl
 rw [ruleB,hm]
 simp only
 rw [ca]
 exact congrArg (·&&_) (cJ (fs:=252) (by decide) _ _ _ _ _ _ _ _ _ _ _)
theorem BO {a:ActD} (h:a.kind=2):ruleB a=(maskB 253 (seqB a.object ⟨#[]⟩) (seqB a.target ⟨#[]⟩) (decide (a.scope=0)) (seqB a.group ⟨#[]⟩) (decide ((a.to.n:Int)=0)) (seqB a.text ⟨#[]⟩) (boxEq a.body BoxD.zero) (decide (a.epoch=0)) (decide ((a.wraps.n:Int)=0)) (decide (a.n=0)) (decide (a.m=0))&&rule1B a):=by
 have hm:mget (ruleL a) a.kind=some (253,rule1B a):=by rw [h];rfl
 rw [ruleB,hm]
 simp only
 rw [ca]
 exact congrArg (·&&_) (cJ (fs:=253) (by decide) _ _ _ _ _ _ _ _ _ _ _)
theorem BN {a:ActD} (h:a.kind=3):ruleB a=(maskB 253 (seqB a.object ⟨#[]⟩) (seqB a.target ⟨#[]⟩) (decide (a.scope=0)) (seqB a.group ⟨#[]⟩) (decide ((a.to.n:Int)=0)) (seqB a.text ⟨#[]⟩) (boxEq a.body BoxD.zero) (decide (a.epoch=0)) (decide ((a.wraps.n:Int)=0)) (decide (a.n=0)) (decide (a.m=0))&&rule1B a):=by
 have hm:mget (ruleL a) a.kind=some (253,rule1B a):=by rw [h];rfl
 rw [ruleB,hm]
 simp only
 rw [ca]
 exact congrArg (·&&_) (cJ (fs:=253) (by decide) _ _ _ _ _ _ _ _ _ _ _)
theorem BM {a:ActD} (h:a.kind=4):ruleB a=(maskB 1 (seqB a.object ⟨#[]⟩) (seqB a.target ⟨#[]⟩) (decide (a.scope=0)) (seqB a.group ⟨#[]⟩) (decide ((a.to.n:Int)=0)) (seqB a.text ⟨#[]⟩) (boxEq a.body BoxD.zero) (decide (a.epoch=0)) (decide ((a.wraps.n:Int)=0)) (decide (a.n=0)) (decide (a.m=0))&&objectB a):=by
 have hm:mget (ruleL a) a.kind=some (1,objectB a):=by rw [h];rfl
 rw [ruleB,hm]
 simp only
 rw [ca]
 exact congrArg (·&&_) (cJ (fs:=1) (by decide) _ _ _ _ _ _ _ _ _ _ _)
theorem BL {a:ActD} (h:a.kind=5):ruleB a=(maskB 1 (seqB a.object ⟨#[]⟩) (seqB a.target ⟨#[]⟩) (decide (a.scope=0)) (seqB a.group ⟨#[]⟩) (decide ((a.to.n:Int)=0)) (seqB a.text ⟨#[]⟩) (boxEq a.body BoxD.zero) (decide (a.epoch=0)) (decide ((a.wraps.n:Int)=0)) (decide (a.n=0)) (decide (a.m=0))&&objectB a):=by
 have hm:mget (ruleL a) a.kind=some (1,objectB a):=by rw [h];rfl
 rw [ruleB,hm]
 simp only
 rw [ca]
 exact congrArg (·&&_) (cJ (fs:=1) (by decide) _ _ _ _ _ _ _ _ _ _ _)
theorem BK {a:ActD} (h:a.kind=6):ruleB a=(maskB 1 (seqB a.object ⟨#[]⟩) (seqB a.target ⟨#[]⟩) (decide (a.scope=0)) (seqB a.group ⟨#[]⟩) (decide ((a.to.n:Int)=0)) (seqB a.text ⟨#[]⟩) (boxEq a.body BoxD.zero) (decide (a.epoch=0)) (decide ((a.wraps.n:Int)=0)) (decide (a.n=0)) (decide (a.m=0))&&objectB a):=by
 have hm:mget (ruleL a) a.kind=some (1,objectB a):=by rw [h];rfl
 rw [ruleB,hm]
 simp only
 rw [ca]
 exact congrArg (·&&_) (cJ (fs:=1) (by decide) _ _ _ _ _ _ _ _ _ _ _)
theorem BJ {a:ActD} (h:a.kind=7):ruleB a=(maskB 2 (seqB a.object ⟨#[]⟩) (seqB a.target ⟨#[]⟩) (decide (a.scope=0)) (seqB a.group ⟨#[]⟩) (decide ((a.to.n:Int)=0)) (seqB a.text ⟨#[]⟩) (boxEq a.body BoxD.zero) (decide (a.epoch=0)) (decide ((a.wraps.n:Int)=0)) (decide (a.n=0)) (decide (a.m=0))&&targetB a):=by
 have hm:mget (ruleL a) a.kind=some (2,targetB a):=by rw [h];rfl
 rw [ruleB,hm]
 simp only
 rw [ca]
 exact congrArg (·&&_) (cJ (fs:=2) (by decide) _ _ _ _ _ _ _ _ _ _ _)
theorem BI {a:ActD} (h:a.kind=8):ruleB a=(maskB 2 (seqB a.object ⟨#[]⟩) (seqB a.target ⟨#[]⟩) (decide (a.scope=0)) (seqB a.group ⟨#[]⟩) (decide ((a.to.n:Int)=0)) (seqB a.text ⟨#[]⟩) (boxEq a.body BoxD.zero) (decide (a.epoch=0)) (decide ((a.wraps.n:Int)=0)) (decide (a.n=0)) (decide (a.m=0))&&targetB a):=by
 have hm:mget (ruleL a) a.kind=some (2,targetB a):=by rw [h];rfl
 rw [ruleB,hm]
 simp only
 rw [ca]
 exact congrArg (·&&_) (cJ (fs:=2) (by decide) _ _ _ _ _ _ _ _ _ _ _)
theorem BH {a:ActD} (h:a.kind=9):ruleB a=(maskB 2 (seqB a.object ⟨#[]⟩) (seqB a.target ⟨#[]⟩) (decide (a.scope=0)) (seqB a.group ⟨#[]⟩) (decide ((a.to.n:Int)=0)) (seqB a.text ⟨#[]⟩) (boxEq a.body BoxD.zero) (decide (a.epoch=0)) (decide ((a.wraps.n:Int)=0)) (decide (a.n=0)) (decide (a.m=0))&&targetB a):=by
 have hm:mget (ruleL a) a.kind=some (2,targetB a):=by rw [h];rfl
 rw [ruleB,hm]
 simp only
 rw [ca]
 exact congrArg (·&&_) (cJ (fs:=2) (by decide) _ _ _ _ _ _ _ _ _ _ _)
theorem zP {a:ActD} (h:a.kind=10):ruleB a=(maskB 2 (seqB a.object ⟨#[]⟩) (seqB a.target ⟨#[]⟩) (decide (a.scope=0)) (seqB a.group ⟨#[]⟩) (decide ((a.to.n:Int)=0)) (seqB a.text ⟨#[]⟩) (boxEq a.body BoxD.zero) (decide (a.epoch=0)) (decide ((a.wraps.n:Int)=0)) (decide (a.n=0)) (decide (a.m=0))&&targetB a):=by
 have hm:mget (ruleL a) a.kind=some (2,targetB a):=by rw [h];rfl
 rw [ruleB,hm]
 simp only
 rw [ca]
 exact congrArg (·&&_) (cJ (fs:=2) (by decide) _ _ _ _ _ _ _ _ _ _ _)
theorem zO {a:ActD} (h:a.kind=11):ruleB a=(maskB 2 (seqB a.object ⟨#[]⟩) (seqB a.target ⟨#[]⟩) (decide (a.scope=0)) (seqB a.group ⟨#[]⟩) (decide ((a.to.n:Int)=0)) (seqB a.text ⟨#[]⟩) (boxEq a.body BoxD.zero) (decide (a.epoch=0)) (decide ((a.wraps.n:Int)=0)) (decide (a.n=0)) (decide (a.m=0))&&targetB a):=by
 have hm:mget (ruleL a) a.kind=some (2,targetB a):=by rw [h];rfl
 rw [ruleB,hm]
 simp only
 rw [ca]
 exact congrArg (·&&_) (cJ (fs:=2) (by decide) _ _ _ _ _ _ _ _ _ _ _)
theorem zM {a:ActD} (h:a.kind=12):ruleB a=(maskB 33 (seqB a.object ⟨#[]⟩) (seqB a.target ⟨#[]⟩) (decide (a.scope=0)) (seqB a.group ⟨#[]⟩) (decide ((a.to.n:Int)=0)) (seqB a.text ⟨#[]⟩) (boxEq a.body BoxD.zero) (decide (a.epoch=0)) (decide ((a.wraps.n:Int)=0)) (decide (a.n=0)) (decide (a.m=0))&&rule2B a):=by
 have hm:mget (ruleL a) a.kind=some (33,rule2B a):=by rw [h];rfl
 rw [ruleB,hm]
 simp only
 rw [ca]
 exact congrArg (·&&_) (cJ (fs:=33) (by decide) _ _ _ _ _ _ _ _ _ _ _)
theorem zL {a:ActD} (h:a.kind=13):ruleB a=(maskB 1 (seqB a.object ⟨#[]⟩) (seqB a.target ⟨#[]⟩) (decide (a.scope=0)) (seqB a.group ⟨#[]⟩) (decide ((a.to.n:Int)=0)) (seqB a.text ⟨#[]⟩) (boxEq a.body BoxD.zero) (decide (a.epoch=0)) (decide ((a.wraps.n:Int)=0)) (decide (a.n=0)) (decide (a.m=0))&&objectB a):=by
 have hm:mget (ruleL a) a.kind=some (1,objectB a):=by rw [h];rfl
 rw [ruleB,hm]
 simp only
 rw [ca]
 exact congrArg (·&&_) (cJ (fs:=1) (by decide) _ _ _ _ _ _ _ _ _ _ _)
theorem zK {a:ActD} (h:a.kind=14):ruleB a=(maskB 253 (seqB a.object ⟨#[]⟩) (seqB a.target ⟨#[]⟩) (decide (a.scope=0)) (seqB a.group ⟨#[]⟩) (decide ((a.to.n:Int)=0)) (seqB a.text ⟨#[]⟩) (boxEq a.body BoxD.zero) (decide (a.epoch=0)) (decide ((a.wraps.n:Int)=0)) (decide (a.n=0)) (decide (a.m=0))&&rule1B a):=by
 have hm:mget (ruleL a) a.kind=some (253,rule1B a):=by rw [h];rfl
 rw [ruleB,hm]
 simp only
 rw [ca]
 exact congrArg (·&&_) (cJ (fs:=253) (by decide) _ _ _ _ _ _ _ _ _ _ _)
theorem zJ {a:ActD} (h:a.kind=15):ruleB a=(maskB 24 (seqB a.object ⟨#[]⟩) (seqB a.target ⟨#[]⟩) (decide (a.scope=0)) (seqB a.group ⟨#[]⟩) (decide ((a.to.n:Int)=0)) (seqB a.text ⟨#[]⟩) (boxEq a.body BoxD.zero) (decide (a.epoch=0)) (decide ((a.wraps.n:Int)=0)) (decide (a.n=0)) (decide (a.m=0))&&rule4B a):=by
 have hm:mget (ruleL a) a.kind=some (24,rule4B a):=by rw [h];rfl
 rw [ruleB,hm]
 simp only
 rw [ca]
 exact congrArg (·&&_) (cJ (fs:=24) (by decide) _ _ _ _ _ _ _ _ _ _ _)
theorem zH {a:ActD} (h:a.kind=16):ruleB a=(maskB 412 (seqB a.object ⟨#[]⟩) (seqB a.target ⟨#[]⟩) (decide (a.scope=0)) (seqB a.group ⟨#[]⟩) (decide ((a.to.n:Int)=0)) (seqB a.text ⟨#[]⟩) (boxEq a.body BoxD.zero) (decide (a.epoch=0)) (decide ((a.wraps.n:Int)=0)) (decide (a.n=0)) (decide (a.m=0))&&grantB a):=by
 have hm:mget (ruleL a) a.kind=some (412,grantB a):=by rw [h];rfl
 rw [ruleB,hm]
 simp only
 rw [ca]
 exact congrArg (·&&_) (cJ (fs:=412) (by decide) _ _ _ _ _ _ _ _ _ _ _)
theorem zG {a:ActD} (h:a.kind=17):ruleB a=(maskB 35 (seqB a.object ⟨#[]⟩) (seqB a.target ⟨#[]⟩) (decide (a.scope=0)) (seqB a.group ⟨#[]⟩) (decide ((a.to.n:Int)=0)) (seqB a.text ⟨#[]⟩) (boxEq a.body BoxD.zero) (decide (a.epoch=0)) (decide ((a.wraps.n:Int)=0)) (decide (a.n=0)) (decide (a.m=0))&&labelB a):=by
 have hm:mget (ruleL a) a.kind=some (35,labelB a):=by rw [h];rfl
 rw [ruleB,hm]
 simp only
 rw [ca]
 exact congrArg (·&&_) (cJ (fs:=35) (by decide) _ _ _ _ _ _ _ _ _ _ _)
theorem zF {a:ActD} (h:a.kind=18):ruleB a=(maskB 1536 (seqB a.object ⟨#[]⟩) (seqB a.target ⟨#[]⟩) (decide (a.scope=0)) (seqB a.group ⟨#[]⟩) (decide ((a.to.n:Int)=0)) (seqB a.text ⟨#[]⟩) (boxEq a.body BoxD.zero) (decide (a.epoch=0)) (decide ((a.wraps.n:Int)=0)) (decide (a.n=0)) (decide (a.m=0))&&homeB a):=by
 have hm:mget (ruleL a) a.kind=some (1536,homeB a):=by rw [h];rfl
 rw [ruleB,hm]
 simp only
 rw [ca]
 exact congrArg (·&&_) (cJ (fs:=1536) (by decide) _ _ _ _ _ _ _ _ _ _ _)
theorem zE {a:ActD} (h:a.kind=19):ruleB a=(maskB 1808 (seqB a.object ⟨#[]⟩) (seqB a.target ⟨#[]⟩) (decide (a.scope=0)) (seqB a.group ⟨#[]⟩) (decide ((a.to.n:Int)=0)) (seqB a.text ⟨#[]⟩) (boxEq a.body BoxD.zero) (decide (a.epoch=0)) (decide ((a.wraps.n:Int)=0)) (decide (a.n=0)) (decide (a.m=0))&&setupB a):=by
 have hm:mget (ruleL a) a.kind=some (1808,setupB a):=by rw [h];rfl
 rw [ruleB,hm]
 simp only
 rw [ca]
 exact congrArg (·&&_) (cJ (fs:=1808) (by decide) _ _ _ _ _ _ _ _ _ _ _)
theorem zD {a:ActD} (h:a.kind=20):ruleB a=(maskB 1 (seqB a.object ⟨#[]⟩) (seqB a.target ⟨#[]⟩) (decide (a.scope=0)) (seqB a.group ⟨#[]⟩) (decide ((a.to.n:Int)=0)) (seqB a.text ⟨#[]⟩) (boxEq a.body BoxD.zero) (decide (a.epoch=0)) (decide ((a.wraps.n:Int)=0)) (decide (a.n=0)) (decide (a.m=0))&&objectB a):=by
 have hm:mget (ruleL a) a.kind=some (1,objectB a):=by rw [h];rfl
 rw [ruleB,hm]
 simp only
 rw [ca]
 exact congrArg (·&&_) (cJ (fs:=1) (by decide) _ _ _ _ _ _ _ _ _ _ _)
theorem zC {a:ActD} (h:a.kind=21):ruleB a=(maskB 33 (seqB a.object ⟨#[]⟩) (seqB a.target ⟨#[]⟩) (decide (a.scope=0)) (seqB a.group ⟨#[]⟩) (decide ((a.to.n:Int)=0)) (seqB a.text ⟨#[]⟩) (boxEq a.body BoxD.zero) (decide (a.epoch=0)) (decide ((a.wraps.n:Int)=0)) (decide (a.n=0)) (decide (a.m=0))&&rule2B a):=by
 have hm:mget (ruleL a) a.kind=some (33,rule2B a):=by rw [h];rfl
 rw [ruleB,hm]
 simp only
 rw [ca]
 exact congrArg (·&&_) (cJ (fs:=33) (by decide) _ _ _ _ _ _ _ _ _ _ _)
theorem zA {a:ActD} (h:a.kind=22):ruleB a=(maskB 513 (seqB a.object ⟨#[]⟩) (seqB a.target ⟨#[]⟩) (decide (a.scope=0)) (seqB a.group ⟨#[]⟩) (decide ((a.to.n:Int)=0)) (seqB a.text ⟨#[]⟩) (boxEq a.body BoxD.zero) (decide (a.epoch=0)) (decide ((a.wraps.n:Int)=0)) (decide (a.n=0)) (decide (a.m=0))&&rule5B a):=by
 have hm:mget (ruleL a) a.kind=some (513,rule5B a):=by rw [h];rfl
 rw [ruleB,hm]
 simp only
 rw [ca]
 exact congrArg (·&&_) (cJ (fs:=513) (by decide) _ _ _ _ _ _ _ _ _ _ _)
theorem zz {a:ActD} (h:a.kind=23):ruleB a=(maskB 546 (seqB a.object ⟨#[]⟩) (seqB a.target ⟨#[]⟩) (decide (a.scope=0)) (seqB a.group ⟨#[]⟩) (decide ((a.to.n:Int)=0)) (seqB a.text ⟨#[]⟩) (boxEq a.body BoxD.zero) (decide (a.epoch=0)) (decide ((a.wraps.n:Int)=0)) (decide (a.n=0)) (decide (a.m=0))&&rule6B a):=by
 have hm:mget (ruleL a) a.kind=some (546,rule6B a):=by rw [h];rfl
 rw [ruleB,hm]
 simp only
 rw [ca]
 exact congrArg (·&&_) (cJ (fs:=546) (by decide) _ _ _ _ _ _ _ _ _ _ _)
theorem uA {a:ActD} (h:¬ (0≤a.kind∧a.kind≤23)):ruleB a=false:=by
 have hm:mget (ruleL a) a.kind=none:=by
  rw [ruleL]
  rw [mget,show KeyT.eqb a.kind 0=false from Zn ae,ZB]
  rw [mget,show KeyT.eqb a.kind 1=false from Zn ae,ZB]
  rw [mget,show KeyT.eqb a.kind 2=false from Zn ae,ZB]
  rw [mget,show KeyT.eqb a.kind 3=false from Zn ae,ZB]
  rw [mget,show KeyT.eqb a.kind 14=false from Zn ae,ZB]
  rw [mget,show KeyT.eqb a.kind 4=false from Zn ae,ZB]
  rw [mget,show KeyT.eqb a.kind 5=false from Zn ae,ZB]
  rw [mget,show KeyT.eqb a.kind 6=false from Zn ae,ZB]
  rw [mget,show KeyT.eqb a.kind 13=false from Zn ae,ZB]
  rw [mget,show KeyT.eqb a.kind 20=false from Zn ae,ZB]
  rw [mget,show KeyT.eqb a.kind 7=false from Zn ae,ZB]
  rw [mget,show KeyT.eqb a.kind 8=false from Zn ae,ZB]
  rw [mget,show KeyT.eqb a.kind 9=false from Zn ae,ZB]
  rw [mget,show KeyT.eqb a.kind 10=false from Zn ae,ZB]
  rw [mget,show KeyT.eqb a.kind 11=false from Zn ae,ZB]
  rw [mget,show KeyT.eqb a.kind 12=false from Zn ae,ZB]
  rw [mget,show KeyT.eqb a.kind 21=false from Zn ae,ZB]
  rw [mget,show KeyT.eqb a.kind 15=false from Zn ae,ZB]
  rw [mget,show KeyT.eqb a.kind 16=false from Zn ae,ZB]
  rw [mget,show KeyT.eqb a.kind 17=false from Zn ae,ZB]
  rw [mget,show KeyT.eqb a.kind 18=false from Zn ae,ZB]
  rw [mget,show KeyT.eqb a.kind 19=false from Zn ae,ZB]
  rw [mget,show KeyT.eqb a.kind 22=false from Zn ae,ZB]
  rw [mget,show KeyT.eqb a.kind 23=false from Zn ae,ZB]
  rfl
 rw [ruleB,hm]
theorem zS:seqB (⟨#[]⟩:ByteArray) ⟨#[]⟩=true:=by kernel_rfl
theorem zB:boxEq BoxD.zero BoxD.zero=true:=by kernel_rfl
theorem zI:decide ((0:Int)=0)=true:=rfl
theorem zN:decide (((0:Nat):Int)=0)=true:=rfl
theorem kP:Nat.testBit 1 0=true:=by decide +kernel
theorem kO:Nat.testBit 1 1=false:=by decide +kernel
theorem kM:Nat.testBit 1 2=false:=by decide +kernel
theorem kL:Nat.testBit 1 3=false:=by decide +kernel
theorem kK:Nat.testBit 1 4=false:=by decide +kernel
theorem kJ:Nat.testBit 1 5=false:=by decide +kernel
theorem kI:Nat.testBit 1 6=false:=by decide +kernel
theorem kH:Nat.testBit 1 7=false:=by decide +kernel
theorem kG:Nat.testBit 1 8=false:=by decide +kernel
theorem kF:Nat.testBit 1 9=false:=by decide +kernel
theorem g7:Nat.testBit 1 10=false:=by decide +kernel
theorem kr:Nat.testBit 2 0=false:=by decide +kernel
theorem kq:Nat.testBit 2 1=true:=by decide +kernel
theorem kp:Nat.testBit 2 2=false:=by decide +kernel
theorem ko:Nat.testBit 2 3=false:=by decide +kernel
theorem kn:Nat.testBit 2 4=false:=by decide +kernel
theorem km:Nat.testBit 2 5=false:=by decide +kernel
theorem kj:Nat.testBit 2 6=false:=by decide +kernel
theorem kg:Nat.testBit 2 7=false:=by decide +kernel
theorem kf:Nat.testBit 2 8=false:=by decide +kernel
theorem ke:Nat.testBit 2 9=false:=by decide +kernel
theorem g6:Nat.testBit 2 10=false:=by decide +kernel
theorem zf:Nat.testBit 24 0=false:=by decide +kernel
theorem ze:Nat.testBit 24 1=false:=by decide +kernel
theorem zd:Nat.testBit 24 2=false:=by decide +kernel
theorem zc:Nat.testBit 24 3=true:=by decide +kernel
theorem zb:Nat.testBit 24 4=true:=by decide +kernel
theorem za:Nat.testBit 24 5=false:=by decide +kernel
theorem yZ:Nat.testBit 24 6=false:=by decide +kernel
theorem yY:Nat.testBit 24 7=false:=by decide +kernel
theorem yX:Nat.testBit 24 8=false:=by decide +kernel
theorem yW:Nat.testBit 24 9=false:=by decide +kernel
theorem wK:Nat.testBit 24 10=false:=by decide +kernel
theorem r3:Nat.testBit 33 0=true:=by decide +kernel
theorem rZ:Nat.testBit 33 1=false:=by decide +kernel
theorem rY:Nat.testBit 33 2=false:=by decide +kernel
theorem rX:Nat.testBit 33 3=false:=by decide +kernel
theorem rW:Nat.testBit 33 4=false:=by decide +kernel
theorem rV:Nat.testBit 33 5=true:=by decide +kernel
theorem rU:Nat.testBit 33 6=false:=by decide +kernel
theorem rT:Nat.testBit 33 7=false:=by decide +kernel
theorem rS:Nat.testBit 33 8=false:=by decide +kernel
theorem rR:Nat.testBit 33 9=false:=by decide +kernel
theorem oM:Nat.testBit 33 10=false:=by decide +kernel
theorem yV:Nat.testBit 35 0=true:=by decide +kernel
theorem yU:Nat.testBit 35 1=true:=by decide +kernel
theorem yT:Nat.testBit 35 2=false:=by decide +kernel
theorem yS:Nat.testBit 35 3=false:=by decide +kernel
theorem yR:Nat.testBit 35 4=false:=by decide +kernel
theorem yQ:Nat.testBit 35 5=true:=by decide +kernel
theorem yP:Nat.testBit 35 6=false:=by decide +kernel
theorem yO:Nat.testBit 35 7=false:=by decide +kernel
theorem yN:Nat.testBit 35 8=false:=by decide +kernel
theorem yM:Nat.testBit 35 9=false:=by decide +kernel
theorem wz:Nat.testBit 35 10=false:=by decide +kernel
theorem wJ:Nat.testBit 252 0=false:=by decide +kernel
theorem wI:Nat.testBit 252 1=false:=by decide +kernel
theorem wH:Nat.testBit 252 2=true:=by decide +kernel
theorem wG:Nat.testBit 252 3=true:=by decide +kernel
theorem wF:Nat.testBit 252 4=true:=by decide +kernel
theorem wE:Nat.testBit 252 5=true:=by decide +kernel
theorem wD:Nat.testBit 252 6=true:=by decide +kernel
theorem wC:Nat.testBit 252 7=true:=by decide +kernel
theorem wB:Nat.testBit 252 8=false:=by decide +kernel
theorem wA:Nat.testBit 252 9=false:=by decide +kernel
theorem tv:Nat.testBit 252 10=false:=by decide +kernel
theorem kE:Nat.testBit 253 0=true:=by decide +kernel
theorem kD:Nat.testBit 253 1=false:=by decide +kernel
theorem kB:Nat.testBit 253 2=true:=by decide +kernel
theorem kA:Nat.testBit 253 3=true:=by decide +kernel
theorem kz:Nat.testBit 253 4=true:=by decide +kernel
theorem ky:Nat.testBit 253 5=true:=by decide +kernel
theorem kx:Nat.testBit 253 6=true:=by decide +kernel
theorem kw:Nat.testBit 253 7=true:=by decide +kernel
theorem kv:Nat.testBit 253 8=false:=by decide +kernel
theorem ku:Nat.testBit 253 9=false:=by decide +kernel
theorem iO:Nat.testBit 253 10=false:=by decide +kernel
theorem wy:Nat.testBit 412 0=false:=by decide +kernel
theorem wx:Nat.testBit 412 1=false:=by decide +kernel
theorem wv:Nat.testBit 412 2=true:=by decide +kernel
theorem wu:Nat.testBit 412 3=true:=by decide +kernel
theorem wt:Nat.testBit 412 4=true:=by decide +kernel
theorem wr:Nat.testBit 412 5=false:=by decide +kernel
theorem wq:Nat.testBit 412 6=false:=by decide +kernel
theorem wo:Nat.testBit 412 7=true:=by decide +kernel
theorem wm:Nat.testBit 412 8=true:=by decide +kernel
theorem wk:Nat.testBit 412 9=false:=by decide +kernel
theorem tu:Nat.testBit 412 10=false:=by decide +kernel
theorem wj:Nat.testBit 513 0=true:=by decide +kernel
theorem wi:Nat.testBit 513 1=false:=by decide +kernel
theorem wg:Nat.testBit 513 2=false:=by decide +kernel
theorem we:Nat.testBit 513 3=false:=by decide +kernel
theorem wd:Nat.testBit 513 4=false:=by decide +kernel
theorem wc:Nat.testBit 513 5=false:=by decide +kernel
theorem wb:Nat.testBit 513 6=false:=by decide +kernel
theorem wa:Nat.testBit 513 7=false:=by decide +kernel
theorem v8:Nat.testBit 513 8=false:=by decide +kernel
theorem v7:Nat.testBit 513 9=true:=by decide +kernel
theorem tt:Nat.testBit 513 10=false:=by decide +kernel
theorem v6:Nat.testBit 546 0=false:=by decide +kernel
theorem vZ:Nat.testBit 546 1=true:=by decide +kernel
theorem vY:Nat.testBit 546 2=false:=by decide +kernel
theorem vX:Nat.testBit 546 3=false:=by decide +kernel
theorem vW:Nat.testBit 546 4=false:=by decide +kernel
theorem vU:Nat.testBit 546 5=true:=by decide +kernel
theorem vT:Nat.testBit 546 6=false:=by decide +kernel
theorem vS:Nat.testBit 546 7=false:=by decide +kernel
theorem vR:Nat.testBit 546 8=false:=by decide +kernel
theorem vQ:Nat.testBit 546 9=true:=by decide +kernel
theorem tr:Nat.testBit 546 10=false:=by decide +kernel
theorem ub:Nat.testBit 1536 0=false:=by decide +kernel
theorem ua:Nat.testBit 1536 1=false:=by decide +kernel
theorem tZ:Nat.testBit 1536 2=false:=by decide +kernel
theorem tY:Nat.testBit 1536 3=false:=by decide +kernel
theorem tX:Nat.testBit 1536 4=false:=by decide +kernel
theorem tW:Nat.testBit 1536 5=false:=by decide +kernel
theorem tV:Nat.testBit 1536 6=false:=by decide +kernel
theorem tU:Nat.testBit 1536 7=false:=by decide +kernel
theorem tT:Nat.testBit 1536 8=false:=by decide +kernel
theorem tS:Nat.testBit 1536 9=true:=by decide +kernel
theorem qy:Nat.testBit 1536 10=true:=by decide +kernel
theorem tR:Nat.testBit 1568 0=false:=by decide +kernel
theorem tQ:Nat.testBit 1568 1=false:=by decide +kernel
theorem tP:Nat.testBit 1568 2=false:=by decide +kernel
theorem tO:Nat.testBit 1568 3=false:=by decide +kernel
theorem tN:Nat.testBit 1568 4=false:=by decide +kernel
theorem tM:Nat.testBit 1568 5=true:=by decide +kernel
theorem tL:Nat.testBit 1568 6=false:=by decide +kernel
theorem tK:Nat.testBit 1568 7=false:=by decide +kernel
theorem tJ:Nat.testBit 1568 8=false:=by decide +kernel
theorem tI:Nat.testBit 1568 9=true:=by decide +kernel
theorem qx:Nat.testBit 1568 10=true:=by decide +kernel
theorem tH:Nat.testBit 1808 0=false:=by decide +kernel
theorem tG:Nat.testBit 1808 1=false:=by decide +kernel
theorem tF:Nat.testBit 1808 2=false:=by decide +kernel
theorem tE:Nat.testBit 1808 3=false:=by decide +kernel
theorem tD:Nat.testBit 1808 4=true:=by decide +kernel
theorem tC:Nat.testBit 1808 5=false:=by decide +kernel
theorem tB:Nat.testBit 1808 6=false:=by decide +kernel
theorem tA:Nat.testBit 1808 7=false:=by decide +kernel
theorem tz:Nat.testBit 1808 8=true:=by decide +kernel
theorem tw:Nat.testBit 1808 9=true:=by decide +kernel
theorem qw:Nat.testBit 1808 10=true:=by decide +kernel
theorem Cc {a:ActD} (h:a.kind=0):fitsR a=ruleB a:=by
 rw [BQ h,fitsR,h,Bg,sC]
 simp only [zeroR,bareA,maskB,zS,zB,zI,zN,tR,tQ,tP,tO,tN,tM,tL,tK,tJ,tI,qx,ZD,ZE,ZJ,ZF,rule1B,rule2B,rule3B,rule4B,rule5B,rule6B,objectB,targetB,homeB,isDigestB,isShortB,withinB,lt20,grantB,setupB,bC]
 ac_rfl
theorem Cb {a:ActD} (h:a.kind=1):fitsR a=ruleB a:=by
 rw [BP h,fitsR,h,Bf,sB]
 simp only [zeroR,bareA,maskB,zS,zB,zI,zN,wJ,wI,wH,wG,wF,wE,wD,wC,wB,wA,tv,ZD,ZE,ZJ,ZF,rule1B,rule2B,rule3B,rule4B,rule5B,rule6B,objectB,targetB,homeB,isDigestB,isShortB,withinB,lt20,grantB,setupB,bC]
 ac_rfl
theorem Ca {a:ActD} (h:a.kind=2):fitsR a=ruleB a:=by
 rw [BO h,fitsR,h,Be,sA]
 simp only [zeroR,bareA,maskB,zS,zB,zI,zN,kE,kD,kB,kA,kz,ky,kx,kw,kv,ku,iO,ZD,ZE,ZJ,ZF,rule1B,rule2B,rule3B,rule4B,rule5B,rule6B,objectB,targetB,homeB,isDigestB,isShortB,withinB,lt20,grantB,setupB,bC]
 ac_rfl
theorem B9 {a:ActD} (h:a.kind=3):fitsR a=ruleB a:=by
 rw [BN h,fitsR,h,Bd,sz]
 simp only [zeroR,bareA,maskB,zS,zB,zI,zN,kE,kD,kB,kA,kz,ky,kx,kw,kv,ku,iO,ZD,ZE,ZJ,ZF,rule1B,rule2B,rule3B,rule4B,rule5B,rule6B,objectB,targetB,homeB,isDigestB,isShortB,withinB,lt20,grantB,setupB,bC]
 ac_rfl
theorem B8 {a:ActD} (h:a.kind=4):fitsR a=ruleB a:=by
 rw [BM h,fitsR,h,Bc,sy]
 simp only [zeroR,bareA,maskB,zS,zB,zI,zN,kP,kO,kM,kL,kK,kJ,kI,kH,kG,kF,g7,ZD,ZE,ZJ,ZF,rule1B,rule2B,rule3B,rule4B,rule5B,rule6B,objectB,targetB,homeB,isDigestB,isShortB,withinB,lt20,grantB,setupB,bC]
 ac_rfl
theorem B7 {a:ActD} (h:a.kind=5):fitsR a=ruleB a:=by
 rw [BL h,fitsR,h,Bb,sx]
 simp only [zeroR,bareA,maskB,zS,zB,zI,zN,kP,kO,kM,kL,kK,kJ,kI,kH,kG,kF,g7,ZD,ZE,ZJ,ZF,rule1B,rule2B,rule3B,rule4B,rule5B,rule6B,objectB,targetB,homeB,isDigestB,isShortB,withinB,lt20,grantB,setupB,bC]
 ac_rfl
theorem B6 {a:ActD} (h:a.kind=6):fitsR a=ruleB a:=by
 rw [BK h,fitsR,h,Ba,su]
 simp only [zeroR,bareA,maskB,zS,zB,zI,zN,kP,kO,kM,kL,kK,kJ,kI,kH,kG,kF,g7,ZD,ZE,ZJ,ZF,rule1B,rule2B,rule3B,rule4B,rule5B,rule6B,objectB,targetB,homeB,isDigestB,isShortB,withinB,lt20,grantB,setupB,bC]
 ac_rfl
theorem B5 {a:ActD} (h:a.kind=7):fitsR a=ruleB a:=by
 rw [BJ h,fitsR,h,A9,sr]
 simp only [zeroR,bareA,maskB,zS,zB,zI,zN,kr,kq,kp,ko,kn,km,kj,kg,kf,ke,g6,ZD,ZE,ZJ,ZF,rule1B,rule2B,rule3B,rule4B,rule5B,rule6B,objectB,targetB,homeB,isDigestB,isShortB,withinB,lt20,grantB,setupB,bC]
 ac_rfl
theorem B4 {a:ActD} (h:a.kind=8):fitsR a=ruleB a:=by
 rw [BI h,fitsR,h,A8,so]
 simp only [zeroR,bareA,maskB,zS,zB,zI,zN,kr,kq,kp,ko,kn,km,kj,kg,kf,ke,g6,ZD,ZE,ZJ,ZF,rule1B,rule2B,rule3B,rule4B,rule5B,rule6B,objectB,targetB,homeB,isDigestB,isShortB,withinB,lt20,grantB,setupB,bC]
 ac_rfl
theorem B3 {a:ActD} (h:a.kind=9):fitsR a=ruleB a:=by
 rw [BH h,fitsR,h,A7,sj]
 simp only [zeroR,bareA,maskB,zS,zB,zI,zN,kr,kq,kp,ko,kn,km,kj,kg,kf,ke,g6,ZD,ZE,ZJ,ZF,rule1B,rule2B,rule3B,rule4B,rule5B,rule6B,objectB,targetB,homeB,isDigestB,isShortB,withinB,lt20,grantB,setupB,bC]
 ac_rfl
theorem AI {a:ActD} (h:a.kind=10):fitsR a=ruleB a:=by
 rw [zP h,fitsR,h,xH,pt]
 simp only [zeroR,bareA,maskB,zS,zB,zI,zN,kr,kq,kp,ko,kn,km,kj,kg,kf,ke,g6,ZD,ZE,ZJ,ZF,rule1B,rule2B,rule3B,rule4B,rule5B,rule6B,objectB,targetB,homeB,isDigestB,isShortB,withinB,lt20,grantB,setupB,bC]
 ac_rfl
theorem AH {a:ActD} (h:a.kind=11):fitsR a=ruleB a:=by
 rw [zO h,fitsR,h,xG,pr]
 simp only [zeroR,bareA,maskB,zS,zB,zI,zN,kr,kq,kp,ko,kn,km,kj,kg,kf,ke,g6,ZD,ZE,ZJ,ZF,rule1B,rule2B,rule3B,rule4B,rule5B,rule6B,objectB,targetB,homeB,isDigestB,isShortB,withinB,lt20,grantB,setupB,bC]
 ac_rfl
theorem AG {a:ActD} (h:a.kind=12):fitsR a=ruleB a:=by
 rw [zM h,fitsR,h,xF,pq]
 simp only [zeroR,bareA,maskB,zS,zB,zI,zN,r3,rZ,rY,rX,rW,rV,rU,rT,rS,rR,oM,ZD,ZE,ZJ,ZF,rule1B,rule2B,rule3B,rule4B,rule5B,rule6B,objectB,targetB,homeB,isDigestB,isShortB,withinB,lt20,grantB,setupB,bC]
 ac_rfl
theorem AF {a:ActD} (h:a.kind=13):fitsR a=ruleB a:=by
 rw [zL h,fitsR,h,xE,pp]
 simp only [zeroR,bareA,maskB,zS,zB,zI,zN,kP,kO,kM,kL,kK,kJ,kI,kH,kG,kF,g7,ZD,ZE,ZJ,ZF,rule1B,rule2B,rule3B,rule4B,rule5B,rule6B,objectB,targetB,homeB,isDigestB,isShortB,withinB,lt20,grantB,setupB,bC]
 ac_rfl
theorem AE {a:ActD} (h:a.kind=14):fitsR a=ruleB a:=by
 rw [zK h,fitsR,h,xD,po]
 simp only [zeroR,bareA,maskB,zS,zB,zI,zN,kE,kD,kB,kA,kz,ky,kx,kw,kv,ku,iO,ZD,ZE,ZJ,ZF,rule1B,rule2B,rule3B,rule4B,rule5B,rule6B,objectB,targetB,homeB,isDigestB,isShortB,withinB,lt20,grantB,setupB,bC]
 ac_rfl
theorem AD {a:ActD} (h:a.kind=15):fitsR a=ruleB a:=by
 rw [zJ h,fitsR,h,xC,pm]
 simp only [zeroR,bareA,maskB,zS,zB,zI,zN,zf,ze,zd,zc,zb,za,yZ,yY,yX,yW,wK,ZD,ZE,ZJ,ZF,rule1B,rule2B,rule3B,rule4B,rule5B,rule6B,objectB,targetB,homeB,isDigestB,isShortB,withinB,lt20,grantB,setupB,bC]
 ac_rfl
theorem AC {a:ActD} (h:a.kind=16):fitsR a=ruleB a:=by
 rw [zH h,fitsR,h,xB,pj]
 simp only [zeroR,bareA,maskB,zS,zB,zI,zN,wy,wx,wv,wu,wt,wr,wq,wo,wm,wk,tu,ZD,ZE,ZJ,ZF,rule1B,rule2B,rule3B,rule4B,rule5B,rule6B,objectB,targetB,homeB,isDigestB,isShortB,withinB,lt20,grantB,setupB,bC]
 ac_rfl
theorem AB {a:ActD} (h:a.kind=17):fitsR a=ruleB a:=by
 rw [zG h,fitsR,h,xA,pi]
 simp only [zeroR,bareA,maskB,zS,zB,zI,zN,yV,yU,yT,yS,yR,yQ,yP,yO,yN,yM,wz,ZD,ZE,ZJ,ZF,rule1B,rule2B,rule3B,rule4B,rule5B,rule6B,objectB,targetB,homeB,isDigestB,isShortB,withinB,lt20,grantB,setupB,bC]
 rw [labelB,objectB,targetB,isDigestB]
 cases hz:seqB a.object ⟨#[]⟩ with
 | true =>
  rw [ro _ hz]
  cases isName a.text<;>simp [Bool.and_comm,Bool.and_assoc]
 | false=>cases isName a.text<;>cases decide ((a.object.size:Int)=32)<;>cases seqB a.target ⟨#[]⟩<;>simp [Bool.and_comm,Bool.and_assoc]
theorem AA {a:ActD} (h:a.kind=18):fitsR a=ruleB a:=by
 rw [zF h,fitsR,h,xz,pg]
 simp only [zeroR,bareA,maskB,zS,zB,zI,zN,ub,ua,tZ,tY,tX,tW,tV,tU,tT,tS,qy,ZD,ZE,ZJ,ZF,rule1B,rule2B,rule3B,rule4B,rule5B,rule6B,objectB,targetB,homeB,isDigestB,isShortB,withinB,lt20,grantB,setupB,bC]
 ac_rfl
theorem Az {a:ActD} (h:a.kind=19):fitsR a=ruleB a:=by
 rw [zE h,fitsR,h,xy,pf]
 simp only [zeroR,bareA,maskB,zS,zB,zI,zN,tH,tG,tF,tE,tD,tC,tB,tA,tz,tw,qw,ZD,ZE,ZJ,ZF,rule1B,rule2B,rule3B,rule4B,rule5B,rule6B,objectB,targetB,homeB,isDigestB,isShortB,withinB,lt20,grantB,setupB,bC]
 ac_rfl
theorem Ay {a:ActD} (h:a.kind=20):fitsR a=ruleB a:=by
 rw [zD h,fitsR,h,xx,pd]
 simp only [zeroR,bareA,maskB,zS,zB,zI,zN,kP,kO,kM,kL,kK,kJ,kI,kH,kG,kF,g7,ZD,ZE,ZJ,ZF,rule1B,rule2B,rule3B,rule4B,rule5B,rule6B,objectB,targetB,homeB,isDigestB,isShortB,withinB,lt20,grantB,setupB,bC]
 ac_rfl
theorem Ax {a:ActD} (h:a.kind=21):fitsR a=ruleB a:=by
 rw [zC h,fitsR,h,xw,pc]
 simp only [zeroR,bareA,maskB,zS,zB,zI,zN,r3,rZ,rY,rX,rW,rV,rU,rT,rS,rR,oM,ZD,ZE,ZJ,ZF,rule1B,rule2B,rule3B,rule4B,rule5B,rule6B,objectB,targetB,homeB,isDigestB,isShortB,withinB,lt20,grantB,setupB,bC]
 ac_rfl
theorem Av {a:ActD} (h:a.kind=22):fitsR a=ruleB a:=by
 rw [zA h,fitsR,h,xv,pb]
 simp only [zeroR,bareA,maskB,zS,zB,zI,zN,wj,wi,wg,we,wd,wc,wb,wa,v8,v7,tt,ZD,ZE,ZJ,ZF,rule1B,rule2B,rule3B,rule4B,rule5B,rule6B,objectB,targetB,homeB,isDigestB,isShortB,withinB,lt20,grantB,setupB,bC]
 ac_rfl
theorem Au {a:ActD} (h:a.kind=23):fitsR a=ruleB a:=by
 rw [zz h,fitsR,h,xu,pa]
 simp only [zeroR,bareA,maskB,zS,zB,zI,zN,v6,vZ,vY,vX,vW,vU,vT,vS,vR,vQ,tr,ZD,ZE,ZJ,ZF,rule1B,rule2B,rule3B,rule4B,rule5B,rule6B,objectB,targetB,homeB,isDigestB,isShortB,withinB,lt20,grantB,setupB,bC]
 ac_rfl
theorem As (a:ActD):fitsR a=ruleB a:=by
 by_cases hk:0≤a.kind∧a.kind≤23
 · rcases mM hk with h|h|h|h|h|h|h|h|h|h|h|h|h|h|h|h|h|h|h|h|h|h|h|h
   · exact Cc h
   · exact Cb h
   · exact Ca h
   · exact B9 h
   · exact B8 h
   · exact B7 h
   · exact B6 h
   · exact B5 h
   · exact B4 h
   · exact B3 h
   · exact AI h
   · exact AH h
   · exact AG h
   · exact AF h
   · exact AE h
   · exact AD h
   · exact AC h
   · exact AB h
   · exact AA h
   · exact Az h
   · exact Ay h
   · exact Ax h
   · exact Av h
   · exact Au h
 · rw [uA hk,fitsR,pF hk,ZG]
def numsR (a:ActD):Bool:=!isId a.author||(decide (a.seq<0)||(decide (1073741824<a.seq)||(decide (a.time<0)||(decide (1099511627776<a.time)||(decide (a.e<0)||(decide (2305843009213693950≤a.e)||(decide (a.s<0)||decide (2305843009213693950≤a.s))))))))
def seqR (a:ActD):Bool:=decide (a.seq=0)&&(!seqB a.prev ⟨#[]⟩||!decide (a.kind=0))||decide (0<a.seq)&&(!decide ((a.prev.size:Int)=32)||decide (a.kind=0))
theorem dnot {p q:Prop} [Decidable p] [Decidable q] (h:p↔¬ q):decide p=!decide q:=by rw [←decide_not];exact decide_eq_decide.2 h
theorem xk (a:ActD):(bif numsR a then false else bif seqR a then false else fitsR a)=rightB a:=by
 rw [As,rightB,numsR,seqR,placedB,withinB,withinB,withinB,withinB,isDigestB]
 rw [dnot (p:=a.seq<0) (q:=0≤a.seq) ae,dnot (p:=1073741824<a.seq) (q:=a.seq≤1073741824) ae,dnot (p:=a.time<0) (q:=0≤a.time) ae,dnot (p:=1099511627776<a.time) (q:=a.time≤1099511627776) ae,
  dnot (p:=a.e<0) (q:=0≤a.e) ae,dnot (p:=2305843009213693950≤a.e) (q:=a.e≤2305843009213693949) ae,dnot (p:=a.s<0) (q:=0≤a.s) ae,dnot (p:=2305843009213693950≤a.s) (q:=a.s≤2305843009213693949) (by omega)]
 cases isId a.author
 · rfl
 cases decide (0≤a.time)
 · cases decide (0≤a.seq)<;>cases decide (a.seq≤1073741824)<;>simp
 cases decide (a.time≤1099511627776)
 · cases decide (0≤a.seq)<;>cases decide (a.seq≤1073741824)<;>simp
 cases decide (0≤a.e)
 · cases decide (0≤a.seq)<;>cases decide (a.seq≤1073741824)<;>simp
 cases decide (a.e≤2305843009213693949)
 · cases decide (0≤a.seq)<;>cases decide (a.seq≤1073741824)<;>simp
 cases decide (0≤a.s)
 · cases decide (0≤a.seq)<;>cases decide (a.seq≤1073741824)<;>simp
 cases decide (a.s≤2305843009213693949)
 · cases decide (0≤a.seq)<;>cases decide (a.seq≤1073741824)<;>simp
 by_cases h0:a.seq=0
 · rw [h0]
   cases seqB a.prev ⟨#[]⟩<;>cases decide (a.kind=0)<;>simp
 by_cases h1:0<a.seq
 · rw [Zn h0,ZA h1,ZA (show 0≤a.seq by omega),ZA (show 1≤a.seq by omega)]
   cases decide (a.seq≤1073741824)<;>cases decide ((a.prev.size:Int)=32)<;>cases decide (a.kind=0)<;>simp
 · rw [Zn h0,Zn (show ¬ 0≤a.seq by omega),Zn (show ¬ 1≤a.seq by omega)]
   simp
set_option maxRecDepth 8000 in
set_option maxHeartbeats 8000000 in
theorem jx (a:ActD) (hs:a.Str):Pu Tryz.prog 168 #[a.v] (ActD.at_ · a) (.bool (rightB a)):=by
 refine ay (args:=[_]) _ Tryz.func168 rfl Tryz.ntmps168 rfl fun av bor w0=>?_
 rw [←xk]
 have c1:=fK a.author hs.author
 have c2:=qO a hs
 repeat' (first|apply ab|apply Qu|apply Qv|refine aj ?_|refine ad ?_|refine aA ?_|refine az ?_|refine aH ?_|refine aD ?_|refine aF ?_|refine bN ?_|refine bR ?_|refine dJ ?_|refine bj ?_|refine cK ?_|refine cZ ?_|refine eQ ?_|refine bT ?_|refine aK ?_|refine cb ?_|refine fD ?_|refine aN fun _=>?_|refine Qy ?_|refine Qz ?_|apply Qx|apply ar|(refine ao (hc:=c1) (hX:=fun _ _=>trivial) ?_)|(refine ao (hc:=c2) (hX:=fun w h=>h) ?_)|((fail_if_success (refine aZ ?_));refine aR (ht:=?_) (hf:=?_);all_goals (intro hx_;first|have:=aP hx_|have:=aS hx_|skip))|(refine aG (ht:=?_) (hf:=?_);all_goals (intro hx_;first|have:=aP hx_|have:=aS hx_)))
 all_goals refine al (aq rfl rfl) ?_
 all_goals first
  | rfl
  | (simp only [numsR,seqR, *,ZQ,ZO,ZC,ZB,ZE,ZD,ZH,ZG,ZK,ZI,ZP,ZJ,ZN,ZF];done)
  | (simp_all [numsR,seqR];done)
  | (simp_all [numsR,seqR];intros;omega)
  | skip
theorem mG (b:BoxD) (hb:b.Fit):Pu Tryz.prog 248 #[b.v] (fun _=>True) (.string (boxV b)):=by
 refine ay (args:=[_]) _ Tryz.func248 rfl Tryz.ntmps248 rfl fun av bor w0=>?_
 have h1:=aX b.nonce
 have h2:=aX b.data
 have h3:=aX b.tag
 have k1:=hb.nonce
 have k2:=hb.data
 have k3:=hb.tag
 repeat' (first|apply ab|apply Qu|apply Qv|refine ad ?_|refine aN fun _=>?_|fail)
 (apply bH;kernel_rfl)
 all_goals refine aa 0 ?_<;>refine aa 1 ?_<;>refine aa 3 ?_<;>refine aa 4 ?_<;>refine aa 7 ?_<;>refine aa 8 ?_<;>(refine ag 2 ?_;(refine ao (hc:=bV _ ae) ?_);apply ab;refine ai ?_)<;>(refine ag 5 ?_;(refine ao (hc:=bV _ ae) ?_);apply ab;refine ai ?_)<;>(refine aa 6 (hy:=by (apply bD;rfl;rfl;(try simp only [Zl]);omega)) ?_)<;>(refine ag 9 ?_;(refine ao (hc:=bV _ ae) ?_);apply ab;refine ai ?_)<;>(refine aa 10 (hy:=by (apply bD;rfl;rfl;(try simp only [Zl]);omega)) ?_)<;>refine aa 11 ?_<;>(refine ax ?_)
 repeat' (first|apply ar|fail)
 all_goals exact al (aq rfl rfl) rfl
theorem vG {w:World} {p:Option Addr} {q:Nat} {x:WrapD} (h:∀ j u,x.cells[j]?=some u→CellAt w p (q+j) u):∀ j u,x.box.cells[j]?=some u→CellAt w p (q+2+j) u:=fun j u hj=>by
 have h1:=h (j+2) u hj
 rw [show q+2+j=q+(j+2) from by omega]
 exact h1
set_option maxRecDepth 8000 in
set_option maxHeartbeats 8000000 in
theorem qQ (a:ActD) (hs:a.Str) (ha:rightB a=true→a.Fit):Pu Tryz.prog 216 #[a.v] (ActD.at_ · a) (.string (actCore a)):=by
 have hri:=jx a hs
 rw [actCore]
 cases hrB:rightB a with
 | false =>
  rw [hrB] at hri
  refine ay (args:=[_]) _ Tryz.func216 rfl Tryz.ntmps216 rfl fun av bor w0=>?_
  repeat' (first|apply ab|apply Qu|apply Qv|refine aj ?_|refine ad ?_|refine aH ?_|refine bN ?_|refine aN fun _=>?_|refine Qy ?_|apply ar|(refine ao (hc:=hri) (hX:=fun w h=>h) ?_)|fail)
  exact al (aq rfl rfl) rfl
 | true =>
 rw [hrB] at hri
 replace ha:=ha hrB
 refine ay (args:=[_]) _ Tryz.func216 rfl Tryz.ntmps216 rfl fun av bor w0=>?_
 refine bI (p:=a.wraps.n=a.wrapsL.length∧a.wraps.n≤maxLen∧(0<a.wrapsL.length→a.wraps.p.isSome=true)) (fun w h=>⟨h.2.len_,Qq (RowsD.cap h.2) (RowsD.max h.2),h.2.some_⟩) fun ⟨hl,hm,hp⟩=>?_
 simp only [maxLen] at hm
 obtain ⟨i1,i2,i3,i4,i5,i6,i7,i8,i9⟩:=ha.ints
 have s1:=aX a.author
 have s2:=aX a.prev
 have s3:=aX a.object
 have s4:=aX a.target
 have s5:=aX a.group
 have s6:=aX a.text
 have s7:=aX ⟨#[97,99,116]⟩
 have s8:=fO ha.body
 have h1:=ha.author
 have h2:=ha.prev
 have h3:=ha.object
 have h4:=ha.target
 have h5:=ha.group
 have h6:=ha.text
 have h7:=ha.to
 have h8:(⟨#[97,99,116]⟩:ByteArray).size=3:=rfl
 have n1:=aO a.seq
 have n2:=aO a.kind
 have n3:=aO a.time
 have n4:=aO a.scope
 have n5:=aO a.epoch
 have n6:=aO a.wraps.n
 have n7:=aO a.n
 have n8:=aO a.m
 repeat' (first|apply ab|apply Qu|apply Qv|refine aj ?_|refine ad ?_|refine aH ?_|refine bN ?_|refine aN fun _=>?_|refine Qz ?_|apply Qx|(refine ao (hc:=hri) (hX:=fun w h=>h) ?_)|fail)
 (apply bH;kernel_rfl)
 all_goals refine aa 1 ?_<;>refine aa 2 ?_<;>refine aa 5 ?_<;>refine aa 6 ?_<;>refine aa 9 ?_<;>refine aa 10 ?_<;>refine aa 13 ?_<;>refine aa 14 ?_<;>refine aa 17 ?_<;>refine aa 18 ?_<;>(refine ag 0 ?_;(refine ao (hc:=bV _ ae) ?_);apply ab;refine ai ?_)<;>(refine ag 3 ?_;(refine ao (hc:=bV _ ae) ?_);apply ab;refine ai ?_)<;>(refine aa 4 (hy:=by (apply bD;rfl;rfl;(try simp only [Zl]);omega)) ?_)<;>(refine ag 7 ?_;(refine ao (hc:=bz _ ae) ?_);apply ab;refine ai ?_)<;>(refine aa 8 (hy:=by (apply bD;rfl;rfl;(try simp only [Zl]);omega)) ?_)<;>(refine ag 11 ?_;(refine ao (hc:=bV _ ae) ?_);apply ab;refine ai ?_)<;>(refine aa 12 (hy:=by (apply bD;rfl;rfl;(try simp only [Zl]);omega)) ?_)<;>(refine ag 15 ?_;(refine ao (hc:=bz _ ae) ?_);apply ab;refine ai ?_)<;>(refine aa 16 (hy:=by (apply bD;rfl;rfl;(try simp only [Zl]);omega)) ?_)<;>(refine ag 19 ?_;(refine ao (hc:=bz _ ae) ?_);apply ab;refine ai ?_)<;>(refine aa 20 (hy:=by (apply bD;rfl;rfl;(try simp only [Zl]);omega)) ?_)<;>refine aa 21 ?_<;>(refine ax ?_)
 repeat' (first|apply Qu|fail)
 (apply bH;kernel_rfl)
 all_goals refine aa 0 ?_<;>refine aa 1 ?_<;>refine aa 2 ?_<;>refine aa 5 ?_<;>refine aa 6 ?_<;>refine aa 9 ?_<;>refine aa 10 ?_<;>refine aa 13 ?_<;>refine aa 14 ?_<;>refine aa 17 ?_<;>refine aa 18 ?_<;>refine aa 21 ?_<;>refine aa 22 ?_<;>(refine ag 3 ?_;(refine ao (hc:=bV _ ae) ?_);apply ab;refine ai ?_)<;>(refine aa 4 (hy:=by (apply bD;rfl;rfl;(try simp only [Zl]);omega)) ?_)<;>(refine ag 7 ?_;(refine ao (hc:=bV _ ae) ?_);apply ab;refine ai ?_)<;>(refine aa 8 (hy:=by (apply bD;rfl;rfl;(try simp only [Zl]);omega)) ?_)<;>(refine ag 11 ?_;(refine ao (hc:=bz _ ae) ?_);apply ab;refine ai ?_)<;>(refine aa 12 (hy:=by (apply bD;rfl;rfl;(try simp only [Zl]);omega)) ?_)<;>(refine ag 15 ?_;(refine ao (hc:=bV _ ae) ?_);apply ab;refine ai ?_)<;>(refine aa 16 (hy:=by (apply bD;rfl;rfl;(try simp only [Zl]);omega)) ?_)<;>(refine ag 19 ?_;(refine ao (hc:=lj a.to a.toL ae) ?_);apply ab;refine ai ?_)<;>(refine aa 20 (hy:=by (apply bD;rfl;rfl;(try simp only [Zl]);omega)) ?_)<;>(refine ag 23 ?_;(refine ao (hc:=bV _ ae) ?_);apply ab;refine ai ?_)<;>(refine aa 24 (hy:=by (apply bD;rfl;rfl;(try simp only [Zl]);omega)) ?_)<;>refine aa 25 ?_<;>(refine ax ?_)
 repeat' (first|apply Qu|fail)
 (apply bH;kernel_rfl)
 all_goals refine aa 0 ?_<;>refine aa 1 ?_<;>(refine aa 2 (hy:=by (apply cF;rfl;(repeat (exact aI));exact ActD.cells_body _;rfl)) ?_)<;>refine aa 5 ?_<;>refine aa 6 ?_<;>refine aa 9 ?_<;>refine aa 10 ?_<;>refine aa 11 ?_<;>(refine ag 3 ?_;(refine ao (hc:=mG a.body ha.body) ?_);apply ab;refine ai ?_)<;>(refine aa 4 (hy:=by (apply bD;rfl;rfl;(try simp only [Zl]);omega)) ?_)<;>(refine ag 7 ?_;(refine ao (hc:=bz _ ae) ?_);apply ab;refine ai ?_)<;>(refine aa 8 (hy:=by (apply bD;rfl;rfl;(try simp only [Zl]);omega)) ?_)<;>(refine ag 12 ?_;(refine ao (hc:=bz _ ae) ?_);apply ab;refine ai ?_)<;>(refine aa 13 (hy:=by (apply bD;rfl;rfl;(try simp only [Zl]);omega)) ?_)<;>refine aa 14 ?_<;>(refine ax ?_)
 repeat' (first|apply ab|apply Qu|apply Qv|refine ad ?_|apply Qw|fail)
 rename_i b
 have hc4:(core4 a).size≤100000000000:=by
  have:(numV a.wrapsL.length).size≤10:=aO _
  simp only [core4,core3,core2,core1,Zl]
  omega
 have hle:=eH (a.wrapsL.map wrapV)
 have hw:=ha.wrapsV
 have e0:core5 a 0=core4 a:=by simp [core5,cats]
 refine aT (ι:=Kth a.wrapsL.length) (fun i=>⟨[(1,.pointer (some ⟨b,0,none⟩)),(4,.string (core5 a i.k)),(5,.int .i64 (i.k:Nat))],[cel b 46 a.cells],(ActD.at_ · a)⟩) (fun i=>a.wrapsL.length-i.k) ⟨0,Nat.zero_le _⟩ (aw ⟨rfl,?_,rfl,trivial⟩ (aE _) fun _ h=>h) fun i=>?_
 · simp only [e0,core4,core3,core2,core1,←hl,ZV];rfl
 have hik:=i.hk
 have hk5:(core5 a i.k).size≤200000000000:=by have:=hle i.k;simp only [core5,Zl];omega
 repeat' (first|apply ab|apply Qu|apply Qv|refine aj ?_|refine aA ?_|refine az ?_|refine bj ?_|refine aY ?_|apply Qx|apply Qw|apply aQ|(refine aG (ht:=?_) (hf:=?_);all_goals (intro hx_;first|have:=aP hx_|have:=aS hx_)))
 · have hlt:i.k<a.wrapsL.length:=by omega
   have hp':=hp ae
   obtain ⟨x,hx⟩:∃ x,a.wrapsL[i.k]?=some x:=⟨_,Zm hlt⟩
   have hxm:x∈a.wrapsL:=List.mem_of_getElem? hx
   have hf:=ha.wraps x hxm
   have hfs:=fO hf
   obtain ⟨w1,w2⟩:=ha.wints x hxm
   have m1:=aO x.to
   have m2:=aO x.eph
   (refine aU [cel b 46 a.cells] (ActD.at_ · a) ak ?_)
   all_goals refine aa 0 ?_<;>refine aa 1 ?_<;>refine aa 2 ?_<;>refine aa 3 ?_<;>(refine aa 4 (hy:=by (apply aL (q:=i.k*5);rfl;rfl;omega;omega;assumption;omega)) ?_)<;>(refine aa 5 (hy:=by (apply cV;rfl;assumption;rfl)) ?_)<;>(refine aa 6 (hy:=by (apply cW (q:=i.k*5) (u:=.int .i64 x.to);rfl;exact fun w h=>(Wraps.get h.2 hx).2.2 0 _ rfl)) ?_)<;>refine aa 9 ?_<;>refine aa 10 ?_<;>refine aa 11 ?_<;>(refine aa 12 (hy:=by (apply aL (q:=i.k*5);rfl;rfl;omega;omega;assumption;omega)) ?_)<;>(refine aa 13 (hy:=by (apply cV;rfl;assumption;rfl)) ?_)<;>(refine aa 14 (hy:=by (apply cW (q:=i.k*5+1) (u:=.int .i64 x.eph);rfl;exact fun w h=>(Wraps.get h.2 hx).2.2 1 _ rfl)) ?_)<;>refine aa 17 ?_<;>refine aa 18 ?_<;>refine aa 19 ?_<;>(refine aa 20 (hy:=by (apply aL (q:=i.k*5);rfl;rfl;omega;omega;assumption;omega)) ?_)<;>(refine aa 21 (hy:=by (apply cV;rfl;assumption;rfl)) ?_)<;>(refine aa 22 (hy:=by (apply dc (q:=i.k*5+2) (cs:=x.box.cells);rfl;exact fun w h=>⟨rfl,(Wraps.get h.2 hx).2.1,vG (Wraps.get h.2 hx).2.2⟩)) ?_)<;>(refine ag 7 ?_;(refine ao (hc:=bz _ ae) ?_);apply ab;refine ai ?_)<;>(refine aa 8 (hy:=by (apply bD;rfl;rfl;(try simp only [Zl]);omega)) ?_)<;>(refine ag 15 ?_;(refine ao (hc:=bz _ ae) ?_);apply ab;refine ai ?_)<;>(refine aa 16 (hy:=by (apply bD;rfl;rfl;(try simp only [Zl]);omega)) ?_)<;>(refine ag 23 ?_;(refine ao (hc:=mG x.box hf) ?_);apply ab;refine ai ?_)<;>(refine aa 24 (hy:=by (apply bD;rfl;rfl;(try simp only [Zl]);omega)) ?_)<;>refine aa 25 ?_<;>(refine ax ?_)
   repeat' (first|apply ab|apply Qv|refine aj ?_|refine ad ?_|refine be (h:=?_)|fail)
   have hsucc:=eZ (a.wrapsL.map wrapV) (k:=i.k) (by simpa using hlt)
   have hget:(a.wrapsL.map wrapV).getD i.k .empty=wrapV x:=by simp [hx]
   rw [hget] at hsucc
   have e2:core5 a (i.k+1)=core5 a i.k++numV x.to++numV x.eph++boxV x.box:=by simp only [core5,hsucc,ZV,wrapV]
   all_goals exact ⟨(⟨i.k+1,hlt⟩:Kth a.wrapsL.length),(by show a.wrapsL.length-(i.k+1)<a.wrapsL.length-i.k;omega),aw ⟨rfl,by rw [e2];rfl,rfl,trivial⟩ (aE _) fun _ h=>h⟩
 have hke:i.k=a.wrapsL.length:=by omega
 (apply bH;kernel_rfl)
 all_goals refine aa 0 ?_<;>refine aa 1 ?_<;>refine aa 2 ?_<;>refine aa 5 ?_<;>refine aa 6 ?_<;>(refine ag 3 ?_;(refine ao (hc:=bz _ ae) ?_);apply ab;refine ai ?_)<;>(refine aa 4 (hy:=by (apply bD;rfl;rfl;(try simp only [Zl]);omega)) ?_)<;>(refine ag 7 ?_;(refine ao (hc:=bz _ ae) ?_);apply ab;refine ai ?_)<;>(refine aa 8 (hy:=by (apply bD;rfl;rfl;(try simp only [Zl]);omega)) ?_)<;>refine aa 9 ?_<;>(refine ax ?_)
 repeat' (first|apply ar|fail)
 refine al (aq rfl rfl) ?_
 simp only [ZC,coreV,←hke]
theorem lm (a:ActD) (hs:a.Str) (ha:rightB a=true→a.Fit) (hi:a.e<9223372036854775808∧a.s<9223372036854775808):Pu Tryz.prog 179 #[a.v] (ActD.at_ · a) (.string (actBytes a)):=by
 refine ay (args:=[_]) _ Tryz.func179 rfl Tryz.ntmps179 rfl fun av bor w0=>?_
 obtain ⟨i8,i9⟩:=hi
 have n7:=aO a.e
 have n8:=aO a.s
 have hc:(actCore a).size≤300000000000:=by
  unfold actCore
  cases hrB:rightB a with
  | true=>exact gb (ha hrB)
  | false=>simp [ByteArray.size]
 have hcp:=qQ a hs ha
 repeat' (first|apply ab|apply Qu|apply Qv|refine aj ?_|refine ad ?_|refine aH ?_|refine cC ?_|refine aN fun _=>?_|apply Qx|apply ar|(refine ao (hc:=hcp) (hX:=fun w h=>h) ?_)|(refine aG (ht:=?_) (hf:=?_);all_goals (intro hx_;skip)))
 · (all_goals (apply al;apply aq;rfl;rfl));all_goals (simp only [actBytes, *,ZQ,ZO,ZC,ZB,ZE,ZD,ZH,ZG,ZK,ZI,ZP,ZJ,ZN,ZF];done)
 (apply bH;kernel_rfl)
 all_goals refine aa 0 ?_<;>refine aa 1 ?_<;>refine aa 2 ?_<;>refine aa 3 ?_<;>refine aa 6 ?_<;>refine aa 7 ?_<;>refine aa 8 ?_<;>(refine ag 4 ?_;(refine ao (hc:=bz _ ae) ?_);apply ab;refine ai ?_)<;>(refine aa 5 (hy:=by (apply bD;rfl;rfl;(try simp only [Zl]);omega)) ?_)<;>(refine ag 9 ?_;(refine ao (hc:=bz _ ae) ?_);apply ab;refine ai ?_)<;>(refine aa 10 (hy:=by (apply bD;rfl;rfl;(try simp only [Zl]);omega)) ?_)<;>refine aa 11 ?_<;>(refine ax ?_)
 repeat' (first|apply ar|fail)
 all_goals ((all_goals (apply al;apply aq;rfl;rfl));all_goals (simp only [actBytes, *,ZQ,ZO,ZC,ZB,ZE,ZD,ZH,ZG,ZK,ZI,ZP,ZJ,ZN,ZF];done))
theorem qF:Tryz.prog.underlying 44=some (.struct (Tryz.prog.fieldsOf 44)):=by kernel_rfl
theorem un:Tryz.prog.stoodInHeld 44=false:=by kernel_rfl
theorem uo:Tryz.prog.eqGuardType Tryz.prog.depth 44=false:=by kernel_rfl
theorem uv (w:World) (a b c d:Int):(Op.equalIn 10000 44 (.agg #[.int .i64 a,.int .i64 b]) (.agg #[.int .i64 c,.int .i64 d])).run Tryz.prog w=.ok (decide (a=c)&&decide (b=d)) w:=by
 have e:(10000:Nat)=9999+1:=rfl
 have e2:(9999:Nat)=9998+1:=rfl
 rw [e,run_equalIn_agg _ _ _ _ _ qF un]
 have hf:(Tryz.prog.fieldsOf 44).toList.map (fun f=>(f.name,f.type,f.offset))=[("E",3,0),("S",3,1)]:=by kernel_rfl
 generalize (Tryz.prog.fieldsOf 44).toList=l at hf
 rcases l with _|⟨f1,_|⟨f2,_|⟨f3,l⟩⟩⟩
 case cons.cons.nil =>
  simp only [Qt,List.map_nil,List.cons.injEq,Prod.mk.injEq,and_true] at hf
  obtain ⟨⟨n1,t1,o1⟩,n2,t2,o2⟩:=hf
  have hag:=fun w=>(cw (TyOne.out (P:=Tryz.prog) (t:=3)) w).1
  have hst:=fun (x y:Int) (w:World)=>run_equalIn_int (P:=Tryz.prog) w 9998 3 .i64 .i64 x y TyInt.out
  cases h1:decide (a=c)<;>cases h2:decide (b=d) <;>
  · simp only [ZT,decide_eq_false_iff_not] at h1 h2
    simp [Op.eqFields,n1,n2,t1,t2,o1,o2,part,hag,e2,hst,h1,h2]
 all_goals (have:=congrArg List.length hf;simp at this)
theorem rG {N:Nat} {av bor:List Nat} {w0:World} {E:Env} {loc:List Res} {X:World→Prop} {ty t2:TypeId} {x y:Operand} {a b c d:Int} (hx:ev E x=some (.agg #[.int .i64 a,.int .i64 b])) (hy:ev E y=some (.agg #[.int .i64 c,.int .i64 d])) :
  Sy.Yields Tryz.prog N av bor w0 ⟨E,loc,X⟩ (.binOp .eql 44 x y t2) ty (.bool (decide (a=c)&&decide (b=d))):=Sy.Yields.mk fun A w ok dd pos af g=>by
 have h1:=run_eql_struct (P:=Tryz.prog) w 44 #[.int .i64 a,.int .i64 b] #[.int .i64 c,.int .i64 d]
 have h2:=uv w a b c d
 rw [h2] at h1
 simp [execOp,ok.eval (st:=⟨E,loc,X⟩) hx,ok.eval (st:=⟨E,loc,X⟩) hy,run_eqGuard_agg _ _ _ _ _ _ _ uo,h1]
section
variable {N:Nat} {av bor:List Nat} {w0:World} {ops:Array Oper} {rest:List Oper} {kk:St→Prop} {E:Env} {loc:List Res} {X:World→Prop} {n:Nat} {ty t2:TypeId} {pos:String} {af:Array Edge} {g:Option (Nat×Bool)} {bb want:Bool} {x y:Operand} {a b c d:Int}
theorem wO (h:Sw Tryz.prog N av bor w0 ops rest ⟨(n,.bool (decide (a=c)&&decide (b=d)))::E,loc,X⟩ kk) (hx:ev E x=some (.agg #[.int .i64 a,.int .i64 b]):=by rfl) (hy:ev E y=some (.agg #[.int .i64 c,.int .i64 d]):=by rfl) (hg:gdB ops E g=some (bb,want):=by rfl) (hbb:bb=want:=by exact aB) (hd:Nat.blt n N=true:=by rfl) :
  Sw Tryz.prog N av bor w0 ops (⟨some n,.binOp .eql 44 x y t2,ty,pos,af,g⟩::rest) ⟨E,loc,X⟩ kk:=am (rG hx hy) hg hbb hd h
end
def sameZ (a:ActD):Bool:=decide ((a.to.n:Int)=0)&&(decide ((a.wraps.n:Int)=0)&&(seqB a.author ActD.zero.author&&(decide (a.seq=ActD.zero.seq)&&(seqB a.prev ActD.zero.prev&&(decide (a.kind=ActD.zero.kind)&&(decide (a.time=ActD.zero.time)&&(seqB a.object ActD.zero.object&&(seqB a.target ActD.zero.target&&(decide (a.scope=ActD.zero.scope)&&(seqB a.group ActD.zero.group&&(seqB a.text ActD.zero.text&&(boxEq a.body BoxD.zero&&(decide (a.epoch=ActD.zero.epoch)&&(decide (a.n=ActD.zero.n)&&(decide (a.m=ActD.zero.m)&&(decide (a.e=0)&&decide (a.s=0)))))))))))))))))
set_option maxRecDepth 20000 in
set_option maxHeartbeats 8000000 in
theorem qL (a:ActD):Pu Tryz.prog 42 #[a.v,ActD.zero.v] (fun _=>True) (.bool (sameZ a)):=by
 refine ay (args:=[_,_]) _ Tryz.func42 rfl Tryz.ntmps42 rfl fun av bor w0=>?_
 repeat' (first|apply ab|apply Qu|apply Qv|refine aj ?_|refine ad ?_|refine aA ?_|refine az ?_|refine aD ?_|refine aF ?_|refine dJ ?_|refine aY ?_|refine cb ?_|refine aN fun _=>?_|refine Qy ?_|apply Qx|apply Qw|apply ar|((fail_if_success (refine aZ ?_));refine aR (ht:=?_) (hf:=?_);all_goals (intro hx_;skip))|(refine aG (ht:=?_) (hf:=?_);all_goals (intro hx_;skip)))
 · refine al (aq rfl rfl) ?_
   have h0:ActD.zero.to.n=0:=rfl
   rw [h0] at hx_
   simp_all [sameZ]
 · refine al (aq rfl rfl) ?_
   have h0:ActD.zero.wraps.n=0:=rfl
   rw [h0] at hx_
   simp_all [sameZ]
 rename_i b1 b2 g1
 have n1:a.to.n=0:=by
  have h0:ActD.zero.to.n=0:=rfl
  rw [h0] at g1
  simpa using g1
 have n2:a.wraps.n=0:=by
  have h0:ActD.zero.wraps.n=0:=rfl
  rw [h0] at hx_
  simpa using hx_
 refine aT (ι:=Unit) (fun _=>⟨[(2,.pointer (some ⟨b1,0,none⟩)),(3,.pointer (some ⟨b2,0,none⟩)),(5,.int .i64 0)],[cel b2 46 ActD.zero.cells,cel b1 46 a.cells],fun _=>True⟩) (fun _=>0) () (aw ⟨rfl,rfl,rfl,trivial⟩ (aE _) fun _ h=>h) fun _=>?_
 repeat' (first|apply ab|apply Qu|apply Qv|refine aj ?_|refine ad ?_|refine aA ?_|refine az ?_|refine bj ?_|refine aY ?_|apply Qx|apply Qw|apply aQ|(refine aG (ht:=?_) (hf:=?_);all_goals (intro hx_;first|have:=aP hx_|have:=aS hx_)))
 · exact absurd this (by rw [n1];decide)
 refine aT (ι:=Unit) (fun _=>⟨[(2,.pointer (some ⟨b1,0,none⟩)),(3,.pointer (some ⟨b2,0,none⟩)),(6,.int .i64 0)],[cel b2 46 ActD.zero.cells,cel b1 46 a.cells],fun _=>True⟩) (fun _=>0) () (aw ⟨rfl,rfl,rfl,trivial⟩ (aE _) fun _ h=>h) fun _=>?_
 repeat' (first|apply ab|apply Qu|apply Qv|refine aj ?_|refine ad ?_|refine aA ?_|refine az ?_|refine aD ?_|refine aF ?_|refine bR ?_|refine bj ?_|refine cC ?_|refine aY ?_|refine aK ?_|apply Qx|apply Qw|apply ar|apply aQ|(refine ia (a:=a.body) (b:=BoxD.zero) ?_)|(refine wO (a:=a.e) (b:=a.s) (c:=0) (d:=0) ?_)|(refine aW ?_)|((fail_if_success (refine aZ ?_));refine aR (ht:=?_) (hf:=?_);all_goals (intro hx_;first|have:=aP hx_|have:=aS hx_|skip))|(refine aG (ht:=?_) (hf:=?_);all_goals (intro hx_;first|have:=aP hx_|have:=aS hx_)))
 · exact absurd this (by rw [n2];decide)
 all_goals (
  refine al (aq rfl rfl) ?_
  have q1:decide ((a.to.n:Int)=0)=true:=by rw [n1];rfl
  have q2:decide ((a.wraps.n:Int)=0)=true:=by rw [n2];rfl
  rw [sameZ,q1,q2]
  clear q1 q2 n1 n2
  first
   | rfl
   | (simp_all only [ZD,ZG,ZH,ZQ,ZO,ZE];done)
   | (simp_all;done)
   | skip)
theorem CellAt.same {w:World} {p:Option Addr} {q:Nat} {u v:Value} (h1:CellAt w p q u) (h2:CellAt w p q v):u=v:=by
 obtain ⟨a,ha⟩:=Option.isSome_iff_exists.1 h1.1
 have:=(h1.2 a ha).symm.trans (h2.2 a ha)
 exact Option.some.inj this
theorem Strs.same {w:World} {s:SlV} {l m:List ByteArray} (h1:Strs w s l) (h2:Strs w s m):l=m:=by
 have hl:l.length=m.length:=h1.len_.symm.trans h2.len_
 apply List.ext_getElem hl
 intro i i1 i2
 have a1:=h1.at_ (Zm i1)
 have a2:=h2.at_ (Zm i2)
 exact Value.string.inj (CellAt.same a1 a2)
section
variable {H:Type} {enc:TypeId×Value→H} {P:Program} {w:World} {base:Nat} {spare:Nat→Bool} {held:Bool}
theorem SlV.v_inj {s t:SlV} (h:s.v=t.v):s=t:=by
 obtain ⟨p,n,c⟩:=s
 obtain ⟨p',n',c'⟩:=t
 simp only [SlV.v,Value.slice.injEq] at h
 obtain ⟨rfl,rfl,rfl⟩:=h
 rfl
theorem yC {fuel:Nat} {a:ActD} {x:DataW H×List MemPlace} (h:DataW.trod enc Tryz.prog w base spare held fuel 46 a.cells=some x) (ha:a.at_ w):a.Str:=by
 obtain ⟨n0,y0,h0⟩:=bA (i:=0) (off:=0) (k:=1) (t':=9) Tryz.underlying46 h rfl rfl rfl ak
 obtain ⟨n6,y6,h6⟩:=bA (i:=6) (off:=6) (k:=1) (t':=9) Tryz.underlying46 h rfl rfl rfl ak
 obtain ⟨n8,y8,h8⟩:=bA (i:=8) (off:=8) (k:=1) (t':=9) Tryz.underlying46 h rfl rfl rfl ak
 obtain ⟨n9,y9,h9⟩:=bA (i:=9) (off:=9) (k:=1) (t':=39) Tryz.underlying46 h rfl rfl rfl ak
 obtain ⟨n10,y10,h10⟩:=bA (i:=10) (off:=10) (k:=1) (t':=9) Tryz.underlying46 h rfl rfl rfl ak
 obtain ⟨s0,e0,b0⟩:=cg h0
 obtain ⟨s6,e6,b6⟩:=cg h6
 obtain ⟨s8,e8,b8⟩:=cg h8
 obtain ⟨s9,l9,e9,r9,b9⟩:=gM h9
 obtain ⟨s10,e10,b10⟩:=cg h10
 simp [ActD.cells] at e0 e6 e8 e9 e10
 have e9':=SlV.v_inj e9
 subst e0;subst e6;subst e8;subst e10
 rw [←e9'] at r9
 have e:=Strs.same ha.1 r9
 exact ⟨b0,b6,b8,b10,by rw [e];exact b9⟩
theorem uO {fuel:Nat} {cs:List Value} {x:DataW H×List MemPlace} (h:DataW.trod enc Tryz.prog w base spare held fuel 46 cs=some x):∃ a:ActD,cs=a.cells∧a.at_ w∧a.Rng∧a.target.size≤maxLen∧a.Str:=by
 obtain ⟨a,e,h1,h2,h3⟩:=xt h
 subst e
 exact ⟨a,rfl,h1,h2,h3,yC h h1⟩
end
end Go.Proofs.YtcdilibijnboeaaGreatDoor
namespace Go.Proofs.YtcdilibijnboeaaGreatDoor
open Go Go.Proofs Sy Go.RowKit Go.Deep Go.ChangeShapes
structure ClaimD.Str (c:ClaimD):Prop where
 actor:c.actor.size≤maxLen
 prev:c.prev.size≤maxLen
 rng:c.base<9223372036854775808∧c.gen<9223372036854775808∧c.home<9223372036854775808∧c.pub<9223372036854775808∧c.time<9223372036854775808∧c.e<9223372036854775808∧c.s<9223372036854775808
structure BallotD.Str (b:BallotD):Prop where
 actor:b.actor.size≤maxLen
 claim:b.claim.size≤maxLen
 rng:b.server<9223372036854775808∧b.gen<9223372036854775808∧b.time<9223372036854775808∧b.e<9223372036854775808∧b.s<9223372036854775808
structure DecD.Str (d:DecD):Prop where
 actor:d.actor.size≤maxLen
 object:d.object.size≤maxLen
 text:d.text.size≤maxLen
 to:∀ x∈d.toL,x.size≤maxLen
 rng:d.server<9223372036854775808∧d.number<9223372036854775808∧d.kind<9223372036854775808∧d.n<9223372036854775808∧d.from_<9223372036854775808∧d.until_<9223372036854775808∧d.e<9223372036854775808∧d.s<9223372036854775808
structure ItemD.Str (i:ItemD):Prop where
 act:i.act.Str
 rng:i.act.Rng
 claim:i.claim.Str
 ballot:i.ballot.Str
 dec:i.dec.Str
section
variable {H:Type} {enc:TypeId×Value→H} {P:Program} {w:World} {base:Nat} {spare:Nat→Bool} {held:Bool}
theorem q7 {fuel:Nat} {cs:List Value} {x:DataW H×List MemPlace} (h:DataW.trod enc Tryz.prog w base spare held fuel 22 cs=some x):∃ (s:SlV) (l:List Int),cs=[s.v]∧Ints w s l∧∀ n∈l,n<9223372036854775808:=by
 obtain ⟨s,l,h1,h2,h3⟩:=fL (α:=Int) Tryz.underlying22 (size:=1) ak (fun n=>[.int .i64 n]) (fun n=>n<9223372036854775808) (fun n cs y hy=>by obtain ⟨s,h1,h2⟩:=bS hy;exact ⟨s,h1,h2⟩) h
 exact ⟨s,l,h1,h2,h3⟩
theorem q8 {fuel:Nat} {cs:List Value} {x:DataW H×List MemPlace} (h:DataW.trod enc Tryz.prog w base spare held fuel 51 cs=some x):∃ a:ClaimD,cs=a.cells∧a.Str:=by
 have hl:=fV Tryz.underlying51 (k:=9) ak h
 obtain ⟨n0,y0,h0⟩:=bA (i:=0) (off:=0) (k:=1) (t':=9) Tryz.underlying51 h rfl rfl rfl ak
 obtain ⟨n1,y1,h1⟩:=bA (i:=1) (off:=1) (k:=1) (t':=3) Tryz.underlying51 h rfl rfl rfl ak
 obtain ⟨n2,y2,h2⟩:=bA (i:=2) (off:=2) (k:=1) (t':=9) Tryz.underlying51 h rfl rfl rfl ak
 obtain ⟨n3,y3,h3⟩:=bA (i:=3) (off:=3) (k:=1) (t':=3) Tryz.underlying51 h rfl rfl rfl ak
 obtain ⟨n4,y4,h4⟩:=bA (i:=4) (off:=4) (k:=1) (t':=3) Tryz.underlying51 h rfl rfl rfl ak
 obtain ⟨n5,y5,h5⟩:=bA (i:=5) (off:=5) (k:=1) (t':=3) Tryz.underlying51 h rfl rfl rfl ak
 obtain ⟨n6,y6,h6⟩:=bA (i:=6) (off:=6) (k:=1) (t':=3) Tryz.underlying51 h rfl rfl rfl ak
 obtain ⟨n7,y7,h7⟩:=bA (i:=7) (off:=7) (k:=2) (t':=44) Tryz.underlying51 h rfl rfl rfl ak
 match cs,hl with
 | [c0,c1,c2,c3,c4,c5,c6,c7,c8],_ =>
  obtain ⟨s0,e0,b0⟩:=cg h0
  obtain ⟨s1,e1,b1⟩:=bS h1
  obtain ⟨s2,e2,b2⟩:=cg h2
  obtain ⟨s3,e3,b3⟩:=bS h3
  obtain ⟨s4,e4,b4⟩:=bS h4
  obtain ⟨s5,e5,b5⟩:=bS h5
  obtain ⟨s6,e6,b6⟩:=bS h6
  obtain ⟨s7,t7,e7,b7,bb7⟩:=iw h7
  simp at e0 e1 e2 e3 e4 e5 e6 e7
  exact ⟨⟨s0,s1,s2,s3,s4,s5,s6,s7,t7⟩,by simp [ClaimD.cells,e0,e1,e2,e3,e4,e5,e6,e7],⟨b0,b2,b1,b3,b4,b5,b6,b7,bb7⟩⟩
theorem pE {fuel:Nat} {cs:List Value} {x:DataW H×List MemPlace} (h:DataW.trod enc Tryz.prog w base spare held fuel 53 cs=some x):∃ a:BallotD,cs=a.cells∧a.Str:=by
 have hl:=fV Tryz.underlying53 (k:=7) ak h
 obtain ⟨n0,y0,h0⟩:=bA (i:=0) (off:=0) (k:=1) (t':=3) Tryz.underlying53 h rfl rfl rfl ak
 obtain ⟨n1,y1,h1⟩:=bA (i:=1) (off:=1) (k:=1) (t':=9) Tryz.underlying53 h rfl rfl rfl ak
 obtain ⟨n2,y2,h2⟩:=bA (i:=2) (off:=2) (k:=1) (t':=3) Tryz.underlying53 h rfl rfl rfl ak
 obtain ⟨n3,y3,h3⟩:=bA (i:=3) (off:=3) (k:=1) (t':=9) Tryz.underlying53 h rfl rfl rfl ak
 obtain ⟨n4,y4,h4⟩:=bA (i:=4) (off:=4) (k:=1) (t':=3) Tryz.underlying53 h rfl rfl rfl ak
 obtain ⟨n5,y5,h5⟩:=bA (i:=5) (off:=5) (k:=2) (t':=44) Tryz.underlying53 h rfl rfl rfl ak
 match cs,hl with
 | [c0,c1,c2,c3,c4,c5,c6],_ =>
  obtain ⟨s0,e0,b0⟩:=bS h0
  obtain ⟨s1,e1,b1⟩:=cg h1
  obtain ⟨s2,e2,b2⟩:=bS h2
  obtain ⟨s3,e3,b3⟩:=cg h3
  obtain ⟨s4,e4,b4⟩:=bS h4
  obtain ⟨s5,t5,e5,b5,bb5⟩:=iw h5
  simp at e0 e1 e2 e3 e4 e5
  exact ⟨⟨s0,s1,s2,s3,s4,s5,t5⟩,by simp [BallotD.cells,e0,e1,e2,e3,e4,e5],⟨b1,b3,b0,b2,b4,b5,bb5⟩⟩
theorem xr {fuel:Nat} {cs:List Value} {x:DataW H×List MemPlace} (h:DataW.trod enc Tryz.prog w base spare held fuel 55 cs=some x):∃ a:DecD,cs=a.cells∧DecD.at_ w a∧a.Str:=by
 have hl:=fV Tryz.underlying55 (k:=12) ak h
 obtain ⟨n0,y0,h0⟩:=bA (i:=0) (off:=0) (k:=1) (t':=3) Tryz.underlying55 h rfl rfl rfl ak
 obtain ⟨n1,y1,h1⟩:=bA (i:=1) (off:=1) (k:=1) (t':=3) Tryz.underlying55 h rfl rfl rfl ak
 obtain ⟨n2,y2,h2⟩:=bA (i:=2) (off:=2) (k:=1) (t':=3) Tryz.underlying55 h rfl rfl rfl ak
 obtain ⟨n3,y3,h3⟩:=bA (i:=3) (off:=3) (k:=1) (t':=9) Tryz.underlying55 h rfl rfl rfl ak
 obtain ⟨n4,y4,h4⟩:=bA (i:=4) (off:=4) (k:=1) (t':=9) Tryz.underlying55 h rfl rfl rfl ak
 obtain ⟨n5,y5,h5⟩:=bA (i:=5) (off:=5) (k:=1) (t':=9) Tryz.underlying55 h rfl rfl rfl ak
 obtain ⟨n6,y6,h6⟩:=bA (i:=6) (off:=6) (k:=1) (t':=39) Tryz.underlying55 h rfl rfl rfl ak
 obtain ⟨n7,y7,h7⟩:=bA (i:=7) (off:=7) (k:=1) (t':=3) Tryz.underlying55 h rfl rfl rfl ak
 obtain ⟨n8,y8,h8⟩:=bA (i:=8) (off:=8) (k:=1) (t':=3) Tryz.underlying55 h rfl rfl rfl ak
 obtain ⟨n9,y9,h9⟩:=bA (i:=9) (off:=9) (k:=1) (t':=3) Tryz.underlying55 h rfl rfl rfl ak
 obtain ⟨n10,y10,h10⟩:=bA (i:=10) (off:=10) (k:=2) (t':=44) Tryz.underlying55 h rfl rfl rfl ak
 match cs,hl with
 | [c0,c1,c2,c3,c4,c5,c6,c7,c8,c9,c10,c11],_ =>
  obtain ⟨s0,e0,b0⟩:=bS h0
  obtain ⟨s1,e1,b1⟩:=bS h1
  obtain ⟨s2,e2,b2⟩:=bS h2
  obtain ⟨s3,e3,b3⟩:=cg h3
  obtain ⟨s4,e4,b4⟩:=cg h4
  obtain ⟨s5,e5,b5⟩:=cg h5
  obtain ⟨s6,l6,e6,r6,b6⟩:=gM h6
  obtain ⟨s7,e7,b7⟩:=bS h7
  obtain ⟨s8,e8,b8⟩:=bS h8
  obtain ⟨s9,e9,b9⟩:=bS h9
  obtain ⟨s10,t10,e10,b10,bb10⟩:=iw h10
  simp at e0 e1 e2 e3 e4 e5 e6 e7 e8 e9 e10
  exact ⟨⟨s0,s1,s2,s3,s4,s5,s6,s7,s8,s9,s10,t10,l6⟩,by simp [DecD.cells,e0,e1,e2,e3,e4,e5,e6,e7,e8,e9,e10],r6,⟨b3,b4,b5,b6,b0,b1,b2,b7,b8,b9,b10,bb10⟩⟩
theorem uN {fuel:Nat} {cs:List Value} {x:DataW H×List MemPlace} (h:DataW.trod enc Tryz.prog w base spare held fuel 57 cs=some x):∃ a:ItemD,cs=a.cells∧ItemD.at_ w a∧a.Str:=by
 have hl:=fV Tryz.underlying57 (k:=49) ak h
 obtain ⟨n0,y0,h0⟩:=bA (i:=0) (off:=0) (k:=1) (t':=3) Tryz.underlying57 h rfl rfl rfl ak
 obtain ⟨n1,y1,h1⟩:=bA (i:=1) (off:=1) (k:=20) (t':=46) Tryz.underlying57 h rfl rfl rfl ak
 obtain ⟨n2,y2,h2⟩:=bA (i:=2) (off:=21) (k:=9) (t':=51) Tryz.underlying57 h rfl rfl rfl ak
 obtain ⟨n3,y3,h3⟩:=bA (i:=3) (off:=30) (k:=7) (t':=53) Tryz.underlying57 h rfl rfl rfl ak
 obtain ⟨n4,y4,h4⟩:=bA (i:=4) (off:=37) (k:=12) (t':=55) Tryz.underlying57 h rfl rfl rfl ak
 obtain ⟨a0,e0,_⟩:=bS h0
 obtain ⟨a1,e1,q1,r1,_,s1⟩:=uO h1
 obtain ⟨a2,e2,s2⟩:=q8 h2
 obtain ⟨a3,e3,s3⟩:=pE h3
 obtain ⟨a4,e4,q4,s4⟩:=xr h4
 refine ⟨⟨a0,a1,a2,a3,a4⟩,?_,⟨q1,q4⟩,⟨s1,r1,s2,s3,s4⟩⟩
 have h5:cs=cs.take 1++((cs.drop 1).take 20++((cs.drop 21).take 9++((cs.drop 30).take 7++(cs.drop 37).take 12))):=by
  have t1:(cs.drop 37).take 12=cs.drop 37:=List.take_of_length_le (by rw [List.length_drop];omega)
  rw [t1,show cs.drop 37=(cs.drop 30).drop 7 from by rw [List.drop_drop],List.take_append_drop,show cs.drop 30=(cs.drop 21).drop 9 from by rw [List.drop_drop],List.take_append_drop,show cs.drop 21=(cs.drop 1).drop 20 from by rw [List.drop_drop],List.take_append_drop,List.take_append_drop]
 rw [List.drop_zero] at e0
 rw [h5,e0,e1,e2,e3,e4]
 simp [ItemD.cells]
theorem q6 {fuel:Nat} {cs:List Value} {x:DataW H×List MemPlace} (h:DataW.trod enc Tryz.prog w base spare held fuel 23 cs=some x):∃ (s:SlV) (l:List ItemD),cs=[s.v]∧Items w s l∧∀ i∈l,i.Str:=by
 haveI:Inhabited ItemD:=⟨ItemD.zero⟩
 obtain ⟨s,l,h1,h2,h3⟩:=fL (α:=ItemD) Tryz.underlying23 (size:=49) ak ItemD.cells (fun a=>ItemD.at_ w a∧a.Str) (fun n cs y hy=>uN hy) h
 exact ⟨s,l,h1,⟨h2,fun a ha=>(h3 a ha).1⟩,fun a ha=>(h3 a ha).2⟩
theorem qZ {fuel:Nat} {cs:List Value} {x:DataW H×List MemPlace} (h:DataW.trod enc Tryz.prog w base spare held fuel 25 cs=some x):∃ (s t:SlV) (l:List Int) (I:List ItemD),cs=[s.v,t.v]∧Ints w s l∧Items w t I∧(∀ n∈l,n<9223372036854775808)∧∀ i∈I,i.Str:=by
 have hl:=fV Tryz.underlying25 (k:=2) ak h
 obtain ⟨n0,y0,h0⟩:=bA (i:=0) (off:=0) (k:=1) (t':=22) Tryz.underlying25 h rfl rfl rfl ak
 obtain ⟨n1,y1,h1⟩:=bA (i:=1) (off:=1) (k:=1) (t':=23) Tryz.underlying25 h rfl rfl rfl ak
 match cs,hl with
 | [c0,c1],_ =>
  obtain ⟨s0,l0,e0,r0,b0⟩:=q7 h0
  obtain ⟨s1,l1,e1,r1,b1⟩:=q6 h1
  simp at e0 e1
  exact ⟨s0,s1,l0,l1,by rw [e0,e1],r0,r1,b0,b1⟩
end
end Go.Proofs.YtcdilibijnboeaaGreatDoor
namespace Go.Proofs.YtcdilibijnboeaaGreatDoor
open Go Go.Proofs Sy
theorem fT (n l h:Int):Pu Tryz.prog 209 #[.int .i64 n,.int .i64 l,.int .i64 h] (fun _=>True) (.bool (withinB n l h)):=by
 refine ay (args:=[_,_,_]) _ Tryz.func209 rfl Tryz.ntmps209 rfl fun av bor w0=>?_
 repeat' (first|apply ab|apply Qu|apply Qv|refine aj ?_|refine ad ?_|refine aD ?_|refine aF ?_|refine cB ?_|refine cZ ?_|refine aK ?_|apply ar|((fail_if_success (refine aZ ?_));refine aR (ht:=?_) (hf:=?_);all_goals (intro hx_;first|have:=aP hx_|have:=aS hx_))|fail)
 (all_goals (apply al;apply aq;rfl;rfl));all_goals (simp only [withinB, *,ZQ,ZO,ZC,ZB,ZE,ZD,ZH,ZG,ZK,ZI,ZP,ZJ,ZN,ZF];done)
theorem iX (e s:Int):Pu Tryz.prog 210 #[.agg #[.int .i64 e,.int .i64 s]] (fun _=>True) (.bool (sigB e s)):=by
 refine ay (args:=[_]) _ Tryz.func210 rfl Tryz.ntmps210 rfl fun av bor w0=>?_
 repeat' (first|apply ab|apply Qu|apply Qv|refine aj ?_|refine ad ?_|refine aA ?_|refine az ?_|refine aD ?_|refine aF ?_|refine aK ?_|refine aN fun _=>?_|apply ar|refine ao (hc:=fT _ _ _) ?_|((fail_if_success (refine aZ ?_));refine aR (ht:=?_) (hf:=?_);all_goals (intro hx_;skip))|fail)
 (all_goals (apply al;apply aq;rfl;rfl));all_goals (simp only [sigB, *,ZQ,ZO,ZC,ZB,ZE,ZD,ZH,ZG,ZK,ZI,ZP,ZJ,ZN,ZF];done)
set_option maxHeartbeats 8000000 in
theorem md (c:ClaimD) (hs:c.Str):Pu Tryz.prog 169 #[c.v] (fun _=>True) (.bool (claimR c)):=by
 refine ay (args:=[_]) _ Tryz.func169 rfl Tryz.ntmps169 rfl fun av bor w0=>?_
 have hid:=fK c.actor hs.actor
 repeat' (first|apply ab|apply Qu|apply Qv|refine aj ?_|refine ad ?_|refine aA ?_|refine az ?_|refine aD ?_|refine aF ?_|refine bR ?_|refine bT ?_|refine aK ?_|refine aN fun _=>?_|apply ar|(refine ao (hc:=hid) (hX:=fun _ _=>trivial) ?_)|refine ao (hc:=fT _ _ _) ?_|refine ao (hc:=iX c.e c.s) ?_|(refine aW (vs:=[.int .i64 c.e,.int .i64 c.s]) (hv:=rfl) ?_)|((fail_if_success (refine aZ ?_));refine aR (ht:=?_) (hf:=?_);all_goals (intro hx_;first|have:=aP hx_|have:=aS hx_|skip))|fail)
 (all_goals (apply al;apply aq;rfl;rfl));all_goals (simp only [claimR,isDigestB, *,ZQ,ZO,ZC,ZB,ZE,ZD,ZH,ZG,ZK,ZI,ZP,ZJ,ZN,ZF];done)
set_option maxHeartbeats 8000000 in
theorem px (b:BallotD) (hs:b.Str):Pu Tryz.prog 170 #[b.v] (fun _=>True) (.bool (ballotR b)):=by
 refine ay (args:=[_]) _ Tryz.func170 rfl Tryz.ntmps170 rfl fun av bor w0=>?_
 have hid:=fK b.actor hs.actor
 repeat' (first|apply ab|apply Qu|apply Qv|refine aj ?_|refine ad ?_|refine aA ?_|refine az ?_|refine aD ?_|refine aF ?_|refine bR ?_|refine bT ?_|refine aK ?_|refine aN fun _=>?_|apply ar|(refine ao (hc:=hid) (hX:=fun _ _=>trivial) ?_)|refine ao (hc:=fT _ _ _) ?_|refine ao (hc:=iX b.e b.s) ?_|(refine aW (vs:=[.int .i64 b.e,.int .i64 b.s]) (hv:=rfl) ?_)|((fail_if_success (refine aZ ?_));refine aR (ht:=?_) (hf:=?_);all_goals (intro hx_;first|have:=aP hx_|have:=aS hx_|skip))|fail)
 (all_goals (apply al;apply aq;rfl;rfl));all_goals (simp only [ballotR,isDigestB, *,ZQ,ZO,ZC,ZB,ZE,ZD,ZH,ZG,ZK,ZI,ZP,ZJ,ZN,ZF];done)
def numsD (d:DecD):Bool:=withinB d.server 0 19&&(withinB d.number 0 1073741824&&(withinB d.kind 0 9&&(withinB d.from_ 0 1099511627776&&(withinB d.until_ 0 1099511627776&&decide (d.from_<d.until_)))))
def decF (d:DecD):Bool:=bif !numsD d||!sigB d.e d.s then false
 else bif kindO d.kind then seqB d.actor ⟨#[]⟩&&(isDigestB d.object&&(reasonD d&&plainD d))
 else bif decide (d.kind=8) then seqB d.actor ⟨#[]⟩&&(seqB d.object ⟨#[]⟩&&(reasonD d&&(isIds d.toL&&withinB d.n 1 (d.to.n:Nat))))
 else bif decide (d.kind=9) then seqB d.actor ⟨#[]⟩&&(seqB d.object ⟨#[]⟩&&(decide ((d.text.size:Int)≤4096)&&plainD d))
 else isId d.actor&&(seqB d.object ⟨#[]⟩&&(reasonD d&&plainD d))
theorem xP {k:Int} (h:withinB k 0 9=true) (h1:kindO k=false) (h2:decide (k=8)=false) (h3:decide (k=9)=false):kindA k=true:=by
 simp only [withinB,kindO,kindA,ZM,Bool.or_eq_true,Bool.or_eq_false_iff,ZT,decide_eq_false_iff_not] at *
 omega
theorem Ag {k:Int} (h1:kindO k=true):withinB k 0 9=true∧kindA k=false:=by
 simp only [withinB,kindO,kindA,ZM,Bool.or_eq_true,Bool.or_eq_false_iff,ZT,decide_eq_false_iff_not] at *
 omega
theorem Ai {k:Int} (h1:kindA k=true):withinB k 0 9=true∧kindO k=false∧decide (k=8)=false∧decide (k=9)=false:=by
 simp only [withinB,kindO,kindA,ZM,Bool.or_eq_true,Bool.or_eq_false_iff,ZT,decide_eq_false_iff_not] at *
 omega
theorem AQ (d:DecD):decF d=decR d:=by
 rw [decF,decR,numsD,termsB]
 cases hA:kindA d.kind with
 | true =>
  obtain ⟨h1,h2,h3,h4⟩:=Ai hA
  rw [h1,h2,h3,h4]
  generalize withinB d.server 0 19=b1
  generalize withinB d.number 0 1073741824=b2
  generalize withinB d.from_ 0 1099511627776=b3
  generalize withinB d.until_ 0 1099511627776=b4
  generalize decide (d.from_<d.until_)=b5
  generalize sigB d.e d.s=b6
  simp only [ZC,ZB]
  generalize (isId d.actor&&(seqB d.object ⟨#[]⟩&&(reasonD d&&plainD d)))=b7
  cases b1<;>cases b2<;>cases b3<;>cases b4<;>cases b5<;>cases b6<;>cases b7<;>rfl
 | false =>
  cases hO:kindO d.kind with
  | true =>
   rw [(Ag hO).1]
   generalize withinB d.server 0 19=b1
   generalize withinB d.number 0 1073741824=b2
   generalize withinB d.from_ 0 1099511627776=b3
   generalize withinB d.until_ 0 1099511627776=b4
   generalize decide (d.from_<d.until_)=b5
   generalize sigB d.e d.s=b6
   simp only [ZC,ZB]
   generalize (seqB d.actor ⟨#[]⟩&&(isDigestB d.object&&(reasonD d&&plainD d)))=b7
   cases b1<;>cases b2<;>cases b3<;>cases b4<;>cases b5<;>cases b6<;>cases b7<;>rfl
  | false =>
   cases h8:decide (d.kind=8) with
   | true =>
    have hw:withinB d.kind 0 9=true:=by rw [aP h8];rfl
    rw [hw]
    generalize withinB d.server 0 19=b1
    generalize withinB d.number 0 1073741824=b2
    generalize withinB d.from_ 0 1099511627776=b3
    generalize withinB d.until_ 0 1099511627776=b4
    generalize decide (d.from_<d.until_)=b5
    generalize sigB d.e d.s=b6
    simp only [ZC,ZB]
    generalize (seqB d.actor ⟨#[]⟩&&(seqB d.object ⟨#[]⟩&&(reasonD d&&(isIds d.toL&&withinB d.n 1 (d.to.n:Nat)))))=b7
    cases b1<;>cases b2<;>cases b3<;>cases b4<;>cases b5<;>cases b6<;>cases b7<;>rfl
   | false =>
    cases h9:decide (d.kind=9) with
    | true =>
     have hw:withinB d.kind 0 9=true:=by rw [aP h9];rfl
     rw [hw]
     generalize withinB d.server 0 19=b1
     generalize withinB d.number 0 1073741824=b2
     generalize withinB d.from_ 0 1099511627776=b3
     generalize withinB d.until_ 0 1099511627776=b4
     generalize decide (d.from_<d.until_)=b5
     generalize sigB d.e d.s=b6
     simp only [ZC,ZB]
     generalize (seqB d.actor ⟨#[]⟩&&(seqB d.object ⟨#[]⟩&&(decide ((d.text.size:Int)≤4096)&&plainD d)))=b7
     cases b1<;>cases b2<;>cases b3<;>cases b4<;>cases b5<;>cases b6<;>cases b7<;>rfl
    | false =>
     cases hw:withinB d.kind 0 9 with
     | true=>rw [xP hw hO h8 h9] at hA;cases hA
     | false=>simp
set_option maxHeartbeats 16000000 in
theorem mc (d:DecD) (hs:d.Str):Pu Tryz.prog 171 #[d.v] (fun w=>d.at_ w) (.bool (decR d)):=by
 refine ay (args:=[_]) _ Tryz.func171 rfl Tryz.ntmps171 rfl fun av bor w0=>?_
 rw [←AQ]
 have hid:=fK d.actor hs.actor
 have hids:=ja d.to d.toL hs.to
 repeat' (first|apply ab|apply Qu|apply Qv|refine aj ?_|refine ad ?_|refine aA ?_|refine az ?_|refine aD ?_|refine aF ?_|refine bN ?_|refine bR ?_|refine bj ?_|refine cB ?_|refine cC ?_|refine bT ?_|refine aY ?_|refine aK ?_|refine cb ?_|refine aN fun _=>?_|refine Qy ?_|apply Qx|apply Qw|apply ar|(refine ao (hc:=hid) (hX:=fun _ _=>trivial) ?_)|(refine ao (hc:=hids) (hX:=fun w h=>h) ?_)|refine ao (hc:=fT _ _ _) ?_|refine ao (hc:=iX d.e d.s) ?_|(refine aW (vs:=[.int .i64 d.e,.int .i64 d.s]) (hv:=rfl) ?_)|((fail_if_success (refine aZ ?_));refine aR (ht:=?_) (hf:=?_);all_goals (intro hx_;first|have:=aP hx_|have:=aS hx_|skip))|(refine aG (ht:=?_) (hf:=?_);all_goals (intro hx_;first|have:=aP hx_|have:=aS hx_|skip)))
 all_goals (apply al;apply aq;rfl;rfl)
 all_goals first
  | rfl
  | (simp_all [decF,numsD,plainD,reasonD,kindO,isDigestB];done)
  | (simp_all [decF,numsD,plainD,reasonD,kindO,isDigestB];intros;omega)
theorem dk (x:ByteArray) (l:List ByteArray):textsV (x::l)=textV x++textsV l:=rfl
theorem dG:textsV []=ByteArray.empty:=rfl
theorem dX (x:Int) (l:List Int):numsV (x::l)=numV x++numsV l:=rfl
theorem eu:numsV []=ByteArray.empty:=rfl
structure ClaimD.Sm (c:ClaimD):Prop where
 actor:c.actor.size≤1000000
 prev:c.prev.size≤1000000
structure BallotD.Sm (c:BallotD):Prop where
 actor:c.actor.size≤1000000
 claim:c.claim.size≤1000000
structure DecD.Sm (c:DecD):Prop where
 actor:c.actor.size≤1000000
 object:c.object.size≤1000000
 text:c.text.size≤1000000
 to:(listV c.toL).size≤1000000
theorem nK (c:ClaimD) (hl:c.Lt) (hs:c.Sm):Pu Tryz.prog 180 #[c.v] (fun _=>True) (.string (coreCl c)):=by
 refine ay (args:=[_]) _ Tryz.func180 rfl Tryz.ntmps180 rfl fun av bor w0=>?_
 have h1:=hs.actor
 have h2:=hs.prev
 have s1:=aX c.actor
 have s2:=aX c.prev
 have n1:=aO c.base
 have n2:=aO c.gen
 have n3:=aO c.home
 have n4:=aO c.pub
 have n5:=aO c.time
 obtain ⟨i1,i2,i3,i4,i5,_,_⟩:=hl
 repeat' (first|apply ab|apply Qu|apply Qv|refine ad ?_|refine aN fun _=>?_|fail)
 (apply bH;kernel_rfl)
 all_goals refine aa 0 ?_<;>refine aa 1 ?_<;>refine aa 3 ?_<;>refine aa 4 ?_<;>refine aa 7 ?_<;>refine aa 8 ?_<;>refine aa 11 ?_<;>refine aa 12 ?_<;>refine aa 15 ?_<;>refine aa 16 ?_<;>refine aa 19 ?_<;>refine aa 20 ?_<;>refine aa 23 ?_<;>refine aa 24 ?_<;>(refine ag 2 ?_;(refine ao (hc:=bV _ ae) ?_);apply ab;refine ai ?_)<;>(refine ag 5 ?_;(refine ao (hc:=bz _ ae) ?_);apply ab;refine ai ?_)<;>(refine aa 6 (hy:=by (apply bD;rfl;rfl;(try simp only [Zl]);omega)) ?_)<;>(refine ag 9 ?_;(refine ao (hc:=bV _ ae) ?_);apply ab;refine ai ?_)<;>(refine aa 10 (hy:=by (apply bD;rfl;rfl;(try simp only [Zl]);omega)) ?_)<;>(refine ag 13 ?_;(refine ao (hc:=bz _ ae) ?_);apply ab;refine ai ?_)<;>(refine aa 14 (hy:=by (apply bD;rfl;rfl;(try simp only [Zl]);omega)) ?_)<;>(refine ag 17 ?_;(refine ao (hc:=bz _ ae) ?_);apply ab;refine ai ?_)<;>(refine aa 18 (hy:=by (apply bD;rfl;rfl;(try simp only [Zl]);omega)) ?_)<;>(refine ag 21 ?_;(refine ao (hc:=bz _ ae) ?_);apply ab;refine ai ?_)<;>(refine aa 22 (hy:=by (apply bD;rfl;rfl;(try simp only [Zl]);omega)) ?_)<;>(refine ag 25 ?_;(refine ao (hc:=bz _ ae) ?_);apply ab;refine ai ?_)<;>(refine aa 26 (hy:=by (apply bD;rfl;rfl;(try simp only [Zl]);omega)) ?_)<;>refine aa 27 ?_<;>(refine ax ?_)
 all_goals
  repeat' (first|apply ar|fail)
  refine al (aq rfl rfl) ?_
  simp only [coreCl,dk,dG,dX,eu,ByteArray.append_empty,ZV]
theorem iu (c:BallotD) (hl:c.Lt) (hs:c.Sm):Pu Tryz.prog 176 #[c.v] (fun _=>True) (.string (coreBa c)):=by
 refine ay (args:=[_]) _ Tryz.func176 rfl Tryz.ntmps176 rfl fun av bor w0=>?_
 have h1:=hs.actor
 have h2:=hs.claim
 have s1:=aX c.actor
 have s2:=aX c.claim
 have n1:=aO c.server
 have n2:=aO c.gen
 have n3:=aO c.time
 obtain ⟨i1,i2,i3,_,_⟩:=hl
 repeat' (first|apply ab|apply Qu|apply Qv|refine ad ?_|refine aN fun _=>?_|fail)
 (apply bH;kernel_rfl)
 all_goals refine aa 0 ?_<;>refine aa 1 ?_<;>refine aa 3 ?_<;>refine aa 4 ?_<;>refine aa 7 ?_<;>refine aa 8 ?_<;>refine aa 11 ?_<;>refine aa 12 ?_<;>refine aa 15 ?_<;>refine aa 16 ?_<;>(refine ag 2 ?_;(refine ao (hc:=bz _ ae) ?_);apply ab;refine ai ?_)<;>(refine ag 5 ?_;(refine ao (hc:=bV _ ae) ?_);apply ab;refine ai ?_)<;>(refine aa 6 (hy:=by (apply bD;rfl;rfl;(try simp only [Zl]);omega)) ?_)<;>(refine ag 9 ?_;(refine ao (hc:=bz _ ae) ?_);apply ab;refine ai ?_)<;>(refine aa 10 (hy:=by (apply bD;rfl;rfl;(try simp only [Zl]);omega)) ?_)<;>(refine ag 13 ?_;(refine ao (hc:=bV _ ae) ?_);apply ab;refine ai ?_)<;>(refine aa 14 (hy:=by (apply bD;rfl;rfl;(try simp only [Zl]);omega)) ?_)<;>(refine ag 17 ?_;(refine ao (hc:=bz _ ae) ?_);apply ab;refine ai ?_)<;>(refine aa 18 (hy:=by (apply bD;rfl;rfl;(try simp only [Zl]);omega)) ?_)<;>refine aa 19 ?_<;>(refine ax ?_)
 all_goals
  repeat' (first|apply ar|fail)
  refine al (aq rfl rfl) ?_
  simp only [coreBa,dk,dG,dX,eu,ByteArray.append_empty,ZV]
theorem ir (c:DecD) (hl:c.Lt) (hs:c.Sm):Pu Tryz.prog 177 #[c.v] (fun w=>c.at_ w) (.string (coreDe c)):=by
 refine ay (args:=[_]) _ Tryz.func177 rfl Tryz.ntmps177 rfl fun av bor w0=>?_
 have h1:=hs.actor
 have h2:=hs.object
 have h3:=hs.text
 have h4:=hs.to
 have s1:=aX c.actor
 have s2:=aX c.object
 have s3:=aX c.text
 have n1:=aO c.server
 have n2:=aO c.number
 have n3:=aO c.kind
 have n4:=aO c.n
 have n5:=aO c.from_
 have n6:=aO c.until_
 have hli:=lj c.to c.toL ae
 obtain ⟨i1,i2,i3,i4,i5,i6,_,_⟩:=hl
 repeat' (first|apply ab|apply Qu|apply Qv|refine ad ?_|refine aN fun _=>?_|fail)
 (apply bH;kernel_rfl)
 all_goals refine aa 0 ?_<;>refine aa 1 ?_<;>refine aa 3 ?_<;>refine aa 4 ?_<;>refine aa 7 ?_<;>refine aa 8 ?_<;>refine aa 11 ?_<;>refine aa 12 ?_<;>refine aa 15 ?_<;>refine aa 16 ?_<;>refine aa 19 ?_<;>refine aa 20 ?_<;>(refine ag 2 ?_;(refine ao (hc:=bz _ ae) ?_);apply ab;refine ai ?_)<;>(refine ag 5 ?_;(refine ao (hc:=bz _ ae) ?_);apply ab;refine ai ?_)<;>(refine aa 6 (hy:=by (apply bD;rfl;rfl;(try simp only [Zl]);omega)) ?_)<;>(refine ag 9 ?_;(refine ao (hc:=bz _ ae) ?_);apply ab;refine ai ?_)<;>(refine aa 10 (hy:=by (apply bD;rfl;rfl;(try simp only [Zl]);omega)) ?_)<;>(refine ag 13 ?_;(refine ao (hc:=bV _ ae) ?_);apply ab;refine ai ?_)<;>(refine aa 14 (hy:=by (apply bD;rfl;rfl;(try simp only [Zl]);omega)) ?_)<;>(refine ag 17 ?_;(refine ao (hc:=bV _ ae) ?_);apply ab;refine ai ?_)<;>(refine aa 18 (hy:=by (apply bD;rfl;rfl;(try simp only [Zl]);omega)) ?_)<;>(refine ag 21 ?_;(refine ao (hc:=bV _ ae) ?_);apply ab;refine ai ?_)<;>(refine aa 22 (hy:=by (apply bD;rfl;rfl;(try simp only [Zl]);omega)) ?_)<;>refine aa 23 ?_<;>(refine ax ?_)
 all_goals
  repeat' (first|apply Qu|fail)
  (apply bH;kernel_rfl)
  all_goals refine aa 0 ?_<;>refine aa 1 ?_<;>refine aa 2 ?_<;>refine aa 5 ?_<;>refine aa 6 ?_<;>refine aa 9 ?_<;>refine aa 10 ?_<;>refine aa 13 ?_<;>refine aa 14 ?_<;>(refine ag 3 ?_;(refine ao (hc:=hli) (hX:=fun w h=>h) ?_);apply ab;refine ai ?_)<;>(refine aa 4 (hy:=by (apply bD;rfl;rfl;(try simp only [Zl]);omega)) ?_)<;>(refine ag 7 ?_;(refine ao (hc:=bz _ ae) ?_);apply ab;refine ai ?_)<;>(refine aa 8 (hy:=by (apply bD;rfl;rfl;(try simp only [Zl]);omega)) ?_)<;>(refine ag 11 ?_;(refine ao (hc:=bz _ ae) ?_);apply ab;refine ai ?_)<;>(refine aa 12 (hy:=by (apply bD;rfl;rfl;(try simp only [Zl]);omega)) ?_)<;>(refine ag 15 ?_;(refine ao (hc:=bz _ ae) ?_);apply ab;refine ai ?_)<;>(refine aa 16 (hy:=by (apply bD;rfl;rfl;(try simp only [Zl]);omega)) ?_)<;>refine aa 17 ?_<;>(refine ax ?_)
  all_goals
   repeat' (first|apply ar|fail)
   refine al (aq rfl rfl) ?_
   simp only [coreDe,dk,dG,dX,eu,ByteArray.append_empty,ZV]
theorem gR (e s:Int) (he:e<9223372036854775808) (hs:s<9223372036854775808):Pu Tryz.prog 181 #[.agg #[.int .i64 e,.int .i64 s]] (fun _=>True) (.string (numsV [e,s])):=by
 refine ay (args:=[_]) _ Tryz.func181 rfl Tryz.ntmps181 rfl fun av bor w0=>?_
 have n1:=aO e
 have n2:=aO s
 repeat' (first|apply ab|apply Qu|apply Qv|refine ad ?_|refine aN fun _=>?_|fail)
 (apply bH;kernel_rfl)
 all_goals refine aa 0 ?_<;>refine aa 1 ?_<;>refine aa 3 ?_<;>refine aa 4 ?_<;>(refine ag 2 ?_;(refine ao (hc:=bz _ ae) ?_);apply ab;refine ai ?_)<;>(refine ag 5 ?_;(refine ao (hc:=bz _ ae) ?_);apply ab;refine ai ?_)<;>(refine aa 6 (hy:=by (apply bD;rfl;rfl;(try simp only [Zl]);omega)) ?_)<;>refine aa 7 ?_<;>(refine ax ?_)
 all_goals
  repeat' (first|apply ar|fail)
  refine al (aq rfl rfl) ?_
  simp only [dX,eu,ByteArray.append_empty]
theorem cH {n l h:Int} (w:withinB n l h=true):l≤n∧n≤h:=by
 simpa only [withinB,ZM,ZT] using w
theorem qE {e s:Int} (w:sigB e s=true):(0≤e∧e≤2305843009213693949)∧0≤s∧s≤2305843009213693949:=by
 rw [sigB,ZM] at w
 exact ⟨cH w.1,cH w.2⟩
theorem gH {s:ByteArray} (h:isId s=true):s.size=16:=by
 rw [isId,ZM,ZT] at h
 exact_mod_cast h.1
theorem gX {s:ByteArray} (h:isDigestB s=true):s.size=32:=by
 rw [isDigestB,ZT] at h
 exact_mod_cast h
theorem dO {s:ByteArray} (h:seqB s ⟨#[]⟩=true):s.size=0:=by
 rw [seqB_iff.1 h];rfl
theorem gJ {c:ClaimD} (h:claimR c=true):c.Lt∧c.Sm:=by
 simp only [claimR,ZM] at h
 obtain ⟨h1,h2,h3,h4,h5,h6,h7,h8⟩:=h
 have e1:=gH h1
 have e2:=cH h2
 have e3:=gX h3
 have e4:=cH h4
 have e5:=cH h5
 have e6:=cH h6
 have e7:=cH h7
 have e8:=qE h8
 exact ⟨⟨by omega,by omega,by omega,by omega,by omega,by omega,by omega⟩,⟨by omega,by omega⟩⟩
theorem gd {c:BallotD} (h:ballotR c=true):c.Lt∧c.Sm:=by
 simp only [ballotR,ZM] at h
 obtain ⟨h2,h1,h4,h3,h7,h8⟩:=h
 have e1:=gH h1
 have e2:=cH h2
 have e3:=gX h3
 have e4:=cH h4
 have e7:=cH h7
 have e8:=qE h8
 exact ⟨⟨by omega,by omega,by omega,by omega,by omega⟩,⟨by omega,by omega⟩⟩
theorem mV {m:Nat}:∀ {l:List ByteArray},(∀ x∈l,x.size≤m)→(cats l).size≤l.length*m
 | [],_=>by simp [cats]
 | a::l,h=>by
  have h1:=h a aI
  have h2:=mV (m:=m) (l:=l) fun x hx=>h x (ZS _ hx)
  rw [cats,Zl,ZY,Nat.add_mul]
  omega
theorem rc {l:List ByteArray} (h:isIds l=true):(listV l).size≤2000:=by
 rw [isIds,ZM,Bool.not_eq_true',decide_eq_false_iff_not] at h
 have hl:l.length≤64:=by omega
 have he:∀ x∈l,x.size=16:=fun x hx=>by
  obtain ⟨k,hk,rfl⟩:=List.getElem_of_mem hx
  have h2:=h.2
  rw [allB,List.all_eq_true] at h2
  have h3:=h2 k (List.mem_range.2 hk)
  rw [Bool.not_eq_true',badIds,Bool.or_eq_false_iff,Bool.not_eq_false'] at h3
  have h4:=h3.1
  rw [ZL,Zm hk,Option.getD_some] at h4
  exact gH h4
 have h1:=aO (l.length:Int)
 have h2:=mV (m:=26) (l:=l.map textV) fun x hx=>by
  obtain ⟨y,hy,rfl⟩:=List.mem_map.1 hx
  have:=aO (y.size:Int)
  rw [textV,Zl,he y hy]
  have:=aO ((16:Nat):Int)
  omega
 rw [Z3] at h2
 rw [listV,Zl]
 omega
theorem uS:(listV []).size≤2000:=by
 have h1:=aO ((0:Nat):Int)
 rw [listV,Zl]
 simp only [List.map_nil,cats,ByteArray.size_empty,Qi]
 omega
theorem gT {d:DecD} (hn:d.to.n=d.toL.length) (h:plainD d=true):(listV d.toL).size≤2000∧d.n=0:=by
 rw [plainD,ZM,ZT,ZT] at h
 have:d.toL=[]:=List.length_eq_zero_iff.1 ae
 rw [this]
 exact ⟨uS,h.2⟩
theorem gp {d:DecD} (h:reasonD d=true):d.text.size≤500:=by
 rw [reasonD,ZT] at h
 omega
theorem qv {d:DecD} (hn:d.to.n=d.toL.length) (h:termsB d=true):d.Sm∧0≤d.n∧d.n≤64∧d.kind<10:=by
 rw [termsB] at h
 cases hA:kindA d.kind with
 | true =>
  rw [hA,ZC] at h
  simp only [ZM] at h
  have e1:=gH h.1
  have e2:=dO h.2.1
  have e3:=gp h.2.2.1
  have e4:=gT hn h.2.2.2
  simp only [kindA,Bool.or_eq_true,ZT] at hA
  exact ⟨⟨by omega,by omega,by omega,by omega⟩,by omega,by omega,by omega⟩
 | false =>
  rw [hA,ZB] at h
  cases hO:kindO d.kind with
  | true =>
   rw [hO,ZC] at h
   simp only [ZM] at h
   have e1:=dO h.1
   have e2:=gX h.2.1
   have e3:=gp h.2.2.1
   have e4:=gT hn h.2.2.2
   simp only [kindO,Bool.or_eq_true,ZT] at hO
   exact ⟨⟨by omega,by omega,by omega,by omega⟩,by omega,by omega,by omega⟩
  | false =>
   rw [hO,ZB] at h
   cases h8:decide (d.kind=8) with
   | true =>
    rw [h8,ZC] at h
    simp only [ZM] at h
    have e1:=dO h.1
    have e2:=dO h.2.1
    have e3:=gp h.2.2.1
    have e4:=rc h.2.2.2.1
    have e5:=cH h.2.2.2.2
    have e6:=aP h8
    have e7:d.toL.length≤64:=by
     have:=h.2.2.2.1
     rw [isIds,ZM,Bool.not_eq_true',decide_eq_false_iff_not] at this
     omega
    exact ⟨⟨by omega,by omega,by omega,by omega⟩,by omega,by omega,by omega⟩
   | false =>
    rw [h8,ZB] at h
    cases h9:decide (d.kind=9) with
    | true =>
     rw [h9,ZC] at h
     simp only [ZM] at h
     have e1:=dO h.1
     have e2:=dO h.2.1
     have e3:=aP h.2.2.1
     have e4:=gT hn h.2.2.2
     have e6:=aP h9
     exact ⟨⟨by omega,by omega,by omega,by omega⟩,by omega,by omega,by omega⟩
    | false=>rw [h9] at h;cases h
theorem j1 {d:DecD} (hn:d.to.n=d.toL.length) (h:decR d=true):d.Lt∧d.Sm:=by
 simp only [decR,ZM] at h
 obtain ⟨h1,h2,h3,h4,h5,h6,h7⟩:=h
 have e1:=cH h1
 have e2:=cH h2
 have e3:=cH h3
 have e4:=cH h4
 obtain ⟨e6,e7,e8,e9⟩:=qv hn h6
 have e10:=qE h7
 exact ⟨⟨by omega,by omega,by omega,by omega,by omega,by omega,by omega,by omega⟩,e6⟩
theorem ft {c:ClaimD} (hs:c.Sm):(coreCl c).size≤3000000:=by
 have h1:=hs.actor
 have h2:=hs.prev
 have s1:=aX c.actor
 have s2:=aX c.prev
 have n1:=aO c.base
 have n2:=aO c.gen
 have n3:=aO c.home
 have n4:=aO c.pub
 have n5:=aO c.time
 simp only [coreCl,dk,dG,dX,eu,ByteArray.append_empty,Zl]
 omega
theorem eL {c:BallotD} (hs:c.Sm):(coreBa c).size≤3000000:=by
 have h1:=hs.actor
 have h2:=hs.claim
 have s1:=aX c.actor
 have s2:=aX c.claim
 have n1:=aO c.server
 have n2:=aO c.gen
 have n3:=aO c.time
 simp only [coreBa,dk,dG,dX,eu,ByteArray.append_empty,Zl]
 omega
theorem eK {c:DecD} (hs:c.Sm):(coreDe c).size≤5000000:=by
 have h1:=hs.actor
 have h2:=hs.object
 have h3:=hs.text
 have h4:=hs.to
 have s1:=aX c.actor
 have s2:=aX c.object
 have s3:=aX c.text
 have n1:=aO c.server
 have n2:=aO c.number
 have n3:=aO c.kind
 have n4:=aO c.n
 have n5:=aO c.from_
 have n6:=aO c.until_
 simp only [coreDe,dk,dG,dX,eu,ByteArray.append_empty,Zl]
 omega
theorem ls {nm p:ByteArray} (h:nm.size≤20) (hp:p.size≤5000000):(textsV [nm]++p).size≤6000000:=by
 have s1:=aX nm
 simp only [dk,dG,ByteArray.append_empty,Zl]
 omega
theorem dL (e s:Int):(numsV [e,s]).size≤20:=by
 have n1:=aO e
 have n2:=aO s
 simp only [dX,eu,ByteArray.append_empty,Zl]
 omega
def bodyIt (i:ItemD):ByteArray:=bif decide (i.kind=0) then actBytes i.act else bif decide (i.kind=1) then coreCl i.claim++numsV [i.claim.e,i.claim.s] else bif decide (i.kind=2) then coreBa i.ballot++numsV [i.ballot.e,i.ballot.s] else coreDe i.dec++numsV [i.dec.e,i.dec.s]
def bytesIt (i:ItemD):ByteArray:=bif rightIt i then numV i.kind++bodyIt i else ⟨#[]⟩
def digIt (i:ItemD):ByteArray:=bif seqB (bytesIt i) ⟨#[]⟩ then ⟨#[]⟩ else shaV (bytesIt i)
theorem d4 {i:ItemD} (h:rightIt i=true):i.kind=0∧rightB i.act=true∨i.kind=1∧claimR i.claim=true∨i.kind=2∧ballotR i.ballot=true∨i.kind=3∧decR i.dec=true:=by
 rw [rightIt,ZM] at h
 have h:=h.1
 rw [rightK2] at h
 by_cases h0:i.kind=0
 · rw [ZA h0] at h;exact .inl ⟨h0,h⟩
 by_cases h1:i.kind=1
 · rw [Zn h0,ZA h1] at h;exact .inr (.inl ⟨h1,h⟩)
 by_cases h2:i.kind=2
 · rw [Zn h0,Zn h1,ZA h2] at h;exact .inr (.inr (.inl ⟨h2,h⟩))
 by_cases h3:i.kind=3
 · rw [Zn h0,Zn h1,Zn h2,ZA h3] at h;exact .inr (.inr (.inr ⟨h3,h⟩))
 rw [Zn h0,Zn h1,Zn h2,Zn h3] at h
 cases h
theorem jw {i:ItemD} (h:i.kind=0) (hr:rightIt i=true):rightB i.act=true:=by
 rcases d4 hr with h1|h1|h1|h1
 · exact h1.2
 all_goals (rw [h] at h1;exact absurd h1.1 (by decide))
theorem gB {i:ItemD} (hr:i.act.Rng) (hn:i.dec.to.n=i.dec.toL.length) (h:rightIt i=true):(bodyIt i).size≤300000000025:=by
 rw [bodyIt]
 rcases d4 h with ⟨h0,h1⟩|⟨h0,h1⟩|⟨h0,h1⟩|⟨h0,h1⟩
 · have:=fA hr
   rw [h0]
   show (actBytes i.act).size≤_
   omega
 · have:=ft (gJ h1).2
   have:=dL i.claim.e i.claim.s
   rw [h0]
   show (coreCl i.claim++numsV [i.claim.e,i.claim.s]).size≤_
   rw [Zl]
   omega
 · have:=eL (gd h1).2
   have:=dL i.ballot.e i.ballot.s
   rw [h0]
   show (coreBa i.ballot++numsV [i.ballot.e,i.ballot.s]).size≤_
   rw [Zl]
   omega
 · have:=eK (j1 hn h1).2
   have:=dL i.dec.e i.dec.s
   rw [h0]
   show (coreDe i.dec++numsV [i.dec.e,i.dec.s]).size≤_
   rw [Zl]
   omega
theorem iF {i:ItemD} (hr:i.act.Rng) (hn:i.dec.to.n=i.dec.toL.length):(bytesIt i).size≤300000000040:=by
 rw [bytesIt]
 cases h:rightIt i with
 | false=>rw [ZB];simp [ByteArray.size]
 | true =>
  have:=gB hr hn h
  have:=aO i.kind
  rw [ZC,Zl]
  omega
set_option maxRecDepth 20000 in
set_option maxHeartbeats 16000000 in
theorem me (i:ItemD) (hr:i.act.Rng) (hdn:i.dec.to.n=i.dec.toL.length):Pu Tryz.prog 38 #[i.v] (fun w=>i.at_ w) (.string (bytesIt i)):=by
 have hri:=gN i
 have hbs:=@gB i hr hdn
 rw [bytesIt]
 cases hrB:rightIt i with
 | false =>
  rw [hrB] at hri
  refine ay (args:=[_]) _ Tryz.func38 rfl Tryz.ntmps38 rfl fun av bor w0=>?_
  repeat' (first|apply ab|apply Qu|apply Qv|refine ad ?_|refine aH ?_|refine bN ?_|refine aN fun _=>?_|refine Qy ?_|apply ar|(refine ao (hc:=hri) (hX:=fun w h=>h) ?_)|fail)
  all_goals exact al (aq rfl rfl) rfl
 | true =>
 rw [hrB] at hri
 have hk:=d4 hrB
 replace hbs:=hbs hrB
 have hkl:i.kind<9223372036854775808:=by rcases hk with h|h|h|h<;>omega
 refine ay (args:=[_]) _ Tryz.func38 rfl Tryz.ntmps38 rfl fun av bor w0=>?_
 repeat' (first|apply ab|apply Qu|apply Qv|refine ad ?_|refine aA ?_|refine az ?_|refine aH ?_|refine bN ?_|refine aM fun _=>?_|refine aN fun _=>?_|refine bU fun _=>?_|refine Qz ?_|apply Qx|(refine ao (hc:=hri) (hX:=fun w h=>h) ?_)|fail)
 rename_i bi bb bs
 have hS:(⟨#[]⟩:ByteArray)++numsV [i.kind]=numV i.kind:=by
  show ByteArray.empty++(numV i.kind++ByteArray.empty)=numV i.kind
  rw [ByteArray.append_empty,ByteArray.empty_append]
 have hnk:=aO i.kind
 have hns:(⟨#[]⟩:ByteArray).size+(numsV [i.kind]).size≤1099511627776:=by
  rw [←Zl,hS]
  omega
 refine cq ?_
 refine iR 5 1 ?_
 refine dB (l:=bld bb none 0 ⟨#[]⟩++[cel bi 57 i.cells]) (List.Perm.swap _ _ _) ?_
 refine cG (pre:=bld bb none 0 ⟨#[]⟩) (fr:=[cel bi 57 i.cells]) (hc:=ef bb none 0 ⟨#[]⟩ ⟨some ⟨bs,0,none⟩,1,1⟩ [i.kind] (by simpa using hkl) hns) (hX:=fun w h=>bQ (xs:=[[.int .i64 i.kind]]) h.2 rfl (by decide) (by simp)) (h:=?_)
 rintro v R X' ⟨A1,c1,rfl,rfl⟩
 refine cS (X':=fun w=>i.at_ w) (fun w h=>h.1.1) ?_
 rw [hS]
 generalize hs1:numV i.kind=s1 at *
 rw [bodyIt] at hbs ⊢
 rcases hk with ⟨h0,h1⟩|⟨h0,h1⟩|⟨h0,h1⟩|⟨h0,h1⟩
 · rw [ZA h0,ZC] at hbs ⊢
   have hab:=jO i.act (d6 hr) ⟨hr.ints.2.2.2.2.2.2.2.1,hr.ints.2.2.2.2.2.2.2.2⟩
   generalize actBytes i.act=body at *
   unfold bld
   repeat' (first|refine bm (hab:=h0) ?_|apply ab|apply Qu|apply Qv|refine aA ?_|refine az ?_|refine Qy ?_|fail)
   simp only [Qa,Qb]
   (refine aU [cel bi 57 i.cells] (fun w=>i.at_ w) ak ?_)
   all_goals refine aa 0 ?_<;>refine aa 2 ?_<;>(refine aa 3 (hy:=by (apply cF (vs:=i.act.cells);rfl;exact .head _;rfl;rfl)) ?_)<;>(refine bx 1 4 (h:=?_) (h':=?_);(focus (((refine az ?_);apply ab;refine ai ?_);all_goals ((refine ag 4 ?_;(refine ao (hc:=hab) (hX:=fun w h=>h.1) ?_);apply ab;refine ai ?_);all_goals (refine ag 5 ?_;(refine aV (size:=1) (z:=.int .u8 0) rfl rfl rfl rfl (fun _=>At.there _ (At.here _)) (fun w G=>ea ae) ae (by simp only [maxLen];omega) rfl ?_ rfl ?_;(with_reducible rfl);intro A2 c2);apply ab;refine ai ?_);all_goals (refine aa 6 ?_);all_goals (refine ag 7 ?_;(refine bc ?_);apply ab;refine ai ?_);all_goals (refine ax ?_))));rotate_right;(focus (((refine ao (hc:=hab) (hX:=fun w h=>h.1) ?_);apply ab;refine ai ?_);all_goals ((refine ag 1 ?_;(refine az ?_);apply ab;refine ai ?_);all_goals (refine ag 5 ?_;(refine aV (size:=1) (z:=.int .u8 0) rfl rfl rfl rfl (fun _=>At.there _ (At.here _)) (fun w G=>ea ae) ae (by simp only [maxLen];omega) rfl ?_ rfl ?_;(with_reducible rfl);intro A2 c2);apply ab;refine ai ?_);all_goals (refine aa 6 ?_);all_goals (refine ag 7 ?_;(refine bc ?_);apply ab;refine ai ?_);all_goals (refine ax ?_)))))
   all_goals
    repeat' (first|apply Qu|apply Qv|refine aA ?_|refine az ?_|fail)
    rw [←cr,←dP]
    refine eN (hm:=ZS _ aI) ?_
    repeat' (first|apply ab|refine ad ?_|apply ar|fail)
    apply al;apply aq;rfl;rfl
    simp only [cX,ZC]
 · rw [Zn (show ¬ i.kind=0 by omega),ZB,ZA h0,ZC] at hbs ⊢
   obtain ⟨hl,hsm⟩:=gJ h1
   have hfo:=lF i h0
   have hcs:=ft hsm
   have hn2:=dL i.claim.e i.claim.s
   have hc1:=fun (A:Option Addr) (c:Nat)=>mU bb A c s1 i hl ae
   have hc2:=fun (A:Option Addr) (c:Nat) (p:ByteArray) (hp:p.size≤6000000) (sl:SlV)=>ef bb A c p sl [i.claim.e,i.claim.s] (by simp;exact ⟨hl.e,hl.s⟩) ae
   generalize coreCl i.claim=core at *
   generalize numsV [i.claim.e,i.claim.s]=sg at *
   unfold bld
   repeat' (first|refine bt (hab:=by omega) ?_|apply ab|apply Qu|apply Qv|refine aA ?_|refine az ?_|refine aH ?_|refine aM fun _=>?_|refine aJ ?_|refine Qz ?_|(refine ao (hc:=hfo) (hX:=fun _ _=>trivial) ?_)|fail)
   rename_i bf
   refine dB (l:=bld bb A1 c1 s1++[cel bf 125 (formCells nameC 110 i.claim.e i.claim.s),cel bi 57 i.cells]) (show List.Perm ([_]++[_,_]++[_]) ([_,_]++[_]++[_]) from List.perm_append_comm.append_right _) ?_
   refine cG (pre:=bld bb A1 c1 s1) (fr:=[cel bf 125 (formCells nameC 110 i.claim.e i.claim.s),cel bi 57 i.cells]) (hc:=hc1 A1 c1) (hX:=fun _ _=>trivial) (h:=?_)
   rintro v R X' ⟨A2,c2,rfl,rfl⟩
   refine cS (X':=fun w=>i.at_ w) (fun w h=>h.1) ?_
   unfold bld
   repeat' (first|apply ab|apply Qv|refine aA ?_|refine az ?_|refine bU fun _=>?_|fail)
   rename_i bs2
   refine cq ?_
   refine cG (pre:=bld bb A2 c2 (s1++core)) (fr:=[cel bf 125 (formCells nameC 110 i.claim.e i.claim.s),cel bi 57 i.cells]) (hc:=hc2 A2 c2 (s1++core) (by rw [Zl];omega) ⟨some ⟨bs2,0,none⟩,2,2⟩) (hX:=fun w h=>bQ (xs:=[[.int .i64 i.claim.e],[.int .i64 i.claim.s]]) h.2 rfl (by decide) (by simp)) (h:=?_)
   rintro v R X' ⟨A3,c3,rfl,rfl⟩
   unfold bld
   repeat' (first|apply ab|apply Qu|apply Qv|refine aA ?_|refine az ?_|fail)
   refine eN (hm:=ZS _ aI) ?_
   repeat' (first|apply ab|refine ad ?_|apply ar|fail)
   all_goals
    apply al;apply aq;rfl;rfl
    simp only [cX,ZC,ZV]
 · rw [Zn (show ¬ i.kind=0 by omega),ZB,Zn (show ¬ i.kind=1 by omega),ZB,ZA h0,ZC] at hbs ⊢
   obtain ⟨hl,hsm⟩:=gd h1
   have hfo:=yb i h0
   have hcs:=eL hsm
   have hn2:=dL i.ballot.e i.ballot.s
   have hc1:=fun (A:Option Addr) (c:Nat)=>rA bb A c s1 i hl ae
   have hc2:=fun (A:Option Addr) (c:Nat) (p:ByteArray) (hp:p.size≤6000000) (sl:SlV)=>ef bb A c p sl [i.ballot.e,i.ballot.s] (by simp;exact ⟨hl.e,hl.s⟩) ae
   generalize coreBa i.ballot=core at *
   generalize numsV [i.ballot.e,i.ballot.s]=sg at *
   unfold bld
   repeat' (first|refine bt (hab:=by omega) ?_|apply ab|apply Qu|apply Qv|refine aA ?_|refine az ?_|refine aH ?_|refine aM fun _=>?_|refine aJ ?_|refine Qz ?_|(refine ao (hc:=hfo) (hX:=fun _ _=>trivial) ?_)|fail)
   rename_i bf
   refine dB (l:=bld bb A1 c1 s1++[cel bf 125 (formCells nameB 111 i.ballot.e i.ballot.s),cel bi 57 i.cells]) (show List.Perm ([_]++[_,_]++[_]) ([_,_]++[_]++[_]) from List.perm_append_comm.append_right _) ?_
   refine cG (pre:=bld bb A1 c1 s1) (fr:=[cel bf 125 (formCells nameB 111 i.ballot.e i.ballot.s),cel bi 57 i.cells]) (hc:=hc1 A1 c1) (hX:=fun _ _=>trivial) (h:=?_)
   rintro v R X' ⟨A2,c2,rfl,rfl⟩
   refine cS (X':=fun w=>i.at_ w) (fun w h=>h.1) ?_
   unfold bld
   repeat' (first|apply ab|apply Qv|refine aA ?_|refine az ?_|refine bU fun _=>?_|fail)
   rename_i bs2
   refine cq ?_
   refine cG (pre:=bld bb A2 c2 (s1++core)) (fr:=[cel bf 125 (formCells nameB 111 i.ballot.e i.ballot.s),cel bi 57 i.cells]) (hc:=hc2 A2 c2 (s1++core) (by rw [Zl];omega) ⟨some ⟨bs2,0,none⟩,2,2⟩) (hX:=fun w h=>bQ (xs:=[[.int .i64 i.ballot.e],[.int .i64 i.ballot.s]]) h.2 rfl (by decide) (by simp)) (h:=?_)
   rintro v R X' ⟨A3,c3,rfl,rfl⟩
   unfold bld
   repeat' (first|apply ab|apply Qu|apply Qv|refine aA ?_|refine az ?_|fail)
   refine eN (hm:=ZS _ aI) ?_
   repeat' (first|apply ab|refine ad ?_|apply ar|fail)
   all_goals
    apply al;apply aq;rfl;rfl
    simp only [cX,ZC,ZV]
 · rw [Zn (show ¬ i.kind=0 by omega),ZB,Zn (show ¬ i.kind=1 by omega),ZB,Zn (show ¬ i.kind=2 by omega),ZB] at hbs ⊢
   obtain ⟨hl,hsm⟩:=j1 hdn h1
   have hfo:=ya i h0
   have hcs:=eK hsm
   have hn2:=dL i.dec.e i.dec.s
   have hc1:=fun (A:Option Addr) (c:Nat)=>oe bb A c s1 i hl ae
   have hc2:=fun (A:Option Addr) (c:Nat) (p:ByteArray) (hp:p.size≤6000000) (sl:SlV)=>ef bb A c p sl [i.dec.e,i.dec.s] (by simp;exact ⟨hl.e,hl.s⟩) ae
   generalize coreDe i.dec=core at *
   generalize numsV [i.dec.e,i.dec.s]=sg at *
   unfold bld
   repeat' (first|refine bt (hab:=by omega) ?_|apply ab|apply Qu|apply Qv|refine aA ?_|refine az ?_|refine aH ?_|refine aM fun _=>?_|refine aJ ?_|refine Qz ?_|(refine ao (hc:=hfo) (hX:=fun _ _=>trivial) ?_)|fail)
   rename_i bf
   refine dB (l:=bld bb A1 c1 s1++[cel bf 125 (formCells nameD 112 i.dec.e i.dec.s),cel bi 57 i.cells]) (show List.Perm ([_]++[_,_]++[_]) ([_,_]++[_]++[_]) from List.perm_append_comm.append_right _) ?_
   refine cG (pre:=bld bb A1 c1 s1) (fr:=[cel bf 125 (formCells nameD 112 i.dec.e i.dec.s),cel bi 57 i.cells]) (hc:=hc1 A1 c1) (hX:=fun w h=>h) (h:=?_)
   rintro v R X' ⟨A2,c2,rfl,rfl⟩
   refine cS (X':=fun w=>i.at_ w) (fun w h=>h.1) ?_
   unfold bld
   repeat' (first|apply ab|apply Qv|refine aA ?_|refine az ?_|refine bU fun _=>?_|fail)
   rename_i bs2
   refine cq ?_
   refine cG (pre:=bld bb A2 c2 (s1++core)) (fr:=[cel bf 125 (formCells nameD 112 i.dec.e i.dec.s),cel bi 57 i.cells]) (hc:=hc2 A2 c2 (s1++core) (by rw [Zl];omega) ⟨some ⟨bs2,0,none⟩,2,2⟩) (hX:=fun w h=>bQ (xs:=[[.int .i64 i.dec.e],[.int .i64 i.dec.s]]) h.2 rfl (by decide) (by simp)) (h:=?_)
   rintro v R X' ⟨A3,c3,rfl,rfl⟩
   unfold bld
   repeat' (first|apply ab|apply Qu|apply Qv|refine aA ?_|refine az ?_|fail)
   refine eN (hm:=ZS _ aI) ?_
   repeat' (first|apply ab|refine ad ?_|apply ar|fail)
   all_goals
    apply al;apply aq;rfl;rfl
    simp only [cX,ZC,ZV]
theorem fi (i:ItemD) (hr:i.act.Rng) (hdn:i.dec.to.n=i.dec.toL.length):Pu Tryz.prog 14 #[i.v] (fun w=>i.at_ w∧Glob w) (.string (digIt i)):=by
 refine ay (args:=[_]) _ Tryz.func14 rfl Tryz.ntmps14 rfl fun av bor w0=>?_
 have hsz:=iF hr hdn
 have hb:=me i hr hdn
 repeat' (first|apply ab|apply Qu|apply Qv|refine aj ?_|refine ad ?_|refine aH ?_|refine cC ?_|refine aN fun _=>?_|apply Qx|apply ar|(refine ao (hc:=hb) (hX:=fun w h=>h.1) ?_)|refine ao (hc:=nB _ ae) ?_|(refine aG (ht:=?_) (hf:=?_);all_goals (intro hx_;skip)))
 all_goals (apply al;apply aq;rfl;rfl)
 · simp only [digIt,hx_,ZC]
 · simp only [digIt,hx_,ZB]
theorem ve {i:ItemD} (h:i.kind=0) (hr:rightIt i=true):digIt i=digV i.act:=by
 have e:bytesIt i=bytesV i.act:=by rw [bytesIt,bytesV,hr,jw h hr,ZC,ZC,bodyIt,h];rfl
 rw [digIt,digV,e]
theorem rs (p:Int) (c:ClaimD) (h:claimR c=true):Pu Tryz.prog 52 #[.int .i64 p,c.v] Glob (.bool (sgnC p c)):=by
 refine ay (args:=[_,_]) _ Tryz.func52 rfl Tryz.ntmps52 rfl fun av bor w0=>?_
 obtain ⟨hl,hsm⟩:=gJ h
 have hsi:=nA p (ofClaimI c) rfl hl (Qq (ls (by decide) (Qq (ft hsm) (by decide))) (by decide))
 have hat:∀ w,(ofClaimI c).at_ w:=fun w=>⟨⟨cD w 1,cD w 5⟩,cD w 1⟩
 repeat' (first|apply ab|apply Qu|apply Qv|refine aj ?_|refine ad ?_|refine aH ?_|refine aN fun _=>?_|apply ar|(refine ao (hc:=fg c) (hX:=fun _ _=>trivial) ?_)|(refine ao (hc:=hsi) (hX:=fun w h=>⟨hat w,h⟩) ?_)|fail)
 exact al (aq rfl rfl) rfl
def signedIt (L:List Int) (i:ItemD):Bool:=rightIt i&&bif decide (i.kind=2) then decide (i.ballot.server<(L.length:Nat))&&sgnB (L.getD i.ballot.server.toNat 0) i.ballot else bif decide (i.kind=3) then decide (i.dec.server<(L.length:Nat))&&sgnD (L.getD i.dec.server.toNat 0) i.dec else true
end Go.Proofs.YtcdilibijnboeaaGreatDoor
