/- Joined by program out of: Uk Ul Um Un Uo Up Ur Va Zp Zq Zr Zs. -/
import Derived.Test.YtcdilibijnboeaaGreatDoorQ9
set_option linter.unusedVariables false
set_option linter.unusedSimpArgs false
namespace Go.Proofs.YtcdilibijnboeaaGreatDoor
open Go Go.Proofs Sy
def maskB (fs:Nat) (z0 z1 z2 z3 z4 z5 z6 z7 z8 z9 z10:Bool):Bool:=(fs.testBit 0||z0)&&(fs.testBit 1||z1)&&(fs.testBit 2||z2)&&(fs.testBit 3||z3)&&(fs.testBit 4||z4)&&(fs.testBit 5||z5)&&(fs.testBit 6||z6)&&(fs.testBit 7||z7)&&(fs.testBit 8||z8)&&(fs.testBit 9||z9)&&(fs.testBit 10||z10)
def maskOk (fs:Nat) (z0 z1 z2 z3 z4 z5 z6 z7 z8 z9 z10:Bool):Bool:=decide (bitsV .andNot .i64 (useU z0 z1 z2 z3 z4 z5 z6 z7 z8 z9 z10) fs=0)==maskB fs z0 z1 z2 z3 z4 z5 z6 z7 z8 z9 z10
def maskAll (fs:Nat):Bool:=bools fun z0=>bools fun z1=>bools fun z2=>bools fun z3=>bools fun z4=>bools fun z5=>bools fun z6=>bools fun z7=>bools fun z8=>bools fun z9=>bools fun z10=>maskOk fs z0 z1 z2 z3 z4 z5 z6 z7 z8 z9 z10
theorem py:([1568,252,253,1,2,33,24,412,35,1536,1808,513,546].all maskAll)=true:=by decide +kernel
theorem cH {fs:Nat} (hfs:fs∈[1568,252,253,1,2,33,24,412,35,1536,1808,513,546]) (z0 z1 z2 z3 z4 z5 z6 z7 z8 z9 z10:Bool):decide (bitsV .andNot .i64 (useU z0 z1 z2 z3 z4 z5 z6 z7 z8 z9 z10) fs=0)=maskB fs z0 z1 z2 z3 z4 z5 z6 z7 z8 z9 z10:=by
 have h:=List.all_eq_true.1 py fs hfs
 have h1:=cf (cf (cf (cf (cf (cf (cf (cf (cf (cf (cf h z0) z1) z2) z3) z4) z5) z6) z7) z8) z9) z10
 exact eq_of_beq h1
theorem bX (a:ActD):usedV a=useU (seqB a.object ⟨#[]⟩) (seqB a.target ⟨#[]⟩) (decide (a.scope=0)) (seqB a.group ⟨#[]⟩) (decide ((a.to.n:Int)=0)) (seqB a.text ⟨#[]⟩) (boxEq a.body BoxD.zero) (decide (a.epoch=0)) (decide ((a.wraps.n:Int)=0)) (decide (a.n=0)) (decide (a.m=0)):=rfl
theorem lt20 (m:Int):decide (m<20)=decide (m≤19):=decide_eq_decide.2 ad
theorem bz (a:ActD):sealedScopeB a.scope a.group=(decide (1≤a.scope)&&decide (a.scope≤3)&&groupR a):=by
 rw [sealedScopeB,groupR]
 by_cases h2:a.scope=2
 · rw [h2];rfl
 by_cases h1:a.scope=1
 · rw [h1];rfl
 by_cases h3:a.scope=3
 · rw [h3];rfl
 rw [decide_eq_false h1,decide_eq_false h2,decide_eq_false h3]
 by_cases hl:1≤a.scope
 · rw [decide_eq_false (show ¬ a.scope≤3 by omega),Bool.and_false]
   rfl
 · rw [decide_eq_false hl]
   rfl
theorem qY (s:ByteArray) (h:seqB s ⟨#[]⟩=true):decide ((s.size:Int)=32)=false:=by
 rw [dA,decide_eq_true_eq] at h
 exact decide_eq_false ad
theorem Bl {a:ActD} (h:a.kind=0):ruleB a=(maskB 1568 (seqB a.object ⟨#[]⟩) (seqB a.target ⟨#[]⟩) (decide (a.scope=0)) (seqB a.group ⟨#[]⟩) (decide ((a.to.n:Int)=0)) (seqB a.text ⟨#[]⟩) (boxEq a.body BoxD.zero) (decide (a.epoch=0)) (decide ((a.wraps.n:Int)=0)) (decide (a.n=0)) (decide (a.m=0))&&rule3B a):=by
 have hm:mget (ruleL a) a.kind=some (1568,rule3B a):=by rw [h];rfl
 rw [ruleB,hm]
 simp only
 rw [bX]
 exact congrArg (·&&_) (cH (fs:=1568) (by decide) _ _ _ _ _ _ _ _ _ _ _)
theorem Bk {a:ActD} (h:a.kind=1):ruleB a=(maskB 252 (seqB a.object ⟨#[]⟩) (seqB a.target ⟨#[]⟩) (decide (a.scope=0)) (seqB a.group ⟨#[]⟩) (decide ((a.to.n:Int)=0)) (seqB a.text ⟨#[]⟩) (boxEq a.body BoxD.zero) (decide (a.epoch=0)) (decide ((a.wraps.n:Int)=0)) (decide (a.n=0)) (decide (a.m=0))&&audienceB a):=by
 have hm:mget (ruleL a) a.kind=some (252,audienceB a):=by rw [h];rfl
 rw [ruleB,hm]
 simp only
 rw [bX]
 exact congrArg (·&&_) (cH (fs:=252) (by decide) _ _ _ _ _ _ _ _ _ _ _)
theorem Bj {a:ActD} (h:a.kind=2):ruleB a=(maskB 253 (seqB a.object ⟨#[]⟩) (seqB a.target ⟨#[]⟩) (decide (a.scope=0)) (seqB a.group ⟨#[]⟩) (decide ((a.to.n:Int)=0)) (seqB a.text ⟨#[]⟩) (boxEq a.body BoxD.zero) (decide (a.epoch=0)) (decide ((a.wraps.n:Int)=0)) (decide (a.n=0)) (decide (a.m=0))&&rule1B a):=by
 have hm:mget (ruleL a) a.kind=some (253,rule1B a):=by rw [h];rfl
 rw [ruleB,hm]
 simp only
 rw [bX]
 exact congrArg (·&&_) (cH (fs:=253) (by decide) _ _ _ _ _ _ _ _ _ _ _)
theorem Bi {a:ActD} (h:a.kind=3):ruleB a=(maskB 253 (seqB a.object ⟨#[]⟩) (seqB a.target ⟨#[]⟩) (decide (a.scope=0)) (seqB a.group ⟨#[]⟩) (decide ((a.to.n:Int)=0)) (seqB a.text ⟨#[]⟩) (boxEq a.body BoxD.zero) (decide (a.epoch=0)) (decide ((a.wraps.n:Int)=0)) (decide (a.n=0)) (decide (a.m=0))&&rule1B a):=by
 have hm:mget (ruleL a) a.kind=some (253,rule1B a):=by rw [h];rfl
 rw [ruleB,hm]
 simp only
 rw [bX]
 exact congrArg (·&&_) (cH (fs:=253) (by decide) _ _ _ _ _ _ _ _ _ _ _)
theorem Bg {a:ActD} (h:a.kind=4):ruleB a=(maskB 1 (seqB a.object ⟨#[]⟩) (seqB a.target ⟨#[]⟩) (decide (a.scope=0)) (seqB a.group ⟨#[]⟩) (decide ((a.to.n:Int)=0)) (seqB a.text ⟨#[]⟩) (boxEq a.body BoxD.zero) (decide (a.epoch=0)) (decide ((a.wraps.n:Int)=0)) (decide (a.n=0)) (decide (a.m=0))&&objectB a):=by
 have hm:mget (ruleL a) a.kind=some (1,objectB a):=by rw [h];rfl
 rw [ruleB,hm]
 simp only
 rw [bX]
 exact congrArg (·&&_) (cH (fs:=1) (by decide) _ _ _ _ _ _ _ _ _ _ _)
theorem Bf {a:ActD} (h:a.kind=5):ruleB a=(maskB 1 (seqB a.object ⟨#[]⟩) (seqB a.target ⟨#[]⟩) (decide (a.scope=0)) (seqB a.group ⟨#[]⟩) (decide ((a.to.n:Int)=0)) (seqB a.text ⟨#[]⟩) (boxEq a.body BoxD.zero) (decide (a.epoch=0)) (decide ((a.wraps.n:Int)=0)) (decide (a.n=0)) (decide (a.m=0))&&objectB a):=by
 have hm:mget (ruleL a) a.kind=some (1,objectB a):=by rw [h];rfl
 rw [ruleB,hm]
 simp only
 rw [bX]
 exact congrArg (·&&_) (cH (fs:=1) (by decide) _ _ _ _ _ _ _ _ _ _ _)
theorem Be {a:ActD} (h:a.kind=6):ruleB a=(maskB 1 (seqB a.object ⟨#[]⟩) (seqB a.target ⟨#[]⟩) (decide (a.scope=0)) (seqB a.group ⟨#[]⟩) (decide ((a.to.n:Int)=0)) (seqB a.text ⟨#[]⟩) (boxEq a.body BoxD.zero) (decide (a.epoch=0)) (decide ((a.wraps.n:Int)=0)) (decide (a.n=0)) (decide (a.m=0))&&objectB a):=by
 have hm:mget (ruleL a) a.kind=some (1,objectB a):=by rw [h];rfl
 rw [ruleB,hm]
 simp only
 rw [bX]
 exact congrArg (·&&_) (cH (fs:=1) (by decide) _ _ _ _ _ _ _ _ _ _ _)
theorem Bd {a:ActD} (h:a.kind=7):ruleB a=(maskB 2 (seqB a.object ⟨#[]⟩) (seqB a.target ⟨#[]⟩) (decide (a.scope=0)) (seqB a.group ⟨#[]⟩) (decide ((a.to.n:Int)=0)) (seqB a.text ⟨#[]⟩) (boxEq a.body BoxD.zero) (decide (a.epoch=0)) (decide ((a.wraps.n:Int)=0)) (decide (a.n=0)) (decide (a.m=0))&&targetB a):=by
 have hm:mget (ruleL a) a.kind=some (2,targetB a):=by rw [h];rfl
 rw [ruleB,hm]
 simp only
 rw [bX]
 exact congrArg (·&&_) (cH (fs:=2) (by decide) _ _ _ _ _ _ _ _ _ _ _)
theorem Bc {a:ActD} (h:a.kind=8):ruleB a=(maskB 2 (seqB a.object ⟨#[]⟩) (seqB a.target ⟨#[]⟩) (decide (a.scope=0)) (seqB a.group ⟨#[]⟩) (decide ((a.to.n:Int)=0)) (seqB a.text ⟨#[]⟩) (boxEq a.body BoxD.zero) (decide (a.epoch=0)) (decide ((a.wraps.n:Int)=0)) (decide (a.n=0)) (decide (a.m=0))&&targetB a):=by
 have hm:mget (ruleL a) a.kind=some (2,targetB a):=by rw [h];rfl
 rw [ruleB,hm]
 simp only
 rw [bX]
 exact congrArg (·&&_) (cH (fs:=2) (by decide) _ _ _ _ _ _ _ _ _ _ _)
theorem Bb {a:ActD} (h:a.kind=9):ruleB a=(maskB 2 (seqB a.object ⟨#[]⟩) (seqB a.target ⟨#[]⟩) (decide (a.scope=0)) (seqB a.group ⟨#[]⟩) (decide ((a.to.n:Int)=0)) (seqB a.text ⟨#[]⟩) (boxEq a.body BoxD.zero) (decide (a.epoch=0)) (decide ((a.wraps.n:Int)=0)) (decide (a.n=0)) (decide (a.m=0))&&targetB a):=by
 have hm:mget (ruleL a) a.kind=some (2,targetB a):=by rw [h];rfl
 rw [ruleB,hm]
 simp only
 rw [bX]
 exact congrArg (·&&_) (cH (fs:=2) (by decide) _ _ _ _ _ _ _ _ _ _ _)
theorem zf {a:ActD} (h:a.kind=10):ruleB a=(maskB 2 (seqB a.object ⟨#[]⟩) (seqB a.target ⟨#[]⟩) (decide (a.scope=0)) (seqB a.group ⟨#[]⟩) (decide ((a.to.n:Int)=0)) (seqB a.text ⟨#[]⟩) (boxEq a.body BoxD.zero) (decide (a.epoch=0)) (decide ((a.wraps.n:Int)=0)) (decide (a.n=0)) (decide (a.m=0))&&targetB a):=by
 have hm:mget (ruleL a) a.kind=some (2,targetB a):=by rw [h];rfl
 rw [ruleB,hm]
 simp only
 rw [bX]
 exact congrArg (·&&_) (cH (fs:=2) (by decide) _ _ _ _ _ _ _ _ _ _ _)
theorem ze {a:ActD} (h:a.kind=11):ruleB a=(maskB 2 (seqB a.object ⟨#[]⟩) (seqB a.target ⟨#[]⟩) (decide (a.scope=0)) (seqB a.group ⟨#[]⟩) (decide ((a.to.n:Int)=0)) (seqB a.text ⟨#[]⟩) (boxEq a.body BoxD.zero) (decide (a.epoch=0)) (decide ((a.wraps.n:Int)=0)) (decide (a.n=0)) (decide (a.m=0))&&targetB a):=by
 have hm:mget (ruleL a) a.kind=some (2,targetB a):=by rw [h];rfl
 rw [ruleB,hm]
 simp only
 rw [bX]
 exact congrArg (·&&_) (cH (fs:=2) (by decide) _ _ _ _ _ _ _ _ _ _ _)
theorem zd {a:ActD} (h:a.kind=12):ruleB a=(maskB 33 (seqB a.object ⟨#[]⟩) (seqB a.target ⟨#[]⟩) (decide (a.scope=0)) (seqB a.group ⟨#[]⟩) (decide ((a.to.n:Int)=0)) (seqB a.text ⟨#[]⟩) (boxEq a.body BoxD.zero) (decide (a.epoch=0)) (decide ((a.wraps.n:Int)=0)) (decide (a.n=0)) (decide (a.m=0))&&rule2B a):=by
 have hm:mget (ruleL a) a.kind=some (33,rule2B a):=by rw [h];rfl
 rw [ruleB,hm]
 simp only
 rw [bX]
 exact congrArg (·&&_) (cH (fs:=33) (by decide) _ _ _ _ _ _ _ _ _ _ _)
theorem zc {a:ActD} (h:a.kind=13):ruleB a=(maskB 1 (seqB a.object ⟨#[]⟩) (seqB a.target ⟨#[]⟩) (decide (a.scope=0)) (seqB a.group ⟨#[]⟩) (decide ((a.to.n:Int)=0)) (seqB a.text ⟨#[]⟩) (boxEq a.body BoxD.zero) (decide (a.epoch=0)) (decide ((a.wraps.n:Int)=0)) (decide (a.n=0)) (decide (a.m=0))&&objectB a):=by
 have hm:mget (ruleL a) a.kind=some (1,objectB a):=by rw [h];rfl
 rw [ruleB,hm]
 simp only
 rw [bX]
 exact congrArg (·&&_) (cH (fs:=1) (by decide) _ _ _ _ _ _ _ _ _ _ _)
theorem zb {a:ActD} (h:a.kind=14):ruleB a=(maskB 253 (seqB a.object ⟨#[]⟩) (seqB a.target ⟨#[]⟩) (decide (a.scope=0)) (seqB a.group ⟨#[]⟩) (decide ((a.to.n:Int)=0)) (seqB a.text ⟨#[]⟩) (boxEq a.body BoxD.zero) (decide (a.epoch=0)) (decide ((a.wraps.n:Int)=0)) (decide (a.n=0)) (decide (a.m=0))&&rule1B a):=by
 have hm:mget (ruleL a) a.kind=some (253,rule1B a):=by rw [h];rfl
 rw [ruleB,hm]
 simp only
 rw [bX]
 exact congrArg (·&&_) (cH (fs:=253) (by decide) _ _ _ _ _ _ _ _ _ _ _)
theorem za {a:ActD} (h:a.kind=15):ruleB a=(maskB 24 (seqB a.object ⟨#[]⟩) (seqB a.target ⟨#[]⟩) (decide (a.scope=0)) (seqB a.group ⟨#[]⟩) (decide ((a.to.n:Int)=0)) (seqB a.text ⟨#[]⟩) (boxEq a.body BoxD.zero) (decide (a.epoch=0)) (decide ((a.wraps.n:Int)=0)) (decide (a.n=0)) (decide (a.m=0))&&rule4B a):=by
 have hm:mget (ruleL a) a.kind=some (24,rule4B a):=by rw [h];rfl
 rw [ruleB,hm]
 simp only
 rw [bX]
 exact congrArg (·&&_) (cH (fs:=24) (by decide) _ _ _ _ _ _ _ _ _ _ _)
theorem yZ {a:ActD} (h:a.kind=16):ruleB a=(maskB 412 (seqB a.object ⟨#[]⟩) (seqB a.target ⟨#[]⟩) (decide (a.scope=0)) (seqB a.group ⟨#[]⟩) (decide ((a.to.n:Int)=0)) (seqB a.text ⟨#[]⟩) (boxEq a.body BoxD.zero) (decide (a.epoch=0)) (decide ((a.wraps.n:Int)=0)) (decide (a.n=0)) (decide (a.m=0))&&grantB a):=by
 have hm:mget (ruleL a) a.kind=some (412,grantB a):=by rw [h];rfl
 rw [ruleB,hm]
 simp only
 rw [bX]
 exact congrArg (·&&_) (cH (fs:=412) (by decide) _ _ _ _ _ _ _ _ _ _ _)
theorem yY {a:ActD} (h:a.kind=17):ruleB a=(maskB 35 (seqB a.object ⟨#[]⟩) (seqB a.target ⟨#[]⟩) (decide (a.scope=0)) (seqB a.group ⟨#[]⟩) (decide ((a.to.n:Int)=0)) (seqB a.text ⟨#[]⟩) (boxEq a.body BoxD.zero) (decide (a.epoch=0)) (decide ((a.wraps.n:Int)=0)) (decide (a.n=0)) (decide (a.m=0))&&labelB a):=by
 have hm:mget (ruleL a) a.kind=some (35,labelB a):=by rw [h];rfl
 rw [ruleB,hm]
 simp only
 rw [bX]
 exact congrArg (·&&_) (cH (fs:=35) (by decide) _ _ _ _ _ _ _ _ _ _ _)
theorem yX {a:ActD} (h:a.kind=18):ruleB a=(maskB 1536 (seqB a.object ⟨#[]⟩) (seqB a.target ⟨#[]⟩) (decide (a.scope=0)) (seqB a.group ⟨#[]⟩) (decide ((a.to.n:Int)=0)) (seqB a.text ⟨#[]⟩) (boxEq a.body BoxD.zero) (decide (a.epoch=0)) (decide ((a.wraps.n:Int)=0)) (decide (a.n=0)) (decide (a.m=0))&&homeB a):=by
 have hm:mget (ruleL a) a.kind=some (1536,homeB a):=by rw [h];rfl
 rw [ruleB,hm]
 simp only
 rw [bX]
 exact congrArg (·&&_) (cH (fs:=1536) (by decide) _ _ _ _ _ _ _ _ _ _ _)
theorem yW {a:ActD} (h:a.kind=19):ruleB a=(maskB 1808 (seqB a.object ⟨#[]⟩) (seqB a.target ⟨#[]⟩) (decide (a.scope=0)) (seqB a.group ⟨#[]⟩) (decide ((a.to.n:Int)=0)) (seqB a.text ⟨#[]⟩) (boxEq a.body BoxD.zero) (decide (a.epoch=0)) (decide ((a.wraps.n:Int)=0)) (decide (a.n=0)) (decide (a.m=0))&&setupB a):=by
 have hm:mget (ruleL a) a.kind=some (1808,setupB a):=by rw [h];rfl
 rw [ruleB,hm]
 simp only
 rw [bX]
 exact congrArg (·&&_) (cH (fs:=1808) (by decide) _ _ _ _ _ _ _ _ _ _ _)
theorem yV {a:ActD} (h:a.kind=20):ruleB a=(maskB 1 (seqB a.object ⟨#[]⟩) (seqB a.target ⟨#[]⟩) (decide (a.scope=0)) (seqB a.group ⟨#[]⟩) (decide ((a.to.n:Int)=0)) (seqB a.text ⟨#[]⟩) (boxEq a.body BoxD.zero) (decide (a.epoch=0)) (decide ((a.wraps.n:Int)=0)) (decide (a.n=0)) (decide (a.m=0))&&objectB a):=by
 have hm:mget (ruleL a) a.kind=some (1,objectB a):=by rw [h];rfl
 rw [ruleB,hm]
 simp only
 rw [bX]
 exact congrArg (·&&_) (cH (fs:=1) (by decide) _ _ _ _ _ _ _ _ _ _ _)
theorem yU {a:ActD} (h:a.kind=21):ruleB a=(maskB 33 (seqB a.object ⟨#[]⟩) (seqB a.target ⟨#[]⟩) (decide (a.scope=0)) (seqB a.group ⟨#[]⟩) (decide ((a.to.n:Int)=0)) (seqB a.text ⟨#[]⟩) (boxEq a.body BoxD.zero) (decide (a.epoch=0)) (decide ((a.wraps.n:Int)=0)) (decide (a.n=0)) (decide (a.m=0))&&rule2B a):=by
 have hm:mget (ruleL a) a.kind=some (33,rule2B a):=by rw [h];rfl
 rw [ruleB,hm]
 simp only
 rw [bX]
 exact congrArg (·&&_) (cH (fs:=33) (by decide) _ _ _ _ _ _ _ _ _ _ _)
theorem yT {a:ActD} (h:a.kind=22):ruleB a=(maskB 513 (seqB a.object ⟨#[]⟩) (seqB a.target ⟨#[]⟩) (decide (a.scope=0)) (seqB a.group ⟨#[]⟩) (decide ((a.to.n:Int)=0)) (seqB a.text ⟨#[]⟩) (boxEq a.body BoxD.zero) (decide (a.epoch=0)) (decide ((a.wraps.n:Int)=0)) (decide (a.n=0)) (decide (a.m=0))&&rule5B a):=by
 have hm:mget (ruleL a) a.kind=some (513,rule5B a):=by rw [h];rfl
 rw [ruleB,hm]
 simp only
 rw [bX]
 exact congrArg (·&&_) (cH (fs:=513) (by decide) _ _ _ _ _ _ _ _ _ _ _)
theorem yS {a:ActD} (h:a.kind=23):ruleB a=(maskB 546 (seqB a.object ⟨#[]⟩) (seqB a.target ⟨#[]⟩) (decide (a.scope=0)) (seqB a.group ⟨#[]⟩) (decide ((a.to.n:Int)=0)) (seqB a.text ⟨#[]⟩) (boxEq a.body BoxD.zero) (decide (a.epoch=0)) (decide ((a.wraps.n:Int)=0)) (decide (a.n=0)) (decide (a.m=0))&&rule6B a):=by
 have hm:mget (ruleL a) a.kind=some (546,rule6B a):=by rw [h];rfl
 rw [ruleB,hm]
 simp only
 rw [bX]
 exact congrArg (·&&_) (cH (fs:=546) (by decide) _ _ _ _ _ _ _ _ _ _ _)
theorem ud {a:ActD} (h:¬ (0≤a.kind∧a.kind≤23)):ruleB a=false:=by
 have hm:mget (ruleL a) a.kind=none:=by
  rw [ruleL]
  rw [mget,show KeyT.eqb a.kind 0=false from decide_eq_false ad,cond_false]
  rw [mget,show KeyT.eqb a.kind 1=false from decide_eq_false ad,cond_false]
  rw [mget,show KeyT.eqb a.kind 2=false from decide_eq_false ad,cond_false]
  rw [mget,show KeyT.eqb a.kind 3=false from decide_eq_false ad,cond_false]
  rw [mget,show KeyT.eqb a.kind 14=false from decide_eq_false ad,cond_false]
  rw [mget,show KeyT.eqb a.kind 4=false from decide_eq_false ad,cond_false]
  rw [mget,show KeyT.eqb a.kind 5=false from decide_eq_false ad,cond_false]
  rw [mget,show KeyT.eqb a.kind 6=false from decide_eq_false ad,cond_false]
  rw [mget,show KeyT.eqb a.kind 13=false from decide_eq_false ad,cond_false]
  rw [mget,show KeyT.eqb a.kind 20=false from decide_eq_false ad,cond_false]
  rw [mget,show KeyT.eqb a.kind 7=false from decide_eq_false ad,cond_false]
  rw [mget,show KeyT.eqb a.kind 8=false from decide_eq_false ad,cond_false]
  rw [mget,show KeyT.eqb a.kind 9=false from decide_eq_false ad,cond_false]
  rw [mget,show KeyT.eqb a.kind 10=false from decide_eq_false ad,cond_false]
  rw [mget,show KeyT.eqb a.kind 11=false from decide_eq_false ad,cond_false]
  rw [mget,show KeyT.eqb a.kind 12=false from decide_eq_false ad,cond_false]
  rw [mget,show KeyT.eqb a.kind 21=false from decide_eq_false ad,cond_false]
  rw [mget,show KeyT.eqb a.kind 15=false from decide_eq_false ad,cond_false]
  rw [mget,show KeyT.eqb a.kind 16=false from decide_eq_false ad,cond_false]
  rw [mget,show KeyT.eqb a.kind 17=false from decide_eq_false ad,cond_false]
  rw [mget,show KeyT.eqb a.kind 18=false from decide_eq_false ad,cond_false]
  rw [mget,show KeyT.eqb a.kind 19=false from decide_eq_false ad,cond_false]
  rw [mget,show KeyT.eqb a.kind 22=false from decide_eq_false ad,cond_false]
  rw [mget,show KeyT.eqb a.kind 23=false from decide_eq_false ad,cond_false]
  rfl
 rw [ruleB,hm]
theorem zS:seqB (⟨#[]⟩:ByteArray) ⟨#[]⟩=true:=by kernel_rfl
theorem zB:boxEq BoxD.zero BoxD.zero=true:=by kernel_rfl
theorem zI:decide ((0:Int)=0)=true:=rfl
theorem zN:decide (((0:Nat):Int)=0)=true:=rfl
theorem kD:Nat.testBit 1 0=true:=by decide +kernel
theorem kB:Nat.testBit 1 1=false:=by decide +kernel
theorem kA:Nat.testBit 1 2=false:=by decide +kernel
theorem kz:Nat.testBit 1 3=false:=by decide +kernel
theorem ky:Nat.testBit 1 4=false:=by decide +kernel
theorem kx:Nat.testBit 1 5=false:=by decide +kernel
theorem kw:Nat.testBit 1 6=false:=by decide +kernel
theorem kv:Nat.testBit 1 7=false:=by decide +kernel
theorem ku:Nat.testBit 1 8=false:=by decide +kernel
theorem kr:Nat.testBit 1 9=false:=by decide +kernel
theorem gY:Nat.testBit 1 10=false:=by decide +kernel
theorem ka:Nat.testBit 2 0=false:=by decide +kernel
theorem j9:Nat.testBit 2 1=true:=by decide +kernel
theorem j8:Nat.testBit 2 2=false:=by decide +kernel
theorem j7:Nat.testBit 2 3=false:=by decide +kernel
theorem j6:Nat.testBit 2 4=false:=by decide +kernel
theorem j5:Nat.testBit 2 5=false:=by decide +kernel
theorem j4:Nat.testBit 2 6=false:=by decide +kernel
theorem j3:Nat.testBit 2 7=false:=by decide +kernel
theorem j2:Nat.testBit 2 8=false:=by decide +kernel
theorem j1:Nat.testBit 2 9=false:=by decide +kernel
theorem gX:Nat.testBit 2 10=false:=by decide +kernel
theorem yB:Nat.testBit 24 0=false:=by decide +kernel
theorem yA:Nat.testBit 24 1=false:=by decide +kernel
theorem yz:Nat.testBit 24 2=false:=by decide +kernel
theorem yy:Nat.testBit 24 3=true:=by decide +kernel
theorem yx:Nat.testBit 24 4=true:=by decide +kernel
theorem yw:Nat.testBit 24 5=false:=by decide +kernel
theorem yv:Nat.testBit 24 6=false:=by decide +kernel
theorem yu:Nat.testBit 24 7=false:=by decide +kernel
theorem yt:Nat.testBit 24 8=false:=by decide +kernel
theorem yr:Nat.testBit 24 9=false:=by decide +kernel
theorem we:Nat.testBit 24 10=false:=by decide +kernel
theorem rG:Nat.testBit 33 0=true:=by decide +kernel
theorem rF:Nat.testBit 33 1=false:=by decide +kernel
theorem rE:Nat.testBit 33 2=false:=by decide +kernel
theorem rD:Nat.testBit 33 3=false:=by decide +kernel
theorem rC:Nat.testBit 33 4=false:=by decide +kernel
theorem rB:Nat.testBit 33 5=true:=by decide +kernel
theorem rA:Nat.testBit 33 6=false:=by decide +kernel
theorem rz:Nat.testBit 33 7=false:=by decide +kernel
theorem ry:Nat.testBit 33 8=false:=by decide +kernel
theorem rx:Nat.testBit 33 9=false:=by decide +kernel
theorem ox:Nat.testBit 33 10=false:=by decide +kernel
theorem yq:Nat.testBit 35 0=true:=by decide +kernel
theorem yp:Nat.testBit 35 1=true:=by decide +kernel
theorem yo:Nat.testBit 35 2=false:=by decide +kernel
theorem yn:Nat.testBit 35 3=false:=by decide +kernel
theorem ym:Nat.testBit 35 4=false:=by decide +kernel
theorem yl:Nat.testBit 35 5=true:=by decide +kernel
theorem yk:Nat.testBit 35 6=false:=by decide +kernel
theorem yj:Nat.testBit 35 7=false:=by decide +kernel
theorem yi:Nat.testBit 35 8=false:=by decide +kernel
theorem yg:Nat.testBit 35 9=false:=by decide +kernel
theorem vW:Nat.testBit 35 10=false:=by decide +kernel
theorem wd:Nat.testBit 252 0=false:=by decide +kernel
theorem wc:Nat.testBit 252 1=false:=by decide +kernel
theorem wb:Nat.testBit 252 2=true:=by decide +kernel
theorem wa:Nat.testBit 252 3=true:=by decide +kernel
theorem v8:Nat.testBit 252 4=true:=by decide +kernel
theorem v7:Nat.testBit 252 5=true:=by decide +kernel
theorem v6:Nat.testBit 252 6=true:=by decide +kernel
theorem vZ:Nat.testBit 252 7=true:=by decide +kernel
theorem vY:Nat.testBit 252 8=false:=by decide +kernel
theorem vX:Nat.testBit 252 9=false:=by decide +kernel
theorem sU:Nat.testBit 252 10=false:=by decide +kernel
theorem kq:Nat.testBit 253 0=true:=by decide +kernel
theorem kp:Nat.testBit 253 1=false:=by decide +kernel
theorem ko:Nat.testBit 253 2=true:=by decide +kernel
theorem kn:Nat.testBit 253 3=true:=by decide +kernel
theorem km:Nat.testBit 253 4=true:=by decide +kernel
theorem kj:Nat.testBit 253 5=true:=by decide +kernel
theorem kg:Nat.testBit 253 6=true:=by decide +kernel
theorem kf:Nat.testBit 253 7=true:=by decide +kernel
theorem ke:Nat.testBit 253 8=false:=by decide +kernel
theorem kc:Nat.testBit 253 9=false:=by decide +kernel
theorem iI:Nat.testBit 253 10=false:=by decide +kernel
theorem vV:Nat.testBit 412 0=false:=by decide +kernel
theorem vU:Nat.testBit 412 1=false:=by decide +kernel
theorem vT:Nat.testBit 412 2=true:=by decide +kernel
theorem vS:Nat.testBit 412 3=true:=by decide +kernel
theorem vR:Nat.testBit 412 4=true:=by decide +kernel
theorem vQ:Nat.testBit 412 5=false:=by decide +kernel
theorem vP:Nat.testBit 412 6=false:=by decide +kernel
theorem vO:Nat.testBit 412 7=true:=by decide +kernel
theorem vN:Nat.testBit 412 8=true:=by decide +kernel
theorem vM:Nat.testBit 412 9=false:=by decide +kernel
theorem sT:Nat.testBit 412 10=false:=by decide +kernel
theorem vL:Nat.testBit 513 0=true:=by decide +kernel
theorem vK:Nat.testBit 513 1=false:=by decide +kernel
theorem vJ:Nat.testBit 513 2=false:=by decide +kernel
theorem vI:Nat.testBit 513 3=false:=by decide +kernel
theorem vH:Nat.testBit 513 4=false:=by decide +kernel
theorem vG:Nat.testBit 513 5=false:=by decide +kernel
theorem vF:Nat.testBit 513 6=false:=by decide +kernel
theorem vE:Nat.testBit 513 7=false:=by decide +kernel
theorem vD:Nat.testBit 513 8=false:=by decide +kernel
theorem vC:Nat.testBit 513 9=true:=by decide +kernel
theorem sS:Nat.testBit 513 10=false:=by decide +kernel
theorem vB:Nat.testBit 546 0=false:=by decide +kernel
theorem vA:Nat.testBit 546 1=true:=by decide +kernel
theorem vz:Nat.testBit 546 2=false:=by decide +kernel
theorem vy:Nat.testBit 546 3=false:=by decide +kernel
theorem vw:Nat.testBit 546 4=false:=by decide +kernel
theorem vv:Nat.testBit 546 5=true:=by decide +kernel
theorem vu:Nat.testBit 546 6=false:=by decide +kernel
theorem vt:Nat.testBit 546 7=false:=by decide +kernel
theorem vr:Nat.testBit 546 8=false:=by decide +kernel
theorem vq:Nat.testBit 546 9=true:=by decide +kernel
theorem sR:Nat.testBit 546 10=false:=by decide +kernel
theorem tG:Nat.testBit 1536 0=false:=by decide +kernel
theorem tF:Nat.testBit 1536 1=false:=by decide +kernel
theorem tE:Nat.testBit 1536 2=false:=by decide +kernel
theorem tD:Nat.testBit 1536 3=false:=by decide +kernel
theorem tC:Nat.testBit 1536 4=false:=by decide +kernel
theorem tB:Nat.testBit 1536 5=false:=by decide +kernel
theorem tA:Nat.testBit 1536 6=false:=by decide +kernel
theorem tz:Nat.testBit 1536 7=false:=by decide +kernel
theorem tw:Nat.testBit 1536 8=false:=by decide +kernel
theorem tv:Nat.testBit 1536 9=true:=by decide +kernel
theorem qj:Nat.testBit 1536 10=true:=by decide +kernel
theorem tu:Nat.testBit 1568 0=false:=by decide +kernel
theorem tt:Nat.testBit 1568 1=false:=by decide +kernel
theorem tr:Nat.testBit 1568 2=false:=by decide +kernel
theorem tq:Nat.testBit 1568 3=false:=by decide +kernel
theorem tp:Nat.testBit 1568 4=false:=by decide +kernel
theorem tn:Nat.testBit 1568 5=true:=by decide +kernel
theorem tk:Nat.testBit 1568 6=false:=by decide +kernel
theorem tj:Nat.testBit 1568 7=false:=by decide +kernel
theorem ti:Nat.testBit 1568 8=false:=by decide +kernel
theorem tf:Nat.testBit 1568 9=true:=by decide +kernel
theorem qi:Nat.testBit 1568 10=true:=by decide +kernel
theorem te:Nat.testBit 1808 0=false:=by decide +kernel
theorem td:Nat.testBit 1808 1=false:=by decide +kernel
theorem tc:Nat.testBit 1808 2=false:=by decide +kernel
theorem tb:Nat.testBit 1808 3=false:=by decide +kernel
theorem ta:Nat.testBit 1808 4=true:=by decide +kernel
theorem sZ:Nat.testBit 1808 5=false:=by decide +kernel
theorem sY:Nat.testBit 1808 6=false:=by decide +kernel
theorem sX:Nat.testBit 1808 7=false:=by decide +kernel
theorem sW:Nat.testBit 1808 8=true:=by decide +kernel
theorem sV:Nat.testBit 1808 9=true:=by decide +kernel
theorem qg:Nat.testBit 1808 10=true:=by decide +kernel
theorem BJ {a:ActD} (h:a.kind=0):fitsR a=ruleB a:=by
 rw [Bl h,fitsR,h,AF,rY]
 simp only [zeroR,bareA,maskB,zS,zB,zI,zN,tu,tt,tr,tq,tp,tn,tk,tj,ti,tf,qi,Bool.true_and,Bool.and_true,Bool.true_or,Bool.false_or,rule1B,rule2B,rule3B,rule4B,rule5B,rule6B,objectB,targetB,homeB,isDigestB,isShortB,withinB,lt20,grantB,setupB,bz]
 ac_rfl
theorem BI {a:ActD} (h:a.kind=1):fitsR a=ruleB a:=by
 rw [Bk h,fitsR,h,AE,rX]
 simp only [zeroR,bareA,maskB,zS,zB,zI,zN,wd,wc,wb,wa,v8,v7,v6,vZ,vY,vX,sU,Bool.true_and,Bool.and_true,Bool.true_or,Bool.false_or,rule1B,rule2B,rule3B,rule4B,rule5B,rule6B,objectB,targetB,homeB,isDigestB,isShortB,withinB,lt20,grantB,setupB,bz]
 ac_rfl
theorem BH {a:ActD} (h:a.kind=2):fitsR a=ruleB a:=by
 rw [Bj h,fitsR,h,AD,rW]
 simp only [zeroR,bareA,maskB,zS,zB,zI,zN,kq,kp,ko,kn,km,kj,kg,kf,ke,kc,iI,Bool.true_and,Bool.and_true,Bool.true_or,Bool.false_or,rule1B,rule2B,rule3B,rule4B,rule5B,rule6B,objectB,targetB,homeB,isDigestB,isShortB,withinB,lt20,grantB,setupB,bz]
 ac_rfl
theorem BG {a:ActD} (h:a.kind=3):fitsR a=ruleB a:=by
 rw [Bi h,fitsR,h,AC,rV]
 simp only [zeroR,bareA,maskB,zS,zB,zI,zN,kq,kp,ko,kn,km,kj,kg,kf,ke,kc,iI,Bool.true_and,Bool.and_true,Bool.true_or,Bool.false_or,rule1B,rule2B,rule3B,rule4B,rule5B,rule6B,objectB,targetB,homeB,isDigestB,isShortB,withinB,lt20,grantB,setupB,bz]
 ac_rfl
theorem BF {a:ActD} (h:a.kind=4):fitsR a=ruleB a:=by
 rw [Bg h,fitsR,h,AB,rU]
 simp only [zeroR,bareA,maskB,zS,zB,zI,zN,kD,kB,kA,kz,ky,kx,kw,kv,ku,kr,gY,Bool.true_and,Bool.and_true,Bool.true_or,Bool.false_or,rule1B,rule2B,rule3B,rule4B,rule5B,rule6B,objectB,targetB,homeB,isDigestB,isShortB,withinB,lt20,grantB,setupB,bz]
 ac_rfl
theorem BE {a:ActD} (h:a.kind=5):fitsR a=ruleB a:=by
 rw [Bf h,fitsR,h,AA,rT]
 simp only [zeroR,bareA,maskB,zS,zB,zI,zN,kD,kB,kA,kz,ky,kx,kw,kv,ku,kr,gY,Bool.true_and,Bool.and_true,Bool.true_or,Bool.false_or,rule1B,rule2B,rule3B,rule4B,rule5B,rule6B,objectB,targetB,homeB,isDigestB,isShortB,withinB,lt20,grantB,setupB,bz]
 ac_rfl
theorem BD {a:ActD} (h:a.kind=6):fitsR a=ruleB a:=by
 rw [Be h,fitsR,h,Az,rS]
 simp only [zeroR,bareA,maskB,zS,zB,zI,zN,kD,kB,kA,kz,ky,kx,kw,kv,ku,kr,gY,Bool.true_and,Bool.and_true,Bool.true_or,Bool.false_or,rule1B,rule2B,rule3B,rule4B,rule5B,rule6B,objectB,targetB,homeB,isDigestB,isShortB,withinB,lt20,grantB,setupB,bz]
 ac_rfl
theorem BC {a:ActD} (h:a.kind=7):fitsR a=ruleB a:=by
 rw [Bd h,fitsR,h,Ay,rR]
 simp only [zeroR,bareA,maskB,zS,zB,zI,zN,ka,j9,j8,j7,j6,j5,j4,j3,j2,j1,gX,Bool.true_and,Bool.and_true,Bool.true_or,Bool.false_or,rule1B,rule2B,rule3B,rule4B,rule5B,rule6B,objectB,targetB,homeB,isDigestB,isShortB,withinB,lt20,grantB,setupB,bz]
 ac_rfl
theorem BB {a:ActD} (h:a.kind=8):fitsR a=ruleB a:=by
 rw [Bc h,fitsR,h,Ax,rQ]
 simp only [zeroR,bareA,maskB,zS,zB,zI,zN,ka,j9,j8,j7,j6,j5,j4,j3,j2,j1,gX,Bool.true_and,Bool.and_true,Bool.true_or,Bool.false_or,rule1B,rule2B,rule3B,rule4B,rule5B,rule6B,objectB,targetB,homeB,isDigestB,isShortB,withinB,lt20,grantB,setupB,bz]
 ac_rfl
theorem BA {a:ActD} (h:a.kind=9):fitsR a=ruleB a:=by
 rw [Bb h,fitsR,h,Av,rP]
 simp only [zeroR,bareA,maskB,zS,zB,zI,zN,ka,j9,j8,j7,j6,j5,j4,j3,j2,j1,gX,Bool.true_and,Bool.and_true,Bool.true_or,Bool.false_or,rule1B,rule2B,rule3B,rule4B,rule5B,rule6B,objectB,targetB,homeB,isDigestB,isShortB,withinB,lt20,grantB,setupB,bz]
 ac_rfl
theorem zZ {a:ActD} (h:a.kind=10):fitsR a=ruleB a:=by
 rw [zf h,fitsR,h,xf,pc]
 simp only [zeroR,bareA,maskB,zS,zB,zI,zN,ka,j9,j8,j7,j6,j5,j4,j3,j2,j1,gX,Bool.true_and,Bool.and_true,Bool.true_or,Bool.false_or,rule1B,rule2B,rule3B,rule4B,rule5B,rule6B,objectB,targetB,homeB,isDigestB,isShortB,withinB,lt20,grantB,setupB,bz]
 ac_rfl
theorem zY {a:ActD} (h:a.kind=11):fitsR a=ruleB a:=by
 rw [ze h,fitsR,h,xe,pb]
 simp only [zeroR,bareA,maskB,zS,zB,zI,zN,ka,j9,j8,j7,j6,j5,j4,j3,j2,j1,gX,Bool.true_and,Bool.and_true,Bool.true_or,Bool.false_or,rule1B,rule2B,rule3B,rule4B,rule5B,rule6B,objectB,targetB,homeB,isDigestB,isShortB,withinB,lt20,grantB,setupB,bz]
 ac_rfl
theorem zX {a:ActD} (h:a.kind=12):fitsR a=ruleB a:=by
 rw [zd h,fitsR,h,xd,pa]
 simp only [zeroR,bareA,maskB,zS,zB,zI,zN,rG,rF,rE,rD,rC,rB,rA,rz,ry,rx,ox,Bool.true_and,Bool.and_true,Bool.true_or,Bool.false_or,rule1B,rule2B,rule3B,rule4B,rule5B,rule6B,objectB,targetB,homeB,isDigestB,isShortB,withinB,lt20,grantB,setupB,bz]
 ac_rfl
theorem zW {a:ActD} (h:a.kind=13):fitsR a=ruleB a:=by
 rw [zc h,fitsR,h,xc,o9]
 simp only [zeroR,bareA,maskB,zS,zB,zI,zN,kD,kB,kA,kz,ky,kx,kw,kv,ku,kr,gY,Bool.true_and,Bool.and_true,Bool.true_or,Bool.false_or,rule1B,rule2B,rule3B,rule4B,rule5B,rule6B,objectB,targetB,homeB,isDigestB,isShortB,withinB,lt20,grantB,setupB,bz]
 ac_rfl
theorem zV {a:ActD} (h:a.kind=14):fitsR a=ruleB a:=by
 rw [zb h,fitsR,h,xb,o0]
 simp only [zeroR,bareA,maskB,zS,zB,zI,zN,kq,kp,ko,kn,km,kj,kg,kf,ke,kc,iI,Bool.true_and,Bool.and_true,Bool.true_or,Bool.false_or,rule1B,rule2B,rule3B,rule4B,rule5B,rule6B,objectB,targetB,homeB,isDigestB,isShortB,withinB,lt20,grantB,setupB,bz]
 ac_rfl
theorem zU {a:ActD} (h:a.kind=15):fitsR a=ruleB a:=by
 rw [za h,fitsR,h,xa,oZ]
 simp only [zeroR,bareA,maskB,zS,zB,zI,zN,yB,yA,yz,yy,yx,yw,yv,yu,yt,yr,we,Bool.true_and,Bool.and_true,Bool.true_or,Bool.false_or,rule1B,rule2B,rule3B,rule4B,rule5B,rule6B,objectB,targetB,homeB,isDigestB,isShortB,withinB,lt20,grantB,setupB,bz]
 ac_rfl
theorem zT {a:ActD} (h:a.kind=16):fitsR a=ruleB a:=by
 rw [yZ h,fitsR,h,wZ,oY]
 simp only [zeroR,bareA,maskB,zS,zB,zI,zN,vV,vU,vT,vS,vR,vQ,vP,vO,vN,vM,sT,Bool.true_and,Bool.and_true,Bool.true_or,Bool.false_or,rule1B,rule2B,rule3B,rule4B,rule5B,rule6B,objectB,targetB,homeB,isDigestB,isShortB,withinB,lt20,grantB,setupB,bz]
 ac_rfl
theorem zR {a:ActD} (h:a.kind=17):fitsR a=ruleB a:=by
 rw [yY h,fitsR,h,wY,oX]
 simp only [zeroR,bareA,maskB,zS,zB,zI,zN,yq,yp,yo,yn,ym,yl,yk,yj,yi,yg,vW,Bool.true_and,Bool.and_true,Bool.true_or,Bool.false_or,rule1B,rule2B,rule3B,rule4B,rule5B,rule6B,objectB,targetB,homeB,isDigestB,isShortB,withinB,lt20,grantB,setupB,bz]
 rw [labelB,objectB,targetB,isDigestB]
 cases hz:seqB a.object ⟨#[]⟩ with
 | true =>
  rw [qY _ hz]
  cases isName a.text<;>simp [Bool.and_comm,Bool.and_assoc]
 | false=>cases isName a.text<;>cases decide ((a.object.size:Int)=32)<;>cases seqB a.target ⟨#[]⟩<;>simp [Bool.and_comm,Bool.and_assoc]
theorem zQ {a:ActD} (h:a.kind=18):fitsR a=ruleB a:=by
 rw [yX h,fitsR,h,wX,oW]
 simp only [zeroR,bareA,maskB,zS,zB,zI,zN,tG,tF,tE,tD,tC,tB,tA,tz,tw,tv,qj,Bool.true_and,Bool.and_true,Bool.true_or,Bool.false_or,rule1B,rule2B,rule3B,rule4B,rule5B,rule6B,objectB,targetB,homeB,isDigestB,isShortB,withinB,lt20,grantB,setupB,bz]
 ac_rfl
theorem zP {a:ActD} (h:a.kind=19):fitsR a=ruleB a:=by
 rw [yW h,fitsR,h,wW,oV]
 simp only [zeroR,bareA,maskB,zS,zB,zI,zN,te,td,tc,tb,ta,sZ,sY,sX,sW,sV,qg,Bool.true_and,Bool.and_true,Bool.true_or,Bool.false_or,rule1B,rule2B,rule3B,rule4B,rule5B,rule6B,objectB,targetB,homeB,isDigestB,isShortB,withinB,lt20,grantB,setupB,bz]
 ac_rfl
theorem zO {a:ActD} (h:a.kind=20):fitsR a=ruleB a:=by
 rw [yV h,fitsR,h,wV,oU]
 simp only [zeroR,bareA,maskB,zS,zB,zI,zN,kD,kB,kA,kz,ky,kx,kw,kv,ku,kr,gY,Bool.true_and,Bool.and_true,Bool.true_or,Bool.false_or,rule1B,rule2B,rule3B,rule4B,rule5B,rule6B,objectB,targetB,homeB,isDigestB,isShortB,withinB,lt20,grantB,setupB,bz]
 ac_rfl
theorem zM {a:ActD} (h:a.kind=21):fitsR a=ruleB a:=by
 rw [yU h,fitsR,h,wU,oT]
 simp only [zeroR,bareA,maskB,zS,zB,zI,zN,rG,rF,rE,rD,rC,rB,rA,rz,ry,rx,ox,Bool.true_and,Bool.and_true,Bool.true_or,Bool.false_or,rule1B,rule2B,rule3B,rule4B,rule5B,rule6B,objectB,targetB,homeB,isDigestB,isShortB,withinB,lt20,grantB,setupB,bz]
 ac_rfl
theorem zL {a:ActD} (h:a.kind=22):fitsR a=ruleB a:=by
 rw [yT h,fitsR,h,wT,oS]
 simp only [zeroR,bareA,maskB,zS,zB,zI,zN,vL,vK,vJ,vI,vH,vG,vF,vE,vD,vC,sS,Bool.true_and,Bool.and_true,Bool.true_or,Bool.false_or,rule1B,rule2B,rule3B,rule4B,rule5B,rule6B,objectB,targetB,homeB,isDigestB,isShortB,withinB,lt20,grantB,setupB,bz]
 ac_rfl
theorem zK {a:ActD} (h:a.kind=23):fitsR a=ruleB a:=by
 rw [yS h,fitsR,h,wS,oR]
 simp only [zeroR,bareA,maskB,zS,zB,zI,zN,vB,vA,vz,vy,vw,vv,vu,vt,vr,vq,sR,Bool.true_and,Bool.and_true,Bool.true_or,Bool.false_or,rule1B,rule2B,rule3B,rule4B,rule5B,rule6B,objectB,targetB,homeB,isDigestB,isShortB,withinB,lt20,grantB,setupB,bz]
 ac_rfl
theorem zJ (a:ActD):fitsR a=ruleB a:=by
 by_cases hk:0≤a.kind∧a.kind≤23
 · rcases my hk with h|h|h|h|h|h|h|h|h|h|h|h|h|h|h|h|h|h|h|h|h|h|h|h
   · exact BJ h
   · exact BI h
   · exact BH h
   · exact BG h
   · exact BF h
   · exact BE h
   · exact BD h
   · exact BC h
   · exact BB h
   · exact BA h
   · exact zZ h
   · exact zY h
   · exact zX h
   · exact zW h
   · exact zV h
   · exact zU h
   · exact zT h
   · exact zR h
   · exact zQ h
   · exact zP h
   · exact zO h
   · exact zM h
   · exact zL h
   · exact zK h
 · rw [ud hk,fitsR,pt hk,Bool.false_and]
def numsR (a:ActD):Bool:=!isId a.author||(decide (a.seq<0)||(decide (1073741824<a.seq)||(decide (a.time<0)||(decide (1099511627776<a.time)||(decide (a.e<0)||(decide (2305843009213693950≤a.e)||(decide (a.s<0)||decide (2305843009213693950≤a.s))))))))
def seqR (a:ActD):Bool:=decide (a.seq=0)&&(!seqB a.prev ⟨#[]⟩||!decide (a.kind=0))||decide (0<a.seq)&&(!decide ((a.prev.size:Int)=32)||decide (a.kind=0))
theorem dnot {p q:Prop} [Decidable p] [Decidable q] (h:p↔¬ q):decide p=!decide q:=by rw [←decide_not];exact decide_eq_decide.2 h
theorem wJ (a:ActD):(bif numsR a then false else bif seqR a then false else fitsR a)=rightB a:=by
 rw [zJ,rightB,numsR,seqR,placedB,withinB,withinB,withinB,withinB,isDigestB]
 rw [dnot (p:=a.seq<0) (q:=0≤a.seq) ad,dnot (p:=1073741824<a.seq) (q:=a.seq≤1073741824) ad,dnot (p:=a.time<0) (q:=0≤a.time) ad,dnot (p:=1099511627776<a.time) (q:=a.time≤1099511627776) ad,
  dnot (p:=a.e<0) (q:=0≤a.e) ad,dnot (p:=2305843009213693950≤a.e) (q:=a.e≤2305843009213693949) ad,dnot (p:=a.s<0) (q:=0≤a.s) ad,dnot (p:=2305843009213693950≤a.s) (q:=a.s≤2305843009213693949) (by omega)]
 cases isId a.author
 · rfl
 cases decide (0≤a.time)
 · cases decide (0≤a.seq)<;>cases decide (a.seq≤1073741824)<;>simp
 cases decide (a.time≤1099511627776)
 · cases decide (0≤a.seq)<;>cases decide (a.seq≤1073741824)<;>simp
 cases decide (0≤a.e)
 · cases decide (0≤a.seq)<;>cases decide (a.seq≤1073741824)<;>simp
 cases decide (a.e≤2305843009213693949)
 · cases decide (0≤a.seq)<;>cases decide (a.seq≤1073741824)<;>simp
 cases decide (0≤a.s)
 · cases decide (0≤a.seq)<;>cases decide (a.seq≤1073741824)<;>simp
 cases decide (a.s≤2305843009213693949)
 · cases decide (0≤a.seq)<;>cases decide (a.seq≤1073741824)<;>simp
 by_cases h0:a.seq=0
 · rw [h0]
   cases seqB a.prev ⟨#[]⟩<;>cases decide (a.kind=0)<;>simp
 by_cases h1:0<a.seq
 · rw [decide_eq_false h0,decide_eq_true h1,decide_eq_true (show 0≤a.seq by omega),decide_eq_true (show 1≤a.seq by omega)]
   cases decide (a.seq≤1073741824)<;>cases decide ((a.prev.size:Int)=32)<;>cases decide (a.kind=0)<;>simp
 · rw [decide_eq_false h0,decide_eq_false (show ¬ 0≤a.seq by omega),decide_eq_false (show ¬ 1≤a.seq by omega)]
   simp
set_option maxRecDepth 8000 in
set_option maxHeartbeats 8000000 in
theorem jo (a:ActD) (hs:a.Str):Pu Tryz.prog 168 #[a.v] (ActD.at_ · a) (.bool (rightB a)):=by
 refine ax (args:=[_]) _ Tryz.func168 rfl Tryz.ntmps168 rfl fun av bor w0=>?_
 rw [←wJ]
 have c1:=fF a.author hs.author
 have c2:=qA a hs
 repeat' (first|apply ab|apply cw_seq|apply cw_reg|refine ai ?_|refine ac ?_|refine az ?_|refine ay ?_|refine aG ?_|refine aB ?_|refine aE ?_|refine bM ?_|refine bN ?_|refine dz ?_|refine bc ?_|refine cI ?_|refine cV ?_|refine fb ?_|refine bP ?_|refine aH ?_|refine bY ?_|refine fx ?_|refine aL fun _=>?_|refine cw_cond_t ?_|refine cw_cond_f ?_|apply cw_skip|apply aq|(refine am (hc:=c1) (hX:=fun _ _=>trivial) ?_)|(refine am (hc:=c2) (hX:=fun w h=>h) ?_)|((fail_if_success (refine aX ?_));refine aQ (ht:=?_) (hf:=?_);all_goals (intro hx_;first|have:=aO hx_|have:=aR hx_|skip))|(refine aC (ht:=?_) (hf:=?_);all_goals (intro hx_;first|have:=aO hx_|have:=aR hx_)))
 all_goals refine ak (ap rfl rfl) ?_
 all_goals first
  | rfl
  | (simp only [numsR,seqR, *,decide_true,decide_false,cond_true,cond_false,Bool.and_true,Bool.true_and,Bool.and_false,Bool.false_and,Bool.not_true,Bool.not_false,Bool.or_true,Bool.true_or,Bool.or_false,Bool.false_or];done)
  | (simp_all [numsR,seqR];done)
  | (simp_all [numsR,seqR];intros;omega)
  | skip
theorem ms (b:BoxD) (hb:b.Fit):Pu Tryz.prog 248 #[b.v] (fun _=>True) (.string (boxV b)):=by
 refine ax (args:=[_]) _ Tryz.func248 rfl Tryz.ntmps248 rfl fun av bor w0=>?_
 have h1:=aW b.nonce
 have h2:=aW b.data
 have h3:=aW b.tag
 have k1:=hb.nonce
 have k2:=hb.data
 have k3:=hb.tag
 repeat' (first|apply ab|apply cw_seq|apply cw_reg|refine ac ?_|refine aL fun _=>?_|fail)
 (apply bF;kernel_rfl)
 all_goals refine aa 0 ?_
 all_goals refine aa 1 ?_
 all_goals refine aa 3 ?_
 all_goals refine aa 4 ?_
 all_goals refine aa 7 ?_
 all_goals refine aa 8 ?_
 all_goals (refine ae 2 ?_;(refine am (hc:=bR _ ad) ?_);apply ab;refine ag ?_)
 all_goals (refine ae 5 ?_;(refine am (hc:=bR _ ad) ?_);apply ab;refine ag ?_)
 all_goals (refine aa 6 (hy:=by (apply bA;rfl;rfl;(try simp only [ByteArray.size_append]);omega)) ?_)
 all_goals (refine ae 9 ?_;(refine am (hc:=bR _ ad) ?_);apply ab;refine ag ?_)
 all_goals (refine aa 10 (hy:=by (apply bA;rfl;rfl;(try simp only [ByteArray.size_append]);omega)) ?_)
 all_goals refine aa 11 ?_
 all_goals (refine ar ?_)
 repeat' (first|apply aq|fail)
 all_goals exact ak (ap rfl rfl) rfl
theorem vf {w:World} {p:Option Addr} {q:Nat} {x:WrapD} (h:∀ j u,x.cells[j]?=some u→CellAt w p (q+j) u):∀ j u,x.box.cells[j]?=some u→CellAt w p (q+2+j) u:=fun j u hj=>by
 have h1:=h (j+2) u hj
 rw [show q+2+j=q+(j+2) from by omega]
 exact h1
set_option maxRecDepth 8000 in
set_option maxHeartbeats 8000000 in
theorem qC (a:ActD) (hs:a.Str) (ha:rightB a=true→a.Fit):Pu Tryz.prog 216 #[a.v] (ActD.at_ · a) (.string (actCore a)):=by
 have hri:=jo a hs
 rw [actCore]
 cases hrB:rightB a with
 | false =>
  rw [hrB] at hri
  refine ax (args:=[_]) _ Tryz.func216 rfl Tryz.ntmps216 rfl fun av bor w0=>?_
  repeat' (first|apply ab|apply cw_seq|apply cw_reg|refine ai ?_|refine ac ?_|refine aG ?_|refine bM ?_|refine aL fun _=>?_|refine cw_cond_t ?_|apply aq|(refine am (hc:=hri) (hX:=fun w h=>h) ?_)|fail)
  exact ak (ap rfl rfl) rfl
 | true =>
 rw [hrB] at hri
 replace ha:=ha hrB
 refine ax (args:=[_]) _ Tryz.func216 rfl Tryz.ntmps216 rfl fun av bor w0=>?_
 refine bI (p:=a.wraps.n=a.wrapsL.length∧a.wraps.n≤maxLen∧(0<a.wrapsL.length→a.wraps.p.isSome=true)) (fun w h=>⟨h.2.len_,Nat.le_trans (RowsD.cap h.2) (RowsD.max h.2),h.2.some_⟩) fun ⟨hl,hm,hp⟩=>?_
 simp only [maxLen] at hm
 obtain ⟨i1,i2,i3,i4,i5,i6,i7,i8,i9⟩:=ha.ints
 have s1:=aW a.author
 have s2:=aW a.prev
 have s3:=aW a.object
 have s4:=aW a.target
 have s5:=aW a.group
 have s6:=aW a.text
 have s7:=aW ⟨#[97,99,116]⟩
 have s8:=fI ha.body
 have h1:=ha.author
 have h2:=ha.prev
 have h3:=ha.object
 have h4:=ha.target
 have h5:=ha.group
 have h6:=ha.text
 have h7:=ha.to
 have h8:(⟨#[97,99,116]⟩:ByteArray).size=3:=rfl
 have n1:=aN a.seq
 have n2:=aN a.kind
 have n3:=aN a.time
 have n4:=aN a.scope
 have n5:=aN a.epoch
 have n6:=aN a.wraps.n
 have n7:=aN a.n
 have n8:=aN a.m
 repeat' (first|apply ab|apply cw_seq|apply cw_reg|refine ai ?_|refine ac ?_|refine aG ?_|refine bM ?_|refine aL fun _=>?_|refine cw_cond_f ?_|apply cw_skip|(refine am (hc:=hri) (hX:=fun w h=>h) ?_)|fail)
 (apply bF;kernel_rfl)
 all_goals refine aa 1 ?_
 all_goals refine aa 2 ?_
 all_goals refine aa 5 ?_
 all_goals refine aa 6 ?_
 all_goals refine aa 9 ?_
 all_goals refine aa 10 ?_
 all_goals refine aa 13 ?_
 all_goals refine aa 14 ?_
 all_goals refine aa 17 ?_
 all_goals refine aa 18 ?_
 all_goals (refine ae 0 ?_;(refine am (hc:=bR _ ad) ?_);apply ab;refine ag ?_)
 all_goals (refine ae 3 ?_;(refine am (hc:=bR _ ad) ?_);apply ab;refine ag ?_)
 all_goals (refine aa 4 (hy:=by (apply bA;rfl;rfl;(try simp only [ByteArray.size_append]);omega)) ?_)
 all_goals (refine ae 7 ?_;(refine am (hc:=bw _ ad) ?_);apply ab;refine ag ?_)
 all_goals (refine aa 8 (hy:=by (apply bA;rfl;rfl;(try simp only [ByteArray.size_append]);omega)) ?_)
 all_goals (refine ae 11 ?_;(refine am (hc:=bR _ ad) ?_);apply ab;refine ag ?_)
 all_goals (refine aa 12 (hy:=by (apply bA;rfl;rfl;(try simp only [ByteArray.size_append]);omega)) ?_)
 all_goals (refine ae 15 ?_;(refine am (hc:=bw _ ad) ?_);apply ab;refine ag ?_)
 all_goals (refine aa 16 (hy:=by (apply bA;rfl;rfl;(try simp only [ByteArray.size_append]);omega)) ?_)
 all_goals (refine ae 19 ?_;(refine am (hc:=bw _ ad) ?_);apply ab;refine ag ?_)
 all_goals (refine aa 20 (hy:=by (apply bA;rfl;rfl;(try simp only [ByteArray.size_append]);omega)) ?_)
 all_goals refine aa 21 ?_
 all_goals (refine ar ?_)
 repeat' (first|apply cw_seq|fail)
 (apply bF;kernel_rfl)
 all_goals refine aa 0 ?_
 all_goals refine aa 1 ?_
 all_goals refine aa 2 ?_
 all_goals refine aa 5 ?_
 all_goals refine aa 6 ?_
 all_goals refine aa 9 ?_
 all_goals refine aa 10 ?_
 all_goals refine aa 13 ?_
 all_goals refine aa 14 ?_
 all_goals refine aa 17 ?_
 all_goals refine aa 18 ?_
 all_goals refine aa 21 ?_
 all_goals refine aa 22 ?_
 all_goals (refine ae 3 ?_;(refine am (hc:=bR _ ad) ?_);apply ab;refine ag ?_)
 all_goals (refine aa 4 (hy:=by (apply bA;rfl;rfl;(try simp only [ByteArray.size_append]);omega)) ?_)
 all_goals (refine ae 7 ?_;(refine am (hc:=bR _ ad) ?_);apply ab;refine ag ?_)
 all_goals (refine aa 8 (hy:=by (apply bA;rfl;rfl;(try simp only [ByteArray.size_append]);omega)) ?_)
 all_goals (refine ae 11 ?_;(refine am (hc:=bw _ ad) ?_);apply ab;refine ag ?_)
 all_goals (refine aa 12 (hy:=by (apply bA;rfl;rfl;(try simp only [ByteArray.size_append]);omega)) ?_)
 all_goals (refine ae 15 ?_;(refine am (hc:=bR _ ad) ?_);apply ab;refine ag ?_)
 all_goals (refine aa 16 (hy:=by (apply bA;rfl;rfl;(try simp only [ByteArray.size_append]);omega)) ?_)
 all_goals (refine ae 19 ?_;(refine am (hc:=kW a.to a.toL ad) ?_);apply ab;refine ag ?_)
 all_goals (refine aa 20 (hy:=by (apply bA;rfl;rfl;(try simp only [ByteArray.size_append]);omega)) ?_)
 all_goals (refine ae 23 ?_;(refine am (hc:=bR _ ad) ?_);apply ab;refine ag ?_)
 all_goals (refine aa 24 (hy:=by (apply bA;rfl;rfl;(try simp only [ByteArray.size_append]);omega)) ?_)
 all_goals refine aa 25 ?_
 all_goals (refine ar ?_)
 repeat' (first|apply cw_seq|fail)
 (apply bF;kernel_rfl)
 all_goals refine aa 0 ?_
 all_goals refine aa 1 ?_
 all_goals (refine aa 2 (hy:=by (apply cC;rfl;(repeat (exact aF));exact ActD.cells_body _;rfl)) ?_)
 all_goals refine aa 5 ?_
 all_goals refine aa 6 ?_
 all_goals refine aa 9 ?_
 all_goals refine aa 10 ?_
 all_goals refine aa 11 ?_
 all_goals (refine ae 3 ?_;(refine am (hc:=ms a.body ha.body) ?_);apply ab;refine ag ?_)
 all_goals (refine aa 4 (hy:=by (apply bA;rfl;rfl;(try simp only [ByteArray.size_append]);omega)) ?_)
 all_goals (refine ae 7 ?_;(refine am (hc:=bw _ ad) ?_);apply ab;refine ag ?_)
 all_goals (refine aa 8 (hy:=by (apply bA;rfl;rfl;(try simp only [ByteArray.size_append]);omega)) ?_)
 all_goals (refine ae 12 ?_;(refine am (hc:=bw _ ad) ?_);apply ab;refine ag ?_)
 all_goals (refine aa 13 (hy:=by (apply bA;rfl;rfl;(try simp only [ByteArray.size_append]);omega)) ?_)
 all_goals refine aa 14 ?_
 all_goals (refine ar ?_)
 repeat' (first|apply ab|apply cw_seq|apply cw_reg|refine ac ?_|apply cw_block|fail)
 rename_i b
 have hc4:(core4 a).size≤100000000000:=by
  have:(numV a.wrapsL.length).size≤10:=aN _
  simp only [core4,core3,core2,core1,ByteArray.size_append]
  omega
 have hle:=eE (a.wrapsL.map wrapV)
 have hw:=ha.wrapsV
 have e0:core5 a 0=core4 a:=by simp [core5,cats]
 refine aS (ι:=Kth a.wrapsL.length) (fun i=>⟨[(1,.pointer (some ⟨b,0,none⟩)),(4,.string (core5 a i.k)),(5,.int .i64 (i.k:Nat))],[cel b 46 a.cells],(ActD.at_ · a)⟩) (fun i=>a.wrapsL.length-i.k) ⟨0,Nat.zero_le _⟩ (aw ⟨rfl,?_,rfl,trivial⟩ (aD _) fun _ h=>h) fun i=>?_
 · simp only [e0,core4,core3,core2,core1,←hl,ByteArray.append_assoc];rfl
 have hik:=i.hk
 have hk5:(core5 a i.k).size≤200000000000:=by have:=hle i.k;simp only [core5,ByteArray.size_append];omega
 repeat' (first|apply ab|apply cw_seq|apply cw_reg|refine ai ?_|refine az ?_|refine ay ?_|refine bc ?_|refine aZ ?_|apply cw_skip|apply cw_block|apply aP|(refine aC (ht:=?_) (hf:=?_);all_goals (intro hx_;first|have:=aO hx_|have:=aR hx_)))
 · have hlt:i.k<a.wrapsL.length:=by omega
   have hp':=hp ad
   obtain ⟨x,hx⟩:∃ x,a.wrapsL[i.k]?=some x:=⟨_,List.getElem?_eq_getElem hlt⟩
   have hxm:x∈a.wrapsL:=List.mem_of_getElem? hx
   have hf:=ha.wraps x hxm
   have hfs:=fI hf
   obtain ⟨w1,w2⟩:=ha.wints x hxm
   have m1:=aN x.to
   have m2:=aN x.eph
   (refine aT [cel b 46 a.cells] (ActD.at_ · a) aj ?_)
   all_goals refine aa 0 ?_
   all_goals refine aa 1 ?_
   all_goals refine aa 2 ?_
   all_goals refine aa 3 ?_
   all_goals (refine aa 4 (hy:=by (apply aM (q:=i.k*5);rfl;rfl;omega;omega;assumption;omega)) ?_)
   all_goals (refine aa 5 (hy:=by (apply fm;rfl;assumption;rfl)) ?_)
   all_goals (refine aa 6 (hy:=by (apply ez (q:=i.k*5) (u:=.int .i64 x.to);rfl;exact fun w h=>(Wraps.get h.2 hx).2.2 0 _ rfl)) ?_)
   all_goals refine aa 9 ?_
   all_goals refine aa 10 ?_
   all_goals refine aa 11 ?_
   all_goals (refine aa 12 (hy:=by (apply aM (q:=i.k*5);rfl;rfl;omega;omega;assumption;omega)) ?_)
   all_goals (refine aa 13 (hy:=by (apply fm;rfl;assumption;rfl)) ?_)
   all_goals (refine aa 14 (hy:=by (apply ez (q:=i.k*5+1) (u:=.int .i64 x.eph);rfl;exact fun w h=>(Wraps.get h.2 hx).2.2 1 _ rfl)) ?_)
   all_goals refine aa 17 ?_
   all_goals refine aa 18 ?_
   all_goals refine aa 19 ?_
   all_goals (refine aa 20 (hy:=by (apply aM (q:=i.k*5);rfl;rfl;omega;omega;assumption;omega)) ?_)
   all_goals (refine aa 21 (hy:=by (apply fm;rfl;assumption;rfl)) ?_)
   all_goals (refine aa 22 (hy:=by (apply du (q:=i.k*5+2) (cs:=x.box.cells);rfl;exact fun w h=>⟨rfl,(Wraps.get h.2 hx).2.1,vf (Wraps.get h.2 hx).2.2⟩)) ?_)
   all_goals (refine ae 7 ?_;(refine am (hc:=bw _ ad) ?_);apply ab;refine ag ?_)
   all_goals (refine aa 8 (hy:=by (apply bA;rfl;rfl;(try simp only [ByteArray.size_append]);omega)) ?_)
   all_goals (refine ae 15 ?_;(refine am (hc:=bw _ ad) ?_);apply ab;refine ag ?_)
   all_goals (refine aa 16 (hy:=by (apply bA;rfl;rfl;(try simp only [ByteArray.size_append]);omega)) ?_)
   all_goals (refine ae 23 ?_;(refine am (hc:=ms x.box hf) ?_);apply ab;refine ag ?_)
   all_goals (refine aa 24 (hy:=by (apply bA;rfl;rfl;(try simp only [ByteArray.size_append]);omega)) ?_)
   all_goals refine aa 25 ?_
   all_goals (refine ar ?_)
   repeat' (first|apply ab|apply cw_reg|refine ai ?_|refine ac ?_|refine be (h:=?_)|fail)
   have hsucc:=eU (a.wrapsL.map wrapV) (k:=i.k) (by simpa using hlt)
   have hget:(a.wrapsL.map wrapV).getD i.k .empty=wrapV x:=by simp [hx]
   rw [hget] at hsucc
   have e2:core5 a (i.k+1)=core5 a i.k++numV x.to++numV x.eph++boxV x.box:=by simp only [core5,hsucc,ByteArray.append_assoc,wrapV]
   all_goals exact ⟨(⟨i.k+1,hlt⟩:Kth a.wrapsL.length),(by show a.wrapsL.length-(i.k+1)<a.wrapsL.length-i.k;omega),aw ⟨rfl,by rw [e2];rfl,rfl,trivial⟩ (aD _) fun _ h=>h⟩
 have hke:i.k=a.wrapsL.length:=by omega
 (apply bF;kernel_rfl)
 all_goals refine aa 0 ?_
 all_goals refine aa 1 ?_
 all_goals refine aa 2 ?_
 all_goals refine aa 5 ?_
 all_goals refine aa 6 ?_
 all_goals (refine ae 3 ?_;(refine am (hc:=bw _ ad) ?_);apply ab;refine ag ?_)
 all_goals (refine aa 4 (hy:=by (apply bA;rfl;rfl;(try simp only [ByteArray.size_append]);omega)) ?_)
 all_goals (refine ae 7 ?_;(refine am (hc:=bw _ ad) ?_);apply ab;refine ag ?_)
 all_goals (refine aa 8 (hy:=by (apply bA;rfl;rfl;(try simp only [ByteArray.size_append]);omega)) ?_)
 all_goals refine aa 9 ?_
 all_goals (refine ar ?_)
 repeat' (first|apply aq|fail)
 refine ak (ap rfl rfl) ?_
 simp only [cond_true,coreV,←hke]
theorem kZ (a:ActD) (hs:a.Str) (ha:rightB a=true→a.Fit) (hi:a.e<9223372036854775808∧a.s<9223372036854775808):Pu Tryz.prog 179 #[a.v] (ActD.at_ · a) (.string (actBytes a)):=by
 refine ax (args:=[_]) _ Tryz.func179 rfl Tryz.ntmps179 rfl fun av bor w0=>?_
 obtain ⟨i8,i9⟩:=hi
 have n7:=aN a.e
 have n8:=aN a.s
 have hc:(actCore a).size≤300000000000:=by
  unfold actCore
  cases hrB:rightB a with
  | true=>exact fV (ha hrB)
  | false=>simp [ByteArray.size]
 have hcp:=qC a hs ha
 repeat' (first|apply ab|apply cw_seq|apply cw_reg|refine ai ?_|refine ac ?_|refine aG ?_|refine cD ?_|refine aL fun _=>?_|apply cw_skip|apply aq|(refine am (hc:=hcp) (hX:=fun w h=>h) ?_)|(refine aC (ht:=?_) (hf:=?_);all_goals (intro hx_;skip)))
 · (all_goals (apply ak;apply ap;rfl;rfl));all_goals (simp only [actBytes, *,decide_true,decide_false,cond_true,cond_false,Bool.and_true,Bool.true_and,Bool.and_false,Bool.false_and,Bool.not_true,Bool.not_false,Bool.or_true,Bool.true_or,Bool.or_false,Bool.false_or];done)
 (apply bF;kernel_rfl)
 all_goals refine aa 0 ?_
 all_goals refine aa 1 ?_
 all_goals refine aa 2 ?_
 all_goals refine aa 3 ?_
 all_goals refine aa 6 ?_
 all_goals refine aa 7 ?_
 all_goals refine aa 8 ?_
 all_goals (refine ae 4 ?_;(refine am (hc:=bw _ ad) ?_);apply ab;refine ag ?_)
 all_goals (refine aa 5 (hy:=by (apply bA;rfl;rfl;(try simp only [ByteArray.size_append]);omega)) ?_)
 all_goals (refine ae 9 ?_;(refine am (hc:=bw _ ad) ?_);apply ab;refine ag ?_)
 all_goals (refine aa 10 (hy:=by (apply bA;rfl;rfl;(try simp only [ByteArray.size_append]);omega)) ?_)
 all_goals refine aa 11 ?_
 all_goals (refine ar ?_)
 repeat' (first|apply aq|fail)
 all_goals ((all_goals (apply ak;apply ap;rfl;rfl));all_goals (simp only [actBytes, *,decide_true,decide_false,cond_true,cond_false,Bool.and_true,Bool.true_and,Bool.and_false,Bool.false_and,Bool.not_true,Bool.not_false,Bool.or_true,Bool.true_or,Bool.or_false,Bool.false_or];done))
end Go.Proofs.YtcdilibijnboeaaGreatDoor
namespace Go.Proofs.YtcdilibijnboeaaGreatDoor
open Go Go.Proofs Sy
theorem qr:Tryz.prog.underlying 44=some (.struct (Tryz.prog.fieldsOf 44)):=by kernel_rfl
theorem tS:Tryz.prog.stoodInHeld 44=false:=by kernel_rfl
theorem tT:Tryz.prog.eqGuardType Tryz.prog.depth 44=false:=by kernel_rfl
theorem tY (w:World) (a b c d:Int):(Op.equalIn 10000 44 (.agg #[.int .i64 a,.int .i64 b]) (.agg #[.int .i64 c,.int .i64 d])).run Tryz.prog w=.ok (decide (a=c)&&decide (b=d)) w:=by
 have e:(10000:Nat)=9999+1:=rfl
 have e2:(9999:Nat)=9998+1:=rfl
 rw [e,run_equalIn_agg _ _ _ _ _ qr tS]
 have hf:(Tryz.prog.fieldsOf 44).toList.map (fun f=>(f.name,f.type,f.offset))=[("E",3,0),("S",3,1)]:=by kernel_rfl
 generalize (Tryz.prog.fieldsOf 44).toList=l at hf
 rcases l with _|⟨f1,_|⟨f2,_|⟨f3,l⟩⟩⟩
 case cons.cons.nil =>
  simp only [List.map_cons,List.map_nil,List.cons.injEq,Prod.mk.injEq,and_true] at hf
  obtain ⟨⟨n1,t1,o1⟩,n2,t2,o2⟩:=hf
  have hag:=fun w=>(cu (TyOne.out (P:=Tryz.prog) (t:=3)) w).1
  have hst:=fun (x y:Int) (w:World)=>run_equalIn_int (P:=Tryz.prog) w 9998 3 .i64 .i64 x y TyInt.out
  cases h1:decide (a=c)<;>cases h2:decide (b=d) <;>
  · simp only [decide_eq_true_eq,decide_eq_false_iff_not] at h1 h2
    simp [Op.eqFields,n1,n2,t1,t2,o1,o2,part,hag,e2,hst,h1,h2]
 all_goals (have:=congrArg List.length hf;simp at this)
theorem rn {N:Nat} {av bor:List Nat} {w0:World} {E:Env} {loc:List Res} {X:World→Prop} {ty t2:TypeId} {x y:Operand} {a b c d:Int} (hx:ev E x=some (.agg #[.int .i64 a,.int .i64 b])) (hy:ev E y=some (.agg #[.int .i64 c,.int .i64 d])) :
  Sy.Yields Tryz.prog N av bor w0 ⟨E,loc,X⟩ (.binOp .eql 44 x y t2) ty (.bool (decide (a=c)&&decide (b=d))):=Sy.Yields.mk fun A w ok dd pos af g=>by
 have h1:=run_eql_struct (P:=Tryz.prog) w 44 #[.int .i64 a,.int .i64 b] #[.int .i64 c,.int .i64 d]
 have h2:=tY w a b c d
 rw [h2] at h1
 simp [execOp,ok.eval (st:=⟨E,loc,X⟩) hx,ok.eval (st:=⟨E,loc,X⟩) hy,run_eqGuard_agg _ _ _ _ _ _ _ tT,h1]
section
variable {N:Nat} {av bor:List Nat} {w0:World} {ops:Array Oper} {rest:List Oper} {kk:St→Prop} {E:Env} {loc:List Res} {X:World→Prop} {n:Nat} {ty t2:TypeId} {pos:String} {af:Array Edge} {g:Option (Nat×Bool)} {bb want:Bool} {x y:Operand} {a b c d:Int}
theorem wk (h:Sw Tryz.prog N av bor w0 ops rest ⟨(n,.bool (decide (a=c)&&decide (b=d)))::E,loc,X⟩ kk) (hx:ev E x=some (.agg #[.int .i64 a,.int .i64 b]):=by rfl) (hy:ev E y=some (.agg #[.int .i64 c,.int .i64 d]):=by rfl) (hg:gdB ops E g=some (bb,want):=by rfl) (hbb:bb=want:=by exact aA) (hd:Nat.blt n N=true:=by rfl) :
  Sw Tryz.prog N av bor w0 ops (⟨some n,.binOp .eql 44 x y t2,ty,pos,af,g⟩::rest) ⟨E,loc,X⟩ kk:=al (rn hx hy) hg hbb hd h
end
def sameZ (a:ActD):Bool:=decide ((a.to.n:Int)=0)&&(decide ((a.wraps.n:Int)=0)&&(seqB a.author ActD.zero.author&&(decide (a.seq=ActD.zero.seq)&&(seqB a.prev ActD.zero.prev&&(decide (a.kind=ActD.zero.kind)&&(decide (a.time=ActD.zero.time)&&(seqB a.object ActD.zero.object&&(seqB a.target ActD.zero.target&&(decide (a.scope=ActD.zero.scope)&&(seqB a.group ActD.zero.group&&(seqB a.text ActD.zero.text&&(boxEq a.body BoxD.zero&&(decide (a.epoch=ActD.zero.epoch)&&(decide (a.n=ActD.zero.n)&&(decide (a.m=ActD.zero.m)&&(decide (a.e=0)&&decide (a.s=0)))))))))))))))))
set_option maxRecDepth 20000 in
set_option maxHeartbeats 8000000 in
theorem qx (a:ActD):Pu Tryz.prog 42 #[a.v,ActD.zero.v] (fun _=>True) (.bool (sameZ a)):=by
 refine ax (args:=[_,_]) _ Tryz.func42 rfl Tryz.ntmps42 rfl fun av bor w0=>?_
 repeat' (first|apply ab|apply cw_seq|apply cw_reg|refine ai ?_|refine ac ?_|refine az ?_|refine ay ?_|refine aB ?_|refine aE ?_|refine dz ?_|refine aZ ?_|refine bY ?_|refine aL fun _=>?_|refine cw_cond_t ?_|apply cw_skip|apply cw_block|apply aq|((fail_if_success (refine aX ?_));refine aQ (ht:=?_) (hf:=?_);all_goals (intro hx_;skip))|(refine aC (ht:=?_) (hf:=?_);all_goals (intro hx_;skip)))
 · refine ak (ap rfl rfl) ?_
   have h0:ActD.zero.to.n=0:=rfl
   rw [h0] at hx_
   simp_all [sameZ]
 · refine ak (ap rfl rfl) ?_
   have h0:ActD.zero.wraps.n=0:=rfl
   rw [h0] at hx_
   simp_all [sameZ]
 rename_i b1 b2 g1
 have n1:a.to.n=0:=by
  have h0:ActD.zero.to.n=0:=rfl
  rw [h0] at g1
  simpa using g1
 have n2:a.wraps.n=0:=by
  have h0:ActD.zero.wraps.n=0:=rfl
  rw [h0] at hx_
  simpa using hx_
 refine aS (ι:=Unit) (fun _=>⟨[(2,.pointer (some ⟨b1,0,none⟩)),(3,.pointer (some ⟨b2,0,none⟩)),(5,.int .i64 0)],[cel b2 46 ActD.zero.cells,cel b1 46 a.cells],fun _=>True⟩) (fun _=>0) () (aw ⟨rfl,rfl,rfl,trivial⟩ (aD _) fun _ h=>h) fun _=>?_
 repeat' (first|apply ab|apply cw_seq|apply cw_reg|refine ai ?_|refine ac ?_|refine az ?_|refine ay ?_|refine bc ?_|refine aZ ?_|apply cw_skip|apply cw_block|apply aP|(refine aC (ht:=?_) (hf:=?_);all_goals (intro hx_;first|have:=aO hx_|have:=aR hx_)))
 · exact absurd this (by rw [n1];decide)
 refine aS (ι:=Unit) (fun _=>⟨[(2,.pointer (some ⟨b1,0,none⟩)),(3,.pointer (some ⟨b2,0,none⟩)),(6,.int .i64 0)],[cel b2 46 ActD.zero.cells,cel b1 46 a.cells],fun _=>True⟩) (fun _=>0) () (aw ⟨rfl,rfl,rfl,trivial⟩ (aD _) fun _ h=>h) fun _=>?_
 repeat' (first|apply ab|apply cw_seq|apply cw_reg|refine ai ?_|refine ac ?_|refine az ?_|refine ay ?_|refine aB ?_|refine aE ?_|refine bN ?_|refine bc ?_|refine cD ?_|refine aZ ?_|refine aH ?_|apply cw_skip|apply cw_block|apply aq|apply aP|(refine g6 (a:=a.body) (b:=BoxD.zero) ?_)|(refine wk (a:=a.e) (b:=a.s) (c:=0) (d:=0) ?_)|(refine aV ?_)|((fail_if_success (refine aX ?_));refine aQ (ht:=?_) (hf:=?_);all_goals (intro hx_;first|have:=aO hx_|have:=aR hx_|skip))|(refine aC (ht:=?_) (hf:=?_);all_goals (intro hx_;first|have:=aO hx_|have:=aR hx_)))
 · exact absurd this (by rw [n2];decide)
 all_goals (
  refine ak (ap rfl rfl) ?_
  have q1:decide ((a.to.n:Int)=0)=true:=by rw [n1];rfl
  have q2:decide ((a.wraps.n:Int)=0)=true:=by rw [n2];rfl
  rw [sameZ,q1,q2]
  clear q1 q2 n1 n2
  first
   | rfl
   | (simp_all only [Bool.true_and,Bool.false_and,Bool.and_false,decide_true,decide_false,Bool.and_true];done)
   | (simp_all;done)
   | skip)
end Go.Proofs.YtcdilibijnboeaaGreatDoor
namespace Go.Proofs.YtcdilibijnboeaaGreatDoor
open Go Go.Proofs Sy
theorem CellAt.same {w:World} {p:Option Addr} {q:Nat} {u v:Value} (h1:CellAt w p q u) (h2:CellAt w p q v):u=v:=by
 obtain ⟨a,ha⟩:=Option.isSome_iff_exists.1 h1.1
 have:=(h1.2 a ha).symm.trans (h2.2 a ha)
 exact Option.some.inj this
theorem Strs.same {w:World} {s:SlV} {l m:List ByteArray} (h1:Strs w s l) (h2:Strs w s m):l=m:=by
 have hl:l.length=m.length:=h1.len_.symm.trans h2.len_
 apply List.ext_getElem hl
 intro i i1 i2
 have a1:=h1.at_ (List.getElem?_eq_getElem i1)
 have a2:=h2.at_ (List.getElem?_eq_getElem i2)
 exact Value.string.inj (CellAt.same a1 a2)
section
variable {H:Type} {enc:TypeId×Value→H} {P:Program} {w:World} {base:Nat} {spare:Nat→Bool} {held:Bool}
theorem SlV.v_inj {s t:SlV} (h:s.v=t.v):s=t:=by
 obtain ⟨p,n,c⟩:=s
 obtain ⟨p',n',c'⟩:=t
 simp only [SlV.v,Value.slice.injEq] at h
 obtain ⟨rfl,rfl,rfl⟩:=h
 rfl
theorem xX {fuel:Nat} {a:ActD} {x:DataW H×List MemPlace} (h:DataW.trod enc Tryz.prog w base spare held fuel 46 a.cells=some x) (ha:a.at_ w):a.Str:=by
 obtain ⟨n0,y0,h0⟩:=bx (i:=0) (off:=0) (k:=1) (t':=9) Tryz.underlying46 h rfl rfl rfl aj
 obtain ⟨n6,y6,h6⟩:=bx (i:=6) (off:=6) (k:=1) (t':=9) Tryz.underlying46 h rfl rfl rfl aj
 obtain ⟨n8,y8,h8⟩:=bx (i:=8) (off:=8) (k:=1) (t':=9) Tryz.underlying46 h rfl rfl rfl aj
 obtain ⟨n9,y9,h9⟩:=bx (i:=9) (off:=9) (k:=1) (t':=39) Tryz.underlying46 h rfl rfl rfl aj
 obtain ⟨n10,y10,h10⟩:=bx (i:=10) (off:=10) (k:=1) (t':=9) Tryz.underlying46 h rfl rfl rfl aj
 obtain ⟨s0,e0,b0⟩:=cd h0
 obtain ⟨s6,e6,b6⟩:=cd h6
 obtain ⟨s8,e8,b8⟩:=cd h8
 obtain ⟨s9,l9,e9,r9,b9⟩:=gG h9
 obtain ⟨s10,e10,b10⟩:=cd h10
 simp [ActD.cells] at e0 e6 e8 e9 e10
 have e9':=SlV.v_inj e9
 subst e0;subst e6;subst e8;subst e10
 rw [←e9'] at r9
 have e:=Strs.same ha.1 r9
 exact ⟨b0,b6,b8,b10,by rw [e];exact b9⟩
theorem ut {fuel:Nat} {cs:List Value} {x:DataW H×List MemPlace} (h:DataW.trod enc Tryz.prog w base spare held fuel 46 cs=some x):∃ a:ActD,cs=a.cells∧a.at_ w∧a.Rng∧a.target.size≤maxLen∧a.Str:=by
 obtain ⟨a,e,h1,h2,h3⟩:=wR h
 subst e
 exact ⟨a,rfl,h1,h2,h3,xX h h1⟩
end
end Go.Proofs.YtcdilibijnboeaaGreatDoor
namespace Go.Proofs.YtcdilibijnboeaaGreatDoor
open Go Go.Proofs Sy Go.RowKit Go.Deep Go.ChangeShapes
structure ClaimD.Str (c:ClaimD):Prop where
 actor:c.actor.size≤maxLen
 prev:c.prev.size≤maxLen
 rng:c.base<9223372036854775808∧c.gen<9223372036854775808∧c.home<9223372036854775808∧c.pub<9223372036854775808∧c.time<9223372036854775808∧c.e<9223372036854775808∧c.s<9223372036854775808
structure BallotD.Str (b:BallotD):Prop where
 actor:b.actor.size≤maxLen
 claim:b.claim.size≤maxLen
 rng:b.server<9223372036854775808∧b.gen<9223372036854775808∧b.time<9223372036854775808∧b.e<9223372036854775808∧b.s<9223372036854775808
structure DecD.Str (d:DecD):Prop where
 actor:d.actor.size≤maxLen
 object:d.object.size≤maxLen
 text:d.text.size≤maxLen
 to:∀ x∈d.toL,x.size≤maxLen
 rng:d.server<9223372036854775808∧d.number<9223372036854775808∧d.kind<9223372036854775808∧d.n<9223372036854775808∧d.from_<9223372036854775808∧d.until_<9223372036854775808∧d.e<9223372036854775808∧d.s<9223372036854775808
structure ItemD.Str (i:ItemD):Prop where
 act:i.act.Str
 rng:i.act.Rng
 claim:i.claim.Str
 ballot:i.ballot.Str
 dec:i.dec.Str
section
variable {H:Type} {enc:TypeId×Value→H} {P:Program} {w:World} {base:Nat} {spare:Nat→Bool} {held:Bool}
theorem qN {fuel:Nat} {cs:List Value} {x:DataW H×List MemPlace} (h:DataW.trod enc Tryz.prog w base spare held fuel 22 cs=some x):∃ (s:SlV) (l:List Int),cs=[s.v]∧Ints w s l∧∀ n∈l,n<9223372036854775808:=by
 obtain ⟨s,l,h1,h2,h3⟩:=fG (α:=Int) Tryz.underlying22 (size:=1) aj (fun n=>[.int .i64 n]) (fun n=>n<9223372036854775808) (fun n cs y hy=>by obtain ⟨s,h1,h2⟩:=bO hy;exact ⟨s,h1,h2⟩) h
 exact ⟨s,l,h1,h2,h3⟩
theorem qO {fuel:Nat} {cs:List Value} {x:DataW H×List MemPlace} (h:DataW.trod enc Tryz.prog w base spare held fuel 51 cs=some x):∃ a:ClaimD,cs=a.cells∧a.Str:=by
 have hl:=fQ Tryz.underlying51 (k:=9) aj h
 obtain ⟨n0,y0,h0⟩:=bx (i:=0) (off:=0) (k:=1) (t':=9) Tryz.underlying51 h rfl rfl rfl aj
 obtain ⟨n1,y1,h1⟩:=bx (i:=1) (off:=1) (k:=1) (t':=3) Tryz.underlying51 h rfl rfl rfl aj
 obtain ⟨n2,y2,h2⟩:=bx (i:=2) (off:=2) (k:=1) (t':=9) Tryz.underlying51 h rfl rfl rfl aj
 obtain ⟨n3,y3,h3⟩:=bx (i:=3) (off:=3) (k:=1) (t':=3) Tryz.underlying51 h rfl rfl rfl aj
 obtain ⟨n4,y4,h4⟩:=bx (i:=4) (off:=4) (k:=1) (t':=3) Tryz.underlying51 h rfl rfl rfl aj
 obtain ⟨n5,y5,h5⟩:=bx (i:=5) (off:=5) (k:=1) (t':=3) Tryz.underlying51 h rfl rfl rfl aj
 obtain ⟨n6,y6,h6⟩:=bx (i:=6) (off:=6) (k:=1) (t':=3) Tryz.underlying51 h rfl rfl rfl aj
 obtain ⟨n7,y7,h7⟩:=bx (i:=7) (off:=7) (k:=2) (t':=44) Tryz.underlying51 h rfl rfl rfl aj
 match cs,hl with
 | [c0,c1,c2,c3,c4,c5,c6,c7,c8],_ =>
  obtain ⟨s0,e0,b0⟩:=cd h0
  obtain ⟨s1,e1,b1⟩:=bO h1
  obtain ⟨s2,e2,b2⟩:=cd h2
  obtain ⟨s3,e3,b3⟩:=bO h3
  obtain ⟨s4,e4,b4⟩:=bO h4
  obtain ⟨s5,e5,b5⟩:=bO h5
  obtain ⟨s6,e6,b6⟩:=bO h6
  obtain ⟨s7,t7,e7,b7,bb7⟩:=iq h7
  simp at e0 e1 e2 e3 e4 e5 e6 e7
  exact ⟨⟨s0,s1,s2,s3,s4,s5,s6,s7,t7⟩,by simp [ClaimD.cells,e0,e1,e2,e3,e4,e5,e6,e7],⟨b0,b2,b1,b3,b4,b5,b6,b7,bb7⟩⟩
theorem pr {fuel:Nat} {cs:List Value} {x:DataW H×List MemPlace} (h:DataW.trod enc Tryz.prog w base spare held fuel 53 cs=some x):∃ a:BallotD,cs=a.cells∧a.Str:=by
 have hl:=fQ Tryz.underlying53 (k:=7) aj h
 obtain ⟨n0,y0,h0⟩:=bx (i:=0) (off:=0) (k:=1) (t':=3) Tryz.underlying53 h rfl rfl rfl aj
 obtain ⟨n1,y1,h1⟩:=bx (i:=1) (off:=1) (k:=1) (t':=9) Tryz.underlying53 h rfl rfl rfl aj
 obtain ⟨n2,y2,h2⟩:=bx (i:=2) (off:=2) (k:=1) (t':=3) Tryz.underlying53 h rfl rfl rfl aj
 obtain ⟨n3,y3,h3⟩:=bx (i:=3) (off:=3) (k:=1) (t':=9) Tryz.underlying53 h rfl rfl rfl aj
 obtain ⟨n4,y4,h4⟩:=bx (i:=4) (off:=4) (k:=1) (t':=3) Tryz.underlying53 h rfl rfl rfl aj
 obtain ⟨n5,y5,h5⟩:=bx (i:=5) (off:=5) (k:=2) (t':=44) Tryz.underlying53 h rfl rfl rfl aj
 match cs,hl with
 | [c0,c1,c2,c3,c4,c5,c6],_ =>
  obtain ⟨s0,e0,b0⟩:=bO h0
  obtain ⟨s1,e1,b1⟩:=cd h1
  obtain ⟨s2,e2,b2⟩:=bO h2
  obtain ⟨s3,e3,b3⟩:=cd h3
  obtain ⟨s4,e4,b4⟩:=bO h4
  obtain ⟨s5,t5,e5,b5,bb5⟩:=iq h5
  simp at e0 e1 e2 e3 e4 e5
  exact ⟨⟨s0,s1,s2,s3,s4,s5,t5⟩,by simp [BallotD.cells,e0,e1,e2,e3,e4,e5],⟨b1,b3,b0,b2,b4,b5,bb5⟩⟩
theorem wQ {fuel:Nat} {cs:List Value} {x:DataW H×List MemPlace} (h:DataW.trod enc Tryz.prog w base spare held fuel 55 cs=some x):∃ a:DecD,cs=a.cells∧DecD.at_ w a∧a.Str:=by
 have hl:=fQ Tryz.underlying55 (k:=12) aj h
 obtain ⟨n0,y0,h0⟩:=bx (i:=0) (off:=0) (k:=1) (t':=3) Tryz.underlying55 h rfl rfl rfl aj
 obtain ⟨n1,y1,h1⟩:=bx (i:=1) (off:=1) (k:=1) (t':=3) Tryz.underlying55 h rfl rfl rfl aj
 obtain ⟨n2,y2,h2⟩:=bx (i:=2) (off:=2) (k:=1) (t':=3) Tryz.underlying55 h rfl rfl rfl aj
 obtain ⟨n3,y3,h3⟩:=bx (i:=3) (off:=3) (k:=1) (t':=9) Tryz.underlying55 h rfl rfl rfl aj
 obtain ⟨n4,y4,h4⟩:=bx (i:=4) (off:=4) (k:=1) (t':=9) Tryz.underlying55 h rfl rfl rfl aj
 obtain ⟨n5,y5,h5⟩:=bx (i:=5) (off:=5) (k:=1) (t':=9) Tryz.underlying55 h rfl rfl rfl aj
 obtain ⟨n6,y6,h6⟩:=bx (i:=6) (off:=6) (k:=1) (t':=39) Tryz.underlying55 h rfl rfl rfl aj
 obtain ⟨n7,y7,h7⟩:=bx (i:=7) (off:=7) (k:=1) (t':=3) Tryz.underlying55 h rfl rfl rfl aj
 obtain ⟨n8,y8,h8⟩:=bx (i:=8) (off:=8) (k:=1) (t':=3) Tryz.underlying55 h rfl rfl rfl aj
 obtain ⟨n9,y9,h9⟩:=bx (i:=9) (off:=9) (k:=1) (t':=3) Tryz.underlying55 h rfl rfl rfl aj
 obtain ⟨n10,y10,h10⟩:=bx (i:=10) (off:=10) (k:=2) (t':=44) Tryz.underlying55 h rfl rfl rfl aj
 match cs,hl with
 | [c0,c1,c2,c3,c4,c5,c6,c7,c8,c9,c10,c11],_ =>
  obtain ⟨s0,e0,b0⟩:=bO h0
  obtain ⟨s1,e1,b1⟩:=bO h1
  obtain ⟨s2,e2,b2⟩:=bO h2
  obtain ⟨s3,e3,b3⟩:=cd h3
  obtain ⟨s4,e4,b4⟩:=cd h4
  obtain ⟨s5,e5,b5⟩:=cd h5
  obtain ⟨s6,l6,e6,r6,b6⟩:=gG h6
  obtain ⟨s7,e7,b7⟩:=bO h7
  obtain ⟨s8,e8,b8⟩:=bO h8
  obtain ⟨s9,e9,b9⟩:=bO h9
  obtain ⟨s10,t10,e10,b10,bb10⟩:=iq h10
  simp at e0 e1 e2 e3 e4 e5 e6 e7 e8 e9 e10
  exact ⟨⟨s0,s1,s2,s3,s4,s5,s6,s7,s8,s9,s10,t10,l6⟩,by simp [DecD.cells,e0,e1,e2,e3,e4,e5,e6,e7,e8,e9,e10],r6,⟨b3,b4,b5,b6,b0,b1,b2,b7,b8,b9,b10,bb10⟩⟩
theorem ur {fuel:Nat} {cs:List Value} {x:DataW H×List MemPlace} (h:DataW.trod enc Tryz.prog w base spare held fuel 57 cs=some x):∃ a:ItemD,cs=a.cells∧ItemD.at_ w a∧a.Str:=by
 have hl:=fQ Tryz.underlying57 (k:=49) aj h
 obtain ⟨n0,y0,h0⟩:=bx (i:=0) (off:=0) (k:=1) (t':=3) Tryz.underlying57 h rfl rfl rfl aj
 obtain ⟨n1,y1,h1⟩:=bx (i:=1) (off:=1) (k:=20) (t':=46) Tryz.underlying57 h rfl rfl rfl aj
 obtain ⟨n2,y2,h2⟩:=bx (i:=2) (off:=21) (k:=9) (t':=51) Tryz.underlying57 h rfl rfl rfl aj
 obtain ⟨n3,y3,h3⟩:=bx (i:=3) (off:=30) (k:=7) (t':=53) Tryz.underlying57 h rfl rfl rfl aj
 obtain ⟨n4,y4,h4⟩:=bx (i:=4) (off:=37) (k:=12) (t':=55) Tryz.underlying57 h rfl rfl rfl aj
 obtain ⟨a0,e0,_⟩:=bO h0
 obtain ⟨a1,e1,q1,r1,_,s1⟩:=ut h1
 obtain ⟨a2,e2,s2⟩:=qO h2
 obtain ⟨a3,e3,s3⟩:=pr h3
 obtain ⟨a4,e4,q4,s4⟩:=wQ h4
 refine ⟨⟨a0,a1,a2,a3,a4⟩,?_,⟨q1,q4⟩,⟨s1,r1,s2,s3,s4⟩⟩
 have h5:cs=cs.take 1++((cs.drop 1).take 20++((cs.drop 21).take 9++((cs.drop 30).take 7++(cs.drop 37).take 12))):=by
  have t1:(cs.drop 37).take 12=cs.drop 37:=List.take_of_length_le (by rw [List.length_drop];omega)
  rw [t1,show cs.drop 37=(cs.drop 30).drop 7 from by rw [List.drop_drop],List.take_append_drop,show cs.drop 30=(cs.drop 21).drop 9 from by rw [List.drop_drop],List.take_append_drop,show cs.drop 21=(cs.drop 1).drop 20 from by rw [List.drop_drop],List.take_append_drop,List.take_append_drop]
 rw [List.drop_zero] at e0
 rw [h5,e0,e1,e2,e3,e4]
 simp [ItemD.cells]
theorem qM {fuel:Nat} {cs:List Value} {x:DataW H×List MemPlace} (h:DataW.trod enc Tryz.prog w base spare held fuel 23 cs=some x):∃ (s:SlV) (l:List ItemD),cs=[s.v]∧Items w s l∧∀ i∈l,i.Str:=by
 haveI:Inhabited ItemD:=⟨ItemD.zero⟩
 obtain ⟨s,l,h1,h2,h3⟩:=fG (α:=ItemD) Tryz.underlying23 (size:=49) aj ItemD.cells (fun a=>ItemD.at_ w a∧a.Str) (fun n cs y hy=>ur hy) h
 exact ⟨s,l,h1,⟨h2,fun a ha=>(h3 a ha).1⟩,fun a ha=>(h3 a ha).2⟩
theorem qL {fuel:Nat} {cs:List Value} {x:DataW H×List MemPlace} (h:DataW.trod enc Tryz.prog w base spare held fuel 25 cs=some x):∃ (s t:SlV) (l:List Int) (I:List ItemD),cs=[s.v,t.v]∧Ints w s l∧Items w t I∧(∀ n∈l,n<9223372036854775808)∧∀ i∈I,i.Str:=by
 have hl:=fQ Tryz.underlying25 (k:=2) aj h
 obtain ⟨n0,y0,h0⟩:=bx (i:=0) (off:=0) (k:=1) (t':=22) Tryz.underlying25 h rfl rfl rfl aj
 obtain ⟨n1,y1,h1⟩:=bx (i:=1) (off:=1) (k:=1) (t':=23) Tryz.underlying25 h rfl rfl rfl aj
 match cs,hl with
 | [c0,c1],_ =>
  obtain ⟨s0,l0,e0,r0,b0⟩:=qN h0
  obtain ⟨s1,l1,e1,r1,b1⟩:=qM h1
  simp at e0 e1
  exact ⟨s0,s1,l0,l1,by rw [e0,e1],r0,r1,b0,b1⟩
end
end Go.Proofs.YtcdilibijnboeaaGreatDoor
namespace Go.Proofs.YtcdilibijnboeaaGreatDoor
open Go Go.Proofs Sy
theorem fN (n l h:Int):Pu Tryz.prog 209 #[.int .i64 n,.int .i64 l,.int .i64 h] (fun _=>True) (.bool (withinB n l h)):=by
 refine ax (args:=[_,_,_]) _ Tryz.func209 rfl Tryz.ntmps209 rfl fun av bor w0=>?_
 repeat' (first|apply ab|apply cw_seq|apply cw_reg|refine ai ?_|refine ac ?_|refine aB ?_|refine aE ?_|refine cw ?_|refine cV ?_|refine aH ?_|apply aq|((fail_if_success (refine aX ?_));refine aQ (ht:=?_) (hf:=?_);all_goals (intro hx_;first|have:=aO hx_|have:=aR hx_))|fail)
 (all_goals (apply ak;apply ap;rfl;rfl));all_goals (simp only [withinB, *,decide_true,decide_false,cond_true,cond_false,Bool.and_true,Bool.true_and,Bool.and_false,Bool.false_and,Bool.not_true,Bool.not_false,Bool.or_true,Bool.true_or,Bool.or_false,Bool.false_or];done)
theorem iP (e s:Int):Pu Tryz.prog 210 #[.agg #[.int .i64 e,.int .i64 s]] (fun _=>True) (.bool (sigB e s)):=by
 refine ax (args:=[_]) _ Tryz.func210 rfl Tryz.ntmps210 rfl fun av bor w0=>?_
 repeat' (first|apply ab|apply cw_seq|apply cw_reg|refine ai ?_|refine ac ?_|refine az ?_|refine ay ?_|refine aB ?_|refine aE ?_|refine aH ?_|refine aL fun _=>?_|apply aq|refine am (hc:=fN _ _ _) ?_|((fail_if_success (refine aX ?_));refine aQ (ht:=?_) (hf:=?_);all_goals (intro hx_;skip))|fail)
 (all_goals (apply ak;apply ap;rfl;rfl));all_goals (simp only [sigB, *,decide_true,decide_false,cond_true,cond_false,Bool.and_true,Bool.true_and,Bool.and_false,Bool.false_and,Bool.not_true,Bool.not_false,Bool.or_true,Bool.true_or,Bool.or_false,Bool.false_or];done)
set_option maxHeartbeats 8000000 in
theorem lU (c:ClaimD) (hs:c.Str):Pu Tryz.prog 169 #[c.v] (fun _=>True) (.bool (claimR c)):=by
 refine ax (args:=[_]) _ Tryz.func169 rfl Tryz.ntmps169 rfl fun av bor w0=>?_
 have hid:=fF c.actor hs.actor
 repeat' (first|apply ab|apply cw_seq|apply cw_reg|refine ai ?_|refine ac ?_|refine az ?_|refine ay ?_|refine aB ?_|refine aE ?_|refine bN ?_|refine bP ?_|refine aH ?_|refine aL fun _=>?_|apply aq|(refine am (hc:=hid) (hX:=fun _ _=>trivial) ?_)|refine am (hc:=fN _ _ _) ?_|refine am (hc:=iP c.e c.s) ?_|(refine aV (vs:=[.int .i64 c.e,.int .i64 c.s]) (hv:=rfl) ?_)|((fail_if_success (refine aX ?_));refine aQ (ht:=?_) (hf:=?_);all_goals (intro hx_;first|have:=aO hx_|have:=aR hx_|skip))|fail)
 (all_goals (apply ak;apply ap;rfl;rfl));all_goals (simp only [claimR,isDigestB, *,decide_true,decide_false,cond_true,cond_false,Bool.and_true,Bool.true_and,Bool.and_false,Bool.false_and,Bool.not_true,Bool.not_false,Bool.or_true,Bool.true_or,Bool.or_false,Bool.false_or];done)
set_option maxHeartbeats 8000000 in
theorem pg (b:BallotD) (hs:b.Str):Pu Tryz.prog 170 #[b.v] (fun _=>True) (.bool (ballotR b)):=by
 refine ax (args:=[_]) _ Tryz.func170 rfl Tryz.ntmps170 rfl fun av bor w0=>?_
 have hid:=fF b.actor hs.actor
 repeat' (first|apply ab|apply cw_seq|apply cw_reg|refine ai ?_|refine ac ?_|refine az ?_|refine ay ?_|refine aB ?_|refine aE ?_|refine bN ?_|refine bP ?_|refine aH ?_|refine aL fun _=>?_|apply aq|(refine am (hc:=hid) (hX:=fun _ _=>trivial) ?_)|refine am (hc:=fN _ _ _) ?_|refine am (hc:=iP b.e b.s) ?_|(refine aV (vs:=[.int .i64 b.e,.int .i64 b.s]) (hv:=rfl) ?_)|((fail_if_success (refine aX ?_));refine aQ (ht:=?_) (hf:=?_);all_goals (intro hx_;first|have:=aO hx_|have:=aR hx_|skip))|fail)
 (all_goals (apply ak;apply ap;rfl;rfl));all_goals (simp only [ballotR,isDigestB, *,decide_true,decide_false,cond_true,cond_false,Bool.and_true,Bool.true_and,Bool.and_false,Bool.false_and,Bool.not_true,Bool.not_false,Bool.or_true,Bool.true_or,Bool.or_false,Bool.false_or];done)
def numsD (d:DecD):Bool:=withinB d.server 0 19&&(withinB d.number 0 1073741824&&(withinB d.kind 0 9&&(withinB d.from_ 0 1099511627776&&(withinB d.until_ 0 1099511627776&&decide (d.from_<d.until_)))))
def decF (d:DecD):Bool:=bif !numsD d||!sigB d.e d.s then false
 else bif kindO d.kind then seqB d.actor ⟨#[]⟩&&(isDigestB d.object&&(reasonD d&&plainD d))
 else bif decide (d.kind=8) then seqB d.actor ⟨#[]⟩&&(seqB d.object ⟨#[]⟩&&(reasonD d&&(isIds d.toL&&withinB d.n 1 (d.to.n:Nat))))
 else bif decide (d.kind=9) then seqB d.actor ⟨#[]⟩&&(seqB d.object ⟨#[]⟩&&(decide ((d.text.size:Int)≤4096)&&plainD d))
 else isId d.actor&&(seqB d.object ⟨#[]⟩&&(reasonD d&&plainD d))
theorem xp {k:Int} (h:withinB k 0 9=true) (h1:kindO k=false) (h2:decide (k=8)=false) (h3:decide (k=9)=false):kindA k=true:=by
 simp only [withinB,kindO,kindA,Bool.and_eq_true,Bool.or_eq_true,Bool.or_eq_false_iff,decide_eq_true_eq,decide_eq_false_iff_not] at *
 omega
theorem zx {k:Int} (h1:kindO k=true):withinB k 0 9=true∧kindA k=false:=by
 simp only [withinB,kindO,kindA,Bool.and_eq_true,Bool.or_eq_true,Bool.or_eq_false_iff,decide_eq_true_eq,decide_eq_false_iff_not] at *
 omega
theorem zy {k:Int} (h1:kindA k=true):withinB k 0 9=true∧kindO k=false∧decide (k=8)=false∧decide (k=9)=false:=by
 simp only [withinB,kindO,kindA,Bool.and_eq_true,Bool.or_eq_true,Bool.or_eq_false_iff,decide_eq_true_eq,decide_eq_false_iff_not] at *
 omega
theorem Aj (d:DecD):decF d=decR d:=by
 rw [decF,decR,numsD,termsB]
 cases hA:kindA d.kind with
 | true =>
  obtain ⟨h1,h2,h3,h4⟩:=zy hA
  rw [h1,h2,h3,h4]
  generalize withinB d.server 0 19=b1
  generalize withinB d.number 0 1073741824=b2
  generalize withinB d.from_ 0 1099511627776=b3
  generalize withinB d.until_ 0 1099511627776=b4
  generalize decide (d.from_<d.until_)=b5
  generalize sigB d.e d.s=b6
  simp only [cond_true,cond_false]
  generalize (isId d.actor&&(seqB d.object ⟨#[]⟩&&(reasonD d&&plainD d)))=b7
  cases b1<;>cases b2<;>cases b3<;>cases b4<;>cases b5<;>cases b6<;>cases b7<;>rfl
 | false =>
  cases hO:kindO d.kind with
  | true =>
   rw [(zx hO).1]
   generalize withinB d.server 0 19=b1
   generalize withinB d.number 0 1073741824=b2
   generalize withinB d.from_ 0 1099511627776=b3
   generalize withinB d.until_ 0 1099511627776=b4
   generalize decide (d.from_<d.until_)=b5
   generalize sigB d.e d.s=b6
   simp only [cond_true,cond_false]
   generalize (seqB d.actor ⟨#[]⟩&&(isDigestB d.object&&(reasonD d&&plainD d)))=b7
   cases b1<;>cases b2<;>cases b3<;>cases b4<;>cases b5<;>cases b6<;>cases b7<;>rfl
  | false =>
   cases h8:decide (d.kind=8) with
   | true =>
    have hw:withinB d.kind 0 9=true:=by rw [aO h8];rfl
    rw [hw]
    generalize withinB d.server 0 19=b1
    generalize withinB d.number 0 1073741824=b2
    generalize withinB d.from_ 0 1099511627776=b3
    generalize withinB d.until_ 0 1099511627776=b4
    generalize decide (d.from_<d.until_)=b5
    generalize sigB d.e d.s=b6
    simp only [cond_true,cond_false]
    generalize (seqB d.actor ⟨#[]⟩&&(seqB d.object ⟨#[]⟩&&(reasonD d&&(isIds d.toL&&withinB d.n 1 (d.to.n:Nat)))))=b7
    cases b1<;>cases b2<;>cases b3<;>cases b4<;>cases b5<;>cases b6<;>cases b7<;>rfl
   | false =>
    cases h9:decide (d.kind=9) with
    | true =>
     have hw:withinB d.kind 0 9=true:=by rw [aO h9];rfl
     rw [hw]
     generalize withinB d.server 0 19=b1
     generalize withinB d.number 0 1073741824=b2
     generalize withinB d.from_ 0 1099511627776=b3
     generalize withinB d.until_ 0 1099511627776=b4
     generalize decide (d.from_<d.until_)=b5
     generalize sigB d.e d.s=b6
     simp only [cond_true,cond_false]
     generalize (seqB d.actor ⟨#[]⟩&&(seqB d.object ⟨#[]⟩&&(decide ((d.text.size:Int)≤4096)&&plainD d)))=b7
     cases b1<;>cases b2<;>cases b3<;>cases b4<;>cases b5<;>cases b6<;>cases b7<;>rfl
    | false =>
     cases hw:withinB d.kind 0 9 with
     | true=>rw [xp hw hO h8 h9] at hA;cases hA
     | false=>simp
set_option maxHeartbeats 16000000 in
theorem lT (d:DecD) (hs:d.Str):Pu Tryz.prog 171 #[d.v] (fun w=>d.at_ w) (.bool (decR d)):=by
 refine ax (args:=[_]) _ Tryz.func171 rfl Tryz.ntmps171 rfl fun av bor w0=>?_
 rw [←Aj]
 have hid:=fF d.actor hs.actor
 have hids:=iS d.to d.toL hs.to
 repeat' (first|apply ab|apply cw_seq|apply cw_reg|refine ai ?_|refine ac ?_|refine az ?_|refine ay ?_|refine aB ?_|refine aE ?_|refine bM ?_|refine bN ?_|refine bc ?_|refine cw ?_|refine cD ?_|refine bP ?_|refine aZ ?_|refine aH ?_|refine bY ?_|refine aL fun _=>?_|refine cw_cond_t ?_|apply cw_skip|apply cw_block|apply aq|(refine am (hc:=hid) (hX:=fun _ _=>trivial) ?_)|(refine am (hc:=hids) (hX:=fun w h=>h) ?_)|refine am (hc:=fN _ _ _) ?_|refine am (hc:=iP d.e d.s) ?_|(refine aV (vs:=[.int .i64 d.e,.int .i64 d.s]) (hv:=rfl) ?_)|((fail_if_success (refine aX ?_));refine aQ (ht:=?_) (hf:=?_);all_goals (intro hx_;first|have:=aO hx_|have:=aR hx_|skip))|(refine aC (ht:=?_) (hf:=?_);all_goals (intro hx_;first|have:=aO hx_|have:=aR hx_|skip)))
 all_goals (apply ak;apply ap;rfl;rfl)
 all_goals first
  | rfl
  | (simp_all [decF,numsD,plainD,reasonD,kindO,isDigestB];done)
  | (simp_all [decF,numsD,plainD,reasonD,kindO,isDigestB];intros;omega)
theorem db (x:ByteArray) (l:List ByteArray):textsV (x::l)=textV x++textsV l:=rfl
theorem dv:textsV []=ByteArray.empty:=rfl
theorem dQ (x:Int) (l:List Int):numsV (x::l)=numV x++numsV l:=rfl
theorem ei:numsV []=ByteArray.empty:=rfl
structure ClaimD.Sm (c:ClaimD):Prop where
 actor:c.actor.size≤1000000
 prev:c.prev.size≤1000000
structure BallotD.Sm (c:BallotD):Prop where
 actor:c.actor.size≤1000000
 claim:c.claim.size≤1000000
structure DecD.Sm (c:DecD):Prop where
 actor:c.actor.size≤1000000
 object:c.object.size≤1000000
 text:c.text.size≤1000000
 to:(listV c.toL).size≤1000000
theorem nu (c:ClaimD) (hl:c.Lt) (hs:c.Sm):Pu Tryz.prog 180 #[c.v] (fun _=>True) (.string (coreCl c)):=by
 refine ax (args:=[_]) _ Tryz.func180 rfl Tryz.ntmps180 rfl fun av bor w0=>?_
 have h1:=hs.actor
 have h2:=hs.prev
 have s1:=aW c.actor
 have s2:=aW c.prev
 have n1:=aN c.base
 have n2:=aN c.gen
 have n3:=aN c.home
 have n4:=aN c.pub
 have n5:=aN c.time
 obtain ⟨i1,i2,i3,i4,i5,_,_⟩:=hl
 repeat' (first|apply ab|apply cw_seq|apply cw_reg|refine ac ?_|refine aL fun _=>?_|fail)
 (apply bF;kernel_rfl)
 all_goals refine aa 0 ?_
 all_goals refine aa 1 ?_
 all_goals refine aa 3 ?_
 all_goals refine aa 4 ?_
 all_goals refine aa 7 ?_
 all_goals refine aa 8 ?_
 all_goals refine aa 11 ?_
 all_goals refine aa 12 ?_
 all_goals refine aa 15 ?_
 all_goals refine aa 16 ?_
 all_goals refine aa 19 ?_
 all_goals refine aa 20 ?_
 all_goals refine aa 23 ?_
 all_goals refine aa 24 ?_
 all_goals (refine ae 2 ?_;(refine am (hc:=bR _ ad) ?_);apply ab;refine ag ?_)
 all_goals (refine ae 5 ?_;(refine am (hc:=bw _ ad) ?_);apply ab;refine ag ?_)
 all_goals (refine aa 6 (hy:=by (apply bA;rfl;rfl;(try simp only [ByteArray.size_append]);omega)) ?_)
 all_goals (refine ae 9 ?_;(refine am (hc:=bR _ ad) ?_);apply ab;refine ag ?_)
 all_goals (refine aa 10 (hy:=by (apply bA;rfl;rfl;(try simp only [ByteArray.size_append]);omega)) ?_)
 all_goals (refine ae 13 ?_;(refine am (hc:=bw _ ad) ?_);apply ab;refine ag ?_)
 all_goals (refine aa 14 (hy:=by (apply bA;rfl;rfl;(try simp only [ByteArray.size_append]);omega)) ?_)
 all_goals (refine ae 17 ?_;(refine am (hc:=bw _ ad) ?_);apply ab;refine ag ?_)
 all_goals (refine aa 18 (hy:=by (apply bA;rfl;rfl;(try simp only [ByteArray.size_append]);omega)) ?_)
 all_goals (refine ae 21 ?_;(refine am (hc:=bw _ ad) ?_);apply ab;refine ag ?_)
 all_goals (refine aa 22 (hy:=by (apply bA;rfl;rfl;(try simp only [ByteArray.size_append]);omega)) ?_)
 all_goals (refine ae 25 ?_;(refine am (hc:=bw _ ad) ?_);apply ab;refine ag ?_)
 all_goals (refine aa 26 (hy:=by (apply bA;rfl;rfl;(try simp only [ByteArray.size_append]);omega)) ?_)
 all_goals refine aa 27 ?_
 all_goals (refine ar ?_)
 all_goals
  repeat' (first|apply aq|fail)
  refine ak (ap rfl rfl) ?_
  simp only [coreCl,db,dv,dQ,ei,ByteArray.append_empty,ByteArray.append_assoc]
theorem io (c:BallotD) (hl:c.Lt) (hs:c.Sm):Pu Tryz.prog 176 #[c.v] (fun _=>True) (.string (coreBa c)):=by
 refine ax (args:=[_]) _ Tryz.func176 rfl Tryz.ntmps176 rfl fun av bor w0=>?_
 have h1:=hs.actor
 have h2:=hs.claim
 have s1:=aW c.actor
 have s2:=aW c.claim
 have n1:=aN c.server
 have n2:=aN c.gen
 have n3:=aN c.time
 obtain ⟨i1,i2,i3,_,_⟩:=hl
 repeat' (first|apply ab|apply cw_seq|apply cw_reg|refine ac ?_|refine aL fun _=>?_|fail)
 (apply bF;kernel_rfl)
 all_goals refine aa 0 ?_
 all_goals refine aa 1 ?_
 all_goals refine aa 3 ?_
 all_goals refine aa 4 ?_
 all_goals refine aa 7 ?_
 all_goals refine aa 8 ?_
 all_goals refine aa 11 ?_
 all_goals refine aa 12 ?_
 all_goals refine aa 15 ?_
 all_goals refine aa 16 ?_
 all_goals (refine ae 2 ?_;(refine am (hc:=bw _ ad) ?_);apply ab;refine ag ?_)
 all_goals (refine ae 5 ?_;(refine am (hc:=bR _ ad) ?_);apply ab;refine ag ?_)
 all_goals (refine aa 6 (hy:=by (apply bA;rfl;rfl;(try simp only [ByteArray.size_append]);omega)) ?_)
 all_goals (refine ae 9 ?_;(refine am (hc:=bw _ ad) ?_);apply ab;refine ag ?_)
 all_goals (refine aa 10 (hy:=by (apply bA;rfl;rfl;(try simp only [ByteArray.size_append]);omega)) ?_)
 all_goals (refine ae 13 ?_;(refine am (hc:=bR _ ad) ?_);apply ab;refine ag ?_)
 all_goals (refine aa 14 (hy:=by (apply bA;rfl;rfl;(try simp only [ByteArray.size_append]);omega)) ?_)
 all_goals (refine ae 17 ?_;(refine am (hc:=bw _ ad) ?_);apply ab;refine ag ?_)
 all_goals (refine aa 18 (hy:=by (apply bA;rfl;rfl;(try simp only [ByteArray.size_append]);omega)) ?_)
 all_goals refine aa 19 ?_
 all_goals (refine ar ?_)
 all_goals
  repeat' (first|apply aq|fail)
  refine ak (ap rfl rfl) ?_
  simp only [coreBa,db,dv,dQ,ei,ByteArray.append_empty,ByteArray.append_assoc]
theorem im (c:DecD) (hl:c.Lt) (hs:c.Sm):Pu Tryz.prog 177 #[c.v] (fun w=>c.at_ w) (.string (coreDe c)):=by
 refine ax (args:=[_]) _ Tryz.func177 rfl Tryz.ntmps177 rfl fun av bor w0=>?_
 have h1:=hs.actor
 have h2:=hs.object
 have h3:=hs.text
 have h4:=hs.to
 have s1:=aW c.actor
 have s2:=aW c.object
 have s3:=aW c.text
 have n1:=aN c.server
 have n2:=aN c.number
 have n3:=aN c.kind
 have n4:=aN c.n
 have n5:=aN c.from_
 have n6:=aN c.until_
 have hli:=kW c.to c.toL ad
 obtain ⟨i1,i2,i3,i4,i5,i6,_,_⟩:=hl
 repeat' (first|apply ab|apply cw_seq|apply cw_reg|refine ac ?_|refine aL fun _=>?_|fail)
 (apply bF;kernel_rfl)
 all_goals refine aa 0 ?_
 all_goals refine aa 1 ?_
 all_goals refine aa 3 ?_
 all_goals refine aa 4 ?_
 all_goals refine aa 7 ?_
 all_goals refine aa 8 ?_
 all_goals refine aa 11 ?_
 all_goals refine aa 12 ?_
 all_goals refine aa 15 ?_
 all_goals refine aa 16 ?_
 all_goals refine aa 19 ?_
 all_goals refine aa 20 ?_
 all_goals (refine ae 2 ?_;(refine am (hc:=bw _ ad) ?_);apply ab;refine ag ?_)
 all_goals (refine ae 5 ?_;(refine am (hc:=bw _ ad) ?_);apply ab;refine ag ?_)
 all_goals (refine aa 6 (hy:=by (apply bA;rfl;rfl;(try simp only [ByteArray.size_append]);omega)) ?_)
 all_goals (refine ae 9 ?_;(refine am (hc:=bw _ ad) ?_);apply ab;refine ag ?_)
 all_goals (refine aa 10 (hy:=by (apply bA;rfl;rfl;(try simp only [ByteArray.size_append]);omega)) ?_)
 all_goals (refine ae 13 ?_;(refine am (hc:=bR _ ad) ?_);apply ab;refine ag ?_)
 all_goals (refine aa 14 (hy:=by (apply bA;rfl;rfl;(try simp only [ByteArray.size_append]);omega)) ?_)
 all_goals (refine ae 17 ?_;(refine am (hc:=bR _ ad) ?_);apply ab;refine ag ?_)
 all_goals (refine aa 18 (hy:=by (apply bA;rfl;rfl;(try simp only [ByteArray.size_append]);omega)) ?_)
 all_goals (refine ae 21 ?_;(refine am (hc:=bR _ ad) ?_);apply ab;refine ag ?_)
 all_goals (refine aa 22 (hy:=by (apply bA;rfl;rfl;(try simp only [ByteArray.size_append]);omega)) ?_)
 all_goals refine aa 23 ?_
 all_goals (refine ar ?_)
 all_goals
  repeat' (first|apply cw_seq|fail)
  (apply bF;kernel_rfl)
  all_goals refine aa 0 ?_
  all_goals refine aa 1 ?_
  all_goals refine aa 2 ?_
  all_goals refine aa 5 ?_
  all_goals refine aa 6 ?_
  all_goals refine aa 9 ?_
  all_goals refine aa 10 ?_
  all_goals refine aa 13 ?_
  all_goals refine aa 14 ?_
  all_goals (refine ae 3 ?_;(refine am (hc:=hli) (hX:=fun w h=>h) ?_);apply ab;refine ag ?_)
  all_goals (refine aa 4 (hy:=by (apply bA;rfl;rfl;(try simp only [ByteArray.size_append]);omega)) ?_)
  all_goals (refine ae 7 ?_;(refine am (hc:=bw _ ad) ?_);apply ab;refine ag ?_)
  all_goals (refine aa 8 (hy:=by (apply bA;rfl;rfl;(try simp only [ByteArray.size_append]);omega)) ?_)
  all_goals (refine ae 11 ?_;(refine am (hc:=bw _ ad) ?_);apply ab;refine ag ?_)
  all_goals (refine aa 12 (hy:=by (apply bA;rfl;rfl;(try simp only [ByteArray.size_append]);omega)) ?_)
  all_goals (refine ae 15 ?_;(refine am (hc:=bw _ ad) ?_);apply ab;refine ag ?_)
  all_goals (refine aa 16 (hy:=by (apply bA;rfl;rfl;(try simp only [ByteArray.size_append]);omega)) ?_)
  all_goals refine aa 17 ?_
  all_goals (refine ar ?_)
  all_goals
   repeat' (first|apply aq|fail)
   refine ak (ap rfl rfl) ?_
   simp only [coreDe,db,dv,dQ,ei,ByteArray.append_empty,ByteArray.append_assoc]
theorem gM (e s:Int) (he:e<9223372036854775808) (hs:s<9223372036854775808):Pu Tryz.prog 181 #[.agg #[.int .i64 e,.int .i64 s]] (fun _=>True) (.string (numsV [e,s])):=by
 refine ax (args:=[_]) _ Tryz.func181 rfl Tryz.ntmps181 rfl fun av bor w0=>?_
 have n1:=aN e
 have n2:=aN s
 repeat' (first|apply ab|apply cw_seq|apply cw_reg|refine ac ?_|refine aL fun _=>?_|fail)
 (apply bF;kernel_rfl)
 all_goals refine aa 0 ?_
 all_goals refine aa 1 ?_
 all_goals refine aa 3 ?_
 all_goals refine aa 4 ?_
 all_goals (refine ae 2 ?_;(refine am (hc:=bw _ ad) ?_);apply ab;refine ag ?_)
 all_goals (refine ae 5 ?_;(refine am (hc:=bw _ ad) ?_);apply ab;refine ag ?_)
 all_goals (refine aa 6 (hy:=by (apply bA;rfl;rfl;(try simp only [ByteArray.size_append]);omega)) ?_)
 all_goals refine aa 7 ?_
 all_goals (refine ar ?_)
 all_goals
  repeat' (first|apply aq|fail)
  refine ak (ap rfl rfl) ?_
  simp only [dQ,ei,ByteArray.append_empty]
theorem cG {n l h:Int} (w:withinB n l h=true):l≤n∧n≤h:=by
 simpa only [withinB,Bool.and_eq_true,decide_eq_true_eq] using w
theorem qq {e s:Int} (w:sigB e s=true):(0≤e∧e≤2305843009213693949)∧0≤s∧s≤2305843009213693949:=by
 rw [sigB,Bool.and_eq_true] at w
 exact ⟨cG w.1,cG w.2⟩
theorem gB {s:ByteArray} (h:isId s=true):s.size=16:=by
 rw [isId,Bool.and_eq_true,decide_eq_true_eq] at h
 exact_mod_cast h.1
theorem gS {s:ByteArray} (h:isDigestB s=true):s.size=32:=by
 rw [isDigestB,decide_eq_true_eq] at h
 exact_mod_cast h
theorem dF {s:ByteArray} (h:seqB s ⟨#[]⟩=true):s.size=0:=by
 rw [seqB_iff.1 h];rfl
theorem gD {c:ClaimD} (h:claimR c=true):c.Lt∧c.Sm:=by
 simp only [claimR,Bool.and_eq_true] at h
 obtain ⟨h1,h2,h3,h4,h5,h6,h7,h8⟩:=h
 have e1:=gB h1
 have e2:=cG h2
 have e3:=gS h3
 have e4:=cG h4
 have e5:=cG h5
 have e6:=cG h6
 have e7:=cG h7
 have e8:=qq h8
 exact ⟨⟨by omega,by omega,by omega,by omega,by omega,by omega,by omega⟩,⟨by omega,by omega⟩⟩
theorem fY {c:BallotD} (h:ballotR c=true):c.Lt∧c.Sm:=by
 simp only [ballotR,Bool.and_eq_true] at h
 obtain ⟨h2,h1,h4,h3,h7,h8⟩:=h
 have e1:=gB h1
 have e2:=cG h2
 have e3:=gS h3
 have e4:=cG h4
 have e7:=cG h7
 have e8:=qq h8
 exact ⟨⟨by omega,by omega,by omega,by omega,by omega⟩,⟨by omega,by omega⟩⟩
theorem mI {m:Nat}:∀ {l:List ByteArray},(∀ x∈l,x.size≤m)→(cats l).size≤l.length*m
 | [],_=>by simp [cats]
 | a::l,h=>by
  have h1:=h a aF
  have h2:=mI (m:=m) (l:=l) fun x hx=>h x (List.mem_cons_of_mem _ hx)
  rw [cats,ByteArray.size_append,List.length_cons,Nat.add_mul]
  omega
theorem qR {l:List ByteArray} (h:isIds l=true):(listV l).size≤2000:=by
 rw [isIds,Bool.and_eq_true,Bool.not_eq_true',decide_eq_false_iff_not] at h
 have hl:l.length≤64:=by omega
 have he:∀ x∈l,x.size=16:=fun x hx=>by
  obtain ⟨k,hk,rfl⟩:=List.getElem_of_mem hx
  have h2:=h.2
  rw [allB,List.all_eq_true] at h2
  have h3:=h2 k (List.mem_range.2 hk)
  rw [Bool.not_eq_true',badIds,Bool.or_eq_false_iff,Bool.not_eq_false'] at h3
  have h4:=h3.1
  rw [List.getD_eq_getElem?_getD,List.getElem?_eq_getElem hk,Option.getD_some] at h4
  exact gB h4
 have h1:=aN (l.length:Int)
 have h2:=mI (m:=26) (l:=l.map textV) fun x hx=>by
  obtain ⟨y,hy,rfl⟩:=List.mem_map.1 hx
  have:=aN (y.size:Int)
  rw [textV,ByteArray.size_append,he y hy]
  have:=aN ((16:Nat):Int)
  omega
 rw [List.length_map] at h2
 rw [listV,ByteArray.size_append]
 omega
theorem ux:(listV []).size≤2000:=by
 have h1:=aN ((0:Nat):Int)
 rw [listV,ByteArray.size_append]
 simp only [List.map_nil,cats,ByteArray.size_empty,List.length_nil]
 omega
theorem gO {d:DecD} (hn:d.to.n=d.toL.length) (h:plainD d=true):(listV d.toL).size≤2000∧d.n=0:=by
 rw [plainD,Bool.and_eq_true,decide_eq_true_eq,decide_eq_true_eq] at h
 have:d.toL=[]:=List.length_eq_zero_iff.1 ad
 rw [this]
 exact ⟨ux,h.2⟩
theorem gc {d:DecD} (h:reasonD d=true):d.text.size≤500:=by
 rw [reasonD,decide_eq_true_eq] at h
 omega
theorem qf {d:DecD} (hn:d.to.n=d.toL.length) (h:termsB d=true):d.Sm∧0≤d.n∧d.n≤64∧d.kind<10:=by
 rw [termsB] at h
 cases hA:kindA d.kind with
 | true =>
  rw [hA,cond_true] at h
  simp only [Bool.and_eq_true] at h
  have e1:=gB h.1
  have e2:=dF h.2.1
  have e3:=gc h.2.2.1
  have e4:=gO hn h.2.2.2
  simp only [kindA,Bool.or_eq_true,decide_eq_true_eq] at hA
  exact ⟨⟨by omega,by omega,by omega,by omega⟩,by omega,by omega,by omega⟩
 | false =>
  rw [hA,cond_false] at h
  cases hO:kindO d.kind with
  | true =>
   rw [hO,cond_true] at h
   simp only [Bool.and_eq_true] at h
   have e1:=dF h.1
   have e2:=gS h.2.1
   have e3:=gc h.2.2.1
   have e4:=gO hn h.2.2.2
   simp only [kindO,Bool.or_eq_true,decide_eq_true_eq] at hO
   exact ⟨⟨by omega,by omega,by omega,by omega⟩,by omega,by omega,by omega⟩
  | false =>
   rw [hO,cond_false] at h
   cases h8:decide (d.kind=8) with
   | true =>
    rw [h8,cond_true] at h
    simp only [Bool.and_eq_true] at h
    have e1:=dF h.1
    have e2:=dF h.2.1
    have e3:=gc h.2.2.1
    have e4:=qR h.2.2.2.1
    have e5:=cG h.2.2.2.2
    have e6:=aO h8
    have e7:d.toL.length≤64:=by
     have:=h.2.2.2.1
     rw [isIds,Bool.and_eq_true,Bool.not_eq_true',decide_eq_false_iff_not] at this
     omega
    exact ⟨⟨by omega,by omega,by omega,by omega⟩,by omega,by omega,by omega⟩
   | false =>
    rw [h8,cond_false] at h
    cases h9:decide (d.kind=9) with
    | true =>
     rw [h9,cond_true] at h
     simp only [Bool.and_eq_true] at h
     have e1:=dF h.1
     have e2:=dF h.2.1
     have e3:=aO h.2.2.1
     have e4:=gO hn h.2.2.2
     have e6:=aO h9
     exact ⟨⟨by omega,by omega,by omega,by omega⟩,by omega,by omega,by omega⟩
    | false=>rw [h9] at h;cases h
theorem jQ {d:DecD} (hn:d.to.n=d.toL.length) (h:decR d=true):d.Lt∧d.Sm:=by
 simp only [decR,Bool.and_eq_true] at h
 obtain ⟨h1,h2,h3,h4,h5,h6,h7⟩:=h
 have e1:=cG h1
 have e2:=cG h2
 have e3:=cG h3
 have e4:=cG h4
 obtain ⟨e6,e7,e8,e9⟩:=qf hn h6
 have e10:=qq h7
 exact ⟨⟨by omega,by omega,by omega,by omega,by omega,by omega,by omega,by omega⟩,e6⟩
theorem fg {c:ClaimD} (hs:c.Sm):(coreCl c).size≤3000000:=by
 have h1:=hs.actor
 have h2:=hs.prev
 have s1:=aW c.actor
 have s2:=aW c.prev
 have n1:=aN c.base
 have n2:=aN c.gen
 have n3:=aN c.home
 have n4:=aN c.pub
 have n5:=aN c.time
 simp only [coreCl,db,dv,dQ,ei,ByteArray.append_empty,ByteArray.size_append]
 omega
theorem eI {c:BallotD} (hs:c.Sm):(coreBa c).size≤3000000:=by
 have h1:=hs.actor
 have h2:=hs.claim
 have s1:=aW c.actor
 have s2:=aW c.claim
 have n1:=aN c.server
 have n2:=aN c.gen
 have n3:=aN c.time
 simp only [coreBa,db,dv,dQ,ei,ByteArray.append_empty,ByteArray.size_append]
 omega
theorem eH {c:DecD} (hs:c.Sm):(coreDe c).size≤5000000:=by
 have h1:=hs.actor
 have h2:=hs.object
 have h3:=hs.text
 have h4:=hs.to
 have s1:=aW c.actor
 have s2:=aW c.object
 have s3:=aW c.text
 have n1:=aN c.server
 have n2:=aN c.number
 have n3:=aN c.kind
 have n4:=aN c.n
 have n5:=aN c.from_
 have n6:=aN c.until_
 simp only [coreDe,db,dv,dQ,ei,ByteArray.append_empty,ByteArray.size_append]
 omega
theorem la {nm p:ByteArray} (h:nm.size≤20) (hp:p.size≤5000000):(textsV [nm]++p).size≤6000000:=by
 have s1:=aW nm
 simp only [db,dv,ByteArray.append_empty,ByteArray.size_append]
 omega
theorem dB (e s:Int):(numsV [e,s]).size≤20:=by
 have n1:=aN e
 have n2:=aN s
 simp only [dQ,ei,ByteArray.append_empty,ByteArray.size_append]
 omega
def bodyIt (i:ItemD):ByteArray:=bif decide (i.kind=0) then actBytes i.act else bif decide (i.kind=1) then coreCl i.claim++numsV [i.claim.e,i.claim.s] else bif decide (i.kind=2) then coreBa i.ballot++numsV [i.ballot.e,i.ballot.s] else coreDe i.dec++numsV [i.dec.e,i.dec.s]
def bytesIt (i:ItemD):ByteArray:=bif rightIt i then numV i.kind++bodyIt i else ⟨#[]⟩
def digIt (i:ItemD):ByteArray:=bif seqB (bytesIt i) ⟨#[]⟩ then ⟨#[]⟩ else shaV (bytesIt i)
theorem dU {i:ItemD} (h:rightIt i=true):i.kind=0∧rightB i.act=true∨i.kind=1∧claimR i.claim=true∨i.kind=2∧ballotR i.ballot=true∨i.kind=3∧decR i.dec=true:=by
 rw [rightIt,Bool.and_eq_true] at h
 have h:=h.1
 rw [rightK2] at h
 by_cases h0:i.kind=0
 · rw [decide_eq_true h0] at h;exact .inl ⟨h0,h⟩
 by_cases h1:i.kind=1
 · rw [decide_eq_false h0,decide_eq_true h1] at h;exact .inr (.inl ⟨h1,h⟩)
 by_cases h2:i.kind=2
 · rw [decide_eq_false h0,decide_eq_false h1,decide_eq_true h2] at h;exact .inr (.inr (.inl ⟨h2,h⟩))
 by_cases h3:i.kind=3
 · rw [decide_eq_false h0,decide_eq_false h1,decide_eq_false h2,decide_eq_true h3] at h;exact .inr (.inr (.inr ⟨h3,h⟩))
 rw [decide_eq_false h0,decide_eq_false h1,decide_eq_false h2,decide_eq_false h3] at h
 cases h
theorem oQ {i:ItemD} (h:i.kind=0) (hr:rightIt i=true):rightB i.act=true:=by
 rcases dU hr with h1|h1|h1|h1
 · exact h1.2
 all_goals (rw [h] at h1;exact absurd h1.1 (by decide))
theorem gu {i:ItemD} (hr:i.act.Rng) (hn:i.dec.to.n=i.dec.toL.length) (h:rightIt i=true):(bodyIt i).size≤300000000025:=by
 rw [bodyIt]
 rcases dU h with ⟨h0,h1⟩|⟨h0,h1⟩|⟨h0,h1⟩|⟨h0,h1⟩
 · have:=fu hr
   rw [h0]
   show (actBytes i.act).size≤_
   omega
 · have:=fg (gD h1).2
   have:=dB i.claim.e i.claim.s
   rw [h0]
   show (coreCl i.claim++numsV [i.claim.e,i.claim.s]).size≤_
   rw [ByteArray.size_append]
   omega
 · have:=eI (fY h1).2
   have:=dB i.ballot.e i.ballot.s
   rw [h0]
   show (coreBa i.ballot++numsV [i.ballot.e,i.ballot.s]).size≤_
   rw [ByteArray.size_append]
   omega
 · have:=eH (jQ hn h1).2
   have:=dB i.dec.e i.dec.s
   rw [h0]
   show (coreDe i.dec++numsV [i.dec.e,i.dec.s]).size≤_
   rw [ByteArray.size_append]
   omega
theorem iA {i:ItemD} (hr:i.act.Rng) (hn:i.dec.to.n=i.dec.toL.length):(bytesIt i).size≤300000000040:=by
 rw [bytesIt]
 cases h:rightIt i with
 | false=>rw [cond_false];simp [ByteArray.size]
 | true =>
  have:=gu hr hn h
  have:=aN i.kind
  rw [cond_true,ByteArray.size_append]
  omega
set_option maxRecDepth 20000 in
set_option maxHeartbeats 16000000 in
theorem lV (i:ItemD) (hr:i.act.Rng) (hdn:i.dec.to.n=i.dec.toL.length):Pu Tryz.prog 38 #[i.v] (fun w=>i.at_ w) (.string (bytesIt i)):=by
 have hri:=gH i
 have hbs:=@gu i hr hdn
 rw [bytesIt]
 cases hrB:rightIt i with
 | false =>
  rw [hrB] at hri
  refine ax (args:=[_]) _ Tryz.func38 rfl Tryz.ntmps38 rfl fun av bor w0=>?_
  repeat' (first|apply ab|apply cw_seq|apply cw_reg|refine ac ?_|refine aG ?_|refine bM ?_|refine aL fun _=>?_|refine cw_cond_t ?_|apply aq|(refine am (hc:=hri) (hX:=fun w h=>h) ?_)|fail)
  all_goals exact ak (ap rfl rfl) rfl
 | true =>
 rw [hrB] at hri
 have hk:=dU hrB
 replace hbs:=hbs hrB
 have hkl:i.kind<9223372036854775808:=by rcases hk with h|h|h|h<;>omega
 refine ax (args:=[_]) _ Tryz.func38 rfl Tryz.ntmps38 rfl fun av bor w0=>?_
 repeat' (first|apply ab|apply cw_seq|apply cw_reg|refine ac ?_|refine az ?_|refine ay ?_|refine aG ?_|refine bM ?_|refine aK fun _=>?_|refine aL fun _=>?_|refine bQ fun _=>?_|refine cw_cond_f ?_|apply cw_skip|(refine am (hc:=hri) (hX:=fun w h=>h) ?_)|fail)
 rename_i bi bb bs
 have hS:(⟨#[]⟩:ByteArray)++numsV [i.kind]=numV i.kind:=by
  show ByteArray.empty++(numV i.kind++ByteArray.empty)=numV i.kind
  rw [ByteArray.append_empty,ByteArray.empty_append]
 have hnk:=aN i.kind
 have hns:(⟨#[]⟩:ByteArray).size+(numsV [i.kind]).size≤1099511627776:=by
  rw [←ByteArray.size_append,hS]
  omega
 refine cj ?_
 refine iL 5 1 ?_
 refine dr (l:=bld bb none 0 ⟨#[]⟩++[cel bi 57 i.cells]) (List.Perm.swap _ _ _) ?_
 refine cF (pre:=bld bb none 0 ⟨#[]⟩) (fr:=[cel bi 57 i.cells]) (hc:=d6 bb none 0 ⟨#[]⟩ ⟨some ⟨bs,0,none⟩,1,1⟩ [i.kind] (by simpa using hkl) hns) (hX:=fun w h=>bL (xs:=[[.int .i64 i.kind]]) h.2 rfl (by decide) (by simp)) (h:=?_)
 rintro v R X' ⟨A1,c1,rfl,rfl⟩
 refine cS (X':=fun w=>i.at_ w) (fun w h=>h.1.1) ?_
 rw [hS]
 generalize hs1:numV i.kind=s1 at *
 rw [bodyIt] at hbs ⊢
 rcases hk with ⟨h0,h1⟩|⟨h0,h1⟩|⟨h0,h1⟩|⟨h0,h1⟩
 · rw [decide_eq_true h0,cond_true] at hbs ⊢
   have hab:=jF i.act (dW hr) ⟨hr.ints.2.2.2.2.2.2.2.1,hr.ints.2.2.2.2.2.2.2.2⟩
   generalize actBytes i.act=body at *
   unfold bld
   repeat' (first|refine bp (hab:=h0) ?_|apply ab|apply cw_seq|apply cw_reg|refine az ?_|refine ay ?_|refine cw_cond_t ?_|fail)
   simp only [List.cons_append,List.nil_append]
   (refine aT [cel bi 57 i.cells] (fun w=>i.at_ w) aj ?_)
   all_goals refine aa 0 ?_
   all_goals refine aa 2 ?_
   all_goals (refine aa 3 (hy:=by (apply cC (vs:=i.act.cells);rfl;exact .head _;rfl;rfl)) ?_)
   all_goals (refine bu 1 4 (h:=?_) (h':=?_);(focus (((refine ay ?_);apply ab;refine ag ?_);all_goals ((refine ae 4 ?_;(refine am (hc:=hab) (hX:=fun w h=>h.1) ?_);apply ab;refine ag ?_);all_goals (refine ae 5 ?_;(refine aU (size:=1) (z:=.int .u8 0) rfl rfl rfl rfl (fun _=>At.there _ (At.here _)) (fun w G=>d5 ad) ad (by simp only [maxLen];omega) rfl ?_ rfl ?_;(with_reducible rfl);intro A2 c2);apply ab;refine ag ?_);all_goals (refine aa 6 ?_);all_goals (refine ae 7 ?_;(refine aY ?_);apply ab;refine ag ?_);all_goals (refine ar ?_))));rotate_right;(focus (((refine am (hc:=hab) (hX:=fun w h=>h.1) ?_);apply ab;refine ag ?_);all_goals ((refine ae 1 ?_;(refine ay ?_);apply ab;refine ag ?_);all_goals (refine ae 5 ?_;(refine aU (size:=1) (z:=.int .u8 0) rfl rfl rfl rfl (fun _=>At.there _ (At.here _)) (fun w G=>d5 ad) ad (by simp only [maxLen];omega) rfl ?_ rfl ?_;(with_reducible rfl);intro A2 c2);apply ab;refine ag ?_);all_goals (refine aa 6 ?_);all_goals (refine ae 7 ?_;(refine aY ?_);apply ab;refine ag ?_);all_goals (refine ar ?_)))))
   all_goals
    repeat' (first|apply cw_seq|apply cw_reg|refine az ?_|refine ay ?_|fail)
    rw [←ck,←dG]
    refine eK (hm:=List.mem_cons_of_mem _ aF) ?_
    repeat' (first|apply ab|refine ac ?_|apply aq|fail)
    apply ak;apply ap;rfl;rfl
    simp only [cT,cond_true]
 · rw [decide_eq_false (show ¬ i.kind=0 by omega),cond_false,decide_eq_true h0,cond_true] at hbs ⊢
   obtain ⟨hl,hsm⟩:=gD h1
   have hfo:=lp i h0
   have hcs:=fg hsm
   have hn2:=dB i.claim.e i.claim.s
   have hc1:=fun (A:Option Addr) (c:Nat)=>mH bb A c s1 i hl ad
   have hc2:=fun (A:Option Addr) (c:Nat) (p:ByteArray) (hp:p.size≤6000000) (sl:SlV)=>d6 bb A c p sl [i.claim.e,i.claim.s] (by simp;exact ⟨hl.e,hl.s⟩) ad
   generalize coreCl i.claim=core at *
   generalize numsV [i.claim.e,i.claim.s]=sg at *
   unfold bld
   repeat' (first|refine bt (hab:=by omega) ?_|apply ab|apply cw_seq|apply cw_reg|refine az ?_|refine ay ?_|refine aG ?_|refine aK fun _=>?_|refine aI ?_|refine cw_cond_f ?_|(refine am (hc:=hfo) (hX:=fun _ _=>trivial) ?_)|fail)
   rename_i bf
   refine dr (l:=bld bb A1 c1 s1++[cel bf 125 (formCells nameC 110 i.claim.e i.claim.s),cel bi 57 i.cells]) (show List.Perm ([_]++[_,_]++[_]) ([_,_]++[_]++[_]) from List.perm_append_comm.append_right _) ?_
   refine cF (pre:=bld bb A1 c1 s1) (fr:=[cel bf 125 (formCells nameC 110 i.claim.e i.claim.s),cel bi 57 i.cells]) (hc:=hc1 A1 c1) (hX:=fun _ _=>trivial) (h:=?_)
   rintro v R X' ⟨A2,c2,rfl,rfl⟩
   refine cS (X':=fun w=>i.at_ w) (fun w h=>h.1) ?_
   unfold bld
   repeat' (first|apply ab|apply cw_reg|refine az ?_|refine ay ?_|refine bQ fun _=>?_|fail)
   rename_i bs2
   refine cj ?_
   refine cF (pre:=bld bb A2 c2 (s1++core)) (fr:=[cel bf 125 (formCells nameC 110 i.claim.e i.claim.s),cel bi 57 i.cells]) (hc:=hc2 A2 c2 (s1++core) (by rw [ByteArray.size_append];omega) ⟨some ⟨bs2,0,none⟩,2,2⟩) (hX:=fun w h=>bL (xs:=[[.int .i64 i.claim.e],[.int .i64 i.claim.s]]) h.2 rfl (by decide) (by simp)) (h:=?_)
   rintro v R X' ⟨A3,c3,rfl,rfl⟩
   unfold bld
   repeat' (first|apply ab|apply cw_seq|apply cw_reg|refine az ?_|refine ay ?_|fail)
   refine eK (hm:=List.mem_cons_of_mem _ aF) ?_
   repeat' (first|apply ab|refine ac ?_|apply aq|fail)
   all_goals
    apply ak;apply ap;rfl;rfl
    simp only [cT,cond_true,ByteArray.append_assoc]
 · rw [decide_eq_false (show ¬ i.kind=0 by omega),cond_false,decide_eq_false (show ¬ i.kind=1 by omega),cond_false,decide_eq_true h0,cond_true] at hbs ⊢
   obtain ⟨hl,hsm⟩:=fY h1
   have hfo:=xz i h0
   have hcs:=eI hsm
   have hn2:=dB i.ballot.e i.ballot.s
   have hc1:=fun (A:Option Addr) (c:Nat)=>rf bb A c s1 i hl ad
   have hc2:=fun (A:Option Addr) (c:Nat) (p:ByteArray) (hp:p.size≤6000000) (sl:SlV)=>d6 bb A c p sl [i.ballot.e,i.ballot.s] (by simp;exact ⟨hl.e,hl.s⟩) ad
   generalize coreBa i.ballot=core at *
   generalize numsV [i.ballot.e,i.ballot.s]=sg at *
   unfold bld
   repeat' (first|refine bt (hab:=by omega) ?_|apply ab|apply cw_seq|apply cw_reg|refine az ?_|refine ay ?_|refine aG ?_|refine aK fun _=>?_|refine aI ?_|refine cw_cond_f ?_|(refine am (hc:=hfo) (hX:=fun _ _=>trivial) ?_)|fail)
   rename_i bf
   refine dr (l:=bld bb A1 c1 s1++[cel bf 125 (formCells nameB 111 i.ballot.e i.ballot.s),cel bi 57 i.cells]) (show List.Perm ([_]++[_,_]++[_]) ([_,_]++[_]++[_]) from List.perm_append_comm.append_right _) ?_
   refine cF (pre:=bld bb A1 c1 s1) (fr:=[cel bf 125 (formCells nameB 111 i.ballot.e i.ballot.s),cel bi 57 i.cells]) (hc:=hc1 A1 c1) (hX:=fun _ _=>trivial) (h:=?_)
   rintro v R X' ⟨A2,c2,rfl,rfl⟩
   refine cS (X':=fun w=>i.at_ w) (fun w h=>h.1) ?_
   unfold bld
   repeat' (first|apply ab|apply cw_reg|refine az ?_|refine ay ?_|refine bQ fun _=>?_|fail)
   rename_i bs2
   refine cj ?_
   refine cF (pre:=bld bb A2 c2 (s1++core)) (fr:=[cel bf 125 (formCells nameB 111 i.ballot.e i.ballot.s),cel bi 57 i.cells]) (hc:=hc2 A2 c2 (s1++core) (by rw [ByteArray.size_append];omega) ⟨some ⟨bs2,0,none⟩,2,2⟩) (hX:=fun w h=>bL (xs:=[[.int .i64 i.ballot.e],[.int .i64 i.ballot.s]]) h.2 rfl (by decide) (by simp)) (h:=?_)
   rintro v R X' ⟨A3,c3,rfl,rfl⟩
   unfold bld
   repeat' (first|apply ab|apply cw_seq|apply cw_reg|refine az ?_|refine ay ?_|fail)
   refine eK (hm:=List.mem_cons_of_mem _ aF) ?_
   repeat' (first|apply ab|refine ac ?_|apply aq|fail)
   all_goals
    apply ak;apply ap;rfl;rfl
    simp only [cT,cond_true,ByteArray.append_assoc]
 · rw [decide_eq_false (show ¬ i.kind=0 by omega),cond_false,decide_eq_false (show ¬ i.kind=1 by omega),cond_false,decide_eq_false (show ¬ i.kind=2 by omega),cond_false] at hbs ⊢
   obtain ⟨hl,hsm⟩:=jQ hdn h1
   have hfo:=xy i h0
   have hcs:=eH hsm
   have hn2:=dB i.dec.e i.dec.s
   have hc1:=fun (A:Option Addr) (c:Nat)=>nL bb A c s1 i hl ad
   have hc2:=fun (A:Option Addr) (c:Nat) (p:ByteArray) (hp:p.size≤6000000) (sl:SlV)=>d6 bb A c p sl [i.dec.e,i.dec.s] (by simp;exact ⟨hl.e,hl.s⟩) ad
   generalize coreDe i.dec=core at *
   generalize numsV [i.dec.e,i.dec.s]=sg at *
   unfold bld
   repeat' (first|refine bt (hab:=by omega) ?_|apply ab|apply cw_seq|apply cw_reg|refine az ?_|refine ay ?_|refine aG ?_|refine aK fun _=>?_|refine aI ?_|refine cw_cond_f ?_|(refine am (hc:=hfo) (hX:=fun _ _=>trivial) ?_)|fail)
   rename_i bf
   refine dr (l:=bld bb A1 c1 s1++[cel bf 125 (formCells nameD 112 i.dec.e i.dec.s),cel bi 57 i.cells]) (show List.Perm ([_]++[_,_]++[_]) ([_,_]++[_]++[_]) from List.perm_append_comm.append_right _) ?_
   refine cF (pre:=bld bb A1 c1 s1) (fr:=[cel bf 125 (formCells nameD 112 i.dec.e i.dec.s),cel bi 57 i.cells]) (hc:=hc1 A1 c1) (hX:=fun w h=>h) (h:=?_)
   rintro v R X' ⟨A2,c2,rfl,rfl⟩
   refine cS (X':=fun w=>i.at_ w) (fun w h=>h.1) ?_
   unfold bld
   repeat' (first|apply ab|apply cw_reg|refine az ?_|refine ay ?_|refine bQ fun _=>?_|fail)
   rename_i bs2
   refine cj ?_
   refine cF (pre:=bld bb A2 c2 (s1++core)) (fr:=[cel bf 125 (formCells nameD 112 i.dec.e i.dec.s),cel bi 57 i.cells]) (hc:=hc2 A2 c2 (s1++core) (by rw [ByteArray.size_append];omega) ⟨some ⟨bs2,0,none⟩,2,2⟩) (hX:=fun w h=>bL (xs:=[[.int .i64 i.dec.e],[.int .i64 i.dec.s]]) h.2 rfl (by decide) (by simp)) (h:=?_)
   rintro v R X' ⟨A3,c3,rfl,rfl⟩
   unfold bld
   repeat' (first|apply ab|apply cw_seq|apply cw_reg|refine az ?_|refine ay ?_|fail)
   refine eK (hm:=List.mem_cons_of_mem _ aF) ?_
   repeat' (first|apply ab|refine ac ?_|apply aq|fail)
   all_goals
    apply ak;apply ap;rfl;rfl
    simp only [cT,cond_true,ByteArray.append_assoc]
theorem gi (i:ItemD) (hr:i.act.Rng) (hdn:i.dec.to.n=i.dec.toL.length):Pu Tryz.prog 14 #[i.v] (fun w=>i.at_ w∧Glob w) (.string (digIt i)):=by
 refine ax (args:=[_]) _ Tryz.func14 rfl Tryz.ntmps14 rfl fun av bor w0=>?_
 have hsz:=iA hr hdn
 have hb:=lV i hr hdn
 repeat' (first|apply ab|apply cw_seq|apply cw_reg|refine ai ?_|refine ac ?_|refine aG ?_|refine cD ?_|refine aL fun _=>?_|apply cw_skip|apply aq|(refine am (hc:=hb) (hX:=fun w h=>h.1) ?_)|refine am (hc:=nf _ ad) ?_|(refine aC (ht:=?_) (hf:=?_);all_goals (intro hx_;skip)))
 all_goals (apply ak;apply ap;rfl;rfl)
 · simp only [digIt,hx_,cond_true]
 · simp only [digIt,hx_,cond_false]
theorem uI {i:ItemD} (h:i.kind=0) (hr:rightIt i=true):digIt i=digV i.act:=by
 have e:bytesIt i=bytesV i.act:=by rw [bytesIt,bytesV,hr,oQ h hr,cond_true,cond_true,bodyIt,h];rfl
 rw [digIt,digV,e]
theorem q7 (p:Int) (c:ClaimD) (h:claimR c=true):Pu Tryz.prog 52 #[.int .i64 p,c.v] Glob (.bool (sgnC p c)):=by
 refine ax (args:=[_,_]) _ Tryz.func52 rfl Tryz.ntmps52 rfl fun av bor w0=>?_
 obtain ⟨hl,hsm⟩:=gD h
 have hsi:=nd p (ofClaimI c) rfl hl (Nat.le_trans (la (by decide) (Nat.le_trans (fg hsm) (by decide))) (by decide))
 have hat:∀ w,(ofClaimI c).at_ w:=fun w=>⟨⟨cA w 1,cA w 5⟩,cA w 1⟩
 repeat' (first|apply ab|apply cw_seq|apply cw_reg|refine ai ?_|refine ac ?_|refine aG ?_|refine aL fun _=>?_|apply aq|(refine am (hc:=fO c) (hX:=fun _ _=>trivial) ?_)|(refine am (hc:=hsi) (hX:=fun w h=>⟨hat w,h⟩) ?_)|fail)
 exact ak (ap rfl rfl) rfl
def signedIt (L:List Int) (i:ItemD):Bool:=rightIt i&&bif decide (i.kind=2) then decide (i.ballot.server<(L.length:Nat))&&sgnB (L.getD i.ballot.server.toNat 0) i.ballot else bif decide (i.kind=3) then decide (i.dec.server<(L.length:Nat))&&sgnD (L.getD i.dec.server.toNat 0) i.dec else true
end Go.Proofs.YtcdilibijnboeaaGreatDoor
