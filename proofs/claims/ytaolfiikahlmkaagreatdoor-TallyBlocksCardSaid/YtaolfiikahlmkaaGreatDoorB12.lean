/- Joined. -/
import Derived.Test.YtaolfiikahlmkaaGreatDoorB11
set_option linter.unusedVariables false
set_option linter.unusedSimpArgs false
set_option maxHeartbeats 16000000
namespace Go.Proofs.YtaolfiikahlmkaaGreatDoor
open Go Go.Proofs Sy Tryz
def maskB (fs:Nat) (z0 z1 z2 z3 z4 z5 z6 z7 z8 z9 z10:Bool):Bool:=(fs.testBit 0||z0)&&(fs.testBit 1||z1)&&(fs.testBit 2||z2)&&(fs.testBit 3||z3)&&(fs.testBit 4||z4)&&(fs.testBit 5||z5)&&(fs.testBit 6||z6)&&(fs.testBit 7||z7)&&(fs.testBit 8||z8)&&(fs.testBit 9||z9)&&(fs.testBit 10||z10)
def maskOk (fs:Nat) (z0 z1 z2 z3 z4 z5 z6 z7 z8 z9 z10:Bool):Bool:=decide (bitsV .andNot .i64 (useU z0 z1 z2 z3 z4 z5 z6 z7 z8 z9 z10) fs=0)==maskB fs z0 z1 z2 z3 z4 z5 z6 z7 z8 z9 z10
def maskAll (fs:Nat):Bool:=bools fun z0=>bools fun z1=>bools fun z2=>bools fun z3=>bools fun z4=>bools fun z5=>bools fun z6=>bools fun z7=>bools fun z8=>bools fun z9=>bools fun z10=>maskOk fs z0 z1 z2 z3 z4 z5 z6 z7 z8 z9 z10
theorem uG:([1568,252,253,1,2,33,24,412,35,1536,1808,513,546].all maskAll)=true:=by decide +kernel
theorem cv {fs:Nat} (hfs:fs∈[1568,252,253,1,2,33,24,412,35,1536,1808,513,546]) (z0 z1 z2 z3 z4 z5 z6 z7 z8 z9 z10:Bool):decide (bitsV .andNot .i64 (useU z0 z1 z2 z3 z4 z5 z6 z7 z8 z9 z10) fs=0)=maskB fs z0 z1 z2 z3 z4 z5 z6 z7 z8 z9 z10:=by
 have h:=List.all_eq_true.1 uG fs hfs
 have h1:=bS (bS (bS (bS (bS (bS (bS (bS (bS (bS (bS h z0) z1) z2) z3) z4) z5) z6) z7) z8) z9) z10
 exact eq_of_beq h1
theorem bI (a:Xa):usedV a=useU (seqB a.object ⟨#[]⟩) (seqB a.target ⟨#[]⟩) (decide (a.scope=0)) (seqB a.group ⟨#[]⟩) (decide ((a.to.n:Int)=0)) (seqB a.text ⟨#[]⟩) (boxEq a.body Xo.zero) (decide (a.epoch=0)) (decide ((a.wraps.n:Int)=0)) (decide (a.n=0)) (decide (a.m=0)):=rfl
theorem lt20 (m:Int):decide (m<20)=decide (m≤19):=decide_eq_decide.2 aa
theorem aZ (a:Xa):sealedScopeB a.scope a.group=(decide (1≤a.scope)&&decide (a.scope≤3)&&groupR a):=by
 rw [sealedScopeB,groupR]
 by_cases h2:a.scope=2
 · rw [h2];rfl
 by_cases h1:a.scope=1
 · rw [h1];rfl
 by_cases h3:a.scope=3
 · rw [h3];rfl
 rw [Zd h1,Zd h2,Zd h3]
 by_cases hl:1≤a.scope
 · rw [Zd (show ¬ a.scope≤3 by omega),Zl]
   rfl
 · rw [Zd hl]
   rfl
theorem wN (s:ByteArray) (h:seqB s ⟨#[]⟩=true):decide ((s.size:Int)=32)=false:=by
 rw [dv,Zv] at h
 exact Zd aa
theorem Jz {a:Xa} (h:a.kind=0):ruleB a=(maskB 1568 (seqB a.object ⟨#[]⟩) (seqB a.target ⟨#[]⟩) (decide (a.scope=0)) (seqB a.group ⟨#[]⟩) (decide ((a.to.n:Int)=0)) (seqB a.text ⟨#[]⟩) (boxEq a.body Xo.zero) (decide (a.epoch=0)) (decide ((a.wraps.n:Int)=0)) (decide (a.n=0)) (decide (a.m=0))&&rule3B a):=by
 have hm:mget (ruleL a) a.kind=some (1568,rule3B a):=by rw [h];rfl
 rw [ruleB,hm]
 simp only
 rw [bI]
 exact congrArg (·&&_) (cv (fs:=1568) (by decide) _ _ _ _ _ _ _ _ _ _ _)
theorem Jy {a:Xa} (h:a.kind=1):ruleB a=(maskB 252 (seqB a.object ⟨#[]⟩) (seqB a.target ⟨#[]⟩) (decide (a.scope=0)) (seqB a.group ⟨#[]⟩) (decide ((a.to.n:Int)=0)) (seqB a.text ⟨#[]⟩) (boxEq a.body Xo.zero) (decide (a.epoch=0)) (decide ((a.wraps.n:Int)=0)) (decide (a.n=0)) (decide (a.m=0))&&audienceB a):=by
 have hm:mget (ruleL a) a.kind=some (252,audienceB a):=by rw [h];rfl
 rw [ruleB,hm]
 simp only
 rw [bI]
 exact congrArg (·&&_) (cv (fs:=252) (by decide) _ _ _ _ _ _ _ _ _ _ _)
theorem Jx {a:Xa} (h:a.kind=2):ruleB a=(maskB 253 (seqB a.object ⟨#[]⟩) (seqB a.target ⟨#[]⟩) (decide (a.scope=0)) (seqB a.group ⟨#[]⟩) (decide ((a.to.n:Int)=0)) (seqB a.text ⟨#[]⟩) (boxEq a.body Xo.zero) (decide (a.epoch=0)) (decide ((a.wraps.n:Int)=0)) (decide (a.n=0)) (decide (a.m=0))&&rule1B a):=by
 have hm:mget (ruleL a) a.kind=some (253,rule1B a):=by rw [h];rfl
 rw [ruleB,hm]
 simp only
 rw [bI]
 exact congrArg (·&&_) (cv (fs:=253) (by decide) _ _ _ _ _ _ _ _ _ _ _)
theorem Jw {a:Xa} (h:a.kind=3):ruleB a=(maskB 253 (seqB a.object ⟨#[]⟩) (seqB a.target ⟨#[]⟩) (decide (a.scope=0)) (seqB a.group ⟨#[]⟩) (decide ((a.to.n:Int)=0)) (seqB a.text ⟨#[]⟩) (boxEq a.body Xo.zero) (decide (a.epoch=0)) (decide ((a.wraps.n:Int)=0)) (decide (a.n=0)) (decide (a.m=0))&&rule1B a):=by
 have hm:mget (ruleL a) a.kind=some (253,rule1B a):=by rw [h];rfl
 rw [ruleB,hm]
 simp only
 rw [bI]
 exact congrArg (·&&_) (cv (fs:=253) (by decide) _ _ _ _ _ _ _ _ _ _ _)
theorem Jv {a:Xa} (h:a.kind=4):ruleB a=(maskB 1 (seqB a.object ⟨#[]⟩) (seqB a.target ⟨#[]⟩) (decide (a.scope=0)) (seqB a.group ⟨#[]⟩) (decide ((a.to.n:Int)=0)) (seqB a.text ⟨#[]⟩) (boxEq a.body Xo.zero) (decide (a.epoch=0)) (decide ((a.wraps.n:Int)=0)) (decide (a.n=0)) (decide (a.m=0))&&objectB a):=by
 have hm:mget (ruleL a) a.kind=some (1,objectB a):=by rw [h];rfl
 rw [ruleB,hm]
 simp only
 rw [bI]
 exact congrArg (·&&_) (cv (fs:=1) (by decide) _ _ _ _ _ _ _ _ _ _ _)
theorem Ju {a:Xa} (h:a.kind=5):ruleB a=(maskB 1 (seqB a.object ⟨#[]⟩) (seqB a.target ⟨#[]⟩) (decide (a.scope=0)) (seqB a.group ⟨#[]⟩) (decide ((a.to.n:Int)=0)) (seqB a.text ⟨#[]⟩) (boxEq a.body Xo.zero) (decide (a.epoch=0)) (decide ((a.wraps.n:Int)=0)) (decide (a.n=0)) (decide (a.m=0))&&objectB a):=by
 have hm:mget (ruleL a) a.kind=some (1,objectB a):=by rw [h];rfl
 rw [ruleB,hm]
 simp only
 rw [bI]
 exact congrArg (·&&_) (cv (fs:=1) (by decide) _ _ _ _ _ _ _ _ _ _ _)
theorem Jt {a:Xa} (h:a.kind=6):ruleB a=(maskB 1 (seqB a.object ⟨#[]⟩) (seqB a.target ⟨#[]⟩) (decide (a.scope=0)) (seqB a.group ⟨#[]⟩) (decide ((a.to.n:Int)=0)) (seqB a.text ⟨#[]⟩) (boxEq a.body Xo.zero) (decide (a.epoch=0)) (decide ((a.wraps.n:Int)=0)) (decide (a.n=0)) (decide (a.m=0))&&objectB a):=by
 have hm:mget (ruleL a) a.kind=some (1,objectB a):=by rw [h];rfl
 rw [ruleB,hm]
 simp only
 rw [bI]
 exact congrArg (·&&_) (cv (fs:=1) (by decide) _ _ _ _ _ _ _ _ _ _ _)
theorem Js {a:Xa} (h:a.kind=7):ruleB a=(maskB 2 (seqB a.object ⟨#[]⟩) (seqB a.target ⟨#[]⟩) (decide (a.scope=0)) (seqB a.group ⟨#[]⟩) (decide ((a.to.n:Int)=0)) (seqB a.text ⟨#[]⟩) (boxEq a.body Xo.zero) (decide (a.epoch=0)) (decide ((a.wraps.n:Int)=0)) (decide (a.n=0)) (decide (a.m=0))&&targetB a):=by
 have hm:mget (ruleL a) a.kind=some (2,targetB a):=by rw [h];rfl
 rw [ruleB,hm]
 simp only
 rw [bI]
 exact congrArg (·&&_) (cv (fs:=2) (by decide) _ _ _ _ _ _ _ _ _ _ _)
theorem Jr {a:Xa} (h:a.kind=8):ruleB a=(maskB 2 (seqB a.object ⟨#[]⟩) (seqB a.target ⟨#[]⟩) (decide (a.scope=0)) (seqB a.group ⟨#[]⟩) (decide ((a.to.n:Int)=0)) (seqB a.text ⟨#[]⟩) (boxEq a.body Xo.zero) (decide (a.epoch=0)) (decide ((a.wraps.n:Int)=0)) (decide (a.n=0)) (decide (a.m=0))&&targetB a):=by
 have hm:mget (ruleL a) a.kind=some (2,targetB a):=by rw [h];rfl
 rw [ruleB,hm]
 simp only
 rw [bI]
 exact congrArg (·&&_) (cv (fs:=2) (by decide) _ _ _ _ _ _ _ _ _ _ _)
theorem Jq {a:Xa} (h:a.kind=9):ruleB a=(maskB 2 (seqB a.object ⟨#[]⟩) (seqB a.target ⟨#[]⟩) (decide (a.scope=0)) (seqB a.group ⟨#[]⟩) (decide ((a.to.n:Int)=0)) (seqB a.text ⟨#[]⟩) (boxEq a.body Xo.zero) (decide (a.epoch=0)) (decide ((a.wraps.n:Int)=0)) (decide (a.n=0)) (decide (a.m=0))&&targetB a):=by
 have hm:mget (ruleL a) a.kind=some (2,targetB a):=by rw [h];rfl
 rw [ruleB,hm]
 simp only
 rw [bI]
 exact congrArg (·&&_) (cv (fs:=2) (by decide) _ _ _ _ _ _ _ _ _ _ _)
theorem Hg {a:Xa} (h:a.kind=10):ruleB a=(maskB 2 (seqB a.object ⟨#[]⟩) (seqB a.target ⟨#[]⟩) (decide (a.scope=0)) (seqB a.group ⟨#[]⟩) (decide ((a.to.n:Int)=0)) (seqB a.text ⟨#[]⟩) (boxEq a.body Xo.zero) (decide (a.epoch=0)) (decide ((a.wraps.n:Int)=0)) (decide (a.n=0)) (decide (a.m=0))&&targetB a):=by
 have hm:mget (ruleL a) a.kind=some (2,targetB a):=by rw [h];rfl
 rw [ruleB,hm]
 simp only
 rw [bI]
 exact congrArg (·&&_) (cv (fs:=2) (by decide) _ _ _ _ _ _ _ _ _ _ _)
theorem Hf {a:Xa} (h:a.kind=11):ruleB a=(maskB 2 (seqB a.object ⟨#[]⟩) (seqB a.target ⟨#[]⟩) (decide (a.scope=0)) (seqB a.group ⟨#[]⟩) (decide ((a.to.n:Int)=0)) (seqB a.text ⟨#[]⟩) (boxEq a.body Xo.zero) (decide (a.epoch=0)) (decide ((a.wraps.n:Int)=0)) (decide (a.n=0)) (decide (a.m=0))&&targetB a):=by
 have hm:mget (ruleL a) a.kind=some (2,targetB a):=by rw [h];rfl
 rw [ruleB,hm]
 simp only
 rw [bI]
 exact congrArg (·&&_) (cv (fs:=2) (by decide) _ _ _ _ _ _ _ _ _ _ _)
theorem He {a:Xa} (h:a.kind=12):ruleB a=(maskB 33 (seqB a.object ⟨#[]⟩) (seqB a.target ⟨#[]⟩) (decide (a.scope=0)) (seqB a.group ⟨#[]⟩) (decide ((a.to.n:Int)=0)) (seqB a.text ⟨#[]⟩) (boxEq a.body Xo.zero) (decide (a.epoch=0)) (decide ((a.wraps.n:Int)=0)) (decide (a.n=0)) (decide (a.m=0))&&rule2B a):=by
 have hm:mget (ruleL a) a.kind=some (33,rule2B a):=by rw [h];rfl
 rw [ruleB,hm]
 simp only
 rw [bI]
 exact congrArg (·&&_) (cv (fs:=33) (by decide) _ _ _ _ _ _ _ _ _ _ _)
theorem Hd {a:Xa} (h:a.kind=13):ruleB a=(maskB 1 (seqB a.object ⟨#[]⟩) (seqB a.target ⟨#[]⟩) (decide (a.scope=0)) (seqB a.group ⟨#[]⟩) (decide ((a.to.n:Int)=0)) (seqB a.text ⟨#[]⟩) (boxEq a.body Xo.zero) (decide (a.epoch=0)) (decide ((a.wraps.n:Int)=0)) (decide (a.n=0)) (decide (a.m=0))&&objectB a):=by
 have hm:mget (ruleL a) a.kind=some (1,objectB a):=by rw [h];rfl
 rw [ruleB,hm]
 simp only
 rw [bI]
 exact congrArg (·&&_) (cv (fs:=1) (by decide) _ _ _ _ _ _ _ _ _ _ _)
theorem Hc {a:Xa} (h:a.kind=14):ruleB a=(maskB 253 (seqB a.object ⟨#[]⟩) (seqB a.target ⟨#[]⟩) (decide (a.scope=0)) (seqB a.group ⟨#[]⟩) (decide ((a.to.n:Int)=0)) (seqB a.text ⟨#[]⟩) (boxEq a.body Xo.zero) (decide (a.epoch=0)) (decide ((a.wraps.n:Int)=0)) (decide (a.n=0)) (decide (a.m=0))&&rule1B a):=by
 have hm:mget (ruleL a) a.kind=some (253,rule1B a):=by rw [h];rfl
 rw [ruleB,hm]
 simp only
 rw [bI]
 exact congrArg (·&&_) (cv (fs:=253) (by decide) _ _ _ _ _ _ _ _ _ _ _)
theorem Hb {a:Xa} (h:a.kind=15):ruleB a=(maskB 24 (seqB a.object ⟨#[]⟩) (seqB a.target ⟨#[]⟩) (decide (a.scope=0)) (seqB a.group ⟨#[]⟩) (decide ((a.to.n:Int)=0)) (seqB a.text ⟨#[]⟩) (boxEq a.body Xo.zero) (decide (a.epoch=0)) (decide ((a.wraps.n:Int)=0)) (decide (a.n=0)) (decide (a.m=0))&&rule4B a):=by
 have hm:mget (ruleL a) a.kind=some (24,rule4B a):=by rw [h];rfl
 rw [ruleB,hm]
 simp only
 rw [bI]
 exact congrArg (·&&_) (cv (fs:=24) (by decide) _ _ _ _ _ _ _ _ _ _ _)
theorem Ha {a:Xa} (h:a.kind=16):ruleB a=(maskB 412 (seqB a.object ⟨#[]⟩) (seqB a.target ⟨#[]⟩) (decide (a.scope=0)) (seqB a.group ⟨#[]⟩) (decide ((a.to.n:Int)=0)) (seqB a.text ⟨#[]⟩) (boxEq a.body Xo.zero) (decide (a.epoch=0)) (decide ((a.wraps.n:Int)=0)) (decide (a.n=0)) (decide (a.m=0))&&grantB a):=by
 have hm:mget (ruleL a) a.kind=some (412,grantB a):=by rw [h];rfl
 rw [ruleB,hm]
 simp only
 rw [bI]
 exact congrArg (·&&_) (cv (fs:=412) (by decide) _ _ _ _ _ _ _ _ _ _ _)
theorem G9 {a:Xa} (h:a.kind=17):ruleB a=(maskB 35 (seqB a.object ⟨#[]⟩) (seqB a.target ⟨#[]⟩) (decide (a.scope=0)) (seqB a.group ⟨#[]⟩) (decide ((a.to.n:Int)=0)) (seqB a.text ⟨#[]⟩) (boxEq a.body Xo.zero) (decide (a.epoch=0)) (decide ((a.wraps.n:Int)=0)) (decide (a.n=0)) (decide (a.m=0))&&labelB a):=by
 have hm:mget (ruleL a) a.kind=some (35,labelB a):=by rw [h];rfl
 rw [ruleB,hm]
 simp only
 rw [bI]
 exact congrArg (·&&_) (cv (fs:=35) (by decide) _ _ _ _ _ _ _ _ _ _ _)
theorem G8 {a:Xa} (h:a.kind=18):ruleB a=(maskB 1536 (seqB a.object ⟨#[]⟩) (seqB a.target ⟨#[]⟩) (decide (a.scope=0)) (seqB a.group ⟨#[]⟩) (decide ((a.to.n:Int)=0)) (seqB a.text ⟨#[]⟩) (boxEq a.body Xo.zero) (decide (a.epoch=0)) (decide ((a.wraps.n:Int)=0)) (decide (a.n=0)) (decide (a.m=0))&&homeB a):=by
 have hm:mget (ruleL a) a.kind=some (1536,homeB a):=by rw [h];rfl
 rw [ruleB,hm]
 simp only
 rw [bI]
 exact congrArg (·&&_) (cv (fs:=1536) (by decide) _ _ _ _ _ _ _ _ _ _ _)
theorem G7 {a:Xa} (h:a.kind=19):ruleB a=(maskB 1808 (seqB a.object ⟨#[]⟩) (seqB a.target ⟨#[]⟩) (decide (a.scope=0)) (seqB a.group ⟨#[]⟩) (decide ((a.to.n:Int)=0)) (seqB a.text ⟨#[]⟩) (boxEq a.body Xo.zero) (decide (a.epoch=0)) (decide ((a.wraps.n:Int)=0)) (decide (a.n=0)) (decide (a.m=0))&&setupB a):=by
 have hm:mget (ruleL a) a.kind=some (1808,setupB a):=by rw [h];rfl
 rw [ruleB,hm]
 simp only
 rw [bI]
 exact congrArg (·&&_) (cv (fs:=1808) (by decide) _ _ _ _ _ _ _ _ _ _ _)
theorem G6 {a:Xa} (h:a.kind=20):ruleB a=(maskB 1 (seqB a.object ⟨#[]⟩) (seqB a.target ⟨#[]⟩) (decide (a.scope=0)) (seqB a.group ⟨#[]⟩) (decide ((a.to.n:Int)=0)) (seqB a.text ⟨#[]⟩) (boxEq a.body Xo.zero) (decide (a.epoch=0)) (decide ((a.wraps.n:Int)=0)) (decide (a.n=0)) (decide (a.m=0))&&objectB a):=by
 have hm:mget (ruleL a) a.kind=some (1,objectB a):=by rw [h];rfl
 rw [ruleB,hm]
 simp only
 rw [bI]
 exact congrArg (·&&_) (cv (fs:=1) (by decide) _ _ _ _ _ _ _ _ _ _ _)
theorem GZ {a:Xa} (h:a.kind=21):ruleB a=(maskB 33 (seqB a.object ⟨#[]⟩) (seqB a.target ⟨#[]⟩) (decide (a.scope=0)) (seqB a.group ⟨#[]⟩) (decide ((a.to.n:Int)=0)) (seqB a.text ⟨#[]⟩) (boxEq a.body Xo.zero) (decide (a.epoch=0)) (decide ((a.wraps.n:Int)=0)) (decide (a.n=0)) (decide (a.m=0))&&rule2B a):=by
 have hm:mget (ruleL a) a.kind=some (33,rule2B a):=by rw [h];rfl
 rw [ruleB,hm]
 simp only
 rw [bI]
 exact congrArg (·&&_) (cv (fs:=33) (by decide) _ _ _ _ _ _ _ _ _ _ _)
theorem GY {a:Xa} (h:a.kind=22):ruleB a=(maskB 513 (seqB a.object ⟨#[]⟩) (seqB a.target ⟨#[]⟩) (decide (a.scope=0)) (seqB a.group ⟨#[]⟩) (decide ((a.to.n:Int)=0)) (seqB a.text ⟨#[]⟩) (boxEq a.body Xo.zero) (decide (a.epoch=0)) (decide ((a.wraps.n:Int)=0)) (decide (a.n=0)) (decide (a.m=0))&&rule5B a):=by
 have hm:mget (ruleL a) a.kind=some (513,rule5B a):=by rw [h];rfl
 rw [ruleB,hm]
 simp only
 rw [bI]
 exact congrArg (·&&_) (cv (fs:=513) (by decide) _ _ _ _ _ _ _ _ _ _ _)
theorem GX {a:Xa} (h:a.kind=23):ruleB a=(maskB 546 (seqB a.object ⟨#[]⟩) (seqB a.target ⟨#[]⟩) (decide (a.scope=0)) (seqB a.group ⟨#[]⟩) (decide ((a.to.n:Int)=0)) (seqB a.text ⟨#[]⟩) (boxEq a.body Xo.zero) (decide (a.epoch=0)) (decide ((a.wraps.n:Int)=0)) (decide (a.n=0)) (decide (a.m=0))&&rule6B a):=by
 have hm:mget (ruleL a) a.kind=some (546,rule6B a):=by rw [h];rfl
 rw [ruleB,hm]
 simp only
 rw [bI]
 exact congrArg (·&&_) (cv (fs:=546) (by decide) _ _ _ _ _ _ _ _ _ _ _)
theorem Az {a:Xa} (h:¬ (0≤a.kind∧a.kind≤23)):ruleB a=false:=by
 have hm:mget (ruleL a) a.kind=none:=by
  rw [ruleL]
  rw [mget,show Xj.eqb a.kind 0=false from Zd aa,Zf]
  rw [mget,show Xj.eqb a.kind 1=false from Zd aa,Zf]
  rw [mget,show Xj.eqb a.kind 2=false from Zd aa,Zf]
  rw [mget,show Xj.eqb a.kind 3=false from Zd aa,Zf]
  rw [mget,show Xj.eqb a.kind 14=false from Zd aa,Zf]
  rw [mget,show Xj.eqb a.kind 4=false from Zd aa,Zf]
  rw [mget,show Xj.eqb a.kind 5=false from Zd aa,Zf]
  rw [mget,show Xj.eqb a.kind 6=false from Zd aa,Zf]
  rw [mget,show Xj.eqb a.kind 13=false from Zd aa,Zf]
  rw [mget,show Xj.eqb a.kind 20=false from Zd aa,Zf]
  rw [mget,show Xj.eqb a.kind 7=false from Zd aa,Zf]
  rw [mget,show Xj.eqb a.kind 8=false from Zd aa,Zf]
  rw [mget,show Xj.eqb a.kind 9=false from Zd aa,Zf]
  rw [mget,show Xj.eqb a.kind 10=false from Zd aa,Zf]
  rw [mget,show Xj.eqb a.kind 11=false from Zd aa,Zf]
  rw [mget,show Xj.eqb a.kind 12=false from Zd aa,Zf]
  rw [mget,show Xj.eqb a.kind 21=false from Zd aa,Zf]
  rw [mget,show Xj.eqb a.kind 15=false from Zd aa,Zf]
  rw [mget,show Xj.eqb a.kind 16=false from Zd aa,Zf]
  rw [mget,show Xj.eqb a.kind 17=false from Zd aa,Zf]
  rw [mget,show Xj.eqb a.kind 18=false from Zd aa,Zf]
  rw [mget,show Xj.eqb a.kind 19=false from Zd aa,Zf]
  rw [mget,show Xj.eqb a.kind 22=false from Zd aa,Zf]
  rw [mget,show Xj.eqb a.kind 23=false from Zd aa,Zf]
  rfl
 rw [ruleB,hm]
theorem zS:seqB (⟨#[]⟩:ByteArray) ⟨#[]⟩=true:=by kernel_rfl
theorem zB:boxEq Xo.zero Xo.zero=true:=by kernel_rfl
theorem zI:decide ((0:Int)=0)=true:=rfl
theorem zN:decide (((0:Nat):Int)=0)=true:=rfl
theorem nL:Nat.testBit 1 0=true:=by decide +kernel
theorem nK:Nat.testBit 1 1=false:=by decide +kernel
theorem nJ:Nat.testBit 1 2=false:=by decide +kernel
theorem nI:Nat.testBit 1 3=false:=by decide +kernel
theorem nH:Nat.testBit 1 4=false:=by decide +kernel
theorem nG:Nat.testBit 1 5=false:=by decide +kernel
theorem nF:Nat.testBit 1 6=false:=by decide +kernel
theorem nE:Nat.testBit 1 7=false:=by decide +kernel
theorem nD:Nat.testBit 1 8=false:=by decide +kernel
theorem nC:Nat.testBit 1 9=false:=by decide +kernel
theorem jG:Nat.testBit 1 10=false:=by decide +kernel
theorem np:Nat.testBit 2 0=false:=by decide +kernel
theorem nk:Nat.testBit 2 1=true:=by decide +kernel
theorem nj:Nat.testBit 2 2=false:=by decide +kernel
theorem ni:Nat.testBit 2 3=false:=by decide +kernel
theorem ng:Nat.testBit 2 4=false:=by decide +kernel
theorem nd:Nat.testBit 2 5=false:=by decide +kernel
theorem nc:Nat.testBit 2 6=false:=by decide +kernel
theorem nb:Nat.testBit 2 7=false:=by decide +kernel
theorem na:Nat.testBit 2 8=false:=by decide +kernel
theorem m9:Nat.testBit 2 9=false:=by decide +kernel
theorem jF:Nat.testBit 2 10=false:=by decide +kernel
theorem GB:Nat.testBit 24 0=false:=by decide +kernel
theorem GA:Nat.testBit 24 1=false:=by decide +kernel
theorem Gz:Nat.testBit 24 2=false:=by decide +kernel
theorem Gy:Nat.testBit 24 3=true:=by decide +kernel
theorem Gx:Nat.testBit 24 4=true:=by decide +kernel
theorem Gw:Nat.testBit 24 5=false:=by decide +kernel
theorem Gv:Nat.testBit 24 6=false:=by decide +kernel
theorem Gu:Nat.testBit 24 7=false:=by decide +kernel
theorem Gt:Nat.testBit 24 8=false:=by decide +kernel
theorem Gs:Nat.testBit 24 9=false:=by decide +kernel
theorem C1:Nat.testBit 24 10=false:=by decide +kernel
theorem xG:Nat.testBit 33 0=true:=by decide +kernel
theorem xF:Nat.testBit 33 1=false:=by decide +kernel
theorem xE:Nat.testBit 33 2=false:=by decide +kernel
theorem xD:Nat.testBit 33 3=false:=by decide +kernel
theorem xC:Nat.testBit 33 4=false:=by decide +kernel
theorem xB:Nat.testBit 33 5=true:=by decide +kernel
theorem xA:Nat.testBit 33 6=false:=by decide +kernel
theorem xz:Nat.testBit 33 7=false:=by decide +kernel
theorem xy:Nat.testBit 33 8=false:=by decide +kernel
theorem xx:Nat.testBit 33 9=false:=by decide +kernel
theorem tc:Nat.testBit 33 10=false:=by decide +kernel
theorem Gr:Nat.testBit 35 0=true:=by decide +kernel
theorem Gq:Nat.testBit 35 1=true:=by decide +kernel
theorem Gp:Nat.testBit 35 2=false:=by decide +kernel
theorem Gn:Nat.testBit 35 3=false:=by decide +kernel
theorem Gm:Nat.testBit 35 4=false:=by decide +kernel
theorem Gl:Nat.testBit 35 5=true:=by decide +kernel
theorem Gk:Nat.testBit 35 6=false:=by decide +kernel
theorem Gj:Nat.testBit 35 7=false:=by decide +kernel
theorem Gi:Nat.testBit 35 8=false:=by decide +kernel
theorem Gg:Nat.testBit 35 9=false:=by decide +kernel
theorem CQ:Nat.testBit 35 10=false:=by decide +kernel
theorem C0:Nat.testBit 252 0=false:=by decide +kernel
theorem CZ:Nat.testBit 252 1=false:=by decide +kernel
theorem CY:Nat.testBit 252 2=true:=by decide +kernel
theorem CX:Nat.testBit 252 3=true:=by decide +kernel
theorem CW:Nat.testBit 252 4=true:=by decide +kernel
theorem CV:Nat.testBit 252 5=true:=by decide +kernel
theorem CU:Nat.testBit 252 6=true:=by decide +kernel
theorem CT:Nat.testBit 252 7=true:=by decide +kernel
theorem CS:Nat.testBit 252 8=false:=by decide +kernel
theorem CR:Nat.testBit 252 9=false:=by decide +kernel
theorem zn:Nat.testBit 252 10=false:=by decide +kernel
theorem nB:Nat.testBit 253 0=true:=by decide +kernel
theorem nA:Nat.testBit 253 1=false:=by decide +kernel
theorem nz:Nat.testBit 253 2=true:=by decide +kernel
theorem ny:Nat.testBit 253 3=true:=by decide +kernel
theorem nw:Nat.testBit 253 4=true:=by decide +kernel
theorem nv:Nat.testBit 253 5=true:=by decide +kernel
theorem nu:Nat.testBit 253 6=true:=by decide +kernel
theorem nt:Nat.testBit 253 7=true:=by decide +kernel
theorem nr:Nat.testBit 253 8=false:=by decide +kernel
theorem nq:Nat.testBit 253 9=false:=by decide +kernel
theorem kM:Nat.testBit 253 10=false:=by decide +kernel
theorem CP:Nat.testBit 412 0=false:=by decide +kernel
theorem CO:Nat.testBit 412 1=false:=by decide +kernel
theorem CN:Nat.testBit 412 2=true:=by decide +kernel
theorem CM:Nat.testBit 412 3=true:=by decide +kernel
theorem CL:Nat.testBit 412 4=true:=by decide +kernel
theorem CK:Nat.testBit 412 5=false:=by decide +kernel
theorem CJ:Nat.testBit 412 6=false:=by decide +kernel
theorem CI:Nat.testBit 412 7=true:=by decide +kernel
theorem CH:Nat.testBit 412 8=true:=by decide +kernel
theorem CG:Nat.testBit 412 9=false:=by decide +kernel
theorem zm:Nat.testBit 412 10=false:=by decide +kernel
theorem CF:Nat.testBit 513 0=true:=by decide +kernel
theorem CE:Nat.testBit 513 1=false:=by decide +kernel
theorem CD:Nat.testBit 513 2=false:=by decide +kernel
theorem CC:Nat.testBit 513 3=false:=by decide +kernel
theorem CB:Nat.testBit 513 4=false:=by decide +kernel
theorem CA:Nat.testBit 513 5=false:=by decide +kernel
theorem Cz:Nat.testBit 513 6=false:=by decide +kernel
theorem Cy:Nat.testBit 513 7=false:=by decide +kernel
theorem Cx:Nat.testBit 513 8=false:=by decide +kernel
theorem Cv:Nat.testBit 513 9=true:=by decide +kernel
theorem zl:Nat.testBit 513 10=false:=by decide +kernel
theorem Cu:Nat.testBit 546 0=false:=by decide +kernel
theorem Cs:Nat.testBit 546 1=true:=by decide +kernel
theorem Cq:Nat.testBit 546 2=false:=by decide +kernel
theorem Cp:Nat.testBit 546 3=false:=by decide +kernel
theorem Co:Nat.testBit 546 4=false:=by decide +kernel
theorem Cn:Nat.testBit 546 5=true:=by decide +kernel
theorem Cm:Nat.testBit 546 6=false:=by decide +kernel
theorem Cl:Nat.testBit 546 7=false:=by decide +kernel
theorem Ck:Nat.testBit 546 8=false:=by decide +kernel
theorem Cj:Nat.testBit 546 9=true:=by decide +kernel
theorem zk:Nat.testBit 546 10=false:=by decide +kernel
theorem zX:Nat.testBit 1536 0=false:=by decide +kernel
theorem zW:Nat.testBit 1536 1=false:=by decide +kernel
theorem zV:Nat.testBit 1536 2=false:=by decide +kernel
theorem zU:Nat.testBit 1536 3=false:=by decide +kernel
theorem zT:Nat.testBit 1536 4=false:=by decide +kernel
theorem zR:Nat.testBit 1536 5=false:=by decide +kernel
theorem zQ:Nat.testBit 1536 6=false:=by decide +kernel
theorem zP:Nat.testBit 1536 7=false:=by decide +kernel
theorem zO:Nat.testBit 1536 8=false:=by decide +kernel
theorem zM:Nat.testBit 1536 9=true:=by decide +kernel
theorem vK:Nat.testBit 1536 10=true:=by decide +kernel
theorem zL:Nat.testBit 1568 0=false:=by decide +kernel
theorem zK:Nat.testBit 1568 1=false:=by decide +kernel
theorem zJ:Nat.testBit 1568 2=false:=by decide +kernel
theorem zH:Nat.testBit 1568 3=false:=by decide +kernel
theorem zG:Nat.testBit 1568 4=false:=by decide +kernel
theorem zF:Nat.testBit 1568 5=true:=by decide +kernel
theorem zE:Nat.testBit 1568 6=false:=by decide +kernel
theorem zD:Nat.testBit 1568 7=false:=by decide +kernel
theorem zC:Nat.testBit 1568 8=false:=by decide +kernel
theorem zA:Nat.testBit 1568 9=true:=by decide +kernel
theorem vJ:Nat.testBit 1568 10=true:=by decide +kernel
theorem zz:Nat.testBit 1808 0=false:=by decide +kernel
theorem zy:Nat.testBit 1808 1=false:=by decide +kernel
theorem zx:Nat.testBit 1808 2=false:=by decide +kernel
theorem zw:Nat.testBit 1808 3=false:=by decide +kernel
theorem zu:Nat.testBit 1808 4=true:=by decide +kernel
theorem zt:Nat.testBit 1808 5=false:=by decide +kernel
theorem zr:Nat.testBit 1808 6=false:=by decide +kernel
theorem zq:Nat.testBit 1808 7=false:=by decide +kernel
theorem zp:Nat.testBit 1808 8=true:=by decide +kernel
theorem zo:Nat.testBit 1808 9=true:=by decide +kernel
theorem vI:Nat.testBit 1808 10=true:=by decide +kernel
theorem J0 {a:Xa} (h:a.kind=0):fitsR a=ruleB a:=by
 rw [Jz h,fitsR,h,IH,yk]
 simp only [zeroR,bareA,maskB,zS,zB,zI,zN,zL,zK,zJ,zH,zG,zF,zE,zD,zC,zA,vJ,Zh,Zi,Zn,Zj,rule1B,rule2B,rule3B,rule4B,rule5B,rule6B,objectB,targetB,homeB,isDigestB,isShortB,withinB,lt20,grantB,setupB,aZ]
 ac_rfl
theorem JZ {a:Xa} (h:a.kind=1):fitsR a=ruleB a:=by
 rw [Jy h,fitsR,h,IG,yj]
 simp only [zeroR,bareA,maskB,zS,zB,zI,zN,C0,CZ,CY,CX,CW,CV,CU,CT,CS,CR,zn,Zh,Zi,Zn,Zj,rule1B,rule2B,rule3B,rule4B,rule5B,rule6B,objectB,targetB,homeB,isDigestB,isShortB,withinB,lt20,grantB,setupB,aZ]
 ac_rfl
theorem JY {a:Xa} (h:a.kind=2):fitsR a=ruleB a:=by
 rw [Jx h,fitsR,h,IF,yi]
 simp only [zeroR,bareA,maskB,zS,zB,zI,zN,nB,nA,nz,ny,nw,nv,nu,nt,nr,nq,kM,Zh,Zi,Zn,Zj,rule1B,rule2B,rule3B,rule4B,rule5B,rule6B,objectB,targetB,homeB,isDigestB,isShortB,withinB,lt20,grantB,setupB,aZ]
 ac_rfl
theorem JX {a:Xa} (h:a.kind=3):fitsR a=ruleB a:=by
 rw [Jw h,fitsR,h,IE,yg]
 simp only [zeroR,bareA,maskB,zS,zB,zI,zN,nB,nA,nz,ny,nw,nv,nu,nt,nr,nq,kM,Zh,Zi,Zn,Zj,rule1B,rule2B,rule3B,rule4B,rule5B,rule6B,objectB,targetB,homeB,isDigestB,isShortB,withinB,lt20,grantB,setupB,aZ]
 ac_rfl
theorem JW {a:Xa} (h:a.kind=4):fitsR a=ruleB a:=by
 rw [Jv h,fitsR,h,ID,yf]
 simp only [zeroR,bareA,maskB,zS,zB,zI,zN,nL,nK,nJ,nI,nH,nG,nF,nE,nD,nC,jG,Zh,Zi,Zn,Zj,rule1B,rule2B,rule3B,rule4B,rule5B,rule6B,objectB,targetB,homeB,isDigestB,isShortB,withinB,lt20,grantB,setupB,aZ]
 ac_rfl
theorem JV {a:Xa} (h:a.kind=5):fitsR a=ruleB a:=by
 rw [Ju h,fitsR,h,IC,ye]
 simp only [zeroR,bareA,maskB,zS,zB,zI,zN,nL,nK,nJ,nI,nH,nG,nF,nE,nD,nC,jG,Zh,Zi,Zn,Zj,rule1B,rule2B,rule3B,rule4B,rule5B,rule6B,objectB,targetB,homeB,isDigestB,isShortB,withinB,lt20,grantB,setupB,aZ]
 ac_rfl
theorem JU {a:Xa} (h:a.kind=6):fitsR a=ruleB a:=by
 rw [Jt h,fitsR,h,IB,yd]
 simp only [zeroR,bareA,maskB,zS,zB,zI,zN,nL,nK,nJ,nI,nH,nG,nF,nE,nD,nC,jG,Zh,Zi,Zn,Zj,rule1B,rule2B,rule3B,rule4B,rule5B,rule6B,objectB,targetB,homeB,isDigestB,isShortB,withinB,lt20,grantB,setupB,aZ]
 ac_rfl
theorem JT {a:Xa} (h:a.kind=7):fitsR a=ruleB a:=by
 rw [Js h,fitsR,h,IA,yc]
 simp only [zeroR,bareA,maskB,zS,zB,zI,zN,np,nk,nj,ni,ng,nd,nc,nb,na,m9,jF,Zh,Zi,Zn,Zj,rule1B,rule2B,rule3B,rule4B,rule5B,rule6B,objectB,targetB,homeB,isDigestB,isShortB,withinB,lt20,grantB,setupB,aZ]
 ac_rfl
theorem JS {a:Xa} (h:a.kind=8):fitsR a=ruleB a:=by
 rw [Jr h,fitsR,h,Iz,yb]
 simp only [zeroR,bareA,maskB,zS,zB,zI,zN,np,nk,nj,ni,ng,nd,nc,nb,na,m9,jF,Zh,Zi,Zn,Zj,rule1B,rule2B,rule3B,rule4B,rule5B,rule6B,objectB,targetB,homeB,isDigestB,isShortB,withinB,lt20,grantB,setupB,aZ]
 ac_rfl
theorem JR {a:Xa} (h:a.kind=9):fitsR a=ruleB a:=by
 rw [Jq h,fitsR,h,Iy,ya]
 simp only [zeroR,bareA,maskB,zS,zB,zI,zN,np,nk,nj,ni,ng,nd,nc,nb,na,m9,jF,Zh,Zi,Zn,Zj,rule1B,rule2B,rule3B,rule4B,rule5B,rule6B,objectB,targetB,homeB,isDigestB,isShortB,withinB,lt20,grantB,setupB,aZ]
 ac_rfl
theorem H9 {a:Xa} (h:a.kind=10):fitsR a=ruleB a:=by
 rw [Hg h,fitsR,h,Eu,tX]
 simp only [zeroR,bareA,maskB,zS,zB,zI,zN,np,nk,nj,ni,ng,nd,nc,nb,na,m9,jF,Zh,Zi,Zn,Zj,rule1B,rule2B,rule3B,rule4B,rule5B,rule6B,objectB,targetB,homeB,isDigestB,isShortB,withinB,lt20,grantB,setupB,aZ]
 ac_rfl
theorem H8 {a:Xa} (h:a.kind=11):fitsR a=ruleB a:=by
 rw [Hf h,fitsR,h,Et,tW]
 simp only [zeroR,bareA,maskB,zS,zB,zI,zN,np,nk,nj,ni,ng,nd,nc,nb,na,m9,jF,Zh,Zi,Zn,Zj,rule1B,rule2B,rule3B,rule4B,rule5B,rule6B,objectB,targetB,homeB,isDigestB,isShortB,withinB,lt20,grantB,setupB,aZ]
 ac_rfl
theorem H7 {a:Xa} (h:a.kind=12):fitsR a=ruleB a:=by
 rw [He h,fitsR,h,D9,tV]
 simp only [zeroR,bareA,maskB,zS,zB,zI,zN,xG,xF,xE,xD,xC,xB,xA,xz,xy,xx,tc,Zh,Zi,Zn,Zj,rule1B,rule2B,rule3B,rule4B,rule5B,rule6B,objectB,targetB,homeB,isDigestB,isShortB,withinB,lt20,grantB,setupB,aZ]
 ac_rfl
theorem H6 {a:Xa} (h:a.kind=13):fitsR a=ruleB a:=by
 rw [Hd h,fitsR,h,D8,tU]
 simp only [zeroR,bareA,maskB,zS,zB,zI,zN,nL,nK,nJ,nI,nH,nG,nF,nE,nD,nC,jG,Zh,Zi,Zn,Zj,rule1B,rule2B,rule3B,rule4B,rule5B,rule6B,objectB,targetB,homeB,isDigestB,isShortB,withinB,lt20,grantB,setupB,aZ]
 ac_rfl
theorem H5 {a:Xa} (h:a.kind=14):fitsR a=ruleB a:=by
 rw [Hc h,fitsR,h,D7,tT]
 simp only [zeroR,bareA,maskB,zS,zB,zI,zN,nB,nA,nz,ny,nw,nv,nu,nt,nr,nq,kM,Zh,Zi,Zn,Zj,rule1B,rule2B,rule3B,rule4B,rule5B,rule6B,objectB,targetB,homeB,isDigestB,isShortB,withinB,lt20,grantB,setupB,aZ]
 ac_rfl
theorem H4 {a:Xa} (h:a.kind=15):fitsR a=ruleB a:=by
 rw [Hb h,fitsR,h,D6,tS]
 simp only [zeroR,bareA,maskB,zS,zB,zI,zN,GB,GA,Gz,Gy,Gx,Gw,Gv,Gu,Gt,Gs,C1,Zh,Zi,Zn,Zj,rule1B,rule2B,rule3B,rule4B,rule5B,rule6B,objectB,targetB,homeB,isDigestB,isShortB,withinB,lt20,grantB,setupB,aZ]
 ac_rfl
theorem H3 {a:Xa} (h:a.kind=16):fitsR a=ruleB a:=by
 rw [Ha h,fitsR,h,D5,tR]
 simp only [zeroR,bareA,maskB,zS,zB,zI,zN,CP,CO,CN,CM,CL,CK,CJ,CI,CH,CG,zm,Zh,Zi,Zn,Zj,rule1B,rule2B,rule3B,rule4B,rule5B,rule6B,objectB,targetB,homeB,isDigestB,isShortB,withinB,lt20,grantB,setupB,aZ]
 ac_rfl
theorem H2 {a:Xa} (h:a.kind=17):fitsR a=ruleB a:=by
 rw [G9 h,fitsR,h,D4,tQ]
 simp only [zeroR,bareA,maskB,zS,zB,zI,zN,Gr,Gq,Gp,Gn,Gm,Gl,Gk,Gj,Gi,Gg,CQ,Zh,Zi,Zn,Zj,rule1B,rule2B,rule3B,rule4B,rule5B,rule6B,objectB,targetB,homeB,isDigestB,isShortB,withinB,lt20,grantB,setupB,aZ]
 rw [labelB,objectB,targetB,isDigestB]
 cases hz:seqB a.object ⟨#[]⟩ with
 | true =>
  rw [wN _ hz]
  cases isName a.text<;>simp [Bool.and_comm,Bool.and_assoc]
 | false=>cases isName a.text<;>cases decide ((a.object.size:Int)=32)<;>cases seqB a.target ⟨#[]⟩<;>simp [Bool.and_comm,Bool.and_assoc]
theorem H1 {a:Xa} (h:a.kind=18):fitsR a=ruleB a:=by
 rw [G8 h,fitsR,h,D3,tP]
 simp only [zeroR,bareA,maskB,zS,zB,zI,zN,zX,zW,zV,zU,zT,zR,zQ,zP,zO,zM,vK,Zh,Zi,Zn,Zj,rule1B,rule2B,rule3B,rule4B,rule5B,rule6B,objectB,targetB,homeB,isDigestB,isShortB,withinB,lt20,grantB,setupB,aZ]
 ac_rfl
theorem H0 {a:Xa} (h:a.kind=19):fitsR a=ruleB a:=by
 rw [G7 h,fitsR,h,DZ,tO]
 simp only [zeroR,bareA,maskB,zS,zB,zI,zN,zz,zy,zx,zw,zu,zt,zr,zq,zp,zo,vI,Zh,Zi,Zn,Zj,rule1B,rule2B,rule3B,rule4B,rule5B,rule6B,objectB,targetB,homeB,isDigestB,isShortB,withinB,lt20,grantB,setupB,aZ]
 ac_rfl
theorem HZ {a:Xa} (h:a.kind=20):fitsR a=ruleB a:=by
 rw [G6 h,fitsR,h,DY,tM]
 simp only [zeroR,bareA,maskB,zS,zB,zI,zN,nL,nK,nJ,nI,nH,nG,nF,nE,nD,nC,jG,Zh,Zi,Zn,Zj,rule1B,rule2B,rule3B,rule4B,rule5B,rule6B,objectB,targetB,homeB,isDigestB,isShortB,withinB,lt20,grantB,setupB,aZ]
 ac_rfl
theorem HY {a:Xa} (h:a.kind=21):fitsR a=ruleB a:=by
 rw [GZ h,fitsR,h,DX,tL]
 simp only [zeroR,bareA,maskB,zS,zB,zI,zN,xG,xF,xE,xD,xC,xB,xA,xz,xy,xx,tc,Zh,Zi,Zn,Zj,rule1B,rule2B,rule3B,rule4B,rule5B,rule6B,objectB,targetB,homeB,isDigestB,isShortB,withinB,lt20,grantB,setupB,aZ]
 ac_rfl
theorem HX {a:Xa} (h:a.kind=22):fitsR a=ruleB a:=by
 rw [GY h,fitsR,h,DW,tK]
 simp only [zeroR,bareA,maskB,zS,zB,zI,zN,CF,CE,CD,CC,CB,CA,Cz,Cy,Cx,Cv,zl,Zh,Zi,Zn,Zj,rule1B,rule2B,rule3B,rule4B,rule5B,rule6B,objectB,targetB,homeB,isDigestB,isShortB,withinB,lt20,grantB,setupB,aZ]
 ac_rfl
theorem HW {a:Xa} (h:a.kind=23):fitsR a=ruleB a:=by
 rw [GX h,fitsR,h,DV,tJ]
 simp only [zeroR,bareA,maskB,zS,zB,zI,zN,Cu,Cs,Cq,Cp,Co,Cn,Cm,Cl,Ck,Cj,zk,Zh,Zi,Zn,Zj,rule1B,rule2B,rule3B,rule4B,rule5B,rule6B,objectB,targetB,homeB,isDigestB,isShortB,withinB,lt20,grantB,setupB,aZ]
 ac_rfl
theorem HV (a:Xa):fitsR a=ruleB a:=by
 by_cases hk:0≤a.kind∧a.kind≤23
 · rcases qF hk with h|h|h|h|h|h|h|h|h|h|h|h|h|h|h|h|h|h|h|h|h|h|h|h
   · exact J0 h
   · exact JZ h
   · exact JY h
   · exact JX h
   · exact JW h
   · exact JV h
   · exact JU h
   · exact JT h
   · exact JS h
   · exact JR h
   · exact H9 h
   · exact H8 h
   · exact H7 h
   · exact H6 h
   · exact H5 h
   · exact H4 h
   · exact H3 h
   · exact H2 h
   · exact H1 h
   · exact H0 h
   · exact HZ h
   · exact HY h
   · exact HX h
   · exact HW h
 · rw [Az hk,fitsR,uq hk,Zk]
def numsR (a:Xa):Bool:=!isId a.author||(decide (a.seq<0)||(decide (1073741824<a.seq)||(decide (a.time<0)||(decide (1099511627776<a.time)||(decide (a.e<0)||(decide (2305843009213693950≤a.e)||(decide (a.s<0)||decide (2305843009213693950≤a.s))))))))
def seqR (a:Xa):Bool:=decide (a.seq=0)&&(!seqB a.prev ⟨#[]⟩||!decide (a.kind=0))||decide (0<a.seq)&&(!decide ((a.prev.size:Int)=32)||decide (a.kind=0))
theorem dnot {p q:Prop} [Decidable p] [Decidable q] (h:p↔¬ q):decide p=!decide q:=by rw [←decide_not];exact decide_eq_decide.2 h
theorem DE (a:Xa):(bif numsR a then false else bif seqR a then false else fitsR a)=rightB a:=by
 rw [HV,rightB,numsR,seqR,placedB,withinB,withinB,withinB,withinB,isDigestB]
 rw [dnot (p:=a.seq<0) (q:=0≤a.seq) aa,dnot (p:=1073741824<a.seq) (q:=a.seq≤1073741824) aa,dnot (p:=a.time<0) (q:=0≤a.time) aa,dnot (p:=1099511627776<a.time) (q:=a.time≤1099511627776) aa,
  dnot (p:=a.e<0) (q:=0≤a.e) aa,dnot (p:=2305843009213693950≤a.e) (q:=a.e≤2305843009213693949) aa,dnot (p:=a.s<0) (q:=0≤a.s) aa,dnot (p:=2305843009213693950≤a.s) (q:=a.s≤2305843009213693949) (by omega)]
 cases isId a.author
 · rfl
 cases decide (0≤a.time)
 · cases decide (0≤a.seq)<;>cases decide (a.seq≤1073741824)<;>simp
 cases decide (a.time≤1099511627776)
 · cases decide (0≤a.seq)<;>cases decide (a.seq≤1073741824)<;>simp
 cases decide (0≤a.e)
 · cases decide (0≤a.seq)<;>cases decide (a.seq≤1073741824)<;>simp
 cases decide (a.e≤2305843009213693949)
 · cases decide (0≤a.seq)<;>cases decide (a.seq≤1073741824)<;>simp
 cases decide (0≤a.s)
 · cases decide (0≤a.seq)<;>cases decide (a.seq≤1073741824)<;>simp
 cases decide (a.s≤2305843009213693949)
 · cases decide (0≤a.seq)<;>cases decide (a.seq≤1073741824)<;>simp
 by_cases h0:a.seq=0
 · rw [h0]
   cases seqB a.prev ⟨#[]⟩<;>cases decide (a.kind=0)<;>simp
 by_cases h1:0<a.seq
 · rw [Zd h0,Ze h1,Ze (show 0≤a.seq by omega),Ze (show 1≤a.seq by omega)]
   cases decide (a.seq≤1073741824)<;>cases decide ((a.prev.size:Int)=32)<;>cases decide (a.kind=0)<;>simp
 · rw [Zd h0,Zd (show ¬ 0≤a.seq by omega),Zd (show ¬ 1≤a.seq by omega)]
   simp
set_option maxRecDepth 8000 in
theorem lQ (a:Xa) (hs:a.Str):Pu prog 146 #[a.v] (Xa.at_ · a) (.bool (rightB a)):=by
 refine ax func146 ntmps146 fun av bor w0=>?_
 rw [←DE]
 have c1:=gH a.author hs.author
 have c2:=wa a hs
 repeat' (first|(refine ae (hc:=c1) ?_)|(refine ae (hc:=c2) ?_)|refine gs ?_|refine gs1 fun _=>?_|(refine gp ?_ ?_<;>intro hx_ this)|fail)
 all_goals refine ab (ag rfl rfl) ?_
 all_goals first
  | rfl
  | (simp only [numsR,seqR, *,Za,Zg,Zf];done)
  | (simp_all [numsR,seqR];done)
  | (simp_all [numsR,seqR];intros;omega)
  | skip
theorem qq (b:Xo) (hb:b.Fit):Pu prog 280 #[b.v] (fun _=>True) (.string (boxV b)):=by
 refine ax func280 ntmps280 fun av bor w0=>?_
 have h1:=aC b.nonce
 have h2:=aC b.data
 have h3:=aC b.tag
 have k1:=hb.nonce
 have k2:=hb.data
 have k3:=hb.tag
 repeat' (first|refine gs ?_|refine gs1 fun _=>?_|fail)
 (refine bc ⟨[0,1,3,4,7,8],[(2,⟨[],[(5,⟨[6],[(9,⟨[10,11],[]⟩)]⟩)]⟩)]⟩ (h:=?_))
 all_goals repeat' (first|refine ae (hc:=cU _ aa) ?_|refine gd ?_|refine ay (hy:=by (apply dl;rfl;rfl;(try simp only [Zb]);omega)) ?_|refine az ?_ (h':=?_)|exact aA|fail)
 repeat' (first|refine gs ?_|fail)
 all_goals exact ab (ag rfl rfl) rfl
theorem B5 {w:World} {p:Option Addr} {q:Nat} {x:Xy} (h:∀ j u,x.cells[j]?=some u→CellAt w p (q+j) u):∀ j u,x.box.cells[j]?=some u→CellAt w p (q+2+j) u:=fun j u hj=>by
 have h1:=h (j+2) u hj
 rw [show q+2+j=q+(j+2) from by omega]
 exact h1
set_option maxRecDepth 8000 in
theorem wc (a:Xa) (hs:a.Str) (ha:rightB a=true→a.Fit):Pu prog 239 #[a.v] (Xa.at_ · a) (.string (actCore a)):=by
 have hri:=lQ a hs
 rw [actCore]
 cases hrB:rightB a with
 | false =>
  rw [hrB] at hri
  refine ax func239 ntmps239 fun av bor w0=>?_
  repeat' (first|(refine ae (hc:=hri) ?_)|refine gs ?_|refine gs1 fun _=>?_|fail)
  exact ab (ag rfl rfl) rfl
 | true =>
 rw [hrB] at hri
 replace ha:=ha hrB
 refine ax func239 ntmps239 fun av bor w0=>?_
 refine aQ (p:=a.wraps.n=a.wrapsL.length∧a.wraps.n≤maxLen∧(0<a.wrapsL.length→a.wraps.p.isSome=true)) (fun w h=>⟨h.2.len_,ZW (Xf.cap h.2) (Xf.max h.2),h.2.some_⟩) fun ⟨hl,hm,hp⟩=>?_
 simp only [maxLen] at hm
 obtain ⟨i1,i2,i3,i4,i5,i6,i7,i8,i9⟩:=ha.ints
 have s1:=aC a.author
 have s2:=aC a.prev
 have s3:=aC a.object
 have s4:=aC a.target
 have s5:=aC a.group
 have s6:=aC a.text
 have s7:=aC ⟨#[97,99,116]⟩
 have s8:=gM ha.body
 have h1:=ha.author
 have h2:=ha.prev
 have h3:=ha.object
 have h4:=ha.target
 have h5:=ha.group
 have h6:=ha.text
 have h7:=ha.to
 have h8:(⟨#[97,99,116]⟩:ByteArray).size=3:=rfl
 have n1:=ar a.seq
 have n2:=ar a.kind
 have n3:=ar a.time
 have n4:=ar a.scope
 have n5:=ar a.epoch
 have n6:=ar a.wraps.n
 have n7:=ar a.n
 have n8:=ar a.m
 repeat' (first|(refine ae (hc:=hri) ?_)|refine gs ?_|refine gs1 fun _=>?_|fail)
 (refine bc ⟨[1,2,5,6,9,10,13,14,17,18],[(0,⟨[],[(3,⟨[4],[(7,⟨[8],[(11,⟨[12],[(15,⟨[16],[(19,⟨[20,21],[]⟩)]⟩)]⟩)]⟩)]⟩)]⟩)]⟩ (h:=?_))
 all_goals repeat' (first|refine ae (hc:=cq _ aa) ?_|refine ae (hc:=cU _ aa) ?_|refine gd ?_|refine ay (hy:=by (apply dl;rfl;rfl;(try simp only [Zb]);omega)) ?_|refine az ?_ (h':=?_)|exact aA|fail)
 repeat' (first|refine gs ?_|fail)
 (refine bc ⟨[0,1,2,5,6,9,10,13,14,17,18,21,22],[(3,⟨[4],[(7,⟨[8],[(11,⟨[12],[(15,⟨[16],[(19,⟨[20],[(23,⟨[24,25],[]⟩)]⟩)]⟩)]⟩)]⟩)]⟩)]⟩ (h:=?_))
 all_goals repeat' (first|refine ae (hc:=cq _ aa) ?_|refine ae (hc:=cU _ aa) ?_|refine ae (hc:=oe a.to a.toL aa) ?_|refine gd ?_|refine ay (hy:=by (apply dl;rfl;rfl;(try simp only [Zb]);omega)) ?_|refine az ?_ (h':=?_)|exact aA|fail)
 repeat' (first|refine gs ?_|fail)
 (refine bc ⟨[0,1,2,5,6,9,10,11],[(3,⟨[4],[(7,⟨[8],[(12,⟨[13,14],[]⟩)]⟩)]⟩)]⟩ (h:=?_))
 all_goals repeat' (first|refine ae (hc:=cq _ aa) ?_|refine ae (hc:=qq a.body ha.body) ?_|refine gd ?_|refine ay (hy:=by first|(apply cu;rfl;(repeat (exact ao));exact Xa.cells_body _;rfl)|(apply dl;rfl;rfl;(try simp only [Zb]);omega)) ?_|refine az ?_ (h':=?_)|exact aA|fail)
 repeat' (first|refine gs ?_|fail)
 rename_i b
 have hc4:(core4 a).size≤100000000000:=by
  have:(numV a.wrapsL.length).size≤10:=ar _
  simp only [core4,core3,core2,core1,Zb]
  omega
 have hle:=fd (a.wrapsL.map wrapV)
 have hw:=ha.wrapsV
 have e0:core5 a 0=core4 a:=by simp [core5,cats]
 refine aq (ι:=Kth a.wrapsL.length) (fun i=>⟨[(1,.pointer (some ⟨b,0,none⟩)),(4,.string (core5 a i.k)),(5,.int .i64 (i.k:Nat))],[cel b 46 a.cells],(Xa.at_ · a)⟩) (fun i=>a.wrapsL.length-i.k) ⟨0,Z2 _⟩ (ai ⟨rfl,?_,rfl,trivial⟩ (ak _) fun _ h=>h) fun i=>?_
 · simp only [e0,core4,core3,core2,core1,←hl,Zx];rfl
 have hik:=i.hk
 have hk5:(core5 a i.k).size≤200000000000:=by have:=hle i.k;simp only [core5,Zb];omega
 repeat' (first|refine gs ?_|(refine gp ?_ ?_<;>intro hx_ this)|fail)
 · have hlt:i.k<a.wrapsL.length:=by omega
   have hp':=hp aa
   obtain ⟨x,hx⟩:∃ x,a.wrapsL[i.k]?=some x:=⟨_,Zc hlt⟩
   have hxm:x∈a.wrapsL:=Z4 hx
   have hf:=ha.wraps x hxm
   have hfs:=gM hf
   obtain ⟨w1,w2⟩:=ha.wints x hxm
   have m1:=ar x.to
   have m2:=ar x.eph
   (refine ap ⟨[0,1,2,3,4,5,6,9,10,11,12,13,14,17,18,19,20,21,22],[(7,⟨[8],[(15,⟨[16],[(23,⟨[24,25],[]⟩)]⟩)]⟩)]⟩ [cel b 46 a.cells] (Xa.at_ · a) (h:=?_))
   all_goals repeat' (first|refine ae (hc:=cq _ aa) ?_|refine ae (hc:=qq x.box hf) ?_|refine gdz ?_|refine ay (hsub:=by exact aK) (hy:=by first|(apply aB (q:=i.k*5);rfl;rfl;omega;omega;assumption;omega)|(apply ez;rfl;assumption;rfl)|(apply dH (q:=i.k*5) (u:=.int .i64 x.to);rfl;exact fun w h=>(Wraps.get h.2 hx).2.2 0 _ rfl)|(apply dH (q:=i.k*5+1) (u:=.int .i64 x.eph);rfl;exact fun w h=>(Wraps.get h.2 hx).2.2 1 _ rfl)|(apply fP (q:=i.k*5+2) (cs:=x.box.cells);rfl;exact fun w h=>⟨rfl,(Wraps.get h.2 hx).2.1,B5 (Wraps.get h.2 hx).2.2⟩)|(apply dl;rfl;rfl;(try simp only [Zb]);omega)) ?_|refine az ?_ (h':=?_)|exact aA|fail)
   repeat' (first|refine gs ?_|fail)
   have hsucc:=fM (a.wrapsL.map wrapV) (k:=i.k) (by simpa using hlt)
   have hget:(a.wrapsL.map wrapV).getD i.k .empty=wrapV x:=by simp [hx]
   rw [hget] at hsucc
   have e2:core5 a (i.k+1)=core5 a i.k++numV x.to++numV x.eph++boxV x.box:=by simp only [core5,hsucc,Zx,wrapV]
   all_goals exact ⟨(⟨i.k+1,hlt⟩:Kth a.wrapsL.length),(by show a.wrapsL.length-(i.k+1)<a.wrapsL.length-i.k;omega),ai ⟨rfl,by rw [e2];rfl,rfl,trivial⟩ (ak _) fun _ h=>h⟩
 have hke:i.k=a.wrapsL.length:=by omega
 (refine bc ⟨[0,1,2,5,6],[(3,⟨[4],[(7,⟨[8,9],[]⟩)]⟩)]⟩ (h:=?_))
 all_goals repeat' (first|refine ae (hc:=cq _ aa) ?_|refine gd ?_|refine ay (hy:=by (apply dl;rfl;rfl;(try simp only [Zb]);omega)) ?_|refine az ?_ (h':=?_)|exact aA|fail)
 repeat' (first|refine gs ?_|fail)
 refine ab (ag rfl rfl) ?_
 simp only [Zg,coreV,←hke]
theorem oj (a:Xa) (hs:a.Str) (ha:rightB a=true→a.Fit) (hi:a.e<9223372036854775808∧a.s<9223372036854775808):Pu prog 157 #[a.v] (Xa.at_ · a) (.string (actBytes a)):=by
 refine ax func157 ntmps157 fun av bor w0=>?_
 obtain ⟨i8,i9⟩:=hi
 have n7:=ar a.e
 have n8:=ar a.s
 have hc:(actCore a).size≤300000000000:=by
  unfold actCore
  cases hrB:rightB a with
  | true=>exact fV (ha hrB)
  | false=>simp [ByteArray.size]
 have hcp:=wc a hs ha
 repeat' (first|(refine ae (hc:=hcp) ?_)|refine gs ?_|refine gs1 fun _=>?_|(refine gp ?_ ?_<;>intro hx_ this)|fail)
 · (all_goals (apply ab;apply ag;rfl;rfl));all_goals (simp only [actBytes, *,Za,Zg,Zf];done)
 (refine bc ⟨[0,1,2,3,6,7,8],[(4,⟨[5],[(9,⟨[10,11],[]⟩)]⟩)]⟩ (h:=?_))
 all_goals repeat' (first|refine ae (hc:=cq _ aa) ?_|refine gd ?_|refine ay (hy:=by (apply dl;rfl;rfl;(try simp only [Zb]);omega)) ?_|refine az ?_ (h':=?_)|exact aA|fail)
 repeat' (first|refine gs ?_|fail)
 all_goals ((all_goals (apply ab;apply ag;rfl;rfl));all_goals (simp only [actBytes, *,Za,Zg,Zf];done))
theorem vV:prog.underlying 44=some (.struct (prog.fieldsOf 44)):=by kernel_rfl
theorem An:prog.stoodInHeld 44=false:=by kernel_rfl
theorem Ao:prog.eqGuardType prog.depth 44=false:=by kernel_rfl
theorem Au (w:World) (a b c d:Int):(Op.equalIn 10000 44 (.agg #[.int .i64 a,.int .i64 b]) (.agg #[.int .i64 c,.int .i64 d])).run prog w=.ok (decide (a=c)&&decide (b=d)) w:=by
 have e:(10000:Nat)=9999+1:=rfl
 have e2:(9999:Nat)=9998+1:=rfl
 rw [e,run_equalIn_agg _ _ _ _ _ vV An]
 have hf:(prog.fieldsOf 44).toList.map (fun f=>(f.name,f.type,f.offset))=[("E",3,0),("S",3,1)]:=by kernel_rfl
 generalize (prog.fieldsOf 44).toList=l at hf
 rcases l with _|⟨f1,_|⟨f2,_|⟨f3,l⟩⟩⟩
 case cons.cons.nil =>
  simp only [ZZ,List.map_nil,List.cons.injEq,Prod.mk.injEq,and_true] at hf
  obtain ⟨⟨n1,t1,o1⟩,n2,t2,o2⟩:=hf
  have hag:=fun w=>(bX (Xx.out (P:=prog) (t:=3)) w).1
  have hst:=fun (x y:Int) (w:World)=>run_equalIn_int (P:=prog) w 9998 3 .i64 .i64 x y Xs.out
  cases h1:decide (a=c)<;>cases h2:decide (b=d) <;>
  · simp only [Zv,Qb] at h1 h2
    simp [Op.eqFields,n1,n2,t1,t2,o1,o2,part,hag,e2,hst,h1,h2]
 all_goals (have:=congrArg List.length hf;simp at this)
theorem FV {N:Nat} {av bor:List Nat} {w0:World} {E:Env} {loc:List Xl} {X:World→Prop} {ty t2:TypeId} {x y:Operand} {a b c d:Int} (hx:ev E x=some (.agg #[.int .i64 a,.int .i64 b])) (hy:ev E y=some (.agg #[.int .i64 c,.int .i64 d])) :
  Sy.Yields prog N av bor w0 ⟨E,loc,X⟩ (.binOp .eql 44 x y t2) ty (.bool (decide (a=c)&&decide (b=d))):=Sy.Yields.mk fun A w ok dd pos af g=>by
 have h1:=run_eql_struct (P:=prog) w 44 #[.int .i64 a,.int .i64 b] #[.int .i64 c,.int .i64 d]
 have h2:=Au w a b c d
 rw [h2] at h1
 simp [execOp,ok.eval (st:=⟨E,loc,X⟩) hx,ok.eval (st:=⟨E,loc,X⟩) hy,run_eqGuard_agg _ _ _ _ _ _ _ Ao,h1]
section
variable {N:Nat} {av bor:List Nat} {w0:World} {ops:Array Oper} {rest:List Oper} {kk:St→Prop} {E:Env} {loc:List Xl} {X:World→Prop} {n:Nat} {ty t2:TypeId} {pos:String} {af:Array Edge} {g:Option (Nat×Bool)} {bb want:Bool} {x y:Operand} {a b c d:Int}
theorem C4 (h:Sw prog N av bor w0 ops rest ⟨(n,.bool (decide (a=c)&&decide (b=d)))::E,loc,X⟩ kk) (hx:ev E x=some (.agg #[.int .i64 a,.int .i64 b]):=by rfl) (hy:ev E y=some (.agg #[.int .i64 c,.int .i64 d]):=by rfl) (hg:gdB ops E g=some (bb,want):=by rfl) (hbb:bb=want:=by exact aw) (hd:Nat.blt n N=true:=by rfl) :
  Sw prog N av bor w0 ops (⟨some n,.binOp .eql 44 x y t2,ty,pos,af,g⟩::rest) ⟨E,loc,X⟩ kk:=al (FV hx hy) hg hbb hd h
end
def sameZ (a:Xa):Bool:=decide ((a.to.n:Int)=0)&&(decide ((a.wraps.n:Int)=0)&&(seqB a.author Xa.zero.author&&(decide (a.seq=Xa.zero.seq)&&(seqB a.prev Xa.zero.prev&&(decide (a.kind=Xa.zero.kind)&&(decide (a.time=Xa.zero.time)&&(seqB a.object Xa.zero.object&&(seqB a.target Xa.zero.target&&(decide (a.scope=Xa.zero.scope)&&(seqB a.group Xa.zero.group&&(seqB a.text Xa.zero.text&&(boxEq a.body Xo.zero&&(decide (a.epoch=Xa.zero.epoch)&&(decide (a.n=Xa.zero.n)&&(decide (a.m=Xa.zero.m)&&(decide (a.e=0)&&decide (a.s=0)))))))))))))))))
set_option maxRecDepth 20000 in
theorem v6 (a:Xa):Pu prog 144 #[a.v,Xa.zero.v] (fun _=>True) (.bool (sameZ a)):=by
 refine ax func144 ntmps144 fun av bor w0=>?_
 repeat' (first|apply aJ|apply QQ|apply QR|refine aW ?_|refine aO ?_|refine bD ?_|refine bU ?_|refine bj ?_|refine aX ?_|refine rp ?_|refine ii ?_|refine gz ?_|refine cD fun _=>?_|refine QU ?_|apply QT|apply QS|apply ck|((fail_if_success (refine cr ?_));refine bx (ht:=?_) (hf:=?_);all_goals (intro hx_;skip))|(refine dN (ht:=?_) (hf:=?_);all_goals (intro hx_;skip)))
 · refine ab (ag rfl rfl) ?_
   have h0:Xa.zero.to.n=0:=rfl
   rw [h0] at hx_
   simp_all [sameZ]
 · refine ab (ag rfl rfl) ?_
   have h0:Xa.zero.wraps.n=0:=rfl
   rw [h0] at hx_
   simp_all [sameZ]
 rename_i b1 b2 g1
 have n1:a.to.n=0:=by
  have h0:Xa.zero.to.n=0:=rfl
  rw [h0] at g1
  simpa using g1
 have n2:a.wraps.n=0:=by
  have h0:Xa.zero.wraps.n=0:=rfl
  rw [h0] at hx_
  simpa using hx_
 refine aq (ι:=Unit) (fun _=>⟨[(2,.pointer (some ⟨b1,0,none⟩)),(3,.pointer (some ⟨b2,0,none⟩)),(5,.int .i64 0)],[cel b2 46 Xa.zero.cells,cel b1 46 a.cells],fun _=>True⟩) (fun _=>0) () (ai am (ak _) fun _ h=>h) fun _=>?_
 repeat' (first|apply aJ|apply QQ|apply QR|refine aW ?_|refine aO ?_|refine bD ?_|refine bU ?_|refine eX ?_|refine ii ?_|apply QT|apply QS|apply iY|(refine dN (ht:=?_) (hf:=?_);all_goals (intro hx_;first|have:=bA hx_|have:=cw hx_)))
 · exact absurd this (by rw [n1];decide)
 refine aq (ι:=Unit) (fun _=>⟨[(2,.pointer (some ⟨b1,0,none⟩)),(3,.pointer (some ⟨b2,0,none⟩)),(6,.int .i64 0)],[cel b2 46 Xa.zero.cells,cel b1 46 a.cells],fun _=>True⟩) (fun _=>0) () (ai am (ak _) fun _ h=>h) fun _=>?_
 repeat' (first|apply aJ|apply QQ|apply QR|refine aW ?_|refine aO ?_|refine bD ?_|refine bU ?_|refine bj ?_|refine aX ?_|refine eR ?_|refine eX ?_|refine rn ?_|refine ii ?_|refine bo ?_|apply QT|apply QS|apply ck|apply iY|(refine jI (a:=a.body) (b:=Xo.zero) ?_)|(refine C4 (a:=a.e) (b:=a.s) (c:=0) (d:=0) ?_)|(refine aE ?_)|((fail_if_success (refine cr ?_));refine bx (ht:=?_) (hf:=?_);all_goals (intro hx_;first|have:=bA hx_|have:=cw hx_|skip))|(refine dN (ht:=?_) (hf:=?_);all_goals (intro hx_;first|have:=bA hx_|have:=cw hx_)))
 · exact absurd this (by rw [n2];decide)
 all_goals (
  refine ab (ag rfl rfl) ?_
  have q1:decide ((a.to.n:Int)=0)=true:=by rw [n1];rfl
  have q2:decide ((a.wraps.n:Int)=0)=true:=by rw [n2];rfl
  rw [sameZ,q1,q2]
  clear q1 q2 n1 n2
  first
   | rfl
   | (simp_all only [Zh,Zk,Zl,Zs,Zr,Zi];done)
   | (simp_all;done)
   | skip)
theorem CellAt.same {w:World} {p:Option Addr} {q:Nat} {u v:Value} (h1:CellAt w p q u) (h2:CellAt w p q v):u=v:=by
 obtain ⟨a,ha⟩:=QM.1 h1.1
 have:=(h1.2 a ha).symm.trans (h2.2 a ha)
 exact Option.some.inj this
theorem Strs.same {w:World} {s:Xk} {l m:List ByteArray} (h1:Strs w s l) (h2:Strs w s m):l=m:=by
 have hl:l.length=m.length:=h1.len_.symm.trans h2.len_
 apply List.ext_getElem hl
 intro i i1 i2
 have a1:=h1.at_ (Zc i1)
 have a2:=h2.at_ (Zc i2)
 exact Value.string.inj (CellAt.same a1 a2)
section
variable {H:Type} {enc:TypeId×Value→H} {P:Program} {w:World} {base:Nat} {spare:Nat→Bool} {held:Bool}
theorem Xk.v_inj {s t:Xk} (h:s.v=t.v):s=t:=by
 obtain ⟨p,n,c⟩:=s
 obtain ⟨p',n',c'⟩:=t
 simp only [Xk.v,Value.slice.injEq] at h
 obtain ⟨rfl,rfl,rfl⟩:=h
 rfl
theorem FQ {fuel:Nat} {a:Xa} {x:DataW H×List MemPlace} (h:DataW.trod enc prog w base spare held fuel 46 a.cells=some x) (ha:a.at_ w):a.Str:=by
 obtain ⟨n0,y0,h0⟩:=aV (i:=0) (off:=0) (k:=1) (t':=9) underlying46 h rfl rfl rfl aj
 obtain ⟨n6,y6,h6⟩:=aV (i:=6) (off:=6) (k:=1) (t':=9) underlying46 h rfl rfl rfl aj
 obtain ⟨n8,y8,h8⟩:=aV (i:=8) (off:=8) (k:=1) (t':=9) underlying46 h rfl rfl rfl aj
 obtain ⟨n9,y9,h9⟩:=aV (i:=9) (off:=9) (k:=1) (t':=39) underlying46 h rfl rfl rfl aj
 obtain ⟨n10,y10,h10⟩:=aV (i:=10) (off:=10) (k:=1) (t':=9) underlying46 h rfl rfl rfl aj
 obtain ⟨s0,e0,b0⟩:=bQ h0
 obtain ⟨s6,e6,b6⟩:=bQ h6
 obtain ⟨s8,e8,b8⟩:=bQ h8
 obtain ⟨s9,l9,e9,r9,b9⟩:=jj h9
 obtain ⟨s10,e10,b10⟩:=bQ h10
 simp [Xa.cells] at e0 e6 e8 e9 e10
 have e9':=Xk.v_inj e9
 subst e0;subst e6;subst e8;subst e10
 rw [←e9'] at r9
 have e:=Strs.same ha.1 r9
 exact ⟨b0,b6,b8,b10,by rw [e];exact b9⟩
theorem AP {fuel:Nat} {cs:List Value} {x:DataW H×List MemPlace} (h:DataW.trod enc prog w base spare held fuel 46 cs=some x):∃ a:Xa,cs=a.cells∧a.at_ w∧a.Rng∧a.target.size≤maxLen∧a.Str:=by
 obtain ⟨a,e,h1,h2,h3⟩:=DU h
 subst e
 exact ⟨a,rfl,h1,h2,h3,FQ h h1⟩
end
end Go.Proofs.YtaolfiikahlmkaaGreatDoor
namespace Go.Proofs.YtaolfiikahlmkaaGreatDoor
open Go Go.Proofs Sy Go.RowKit Go.Deep Go.ChangeShapes Tryz
structure Xg.Str (c:Xg):Prop where
 actor:c.actor.size≤maxLen
 prev:c.prev.size≤maxLen
 rng:c.base<9223372036854775808∧c.gen<9223372036854775808∧c.home<9223372036854775808∧c.pub<9223372036854775808∧c.time<9223372036854775808∧c.e<9223372036854775808∧c.s<9223372036854775808
structure Xh.Str (b:Xh):Prop where
 actor:b.actor.size≤maxLen
 claim:b.claim.size≤maxLen
 rng:b.server<9223372036854775808∧b.gen<9223372036854775808∧b.time<9223372036854775808∧b.e<9223372036854775808∧b.s<9223372036854775808
structure Xt.Str (d:Xt):Prop where
 actor:d.actor.size≤maxLen
 object:d.object.size≤maxLen
 text:d.text.size≤maxLen
 to:∀ x∈d.toL,x.size≤maxLen
 rng:d.server<9223372036854775808∧d.number<9223372036854775808∧d.kind<9223372036854775808∧d.n<9223372036854775808∧d.from_<9223372036854775808∧d.until_<9223372036854775808∧d.e<9223372036854775808∧d.s<9223372036854775808
structure Xc.Str (i:Xc):Prop where
 act:i.act.Str
 rng:i.act.Rng
 claim:i.claim.Str
 ballot:i.ballot.Str
 dec:i.dec.Str
section
variable {H:Type} {enc:TypeId×Value→H} {P:Program} {w:World} {base:Nat} {spare:Nat→Bool} {held:Bool}
theorem wx {fuel:Nat} {cs:List Value} {x:DataW H×List MemPlace} (h:DataW.trod enc prog w base spare held fuel 22 cs=some x):∃ (s:Xk) (l:List Int),cs=[s.v]∧Ints w s l∧∀ n∈l,n<9223372036854775808:=by
 obtain ⟨s,l,h1,h2,h3⟩:=gI (α:=Int) underlying22 (size:=1) aj (fun n=>[.int .i64 n]) (fun n=>n<9223372036854775808) (fun n cs y hy=>by obtain ⟨s,h1,h2⟩:=bp hy;exact ⟨s,h1,h2⟩) h
 exact ⟨s,l,h1,h2,h3⟩
theorem wy {fuel:Nat} {cs:List Value} {x:DataW H×List MemPlace} (h:DataW.trod enc prog w base spare held fuel 54 cs=some x):∃ a:Xg,cs=a.cells∧a.Str:=by
 have hl:=gv underlying54 (k:=9) aj h
 obtain ⟨n0,y0,h0⟩:=aV (i:=0) (off:=0) (k:=1) (t':=9) underlying54 h rfl rfl rfl aj
 obtain ⟨n1,y1,h1⟩:=aV (i:=1) (off:=1) (k:=1) (t':=3) underlying54 h rfl rfl rfl aj
 obtain ⟨n2,y2,h2⟩:=aV (i:=2) (off:=2) (k:=1) (t':=9) underlying54 h rfl rfl rfl aj
 obtain ⟨n3,y3,h3⟩:=aV (i:=3) (off:=3) (k:=1) (t':=3) underlying54 h rfl rfl rfl aj
 obtain ⟨n4,y4,h4⟩:=aV (i:=4) (off:=4) (k:=1) (t':=3) underlying54 h rfl rfl rfl aj
 obtain ⟨n5,y5,h5⟩:=aV (i:=5) (off:=5) (k:=1) (t':=3) underlying54 h rfl rfl rfl aj
 obtain ⟨n6,y6,h6⟩:=aV (i:=6) (off:=6) (k:=1) (t':=3) underlying54 h rfl rfl rfl aj
 obtain ⟨n7,y7,h7⟩:=aV (i:=7) (off:=7) (k:=2) (t':=44) underlying54 h rfl rfl rfl aj
 match cs,hl with
 | [c0,c1,c2,c3,c4,c5,c6,c7,c8],_ =>
  obtain ⟨s0,e0,b0⟩:=bQ h0
  obtain ⟨s1,e1,b1⟩:=bp h1
  obtain ⟨s2,e2,b2⟩:=bQ h2
  obtain ⟨s3,e3,b3⟩:=bp h3
  obtain ⟨s4,e4,b4⟩:=bp h4
  obtain ⟨s5,e5,b5⟩:=bp h5
  obtain ⟨s6,e6,b6⟩:=bp h6
  obtain ⟨s7,t7,e7,b7,bb7⟩:=j1 h7
  simp at e0 e1 e2 e3 e4 e5 e6 e7
  exact ⟨⟨s0,s1,s2,s3,s4,s5,s6,s7,t7⟩,by simp [Xg.cells,e0,e1,e2,e3,e4,e5,e6,e7],⟨b0,b2,b1,b3,b4,b5,b6,b7,bb7⟩⟩
theorem un {fuel:Nat} {cs:List Value} {x:DataW H×List MemPlace} (h:DataW.trod enc prog w base spare held fuel 56 cs=some x):∃ a:Xh,cs=a.cells∧a.Str:=by
 have hl:=gv underlying56 (k:=7) aj h
 obtain ⟨n0,y0,h0⟩:=aV (i:=0) (off:=0) (k:=1) (t':=3) underlying56 h rfl rfl rfl aj
 obtain ⟨n1,y1,h1⟩:=aV (i:=1) (off:=1) (k:=1) (t':=9) underlying56 h rfl rfl rfl aj
 obtain ⟨n2,y2,h2⟩:=aV (i:=2) (off:=2) (k:=1) (t':=3) underlying56 h rfl rfl rfl aj
 obtain ⟨n3,y3,h3⟩:=aV (i:=3) (off:=3) (k:=1) (t':=9) underlying56 h rfl rfl rfl aj
 obtain ⟨n4,y4,h4⟩:=aV (i:=4) (off:=4) (k:=1) (t':=3) underlying56 h rfl rfl rfl aj
 obtain ⟨n5,y5,h5⟩:=aV (i:=5) (off:=5) (k:=2) (t':=44) underlying56 h rfl rfl rfl aj
 match cs,hl with
 | [c0,c1,c2,c3,c4,c5,c6],_ =>
  obtain ⟨s0,e0,b0⟩:=bp h0
  obtain ⟨s1,e1,b1⟩:=bQ h1
  obtain ⟨s2,e2,b2⟩:=bp h2
  obtain ⟨s3,e3,b3⟩:=bQ h3
  obtain ⟨s4,e4,b4⟩:=bp h4
  obtain ⟨s5,t5,e5,b5,bb5⟩:=j1 h5
  simp at e0 e1 e2 e3 e4 e5
  exact ⟨⟨s0,s1,s2,s3,s4,s5,t5⟩,by simp [Xh.cells,e0,e1,e2,e3,e4,e5],⟨b1,b3,b0,b2,b4,b5,bb5⟩⟩
theorem DT {fuel:Nat} {cs:List Value} {x:DataW H×List MemPlace} (h:DataW.trod enc prog w base spare held fuel 58 cs=some x):∃ a:Xt,cs=a.cells∧Xt.at_ w a∧a.Str:=by
 have hl:=gv underlying58 (k:=12) aj h
 obtain ⟨n0,y0,h0⟩:=aV (i:=0) (off:=0) (k:=1) (t':=3) underlying58 h rfl rfl rfl aj
 obtain ⟨n1,y1,h1⟩:=aV (i:=1) (off:=1) (k:=1) (t':=3) underlying58 h rfl rfl rfl aj
 obtain ⟨n2,y2,h2⟩:=aV (i:=2) (off:=2) (k:=1) (t':=3) underlying58 h rfl rfl rfl aj
 obtain ⟨n3,y3,h3⟩:=aV (i:=3) (off:=3) (k:=1) (t':=9) underlying58 h rfl rfl rfl aj
 obtain ⟨n4,y4,h4⟩:=aV (i:=4) (off:=4) (k:=1) (t':=9) underlying58 h rfl rfl rfl aj
 obtain ⟨n5,y5,h5⟩:=aV (i:=5) (off:=5) (k:=1) (t':=9) underlying58 h rfl rfl rfl aj
 obtain ⟨n6,y6,h6⟩:=aV (i:=6) (off:=6) (k:=1) (t':=39) underlying58 h rfl rfl rfl aj
 obtain ⟨n7,y7,h7⟩:=aV (i:=7) (off:=7) (k:=1) (t':=3) underlying58 h rfl rfl rfl aj
 obtain ⟨n8,y8,h8⟩:=aV (i:=8) (off:=8) (k:=1) (t':=3) underlying58 h rfl rfl rfl aj
 obtain ⟨n9,y9,h9⟩:=aV (i:=9) (off:=9) (k:=1) (t':=3) underlying58 h rfl rfl rfl aj
 obtain ⟨n10,y10,h10⟩:=aV (i:=10) (off:=10) (k:=2) (t':=44) underlying58 h rfl rfl rfl aj
 match cs,hl with
 | [c0,c1,c2,c3,c4,c5,c6,c7,c8,c9,c10,c11],_ =>
  obtain ⟨s0,e0,b0⟩:=bp h0
  obtain ⟨s1,e1,b1⟩:=bp h1
  obtain ⟨s2,e2,b2⟩:=bp h2
  obtain ⟨s3,e3,b3⟩:=bQ h3
  obtain ⟨s4,e4,b4⟩:=bQ h4
  obtain ⟨s5,e5,b5⟩:=bQ h5
  obtain ⟨s6,l6,e6,r6,b6⟩:=jj h6
  obtain ⟨s7,e7,b7⟩:=bp h7
  obtain ⟨s8,e8,b8⟩:=bp h8
  obtain ⟨s9,e9,b9⟩:=bp h9
  obtain ⟨s10,t10,e10,b10,bb10⟩:=j1 h10
  simp at e0 e1 e2 e3 e4 e5 e6 e7 e8 e9 e10
  exact ⟨⟨s0,s1,s2,s3,s4,s5,s6,s7,s8,s9,s10,t10,l6⟩,by simp [Xt.cells,e0,e1,e2,e3,e4,e5,e6,e7,e8,e9,e10],r6,⟨b3,b4,b5,b6,b0,b1,b2,b7,b8,b9,b10,bb10⟩⟩
theorem AO {fuel:Nat} {cs:List Value} {x:DataW H×List MemPlace} (h:DataW.trod enc prog w base spare held fuel 60 cs=some x):∃ a:Xc,cs=a.cells∧Xc.at_ w a∧a.Str:=by
 have hl:=gv underlying60 (k:=49) aj h
 obtain ⟨n0,y0,h0⟩:=aV (i:=0) (off:=0) (k:=1) (t':=3) underlying60 h rfl rfl rfl aj
 obtain ⟨n1,y1,h1⟩:=aV (i:=1) (off:=1) (k:=20) (t':=46) underlying60 h rfl rfl rfl aj
 obtain ⟨n2,y2,h2⟩:=aV (i:=2) (off:=21) (k:=9) (t':=54) underlying60 h rfl rfl rfl aj
 obtain ⟨n3,y3,h3⟩:=aV (i:=3) (off:=30) (k:=7) (t':=56) underlying60 h rfl rfl rfl aj
 obtain ⟨n4,y4,h4⟩:=aV (i:=4) (off:=37) (k:=12) (t':=58) underlying60 h rfl rfl rfl aj
 obtain ⟨a0,e0,_⟩:=bp h0
 obtain ⟨a1,e1,q1,r1,_,s1⟩:=AP h1
 obtain ⟨a2,e2,s2⟩:=wy h2
 obtain ⟨a3,e3,s3⟩:=un h3
 obtain ⟨a4,e4,q4,s4⟩:=DT h4
 refine ⟨⟨a0,a1,a2,a3,a4⟩,?_,⟨q1,q4⟩,⟨s1,r1,s2,s3,s4⟩⟩
 have h5:cs=cs.take 1++((cs.drop 1).take 20++((cs.drop 21).take 9++((cs.drop 30).take 7++(cs.drop 37).take 12))):=by
  have t1:(cs.drop 37).take 12=cs.drop 37:=Qd (by rw [Qp];omega)
  rw [t1,show cs.drop 37=(cs.drop 30).drop 7 from by rw [List.drop_drop],Qq,show cs.drop 30=(cs.drop 21).drop 9 from by rw [List.drop_drop],Qq,show cs.drop 21=(cs.drop 1).drop 20 from by rw [List.drop_drop],Qq,Qq]
 rw [List.drop_zero] at e0
 rw [h5,e0,e1,e2,e3,e4]
 simp [Xc.cells]
theorem wv {fuel:Nat} {cs:List Value} {x:DataW H×List MemPlace} (h:DataW.trod enc prog w base spare held fuel 23 cs=some x):∃ (s:Xk) (l:List Xc),cs=[s.v]∧Items w s l∧∀ i∈l,i.Str:=by
 haveI:Inhabited Xc:=⟨Xc.zero⟩
 obtain ⟨s,l,h1,h2,h3⟩:=gI (α:=Xc) underlying23 (size:=49) aj Xc.cells (fun a=>Xc.at_ w a∧a.Str) (fun n cs y hy=>AO hy) h
 exact ⟨s,l,h1,⟨h2,fun a ha=>(h3 a ha).1⟩,fun a ha=>(h3 a ha).2⟩
theorem wu {fuel:Nat} {cs:List Value} {x:DataW H×List MemPlace} (h:DataW.trod enc prog w base spare held fuel 25 cs=some x):∃ (s t:Xk) (l:List Int) (I:List Xc),cs=[s.v,t.v]∧Ints w s l∧Items w t I∧(∀ n∈l,n<9223372036854775808)∧∀ i∈I,i.Str:=by
 have hl:=gv underlying25 (k:=2) aj h
 obtain ⟨n0,y0,h0⟩:=aV (i:=0) (off:=0) (k:=1) (t':=22) underlying25 h rfl rfl rfl aj
 obtain ⟨n1,y1,h1⟩:=aV (i:=1) (off:=1) (k:=1) (t':=23) underlying25 h rfl rfl rfl aj
 match cs,hl with
 | [c0,c1],_ =>
  obtain ⟨s0,l0,e0,r0,b0⟩:=wx h0
  obtain ⟨s1,l1,e1,r1,b1⟩:=wv h1
  simp at e0 e1
  exact ⟨s0,s1,l0,l1,by rw [e0,e1],r0,r1,b0,b1⟩
end
end Go.Proofs.YtaolfiikahlmkaaGreatDoor
namespace Go.Proofs.YtaolfiikahlmkaaGreatDoor
open Go Go.Proofs Sy Tryz
theorem gW (n l h:Int):Pu prog 232 #[.int .i64 n,.int .i64 l,.int .i64 h] (fun _=>True) (.bool (withinB n l h)):=by
 refine ax func232 ntmps232 fun av bor w0=>?_
 repeat' (first|refine gs ?_|(refine gp ?_ ?_<;>intro hx_ this)|fail)
 (all_goals (apply ab;apply ag;rfl;rfl));all_goals (simp only [withinB, *,Za,Zg,Zf];done)
theorem kY (e s:Int):Pu prog 233 #[.agg #[.int .i64 e,.int .i64 s]] (fun _=>True) (.bool (sigB e s)):=by
 refine ax func233 ntmps233 fun av bor w0=>?_
 repeat' (first|refine ae (hc:=gW _ _ _) ?_|refine gs ?_|refine gs1 fun _=>?_|(refine gp ?_ ?_<;>intro hx_ this)|fail)
 (all_goals (apply ab;apply ag;rfl;rfl));all_goals (simp only [sigB, *,Za,Zg,Zf];done)
theorem pJ (c:Xg) (hs:c.Str):Pu prog 147 #[c.v] (fun _=>True) (.bool (claimR c)):=by
 refine ax func147 ntmps147 fun av bor w0=>?_
 have hid:=gH c.actor hs.actor
 repeat' (first|(refine ae (hc:=hid) ?_)|refine ae (hc:=gW _ _ _) ?_|refine ae (hc:=kY c.e c.s) ?_|refine gs ?_|refine gs1 fun _=>?_|(refine aE (vs:=[.int .i64 c.e,.int .i64 c.s]) (hv:=rfl) ?_)|(refine gp ?_ ?_<;>intro hx_ this)|fail)
 (all_goals (apply ab;apply ag;rfl;rfl));all_goals (simp only [claimR,isDigestB, *,Za,Zg,Zf];done)
theorem ue (b:Xh) (hs:b.Str):Pu prog 148 #[b.v] (fun _=>True) (.bool (ballotR b)):=by
 refine ax func148 ntmps148 fun av bor w0=>?_
 have hid:=gH b.actor hs.actor
 repeat' (first|(refine ae (hc:=hid) ?_)|refine ae (hc:=gW _ _ _) ?_|refine ae (hc:=kY b.e b.s) ?_|refine gs ?_|refine gs1 fun _=>?_|(refine aE (vs:=[.int .i64 b.e,.int .i64 b.s]) (hv:=rfl) ?_)|(refine gp ?_ ?_<;>intro hx_ this)|fail)
 (all_goals (apply ab;apply ag;rfl;rfl));all_goals (simp only [ballotR,isDigestB, *,Za,Zg,Zf];done)
def numsD (d:Xt):Bool:=withinB d.server 0 19&&(withinB d.number 0 1073741824&&(withinB d.kind 0 9&&(withinB d.from_ 0 1099511627776&&(withinB d.until_ 0 1099511627776&&decide (d.from_<d.until_)))))
def decF (d:Xt):Bool:=bif !numsD d||!sigB d.e d.s then false
 else bif kindO d.kind then seqB d.actor ⟨#[]⟩&&(isDigestB d.object&&(reasonD d&&plainD d))
 else bif decide (d.kind=8) then seqB d.actor ⟨#[]⟩&&(seqB d.object ⟨#[]⟩&&(reasonD d&&(isIds d.toL&&withinB d.n 1 (d.to.n:Nat))))
 else bif decide (d.kind=9) then seqB d.actor ⟨#[]⟩&&(seqB d.object ⟨#[]⟩&&(decide ((d.text.size:Int)≤4096)&&plainD d))
 else isId d.actor&&(seqB d.object ⟨#[]⟩&&(reasonD d&&plainD d))
theorem EP {k:Int} (h:withinB k 0 9=true) (h1:kindO k=false) (h2:decide (k=8)=false) (h3:decide (k=9)=false):kindA k=true:=by
 simp only [withinB,kindO,kindA,Zq,Bool.or_eq_true,Qj,Zv,Qb] at *
 omega
theorem HI {k:Int} (h1:kindO k=true):withinB k 0 9=true∧kindA k=false:=by
 simp only [withinB,kindO,kindA,Zq,Bool.or_eq_true,Qj,Zv,Qb] at *
 omega
theorem HJ {k:Int} (h1:kindA k=true):withinB k 0 9=true∧kindO k=false∧decide (k=8)=false∧decide (k=9)=false:=by
 simp only [withinB,kindO,kindA,Zq,Bool.or_eq_true,Qj,Zv,Qb] at *
 omega
theorem Ij (d:Xt):decF d=decR d:=by
 rw [decF,decR,numsD,termsB]
 cases hA:kindA d.kind with
 | true =>
  obtain ⟨h1,h2,h3,h4⟩:=HJ hA
  rw [h1,h2,h3,h4]
  generalize withinB d.server 0 19=b1
  generalize withinB d.number 0 1073741824=b2
  generalize withinB d.from_ 0 1099511627776=b3
  generalize withinB d.until_ 0 1099511627776=b4
  generalize decide (d.from_<d.until_)=b5
  generalize sigB d.e d.s=b6
  simp only [Zg,Zf]
  generalize (isId d.actor&&(seqB d.object ⟨#[]⟩&&(reasonD d&&plainD d)))=b7
  cases b1<;>cases b2<;>cases b3<;>cases b4<;>cases b5<;>cases b6<;>cases b7<;>rfl
 | false =>
  cases hO:kindO d.kind with
  | true =>
   rw [(HI hO).1]
   generalize withinB d.server 0 19=b1
   generalize withinB d.number 0 1073741824=b2
   generalize withinB d.from_ 0 1099511627776=b3
   generalize withinB d.until_ 0 1099511627776=b4
   generalize decide (d.from_<d.until_)=b5
   generalize sigB d.e d.s=b6
   simp only [Zg,Zf]
   generalize (seqB d.actor ⟨#[]⟩&&(isDigestB d.object&&(reasonD d&&plainD d)))=b7
   cases b1<;>cases b2<;>cases b3<;>cases b4<;>cases b5<;>cases b6<;>cases b7<;>rfl
  | false =>
   cases h8:decide (d.kind=8) with
   | true =>
    have hw:withinB d.kind 0 9=true:=by rw [bA h8];rfl
    rw [hw]
    generalize withinB d.server 0 19=b1
    generalize withinB d.number 0 1073741824=b2
    generalize withinB d.from_ 0 1099511627776=b3
    generalize withinB d.until_ 0 1099511627776=b4
    generalize decide (d.from_<d.until_)=b5
    generalize sigB d.e d.s=b6
    simp only [Zg,Zf]
    generalize (seqB d.actor ⟨#[]⟩&&(seqB d.object ⟨#[]⟩&&(reasonD d&&(isIds d.toL&&withinB d.n 1 (d.to.n:Nat)))))=b7
    cases b1<;>cases b2<;>cases b3<;>cases b4<;>cases b5<;>cases b6<;>cases b7<;>rfl
   | false =>
    cases h9:decide (d.kind=9) with
    | true =>
     have hw:withinB d.kind 0 9=true:=by rw [bA h9];rfl
     rw [hw]
     generalize withinB d.server 0 19=b1
     generalize withinB d.number 0 1073741824=b2
     generalize withinB d.from_ 0 1099511627776=b3
     generalize withinB d.until_ 0 1099511627776=b4
     generalize decide (d.from_<d.until_)=b5
     generalize sigB d.e d.s=b6
     simp only [Zg,Zf]
     generalize (seqB d.actor ⟨#[]⟩&&(seqB d.object ⟨#[]⟩&&(decide ((d.text.size:Int)≤4096)&&plainD d)))=b7
     cases b1<;>cases b2<;>cases b3<;>cases b4<;>cases b5<;>cases b6<;>cases b7<;>rfl
    | false =>
     cases hw:withinB d.kind 0 9 with
     | true=>rw [EP hw hO h8 h9] at hA;cases hA
     | false=>simp
theorem pI (d:Xt) (hs:d.Str):Pu prog 149 #[d.v] (fun w=>d.at_ w) (.bool (decR d)):=by
 refine ax func149 ntmps149 fun av bor w0=>?_
 rw [←Ij]
 have hid:=gH d.actor hs.actor
 have hids:=k8 d.to d.toL hs.to
 repeat' (first|(refine ae (hc:=hid) ?_)|(refine ae (hc:=hids) ?_)|refine ae (hc:=gW _ _ _) ?_|refine ae (hc:=kY d.e d.s) ?_|refine gs ?_|refine gs1 fun _=>?_|(refine aE (vs:=[.int .i64 d.e,.int .i64 d.s]) (hv:=rfl) ?_)|(refine gp ?_ ?_<;>intro hx_ this)|fail)
 all_goals (apply ab;apply ag;rfl;rfl)
 all_goals first
  | rfl
  | (simp_all [decF,numsD,plainD,reasonD,kindO,isDigestB];done)
  | (simp_all [decF,numsD,plainD,reasonD,kindO,isDigestB];intros;omega)
theorem cZ (x:ByteArray) (l:List ByteArray):textsV (x::l)=textV x++textsV l:=rfl
theorem du:textsV []=ByteArray.empty:=rfl
theorem dU (x:Int) (l:List Int):numsV (x::l)=numV x++numsV l:=rfl
theorem eJ:numsV []=ByteArray.empty:=rfl
structure Xg.Sm (c:Xg):Prop where
 actor:c.actor.size≤1000000
 prev:c.prev.size≤1000000
structure Xh.Sm (c:Xh):Prop where
 actor:c.actor.size≤1000000
 claim:c.claim.size≤1000000
structure Xt.Sm (c:Xt):Prop where
 actor:c.actor.size≤1000000
 object:c.object.size≤1000000
 text:c.text.size≤1000000
 to:(listV c.toL).size≤1000000
theorem rM (c:Xg) (hl:c.Lt) (hs:c.Sm):Pu prog 158 #[c.v] (fun _=>True) (.string (coreCl c)):=by
 refine ax func158 ntmps158 fun av bor w0=>?_
 have h1:=hs.actor
 have h2:=hs.prev
 have s1:=aC c.actor
 have s2:=aC c.prev
 have n1:=ar c.base
 have n2:=ar c.gen
 have n3:=ar c.home
 have n4:=ar c.pub
 have n5:=ar c.time
 obtain ⟨i1,i2,i3,i4,i5,_,_⟩:=hl
 repeat' (first|refine gs ?_|refine gs1 fun _=>?_|fail)
 (refine bc ⟨[0,1,3,4,7,8,11,12,15,16,19,20,23,24],[(2,⟨[],[(5,⟨[6],[(9,⟨[10],[(13,⟨[14],[(17,⟨[18],[(21,⟨[22],[(25,⟨[26,27],[]⟩)]⟩)]⟩)]⟩)]⟩)]⟩)]⟩)]⟩ (h:=?_))
 all_goals repeat' (first|refine ae (hc:=cq _ aa) ?_|refine ae (hc:=cU _ aa) ?_|refine gd ?_|refine ay (hy:=by (apply dl;rfl;rfl;(try simp only [Zb]);omega)) ?_|refine az ?_ (h':=?_)|exact aA|fail)
 all_goals
  repeat' (first|refine gs ?_|fail)
  refine ab (ag rfl rfl) ?_
  simp only [coreCl,cZ,du,dU,eJ,Qh,Zx]
theorem jX (c:Xh) (hl:c.Lt) (hs:c.Sm):Pu prog 154 #[c.v] (fun _=>True) (.string (coreBa c)):=by
 refine ax func154 ntmps154 fun av bor w0=>?_
 have h1:=hs.actor
 have h2:=hs.claim
 have s1:=aC c.actor
 have s2:=aC c.claim
 have n1:=ar c.server
 have n2:=ar c.gen
 have n3:=ar c.time
 obtain ⟨i1,i2,i3,_,_⟩:=hl
 repeat' (first|refine gs ?_|refine gs1 fun _=>?_|fail)
 (refine bc ⟨[0,1,3,4,7,8,11,12,15,16],[(2,⟨[],[(5,⟨[6],[(9,⟨[10],[(13,⟨[14],[(17,⟨[18,19],[]⟩)]⟩)]⟩)]⟩)]⟩)]⟩ (h:=?_))
 all_goals repeat' (first|refine ae (hc:=cq _ aa) ?_|refine ae (hc:=cU _ aa) ?_|refine gd ?_|refine ay (hy:=by (apply dl;rfl;rfl;(try simp only [Zb]);omega)) ?_|refine az ?_ (h':=?_)|exact aA|fail)
 all_goals
  repeat' (first|refine gs ?_|fail)
  refine ab (ag rfl rfl) ?_
  simp only [coreBa,cZ,du,dU,eJ,Qh,Zx]
theorem jW (c:Xt) (hl:c.Lt) (hs:c.Sm):Pu prog 155 #[c.v] (fun w=>c.at_ w) (.string (coreDe c)):=by
 refine ax func155 ntmps155 fun av bor w0=>?_
 have h1:=hs.actor
 have h2:=hs.object
 have h3:=hs.text
 have h4:=hs.to
 have s1:=aC c.actor
 have s2:=aC c.object
 have s3:=aC c.text
 have n1:=ar c.server
 have n2:=ar c.number
 have n3:=ar c.kind
 have n4:=ar c.n
 have n5:=ar c.from_
 have n6:=ar c.until_
 have hli:=oe c.to c.toL aa
 obtain ⟨i1,i2,i3,i4,i5,i6,_,_⟩:=hl
 repeat' (first|refine gs ?_|refine gs1 fun _=>?_|fail)
 (refine bc ⟨[0,1,3,4,7,8,11,12,15,16,19,20],[(2,⟨[],[(5,⟨[6],[(9,⟨[10],[(13,⟨[14],[(17,⟨[18],[(21,⟨[22,23],[]⟩)]⟩)]⟩)]⟩)]⟩)]⟩)]⟩ (h:=?_))
 all_goals repeat' (first|refine ae (hc:=cq _ aa) ?_|refine ae (hc:=cU _ aa) ?_|refine gd ?_|refine ay (hy:=by (apply dl;rfl;rfl;(try simp only [Zb]);omega)) ?_|refine az ?_ (h':=?_)|exact aA|fail)
 all_goals
  repeat' (first|refine gs ?_|fail)
  (refine bc ⟨[0,1,2,5,6,9,10,13,14],[(3,⟨[4],[(7,⟨[8],[(11,⟨[12],[(15,⟨[16,17],[]⟩)]⟩)]⟩)]⟩)]⟩ (h:=?_))
  all_goals repeat' (first|refine ae (hc:=cq _ aa) ?_|(refine ae (hc:=hli) ?_)|refine gd ?_|refine ay (hy:=by (apply dl;rfl;rfl;(try simp only [Zb]);omega)) ?_|refine az ?_ (h':=?_)|exact aA|fail)
  all_goals
   repeat' (first|refine gs ?_|fail)
   refine ab (ag rfl rfl) ?_
   simp only [coreDe,cZ,du,dU,eJ,Qh,Zx]
theorem jp (e s:Int) (he:e<9223372036854775808) (hs:s<9223372036854775808):Pu prog 159 #[.agg #[.int .i64 e,.int .i64 s]] (fun _=>True) (.string (numsV [e,s])):=by
 refine ax func159 ntmps159 fun av bor w0=>?_
 have n1:=ar e
 have n2:=ar s
 repeat' (first|refine gs ?_|refine gs1 fun _=>?_|fail)
 (refine bc ⟨[0,1,3,4],[(2,⟨[],[(5,⟨[6,7],[]⟩)]⟩)]⟩ (h:=?_))
 all_goals repeat' (first|refine ae (hc:=cq _ aa) ?_|refine gd ?_|refine ay (hy:=by (apply dl;rfl;rfl;(try simp only [Zb]);omega)) ?_|refine az ?_ (h':=?_)|exact aA|fail)
 all_goals
  repeat' (first|refine gs ?_|fail)
  refine ab (ag rfl rfl) ?_
  simp only [dU,eJ,Qh]
end Go.Proofs.YtaolfiikahlmkaaGreatDoor
