/- Joined. -/
import Derived.Test.YtaolfiikahlmkaaGreatDoorT11
set_option linter.unusedVariables false
set_option linter.unusedSimpArgs false
set_option maxHeartbeats 16000000
namespace Go.Proofs.YtaolfiikahlmkaaGreatDoor
open Go Go.Proofs Sy Tryz
def maskB (fs:Nat) (z0 z1 z2 z3 z4 z5 z6 z7 z8 z9 z10:Bool):Bool:=(fs.testBit 0||z0)&&(fs.testBit 1||z1)&&(fs.testBit 2||z2)&&(fs.testBit 3||z3)&&(fs.testBit 4||z4)&&(fs.testBit 5||z5)&&(fs.testBit 6||z6)&&(fs.testBit 7||z7)&&(fs.testBit 8||z8)&&(fs.testBit 9||z9)&&(fs.testBit 10||z10)
def maskOk (fs:Nat) (z0 z1 z2 z3 z4 z5 z6 z7 z8 z9 z10:Bool):Bool:=decide (bitsV .andNot .i64 (useU z0 z1 z2 z3 z4 z5 z6 z7 z8 z9 z10) fs=0)==maskB fs z0 z1 z2 z3 z4 z5 z6 z7 z8 z9 z10
def maskAll (fs:Nat):Bool:=bools fun z0=>bools fun z1=>bools fun z2=>bools fun z3=>bools fun z4=>bools fun z5=>bools fun z6=>bools fun z7=>bools fun z8=>bools fun z9=>bools fun z10=>maskOk fs z0 z1 z2 z3 z4 z5 z6 z7 z8 z9 z10
theorem r3:([1568,252,253,1,2,33,24,412,35,1536,1808,513,546].all maskAll)=true:=by decide +kernel
theorem ck {fs:Nat} (hfs:fs∈[1568,252,253,1,2,33,24,412,35,1536,1808,513,546]) (z0 z1 z2 z3 z4 z5 z6 z7 z8 z9 z10:Bool):decide (bitsV .andNot .i64 (useU z0 z1 z2 z3 z4 z5 z6 z7 z8 z9 z10) fs=0)=maskB fs z0 z1 z2 z3 z4 z5 z6 z7 z8 z9 z10:=by
 have h:=List.all_eq_true.1 r3 fs hfs
 have h1:=bK (bK (bK (bK (bK (bK (bK (bK (bK (bK (bK h z0) z1) z2) z3) z4) z5) z6) z7) z8) z9) z10
 exact eq_of_beq h1
theorem bD (a:Xa):usedV a=useU (seqB a.object ⟨#[]⟩) (seqB a.target ⟨#[]⟩) (decide (a.scope=0)) (seqB a.group ⟨#[]⟩) (decide ((a.to.n:Int)=0)) (seqB a.text ⟨#[]⟩) (boxEq a.body Xo.zero) (decide (a.epoch=0)) (decide ((a.wraps.n:Int)=0)) (decide (a.n=0)) (decide (a.m=0)):=rfl
theorem lt20 (m:Int):decide (m<20)=decide (m≤19):=decide_eq_decide.2 aa
theorem aT (a:Xa):sealedScopeB a.scope a.group=(decide (1≤a.scope)&&decide (a.scope≤3)&&groupR a):=by
 rw [sealedScopeB,groupR]
 by_cases h2:a.scope=2
 · rw [h2];rfl
 by_cases h1:a.scope=1
 · rw [h1];rfl
 by_cases h3:a.scope=3
 · rw [h3];rfl
 rw [Zc h1,Zc h2,Zc h3]
 by_cases hl:1≤a.scope
 · rw [Zc (show ¬ a.scope≤3 by omega),Zk]
   rfl
 · rw [Zc hl]
   rfl
theorem ui (s:ByteArray) (h:seqB s ⟨#[]⟩=true):decide ((s.size:Int)=32)=false:=by
 rw [df,Zw] at h
 exact Zc aa
theorem Fy {a:Xa} (h:a.kind=0):ruleB a=(maskB 1568 (seqB a.object ⟨#[]⟩) (seqB a.target ⟨#[]⟩) (decide (a.scope=0)) (seqB a.group ⟨#[]⟩) (decide ((a.to.n:Int)=0)) (seqB a.text ⟨#[]⟩) (boxEq a.body Xo.zero) (decide (a.epoch=0)) (decide ((a.wraps.n:Int)=0)) (decide (a.n=0)) (decide (a.m=0))&&rule3B a):=by
 have hm:mget (ruleL a) a.kind=some (1568,rule3B a):=by rw [h];rfl
 rw [ruleB,hm]
 simp only
 rw [bD]
 exact congrArg (·&&_) (ck (fs:=1568) (by decide) _ _ _ _ _ _ _ _ _ _ _)
theorem Fx {a:Xa} (h:a.kind=1):ruleB a=(maskB 252 (seqB a.object ⟨#[]⟩) (seqB a.target ⟨#[]⟩) (decide (a.scope=0)) (seqB a.group ⟨#[]⟩) (decide ((a.to.n:Int)=0)) (seqB a.text ⟨#[]⟩) (boxEq a.body Xo.zero) (decide (a.epoch=0)) (decide ((a.wraps.n:Int)=0)) (decide (a.n=0)) (decide (a.m=0))&&audienceB a):=by
 have hm:mget (ruleL a) a.kind=some (252,audienceB a):=by rw [h];rfl
 rw [ruleB,hm]
 simp only
 rw [bD]
 exact congrArg (·&&_) (ck (fs:=252) (by decide) _ _ _ _ _ _ _ _ _ _ _)
theorem Fw {a:Xa} (h:a.kind=2):ruleB a=(maskB 253 (seqB a.object ⟨#[]⟩) (seqB a.target ⟨#[]⟩) (decide (a.scope=0)) (seqB a.group ⟨#[]⟩) (decide ((a.to.n:Int)=0)) (seqB a.text ⟨#[]⟩) (boxEq a.body Xo.zero) (decide (a.epoch=0)) (decide ((a.wraps.n:Int)=0)) (decide (a.n=0)) (decide (a.m=0))&&rule1B a):=by
 have hm:mget (ruleL a) a.kind=some (253,rule1B a):=by rw [h];rfl
 rw [ruleB,hm]
 simp only
 rw [bD]
 exact congrArg (·&&_) (ck (fs:=253) (by decide) _ _ _ _ _ _ _ _ _ _ _)
theorem Fv {a:Xa} (h:a.kind=3):ruleB a=(maskB 253 (seqB a.object ⟨#[]⟩) (seqB a.target ⟨#[]⟩) (decide (a.scope=0)) (seqB a.group ⟨#[]⟩) (decide ((a.to.n:Int)=0)) (seqB a.text ⟨#[]⟩) (boxEq a.body Xo.zero) (decide (a.epoch=0)) (decide ((a.wraps.n:Int)=0)) (decide (a.n=0)) (decide (a.m=0))&&rule1B a):=by
 have hm:mget (ruleL a) a.kind=some (253,rule1B a):=by rw [h];rfl
 rw [ruleB,hm]
 simp only
 rw [bD]
 exact congrArg (·&&_) (ck (fs:=253) (by decide) _ _ _ _ _ _ _ _ _ _ _)
theorem Fu {a:Xa} (h:a.kind=4):ruleB a=(maskB 1 (seqB a.object ⟨#[]⟩) (seqB a.target ⟨#[]⟩) (decide (a.scope=0)) (seqB a.group ⟨#[]⟩) (decide ((a.to.n:Int)=0)) (seqB a.text ⟨#[]⟩) (boxEq a.body Xo.zero) (decide (a.epoch=0)) (decide ((a.wraps.n:Int)=0)) (decide (a.n=0)) (decide (a.m=0))&&objectB a):=by
 have hm:mget (ruleL a) a.kind=some (1,objectB a):=by rw [h];rfl
 rw [ruleB,hm]
 simp only
 rw [bD]
 exact congrArg (·&&_) (ck (fs:=1) (by decide) _ _ _ _ _ _ _ _ _ _ _)
theorem Ft {a:Xa} (h:a.kind=5):ruleB a=(maskB 1 (seqB a.object ⟨#[]⟩) (seqB a.target ⟨#[]⟩) (decide (a.scope=0)) (seqB a.group ⟨#[]⟩) (decide ((a.to.n:Int)=0)) (seqB a.text ⟨#[]⟩) (boxEq a.body Xo.zero) (decide (a.epoch=0)) (decide ((a.wraps.n:Int)=0)) (decide (a.n=0)) (decide (a.m=0))&&objectB a):=by
 have hm:mget (ruleL a) a.kind=some (1,objectB a):=by rw [h];rfl
 rw [ruleB,hm]
 simp only
 rw [bD]
 exact congrArg (·&&_) (ck (fs:=1) (by decide) _ _ _ _ _ _ _ _ _ _ _)
theorem Fs {a:Xa} (h:a.kind=6):ruleB a=(maskB 1 (seqB a.object ⟨#[]⟩) (seqB a.target ⟨#[]⟩) (decide (a.scope=0)) (seqB a.group ⟨#[]⟩) (decide ((a.to.n:Int)=0)) (seqB a.text ⟨#[]⟩) (boxEq a.body Xo.zero) (decide (a.epoch=0)) (decide ((a.wraps.n:Int)=0)) (decide (a.n=0)) (decide (a.m=0))&&objectB a):=by
 have hm:mget (ruleL a) a.kind=some (1,objectB a):=by rw [h];rfl
 rw [ruleB,hm]
 simp only
 rw [bD]
 exact congrArg (·&&_) (ck (fs:=1) (by decide) _ _ _ _ _ _ _ _ _ _ _)
theorem Fq {a:Xa} (h:a.kind=7):ruleB a=(maskB 2 (seqB a.object ⟨#[]⟩) (seqB a.target ⟨#[]⟩) (decide (a.scope=0)) (seqB a.group ⟨#[]⟩) (decide ((a.to.n:Int)=0)) (seqB a.text ⟨#[]⟩) (boxEq a.body Xo.zero) (decide (a.epoch=0)) (decide ((a.wraps.n:Int)=0)) (decide (a.n=0)) (decide (a.m=0))&&targetB a):=by
 have hm:mget (ruleL a) a.kind=some (2,targetB a):=by rw [h];rfl
 rw [ruleB,hm]
 simp only
 rw [bD]
 exact congrArg (·&&_) (ck (fs:=2) (by decide) _ _ _ _ _ _ _ _ _ _ _)
theorem Fp {a:Xa} (h:a.kind=8):ruleB a=(maskB 2 (seqB a.object ⟨#[]⟩) (seqB a.target ⟨#[]⟩) (decide (a.scope=0)) (seqB a.group ⟨#[]⟩) (decide ((a.to.n:Int)=0)) (seqB a.text ⟨#[]⟩) (boxEq a.body Xo.zero) (decide (a.epoch=0)) (decide ((a.wraps.n:Int)=0)) (decide (a.n=0)) (decide (a.m=0))&&targetB a):=by
 have hm:mget (ruleL a) a.kind=some (2,targetB a):=by rw [h];rfl
 rw [ruleB,hm]
 simp only
 rw [bD]
 exact congrArg (·&&_) (ck (fs:=2) (by decide) _ _ _ _ _ _ _ _ _ _ _)
theorem Fo {a:Xa} (h:a.kind=9):ruleB a=(maskB 2 (seqB a.object ⟨#[]⟩) (seqB a.target ⟨#[]⟩) (decide (a.scope=0)) (seqB a.group ⟨#[]⟩) (decide ((a.to.n:Int)=0)) (seqB a.text ⟨#[]⟩) (boxEq a.body Xo.zero) (decide (a.epoch=0)) (decide ((a.wraps.n:Int)=0)) (decide (a.n=0)) (decide (a.m=0))&&targetB a):=by
 have hm:mget (ruleL a) a.kind=some (2,targetB a):=by rw [h];rfl
 rw [ruleB,hm]
 simp only
 rw [bD]
 exact congrArg (·&&_) (ck (fs:=2) (by decide) _ _ _ _ _ _ _ _ _ _ _)
theorem De {a:Xa} (h:a.kind=10):ruleB a=(maskB 2 (seqB a.object ⟨#[]⟩) (seqB a.target ⟨#[]⟩) (decide (a.scope=0)) (seqB a.group ⟨#[]⟩) (decide ((a.to.n:Int)=0)) (seqB a.text ⟨#[]⟩) (boxEq a.body Xo.zero) (decide (a.epoch=0)) (decide ((a.wraps.n:Int)=0)) (decide (a.n=0)) (decide (a.m=0))&&targetB a):=by
 have hm:mget (ruleL a) a.kind=some (2,targetB a):=by rw [h];rfl
 rw [ruleB,hm]
 simp only
 rw [bD]
 exact congrArg (·&&_) (ck (fs:=2) (by decide) _ _ _ _ _ _ _ _ _ _ _)
theorem Dd {a:Xa} (h:a.kind=11):ruleB a=(maskB 2 (seqB a.object ⟨#[]⟩) (seqB a.target ⟨#[]⟩) (decide (a.scope=0)) (seqB a.group ⟨#[]⟩) (decide ((a.to.n:Int)=0)) (seqB a.text ⟨#[]⟩) (boxEq a.body Xo.zero) (decide (a.epoch=0)) (decide ((a.wraps.n:Int)=0)) (decide (a.n=0)) (decide (a.m=0))&&targetB a):=by
 have hm:mget (ruleL a) a.kind=some (2,targetB a):=by rw [h];rfl
 rw [ruleB,hm]
 simp only
 rw [bD]
 exact congrArg (·&&_) (ck (fs:=2) (by decide) _ _ _ _ _ _ _ _ _ _ _)
theorem Dc {a:Xa} (h:a.kind=12):ruleB a=(maskB 33 (seqB a.object ⟨#[]⟩) (seqB a.target ⟨#[]⟩) (decide (a.scope=0)) (seqB a.group ⟨#[]⟩) (decide ((a.to.n:Int)=0)) (seqB a.text ⟨#[]⟩) (boxEq a.body Xo.zero) (decide (a.epoch=0)) (decide ((a.wraps.n:Int)=0)) (decide (a.n=0)) (decide (a.m=0))&&rule2B a):=by
 have hm:mget (ruleL a) a.kind=some (33,rule2B a):=by rw [h];rfl
 rw [ruleB,hm]
 simp only
 rw [bD]
 exact congrArg (·&&_) (ck (fs:=33) (by decide) _ _ _ _ _ _ _ _ _ _ _)
theorem Db {a:Xa} (h:a.kind=13):ruleB a=(maskB 1 (seqB a.object ⟨#[]⟩) (seqB a.target ⟨#[]⟩) (decide (a.scope=0)) (seqB a.group ⟨#[]⟩) (decide ((a.to.n:Int)=0)) (seqB a.text ⟨#[]⟩) (boxEq a.body Xo.zero) (decide (a.epoch=0)) (decide ((a.wraps.n:Int)=0)) (decide (a.n=0)) (decide (a.m=0))&&objectB a):=by
 have hm:mget (ruleL a) a.kind=some (1,objectB a):=by rw [h];rfl
 rw [ruleB,hm]
 simp only
 rw [bD]
 exact congrArg (·&&_) (ck (fs:=1) (by decide) _ _ _ _ _ _ _ _ _ _ _)
theorem Da {a:Xa} (h:a.kind=14):ruleB a=(maskB 253 (seqB a.object ⟨#[]⟩) (seqB a.target ⟨#[]⟩) (decide (a.scope=0)) (seqB a.group ⟨#[]⟩) (decide ((a.to.n:Int)=0)) (seqB a.text ⟨#[]⟩) (boxEq a.body Xo.zero) (decide (a.epoch=0)) (decide ((a.wraps.n:Int)=0)) (decide (a.n=0)) (decide (a.m=0))&&rule1B a):=by
 have hm:mget (ruleL a) a.kind=some (253,rule1B a):=by rw [h];rfl
 rw [ruleB,hm]
 simp only
 rw [bD]
 exact congrArg (·&&_) (ck (fs:=253) (by decide) _ _ _ _ _ _ _ _ _ _ _)
theorem C9 {a:Xa} (h:a.kind=15):ruleB a=(maskB 24 (seqB a.object ⟨#[]⟩) (seqB a.target ⟨#[]⟩) (decide (a.scope=0)) (seqB a.group ⟨#[]⟩) (decide ((a.to.n:Int)=0)) (seqB a.text ⟨#[]⟩) (boxEq a.body Xo.zero) (decide (a.epoch=0)) (decide ((a.wraps.n:Int)=0)) (decide (a.n=0)) (decide (a.m=0))&&rule4B a):=by
 have hm:mget (ruleL a) a.kind=some (24,rule4B a):=by rw [h];rfl
 rw [ruleB,hm]
 simp only
 rw [bD]
 exact congrArg (·&&_) (ck (fs:=24) (by decide) _ _ _ _ _ _ _ _ _ _ _)
theorem C8 {a:Xa} (h:a.kind=16):ruleB a=(maskB 412 (seqB a.object ⟨#[]⟩) (seqB a.target ⟨#[]⟩) (decide (a.scope=0)) (seqB a.group ⟨#[]⟩) (decide ((a.to.n:Int)=0)) (seqB a.text ⟨#[]⟩) (boxEq a.body Xo.zero) (decide (a.epoch=0)) (decide ((a.wraps.n:Int)=0)) (decide (a.n=0)) (decide (a.m=0))&&grantB a):=by
 have hm:mget (ruleL a) a.kind=some (412,grantB a):=by rw [h];rfl
 rw [ruleB,hm]
 simp only
 rw [bD]
 exact congrArg (·&&_) (ck (fs:=412) (by decide) _ _ _ _ _ _ _ _ _ _ _)
theorem C7 {a:Xa} (h:a.kind=17):ruleB a=(maskB 35 (seqB a.object ⟨#[]⟩) (seqB a.target ⟨#[]⟩) (decide (a.scope=0)) (seqB a.group ⟨#[]⟩) (decide ((a.to.n:Int)=0)) (seqB a.text ⟨#[]⟩) (boxEq a.body Xo.zero) (decide (a.epoch=0)) (decide ((a.wraps.n:Int)=0)) (decide (a.n=0)) (decide (a.m=0))&&labelB a):=by
 have hm:mget (ruleL a) a.kind=some (35,labelB a):=by rw [h];rfl
 rw [ruleB,hm]
 simp only
 rw [bD]
 exact congrArg (·&&_) (ck (fs:=35) (by decide) _ _ _ _ _ _ _ _ _ _ _)
theorem C6 {a:Xa} (h:a.kind=18):ruleB a=(maskB 1536 (seqB a.object ⟨#[]⟩) (seqB a.target ⟨#[]⟩) (decide (a.scope=0)) (seqB a.group ⟨#[]⟩) (decide ((a.to.n:Int)=0)) (seqB a.text ⟨#[]⟩) (boxEq a.body Xo.zero) (decide (a.epoch=0)) (decide ((a.wraps.n:Int)=0)) (decide (a.n=0)) (decide (a.m=0))&&homeB a):=by
 have hm:mget (ruleL a) a.kind=some (1536,homeB a):=by rw [h];rfl
 rw [ruleB,hm]
 simp only
 rw [bD]
 exact congrArg (·&&_) (ck (fs:=1536) (by decide) _ _ _ _ _ _ _ _ _ _ _)
theorem C5 {a:Xa} (h:a.kind=19):ruleB a=(maskB 1808 (seqB a.object ⟨#[]⟩) (seqB a.target ⟨#[]⟩) (decide (a.scope=0)) (seqB a.group ⟨#[]⟩) (decide ((a.to.n:Int)=0)) (seqB a.text ⟨#[]⟩) (boxEq a.body Xo.zero) (decide (a.epoch=0)) (decide ((a.wraps.n:Int)=0)) (decide (a.n=0)) (decide (a.m=0))&&setupB a):=by
 have hm:mget (ruleL a) a.kind=some (1808,setupB a):=by rw [h];rfl
 rw [ruleB,hm]
 simp only
 rw [bD]
 exact congrArg (·&&_) (ck (fs:=1808) (by decide) _ _ _ _ _ _ _ _ _ _ _)
theorem C4 {a:Xa} (h:a.kind=20):ruleB a=(maskB 1 (seqB a.object ⟨#[]⟩) (seqB a.target ⟨#[]⟩) (decide (a.scope=0)) (seqB a.group ⟨#[]⟩) (decide ((a.to.n:Int)=0)) (seqB a.text ⟨#[]⟩) (boxEq a.body Xo.zero) (decide (a.epoch=0)) (decide ((a.wraps.n:Int)=0)) (decide (a.n=0)) (decide (a.m=0))&&objectB a):=by
 have hm:mget (ruleL a) a.kind=some (1,objectB a):=by rw [h];rfl
 rw [ruleB,hm]
 simp only
 rw [bD]
 exact congrArg (·&&_) (ck (fs:=1) (by decide) _ _ _ _ _ _ _ _ _ _ _)
theorem C3 {a:Xa} (h:a.kind=21):ruleB a=(maskB 33 (seqB a.object ⟨#[]⟩) (seqB a.target ⟨#[]⟩) (decide (a.scope=0)) (seqB a.group ⟨#[]⟩) (decide ((a.to.n:Int)=0)) (seqB a.text ⟨#[]⟩) (boxEq a.body Xo.zero) (decide (a.epoch=0)) (decide ((a.wraps.n:Int)=0)) (decide (a.n=0)) (decide (a.m=0))&&rule2B a):=by
 have hm:mget (ruleL a) a.kind=some (33,rule2B a):=by rw [h];rfl
 rw [ruleB,hm]
 simp only
 rw [bD]
 exact congrArg (·&&_) (ck (fs:=33) (by decide) _ _ _ _ _ _ _ _ _ _ _)
theorem C2 {a:Xa} (h:a.kind=22):ruleB a=(maskB 513 (seqB a.object ⟨#[]⟩) (seqB a.target ⟨#[]⟩) (decide (a.scope=0)) (seqB a.group ⟨#[]⟩) (decide ((a.to.n:Int)=0)) (seqB a.text ⟨#[]⟩) (boxEq a.body Xo.zero) (decide (a.epoch=0)) (decide ((a.wraps.n:Int)=0)) (decide (a.n=0)) (decide (a.m=0))&&rule5B a):=by
 have hm:mget (ruleL a) a.kind=some (513,rule5B a):=by rw [h];rfl
 rw [ruleB,hm]
 simp only
 rw [bD]
 exact congrArg (·&&_) (ck (fs:=513) (by decide) _ _ _ _ _ _ _ _ _ _ _)
theorem C1 {a:Xa} (h:a.kind=23):ruleB a=(maskB 546 (seqB a.object ⟨#[]⟩) (seqB a.target ⟨#[]⟩) (decide (a.scope=0)) (seqB a.group ⟨#[]⟩) (decide ((a.to.n:Int)=0)) (seqB a.text ⟨#[]⟩) (boxEq a.body Xo.zero) (decide (a.epoch=0)) (decide ((a.wraps.n:Int)=0)) (decide (a.n=0)) (decide (a.m=0))&&rule6B a):=by
 have hm:mget (ruleL a) a.kind=some (546,rule6B a):=by rw [h];rfl
 rw [ruleB,hm]
 simp only
 rw [bD]
 exact congrArg (·&&_) (ck (fs:=546) (by decide) _ _ _ _ _ _ _ _ _ _ _)
theorem xf {a:Xa} (h:¬ (0≤a.kind∧a.kind≤23)):ruleB a=false:=by
 have hm:mget (ruleL a) a.kind=none:=by
  rw [ruleL]
  rw [mget,show Xk.eqb a.kind 0=false from Zc aa,Ze]
  rw [mget,show Xk.eqb a.kind 1=false from Zc aa,Ze]
  rw [mget,show Xk.eqb a.kind 2=false from Zc aa,Ze]
  rw [mget,show Xk.eqb a.kind 3=false from Zc aa,Ze]
  rw [mget,show Xk.eqb a.kind 14=false from Zc aa,Ze]
  rw [mget,show Xk.eqb a.kind 4=false from Zc aa,Ze]
  rw [mget,show Xk.eqb a.kind 5=false from Zc aa,Ze]
  rw [mget,show Xk.eqb a.kind 6=false from Zc aa,Ze]
  rw [mget,show Xk.eqb a.kind 13=false from Zc aa,Ze]
  rw [mget,show Xk.eqb a.kind 20=false from Zc aa,Ze]
  rw [mget,show Xk.eqb a.kind 7=false from Zc aa,Ze]
  rw [mget,show Xk.eqb a.kind 8=false from Zc aa,Ze]
  rw [mget,show Xk.eqb a.kind 9=false from Zc aa,Ze]
  rw [mget,show Xk.eqb a.kind 10=false from Zc aa,Ze]
  rw [mget,show Xk.eqb a.kind 11=false from Zc aa,Ze]
  rw [mget,show Xk.eqb a.kind 12=false from Zc aa,Ze]
  rw [mget,show Xk.eqb a.kind 21=false from Zc aa,Ze]
  rw [mget,show Xk.eqb a.kind 15=false from Zc aa,Ze]
  rw [mget,show Xk.eqb a.kind 16=false from Zc aa,Ze]
  rw [mget,show Xk.eqb a.kind 17=false from Zc aa,Ze]
  rw [mget,show Xk.eqb a.kind 18=false from Zc aa,Ze]
  rw [mget,show Xk.eqb a.kind 19=false from Zc aa,Ze]
  rw [mget,show Xk.eqb a.kind 22=false from Zc aa,Ze]
  rw [mget,show Xk.eqb a.kind 23=false from Zc aa,Ze]
  rfl
 rw [ruleB,hm]
theorem zS:seqB (⟨#[]⟩:ByteArray) ⟨#[]⟩=true:=by kernel_rfl
theorem zB:boxEq Xo.zero Xo.zero=true:=by kernel_rfl
theorem zI:decide ((0:Int)=0)=true:=rfl
theorem zN:decide (((0:Nat):Int)=0)=true:=rfl
theorem mi:Nat.testBit 1 0=true:=by decide +kernel
theorem mg:Nat.testBit 1 1=false:=by decide +kernel
theorem mf:Nat.testBit 1 2=false:=by decide +kernel
theorem me:Nat.testBit 1 3=false:=by decide +kernel
theorem md:Nat.testBit 1 4=false:=by decide +kernel
theorem mc:Nat.testBit 1 5=false:=by decide +kernel
theorem ma:Nat.testBit 1 6=false:=by decide +kernel
theorem l8:Nat.testBit 1 7=false:=by decide +kernel
theorem l5:Nat.testBit 1 8=false:=by decide +kernel
theorem lZ:Nat.testBit 1 9=false:=by decide +kernel
theorem iQ:Nat.testBit 1 10=false:=by decide +kernel
theorem lO:Nat.testBit 2 0=false:=by decide +kernel
theorem lN:Nat.testBit 2 1=true:=by decide +kernel
theorem lM:Nat.testBit 2 2=false:=by decide +kernel
theorem lL:Nat.testBit 2 3=false:=by decide +kernel
theorem lK:Nat.testBit 2 4=false:=by decide +kernel
theorem lJ:Nat.testBit 2 5=false:=by decide +kernel
theorem lI:Nat.testBit 2 6=false:=by decide +kernel
theorem lH:Nat.testBit 2 7=false:=by decide +kernel
theorem lG:Nat.testBit 2 8=false:=by decide +kernel
theorem lF:Nat.testBit 2 9=false:=by decide +kernel
theorem iP:Nat.testBit 2 10=false:=by decide +kernel
theorem CH:Nat.testBit 24 0=false:=by decide +kernel
theorem CG:Nat.testBit 24 1=false:=by decide +kernel
theorem CF:Nat.testBit 24 2=false:=by decide +kernel
theorem CE:Nat.testBit 24 3=true:=by decide +kernel
theorem CD:Nat.testBit 24 4=true:=by decide +kernel
theorem CC:Nat.testBit 24 5=false:=by decide +kernel
theorem CB:Nat.testBit 24 6=false:=by decide +kernel
theorem CA:Nat.testBit 24 7=false:=by decide +kernel
theorem Cz:Nat.testBit 24 8=false:=by decide +kernel
theorem Cy:Nat.testBit 24 9=false:=by decide +kernel
theorem zE:Nat.testBit 24 10=false:=by decide +kernel
theorem uR:Nat.testBit 33 0=true:=by decide +kernel
theorem uQ:Nat.testBit 33 1=false:=by decide +kernel
theorem uP:Nat.testBit 33 2=false:=by decide +kernel
theorem uO:Nat.testBit 33 3=false:=by decide +kernel
theorem uN:Nat.testBit 33 4=false:=by decide +kernel
theorem uM:Nat.testBit 33 5=true:=by decide +kernel
theorem uL:Nat.testBit 33 6=false:=by decide +kernel
theorem uK:Nat.testBit 33 7=false:=by decide +kernel
theorem uJ:Nat.testBit 33 8=false:=by decide +kernel
theorem uI:Nat.testBit 33 9=false:=by decide +kernel
theorem qL:Nat.testBit 33 10=false:=by decide +kernel
theorem Cx:Nat.testBit 35 0=true:=by decide +kernel
theorem Cv:Nat.testBit 35 1=true:=by decide +kernel
theorem Cu:Nat.testBit 35 2=false:=by decide +kernel
theorem Cs:Nat.testBit 35 3=false:=by decide +kernel
theorem Cq:Nat.testBit 35 4=false:=by decide +kernel
theorem Cp:Nat.testBit 35 5=true:=by decide +kernel
theorem Co:Nat.testBit 35 6=false:=by decide +kernel
theorem Cn:Nat.testBit 35 7=false:=by decide +kernel
theorem Cm:Nat.testBit 35 8=false:=by decide +kernel
theorem Cl:Nat.testBit 35 9=false:=by decide +kernel
theorem zq:Nat.testBit 35 10=false:=by decide +kernel
theorem zD:Nat.testBit 252 0=false:=by decide +kernel
theorem zC:Nat.testBit 252 1=false:=by decide +kernel
theorem zA:Nat.testBit 252 2=true:=by decide +kernel
theorem zz:Nat.testBit 252 3=true:=by decide +kernel
theorem zy:Nat.testBit 252 4=true:=by decide +kernel
theorem zx:Nat.testBit 252 5=true:=by decide +kernel
theorem zw:Nat.testBit 252 6=true:=by decide +kernel
theorem zu:Nat.testBit 252 7=true:=by decide +kernel
theorem zt:Nat.testBit 252 8=false:=by decide +kernel
theorem zr:Nat.testBit 252 9=false:=by decide +kernel
theorem wa:Nat.testBit 252 10=false:=by decide +kernel
theorem lY:Nat.testBit 253 0=true:=by decide +kernel
theorem lX:Nat.testBit 253 1=false:=by decide +kernel
theorem lW:Nat.testBit 253 2=true:=by decide +kernel
theorem lV:Nat.testBit 253 3=true:=by decide +kernel
theorem lU:Nat.testBit 253 4=true:=by decide +kernel
theorem lT:Nat.testBit 253 5=true:=by decide +kernel
theorem lS:Nat.testBit 253 6=true:=by decide +kernel
theorem lR:Nat.testBit 253 7=true:=by decide +kernel
theorem lQ:Nat.testBit 253 8=false:=by decide +kernel
theorem lP:Nat.testBit 253 9=false:=by decide +kernel
theorem jL:Nat.testBit 253 10=false:=by decide +kernel
theorem zp:Nat.testBit 412 0=false:=by decide +kernel
theorem zo:Nat.testBit 412 1=false:=by decide +kernel
theorem zn:Nat.testBit 412 2=true:=by decide +kernel
theorem zm:Nat.testBit 412 3=true:=by decide +kernel
theorem zl:Nat.testBit 412 4=true:=by decide +kernel
theorem zk:Nat.testBit 412 5=false:=by decide +kernel
theorem zj:Nat.testBit 412 6=false:=by decide +kernel
theorem zi:Nat.testBit 412 7=true:=by decide +kernel
theorem zg:Nat.testBit 412 8=true:=by decide +kernel
theorem zf:Nat.testBit 412 9=false:=by decide +kernel
theorem v8:Nat.testBit 412 10=false:=by decide +kernel
theorem ze:Nat.testBit 513 0=true:=by decide +kernel
theorem zd:Nat.testBit 513 1=false:=by decide +kernel
theorem zc:Nat.testBit 513 2=false:=by decide +kernel
theorem zb:Nat.testBit 513 3=false:=by decide +kernel
theorem za:Nat.testBit 513 4=false:=by decide +kernel
theorem yZ:Nat.testBit 513 5=false:=by decide +kernel
theorem yY:Nat.testBit 513 6=false:=by decide +kernel
theorem yX:Nat.testBit 513 7=false:=by decide +kernel
theorem yW:Nat.testBit 513 8=false:=by decide +kernel
theorem yV:Nat.testBit 513 9=true:=by decide +kernel
theorem v7:Nat.testBit 513 10=false:=by decide +kernel
theorem yU:Nat.testBit 546 0=false:=by decide +kernel
theorem yT:Nat.testBit 546 1=true:=by decide +kernel
theorem yS:Nat.testBit 546 2=false:=by decide +kernel
theorem yR:Nat.testBit 546 3=false:=by decide +kernel
theorem yQ:Nat.testBit 546 4=false:=by decide +kernel
theorem yP:Nat.testBit 546 5=true:=by decide +kernel
theorem yO:Nat.testBit 546 6=false:=by decide +kernel
theorem yN:Nat.testBit 546 7=false:=by decide +kernel
theorem yM:Nat.testBit 546 8=false:=by decide +kernel
theorem yL:Nat.testBit 546 9=true:=by decide +kernel
theorem v6:Nat.testBit 546 10=false:=by decide +kernel
theorem wL:Nat.testBit 1536 0=false:=by decide +kernel
theorem wK:Nat.testBit 1536 1=false:=by decide +kernel
theorem wJ:Nat.testBit 1536 2=false:=by decide +kernel
theorem wI:Nat.testBit 1536 3=false:=by decide +kernel
theorem wH:Nat.testBit 1536 4=false:=by decide +kernel
theorem wG:Nat.testBit 1536 5=false:=by decide +kernel
theorem wF:Nat.testBit 1536 6=false:=by decide +kernel
theorem wE:Nat.testBit 1536 7=false:=by decide +kernel
theorem wD:Nat.testBit 1536 8=false:=by decide +kernel
theorem wC:Nat.testBit 1536 9=true:=by decide +kernel
theorem ti:Nat.testBit 1536 10=true:=by decide +kernel
theorem wB:Nat.testBit 1568 0=false:=by decide +kernel
theorem wA:Nat.testBit 1568 1=false:=by decide +kernel
theorem wz:Nat.testBit 1568 2=false:=by decide +kernel
theorem wy:Nat.testBit 1568 3=false:=by decide +kernel
theorem wx:Nat.testBit 1568 4=false:=by decide +kernel
theorem wv:Nat.testBit 1568 5=true:=by decide +kernel
theorem wu:Nat.testBit 1568 6=false:=by decide +kernel
theorem wt:Nat.testBit 1568 7=false:=by decide +kernel
theorem wr:Nat.testBit 1568 8=false:=by decide +kernel
theorem wq:Nat.testBit 1568 9=true:=by decide +kernel
theorem tf:Nat.testBit 1568 10=true:=by decide +kernel
theorem wo:Nat.testBit 1808 0=false:=by decide +kernel
theorem wm:Nat.testBit 1808 1=false:=by decide +kernel
theorem wk:Nat.testBit 1808 2=false:=by decide +kernel
theorem wj:Nat.testBit 1808 3=false:=by decide +kernel
theorem wi:Nat.testBit 1808 4=true:=by decide +kernel
theorem wg:Nat.testBit 1808 5=false:=by decide +kernel
theorem we:Nat.testBit 1808 6=false:=by decide +kernel
theorem wd:Nat.testBit 1808 7=false:=by decide +kernel
theorem wc:Nat.testBit 1808 8=true:=by decide +kernel
theorem wb:Nat.testBit 1808 9=true:=by decide +kernel
theorem te:Nat.testBit 1808 10=true:=by decide +kernel
theorem FX {a:Xa} (h:a.kind=0):fitsR a=ruleB a:=by
 rw [Fy h,fitsR,h,EI,vo]
 simp only [zeroR,bareA,maskB,zS,zB,zI,zN,wB,wA,wz,wy,wx,wv,wu,wt,wr,wq,tf,Zg,Zh,Zm,Zi,rule1B,rule2B,rule3B,rule4B,rule5B,rule6B,objectB,targetB,homeB,isDigestB,isShortB,withinB,lt20,grantB,setupB,aT]
 ac_rfl
theorem FW {a:Xa} (h:a.kind=1):fitsR a=ruleB a:=by
 rw [Fx h,fitsR,h,EH,vn]
 simp only [zeroR,bareA,maskB,zS,zB,zI,zN,zD,zC,zA,zz,zy,zx,zw,zu,zt,zr,wa,Zg,Zh,Zm,Zi,rule1B,rule2B,rule3B,rule4B,rule5B,rule6B,objectB,targetB,homeB,isDigestB,isShortB,withinB,lt20,grantB,setupB,aT]
 ac_rfl
theorem FV {a:Xa} (h:a.kind=2):fitsR a=ruleB a:=by
 rw [Fw h,fitsR,h,EG,vm]
 simp only [zeroR,bareA,maskB,zS,zB,zI,zN,lY,lX,lW,lV,lU,lT,lS,lR,lQ,lP,jL,Zg,Zh,Zm,Zi,rule1B,rule2B,rule3B,rule4B,rule5B,rule6B,objectB,targetB,homeB,isDigestB,isShortB,withinB,lt20,grantB,setupB,aT]
 ac_rfl
theorem FU {a:Xa} (h:a.kind=3):fitsR a=ruleB a:=by
 rw [Fv h,fitsR,h,EF,vl]
 simp only [zeroR,bareA,maskB,zS,zB,zI,zN,lY,lX,lW,lV,lU,lT,lS,lR,lQ,lP,jL,Zg,Zh,Zm,Zi,rule1B,rule2B,rule3B,rule4B,rule5B,rule6B,objectB,targetB,homeB,isDigestB,isShortB,withinB,lt20,grantB,setupB,aT]
 ac_rfl
theorem FT {a:Xa} (h:a.kind=4):fitsR a=ruleB a:=by
 rw [Fu h,fitsR,h,EE,vk]
 simp only [zeroR,bareA,maskB,zS,zB,zI,zN,mi,mg,mf,me,md,mc,ma,l8,l5,lZ,iQ,Zg,Zh,Zm,Zi,rule1B,rule2B,rule3B,rule4B,rule5B,rule6B,objectB,targetB,homeB,isDigestB,isShortB,withinB,lt20,grantB,setupB,aT]
 ac_rfl
theorem FS {a:Xa} (h:a.kind=5):fitsR a=ruleB a:=by
 rw [Ft h,fitsR,h,ED,vj]
 simp only [zeroR,bareA,maskB,zS,zB,zI,zN,mi,mg,mf,me,md,mc,ma,l8,l5,lZ,iQ,Zg,Zh,Zm,Zi,rule1B,rule2B,rule3B,rule4B,rule5B,rule6B,objectB,targetB,homeB,isDigestB,isShortB,withinB,lt20,grantB,setupB,aT]
 ac_rfl
theorem FR {a:Xa} (h:a.kind=6):fitsR a=ruleB a:=by
 rw [Fs h,fitsR,h,EC,vi]
 simp only [zeroR,bareA,maskB,zS,zB,zI,zN,mi,mg,mf,me,md,mc,ma,l8,l5,lZ,iQ,Zg,Zh,Zm,Zi,rule1B,rule2B,rule3B,rule4B,rule5B,rule6B,objectB,targetB,homeB,isDigestB,isShortB,withinB,lt20,grantB,setupB,aT]
 ac_rfl
theorem FQ {a:Xa} (h:a.kind=7):fitsR a=ruleB a:=by
 rw [Fq h,fitsR,h,EB,vg]
 simp only [zeroR,bareA,maskB,zS,zB,zI,zN,lO,lN,lM,lL,lK,lJ,lI,lH,lG,lF,iP,Zg,Zh,Zm,Zi,rule1B,rule2B,rule3B,rule4B,rule5B,rule6B,objectB,targetB,homeB,isDigestB,isShortB,withinB,lt20,grantB,setupB,aT]
 ac_rfl
theorem FP {a:Xa} (h:a.kind=8):fitsR a=ruleB a:=by
 rw [Fp h,fitsR,h,EA,vf]
 simp only [zeroR,bareA,maskB,zS,zB,zI,zN,lO,lN,lM,lL,lK,lJ,lI,lH,lG,lF,iP,Zg,Zh,Zm,Zi,rule1B,rule2B,rule3B,rule4B,rule5B,rule6B,objectB,targetB,homeB,isDigestB,isShortB,withinB,lt20,grantB,setupB,aT]
 ac_rfl
theorem FO {a:Xa} (h:a.kind=9):fitsR a=ruleB a:=by
 rw [Fo h,fitsR,h,Ez,ve]
 simp only [zeroR,bareA,maskB,zS,zB,zI,zN,lO,lN,lM,lL,lK,lJ,lI,lH,lG,lF,iP,Zg,Zh,Zm,Zi,rule1B,rule2B,rule3B,rule4B,rule5B,rule6B,objectB,targetB,homeB,isDigestB,isShortB,withinB,lt20,grantB,setupB,aT]
 ac_rfl
theorem D1 {a:Xa} (h:a.kind=10):fitsR a=ruleB a:=by
 rw [De h,fitsR,h,AO,rB]
 simp only [zeroR,bareA,maskB,zS,zB,zI,zN,lO,lN,lM,lL,lK,lJ,lI,lH,lG,lF,iP,Zg,Zh,Zm,Zi,rule1B,rule2B,rule3B,rule4B,rule5B,rule6B,objectB,targetB,homeB,isDigestB,isShortB,withinB,lt20,grantB,setupB,aT]
 ac_rfl
theorem DZ {a:Xa} (h:a.kind=11):fitsR a=ruleB a:=by
 rw [Dd h,fitsR,h,AN,rA]
 simp only [zeroR,bareA,maskB,zS,zB,zI,zN,lO,lN,lM,lL,lK,lJ,lI,lH,lG,lF,iP,Zg,Zh,Zm,Zi,rule1B,rule2B,rule3B,rule4B,rule5B,rule6B,objectB,targetB,homeB,isDigestB,isShortB,withinB,lt20,grantB,setupB,aT]
 ac_rfl
theorem DY {a:Xa} (h:a.kind=12):fitsR a=ruleB a:=by
 rw [Dc h,fitsR,h,AM,rz]
 simp only [zeroR,bareA,maskB,zS,zB,zI,zN,uR,uQ,uP,uO,uN,uM,uL,uK,uJ,uI,qL,Zg,Zh,Zm,Zi,rule1B,rule2B,rule3B,rule4B,rule5B,rule6B,objectB,targetB,homeB,isDigestB,isShortB,withinB,lt20,grantB,setupB,aT]
 ac_rfl
theorem DX {a:Xa} (h:a.kind=13):fitsR a=ruleB a:=by
 rw [Db h,fitsR,h,AL,ry]
 simp only [zeroR,bareA,maskB,zS,zB,zI,zN,mi,mg,mf,me,md,mc,ma,l8,l5,lZ,iQ,Zg,Zh,Zm,Zi,rule1B,rule2B,rule3B,rule4B,rule5B,rule6B,objectB,targetB,homeB,isDigestB,isShortB,withinB,lt20,grantB,setupB,aT]
 ac_rfl
theorem DW {a:Xa} (h:a.kind=14):fitsR a=ruleB a:=by
 rw [Da h,fitsR,h,AK,rx]
 simp only [zeroR,bareA,maskB,zS,zB,zI,zN,lY,lX,lW,lV,lU,lT,lS,lR,lQ,lP,jL,Zg,Zh,Zm,Zi,rule1B,rule2B,rule3B,rule4B,rule5B,rule6B,objectB,targetB,homeB,isDigestB,isShortB,withinB,lt20,grantB,setupB,aT]
 ac_rfl
theorem DV {a:Xa} (h:a.kind=15):fitsR a=ruleB a:=by
 rw [C9 h,fitsR,h,AJ,rv]
 simp only [zeroR,bareA,maskB,zS,zB,zI,zN,CH,CG,CF,CE,CD,CC,CB,CA,Cz,Cy,zE,Zg,Zh,Zm,Zi,rule1B,rule2B,rule3B,rule4B,rule5B,rule6B,objectB,targetB,homeB,isDigestB,isShortB,withinB,lt20,grantB,setupB,aT]
 ac_rfl
theorem DU {a:Xa} (h:a.kind=16):fitsR a=ruleB a:=by
 rw [C8 h,fitsR,h,AI,ru]
 simp only [zeroR,bareA,maskB,zS,zB,zI,zN,zp,zo,zn,zm,zl,zk,zj,zi,zg,zf,v8,Zg,Zh,Zm,Zi,rule1B,rule2B,rule3B,rule4B,rule5B,rule6B,objectB,targetB,homeB,isDigestB,isShortB,withinB,lt20,grantB,setupB,aT]
 ac_rfl
theorem DT {a:Xa} (h:a.kind=17):fitsR a=ruleB a:=by
 rw [C7 h,fitsR,h,AH,rt]
 simp only [zeroR,bareA,maskB,zS,zB,zI,zN,Cx,Cv,Cu,Cs,Cq,Cp,Co,Cn,Cm,Cl,zq,Zg,Zh,Zm,Zi,rule1B,rule2B,rule3B,rule4B,rule5B,rule6B,objectB,targetB,homeB,isDigestB,isShortB,withinB,lt20,grantB,setupB,aT]
 rw [labelB,objectB,targetB,isDigestB]
 cases hz:seqB a.object ⟨#[]⟩ with
 | true =>
  rw [ui _ hz]
  cases isName a.text<;>simp [Bool.and_comm,Bool.and_assoc]
 | false=>cases isName a.text<;>cases decide ((a.object.size:Int)=32)<;>cases seqB a.target ⟨#[]⟩<;>simp [Bool.and_comm,Bool.and_assoc]
theorem DS {a:Xa} (h:a.kind=18):fitsR a=ruleB a:=by
 rw [C6 h,fitsR,h,AG,rs]
 simp only [zeroR,bareA,maskB,zS,zB,zI,zN,wL,wK,wJ,wI,wH,wG,wF,wE,wD,wC,ti,Zg,Zh,Zm,Zi,rule1B,rule2B,rule3B,rule4B,rule5B,rule6B,objectB,targetB,homeB,isDigestB,isShortB,withinB,lt20,grantB,setupB,aT]
 ac_rfl
theorem DR {a:Xa} (h:a.kind=19):fitsR a=ruleB a:=by
 rw [C5 h,fitsR,h,AF,rr]
 simp only [zeroR,bareA,maskB,zS,zB,zI,zN,wo,wm,wk,wj,wi,wg,we,wd,wc,wb,te,Zg,Zh,Zm,Zi,rule1B,rule2B,rule3B,rule4B,rule5B,rule6B,objectB,targetB,homeB,isDigestB,isShortB,withinB,lt20,grantB,setupB,aT]
 ac_rfl
theorem DQ {a:Xa} (h:a.kind=20):fitsR a=ruleB a:=by
 rw [C4 h,fitsR,h,AE,rq]
 simp only [zeroR,bareA,maskB,zS,zB,zI,zN,mi,mg,mf,me,md,mc,ma,l8,l5,lZ,iQ,Zg,Zh,Zm,Zi,rule1B,rule2B,rule3B,rule4B,rule5B,rule6B,objectB,targetB,homeB,isDigestB,isShortB,withinB,lt20,grantB,setupB,aT]
 ac_rfl
theorem DP {a:Xa} (h:a.kind=21):fitsR a=ruleB a:=by
 rw [C3 h,fitsR,h,AD,rp]
 simp only [zeroR,bareA,maskB,zS,zB,zI,zN,uR,uQ,uP,uO,uN,uM,uL,uK,uJ,uI,qL,Zg,Zh,Zm,Zi,rule1B,rule2B,rule3B,rule4B,rule5B,rule6B,objectB,targetB,homeB,isDigestB,isShortB,withinB,lt20,grantB,setupB,aT]
 ac_rfl
theorem DO {a:Xa} (h:a.kind=22):fitsR a=ruleB a:=by
 rw [C2 h,fitsR,h,AC,ro]
 simp only [zeroR,bareA,maskB,zS,zB,zI,zN,ze,zd,zc,zb,za,yZ,yY,yX,yW,yV,v7,Zg,Zh,Zm,Zi,rule1B,rule2B,rule3B,rule4B,rule5B,rule6B,objectB,targetB,homeB,isDigestB,isShortB,withinB,lt20,grantB,setupB,aT]
 ac_rfl
theorem DN {a:Xa} (h:a.kind=23):fitsR a=ruleB a:=by
 rw [C1 h,fitsR,h,AB,rn]
 simp only [zeroR,bareA,maskB,zS,zB,zI,zN,yU,yT,yS,yR,yQ,yP,yO,yN,yM,yL,v6,Zg,Zh,Zm,Zi,rule1B,rule2B,rule3B,rule4B,rule5B,rule6B,objectB,targetB,homeB,isDigestB,isShortB,withinB,lt20,grantB,setupB,aT]
 ac_rfl
theorem DM (a:Xa):fitsR a=ruleB a:=by
 by_cases hk:0≤a.kind∧a.kind≤23
 · rcases oL hk with h|h|h|h|h|h|h|h|h|h|h|h|h|h|h|h|h|h|h|h|h|h|h|h
   · exact FX h
   · exact FW h
   · exact FV h
   · exact FU h
   · exact FT h
   · exact FS h
   · exact FR h
   · exact FQ h
   · exact FP h
   · exact FO h
   · exact D1 h
   · exact DZ h
   · exact DY h
   · exact DX h
   · exact DW h
   · exact DV h
   · exact DU h
   · exact DT h
   · exact DS h
   · exact DR h
   · exact DQ h
   · exact DP h
   · exact DO h
   · exact DN h
 · rw [xf hk,fitsR,rR hk,Zj]
def numsR (a:Xa):Bool:=!isId a.author||(decide (a.seq<0)||(decide (1073741824<a.seq)||(decide (a.time<0)||(decide (1099511627776<a.time)||(decide (a.e<0)||(decide (2305843009213693950≤a.e)||(decide (a.s<0)||decide (2305843009213693950≤a.s))))))))
def seqR (a:Xa):Bool:=decide (a.seq=0)&&(!seqB a.prev ⟨#[]⟩||!decide (a.kind=0))||decide (0<a.seq)&&(!decide ((a.prev.size:Int)=32)||decide (a.kind=0))
theorem dnot {p q:Prop} [Decidable p] [Decidable q] (h:p↔¬ q):decide p=!decide q:=by rw [←decide_not];exact decide_eq_decide.2 h
theorem Al (a:Xa):(bif numsR a then false else bif seqR a then false else fitsR a)=rightB a:=by
 rw [DM,rightB,numsR,seqR,placedB,withinB,withinB,withinB,withinB,isDigestB]
 rw [dnot (p:=a.seq<0) (q:=0≤a.seq) aa,dnot (p:=1073741824<a.seq) (q:=a.seq≤1073741824) aa,dnot (p:=a.time<0) (q:=0≤a.time) aa,dnot (p:=1099511627776<a.time) (q:=a.time≤1099511627776) aa,
  dnot (p:=a.e<0) (q:=0≤a.e) aa,dnot (p:=2305843009213693950≤a.e) (q:=a.e≤2305843009213693949) aa,dnot (p:=a.s<0) (q:=0≤a.s) aa,dnot (p:=2305843009213693950≤a.s) (q:=a.s≤2305843009213693949) (by omega)]
 cases isId a.author
 · rfl
 cases decide (0≤a.time)
 · cases decide (0≤a.seq)<;>cases decide (a.seq≤1073741824)<;>simp
 cases decide (a.time≤1099511627776)
 · cases decide (0≤a.seq)<;>cases decide (a.seq≤1073741824)<;>simp
 cases decide (0≤a.e)
 · cases decide (0≤a.seq)<;>cases decide (a.seq≤1073741824)<;>simp
 cases decide (a.e≤2305843009213693949)
 · cases decide (0≤a.seq)<;>cases decide (a.seq≤1073741824)<;>simp
 cases decide (0≤a.s)
 · cases decide (0≤a.seq)<;>cases decide (a.seq≤1073741824)<;>simp
 cases decide (a.s≤2305843009213693949)
 · cases decide (0≤a.seq)<;>cases decide (a.seq≤1073741824)<;>simp
 by_cases h0:a.seq=0
 · rw [h0]
   cases seqB a.prev ⟨#[]⟩<;>cases decide (a.kind=0)<;>simp
 by_cases h1:0<a.seq
 · rw [Zc h0,Zd h1,Zd (show 0≤a.seq by omega),Zd (show 1≤a.seq by omega)]
   cases decide (a.seq≤1073741824)<;>cases decide ((a.prev.size:Int)=32)<;>cases decide (a.kind=0)<;>simp
 · rw [Zc h0,Zc (show ¬ 0≤a.seq by omega),Zc (show ¬ 1≤a.seq by omega)]
   simp
set_option maxRecDepth 8000 in
theorem kx (a:Xa) (hs:a.Str):Pu prog 146 #[a.v] (Xa.at_ · a) (.bool (rightB a)):=by
 refine aw func146 ntmps146 fun av bor w0=>?_
 rw [←Al]
 have c1:=fV a.author hs.author
 have c2:=tI a hs
 repeat' (first|(refine ag (hc:=c1) ?_)|(refine ag (hc:=c2) ?_)|refine gs ?_|refine gs1 fun _=>?_|(refine gp ?_ ?_<;>intro hx_ this)|fail)
 all_goals refine ab (ae rfl rfl) ?_
 all_goals first
  | rfl
  | (simp only [numsR,seqR, *,Zt,Zr,Zf,Ze,Zh,Zg,Zk,Zj,Zn,Zl,Zs,Zm,Zq,Zi];done)
  | (simp_all [numsR,seqR];done)
  | (simp_all [numsR,seqR];intros;omega)
  | skip
theorem oy (b:Xo) (hb:b.Fit):Pu prog 280 #[b.v] (fun _=>True) (.string (boxV b)):=by
 refine aw func280 ntmps280 fun av bor w0=>?_
 have h1:=az b.nonce
 have h2:=az b.data
 have h3:=az b.tag
 have k1:=hb.nonce
 have k2:=hb.data
 have k3:=hb.tag
 repeat' (first|refine gs ?_|refine gs1 fun _=>?_|fail)
 (refine aW ⟨[0,1,3,4,7,8],[(2,⟨[],[(5,⟨[6],[(9,⟨[10,11],[]⟩)]⟩)]⟩)]⟩ (h:=?_))
 all_goals repeat' (first|refine ag (hc:=cN _ aa) ?_|refine gd ?_|refine ax (hy:=by (apply cZ;rfl;rfl;(try simp only [Za]);omega)) ?_|refine aA ?_ (h':=?_)|exact aB|fail)
 repeat' (first|refine gs ?_|fail)
 all_goals exact ab (ae rfl rfl) rfl
theorem yB {w:World} {p:Option Addr} {q:Nat} {x:Xy} (h:∀ j u,x.cells[j]?=some u→CellAt w p (q+j) u):∀ j u,x.box.cells[j]?=some u→CellAt w p (q+2+j) u:=fun j u hj=>by
 have h1:=h (j+2) u hj
 rw [show q+2+j=q+(j+2) from by omega]
 exact h1
set_option maxRecDepth 8000 in
theorem tK (a:Xa) (hs:a.Str) (ha:rightB a=true→a.Fit):Pu prog 239 #[a.v] (Xa.at_ · a) (.string (actCore a)):=by
 have hri:=kx a hs
 rw [actCore]
 cases hrB:rightB a with
 | false =>
  rw [hrB] at hri
  refine aw func239 ntmps239 fun av bor w0=>?_
  repeat' (first|(refine ag (hc:=hri) ?_)|refine gs ?_|refine gs1 fun _=>?_|fail)
  exact ab (ae rfl rfl) rfl
 | true =>
 rw [hrB] at hri
 replace ha:=ha hrB
 refine aw func239 ntmps239 fun av bor w0=>?_
 refine aR (p:=a.wraps.n=a.wrapsL.length∧a.wraps.n≤maxLen∧(0<a.wrapsL.length→a.wraps.p.isSome=true)) (fun w h=>⟨h.2.len_,ZY (Xf.cap h.2) (Xf.max h.2),h.2.some_⟩) fun ⟨hl,hm,hp⟩=>?_
 simp only [maxLen] at hm
 obtain ⟨i1,i2,i3,i4,i5,i6,i7,i8,i9⟩:=ha.ints
 have s1:=az a.author
 have s2:=az a.prev
 have s3:=az a.object
 have s4:=az a.target
 have s5:=az a.group
 have s6:=az a.text
 have s7:=az ⟨#[97,99,116]⟩
 have s8:=f0 ha.body
 have h1:=ha.author
 have h2:=ha.prev
 have h3:=ha.object
 have h4:=ha.target
 have h5:=ha.group
 have h6:=ha.text
 have h7:=ha.to
 have h8:(⟨#[97,99,116]⟩:ByteArray).size=3:=rfl
 have n1:=ap a.seq
 have n2:=ap a.kind
 have n3:=ap a.time
 have n4:=ap a.scope
 have n5:=ap a.epoch
 have n6:=ap a.wraps.n
 have n7:=ap a.n
 have n8:=ap a.m
 repeat' (first|(refine ag (hc:=hri) ?_)|refine gs ?_|refine gs1 fun _=>?_|fail)
 (refine aW ⟨[1,2,5,6,9,10,13,14,17,18],[(0,⟨[],[(3,⟨[4],[(7,⟨[8],[(11,⟨[12],[(15,⟨[16],[(19,⟨[20,21],[]⟩)]⟩)]⟩)]⟩)]⟩)]⟩)]⟩ (h:=?_))
 all_goals repeat' (first|refine ag (hc:=ca _ aa) ?_|refine ag (hc:=cN _ aa) ?_|refine gd ?_|refine ax (hy:=by (apply cZ;rfl;rfl;(try simp only [Za]);omega)) ?_|refine aA ?_ (h':=?_)|exact aB|fail)
 repeat' (first|refine gs ?_|fail)
 (refine aW ⟨[0,1,2,5,6,9,10,13,14,17,18,21,22],[(3,⟨[4],[(7,⟨[8],[(11,⟨[12],[(15,⟨[16],[(19,⟨[20],[(23,⟨[24,25],[]⟩)]⟩)]⟩)]⟩)]⟩)]⟩)]⟩ (h:=?_))
 all_goals repeat' (first|refine ag (hc:=ca _ aa) ?_|refine ag (hc:=cN _ aa) ?_|refine ag (hc:=mC a.to a.toL aa) ?_|refine gd ?_|refine ax (hy:=by (apply cZ;rfl;rfl;(try simp only [Za]);omega)) ?_|refine aA ?_ (h':=?_)|exact aB|fail)
 repeat' (first|refine gs ?_|fail)
 (refine aW ⟨[0,1,2,5,6,9,10,11],[(3,⟨[4],[(7,⟨[8],[(12,⟨[13,14],[]⟩)]⟩)]⟩)]⟩ (h:=?_))
 all_goals repeat' (first|refine ag (hc:=ca _ aa) ?_|refine ag (hc:=oy a.body ha.body) ?_|refine gd ?_|refine ax (hy:=by first|(apply cg;rfl;(repeat (exact am));exact Xa.cells_body _;rfl)|(apply cZ;rfl;rfl;(try simp only [Za]);omega)) ?_|refine aA ?_ (h':=?_)|exact aB|fail)
 repeat' (first|refine gs ?_|fail)
 rename_i b
 have hc4:(core4 a).size≤100000000000:=by
  have:(numV a.wrapsL.length).size≤10:=ap _
  simp only [core4,core3,core2,core1,Za]
  omega
 have hle:=eK (a.wrapsL.map wrapV)
 have hw:=ha.wrapsV
 have e0:core5 a 0=core4 a:=by simp [core5,cats]
 refine ao (ι:=Kth a.wrapsL.length) (fun i=>⟨[(1,.pointer (some ⟨b,0,none⟩)),(4,.string (core5 a i.k)),(5,.int .i64 (i.k:Nat))],[cel b 46 a.cells],(Xa.at_ · a)⟩) (fun i=>a.wrapsL.length-i.k) ⟨0,Z4 _⟩ (ai ⟨rfl,?_,rfl,trivial⟩ (aj _) fun _ h=>h) fun i=>?_
 · simp only [e0,core4,core3,core2,core1,←hl,Zy];rfl
 have hik:=i.hk
 have hk5:(core5 a i.k).size≤200000000000:=by have:=hle i.k;simp only [core5,Za];omega
 repeat' (first|refine gs ?_|(refine gp ?_ ?_<;>intro hx_ this)|fail)
 · have hlt:i.k<a.wrapsL.length:=by omega
   have hp':=hp aa
   obtain ⟨x,hx⟩:∃ x,a.wrapsL[i.k]?=some x:=⟨_,Zb hlt⟩
   have hxm:x∈a.wrapsL:=Z6 hx
   have hf:=ha.wraps x hxm
   have hfs:=f0 hf
   obtain ⟨w1,w2⟩:=ha.wints x hxm
   have m1:=ap x.to
   have m2:=ap x.eph
   (refine aq ⟨[0,1,2,3,4,5,6,9,10,11,12,13,14,17,18,19,20,21,22],[(7,⟨[8],[(15,⟨[16],[(23,⟨[24,25],[]⟩)]⟩)]⟩)]⟩ [cel b 46 a.cells] (Xa.at_ · a) (h:=?_))
   all_goals repeat' (first|refine ag (hc:=ca _ aa) ?_|refine ag (hc:=oy x.box hf) ?_|refine gdz ?_|refine ax (hsub:=by exact aI) (hy:=by first|(apply ay (q:=i.k*5);rfl;rfl;omega;omega;assumption;omega)|(apply dt;rfl;assumption;rfl)|(apply dl (q:=i.k*5) (u:=.int .i64 x.to);rfl;exact fun w h=>(Wraps.get h.2 hx).2.2 0 _ rfl)|(apply dl (q:=i.k*5+1) (u:=.int .i64 x.eph);rfl;exact fun w h=>(Wraps.get h.2 hx).2.2 1 _ rfl)|(apply fF (q:=i.k*5+2) (cs:=x.box.cells);rfl;exact fun w h=>⟨rfl,(Wraps.get h.2 hx).2.1,yB (Wraps.get h.2 hx).2.2⟩)|(apply cZ;rfl;rfl;(try simp only [Za]);omega)) ?_|refine aA ?_ (h':=?_)|exact aB|fail)
   repeat' (first|refine gs ?_|fail)
   have hsucc:=fi (a.wrapsL.map wrapV) (k:=i.k) (by simpa using hlt)
   have hget:(a.wrapsL.map wrapV).getD i.k .empty=wrapV x:=by simp [hx]
   rw [hget] at hsucc
   have e2:core5 a (i.k+1)=core5 a i.k++numV x.to++numV x.eph++boxV x.box:=by simp only [core5,hsucc,Zy,wrapV]
   all_goals exact ⟨(⟨i.k+1,hlt⟩:Kth a.wrapsL.length),(by show a.wrapsL.length-(i.k+1)<a.wrapsL.length-i.k;omega),ai ⟨rfl,by rw [e2];rfl,rfl,trivial⟩ (aj _) fun _ h=>h⟩
 have hke:i.k=a.wrapsL.length:=by omega
 (refine aW ⟨[0,1,2,5,6],[(3,⟨[4],[(7,⟨[8,9],[]⟩)]⟩)]⟩ (h:=?_))
 all_goals repeat' (first|refine ag (hc:=ca _ aa) ?_|refine gd ?_|refine ax (hy:=by (apply cZ;rfl;rfl;(try simp only [Za]);omega)) ?_|refine aA ?_ (h':=?_)|exact aB|fail)
 repeat' (first|refine gs ?_|fail)
 refine ab (ae rfl rfl) ?_
 simp only [Zf,coreV,←hke]
theorem mF (a:Xa) (hs:a.Str) (ha:rightB a=true→a.Fit) (hi:a.e<9223372036854775808∧a.s<9223372036854775808):Pu prog 157 #[a.v] (Xa.at_ · a) (.string (actBytes a)):=by
 refine aw func157 ntmps157 fun av bor w0=>?_
 obtain ⟨i8,i9⟩:=hi
 have n7:=ap a.e
 have n8:=ap a.s
 have hc:(actCore a).size≤300000000000:=by
  unfold actCore
  cases hrB:rightB a with
  | true=>exact gC (ha hrB)
  | false=>simp [ByteArray.size]
 have hcp:=tK a hs ha
 repeat' (first|(refine ag (hc:=hcp) ?_)|refine gs ?_|refine gs1 fun _=>?_|(refine gp ?_ ?_<;>intro hx_ this)|fail)
 · (all_goals (apply ab;apply ae;rfl;rfl));all_goals (simp only [actBytes, *,Zt,Zr,Zf,Ze,Zh,Zg,Zk,Zj,Zn,Zl,Zs,Zm,Zq,Zi];done)
 (refine aW ⟨[0,1,2,3,6,7,8],[(4,⟨[5],[(9,⟨[10,11],[]⟩)]⟩)]⟩ (h:=?_))
 all_goals repeat' (first|refine ag (hc:=ca _ aa) ?_|refine gd ?_|refine ax (hy:=by (apply cZ;rfl;rfl;(try simp only [Za]);omega)) ?_|refine aA ?_ (h':=?_)|exact aB|fail)
 repeat' (first|refine gs ?_|fail)
 all_goals ((all_goals (apply ab;apply ae;rfl;rfl));all_goals (simp only [actBytes, *,Zt,Zr,Zf,Ze,Zh,Zg,Zk,Zj,Zn,Zl,Zs,Zm,Zq,Zi];done))
theorem tw:prog.underlying 44=some (.struct (prog.fieldsOf 44)):=by kernel_rfl
theorem wW:prog.stoodInHeld 44=false:=by kernel_rfl
theorem wX:prog.eqGuardType prog.depth 44=false:=by kernel_rfl
theorem xb (w:World) (a b c d:Int):(Op.equalIn 10000 44 (.agg #[.int .i64 a,.int .i64 b]) (.agg #[.int .i64 c,.int .i64 d])).run prog w=.ok (decide (a=c)&&decide (b=d)) w:=by
 have e:(10000:Nat)=9999+1:=rfl
 have e2:(9999:Nat)=9998+1:=rfl
 rw [e,run_equalIn_agg _ _ _ _ _ tw wW]
 have hf:(prog.fieldsOf 44).toList.map (fun f=>(f.name,f.type,f.offset))=[("E",3,0),("S",3,1)]:=by kernel_rfl
 generalize (prog.fieldsOf 44).toList=l at hf
 rcases l with _|⟨f1,_|⟨f2,_|⟨f3,l⟩⟩⟩
 case cons.cons.nil =>
  simp only [Z1,List.map_nil,List.cons.injEq,Prod.mk.injEq,and_true] at hf
  obtain ⟨⟨n1,t1,o1⟩,n2,t2,o2⟩:=hf
  have hag:=fun w=>(bO (Xw.out (P:=prog) (t:=3)) w).1
  have hst:=fun (x y:Int) (w:World)=>run_equalIn_int (P:=prog) w 9998 3 .i64 .i64 x y Xt.out
  cases h1:decide (a=c)<;>cases h2:decide (b=d) <;>
  · simp only [Zw,Qd] at h1 h2
    simp [Op.eqFields,n1,n2,t1,t2,o1,o2,part,hag,e2,hst,h1,h2]
 all_goals (have:=congrArg List.length hf;simp at this)
theorem B7 {N:Nat} {av bor:List Nat} {w0:World} {E:Env} {loc:List Xm} {X:World→Prop} {ty t2:TypeId} {x y:Operand} {a b c d:Int} (hx:ev E x=some (.agg #[.int .i64 a,.int .i64 b])) (hy:ev E y=some (.agg #[.int .i64 c,.int .i64 d])) :
  Sy.Yields prog N av bor w0 ⟨E,loc,X⟩ (.binOp .eql 44 x y t2) ty (.bool (decide (a=c)&&decide (b=d))):=Sy.Yields.mk fun A w ok dd pos af g=>by
 have h1:=run_eql_struct (P:=prog) w 44 #[.int .i64 a,.int .i64 b] #[.int .i64 c,.int .i64 d]
 have h2:=xb w a b c d
 rw [h2] at h1
 simp [execOp,ok.eval (st:=⟨E,loc,X⟩) hx,ok.eval (st:=⟨E,loc,X⟩) hy,run_eqGuard_agg _ _ _ _ _ _ _ wX,h1]
section
variable {N:Nat} {av bor:List Nat} {w0:World} {ops:Array Oper} {rest:List Oper} {kk:St→Prop} {E:Env} {loc:List Xm} {X:World→Prop} {n:Nat} {ty t2:TypeId} {pos:String} {af:Array Edge} {g:Option (Nat×Bool)} {bb want:Bool} {x y:Operand} {a b c d:Int}
theorem zH (h:Sw prog N av bor w0 ops rest ⟨(n,.bool (decide (a=c)&&decide (b=d)))::E,loc,X⟩ kk) (hx:ev E x=some (.agg #[.int .i64 a,.int .i64 b]):=by rfl) (hy:ev E y=some (.agg #[.int .i64 c,.int .i64 d]):=by rfl) (hg:gdB ops E g=some (bb,want):=by rfl) (hbb:bb=want:=by exact ar) (hd:Nat.blt n N=true:=by rfl) :
  Sw prog N av bor w0 ops (⟨some n,.binOp .eql 44 x y t2,ty,pos,af,g⟩::rest) ⟨E,loc,X⟩ kk:=ak (B7 hx hy) hg hbb hd h
end
def sameZ (a:Xa):Bool:=decide ((a.to.n:Int)=0)&&(decide ((a.wraps.n:Int)=0)&&(seqB a.author Xa.zero.author&&(decide (a.seq=Xa.zero.seq)&&(seqB a.prev Xa.zero.prev&&(decide (a.kind=Xa.zero.kind)&&(decide (a.time=Xa.zero.time)&&(seqB a.object Xa.zero.object&&(seqB a.target Xa.zero.target&&(decide (a.scope=Xa.zero.scope)&&(seqB a.group Xa.zero.group&&(seqB a.text Xa.zero.text&&(boxEq a.body Xo.zero&&(decide (a.epoch=Xa.zero.epoch)&&(decide (a.n=Xa.zero.n)&&(decide (a.m=Xa.zero.m)&&(decide (a.e=0)&&decide (a.s=0)))))))))))))))))
set_option maxRecDepth 20000 in
theorem tF (a:Xa):Pu prog 144 #[a.v,Xa.zero.v] (fun _=>True) (.bool (sameZ a)):=by
 refine aw func144 ntmps144 fun av bor w0=>?_
 repeat' (first|apply aH|apply QS|apply QT|refine aZ ?_|refine aO ?_|refine bC ?_|refine bQ ?_|refine aY ?_|refine aU ?_|refine py ?_|refine iy ?_|refine fO ?_|refine cr fun _=>?_|refine QW ?_|apply QV|apply QU|apply bY|((fail_if_success (refine cf ?_));refine bu (ht:=?_) (hf:=?_);all_goals (intro hx_;skip))|(refine dD (ht:=?_) (hf:=?_);all_goals (intro hx_;skip)))
 · refine ab (ae rfl rfl) ?_
   have h0:Xa.zero.to.n=0:=rfl
   rw [h0] at hx_
   simp_all [sameZ]
 · refine ab (ae rfl rfl) ?_
   have h0:Xa.zero.wraps.n=0:=rfl
   rw [h0] at hx_
   simp_all [sameZ]
 rename_i b1 b2 g1
 have n1:a.to.n=0:=by
  have h0:Xa.zero.to.n=0:=rfl
  rw [h0] at g1
  simpa using g1
 have n2:a.wraps.n=0:=by
  have h0:Xa.zero.wraps.n=0:=rfl
  rw [h0] at hx_
  simpa using hx_
 refine ao (ι:=Unit) (fun _=>⟨[(2,.pointer (some ⟨b1,0,none⟩)),(3,.pointer (some ⟨b2,0,none⟩)),(5,.int .i64 0)],[cel b2 46 Xa.zero.cells,cel b1 46 a.cells],fun _=>True⟩) (fun _=>0) () (ai al (aj _) fun _ h=>h) fun _=>?_
 repeat' (first|apply aH|apply QS|apply QT|refine aZ ?_|refine aO ?_|refine bC ?_|refine bQ ?_|refine eG ?_|refine iy ?_|apply QV|apply QU|apply il|(refine dD (ht:=?_) (hf:=?_);all_goals (intro hx_;first|have:=bz hx_|have:=co hx_)))
 · exact absurd this (by rw [n1];decide)
 refine ao (ι:=Unit) (fun _=>⟨[(2,.pointer (some ⟨b1,0,none⟩)),(3,.pointer (some ⟨b2,0,none⟩)),(6,.int .i64 0)],[cel b2 46 Xa.zero.cells,cel b1 46 a.cells],fun _=>True⟩) (fun _=>0) () (ai al (aj _) fun _ h=>h) fun _=>?_
 repeat' (first|apply aH|apply QS|apply QT|refine aZ ?_|refine aO ?_|refine bC ?_|refine bQ ?_|refine aY ?_|refine aU ?_|refine eC ?_|refine eG ?_|refine pw ?_|refine iy ?_|refine bj ?_|apply QV|apply QU|apply bY|apply il|(refine iR (a:=a.body) (b:=Xo.zero) ?_)|(refine zH (a:=a.e) (b:=a.s) (c:=0) (d:=0) ?_)|(refine aC ?_)|((fail_if_success (refine cf ?_));refine bu (ht:=?_) (hf:=?_);all_goals (intro hx_;first|have:=bz hx_|have:=co hx_|skip))|(refine dD (ht:=?_) (hf:=?_);all_goals (intro hx_;first|have:=bz hx_|have:=co hx_)))
 · exact absurd this (by rw [n2];decide)
 all_goals (
  refine ab (ae rfl rfl) ?_
  have q1:decide ((a.to.n:Int)=0)=true:=by rw [n1];rfl
  have q2:decide ((a.wraps.n:Int)=0)=true:=by rw [n2];rfl
  rw [sameZ,q1,q2]
  clear q1 q2 n1 n2
  first
   | rfl
   | (simp_all only [Zg,Zj,Zk,Zt,Zr,Zh];done)
   | (simp_all;done)
   | skip)
theorem CellAt.same {w:World} {p:Option Addr} {q:Nat} {u v:Value} (h1:CellAt w p q u) (h2:CellAt w p q v):u=v:=by
 obtain ⟨a,ha⟩:=QO.1 h1.1
 have:=(h1.2 a ha).symm.trans (h2.2 a ha)
 exact Option.some.inj this
theorem Strs.same {w:World} {s:Xl} {l m:List ByteArray} (h1:Strs w s l) (h2:Strs w s m):l=m:=by
 have hl:l.length=m.length:=h1.len_.symm.trans h2.len_
 apply List.ext_getElem hl
 intro i i1 i2
 have a1:=h1.at_ (Zb i1)
 have a2:=h2.at_ (Zb i2)
 exact Value.string.inj (CellAt.same a1 a2)
section
variable {H:Type} {enc:TypeId×Value→H} {P:Program} {w:World} {base:Nat} {spare:Nat→Bool} {held:Bool}
theorem Xl.v_inj {s t:Xl} (h:s.v=t.v):s=t:=by
 obtain ⟨p,n,c⟩:=s
 obtain ⟨p',n',c'⟩:=t
 simp only [Xl.v,Value.slice.injEq] at h
 obtain ⟨rfl,rfl,rfl⟩:=h
 rfl
theorem B0 {fuel:Nat} {a:Xa} {x:DataW H×List MemPlace} (h:DataW.trod enc prog w base spare held fuel 46 a.cells=some x) (ha:a.at_ w):a.Str:=by
 obtain ⟨n0,y0,h0⟩:=aS (i:=0) (off:=0) (k:=1) (t':=9) underlying46 h rfl rfl rfl ac
 obtain ⟨n6,y6,h6⟩:=aS (i:=6) (off:=6) (k:=1) (t':=9) underlying46 h rfl rfl rfl ac
 obtain ⟨n8,y8,h8⟩:=aS (i:=8) (off:=8) (k:=1) (t':=9) underlying46 h rfl rfl rfl ac
 obtain ⟨n9,y9,h9⟩:=aS (i:=9) (off:=9) (k:=1) (t':=39) underlying46 h rfl rfl rfl ac
 obtain ⟨n10,y10,h10⟩:=aS (i:=10) (off:=10) (k:=1) (t':=9) underlying46 h rfl rfl rfl ac
 obtain ⟨s0,e0,b0⟩:=bJ h0
 obtain ⟨s6,e6,b6⟩:=bJ h6
 obtain ⟨s8,e8,b8⟩:=bJ h8
 obtain ⟨s9,l9,e9,r9,b9⟩:=iu h9
 obtain ⟨s10,e10,b10⟩:=bJ h10
 simp [Xa.cells] at e0 e6 e8 e9 e10
 have e9':=Xl.v_inj e9
 subst e0;subst e6;subst e8;subst e10
 rw [←e9'] at r9
 have e:=Strs.same ha.1 r9
 exact ⟨b0,b6,b8,b10,by rw [e];exact b9⟩
theorem xy {fuel:Nat} {cs:List Value} {x:DataW H×List MemPlace} (h:DataW.trod enc prog w base spare held fuel 46 cs=some x):∃ a:Xa,cs=a.cells∧a.at_ w∧a.Rng∧a.target.size≤maxLen∧a.Str:=by
 obtain ⟨a,e,h1,h2,h3⟩:=AA h
 subst e
 exact ⟨a,rfl,h1,h2,h3,B0 h h1⟩
end
end Go.Proofs.YtaolfiikahlmkaaGreatDoor
namespace Go.Proofs.YtaolfiikahlmkaaGreatDoor
open Go Go.Proofs Sy Go.RowKit Go.Deep Go.ChangeShapes Tryz
structure Xg.Str (c:Xg):Prop where
 actor:c.actor.size≤maxLen
 prev:c.prev.size≤maxLen
 rng:c.base<9223372036854775808∧c.gen<9223372036854775808∧c.home<9223372036854775808∧c.pub<9223372036854775808∧c.time<9223372036854775808∧c.e<9223372036854775808∧c.s<9223372036854775808
structure Xh.Str (b:Xh):Prop where
 actor:b.actor.size≤maxLen
 claim:b.claim.size≤maxLen
 rng:b.server<9223372036854775808∧b.gen<9223372036854775808∧b.time<9223372036854775808∧b.e<9223372036854775808∧b.s<9223372036854775808
structure Xu.Str (d:Xu):Prop where
 actor:d.actor.size≤maxLen
 object:d.object.size≤maxLen
 text:d.text.size≤maxLen
 to:∀ x∈d.toL,x.size≤maxLen
 rng:d.server<9223372036854775808∧d.number<9223372036854775808∧d.kind<9223372036854775808∧d.n<9223372036854775808∧d.from_<9223372036854775808∧d.until_<9223372036854775808∧d.e<9223372036854775808∧d.s<9223372036854775808
structure Xe.Str (i:Xe):Prop where
 act:i.act.Str
 rng:i.act.Rng
 claim:i.claim.Str
 ballot:i.ballot.Str
 dec:i.dec.Str
section
variable {H:Type} {enc:TypeId×Value→H} {P:Program} {w:World} {base:Nat} {spare:Nat→Bool} {held:Bool}
theorem tV {fuel:Nat} {cs:List Value} {x:DataW H×List MemPlace} (h:DataW.trod enc prog w base spare held fuel 22 cs=some x):∃ (s:Xl) (l:List Int),cs=[s.v]∧Ints w s l∧∀ n∈l,n<9223372036854775808:=by
 obtain ⟨s,l,h1,h2,h3⟩:=fY (α:=Int) underlying22 (size:=1) ac (fun n=>[.int .i64 n]) (fun n=>n<9223372036854775808) (fun n cs y hy=>by obtain ⟨s,h1,h2⟩:=bw hy;exact ⟨s,h1,h2⟩) h
 exact ⟨s,l,h1,h2,h3⟩
theorem tW {fuel:Nat} {cs:List Value} {x:DataW H×List MemPlace} (h:DataW.trod enc prog w base spare held fuel 54 cs=some x):∃ a:Xg,cs=a.cells∧a.Str:=by
 have hl:=gw underlying54 (k:=9) ac h
 obtain ⟨n0,y0,h0⟩:=aS (i:=0) (off:=0) (k:=1) (t':=9) underlying54 h rfl rfl rfl ac
 obtain ⟨n1,y1,h1⟩:=aS (i:=1) (off:=1) (k:=1) (t':=3) underlying54 h rfl rfl rfl ac
 obtain ⟨n2,y2,h2⟩:=aS (i:=2) (off:=2) (k:=1) (t':=9) underlying54 h rfl rfl rfl ac
 obtain ⟨n3,y3,h3⟩:=aS (i:=3) (off:=3) (k:=1) (t':=3) underlying54 h rfl rfl rfl ac
 obtain ⟨n4,y4,h4⟩:=aS (i:=4) (off:=4) (k:=1) (t':=3) underlying54 h rfl rfl rfl ac
 obtain ⟨n5,y5,h5⟩:=aS (i:=5) (off:=5) (k:=1) (t':=3) underlying54 h rfl rfl rfl ac
 obtain ⟨n6,y6,h6⟩:=aS (i:=6) (off:=6) (k:=1) (t':=3) underlying54 h rfl rfl rfl ac
 obtain ⟨n7,y7,h7⟩:=aS (i:=7) (off:=7) (k:=2) (t':=44) underlying54 h rfl rfl rfl ac
 match cs,hl with
 | [c0,c1,c2,c3,c4,c5,c6,c7,c8],_ =>
  obtain ⟨s0,e0,b0⟩:=bJ h0
  obtain ⟨s1,e1,b1⟩:=bw h1
  obtain ⟨s2,e2,b2⟩:=bJ h2
  obtain ⟨s3,e3,b3⟩:=bw h3
  obtain ⟨s4,e4,b4⟩:=bw h4
  obtain ⟨s5,e5,b5⟩:=bw h5
  obtain ⟨s6,e6,b6⟩:=bw h6
  obtain ⟨s7,t7,e7,b7,bb7⟩:=jm h7
  simp at e0 e1 e2 e3 e4 e5 e6 e7
  exact ⟨⟨s0,s1,s2,s3,s4,s5,s6,s7,t7⟩,by simp [Xg.cells,e0,e1,e2,e3,e4,e5,e6,e7],⟨b0,b2,b1,b3,b4,b5,b6,b7,bb7⟩⟩
theorem rO {fuel:Nat} {cs:List Value} {x:DataW H×List MemPlace} (h:DataW.trod enc prog w base spare held fuel 56 cs=some x):∃ a:Xh,cs=a.cells∧a.Str:=by
 have hl:=gw underlying56 (k:=7) ac h
 obtain ⟨n0,y0,h0⟩:=aS (i:=0) (off:=0) (k:=1) (t':=3) underlying56 h rfl rfl rfl ac
 obtain ⟨n1,y1,h1⟩:=aS (i:=1) (off:=1) (k:=1) (t':=9) underlying56 h rfl rfl rfl ac
 obtain ⟨n2,y2,h2⟩:=aS (i:=2) (off:=2) (k:=1) (t':=3) underlying56 h rfl rfl rfl ac
 obtain ⟨n3,y3,h3⟩:=aS (i:=3) (off:=3) (k:=1) (t':=9) underlying56 h rfl rfl rfl ac
 obtain ⟨n4,y4,h4⟩:=aS (i:=4) (off:=4) (k:=1) (t':=3) underlying56 h rfl rfl rfl ac
 obtain ⟨n5,y5,h5⟩:=aS (i:=5) (off:=5) (k:=2) (t':=44) underlying56 h rfl rfl rfl ac
 match cs,hl with
 | [c0,c1,c2,c3,c4,c5,c6],_ =>
  obtain ⟨s0,e0,b0⟩:=bw h0
  obtain ⟨s1,e1,b1⟩:=bJ h1
  obtain ⟨s2,e2,b2⟩:=bw h2
  obtain ⟨s3,e3,b3⟩:=bJ h3
  obtain ⟨s4,e4,b4⟩:=bw h4
  obtain ⟨s5,t5,e5,b5,bb5⟩:=jm h5
  simp at e0 e1 e2 e3 e4 e5
  exact ⟨⟨s0,s1,s2,s3,s4,s5,t5⟩,by simp [Xh.cells,e0,e1,e2,e3,e4,e5],⟨b1,b3,b0,b2,b4,b5,bb5⟩⟩
theorem Az {fuel:Nat} {cs:List Value} {x:DataW H×List MemPlace} (h:DataW.trod enc prog w base spare held fuel 58 cs=some x):∃ a:Xu,cs=a.cells∧Xu.at_ w a∧a.Str:=by
 have hl:=gw underlying58 (k:=12) ac h
 obtain ⟨n0,y0,h0⟩:=aS (i:=0) (off:=0) (k:=1) (t':=3) underlying58 h rfl rfl rfl ac
 obtain ⟨n1,y1,h1⟩:=aS (i:=1) (off:=1) (k:=1) (t':=3) underlying58 h rfl rfl rfl ac
 obtain ⟨n2,y2,h2⟩:=aS (i:=2) (off:=2) (k:=1) (t':=3) underlying58 h rfl rfl rfl ac
 obtain ⟨n3,y3,h3⟩:=aS (i:=3) (off:=3) (k:=1) (t':=9) underlying58 h rfl rfl rfl ac
 obtain ⟨n4,y4,h4⟩:=aS (i:=4) (off:=4) (k:=1) (t':=9) underlying58 h rfl rfl rfl ac
 obtain ⟨n5,y5,h5⟩:=aS (i:=5) (off:=5) (k:=1) (t':=9) underlying58 h rfl rfl rfl ac
 obtain ⟨n6,y6,h6⟩:=aS (i:=6) (off:=6) (k:=1) (t':=39) underlying58 h rfl rfl rfl ac
 obtain ⟨n7,y7,h7⟩:=aS (i:=7) (off:=7) (k:=1) (t':=3) underlying58 h rfl rfl rfl ac
 obtain ⟨n8,y8,h8⟩:=aS (i:=8) (off:=8) (k:=1) (t':=3) underlying58 h rfl rfl rfl ac
 obtain ⟨n9,y9,h9⟩:=aS (i:=9) (off:=9) (k:=1) (t':=3) underlying58 h rfl rfl rfl ac
 obtain ⟨n10,y10,h10⟩:=aS (i:=10) (off:=10) (k:=2) (t':=44) underlying58 h rfl rfl rfl ac
 match cs,hl with
 | [c0,c1,c2,c3,c4,c5,c6,c7,c8,c9,c10,c11],_ =>
  obtain ⟨s0,e0,b0⟩:=bw h0
  obtain ⟨s1,e1,b1⟩:=bw h1
  obtain ⟨s2,e2,b2⟩:=bw h2
  obtain ⟨s3,e3,b3⟩:=bJ h3
  obtain ⟨s4,e4,b4⟩:=bJ h4
  obtain ⟨s5,e5,b5⟩:=bJ h5
  obtain ⟨s6,l6,e6,r6,b6⟩:=iu h6
  obtain ⟨s7,e7,b7⟩:=bw h7
  obtain ⟨s8,e8,b8⟩:=bw h8
  obtain ⟨s9,e9,b9⟩:=bw h9
  obtain ⟨s10,t10,e10,b10,bb10⟩:=jm h10
  simp at e0 e1 e2 e3 e4 e5 e6 e7 e8 e9 e10
  exact ⟨⟨s0,s1,s2,s3,s4,s5,s6,s7,s8,s9,s10,t10,l6⟩,by simp [Xu.cells,e0,e1,e2,e3,e4,e5,e6,e7,e8,e9,e10],r6,⟨b3,b4,b5,b6,b0,b1,b2,b7,b8,b9,b10,bb10⟩⟩
theorem xx {fuel:Nat} {cs:List Value} {x:DataW H×List MemPlace} (h:DataW.trod enc prog w base spare held fuel 60 cs=some x):∃ a:Xe,cs=a.cells∧Xe.at_ w a∧a.Str:=by
 have hl:=gw underlying60 (k:=49) ac h
 obtain ⟨n0,y0,h0⟩:=aS (i:=0) (off:=0) (k:=1) (t':=3) underlying60 h rfl rfl rfl ac
 obtain ⟨n1,y1,h1⟩:=aS (i:=1) (off:=1) (k:=20) (t':=46) underlying60 h rfl rfl rfl ac
 obtain ⟨n2,y2,h2⟩:=aS (i:=2) (off:=21) (k:=9) (t':=54) underlying60 h rfl rfl rfl ac
 obtain ⟨n3,y3,h3⟩:=aS (i:=3) (off:=30) (k:=7) (t':=56) underlying60 h rfl rfl rfl ac
 obtain ⟨n4,y4,h4⟩:=aS (i:=4) (off:=37) (k:=12) (t':=58) underlying60 h rfl rfl rfl ac
 obtain ⟨a0,e0,_⟩:=bw h0
 obtain ⟨a1,e1,q1,r1,_,s1⟩:=xy h1
 obtain ⟨a2,e2,s2⟩:=tW h2
 obtain ⟨a3,e3,s3⟩:=rO h3
 obtain ⟨a4,e4,q4,s4⟩:=Az h4
 refine ⟨⟨a0,a1,a2,a3,a4⟩,?_,⟨q1,q4⟩,⟨s1,r1,s2,s3,s4⟩⟩
 have h5:cs=cs.take 1++((cs.drop 1).take 20++((cs.drop 21).take 9++((cs.drop 30).take 7++(cs.drop 37).take 12))):=by
  have t1:(cs.drop 37).take 12=cs.drop 37:=Qf (by rw [Qr];omega)
  rw [t1,show cs.drop 37=(cs.drop 30).drop 7 from by rw [List.drop_drop],Qs,show cs.drop 30=(cs.drop 21).drop 9 from by rw [List.drop_drop],Qs,show cs.drop 21=(cs.drop 1).drop 20 from by rw [List.drop_drop],Qs,Qs]
 rw [List.drop_zero] at e0
 rw [h5,e0,e1,e2,e3,e4]
 simp [Xe.cells]
theorem tU {fuel:Nat} {cs:List Value} {x:DataW H×List MemPlace} (h:DataW.trod enc prog w base spare held fuel 23 cs=some x):∃ (s:Xl) (l:List Xe),cs=[s.v]∧Items w s l∧∀ i∈l,i.Str:=by
 haveI:Inhabited Xe:=⟨Xe.zero⟩
 obtain ⟨s,l,h1,h2,h3⟩:=fY (α:=Xe) underlying23 (size:=49) ac Xe.cells (fun a=>Xe.at_ w a∧a.Str) (fun n cs y hy=>xx hy) h
 exact ⟨s,l,h1,⟨h2,fun a ha=>(h3 a ha).1⟩,fun a ha=>(h3 a ha).2⟩
theorem tT {fuel:Nat} {cs:List Value} {x:DataW H×List MemPlace} (h:DataW.trod enc prog w base spare held fuel 25 cs=some x):∃ (s t:Xl) (l:List Int) (I:List Xe),cs=[s.v,t.v]∧Ints w s l∧Items w t I∧(∀ n∈l,n<9223372036854775808)∧∀ i∈I,i.Str:=by
 have hl:=gw underlying25 (k:=2) ac h
 obtain ⟨n0,y0,h0⟩:=aS (i:=0) (off:=0) (k:=1) (t':=22) underlying25 h rfl rfl rfl ac
 obtain ⟨n1,y1,h1⟩:=aS (i:=1) (off:=1) (k:=1) (t':=23) underlying25 h rfl rfl rfl ac
 match cs,hl with
 | [c0,c1],_ =>
  obtain ⟨s0,l0,e0,r0,b0⟩:=tV h0
  obtain ⟨s1,l1,e1,r1,b1⟩:=tU h1
  simp at e0 e1
  exact ⟨s0,s1,l0,l1,by rw [e0,e1],r0,r1,b0,b1⟩
end
end Go.Proofs.YtaolfiikahlmkaaGreatDoor
namespace Go.Proofs.YtaolfiikahlmkaaGreatDoor
open Go Go.Proofs Sy Tryz
theorem gl (n l h:Int):Pu prog 232 #[.int .i64 n,.int .i64 l,.int .i64 h] (fun _=>True) (.bool (withinB n l h)):=by
 refine aw func232 ntmps232 fun av bor w0=>?_
 repeat' (first|refine gs ?_|(refine gp ?_ ?_<;>intro hx_ this)|fail)
 (all_goals (apply ab;apply ae;rfl;rfl));all_goals (simp only [withinB, *,Zt,Zr,Zf,Ze,Zh,Zg,Zk,Zj,Zn,Zl,Zs,Zm,Zq,Zi];done)
theorem jW (e s:Int):Pu prog 233 #[.agg #[.int .i64 e,.int .i64 s]] (fun _=>True) (.bool (sigB e s)):=by
 refine aw func233 ntmps233 fun av bor w0=>?_
 repeat' (first|refine ag (hc:=gl _ _ _) ?_|refine gs ?_|refine gs1 fun _=>?_|(refine gp ?_ ?_<;>intro hx_ this)|fail)
 (all_goals (apply ab;apply ae;rfl;rfl));all_goals (simp only [sigB, *,Zt,Zr,Zf,Ze,Zh,Zg,Zk,Zj,Zn,Zl,Zs,Zm,Zq,Zi];done)
theorem nM (c:Xg) (hs:c.Str):Pu prog 147 #[c.v] (fun _=>True) (.bool (claimR c)):=by
 refine aw func147 ntmps147 fun av bor w0=>?_
 have hid:=fV c.actor hs.actor
 repeat' (first|(refine ag (hc:=hid) ?_)|refine ag (hc:=gl _ _ _) ?_|refine ag (hc:=jW c.e c.s) ?_|refine gs ?_|refine gs1 fun _=>?_|(refine aC (vs:=[.int .i64 c.e,.int .i64 c.s]) (hv:=rfl) ?_)|(refine gp ?_ ?_<;>intro hx_ this)|fail)
 (all_goals (apply ab;apply ae;rfl;rfl));all_goals (simp only [claimR,isDigestB, *,Zt,Zr,Zf,Ze,Zh,Zg,Zk,Zj,Zn,Zl,Zs,Zm,Zq,Zi];done)
theorem rG (b:Xh) (hs:b.Str):Pu prog 148 #[b.v] (fun _=>True) (.bool (ballotR b)):=by
 refine aw func148 ntmps148 fun av bor w0=>?_
 have hid:=fV b.actor hs.actor
 repeat' (first|(refine ag (hc:=hid) ?_)|refine ag (hc:=gl _ _ _) ?_|refine ag (hc:=jW b.e b.s) ?_|refine gs ?_|refine gs1 fun _=>?_|(refine aC (vs:=[.int .i64 b.e,.int .i64 b.s]) (hv:=rfl) ?_)|(refine gp ?_ ?_<;>intro hx_ this)|fail)
 (all_goals (apply ab;apply ae;rfl;rfl));all_goals (simp only [ballotR,isDigestB, *,Zt,Zr,Zf,Ze,Zh,Zg,Zk,Zj,Zn,Zl,Zs,Zm,Zq,Zi];done)
def numsD (d:Xu):Bool:=withinB d.server 0 19&&(withinB d.number 0 1073741824&&(withinB d.kind 0 9&&(withinB d.from_ 0 1099511627776&&(withinB d.until_ 0 1099511627776&&decide (d.from_<d.until_)))))
def decF (d:Xu):Bool:=bif !numsD d||!sigB d.e d.s then false
 else bif kindO d.kind then seqB d.actor ⟨#[]⟩&&(isDigestB d.object&&(reasonD d&&plainD d))
 else bif decide (d.kind=8) then seqB d.actor ⟨#[]⟩&&(seqB d.object ⟨#[]⟩&&(reasonD d&&(isIds d.toL&&withinB d.n 1 (d.to.n:Nat))))
 else bif decide (d.kind=9) then seqB d.actor ⟨#[]⟩&&(seqB d.object ⟨#[]⟩&&(decide ((d.text.size:Int)≤4096)&&plainD d))
 else isId d.actor&&(seqB d.object ⟨#[]⟩&&(reasonD d&&plainD d))
theorem A8 {k:Int} (h:withinB k 0 9=true) (h1:kindO k=false) (h2:decide (k=8)=false) (h3:decide (k=9)=false):kindA k=true:=by
 simp only [withinB,kindO,kindA,Zp,Bool.or_eq_true,Ql,Zw,Qd] at *
 omega
theorem DA {k:Int} (h1:kindO k=true):withinB k 0 9=true∧kindA k=false:=by
 simp only [withinB,kindO,kindA,Zp,Bool.or_eq_true,Ql,Zw,Qd] at *
 omega
theorem DB {k:Int} (h1:kindA k=true):withinB k 0 9=true∧kindO k=false∧decide (k=8)=false∧decide (k=9)=false:=by
 simp only [withinB,kindO,kindA,Zp,Bool.or_eq_true,Ql,Zw,Qd] at *
 omega
theorem D8 (d:Xu):decF d=decR d:=by
 rw [decF,decR,numsD,termsB]
 cases hA:kindA d.kind with
 | true =>
  obtain ⟨h1,h2,h3,h4⟩:=DB hA
  rw [h1,h2,h3,h4]
  generalize withinB d.server 0 19=b1
  generalize withinB d.number 0 1073741824=b2
  generalize withinB d.from_ 0 1099511627776=b3
  generalize withinB d.until_ 0 1099511627776=b4
  generalize decide (d.from_<d.until_)=b5
  generalize sigB d.e d.s=b6
  simp only [Zf,Ze]
  generalize (isId d.actor&&(seqB d.object ⟨#[]⟩&&(reasonD d&&plainD d)))=b7
  cases b1<;>cases b2<;>cases b3<;>cases b4<;>cases b5<;>cases b6<;>cases b7<;>rfl
 | false =>
  cases hO:kindO d.kind with
  | true =>
   rw [(DA hO).1]
   generalize withinB d.server 0 19=b1
   generalize withinB d.number 0 1073741824=b2
   generalize withinB d.from_ 0 1099511627776=b3
   generalize withinB d.until_ 0 1099511627776=b4
   generalize decide (d.from_<d.until_)=b5
   generalize sigB d.e d.s=b6
   simp only [Zf,Ze]
   generalize (seqB d.actor ⟨#[]⟩&&(isDigestB d.object&&(reasonD d&&plainD d)))=b7
   cases b1<;>cases b2<;>cases b3<;>cases b4<;>cases b5<;>cases b6<;>cases b7<;>rfl
  | false =>
   cases h8:decide (d.kind=8) with
   | true =>
    have hw:withinB d.kind 0 9=true:=by rw [bz h8];rfl
    rw [hw]
    generalize withinB d.server 0 19=b1
    generalize withinB d.number 0 1073741824=b2
    generalize withinB d.from_ 0 1099511627776=b3
    generalize withinB d.until_ 0 1099511627776=b4
    generalize decide (d.from_<d.until_)=b5
    generalize sigB d.e d.s=b6
    simp only [Zf,Ze]
    generalize (seqB d.actor ⟨#[]⟩&&(seqB d.object ⟨#[]⟩&&(reasonD d&&(isIds d.toL&&withinB d.n 1 (d.to.n:Nat)))))=b7
    cases b1<;>cases b2<;>cases b3<;>cases b4<;>cases b5<;>cases b6<;>cases b7<;>rfl
   | false =>
    cases h9:decide (d.kind=9) with
    | true =>
     have hw:withinB d.kind 0 9=true:=by rw [bz h9];rfl
     rw [hw]
     generalize withinB d.server 0 19=b1
     generalize withinB d.number 0 1073741824=b2
     generalize withinB d.from_ 0 1099511627776=b3
     generalize withinB d.until_ 0 1099511627776=b4
     generalize decide (d.from_<d.until_)=b5
     generalize sigB d.e d.s=b6
     simp only [Zf,Ze]
     generalize (seqB d.actor ⟨#[]⟩&&(seqB d.object ⟨#[]⟩&&(decide ((d.text.size:Int)≤4096)&&plainD d)))=b7
     cases b1<;>cases b2<;>cases b3<;>cases b4<;>cases b5<;>cases b6<;>cases b7<;>rfl
    | false =>
     cases hw:withinB d.kind 0 9 with
     | true=>rw [A8 hw hO h8 h9] at hA;cases hA
     | false=>simp
theorem nL (d:Xu) (hs:d.Str):Pu prog 149 #[d.v] (fun w=>d.at_ w) (.bool (decR d)):=by
 refine aw func149 ntmps149 fun av bor w0=>?_
 rw [←D8]
 have hid:=fV d.actor hs.actor
 have hids:=jZ d.to d.toL hs.to
 repeat' (first|(refine ag (hc:=hid) ?_)|(refine ag (hc:=hids) ?_)|refine ag (hc:=gl _ _ _) ?_|refine ag (hc:=jW d.e d.s) ?_|refine gs ?_|refine gs1 fun _=>?_|(refine aC (vs:=[.int .i64 d.e,.int .i64 d.s]) (hv:=rfl) ?_)|(refine gp ?_ ?_<;>intro hx_ this)|fail)
 all_goals (apply ab;apply ae;rfl;rfl)
 all_goals first
  | rfl
  | (simp_all [decF,numsD,plainD,reasonD,kindO,isDigestB];done)
  | (simp_all [decF,numsD,plainD,reasonD,kindO,isDigestB];intros;omega)
end Go.Proofs.YtaolfiikahlmkaaGreatDoor
