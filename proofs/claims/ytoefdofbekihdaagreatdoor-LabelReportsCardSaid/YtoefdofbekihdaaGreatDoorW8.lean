/- Joined by program out of: Zb. -/
import Derived.Test.YtoefdofbekihdaaGreatDoorW7
set_option linter.unusedVariables false
set_option linter.unusedSimpArgs false
set_option maxHeartbeats 16000000
namespace Go.Proofs.YtoefdofbekihdaaGreatDoor
open Go Go.Proofs Sy
theorem ef (n l h:Int):Pu Tryz.prog 178 #[.int .i64 n,.int .i64 l,.int .i64 h] (fun _=>True) (.bool (withinB n l h)):=by
 refine ak (args:=[_,_,_]) _ Tryz.func178 rfl Tryz.ntmps178 rfl fun av bor w0=>?_
 repeat' (first|refine gs ?_|(refine gp ?_ ?_<;>intro hx_ this)|fail)
 (all_goals (apply ad;apply ag;rfl;rfl));all_goals first|rfl|(simp only [withinB, *,ZQ,ZO,ZC,ZB,ZE,ZD,ZH,ZG,ZK,ZI,ZP,ZJ,ZN,ZF];done)|(simp_all [withinB];done)
theorem gw (n:Int):Pu Tryz.prog 180 #[.int .i64 n] (fun _=>True) (.bool (withinB n 0 19)):=by
 refine ak (args:=[_]) _ Tryz.func180 rfl Tryz.ntmps180 rfl fun av bor w0=>?_
 repeat' (first|refine ab (hc:=ef _ _ _) ?_|refine gs ?_|(refine gp ?_ ?_<;>intro hx_ this)|fail)
 all_goals exact ad (ag rfl rfl) rfl
theorem iA (n:Int):Pu Tryz.prog 181 #[.int .i64 n] (fun _=>True) (.bool (withinB n 0 1099511627776)):=by
 refine ak (args:=[_]) _ Tryz.func181 rfl Tryz.ntmps181 rfl fun av bor w0=>?_
 repeat' (first|refine ab (hc:=ef _ _ _) ?_|refine gs ?_|(refine gp ?_ ?_<;>intro hx_ this)|fail)
 all_goals exact ad (ag rfl rfl) rfl
theorem gx (s:ByteArray):Pu Tryz.prog 179 #[.string s] (fun _=>True) (.bool (isDigestB s)):=by
 refine ak (args:=[_]) _ Tryz.func179 rfl Tryz.ntmps179 rfl fun av bor w0=>?_
 repeat' (first|refine gs ?_|(refine gp ?_ ?_<;>intro hx_ this)|fail)
 all_goals exact ad (ag rfl rfl) rfl
def sigB (e s:Int):Bool:=withinB e 0 2305843009213693949&&withinB s 0 2305843009213693949
theorem gK (e s:Int):Pu Tryz.prog 182 #[.agg #[.int .i64 e,.int .i64 s]] (fun _=>True) (.bool (sigB e s)):=by
 refine ak (args:=[_]) _ Tryz.func182 rfl Tryz.ntmps182 rfl fun av bor w0=>?_
 repeat' (first|refine ab (hc:=ef _ _ _) ?_|refine gs ?_|refine gs1 fun _=>?_|(refine gp ?_ ?_<;>intro hx_ this)|fail)
 (all_goals (apply ad;apply ag;rfl;rfl));all_goals first|rfl|(simp only [sigB, *,ZQ,ZO,ZC,ZB,ZE,ZD,ZH,ZG,ZK,ZI,ZP,ZJ,ZN,ZF];done)|(simp_all [sigB];done)
def claimR (c:ClaimD):Bool:=isId c.actor&&(withinB c.base 1 1073741824&&(isDigestB c.prev&&(withinB c.gen 0 1073741824&&(withinB c.home 0 19&&(withinB c.pub 1 2305843009213693950&&(withinB c.time 0 1099511627776&&sigB c.e c.s))))))
set_option maxHeartbeats 4000000 in
theorem m9 (c:ClaimD):Pu Tryz.prog 120 #[c.v] (fun _=>True) (.bool (claimR c)):=by
 refine ak (args:=[_]) _ Tryz.func120 rfl Tryz.ntmps120 rfl fun av bor w0=>?_
 repeat' (first|refine ab (hc:=fA _) ?_|refine ab (hc:=ef _ _ _) ?_|refine ab (hc:=gx _) ?_|refine ab (hc:=gw _) ?_|refine ab (hc:=iA _) ?_|refine ab (hc:=gK c.e c.s) ?_|refine gs ?_|refine gs1 fun _=>?_|(refine aw (vs:=[.int .i64 c.e,.int .i64 c.s]) (hv:=rfl) ?_)|(refine gp ?_ ?_<;>intro hx_ this)|fail)
 (all_goals (apply ad;apply ag;rfl;rfl));all_goals first|rfl|(simp only [claimR, *,ZQ,ZO,ZC,ZB,ZE,ZD,ZH,ZG,ZK,ZI,ZP,ZJ,ZN,ZF];done)|(simp_all [claimR];done)
def ballotR (b:BallotD):Bool:=withinB b.server 0 19&&(isId b.actor&&(withinB b.gen 0 1073741824&&(isDigestB b.claim&&(withinB b.time 0 1099511627776&&sigB b.e b.s))))
set_option maxHeartbeats 4000000 in
theorem mc (b:BallotD):Pu Tryz.prog 121 #[b.v] (fun _=>True) (.bool (ballotR b)):=by
 refine ak (args:=[_]) _ Tryz.func121 rfl Tryz.ntmps121 rfl fun av bor w0=>?_
 repeat' (first|refine ab (hc:=fA _) ?_|refine ab (hc:=ef _ _ _) ?_|refine ab (hc:=gx _) ?_|refine ab (hc:=gw _) ?_|refine ab (hc:=iA _) ?_|refine ab (hc:=gK b.e b.s) ?_|refine gs ?_|refine gs1 fun _=>?_|(refine aw (vs:=[.int .i64 b.e,.int .i64 b.s]) (hv:=rfl) ?_)|(refine gp ?_ ?_<;>intro hx_ this)|fail)
 (all_goals (apply ad;apply ag;rfl;rfl));all_goals first|rfl|(simp only [ballotR, *,ZQ,ZO,ZC,ZB,ZE,ZD,ZH,ZG,ZK,ZI,ZP,ZJ,ZN,ZF];done)|(simp_all [ballotR];done)
def plainD (d:DecD):Bool:=decide ((d.to.n:Int)=0)&&decide (d.n=0)
def reasonD (d:DecD):Bool:=decide ((d.text.size:Int)≤500)
def kindA (k:Int):Bool:=decide (k=0)||(decide (k=1)||(decide (k=4)||(decide (k=6)||decide (k=7))))
def kindO (k:Int):Bool:=decide (k=2)||(decide (k=3)||decide (k=5))
def termsB (d:DecD):Bool :=
 bif kindA d.kind then isId d.actor&&(seqB d.object ⟨#[]⟩&&(reasonD d&&plainD d))
 else bif kindO d.kind then seqB d.actor ⟨#[]⟩&&(isDigestB d.object&&(reasonD d&&plainD d))
 else bif decide (d.kind=8) then seqB d.actor ⟨#[]⟩&&(seqB d.object ⟨#[]⟩&&(reasonD d&&(isIds d.toL&&withinB d.n 1 (d.to.n:Nat))))
 else bif decide (d.kind=9) then seqB d.actor ⟨#[]⟩&&(seqB d.object ⟨#[]⟩&&(decide ((d.text.size:Int)≤4096)&&plainD d))
 else false
set_option maxHeartbeats 16000000 in
theorem m8 (d:DecD):Pu Tryz.prog 183 #[d.v] (fun w=>d.at_ w) (.bool (termsB d)):=by
 refine ak (args:=[_]) _ Tryz.func183 rfl Tryz.ntmps183 rfl fun av bor w0=>?_
 have hids:=mC d.to d.toL
 repeat' (first|refine ab (hc:=fA _) ?_|refine ab (hc:=ef _ _ _) ?_|refine ab (hc:=gx _) ?_|(refine ab (hc:=hids) (hX:=fun w h=>h) ?_)|refine gs ?_|refine gs1 fun _=>?_|(refine gp ?_ ?_<;>intro hx_ this)|fail)
 all_goals (apply ad;apply ag;rfl;rfl)
 all_goals first
  | rfl
  | (simp_all [termsB,plainD,reasonD,kindA,kindO];done)
  | (simp_all [termsB,plainD,reasonD,kindA,kindO];intros;omega)
def decR (d:DecD):Bool:=withinB d.server 0 19&&(withinB d.number 0 1073741824&&(withinB d.from_ 0 1099511627776&&(withinB d.until_ 0 1099511627776&&(decide (d.from_<d.until_)&&(termsB d&&sigB d.e d.s)))))
set_option maxHeartbeats 4000000 in
theorem jJ (d:DecD):Pu Tryz.prog 122 #[d.v] (fun w=>d.at_ w) (.bool (decR d)):=by
 refine ak (args:=[_]) _ Tryz.func122 rfl Tryz.ntmps122 rfl fun av bor w0=>?_
 have hte:=m8 d
 repeat' (first|refine ab (hc:=ef _ _ _) ?_|refine ab (hc:=gw _) ?_|refine ab (hc:=iA _) ?_|(refine ab (hc:=hte) (hX:=fun w h=>h) ?_)|refine ab (hc:=gK d.e d.s) ?_|refine gs ?_|refine gs1 fun _=>?_|(refine aw (vs:=d.cells) (hv:=rfl) ?_)|(refine aw (vs:=[.int .i64 d.e,.int .i64 d.s]) (hv:=rfl) ?_)|(refine gp ?_ ?_<;>intro hx_ this)|fail)
 (all_goals (apply ad;apply ag;rfl;rfl));all_goals first|rfl|(simp only [decR, *,ZQ,ZO,ZC,ZB,ZE,ZD,ZH,ZG,ZK,ZI,ZP,ZJ,ZN,ZF];done)|(simp_all [decR];done)
end Go.Proofs.YtoefdofbekihdaaGreatDoor
