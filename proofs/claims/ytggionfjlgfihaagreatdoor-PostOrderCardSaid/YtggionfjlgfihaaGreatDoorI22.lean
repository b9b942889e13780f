/- Joined. -/
import Derived.Test.YtggionfjlgfihaaGreatDoorI0
import Derived.Test.YtggionfjlgfihaaGreatDoorI14
import Derived.Test.YtggionfjlgfihaaGreatDoorI4
set_option linter.unusedVariables false
set_option linter.unusedSimpArgs false
set_option maxHeartbeats 16000000
namespace Go.Proofs.YtggionfjlgfihaaGreatDoor
open Go Go.Proofs Sy
theorem dF (n l h:Int):Pu Tryz.prog 110 #[.int .i64 n,.int .i64 l,.int .i64 h] (fun _=>True) (.bool (withinB n l h)):=by
 refine ar Tryz.func110 Tryz.ntmps110 fun av bor w0=>?_
 repeat' (first|refine gs ?_|(refine gp ?_ ?_<;>intro hx_ this)|fail)
 (all_goals (apply ab;apply ai;rfl;rfl));all_goals first|rfl|(simp only [withinB, *,decide_true,decide_false,cond_true,cond_false,Bool.and_true,Bool.true_and,Bool.and_false,Bool.false_and,Bool.not_true,Bool.not_false,Bool.or_true,Bool.true_or,Bool.or_false,Bool.false_or];done)|(simp_all [withinB];done)
theorem fQ (n:Int):Pu Tryz.prog 112 #[.int .i64 n] (fun _=>True) (.bool (withinB n 0 19)):=by
 refine ar Tryz.func112 Tryz.ntmps112 fun av bor w0=>?_
 repeat' (first|refine ag (hc:=dF _ _ _) ?_|refine gs ?_|(refine gp ?_ ?_<;>intro hx_ this)|fail)
 all_goals exact ab (ai rfl rfl) rfl
theorem ii (n:Int):Pu Tryz.prog 113 #[.int .i64 n] (fun _=>True) (.bool (withinB n 0 1099511627776)):=by
 refine ar Tryz.func113 Tryz.ntmps113 fun av bor w0=>?_
 repeat' (first|refine ag (hc:=dF _ _ _) ?_|refine gs ?_|(refine gp ?_ ?_<;>intro hx_ this)|fail)
 all_goals exact ab (ai rfl rfl) rfl
theorem fR (s:ByteArray):Pu Tryz.prog 111 #[.string s] (fun _=>True) (.bool (isDigestB s)):=by
 refine ar Tryz.func111 Tryz.ntmps111 fun av bor w0=>?_
 repeat' (first|refine gs ?_|(refine gp ?_ ?_<;>intro hx_ this)|fail)
 all_goals exact ab (ai rfl rfl) rfl
def sigB (e s:Int):Bool:=withinB e 0 2305843009213693949&&withinB s 0 2305843009213693949
theorem gk (e s:Int):Pu Tryz.prog 114 #[.agg #[.int .i64 e,.int .i64 s]] (fun _=>True) (.bool (sigB e s)):=by
 refine ar Tryz.func114 Tryz.ntmps114 fun av bor w0=>?_
 repeat' (first|refine ag (hc:=dF _ _ _) ?_|refine gs ?_|refine gs1 fun _=>?_|(refine gp ?_ ?_<;>intro hx_ this)|fail)
 (all_goals (apply ab;apply ai;rfl;rfl));all_goals first|rfl|(simp only [sigB, *,decide_true,decide_false,cond_true,cond_false,Bool.and_true,Bool.true_and,Bool.and_false,Bool.false_and,Bool.not_true,Bool.not_false,Bool.or_true,Bool.true_or,Bool.or_false,Bool.false_or];done)|(simp_all [sigB];done)
def claimR (c:Xg):Bool:=isId c.actor&&(withinB c.base 1 1073741824&&(isDigestB c.prev&&(withinB c.gen 0 1073741824&&(withinB c.home 0 19&&(withinB c.pub 1 2305843009213693950&&(withinB c.time 0 1099511627776&&sigB c.e c.s))))))
theorem lZ (c:Xg):Pu Tryz.prog 58 #[c.v] (fun _=>True) (.bool (claimR c)):=by
 refine ar Tryz.func58 Tryz.ntmps58 fun av bor w0=>?_
 repeat' (first|refine ag (hc:=eN _) ?_|refine ag (hc:=dF _ _ _) ?_|refine ag (hc:=fR _) ?_|refine ag (hc:=fQ _) ?_|refine ag (hc:=ii _) ?_|refine ag (hc:=gk c.e c.s) ?_|refine gs ?_|refine gs1 fun _=>?_|(refine aB (vs:=[.int .i64 c.e,.int .i64 c.s]) (hv:=rfl) ?_)|(refine gp ?_ ?_<;>intro hx_ this)|fail)
 (all_goals (apply ab;apply ai;rfl;rfl));all_goals first|rfl|(simp only [claimR, *,decide_true,decide_false,cond_true,cond_false,Bool.and_true,Bool.true_and,Bool.and_false,Bool.false_and,Bool.not_true,Bool.not_false,Bool.or_true,Bool.true_or,Bool.or_false,Bool.false_or];done)|(simp_all [claimR];done)
def ballotR (b:Xi):Bool:=withinB b.server 0 19&&(isId b.actor&&(withinB b.gen 0 1073741824&&(isDigestB b.claim&&(withinB b.time 0 1099511627776&&sigB b.e b.s))))
theorem kU (b:Xi):Pu Tryz.prog 59 #[b.v] (fun _=>True) (.bool (ballotR b)):=by
 refine ar Tryz.func59 Tryz.ntmps59 fun av bor w0=>?_
 repeat' (first|refine ag (hc:=eN _) ?_|refine ag (hc:=dF _ _ _) ?_|refine ag (hc:=fR _) ?_|refine ag (hc:=fQ _) ?_|refine ag (hc:=ii _) ?_|refine ag (hc:=gk b.e b.s) ?_|refine gs ?_|refine gs1 fun _=>?_|(refine aB (vs:=[.int .i64 b.e,.int .i64 b.s]) (hv:=rfl) ?_)|(refine gp ?_ ?_<;>intro hx_ this)|fail)
 (all_goals (apply ab;apply ai;rfl;rfl));all_goals first|rfl|(simp only [ballotR, *,decide_true,decide_false,cond_true,cond_false,Bool.and_true,Bool.true_and,Bool.and_false,Bool.false_and,Bool.not_true,Bool.not_false,Bool.or_true,Bool.true_or,Bool.or_false,Bool.false_or];done)|(simp_all [ballotR];done)
def plainD (d:Xr):Bool:=decide ((d.to.n:Int)=0)&&decide (d.n=0)
def reasonD (d:Xr):Bool:=decide ((d.text.size:Int)≤500)
def kindA (k:Int):Bool:=decide (k=0)||(decide (k=1)||(decide (k=4)||(decide (k=6)||decide (k=7))))
def kindO (k:Int):Bool:=decide (k=2)||(decide (k=3)||decide (k=5))
def termsB (d:Xr):Bool :=
 bif kindA d.kind then isId d.actor&&(seqB d.object ⟨#[]⟩&&(reasonD d&&plainD d))
 else bif kindO d.kind then seqB d.actor ⟨#[]⟩&&(isDigestB d.object&&(reasonD d&&plainD d))
 else bif decide (d.kind=8) then seqB d.actor ⟨#[]⟩&&(seqB d.object ⟨#[]⟩&&(reasonD d&&(isIds d.toL&&withinB d.n 1 (d.to.n:Nat))))
 else bif decide (d.kind=9) then seqB d.actor ⟨#[]⟩&&(seqB d.object ⟨#[]⟩&&(decide ((d.text.size:Int)≤4096)&&plainD d))
 else false
theorem lY (d:Xr):Pu Tryz.prog 115 #[d.v] (fun w=>d.at_ w) (.bool (termsB d)):=by
 refine ar Tryz.func115 Tryz.ntmps115 fun av bor w0=>?_
 have hids:=lr d.to d.toL
 repeat' (first|refine ag (hc:=eN _) ?_|refine ag (hc:=dF _ _ _) ?_|refine ag (hc:=fR _) ?_|(refine ag (hc:=hids) ?_)|refine gs ?_|refine gs1 fun _=>?_|(refine gp ?_ ?_<;>intro hx_ this)|fail)
 all_goals (apply ab;apply ai;rfl;rfl)
 all_goals first
  | rfl
  | (simp_all [termsB,plainD,reasonD,kindA,kindO];done)
  | (simp_all [termsB,plainD,reasonD,kindA,kindO];intros;omega)
def decR (d:Xr):Bool:=withinB d.server 0 19&&(withinB d.number 0 1073741824&&(withinB d.from_ 0 1099511627776&&(withinB d.until_ 0 1099511627776&&(decide (d.from_<d.until_)&&(termsB d&&sigB d.e d.s)))))
theorem jg (d:Xr):Pu Tryz.prog 60 #[d.v] (fun w=>d.at_ w) (.bool (decR d)):=by
 refine ar Tryz.func60 Tryz.ntmps60 fun av bor w0=>?_
 have hte:=lY d
 repeat' (first|refine ag (hc:=dF _ _ _) ?_|refine ag (hc:=fQ _) ?_|refine ag (hc:=ii _) ?_|(refine ag (hc:=hte) ?_)|refine ag (hc:=gk d.e d.s) ?_|refine gs ?_|refine gs1 fun _=>?_|(refine aB (vs:=d.cells) (hv:=rfl) ?_)|(refine aB (vs:=[.int .i64 d.e,.int .i64 d.s]) (hv:=rfl) ?_)|(refine gp ?_ ?_<;>intro hx_ this)|fail)
 (all_goals (apply ab;apply ai;rfl;rfl));all_goals first|rfl|(simp only [decR, *,decide_true,decide_false,cond_true,cond_false,Bool.and_true,Bool.true_and,Bool.and_false,Bool.false_and,Bool.not_true,Bool.not_false,Bool.or_true,Bool.true_or,Bool.or_false,Bool.false_or];done)|(simp_all [decR];done)
end Go.Proofs.YtggionfjlgfihaaGreatDoor
