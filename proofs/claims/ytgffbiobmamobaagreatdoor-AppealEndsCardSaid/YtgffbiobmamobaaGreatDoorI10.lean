/- Joined. -/
import Derived.Test.YtgffbiobmamobaaGreatDoorI0
import Derived.Test.YtgffbiobmamobaaGreatDoorI9
import Derived.Test.YtgffbiobmamobaaGreatDoorI5
set_option linter.unusedVariables false
set_option linter.unusedSimpArgs false
set_option maxHeartbeats 16000000
namespace Go.Proofs.YtgffbiobmamobaaGreatDoor
open Go Go.Proofs Sy
theorem dJ (n l h:Int):Pu Tryz.prog 99 #[.int .i64 n,.int .i64 l,.int .i64 h] (fun _=>True) (.bool (withinB n l h)):=by
 refine aq Tryz.func99 Tryz.ntmps99 fun av bor w0=>?_
 repeat' (first|refine gs ?_|(refine gp ?_ ?_<;>intro hx_ this)|fail)
 (all_goals (apply ae;apply aj;rfl;rfl));all_goals first|rfl|(simp only [withinB, *,decide_true,decide_false,cond_true,cond_false,Bool.and_true,Bool.true_and,Bool.and_false,Bool.false_and,Bool.not_true,Bool.not_false,Bool.or_true,Bool.true_or,Bool.or_false,Bool.false_or];done)|(simp_all [withinB];done)
theorem fZ (n:Int):Pu Tryz.prog 101 #[.int .i64 n] (fun _=>True) (.bool (withinB n 0 19)):=by
 refine aq Tryz.func101 Tryz.ntmps101 fun av bor w0=>?_
 repeat' (first|refine ag (hc:=dJ _ _ _) ?_|refine gs ?_|(refine gp ?_ ?_<;>intro hx_ this)|fail)
 all_goals exact ae (aj rfl rfl) rfl
theorem g0 (n:Int):Pu Tryz.prog 102 #[.int .i64 n] (fun _=>True) (.bool (withinB n 0 1099511627776)):=by
 refine aq Tryz.func102 Tryz.ntmps102 fun av bor w0=>?_
 repeat' (first|refine ag (hc:=dJ _ _ _) ?_|refine gs ?_|(refine gp ?_ ?_<;>intro hx_ this)|fail)
 all_goals exact ae (aj rfl rfl) rfl
theorem f0 (s:ByteArray):Pu Tryz.prog 100 #[.string s] (fun _=>True) (.bool (isDigestB s)):=by
 refine aq Tryz.func100 Tryz.ntmps100 fun av bor w0=>?_
 repeat' (first|refine gs ?_|(refine gp ?_ ?_<;>intro hx_ this)|fail)
 all_goals exact ae (aj rfl rfl) rfl
def sigB (e s:Int):Bool:=withinB e 0 2305843009213693949&&withinB s 0 2305843009213693949
theorem gm (e s:Int):Pu Tryz.prog 103 #[.agg #[.int .i64 e,.int .i64 s]] (fun _=>True) (.bool (sigB e s)):=by
 refine aq Tryz.func103 Tryz.ntmps103 fun av bor w0=>?_
 repeat' (first|refine ag (hc:=dJ _ _ _) ?_|refine gs ?_|refine gs1 fun _=>?_|(refine gp ?_ ?_<;>intro hx_ this)|fail)
 (all_goals (apply ae;apply aj;rfl;rfl));all_goals first|rfl|(simp only [sigB, *,decide_true,decide_false,cond_true,cond_false,Bool.and_true,Bool.true_and,Bool.and_false,Bool.false_and,Bool.not_true,Bool.not_false,Bool.or_true,Bool.true_or,Bool.or_false,Bool.false_or];done)|(simp_all [sigB];done)
def claimR (c:Xm):Bool:=isId c.actor&&(withinB c.base 1 1073741824&&(isDigestB c.prev&&(withinB c.gen 0 1073741824&&(withinB c.home 0 19&&(withinB c.pub 1 2305843009213693950&&(withinB c.time 0 1099511627776&&sigB c.e c.s))))))
theorem lC (c:Xm):Pu Tryz.prog 58 #[c.v] (fun _=>True) (.bool (claimR c)):=by
 refine aq Tryz.func58 Tryz.ntmps58 fun av bor w0=>?_
 repeat' (first|refine ag (hc:=eV _) ?_|refine ag (hc:=dJ _ _ _) ?_|refine ag (hc:=f0 _) ?_|refine ag (hc:=fZ _) ?_|refine ag (hc:=g0 _) ?_|refine ag (hc:=gm c.e c.s) ?_|refine gs ?_|refine gs1 fun _=>?_|(refine aE (vs:=[.int .i64 c.e,.int .i64 c.s]) (hv:=rfl) ?_)|(refine gp ?_ ?_<;>intro hx_ this)|fail)
 (all_goals (apply ae;apply aj;rfl;rfl));all_goals first|rfl|(simp only [claimR, *,decide_true,decide_false,cond_true,cond_false,Bool.and_true,Bool.true_and,Bool.and_false,Bool.false_and,Bool.not_true,Bool.not_false,Bool.or_true,Bool.true_or,Bool.or_false,Bool.false_or];done)|(simp_all [claimR];done)
def ballotR (b:Xj):Bool:=withinB b.server 0 19&&(isId b.actor&&(withinB b.gen 0 1073741824&&(isDigestB b.claim&&(withinB b.time 0 1099511627776&&sigB b.e b.s))))
theorem kE (b:Xj):Pu Tryz.prog 59 #[b.v] (fun _=>True) (.bool (ballotR b)):=by
 refine aq Tryz.func59 Tryz.ntmps59 fun av bor w0=>?_
 repeat' (first|refine ag (hc:=eV _) ?_|refine ag (hc:=dJ _ _ _) ?_|refine ag (hc:=f0 _) ?_|refine ag (hc:=fZ _) ?_|refine ag (hc:=g0 _) ?_|refine ag (hc:=gm b.e b.s) ?_|refine gs ?_|refine gs1 fun _=>?_|(refine aE (vs:=[.int .i64 b.e,.int .i64 b.s]) (hv:=rfl) ?_)|(refine gp ?_ ?_<;>intro hx_ this)|fail)
 (all_goals (apply ae;apply aj;rfl;rfl));all_goals first|rfl|(simp only [ballotR, *,decide_true,decide_false,cond_true,cond_false,Bool.and_true,Bool.true_and,Bool.and_false,Bool.false_and,Bool.not_true,Bool.not_false,Bool.or_true,Bool.true_or,Bool.or_false,Bool.false_or];done)|(simp_all [ballotR];done)
def plainD (d:Xf):Bool:=decide ((d.to.n:Int)=0)&&decide (d.n=0)
def reasonD (d:Xf):Bool:=decide ((d.text.size:Int)≤500)
def kindA (k:Int):Bool:=decide (k=0)||(decide (k=1)||(decide (k=4)||(decide (k=6)||decide (k=7))))
def kindO (k:Int):Bool:=decide (k=2)||(decide (k=3)||decide (k=5))
def termsB (d:Xf):Bool :=
 bif kindA d.kind then isId d.actor&&(seqB d.object ⟨#[]⟩&&(reasonD d&&plainD d))
 else bif kindO d.kind then seqB d.actor ⟨#[]⟩&&(isDigestB d.object&&(reasonD d&&plainD d))
 else bif decide (d.kind=8) then seqB d.actor ⟨#[]⟩&&(seqB d.object ⟨#[]⟩&&(reasonD d&&(isIds d.toL&&withinB d.n 1 (d.to.n:Nat))))
 else bif decide (d.kind=9) then seqB d.actor ⟨#[]⟩&&(seqB d.object ⟨#[]⟩&&(decide ((d.text.size:Int)≤4096)&&plainD d))
 else false
theorem lB (d:Xf):Pu Tryz.prog 104 #[d.v] (fun w=>d.at_ w) (.bool (termsB d)):=by
 refine aq Tryz.func104 Tryz.ntmps104 fun av bor w0=>?_
 have hids:=kR d.to d.toL
 repeat' (first|refine ag (hc:=eV _) ?_|refine ag (hc:=dJ _ _ _) ?_|refine ag (hc:=f0 _) ?_|(refine ag (hc:=hids) ?_)|refine gs ?_|refine gs1 fun _=>?_|(refine gp ?_ ?_<;>intro hx_ this)|fail)
 all_goals (apply ae;apply aj;rfl;rfl)
 all_goals first
  | rfl
  | (simp_all [termsB,plainD,reasonD,kindA,kindO];done)
  | (simp_all [termsB,plainD,reasonD,kindA,kindO];intros;omega)
def decR (d:Xf):Bool:=withinB d.server 0 19&&(withinB d.number 0 1073741824&&(withinB d.from_ 0 1099511627776&&(withinB d.until_ 0 1099511627776&&(decide (d.from_<d.until_)&&(termsB d&&sigB d.e d.s)))))
theorem iW (d:Xf):Pu Tryz.prog 60 #[d.v] (fun w=>d.at_ w) (.bool (decR d)):=by
 refine aq Tryz.func60 Tryz.ntmps60 fun av bor w0=>?_
 have hte:=lB d
 repeat' (first|refine ag (hc:=dJ _ _ _) ?_|refine ag (hc:=fZ _) ?_|refine ag (hc:=g0 _) ?_|(refine ag (hc:=hte) ?_)|refine ag (hc:=gm d.e d.s) ?_|refine gs ?_|refine gs1 fun _=>?_|(refine aE (vs:=d.cells) (hv:=rfl) ?_)|(refine aE (vs:=[.int .i64 d.e,.int .i64 d.s]) (hv:=rfl) ?_)|(refine gp ?_ ?_<;>intro hx_ this)|fail)
 (all_goals (apply ae;apply aj;rfl;rfl));all_goals first|rfl|(simp only [decR, *,decide_true,decide_false,cond_true,cond_false,Bool.and_true,Bool.true_and,Bool.and_false,Bool.false_and,Bool.not_true,Bool.not_false,Bool.or_true,Bool.true_or,Bool.or_false,Bool.false_or];done)|(simp_all [decR];done)
end Go.Proofs.YtgffbiobmamobaaGreatDoor
