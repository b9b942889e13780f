/- Joined. -/
import Derived.Test.YtaolfiikahlmkaaGreatDoorZ8
set_option linter.unusedVariables false
set_option linter.unusedSimpArgs false
set_option maxHeartbeats 16000000
namespace Go.Proofs.YtaolfiikahlmkaaGreatDoor
open Go Go.Proofs Sy
theorem ew (n l h:Int):Pu Tryz.prog 194 #[.int .i64 n,.int .i64 l,.int .i64 h] (fun _=>True) (.bool (withinB n l h)):=by
 refine ak (args:=[_,_,_]) _ Tryz.func194 rfl Tryz.ntmps194 rfl fun av bor w0=>?_
 repeat' (first|refine gs ?_|(refine gp ?_ ?_<;>intro hx_ this)|fail)
 (all_goals (apply ad;apply ag;rfl;rfl));all_goals first|rfl|(simp only [withinB, *,Zt,Zr,Zf,Ze,Zh,Zg,Zk,Zj,Zn,Zl,Zs,Zm,Zq,Zi];done)|(simp_all [withinB];done)
theorem gU (n:Int):Pu Tryz.prog 196 #[.int .i64 n] (fun _=>True) (.bool (withinB n 0 19)):=by
 refine ak (args:=[_]) _ Tryz.func196 rfl Tryz.ntmps196 rfl fun av bor w0=>?_
 repeat' (first|refine ab (hc:=ew _ _ _) ?_|refine gs ?_|(refine gp ?_ ?_<;>intro hx_ this)|fail)
 all_goals exact ad (ag rfl rfl) rfl
theorem js (n:Int):Pu Tryz.prog 197 #[.int .i64 n] (fun _=>True) (.bool (withinB n 0 1099511627776)):=by
 refine ak (args:=[_]) _ Tryz.func197 rfl Tryz.ntmps197 rfl fun av bor w0=>?_
 repeat' (first|refine ab (hc:=ew _ _ _) ?_|refine gs ?_|(refine gp ?_ ?_<;>intro hx_ this)|fail)
 all_goals exact ad (ag rfl rfl) rfl
theorem gV (s:ByteArray):Pu Tryz.prog 195 #[.string s] (fun _=>True) (.bool (isDigestB s)):=by
 refine ak (args:=[_]) _ Tryz.func195 rfl Tryz.ntmps195 rfl fun av bor w0=>?_
 repeat' (first|refine gs ?_|(refine gp ?_ ?_<;>intro hx_ this)|fail)
 all_goals exact ad (ag rfl rfl) rfl
def sigB (e s:Int):Bool:=withinB e 0 2305843009213693949&&withinB s 0 2305843009213693949
theorem ip (e s:Int):Pu Tryz.prog 198 #[.agg #[.int .i64 e,.int .i64 s]] (fun _=>True) (.bool (sigB e s)):=by
 refine ak (args:=[_]) _ Tryz.func198 rfl Tryz.ntmps198 rfl fun av bor w0=>?_
 repeat' (first|refine ab (hc:=ew _ _ _) ?_|refine gs ?_|refine gs1 fun _=>?_|(refine gp ?_ ?_<;>intro hx_ this)|fail)
 (all_goals (apply ad;apply ag;rfl;rfl));all_goals first|rfl|(simp only [sigB, *,Zt,Zr,Zf,Ze,Zh,Zg,Zk,Zj,Zn,Zl,Zs,Zm,Zq,Zi];done)|(simp_all [sigB];done)
def claimR (c:ClaimD):Bool:=isId c.actor&&(withinB c.base 1 1073741824&&(isDigestB c.prev&&(withinB c.gen 0 1073741824&&(withinB c.home 0 19&&(withinB c.pub 1 2305843009213693950&&(withinB c.time 0 1099511627776&&sigB c.e c.s))))))
theorem oJ (c:ClaimD):Pu Tryz.prog 122 #[c.v] (fun _=>True) (.bool (claimR c)):=by
 refine ak (args:=[_]) _ Tryz.func122 rfl Tryz.ntmps122 rfl fun av bor w0=>?_
 repeat' (first|refine ab (hc:=fL _) ?_|refine ab (hc:=ew _ _ _) ?_|refine ab (hc:=gV _) ?_|refine ab (hc:=gU _) ?_|refine ab (hc:=js _) ?_|refine ab (hc:=ip c.e c.s) ?_|refine gs ?_|refine gs1 fun _=>?_|(refine aw (vs:=[.int .i64 c.e,.int .i64 c.s]) (hv:=rfl) ?_)|(refine gp ?_ ?_<;>intro hx_ this)|fail)
 (all_goals (apply ad;apply ag;rfl;rfl));all_goals first|rfl|(simp only [claimR, *,Zt,Zr,Zf,Ze,Zh,Zg,Zk,Zj,Zn,Zl,Zs,Zm,Zq,Zi];done)|(simp_all [claimR];done)
def ballotR (b:BallotD):Bool:=withinB b.server 0 19&&(isId b.actor&&(withinB b.gen 0 1073741824&&(isDigestB b.claim&&(withinB b.time 0 1099511627776&&sigB b.e b.s))))
theorem nA (b:BallotD):Pu Tryz.prog 123 #[b.v] (fun _=>True) (.bool (ballotR b)):=by
 refine ak (args:=[_]) _ Tryz.func123 rfl Tryz.ntmps123 rfl fun av bor w0=>?_
 repeat' (first|refine ab (hc:=fL _) ?_|refine ab (hc:=ew _ _ _) ?_|refine ab (hc:=gV _) ?_|refine ab (hc:=gU _) ?_|refine ab (hc:=js _) ?_|refine ab (hc:=ip b.e b.s) ?_|refine gs ?_|refine gs1 fun _=>?_|(refine aw (vs:=[.int .i64 b.e,.int .i64 b.s]) (hv:=rfl) ?_)|(refine gp ?_ ?_<;>intro hx_ this)|fail)
 (all_goals (apply ad;apply ag;rfl;rfl));all_goals first|rfl|(simp only [ballotR, *,Zt,Zr,Zf,Ze,Zh,Zg,Zk,Zj,Zn,Zl,Zs,Zm,Zq,Zi];done)|(simp_all [ballotR];done)
def plainD (d:DecD):Bool:=decide ((d.to.n:Int)=0)&&decide (d.n=0)
def reasonD (d:DecD):Bool:=decide ((d.text.size:Int)≤500)
def kindA (k:Int):Bool:=decide (k=0)||(decide (k=1)||(decide (k=4)||(decide (k=6)||decide (k=7))))
def kindO (k:Int):Bool:=decide (k=2)||(decide (k=3)||decide (k=5))
def termsB (d:DecD):Bool :=
 bif kindA d.kind then isId d.actor&&(seqB d.object ⟨#[]⟩&&(reasonD d&&plainD d))
 else bif kindO d.kind then seqB d.actor ⟨#[]⟩&&(isDigestB d.object&&(reasonD d&&plainD d))
 else bif decide (d.kind=8) then seqB d.actor ⟨#[]⟩&&(seqB d.object ⟨#[]⟩&&(reasonD d&&(isIds d.toL&&withinB d.n 1 (d.to.n:Nat))))
 else bif decide (d.kind=9) then seqB d.actor ⟨#[]⟩&&(seqB d.object ⟨#[]⟩&&(decide ((d.text.size:Int)≤4096)&&plainD d))
 else false
theorem oI (d:DecD):Pu Tryz.prog 199 #[d.v] (fun w=>d.at_ w) (.bool (termsB d)):=by
 refine ak (args:=[_]) _ Tryz.func199 rfl Tryz.ntmps199 rfl fun av bor w0=>?_
 have hids:=nX d.to d.toL
 repeat' (first|refine ab (hc:=fL _) ?_|refine ab (hc:=ew _ _ _) ?_|refine ab (hc:=gV _) ?_|(refine ab (hc:=hids) (hX:=fun w h=>h) ?_)|refine gs ?_|refine gs1 fun _=>?_|(refine gp ?_ ?_<;>intro hx_ this)|fail)
 all_goals (apply ad;apply ag;rfl;rfl)
 all_goals first
  | rfl
  | (simp_all [termsB,plainD,reasonD,kindA,kindO];done)
  | (simp_all [termsB,plainD,reasonD,kindA,kindO];intros;omega)
def decR (d:DecD):Bool:=withinB d.server 0 19&&(withinB d.number 0 1073741824&&(withinB d.from_ 0 1099511627776&&(withinB d.until_ 0 1099511627776&&(decide (d.from_<d.until_)&&(termsB d&&sigB d.e d.s)))))
theorem kE (d:DecD):Pu Tryz.prog 124 #[d.v] (fun w=>d.at_ w) (.bool (decR d)):=by
 refine ak (args:=[_]) _ Tryz.func124 rfl Tryz.ntmps124 rfl fun av bor w0=>?_
 have hte:=oI d
 repeat' (first|refine ab (hc:=ew _ _ _) ?_|refine ab (hc:=gU _) ?_|refine ab (hc:=js _) ?_|(refine ab (hc:=hte) (hX:=fun w h=>h) ?_)|refine ab (hc:=ip d.e d.s) ?_|refine gs ?_|refine gs1 fun _=>?_|(refine aw (vs:=d.cells) (hv:=rfl) ?_)|(refine aw (vs:=[.int .i64 d.e,.int .i64 d.s]) (hv:=rfl) ?_)|(refine gp ?_ ?_<;>intro hx_ this)|fail)
 (all_goals (apply ad;apply ag;rfl;rfl));all_goals first|rfl|(simp only [decR, *,Zt,Zr,Zf,Ze,Zh,Zg,Zk,Zj,Zn,Zl,Zs,Zm,Zq,Zi];done)|(simp_all [decR];done)
end Go.Proofs.YtaolfiikahlmkaaGreatDoor
