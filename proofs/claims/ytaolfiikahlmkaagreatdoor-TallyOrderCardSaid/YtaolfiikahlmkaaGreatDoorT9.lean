/- Joined. -/
import Derived.Test.YtaolfiikahlmkaaGreatDoorT8
set_option linter.unusedVariables false
set_option linter.unusedSimpArgs false
set_option maxHeartbeats 16000000
namespace Go.Proofs.YtaolfiikahlmkaaGreatDoor
open Go Go.Proofs Sy Tryz
theorem d4 (n l h:Int):Pu prog 194 #[.int .i64 n,.int .i64 l,.int .i64 h] (fun _=>True) (.bool (withinB n l h)):=by
 refine aw func194 ntmps194 fun av bor w0=>?_
 repeat' (first|refine gs ?_|(refine gp ?_ ?_<;>intro hx_ this)|fail)
 (all_goals (apply ab;apply ae;rfl;rfl));all_goals (simp only [withinB, *,Zt,Zr,Zf,Ze,Zh,Zg,Zk,Zj,Zn,Zl,Zs,Zm,Zq,Zi];done)
theorem gz (n:Int):Pu prog 196 #[.int .i64 n] (fun _=>True) (.bool (withinB n 0 19)):=by
 refine aw func196 ntmps196 fun av bor w0=>?_
 repeat' (first|refine ag (hc:=d4 _ _ _) ?_|refine gs ?_|fail)
 all_goals exact ab (ae rfl rfl) rfl
theorem iG (n:Int):Pu prog 197 #[.int .i64 n] (fun _=>True) (.bool (withinB n 0 1099511627776)):=by
 refine aw func197 ntmps197 fun av bor w0=>?_
 repeat' (first|refine ag (hc:=d4 _ _ _) ?_|refine gs ?_|fail)
 all_goals exact ab (ae rfl rfl) rfl
theorem gA (s:ByteArray):Pu prog 195 #[.string s] (fun _=>True) (.bool (isDigestB s)):=by
 refine aw func195 ntmps195 fun av bor w0=>?_
 repeat' (first|refine gs ?_|fail)
 all_goals exact ab (ae rfl rfl) rfl
def sigB (e s:Int):Bool:=withinB e 0 2305843009213693949&&withinB s 0 2305843009213693949
theorem gL (e s:Int):Pu prog 198 #[.agg #[.int .i64 e,.int .i64 s]] (fun _=>True) (.bool (sigB e s)):=by
 refine aw func198 ntmps198 fun av bor w0=>?_
 repeat' (first|refine ag (hc:=d4 _ _ _) ?_|refine gs ?_|refine gs1 fun _=>?_|(refine gp ?_ ?_<;>intro hx_ this)|fail)
 (all_goals (apply ab;apply ae;rfl;rfl));all_goals (simp only [sigB, *,Zt,Zr,Zf,Ze,Zh,Zg,Zk,Zj,Zn,Zl,Zs,Zm,Zq,Zi];done)
def claimR (c:Xg):Bool:=isId c.actor&&(withinB c.base 1 1073741824&&(isDigestB c.prev&&(withinB c.gen 0 1073741824&&(withinB c.home 0 19&&(withinB c.pub 1 2305843009213693950&&(withinB c.time 0 1099511627776&&sigB c.e c.s))))))
theorem nH (c:Xg):Pu prog 122 #[c.v] (fun _=>True) (.bool (claimR c)):=by
 refine aw func122 ntmps122 fun av bor w0=>?_
 repeat' (first|refine ag (hc:=fw _) ?_|refine ag (hc:=d4 _ _ _) ?_|refine ag (hc:=gA _) ?_|refine ag (hc:=gz _) ?_|refine ag (hc:=iG _) ?_|refine ag (hc:=gL c.e c.s) ?_|refine gs ?_|refine gs1 fun _=>?_|(refine aC (vs:=[.int .i64 c.e,.int .i64 c.s]) (hv:=rfl) ?_)|(refine gp ?_ ?_<;>intro hx_ this)|fail)
 (all_goals (apply ab;apply ae;rfl;rfl));all_goals (simp only [claimR, *,Zt,Zr,Zf,Ze,Zh,Zg,Zk,Zj,Zn,Zl,Zs,Zm,Zq,Zi];done)
def ballotR (b:Xh):Bool:=withinB b.server 0 19&&(isId b.actor&&(withinB b.gen 0 1073741824&&(isDigestB b.claim&&(withinB b.time 0 1099511627776&&sigB b.e b.s))))
theorem mA (b:Xh):Pu prog 123 #[b.v] (fun _=>True) (.bool (ballotR b)):=by
 refine aw func123 ntmps123 fun av bor w0=>?_
 repeat' (first|refine ag (hc:=fw _) ?_|refine ag (hc:=d4 _ _ _) ?_|refine ag (hc:=gA _) ?_|refine ag (hc:=gz _) ?_|refine ag (hc:=iG _) ?_|refine ag (hc:=gL b.e b.s) ?_|refine gs ?_|refine gs1 fun _=>?_|(refine aC (vs:=[.int .i64 b.e,.int .i64 b.s]) (hv:=rfl) ?_)|(refine gp ?_ ?_<;>intro hx_ this)|fail)
 (all_goals (apply ab;apply ae;rfl;rfl));all_goals (simp only [ballotR, *,Zt,Zr,Zf,Ze,Zh,Zg,Zk,Zj,Zn,Zl,Zs,Zm,Zq,Zi];done)
def plainD (d:Xu):Bool:=decide ((d.to.n:Int)=0)&&decide (d.n=0)
def reasonD (d:Xu):Bool:=decide ((d.text.size:Int)≤500)
def kindA (k:Int):Bool:=decide (k=0)||(decide (k=1)||(decide (k=4)||(decide (k=6)||decide (k=7))))
def kindO (k:Int):Bool:=decide (k=2)||(decide (k=3)||decide (k=5))
def termsB (d:Xu):Bool :=
 bif kindA d.kind then isId d.actor&&(seqB d.object ⟨#[]⟩&&(reasonD d&&plainD d))
 else bif kindO d.kind then seqB d.actor ⟨#[]⟩&&(isDigestB d.object&&(reasonD d&&plainD d))
 else bif decide (d.kind=8) then seqB d.actor ⟨#[]⟩&&(seqB d.object ⟨#[]⟩&&(reasonD d&&(isIds d.toL&&withinB d.n 1 (d.to.n:Nat))))
 else bif decide (d.kind=9) then seqB d.actor ⟨#[]⟩&&(seqB d.object ⟨#[]⟩&&(decide ((d.text.size:Int)≤4096)&&plainD d))
 else false
theorem nG (d:Xu):Pu prog 199 #[d.v] (fun w=>d.at_ w) (.bool (termsB d)):=by
 refine aw func199 ntmps199 fun av bor w0=>?_
 have hids:=mX d.to d.toL
 repeat' (first|refine ag (hc:=fw _) ?_|refine ag (hc:=d4 _ _ _) ?_|refine ag (hc:=gA _) ?_|(refine ag (hc:=hids) ?_)|refine gs ?_|refine gs1 fun _=>?_|(refine gp ?_ ?_<;>intro hx_ this)|fail)
 all_goals (apply ab;apply ae;rfl;rfl)
 all_goals first
  | rfl
  | (simp_all [termsB,plainD,reasonD,kindA,kindO];done)
  | (simp_all [termsB,plainD,reasonD,kindA,kindO];intros;omega)
def decR (d:Xu):Bool:=withinB d.server 0 19&&(withinB d.number 0 1073741824&&(withinB d.from_ 0 1099511627776&&(withinB d.until_ 0 1099511627776&&(decide (d.from_<d.until_)&&(termsB d&&sigB d.e d.s)))))
theorem jT (d:Xu):Pu prog 124 #[d.v] (fun w=>d.at_ w) (.bool (decR d)):=by
 refine aw func124 ntmps124 fun av bor w0=>?_
 have hte:=nG d
 repeat' (first|refine ag (hc:=d4 _ _ _) ?_|refine ag (hc:=gz _) ?_|refine ag (hc:=iG _) ?_|(refine ag (hc:=hte) ?_)|refine ag (hc:=gL d.e d.s) ?_|refine gs ?_|refine gs1 fun _=>?_|(refine aC (vs:=[.int .i64 d.e,.int .i64 d.s]) (hv:=rfl) ?_)|(refine gp ?_ ?_<;>intro hx_ this)|fail)
 (all_goals (apply ab;apply ae;rfl;rfl));all_goals (simp only [decR, *,Zt,Zr,Zf,Ze,Zh,Zg,Zk,Zj,Zn,Zl,Zs,Zm,Zq,Zi];done)
end Go.Proofs.YtaolfiikahlmkaaGreatDoor
