/- Joined. -/
import Derived.Test.YtggionfjlgfihaaGreatDoorI0
import Derived.Test.YtggionfjlgfihaaGreatDoorI26
import Derived.Test.YtggionfjlgfihaaGreatDoorI7
set_option linter.unusedVariables false
set_option linter.unusedSimpArgs false
set_option maxHeartbeats 16000000
namespace Go.Proofs.YtggionfjlgfihaaGreatDoor
open Go Go.Proofs Sy
def wellA (c:Xd) (i:Int) (a:Xa):Bool:=(postK a.kind||decide (a.kind=14))&&(decide (a.scope=1)||decide (a.scope=2)||decide (a.scope=3))&&(match epochO c.actsL i a.scope a.group with
 | some e=>decide (e.epoch=a.epoch)&&eqL e.toL (membersV c i a.scope a.group a.toL)
 | none=>false)
def wellV (c:Xd) (i:Int):Bool:=decide (0≤i)&&(match c.actsL[i.toNat]? with
 | some a=>wellA c i a
 | none=>false)
theorem yt (c:Xd) (hc:Xt c.actsL) (hcl:c.actsL.length≤1000000) (hto:∀ x∈c.actsL,x.to.n≤1000000) (i:Int):Pu Tryz.prog 205 #[c.v,.int .i64 i] (XC c) (.bool (wellV c i)):=by
 refine ar Tryz.func205 Tryz.ntmps205 fun av bor w0=>?_
 refine aH XC.know fun ⟨hl,hm,hp,hcap⟩=>?_
 simp only [maxLen] at hm
 repeat' (first|refine gs ?_|refine gs1 fun _=>?_|(refine gp ?_ ?_<;>intro hx_ this)|fail)
 · apply ab;apply ai;rfl;rfl
   rw [wellV,decide_eq_false aa,Bool.false_and]
 · apply ab;apply ai;rfl;rfl
   rw [wellV,List.getElem?_eq_none aa,Bool.and_false]
 have hi0:0≤i:=by omega
 obtain ⟨q,rfl⟩:=Int.eq_ofNat_of_zero_le hi0
 have hlt:q<c.actsL.length:=by omega
 have hp':=hp aa
 obtain ⟨x,hx⟩:∃ x,c.actsL[q]?=some x:=⟨_,List.getElem?_eq_getElem hlt⟩
 have hxm:x∈c.actsL:=List.mem_of_getElem? hx
 have hW:wellV c (q:Int)=wellA c q x:=by
  rw [wellV,decide_eq_true aa,Bool.true_and]
  show (match c.actsL[q]? with|some a=>wellA c q a|none=>false)=_
  rw [hx]
 have hA:wellA c q x=((postK x.kind||decide (x.kind=14))&&(decide (x.scope=1)||decide (x.scope=2)||decide (x.scope=3))&&(match epochO c.actsL q x.scope x.group with
  | some e=>decide (e.epoch=x.epoch)&&eqL e.toL (membersV c q x.scope x.group x.toL)
  | none=>false)):=rfl
 have hxr:=(hc.rng x hxm).to_len
 have hxs:=hto x hxm
 have hep:=xR c hc q x.scope x.group
 have hme:=ri c hc hcl hto q x.scope x.group x.to x.toL aa
 generalize epochO c.actsL q x.scope x.group=o at *
 generalize membersV c q x.scope x.group x.toL=M at *
 rw [hW,hA]
 repeat' (first|refine ag (hc:=eO x.kind) ?_|(refine bm (hc:=hep) fun v1 X1 h1=>?_;obtain ⟨s1,rfl,hs1⟩:=h1)|(refine bm (hc:=hme) (hX:=fun w h=>⟨h.1,(h.1.1.2 x hxm).1⟩) fun v2 X2 h2=>?_;obtain ⟨s2,rfl,hs2⟩:=h2)|(refine ag (hc:=gV s1 s2 _ _) (hX:=fun w h=>⟨hs1 w h.1.2,hs2 w h.2⟩) ?_)|refine gs ?_|refine gs1 fun _=>?_|(refine aE (q:=q*20) ?_)|(refine aS (cs:=x.cells) (hF:=fun w h=>Acts.get h.1 hx) ?_)|(refine gp ?_ ?_<;>intro hx_ this)|fail)
 all_goals
  apply ab;apply ai;rfl;rfl
  cases o<;>simp only [*,decide_true,decide_false,cond_true,cond_false,Bool.and_true,Bool.true_and,Bool.and_false,Bool.false_and,Bool.not_true,Bool.not_false,Bool.or_true,Bool.true_or,Bool.or_false,Bool.false_or,Option.isSome_some,Option.isSome_none,Option.map_some,Option.map_none,Option.getD_some,Option.getD_none]<;>simp_all
end Go.Proofs.YtggionfjlgfihaaGreatDoor
