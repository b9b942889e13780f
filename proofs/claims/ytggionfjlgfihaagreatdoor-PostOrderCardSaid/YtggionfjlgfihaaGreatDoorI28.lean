/- Joined. -/
import Derived.Test.YtggionfjlgfihaaGreatDoorI0
import Derived.Test.YtggionfjlgfihaaGreatDoorI27
import Derived.Test.YtggionfjlgfihaaGreatDoorI7
import Derived.Test.YtggionfjlgfihaaGreatDoorI8
set_option linter.unusedVariables false
set_option linter.unusedSimpArgs false
set_option maxHeartbeats 16000000
namespace Go.Proofs.YtggionfjlgfihaaGreatDoor
open Go Go.Proofs Sy
structure Agree (n:Nat) (l l':List Xa):Prop where
 at_:∀ k,k<n→l[k]?=l'[k]?
 left:n≤l.length
 right:n≤l'.length
theorem Agree.getD {n:Nat} {l l':List Xa} (h:Agree n l l') {k:Nat} (hk:k<n):l.getD k Xa.zero=l'.getD k Xa.zero:=by
 rw [List.getD_eq_getElem?_getD,List.getD_eq_getElem?_getD,h.at_ k hk]
theorem Agree.symm {n:Nat} {l l':List Xa} (h:Agree n l l'):Agree n l' l:=⟨fun k hk=>(h.at_ k hk).symm,h.right,h.left⟩
def rtextV (c:Xd) (i:Int):Bool:=decide (0≤i)&&(match c.actsL[i.toNat]? with
 | some a=>postK a.kind||decide (a.kind=14)
 | none=>false)
def rmemV (c:Xd) (i:Int):List ByteArray:=bif wellV c i then (match c.actsL[i.toNat]? with
 | some a=>membersV c i a.scope a.group a.toL
 | none=>[]) else []
def pubV (c:Xd) (i:Int):Bool:=match c.actsL[i.toNat]? with
 | some a=>decide (a.scope=0)
 | none=>false
def mayV (c:Xd) (i:Int) (r:ByteArray):Bool:=rtextV c i&&(seqB r c.id||pubV c i||hasS (rmemV c i) r)
theorem ug {c:Xd} {i:Int} {a:Xa} (h:c.actsL[i.toNat]?=some a):rmemV c i=bif wellV c i then membersV c i a.scope a.group a.toL else []:=by
 rw [rmemV,h]
structure ReadF (c:Xd) (i:Int) (a:Xa) (l:List ByteArray):Prop where
 asc:Asc l
 own:c.id∈l
 mem:∀ x∈l,x≠c.id→x∈membersV c i a.scope a.group a.toL
 len:l.length=1+(bif wellV c i then (membersV c i a.scope a.group a.toL).length else 0)
theorem wD (c:Xd) (i:Int):Pu Tryz.prog 175 #[c.v,.int .i64 i] (XC c) (.bool (rtextV c i)):=by
  refine ar Tryz.func175 Tryz.ntmps175 fun av bor w0=>?_
  refine aH XC.know fun ⟨hl,hm,hp,hcap⟩=>?_
  simp only [maxLen] at hm
  by_cases hi:0≤i∧i<c.actsL.length
  · obtain ⟨hi0,hi1⟩:=hi
    have hlt:i.toNat<c.actsL.length:=by omega
    have hp':=hp aa
    obtain ⟨x,hx⟩:∃ x,c.actsL[i.toNat]?=some x:=⟨_,List.getElem?_eq_getElem hlt⟩
    have hT:rtextV c i=(postK x.kind||decide (x.kind=14)):=by
      rw [rtextV,decide_eq_true aa,Bool.true_and,hx]
    repeat' (first|refine ag (hc:=eO x.kind) ?_|refine gs ?_|refine gs1 fun _=>?_|(refine aE (q:=i.toNat * 20) ?_)|(refine dA ?_)|(refine cg (q:=i.toNat * 20+3) (u:=.int .i64 x.kind) (hF:=fun w h=>(Acts.get h.1 hx).2.2 3 _ rfl) ?_)|(refine gp ?_ ?_<;>intro hx_ this)|fail)
    all_goals first
      | (exfalso;omega)
      | (apply ab;apply ai;rfl;rfl
         simp only [hT, *,decide_true,decide_false,cond_true,cond_false,Bool.and_true,Bool.true_and,Bool.and_false,Bool.false_and,Bool.not_true,Bool.not_false,Bool.or_true,Bool.true_or,Bool.or_false,Bool.false_or])
  · have hT:rtextV c i=false:=by
      rw [rtextV]
      by_cases h0:0≤i
      · rw [List.getElem?_eq_none aa,Bool.and_false]
      · rw [decide_eq_false h0,Bool.false_and]
    repeat' (first|refine gs ?_|refine gs1 fun _=>?_|(refine gp ?_ ?_<;>intro hx_ this)|fail)
    all_goals first
      | (exfalso;omega)
      | (apply ab;apply ai;rfl;rfl
         simp only [hT, *,decide_true,decide_false,cond_true,cond_false,Bool.and_true,Bool.true_and,Bool.and_false,Bool.false_and,Bool.not_true,Bool.not_false,Bool.or_true,Bool.true_or,Bool.or_false,Bool.false_or])
theorem qR {c:Xd} {i:Int} (h:rtextV c i=true):∃ q x,i=(q:Nat)∧c.actsL[q]?=some x:=by
 simp only [rtextV,Bool.and_eq_true,decide_eq_true_eq] at h
 obtain ⟨q,rfl⟩:=Int.eq_ofNat_of_zero_le h.1
 have h2:=h.2
 rw [Int.toNat_natCast] at h2
 cases hx:c.actsL[q]? with
 | none=>rw [hx] at h2;cases h2
 | some x=>exact ⟨q,x,rfl,hx⟩
theorem tB {c:Xd} {i:Int} (h:wellV c i=true):∃ q x,i=(q:Nat)∧c.actsL[q]?=some x:=by
 simp only [wellV,Bool.and_eq_true,decide_eq_true_eq] at h
 obtain ⟨q,rfl⟩:=Int.eq_ofNat_of_zero_le h.1
 have h2:=h.2
 rw [Int.toNat_natCast] at h2
 cases hx:c.actsL[q]? with
 | none=>rw [hx] at h2;cases h2
 | some x=>exact ⟨q,x,rfl,hx⟩
theorem oY (c:Xd) (hc:Xt c.actsL) (hcl:c.actsL.length≤1000000) (hto:∀ x∈c.actsL,x.to.n≤1000000) (i:Int):Ct Tryz.prog 177 #[c.v,.int .i64 i] [] (XC c) (fun u R _=>OwnStrs (rmemV c i) u R):=by
 refine cX (args:=[_,_]) (Post:=OwnStrs (rmemV c i)) _ Tryz.func177 rfl Tryz.ntmps177 rfl fun av bor w0=>?_
 refine aH XC.know fun ⟨hl,hm,hp,hcap⟩=>?_
 simp only [maxLen] at hm
 have hwe:=yt c hc hcl hto i
 cases hw:wellV c i with
 | false =>
  rw [hw] at hwe
  refine bA 9 1 ?_
  repeat' (first|(refine ag (hc:=hwe) ?_)|refine gs ?_|refine gs1 fun _=>?_|(refine gp ?_ ?_<;>intro hx_ this)|fail)
  have e:rmemV c i=[]:=by rw [rmemV,hw];rfl
  rw [e]
  exact ab (ai rfl rfl) ⟨_,List.Sublist.cons _ (aj _),none,0,rfl,rfl⟩
 | true =>
  rw [hw] at hwe
  obtain ⟨q,x,rfl,hx⟩:=tB hw
  have hlt:=(List.getElem?_eq_some_iff.1 hx).1
  have hp':=hp aa
  have hxm:=List.mem_of_getElem? hx
  have h1:=(hc.rng x hxm).to_len
  have h2:=hto x hxm
  have e:rmemV c (q:Nat)=membersV c (q:Nat) x.scope x.group x.toL:=by rw [ug (a:=x) (by rw [Int.toNat_natCast];exact hx),hw];rfl
  rw [e]
  have hme:=lg c hc hcl hto (q:Nat) x.scope x.group x.to x.toL aa
  generalize membersV c (q:Nat) x.scope x.group x.toL=M at *
  repeat' (first|(refine ag (hc:=hwe) ?_)|(refine vZ (hc:=hme) (hX:=fun w h=>⟨h,(h.1.2 x hxm).1⟩) ?_;rintro v R X' ⟨A,c2,rfl,rfl⟩)|refine gs ?_|refine gs1 fun _=>?_|(refine aE (q:=q*20) ?_)|(refine aS (cs:=x.cells) (hF:=fun w h=>Acts.get h.1 hx) ?_)|(refine gp ?_ ?_<;>intro hx_ this)|fail)
  exact ab (ai rfl rfl) ⟨_,List.Sublist.cons_cons _ (List.nil_sublist _),A,c2,rfl,rfl⟩
theorem AP (c:Xd) (hc:Xt c.actsL) (hcl:c.actsL.length≤1000000) (hto:∀ x∈c.actsL,x.to.n≤1000000) (i:Int) (r:ByteArray):Pu Tryz.prog 109 #[c.v,.int .i64 i,.string r] (XC c) (.bool (mayV c i r)):=by
 refine ar Tryz.func109 Tryz.ntmps109 fun av bor w0=>?_
 refine aH XC.know fun ⟨hl,hm,hp,hcap⟩=>?_
 simp only [maxLen] at hm
 have hte:=wD c i
 cases ht:rtextV c i with
 | false =>
  rw [ht] at hte
  repeat' (first|(refine ag (hc:=hte) ?_)|refine gs ?_|refine gs1 fun _=>?_|(refine gp ?_ ?_<;>intro hx_ this)|fail)
  apply ab;apply ai;rfl;rfl
  rw [mayV,ht]
  rfl
 | true =>
  rw [ht] at hte
  obtain ⟨q,x,rfl,hx⟩:=qR ht
  have hlt:=(List.getElem?_eq_some_iff.1 hx).1
  have hp':=hp aa
  have hpb:pubV c (q:Nat)=decide (x.scope=0):=by rw [pubV,Int.toNat_natCast,hx]
  have hM:mayV c (q:Nat) r=(seqB r c.id||decide (x.scope=0)||hasS (rmemV c (q:Nat)) r):=by rw [mayV,ht,hpb];rfl
  rw [hM]
  have hrm:=mF (oY c hc hcl hto (q:Nat))
  generalize rmemV c (q:Nat)=M at *
  repeat' (first|(refine ag (hc:=hte) ?_)|(refine bm (hc:=hrm) fun v1 X1 h1=>?_;obtain ⟨s1,rfl,hs1⟩:=h1)|(refine ag (hc:=dW s1 M r) (hX:=fun w h=>hs1 w h.2) ?_)|refine gs ?_|refine gs1 fun _=>?_|(refine aE (q:=q*20) ?_)|(refine dA ?_)|(refine cg (q:=q*20+7) (u:=.int .i64 x.scope) (hF:=fun w h=>(Acts.get h.1 hx).2.2 7 _ rfl) ?_)|(refine gp ?_ ?_<;>intro hx_ this)|fail)
  all_goals
   apply ab;apply ai;rfl;rfl
   simp only [*,decide_true,decide_false,cond_true,cond_false,Bool.and_true,Bool.true_and,Bool.and_false,Bool.false_and,Bool.not_true,Bool.not_false,Bool.or_true,Bool.true_or,Bool.or_false,Bool.false_or]
end Go.Proofs.YtggionfjlgfihaaGreatDoor
