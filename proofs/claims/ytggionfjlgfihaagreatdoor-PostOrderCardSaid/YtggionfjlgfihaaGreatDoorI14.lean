/- Joined. -/
import Derived.Test.YtggionfjlgfihaaGreatDoorI0
import Derived.Test.YtggionfjlgfihaaGreatDoorI1
import Derived.Test.YtggionfjlgfihaaGreatDoorI7
import Derived.Test.YtggionfjlgfihaaGreatDoorI9
import Derived.Test.YtggionfjlgfihaaGreatDoorI8
import Derived.Shelf.Slices.CompactS
import Derived.Lib.RowBridge
import Derived.Test.YtggionfjlgfihaaGreatDoorI5
import Derived.Test.YtggionfjlgfihaaGreatDoorCards
import Derived.Test.YtggionfjlgfihaaGreatDoorTie
import Derived.WalkKit
import Derived.ProofKit
import Derived.Deep.DeepHandedRow
import Derived.Lib.LaidTab
set_option linter.unusedVariables false
set_option linter.unusedSimpArgs false
set_option maxHeartbeats 16000000
namespace Go.Proofs.YtggionfjlgfihaaGreatDoor
open Go Go.Proofs Sy
theorem wE (c:Xd) (hc:Xt c.actsL) (hl:c.actsL.length≤1000000) (n:Int):Mk Tryz.prog 198 #[c.v,.int .i64 n] (fun w=>c.at_ w∧Xf w) (TiesAt (tieV c.actsL n)):=by
 refine xq (args:=[_,_]) _ Tryz.func198 rfl Tryz.ntmps198 rfl fun av bor w0=>?_
 have hB:=oF hc n
 repeat' (first|refine gs ?_|refine gs1 fun _=>?_|fail)
 rename_i b2 b4
 refine aZ (pre:=[]) (fr:=[cel b4 252 [.slice none 0 0,.slice none 0 0,.slice none 0 0,.slice none 0 0],cel b2 67 c.cells]) (hc:=Aq c hc n) (hX:=fun _ h=>h) (h:=?_)
 rintro _ _ X' ⟨q1,q2,q3,q4,rfl,rfl⟩
 generalize tieV c.actsL n=t at *
 repeat' (first|refine gs ?_|refine gs1 fun _=>?_|fail)
 rename_i b5
 unfold setsR
 (refine ao ⟨[0,1,3,4,6,7,9,10],[(2,⟨[],[(5,⟨[],[(8,⟨[],[(11,⟨[12],[(13,⟨[],[]⟩)]⟩)]⟩)]⟩)]⟩)]⟩ [cel b5 277 (setsV q1 q2 q3 q4).cells.toList] (fun _=>True) (h:=?_))
 all_goals repeat' (first|((refine ec (hc:=fG q1 t.f hB.f.size (Nat.le_trans hB.f.len hl)) (hX:=fun _ _=>trivial) ?_;rintro _ _ X1 ⟨A1,c1,rfl,rfl⟩;refine aW ?_))|((refine ec (hc:=fG q2 t.a hB.a.size (Nat.le_trans hB.a.len hl)) (hX:=fun _ _=>trivial) ?_;rintro _ _ X2 ⟨A2,c2,rfl,rfl⟩;refine aW ?_))|((refine ec (hc:=fG q3 t.b hB.b.size (Nat.le_trans hB.b.len hl)) (hX:=fun _ _=>trivial) ?_;rintro _ _ X3 ⟨A3,c3,rfl,rfl⟩;refine aW ?_))|((refine ec (hc:=fG q4 t.m hB.m.size (Nat.le_trans hB.m.len hl)) (hX:=fun _ _=>trivial) ?_;rintro _ _ X4 ⟨A4,c4,rfl,rfl⟩;refine aW ?_))|refine gd ?_|refine ax (hy:=by first|(apply dp;rfl;rfl)) ?_|refine ay ?_ (h':=?_)|exact az|refine gs1 fun _=>?_|(refine gq ?_ ?_<;>intro hx_ this)|fail)
 repeat' (first|refine gs ?_|refine gs1 fun _=>?_|fail)
 refine ab (bx rfl rfl aL (by rfl)) ⟨⟨A1,t.f.length,c1⟩,⟨A2,t.a.length,c2⟩,⟨A3,t.b.length,c3⟩,⟨A4,t.m.length,c4⟩,rfl,fun w h=>⟨fD h.1.1.1.1.1.1.2 rfl,fD h.1.1.1.1.2 rfl,fD h.1.1.2 rfl,fD h.2 rfl⟩⟩
end Go.Proofs.YtggionfjlgfihaaGreatDoor
namespace Go.Proofs.YtggionfjlgfihaaGreatDoor
open Go Go.Proofs Sy
section
variable {P:Program} {N:Nat} {av bor:List Nat} {w0:World} {x y:Operand} {t t2:TypeId} {ty:TypeId} {st:St} {k:IntKind} {a b:Int}
theorem bj [hI:Xw P t k] (v:Bool) (hx:ev st.env x=some (.int k a)) (hy:ev st.env y=some (.int k b)) (hv:decide (a<b)=v):Sy.Yields P N av bor w0 st (.binOp .lss t x y t2) ty (.bool v):=hv▸rT hx hy
theorem fX [hI:Xw P t k] (v:Bool) (hx:ev st.env x=some (.int k a)) (hy:ev st.env y=some (.int k b)) (hv:decide (b≤a)=v):Sy.Yields P N av bor w0 st (.binOp .geq t x y t2) ty (.bool v):=hv▸rU hx hy
theorem d2 [hI:Xw P t k] (v:Bool) (hx:ev st.env x=some (.int k a)) (hy:ev st.env y=some (.int k b)) (hv:decide (a=b)=v):Sy.Yields P N av bor w0 st (.binOp .eql t x y t2) ty (.bool v):=hv▸ky hx hy
theorem dd [hI:Xw P t k] (v:Bool) (hx:ev st.env x=some (.int k a)) (hy:ev st.env y=some (.int k b)) (hv:(!decide (a=b))=v):Sy.Yields P N av bor w0 st (.binOp .neq t x y t2) ty (.bool v):=hv▸rS hx hy
theorem cw [hI:Eb P t] {a b:ByteArray} (v:Bool) (hx:ev st.env x=some (.string a)) (hy:ev st.env y=some (.string b)) (hv:seqB a b=v):Sy.Yields P N av bor w0 st (.binOp .eql t x y t2) ty (.bool v):=hv▸kq hx hy
theorem fx {a b:ByteArray} (v:Bool) (hx:ev st.env x=some (.string a)) (hy:ev st.env y=some (.string b)) (hv:(!seqB a b)=v):Sy.Yields P N av bor w0 st (.binOp .neq t x y t2) ty (.bool v):=hv▸na hx hy
end
theorem g7 {P:Program} {N:Nat} {av bor:List Nat} {w0:World} {st:St} {t ty:TypeId} {x:Operand} {b:Bool} (v:Bool) (hx:ev st.env x=some (.bool b)) (hv:(!b)=v):Sy.Yields P N av bor w0 st (.unOp .not t x) ty (.bool v):=hv▸rR hx
end Go.Proofs.YtggionfjlgfihaaGreatDoor
namespace Go.Proofs.YtggionfjlgfihaaGreatDoor
open Go Go.Proofs Sy
structure Xg where
 actor:ByteArray
 base:Int
 prev:ByteArray
 gen:Int
 home:Int
 pub:Int
 time:Int
 e:Int
 s:Int
structure Xi where
 server:Int
 actor:ByteArray
 gen:Int
 claim:ByteArray
 time:Int
 e:Int
 s:Int
structure Xr where
 server:Int
 number:Int
 kind:Int
 actor:ByteArray
 object:ByteArray
 text:ByteArray
 to:Xj
 n:Int
 from_:Int
 until_:Int
 e:Int
 s:Int
 toL:List ByteArray
structure Xb where
 kind:Int
 act:Xa
 claim:Xg
 ballot:Xi
 dec:Xr
def Xg.cells (c:Xg):List Value:=[.string c.actor,.int .i64 c.base,.string c.prev,.int .i64 c.gen,.int .i64 c.home,.int .i64 c.pub,.int .i64 c.time,.int .i64 c.e,.int .i64 c.s]
def Xg.v (c:Xg):Value:=.agg c.cells.toArray
def Xg.zero:Xg:=⟨⟨#[]⟩,0,⟨#[]⟩,0,0,0,0,0,0⟩
def Xi.cells (b:Xi):List Value:=[.int .i64 b.server,.string b.actor,.int .i64 b.gen,.string b.claim,.int .i64 b.time,.int .i64 b.e,.int .i64 b.s]
def Xi.v (b:Xi):Value:=.agg b.cells.toArray
def Xi.zero:Xi:=⟨0,⟨#[]⟩,0,⟨#[]⟩,0,0,0⟩
def Xr.cells (d:Xr):List Value:=[.int .i64 d.server,.int .i64 d.number,.int .i64 d.kind,.string d.actor,.string d.object,.string d.text,d.to.v,.int .i64 d.n,.int .i64 d.from_,.int .i64 d.until_,.int .i64 d.e,.int .i64 d.s]
def Xr.v (d:Xr):Value:=.agg d.cells.toArray
def Xr.zero:Xr:=⟨0,0,0,⟨#[]⟩,⟨#[]⟩,⟨#[]⟩,⟨none,0,0⟩,0,0,0,0,0,[]⟩
def Xr.at_ (w:World) (d:Xr):Prop:=Strs w d.to d.toL
def Xb.cells (i:Xb):List Value:=.int .i64 i.kind::(i.act.cells++i.claim.cells++i.ballot.cells++i.dec.cells)
def Xb.v (i:Xb):Value:=.agg i.cells.toArray
def Xb.at_ (w:World) (i:Xb):Prop:=Xa.at_ w i.act∧Xr.at_ w i.dec
def ofActI (a:Xa):Xb:=⟨0,a,Xg.zero,Xi.zero,Xr.zero⟩
def Xb.zero:Xb:=ofActI Xa.zero
def Items (w:World) (s:Xj) (l:List Xb):Prop:=Xe w 49 s (l.map Xb.cells)∧∀ i∈l,Xb.at_ w i
theorem Items.len_ {w:World} {s:Xj} {l:List Xb} (h:Items w s l):s.n=l.length:=by simpa using Xe.len h.1
theorem Items.max_ {w:World} {s:Xj} {l:List Xb} (h:Items w s l):s.n≤maxLen:=Nat.le_trans (Xe.cap h.1) (Xe.max h.1)
theorem Items.get {w:World} {s:Xj} {l:List Xb} (h:Items w s l) {k:Nat} {x:Xb} (hx:l[k]?=some x):x.cells.length=49∧s.p.isSome=true∧∀ j u,x.cells[j]?=some u→CellAt w s.p (k*49+j) u:=Xe.row h.1 k x.cells (by simp [hx])
theorem Items.some_ {w:World} {s:Xj} {l:List Xb} (h:Items w s l) (h0:0<l.length):s.p.isSome=true:=(h.get (k:=0) (x:=l[0]) (List.getElem?_eq_getElem h0)).2.1
namespace SrG
section
variable {P:Program} {N:Nat} {av bor:List Nat} {w0:World} {st:St} {ty:TypeId} {x y:Operand} {t t2:TypeId} {k:IntKind}
theorem kv {a b:Int} [hI:Xw P t k] (hx:ev st.env x=some (.int k a)) (hy:ev st.env y=some (.int k b)) (hab:b<a):Sy.Yields P N av bor w0 st (.binOp .gtr t x y t2) ty (.bool true):=by
 have h:=jA (P:=P) (N:=N) (av:=av) (bor:=bor) (w0:=w0) (st:=st) (ty:=ty) (t:=t) (t2:=t2) hx hy
 rwa [decide_eq_true hab] at h
theorem kw {a b:Int} [hI:Xw P t k] (hx:ev st.env x=some (.int k a)) (hy:ev st.env y=some (.int k b)) (hab:¬ b<a):Sy.Yields P N av bor w0 st (.binOp .gtr t x y t2) ty (.bool false):=by
 have h:=jA (P:=P) (N:=N) (av:=av) (bor:=bor) (w0:=w0) (st:=st) (ty:=ty) (t:=t) (t2:=t2) hx hy
 rwa [decide_eq_false hab] at h
end
section
variable {N:Nat} {av bor:List Nat} {w0:World} {st:St} {ty:TypeId} {x y:Operand} {E:Env} {loc:List Xk} {X:World→Prop} {ops:Array Oper} {kk k:St→Prop} {pos:String} {af:Array Edge} {g:Option (Nat×Bool)} {rest:List Oper} {bb want:Bool} {n:Nat} {t t2:TypeId} {d:Option Tmp}
theorem aK [hI:Xw Tryz.prog t .i64] {p q:Nat} (h:Sw Tryz.prog N av bor w0 ops rest ⟨(n,.int .i64 ((p+q:Nat):Int))::E,loc,X⟩ kk) (hx:ev E x=some (.int .i64 (p:Nat)):=by rfl) (hy:ev E y=some (.int .i64 (q:Nat)):=by rfl) (hq:p+q<9223372036854775808) (hg:gdB ops E g=some (bb,want):=by rfl) (hbb:bb=want:=by exact aq) (hd:Nat.blt n N=true:=by rfl) :
  Sw Tryz.prog N av bor w0 ops (⟨some n,.binOp .add t x y t2,ty,pos,af,g⟩::rest) ⟨E,loc,X⟩ kk:=cH (c:=((p+q:Nat):Int)) hx hy (by rw [←Int.natCast_add];exact IntWalk.i64_in _ aa) hg hbb hd h
theorem aP [hI:Xw Tryz.prog t .i64] {p q:Nat} (h:Sw Tryz.prog N av bor w0 ops rest ⟨(n,.int .i64 ((p-q:Nat):Int))::E,loc,X⟩ kk) (hx:ev E x=some (.int .i64 (p:Nat)):=by rfl) (hy:ev E y=some (.int .i64 (q:Nat)):=by rfl) (hq:q≤p∧p<9223372036854775808) (hg:gdB ops E g=some (bb,want):=by rfl) (hbb:bb=want:=by exact aq) (hd:Nat.blt n N=true:=by rfl) :
  Sw Tryz.prog N av bor w0 ops (⟨some n,.binOp .sub t x y t2,ty,pos,af,g⟩::rest) ⟨E,loc,X⟩ kk:=fC (c:=((p-q:Nat):Int)) hx hy (by rw [show (p:Int)-(q:Int)=((p-q:Nat):Int) by omega];exact IntWalk.i64_in _ aa) hg hbb hd h
theorem AC (x:Nat):shrV .u64 (x:Int) 1=((x/2:Nat):Int):=by
 show (x:Int).fdiv (2 ^ (min (1:Int).toNat 64))=_
 rw [show (2:Int) ^ (min (1:Int).toNat 64)=((2:Nat):Int) from rfl,←Int.ofNat_fdiv]
theorem cB {p:Nat} {x y:Operand} (h:Sw Tryz.prog N av bor w0 ops rest ⟨(n,.int .u64 ((p/2:Nat):Int))::E,loc,X⟩ k) (hx:ev E x=some (.int .u64 (p:Nat)):=by rfl) (hy:ev E y=some (.int .u64 1):=by rfl) (hg:gdB ops E g=some (bb,want):=by rfl) (hbb:bb=want:=by exact aq) (hd:Nat.blt n N=true:=by rfl) :
  Sw Tryz.prog N av bor w0 ops (⟨some n,.binOp .shr t x y t2,ty,pos,af,g⟩::rest) ⟨E,loc,X⟩ k:=vT hx hy (by decide) hg hbb hd (by rw [AC];exact h)
theorem tE {p:Nat} (h:p<9223372036854775808):IntKind.u64.wrap (p:Int)=(p:Int):=by
 simp [IntKind.wrap,IntKind.signed,IntKind.bits]
 omega
theorem cQ [h1:Xw Tryz.prog t .i64] [h2:Xw Tryz.prog t2 .u64] {p:Nat} {x:Operand} (h:Sw Tryz.prog N av bor w0 ops rest ⟨(n,.int .u64 (p:Nat))::E,loc,X⟩ k) (hx:ev E x=some (.int .i64 (p:Nat)):=by rfl) (hq:p<9223372036854775808) (hg:gdB ops E g=some (bb,want):=by rfl) (hbb:bb=want:=by exact aq) (hd:Nat.blt n N=true:=by rfl) :
  Sw Tryz.prog N av bor w0 ops (⟨some n,.convert t t2 x,ty,pos,af,g⟩::rest) ⟨E,loc,X⟩ k:=nv hx (tE hq) hg hbb hd h
theorem cR [h1:Xw Tryz.prog t .u64] [h2:Xw Tryz.prog t2 .i64] {p:Nat} {x:Operand} (h:Sw Tryz.prog N av bor w0 ops rest ⟨(n,.int .i64 (p:Nat))::E,loc,X⟩ k) (hx:ev E x=some (.int .u64 (p:Nat)):=by rfl) (hq:p<9223372036854775808) (hg:gdB ops E g=some (bb,want):=by rfl) (hbb:bb=want:=by exact aq) (hd:Nat.blt n N=true:=by rfl) :
  Sw Tryz.prog N av bor w0 ops (⟨some n,.convert t t2 x,ty,pos,af,g⟩::rest) ⟨E,loc,X⟩ k:=nv hx (IntWalk.i64_in _ aa) hg hbb hd h
theorem ja {x y:Operand} {k':IntKind} {a b:Int} [hI:Xw Tryz.prog t k'] (h:Sw Tryz.prog N av bor w0 ops rest ⟨(n,.bool false)::E,loc,X⟩ k) (hx:ev E x=some (.int k' a):=by rfl) (hy:ev E y=some (.int k' b):=by rfl) (hab:¬ a<b:=by first|omega|decide) (hg:gdB ops E g=some (bb,want):=by rfl) (hbb:bb=want:=by exact aq) (hd:Nat.blt n N=true:=by rfl) :
  Sw Tryz.prog N av bor w0 ops (⟨some n,.binOp .lss t x y t2,ty,pos,af,g⟩::rest) ⟨E,loc,X⟩ k:=dv (hx:=hx) (hy:=hy) (hg:=hg) (hbb:=hbb) (hd:=hd) (h:=by
   have e:∀ u,u=Value.bool false→Sw Tryz.prog N av bor w0 ops rest ⟨(n,u)::E,loc,X⟩ k:=fun u hu=>hu▸h
   exact e _ (by simp [hab]))
theorem eG {x y:Operand} {k':IntKind} {a b:Int} [hI:Xw Tryz.prog t k'] (h:Sw Tryz.prog N av bor w0 ops rest ⟨(n,.bool true)::E,loc,X⟩ k) (hx:ev E x=some (.int k' a):=by rfl) (hy:ev E y=some (.int k' b):=by rfl) (hab:a<b:=by first|omega|decide) (hg:gdB ops E g=some (bb,want):=by rfl) (hbb:bb=want:=by exact aq) (hd:Nat.blt n N=true:=by rfl) :
  Sw Tryz.prog N av bor w0 ops (⟨some n,.binOp .lss t x y t2,ty,pos,af,g⟩::rest) ⟨E,loc,X⟩ k:=dv (hx:=hx) (hy:=hy) (hg:=hg) (hbb:=hbb) (hd:=hd) (h:=by
   have e:∀ u,u=Value.bool true→Sw Tryz.prog N av bor w0 ops rest ⟨(n,u)::E,loc,X⟩ k:=fun u hu=>hu▸h
   exact e _ (by simp [hab]))
theorem dq [hI:Xw Tryz.prog t .i64] {p q:Nat} (h:Sw Tryz.prog N av bor w0 ops rest ⟨(n,.int .i64 ((p*q:Nat):Int))::E,loc,X⟩ k) (hx:ev E x=some (.int .i64 (p:Nat)):=by rfl) (hy:ev E y=some (.int .i64 (q:Nat)):=by rfl) (hq:p*q<9223372036854775808) (hg:gdB ops E g=some (bb,want):=by rfl) (hbb:bb=want:=by exact aq) (hd:Nat.blt n N=true:=by rfl) :
  Sw Tryz.prog N av bor w0 ops (⟨some n,.binOp .mul t x y t2,ty,pos,af,g⟩::rest) ⟨E,loc,X⟩ k:=f0 (c:=((p*q:Nat):Int)) hx hy (by rw [←Int.natCast_mul];exact IntWalk.i64_in _ aa) hg hbb hd h
end
structure BinI_g (lo hi:Nat) where
 i:Nat
 j:Nat
 h1:lo≤i
 h2:i≤j
 h3:j≤hi
structure MerI_g (a m b mid:Nat) where
 i:Nat
 j:Nat
 h1:i≤j
 h2:mid<m→mid+m≤i+b∧j≤mid
 h3:m≤mid→a≤i∧j≤m
def cmpB_g (x y:ByteArray):Int:=bif Op.bytesLess x.toList y.toList then -1 else bif !(Op.bytesLess x.toList y.toList||seqB x y) then 1 else 0
theorem rm (x:ByteArray):Pu Tryz.prog 82 #[.string x] (fun _=>True) (.bool false):=by
 refine ar Tryz.func82 Tryz.ntmps82 fun av bor w0=>?_
 have h:=be x
 repeat' (first|refine gs ?_|(refine gp ?_ ?_<;>intro hx_ this)|fail)
 apply ab;apply ai;rfl;rfl
 rw [h]
 rfl
theorem fT (x y:ByteArray):Pu Tryz.prog 36 #[.string x,.string y] (fun _=>True) (.int .i64 (cmpB_g x y)):=by
 refine ar Tryz.func36 Tryz.ntmps36 fun av bor w0=>?_
 repeat' (first|refine ag (hc:=rm _) ?_|refine gs ?_|(refine rZ ?_)|(refine r3 ?_)|(refine gp ?_ ?_<;>intro hx_ this)|fail)
 (all_goals (apply ab;apply ai;rfl;rfl));all_goals first|rfl|(simp only [cmpB_g, *,decide_true,decide_false,cond_true,cond_false,Bool.and_true,Bool.true_and,Bool.and_false,Bool.false_and,Bool.not_true,Bool.not_false,Bool.or_true,Bool.true_or,Bool.or_false,Bool.false_or];done)|(simp_all [cmpB_g];done)
def cmpI (a b:Int):Int:=bif decide (a<b) then -1 else bif decide (b<a) then 1 else 0
theorem cmpI_self (a:Int):cmpI a a=0:=by simp [cmpI]
def cmp2 (a b:Int) (x y:ByteArray):Int:=bif decide (cmpI a b=0) then cmpB_g x y else cmpI a b
theorem uE (x:Int):Pu Tryz.prog 208 #[.int .i64 x] (fun _=>True) (.bool false):=by
 refine ar Tryz.func208 Tryz.ntmps208 fun av bor w0=>?_
 repeat' (first|refine aO ?_ (dd false rfl rfl (by simp))|refine gs ?_|(refine gp ?_ ?_<;>intro hx_ this)|fail)
 exact ab (ai rfl rfl) rfl
theorem gG (x y:Int):Pu Tryz.prog 189 #[.int .i64 x,.int .i64 y] (fun _=>True) (.int .i64 (cmpI x y)):=by
 refine ar Tryz.func189 Tryz.ntmps189 fun av bor w0=>?_
 repeat' (first|refine ag (hc:=uE _) ?_|refine gs ?_|(refine gp ?_ ?_<;>intro hx_ this)|fail)
 (all_goals (apply ab;apply ai;rfl;rfl));all_goals first|rfl|(simp only [cmpI, *,decide_true,decide_false,cond_true,cond_false,Bool.and_true,Bool.true_and,Bool.and_false,Bool.false_and,Bool.not_true,Bool.not_false,Bool.or_true,Bool.true_or,Bool.or_false,Bool.false_or];done)|(simp_all [cmpI];done)
structure OrI (a b:Int) where
 k:Nat
 hk:k≤2
 ha:0<k→a=0
 hb:1<k→b=0
theorem qZ (s:Xj) (a b:Int):Pu Tryz.prog 188 #[s.v] (fun w=>Ints w s [a,b]) (.int .i64 (bif decide (a=0) then b else a)):=by
 refine ar Tryz.func188 Tryz.ntmps188 fun av bor w0=>?_
 refine aH (p:=s.n=2∧s.p.isSome=true) (fun w h=>⟨h.len_,h.some_ (by simp)⟩) fun ⟨hsn,hsp⟩=>?_
 repeat' (first|refine gs ?_|fail)
 refine am (ι:=OrI a b) (fun i=>⟨[(3,.int .i64 0),(6,s.v),(7,.int .i64 (s.n:Nat)),(8,.int .i64 (i.k:Nat))],[],fun w=>Ints w s [a,b]⟩) (fun i=>2-i.k) ⟨0,Nat.zero_le _,fun h=>absurd h (by decide),fun h=>absurd h (by decide)⟩ (ae al (aj _) fun _ h=>h) fun i=>?_
 obtain ⟨k,hk,ha,hb⟩:=i
 simp only
 by_cases hlt:k<2
 · have hget:∀ w,Ints w s [a,b]→CellAt w s.p k (.int .i64 ([a,b].getD k 0)):=fun w h=>Ints.get h hlt
   have hx:[a,b].getD k 0=a∧k=0∨[a,b].getD k 0=b∧k=1:=by
    rcases k with _|_|k
    · exact .inl ⟨rfl,rfl⟩
    · exact .inr ⟨rfl,rfl⟩
    · omega
   generalize [a,b].getD k 0=x at *
   by_cases h0:x=0
   · repeat' (first|refine aO ?_ (bj true rfl rfl (decide_eq_true aa))|refine aO ?_ (dd false rfl rfl (by simp [h0]))|refine gs ?_|(refine aE (q:=k) ?_)|(refine cg (u:=.int .i64 x) (hF:=hget) ?_)|(refine gp ?_ ?_<;>intro hx_ this)|fail)
     exact ⟨(⟨k+1,hlt,fun _=>by rcases hx with h|h<;>first|omega|exact ha aa,fun _=>by rcases hx with h|h<;>omega⟩:OrI a b),(by show 2-(k+1)<2-k;omega),ae al (aj _) fun _ h=>h⟩
   · repeat' (first|refine aO ?_ (bj true rfl rfl (decide_eq_true aa))|refine aO ?_ (dd true rfl rfl (by simp [h0]))|refine gs ?_|(refine aE (q:=k) ?_)|(refine cg (u:=.int .i64 x) (hF:=hget) ?_)|(refine gp ?_ ?_<;>intro hx_ this)|fail)
     refine ab (ai rfl rfl) ?_
     rcases hx with ⟨h1,h2⟩|⟨h1,h2⟩
     · rw [←h1,decide_eq_false h0];rfl
     · rw [ha aa,←h1];rfl
 · repeat' (first|refine aO ?_ (bj false rfl rfl (decide_eq_false aa))|refine gs ?_|(refine gp ?_ ?_<;>intro hx_ this)|fail)
   refine ab (ai rfl rfl) ?_
   rw [ha aa,hb (by omega)]
   rfl
end SrG
end Go.Proofs.YtggionfjlgfihaaGreatDoor
namespace Go.Proofs.YtggionfjlgfihaaGreatDoor
open Go Go.Proofs Sy
structure Xl where
 from_:Int
 public_:Int
 home:Int
def Xl.cells (k:Xl):List Value:=[.int .i64 k.from_,.int .i64 k.public_,.int .i64 k.home]
def Xl.v (k:Xl):Value:=.agg k.cells.toArray
def Xl.zero:Xl:=⟨0,0,0⟩
def Keyz (w:World) (s:Xj) (l:List Xl):Prop:=Xe w 3 s (l.map Xl.cells)
theorem Keyz.know {s:Xj} {l:List Xl}:∀ w,Keyz w s l→s.n=l.length∧s.n≤maxLen∧(0<l.length→s.p.isSome=true):=fun w h =>
 ⟨by simpa using Xe.len h,Nat.le_trans (Xe.cap h) (Xe.max h),fun hl=>(Xe.row h 0 l[0].cells (by simp [List.getElem?_eq_getElem hl])).2.1⟩
theorem Keyz.get {w:World} {s:Xj} {l:List Xl} (h:Keyz w s l) {i:Nat} {x:Xl} (hx:l[i]?=some x):x.cells.length=3∧s.p.isSome=true∧∀ j u,x.cells[j]?=some u→CellAt w s.p (i*3+j) u:=Xe.row h i _ (by simp [hx])
namespace Sy
section
variable {P:Program} {N:Nat} {av bor:List Nat} {w0:World} {ops:Array Oper} {rest:List Oper} {E:Env} {loc:List Xk} {X:World→Prop} {k:St→Prop} {ty:TypeId} {pos:String} {af:Array Edge} {g:Option (Nat×Bool)} {bb want:Bool}
end
end Sy
end Go.Proofs.YtggionfjlgfihaaGreatDoor
namespace Go.Proofs.YtggionfjlgfihaaGreatDoor
open Go Go.Proofs Sy Go.Shelf Go.Maps Go.Sort
theorem compS_c:CompC Tryz.prog 31 encStr [] Lib.compact where
 some_:=fun blk off cap ss w h1 h2 h3=>Any.slices_Compact_string Tryz.compS blk off cap ss w h1 h2 h3
 none_:=fun p cap w=>Any.slices_Compact_string_empty Tryz.compS p cap w
 len:=fun ss=>Lib.compact_length_le ss
def encJ (n:Int):Value:=.int .i64 n
theorem sortI_c:SortC Tryz.prog 212 encJ (fun ss=>ss.mergeSort (fun a b=>decide (a≤b))) where
 some_:=fun blk off cap ss w h1 h2 h3=>AnyM.slices_Sort_int Tryz.sortI blk off cap ss w h1 h2 h3
 none_:=fun p cap w=>AnyM.slices_Sort_int_none Tryz.sortI p cap w
 len:=fun ss=>List.length_mergeSort ss
theorem compI_c:CompC Tryz.prog 213 encJ 0 Lib.compact where
 some_:=fun blk off cap ss w h1 h2 h3=>Any.slices_Compact_int Tryz.compI blk off cap ss w h1 h2 h3
 none_:=fun p cap w=>Any.slices_Compact_int_empty Tryz.compI p cap w
 len:=fun ss=>Lib.compact_length_le ss
end Go.Proofs.YtggionfjlgfihaaGreatDoor
namespace Go.Proofs.YtggionfjlgfihaaGreatDoor
open Go Go.Proofs Sy
theorem bD {P:Program} {d:Nat} {xs ys:Array Value} {f:Field} {fs:List Field} {a b:Value} {r q:Bool} {w:World}
  (hn:f.name≠ "_") (ha:(part f.type xs f.offset).run P w=.ok a w) (hb:(part f.type ys f.offset).run P w=.ok b w)
  (hr:(Op.equalIn d f.type a b).run P w=.ok r w) (hq:(Op.eqFields d xs ys fs).run P w=.ok q w) :
  (Op.eqFields d xs ys (f::fs)).run P w=.ok (r&&q) w:=by
 rw [Op.eqFields,if_pos hn]
 simp only [Sem.run_bind,ha,hb,hr,Result.andThen_ok]
 cases r<;>simp [hq]
theorem iR {P:Program} {d:Nat} {xs ys:Array Value} {w:World}:(Op.eqFields d xs ys []).run P w=.ok true w:=by simp [Op.eqFields]
theorem aQ {P:Program} {t:TypeId} {cs:Array Value} {o:Nat} {v:Value} {w:World} [h1:Xy P t] (hx:cs[o]?=some v):(part t cs o).run P w=.ok v w:=by
 have hag:=(bI (Xy.out (P:=P) (t:=t)) w).1
 simp [part,hag,hx]
theorem cS {P:Program} {d:Nat} {t:TypeId} {k:IntKind} {a b:Int} {w:World} [Xw P t k]:(Op.equalIn (d+1) t (.int k a) (.int k b)).run P w=.ok (decide (a=b)) w:=by
 rw [run_equalIn_int (P:=P) w d t k k a b Xw.out]
 congr 1
theorem eR {P:Program} {d:Nat} {t:TypeId} {a b:ByteArray} {w:World} [Eb P t]:(Op.equalIn (d+1) t (.string a) (.string b)).run P w=.ok (seqB a b) w :=
 run_equalIn_string (P:=P) w d t a b Eb.out
theorem oM:Tryz.prog.underlying 35=some (.struct (Tryz.prog.fieldsOf 35)):=by kernel_rfl
theorem qH:Tryz.prog.stoodInHeld 35=false:=by kernel_rfl
theorem we (w:World):(isAgg 35).run Tryz.prog w=.ok true w:=by kernel_rfl
theorem tT (w:World):(Go.sizeOf 35).run Tryz.prog w=.ok 2 w:=by kernel_rfl
theorem gu {cs:Array Value} {o:Nat} {w:World}:(part 35 cs o).run Tryz.prog w=.ok (.agg (cs.extract o (o+2))) w:=by
 simp [part,we,tT]
theorem lD {d:Nat} {a b c e:Int} {w:World}:(Op.equalIn (d+2) 35 (.agg #[.int .i64 a,.int .i64 b]) (.agg #[.int .i64 c,.int .i64 e])).run Tryz.prog w=.ok (decide (a=c)&&(decide (b=e)&&true)) w:=by
 rw [run_equalIn_agg w (d+1) _ _ _ oM qH]
 have hf:(Tryz.prog.fieldsOf 35).toList.map (fun f=>(f.name,f.type,f.offset))=[("E",3,0),("S",3,1)]:=by kernel_rfl
 generalize (Tryz.prog.fieldsOf 35).toList=l at hf
 rcases l with _|⟨⟨n1,t1,o1,_⟩,_|⟨⟨n2,t2,o2,_⟩,_|⟨f3,l⟩⟩⟩
 case cons.cons.nil =>
  simp only [List.map_cons,List.map_nil,List.cons.injEq,Prod.mk.injEq,and_true] at hf
  obtain ⟨⟨rfl,rfl,rfl⟩,rfl,rfl,rfl⟩:=hf
  exact bD (by dsimp only;decide) (aQ rfl) (aQ rfl) cS (bD (by dsimp only;decide) (aQ rfl) (aQ rfl) cS iR)
 all_goals (have:=congrArg List.length hf;simp at this)
def claimEq (a b:Xg):Bool:=seqB a.actor b.actor&&(decide (a.base=b.base)&&(seqB a.prev b.prev&&(decide (a.gen=b.gen)&&(decide (a.home=b.home)&&(decide (a.pub=b.pub)&&(decide (a.time=b.time)&&((decide (a.e=b.e)&&(decide (a.s=b.s)&&true))&&true)))))))
theorem lG:Tryz.prog.underlying 39=some (.struct (Tryz.prog.fieldsOf 39)):=by kernel_rfl
theorem mc:Tryz.prog.stoodInHeld 39=false:=by kernel_rfl
theorem md:Tryz.prog.eqGuardType Tryz.prog.depth 39=false:=by kernel_rfl
theorem oU (w:World) (a b:Xg):(Op.equalIn 10000 39 (.agg a.cells.toArray) (.agg b.cells.toArray)).run Tryz.prog w=.ok (claimEq a b) w:=by
 rw [show (10000:Nat)=9999+1 from rfl,run_equalIn_agg w 9999 _ _ _ lG mc]
 have hf:(Tryz.prog.fieldsOf 39).toList.map (fun f=>(f.name,f.type,f.offset))=[("Actor",9,0),("Base",3,1),("Prev",9,2),("Gen",3,3),("Home",3,4),("Public",3,5),("Time",3,6),("Sig",35,7)]:=by kernel_rfl
 generalize (Tryz.prog.fieldsOf 39).toList=l at hf
 rcases l with _|⟨⟨n1,t1,o1,_⟩,_|⟨⟨n2,t2,o2,_⟩,_|⟨⟨n3,t3,o3,_⟩,_|⟨⟨n4,t4,o4,_⟩,_|⟨⟨n5,t5,o5,_⟩,_|⟨⟨n6,t6,o6,_⟩,_|⟨⟨n7,t7,o7,_⟩,_|⟨⟨n8,t8,o8,_⟩,_|⟨g,l⟩⟩⟩⟩⟩⟩⟩⟩⟩
 case cons.cons.cons.cons.cons.cons.cons.cons.nil =>
  simp only [List.map_cons,List.map_nil,List.cons.injEq,Prod.mk.injEq,and_true] at hf
  obtain ⟨⟨rfl,rfl,rfl⟩,⟨rfl,rfl,rfl⟩,⟨rfl,rfl,rfl⟩,⟨rfl,rfl,rfl⟩,⟨rfl,rfl,rfl⟩,⟨rfl,rfl,rfl⟩,⟨rfl,rfl,rfl⟩,rfl,rfl,rfl⟩:=hf
  exact bD (by dsimp only;decide) (aQ rfl) (aQ rfl) eR (bD (by dsimp only;decide) (aQ rfl) (aQ rfl) cS (bD (by dsimp only;decide) (aQ rfl) (aQ rfl) eR (bD (by dsimp only;decide) (aQ rfl) (aQ rfl) cS (bD (by dsimp only;decide) (aQ rfl) (aQ rfl) cS (bD (by dsimp only;decide) (aQ rfl) (aQ rfl) cS (bD (by dsimp only;decide) (aQ rfl) (aQ rfl) cS (bD (by dsimp only;decide) gu gu lD (iR))))))))
 all_goals (have:=congrArg List.length hf;simp at this)
theorem lS {N:Nat} {av bor:List Nat} {w0:World} {st:St} {ty t2:TypeId} {x y:Operand} {a b:Xg} (hx:ev st.env x=some (.agg a.cells.toArray)) (hy:ev st.env y=some (.agg b.cells.toArray)) :
  Sy.Yields Tryz.prog N av bor w0 st (.binOp .eql 39 x y t2) ty (.bool (claimEq a b)):=Sy.Yields.mk fun A w ok d pos af g=>by
 have h1:=run_eql_struct (P:=Tryz.prog) w 39 a.cells.toArray b.cells.toArray
 rw [oU w a b] at h1
 simp [execOp,ok.eval (st:=st) hx,ok.eval (st:=st) hy,run_eqGuard_agg _ _ _ _ _ _ _ md,h1]
def ballotEq (a b:Xi):Bool:=decide (a.server=b.server)&&(seqB a.actor b.actor&&(decide (a.gen=b.gen)&&(seqB a.claim b.claim&&(decide (a.time=b.time)&&((decide (a.e=b.e)&&(decide (a.s=b.s)&&true))&&true)))))
theorem j4:Tryz.prog.underlying 41=some (.struct (Tryz.prog.fieldsOf 41)):=by kernel_rfl
theorem lO:Tryz.prog.stoodInHeld 41=false:=by kernel_rfl
theorem lP:Tryz.prog.eqGuardType Tryz.prog.depth 41=false:=by kernel_rfl
theorem nK (w:World) (a b:Xi):(Op.equalIn 10000 41 (.agg a.cells.toArray) (.agg b.cells.toArray)).run Tryz.prog w=.ok (ballotEq a b) w:=by
 rw [show (10000:Nat)=9999+1 from rfl,run_equalIn_agg w 9999 _ _ _ j4 lO]
 have hf:(Tryz.prog.fieldsOf 41).toList.map (fun f=>(f.name,f.type,f.offset))=[("Server",3,0),("Actor",9,1),("Gen",3,2),("Claim",9,3),("Time",3,4),("Sig",35,5)]:=by kernel_rfl
 generalize (Tryz.prog.fieldsOf 41).toList=l at hf
 rcases l with _|⟨⟨n1,t1,o1,_⟩,_|⟨⟨n2,t2,o2,_⟩,_|⟨⟨n3,t3,o3,_⟩,_|⟨⟨n4,t4,o4,_⟩,_|⟨⟨n5,t5,o5,_⟩,_|⟨⟨n6,t6,o6,_⟩,_|⟨g,l⟩⟩⟩⟩⟩⟩⟩
 case cons.cons.cons.cons.cons.cons.nil =>
  simp only [List.map_cons,List.map_nil,List.cons.injEq,Prod.mk.injEq,and_true] at hf
  obtain ⟨⟨rfl,rfl,rfl⟩,⟨rfl,rfl,rfl⟩,⟨rfl,rfl,rfl⟩,⟨rfl,rfl,rfl⟩,⟨rfl,rfl,rfl⟩,rfl,rfl,rfl⟩:=hf
  exact bD (by dsimp only;decide) (aQ rfl) (aQ rfl) cS (bD (by dsimp only;decide) (aQ rfl) (aQ rfl) eR (bD (by dsimp only;decide) (aQ rfl) (aQ rfl) cS (bD (by dsimp only;decide) (aQ rfl) (aQ rfl) eR (bD (by dsimp only;decide) (aQ rfl) (aQ rfl) cS (bD (by dsimp only;decide) gu gu lD (iR))))))
 all_goals (have:=congrArg List.length hf;simp at this)
theorem kz {N:Nat} {av bor:List Nat} {w0:World} {st:St} {ty t2:TypeId} {x y:Operand} {a b:Xi} (hx:ev st.env x=some (.agg a.cells.toArray)) (hy:ev st.env y=some (.agg b.cells.toArray)) :
  Sy.Yields Tryz.prog N av bor w0 st (.binOp .eql 41 x y t2) ty (.bool (ballotEq a b)):=Sy.Yields.mk fun A w ok d pos af g=>by
 have h1:=run_eql_struct (P:=Tryz.prog) w 41 a.cells.toArray b.cells.toArray
 rw [nK w a b] at h1
 simp [execOp,ok.eval (st:=st) hx,ok.eval (st:=st) hy,run_eqGuard_agg _ _ _ _ _ _ _ lP,h1]
def ordV (n:Int):Bool:=decide (0≤n)&&decide (n<2305843009213693950)
theorem lq (n:Int):Pu Tryz.prog 178 #[.int .i64 n] (fun _=>True) (.bool (ordV n)):=by
 refine ar Tryz.func178 Tryz.ntmps178 fun av bor w0=>?_
 repeat' (first|refine gs ?_|(refine gp ?_ ?_<;>intro hx_ this)|fail)
 (all_goals (apply ab;apply ai;rfl;rfl));all_goals first|rfl|(simp only [ordV, *,decide_true,decide_false,cond_true,cond_false,Bool.and_true,Bool.true_and,Bool.and_false,Bool.false_and,Bool.not_true,Bool.not_false,Bool.or_true,Bool.true_or,Bool.or_false,Bool.false_or];done)|(simp_all [ordV];done)
def verN (p:Int) (msg:ByteArray) (e s:Int):Bool :=
 bif decide (p<1)||decide (2305843009213693951≤p)||!ordV e||!ordV s then false
 else decide (e=(chalN (expV 37 s.toNat * expV p.toNat (2305843009213693950-e.toNat)%2305843009213693951) p.toNat msg:Nat))
theorem gJ (p:Int) (msg:ByteArray) (e s:Int) (hm:msg.size≤1000000000000):Pu Tryz.prog 116 #[.int .i64 p,.string msg,(Ei.v ⟨e,s⟩)] Xf (.bool (verN p msg e s)):=by
 refine ar Tryz.func116 Tryz.ntmps116 fun av bor w0=>?_
 have hoe:=lq e
 have hos:=lq s
 cases hbad:(decide (p<1)||decide (2305843009213693951≤p)||!ordV e||!ordV s) with
 | true =>
  rw [show verN p msg e s=false from by rw [verN,hbad];rfl]
  repeat' (first|(refine ag (hc:=hoe) ?_)|(refine ag (hc:=hos) ?_)|refine gs ?_|refine gs1 fun _=>?_|(refine gp ?_ ?_<;>intro hx_ this)|fail)
  all_goals first
   | (apply ab;apply ai;rfl;rfl;rfl)
   | (exfalso;simp_all;done)
 | false =>
  have hb:=hbad
  simp only [Bool.or_eq_false_iff,decide_eq_false_iff_not,Bool.not_eq_false'] at hb
  obtain ⟨⟨⟨h1,h2⟩,h3⟩,h4⟩:=hb
  have h3':=h3
  have h4':=h4
  simp only [ordV,Bool.and_eq_true,decide_eq_true_eq] at h3' h4'
  rw [h3] at hoe
  rw [h4] at hos
  obtain ⟨pn,rfl⟩:∃ n:Nat,p=(n:Int):=⟨p.toNat,by omega⟩
  obtain ⟨en,rfl⟩:∃ n:Nat,e=(n:Int):=⟨e.toNat,by omega⟩
  obtain ⟨sn,rfl⟩:∃ n:Nat,s=(n:Int):=⟨s.toNat,by omega⟩
  obtain ⟨d,hd⟩:∃ d,2305843009213693950-en=d:=⟨_,rfl⟩
  have hsub:IntKind.i64.wrap ((2305843009213693950:Int)-(en:Int))=(d:Int):=by
   rw [show (2305843009213693950:Int)-(en:Int)=(d:Int) from by omega]
   exact IntWalk.i64_in _ aa
  have he1:=oc 37 sn aa
  have he2:=oc pn d aa
  obtain ⟨x1,hx1⟩:∃ x,expV 37 sn=x:=⟨_,rfl⟩
  obtain ⟨x2,hx2⟩:∃ x,expV pn d=x:=⟨_,rfl⟩
  rw [hx1] at he1
  rw [hx2] at he2
  have hmu:=rP x1 x2
  obtain ⟨r,hr⟩:∃ r,x1*x2%2305843009213693951=r:=⟨_,rfl⟩
  have hrl:r<2305843009213693951:=by rw [←hr];exact Nat.mod_lt _ (by decide)
  rw [hr] at hmu
  have hch:=td r pn msg aa aa hm
  have hV:verN (pn:Int) msg (en:Int) (sn:Int)=decide (((en:Nat):Int)=(chalN r pn msg:Nat)):=by
   rw [verN,hbad,cond_false,Int.toNat_natCast,Int.toNat_natCast,Int.toNat_natCast,hd,hx1,hx2,hr]
  rw [hV]
  have hbg:¬ (2305843009213693951:Int)≤(pn:Int):=h2
  have hbl:¬ (pn:Int)<1:=h1
  clear hbad hV hr hx1 hx2 hd
  generalize hcn:chalN r pn msg=cn at hch
  repeat' (first|refine aO ?_ (bj false rfl rfl (decide_eq_false hbl))|refine aO ?_ (fX false rfl rfl (decide_eq_false hbg))|(refine ag (hc:=hoe) ?_)|(refine ag (hc:=hos) ?_)|refine gs ?_|refine gs1 fun _=>?_|(refine gp ?_ ?_<;>intro hx_ this)|fail)
  rename_i bs
  (refine ao ⟨[0,1,3,4,5,6],[(2,⟨[],[(7,⟨[],[(8,⟨[9],[]⟩)]⟩)]⟩)]⟩ [cel bs 35 (Ei.cells ⟨(en:Int),(sn:Int)⟩)] Xf (h:=?_))
  all_goals repeat' (first|refine ax (hy:=by first|(apply oA (c:=(d:Int));rfl;rfl;exact hsub)) ?_|(refine ag (hc:=he1) (hX:=fun _ h=>by first|trivial|exact h) ?_)|(refine ag (hc:=he2) (hX:=fun _ h=>by first|trivial|exact h) ?_)|(refine ag (hc:=hmu) (hX:=fun _ h=>by first|trivial|exact h) ?_)|refine gd ?_|refine ay ?_ (h':=?_)|exact az|refine gs1 fun _=>?_|(refine gq ?_ ?_<;>intro hx_ this)|fail)
  all_goals
   repeat' (first|refine gs ?_|refine gs1 fun _=>?_|(refine gp ?_ ?_<;>intro hx_ this)|fail)
   (refine ao ⟨[0,1,2,3,4],[(5,⟨[6,7],[]⟩)]⟩ [cel bs 35 (Ei.cells ⟨(en:Int),(sn:Int)⟩)] Xf (h:=?_))
   all_goals repeat' (first|(refine ag (hc:=hch) ?_)|refine gd ?_|refine ay ?_ (h':=?_)|exact az|refine gs1 fun _=>?_|(refine gq ?_ ?_<;>intro hx_ this)|fail)
   all_goals
    repeat' (first|refine gs ?_|refine gs1 fun _=>?_|(refine gp ?_ ?_<;>intro hx_ this)|fail)
    exact ab (ai rfl rfl) rfl
def verV (p:Int) (a:Xa):Bool:=rightB a&&verN p (actCore a) a.e a.s
theorem iW (p:Int) (a:Xa) (hr:a.Rng):Pu Tryz.prog 72 #[.int .i64 p,a.v] (fun w=>a.at_ w∧Xf w) (.bool (verV p a)):=by
 refine ar Tryz.func72 Tryz.ntmps72 fun av bor w0=>?_
 have hri:=cM a
 cases hR:rightB a with
 | false =>
  rw [hR] at hri
  rw [show verV p a=false from by rw [verV,hR];rfl]
  repeat' (first|refine gs ?_|refine gs1 fun _=>?_|(refine gp ?_ ?_<;>intro hx_ this)|fail)
  rename_i b3
  (refine ao ⟨[0],[(1,⟨[2,3,4,6,7],[(5,⟨[],[(8,⟨[9,10],[]⟩)]⟩)]⟩)]⟩ [cel b3 37 a.cells] (fun w=>a.at_ w∧Xf w) (h:=?_))
  all_goals repeat' (first|(refine ag (hc:=hri) ?_)|refine gd ?_|refine ay ?_ (h':=?_)|exact az|refine gs1 fun _=>?_|(refine gq ?_ ?_<;>intro hx_ this)|fail)
  all_goals
   repeat' (first|refine gs ?_|refine gs1 fun _=>?_|(refine gp ?_ ?_<;>intro hx_ this)|fail)
   exact ab (ai rfl rfl) rfl
 | true =>
  rw [hR] at hri
  have hco:=og a (cP hr)
  have hsz:=fS (cP hr hR)
  rw [hR,cond_true] at hco
  have hve:=gJ p (coreV a) a.e a.s aa
  have hV:verV p a=verN p (coreV a) a.e a.s:=by rw [verV,actCore,hR];rfl
  rw [hV]
  generalize verN p (coreV a) a.e a.s=V at *
  repeat' (first|refine gs ?_|refine gs1 fun _=>?_|(refine gp ?_ ?_<;>intro hx_ this)|fail)
  rename_i b3
  (refine ao ⟨[0],[(1,⟨[2,3,4,6,7],[(5,⟨[],[(8,⟨[9,10],[]⟩)]⟩)]⟩)]⟩ [cel b3 37 a.cells] (fun w=>a.at_ w∧Xf w) (h:=?_))
  all_goals repeat' (first|(refine ag (hc:=hri) ?_)|(refine ag (hc:=hco) ?_)|(refine ag (hc:=hve) ?_)|refine gd ?_|refine ax (hy:=by first|(apply da (vs:=Ei.cells ⟨a.e,a.s⟩);rfl;exact .head _;rfl;rfl)) ?_|refine ay ?_ (h':=?_)|exact az|refine gs1 fun _=>?_|(refine gq ?_ ?_<;>intro hx_ this)|fail)
  all_goals
   repeat' (first|refine gs ?_|refine gs1 fun _=>?_|(refine gp ?_ ?_<;>intro hx_ this)|fail)
   exact ab (ai rfl rfl) rfl
def U8s (w:World) (s:Xj) (l:List Nat):Prop:=Xe w 1 s (l.map fun (n:Nat)=>[.int .u8 (n:Int)])
section
variable {P:Program} {N:Nat} {av bor:List Nat} {w0:World} {st:St} {ty:TypeId} {x y:Operand} {t t2:TypeId} {a b:Nat}
end
structure RowU (n:Nat) where
 k:Nat
 hk:k≤n
 A:Option Addr
 c:Nat
structure S8.Lt (s:S8):Prop where
 a:s.a<4294967296
 b:s.b<4294967296
 c:s.c<4294967296
 d:s.d<4294967296
 e:s.e<4294967296
 f:s.f<4294967296
 g:s.g<4294967296
 h:s.h<4294967296
theorem uF (s:Xj) (l:List ByteArray) (x:ByteArray):Pu Tryz.prog 204 #[s.v,.string x] (fun w=>Strs w s l) (.int .i64 (idxS l x)):=by
 refine ar Tryz.func204 Tryz.ntmps204 fun av bor w0=>?_
 refine aH (p:=s.n=l.length∧s.n≤maxLen∧(0<l.length→s.p.isSome=true)) (fun w h=>⟨h.len_,Nat.le_trans (Xe.cap h) (Xe.max h),h.some_⟩) fun ⟨hl,hm,hp⟩=>?_
 simp only [maxLen] at hm
 repeat' (first|refine gs ?_|fail)
 refine am (ι:=Ed l.length (fun k=>seqB x (l.getD k .empty))) (fun i=>⟨[(0,s.v),(1,.string x),(7,.int .i64 s.n),(8,.int .i64 i.k)],[],fun w=>Strs w s l⟩) (fun i=>l.length-i.k) (Ed.zero _ _) (ae al (aj _) fun _ h=>h) fun i=>?_
 have hik:=i.hk
 repeat' (first|refine gs ?_|(refine gp ?_ ?_<;>intro hx_ this)|fail)
 · have hlt:i.k<l.length:=by omega
   have hp':=hp aa
   repeat' (first|refine gs ?_|(refine aE (q:=i.k) ?_)|(refine cg (hF:=fun w h=>Strs.get h hlt) ?_)|(refine gp ?_ ?_<;>intro hx_ this)|fail)
   · apply ab;apply ai;rfl;rfl
     rw [rp i hlt (by assumption)]
   · exact ⟨i.next hlt (by assumption),(by show l.length-(i.k+1)<l.length-i.k;omega),ae al (aj _) fun _ h=>h⟩
 · apply ab;apply ai;rfl;rfl
   rw [uI i (by omega)]
theorem dW (s:Xj) (l:List ByteArray) (x:ByteArray):Pu Tryz.prog 176 #[s.v,.string x] (fun w=>Strs w s l) (.bool (hasS l x)):=by
 refine ar Tryz.func176 Tryz.ntmps176 fun av bor w0=>?_
 repeat' (first|refine ag (hc:=uF s l x) ?_|refine gs ?_|fail)
 apply ab;apply ai;rfl;rfl
 rw [xC]
theorem jv (c:Xd) (n:Int):Pu Tryz.prog 149 #[c.v,.int .i64 n] (fun _=>True) (.int .i64 (limN n c.acts.n)):=by
 refine ar Tryz.func149 Tryz.ntmps149 fun av bor w0=>?_
 repeat' (first|refine gs ?_|refine gs1 fun _=>?_|fail)
 apply ab;apply ai;rfl;rfl
 congr 1
 unfold limN
 split<;>split<;>omega
def gOk (a:Xa) (sc:Int) (g:ByteArray) (nx:Nat):Bool:=decide (a.kind=16)&&decide (a.scope=sc)&&seqB a.group g&&decide (a.epoch=(nx:Int))
def grantF (l:List Xa) (sc:Int) (g:ByteArray):Nat→Nat×Nat
 | 0=>(0,0)
 | i+1=>bif gOk (l.getD i Xa.zero) sc g (grantF l sc g i).2 then (i,(grantF l sc g i).2+1) else grantF l sc g i
theorem jn (l:List Xa) (sc:Int) (g:ByteArray):∀ k,(grantF l sc g k).2≤k∧(0<(grantF l sc g k).2→(grantF l sc g k).1<k)
 | 0=>⟨Nat.le_refl _,fun h=>absurd h (Nat.lt_irrefl _)⟩
 | k+1=>by
  have ih:=jn l sc g k
  simp only [grantF]
  cases gOk (l.getD k Xa.zero) sc g (grantF l sc g k).2 with
  | true=>exact ⟨by simp only [cond_true];omega,fun _=>by simp only [cond_true];omega⟩
  | false=>exact ⟨by simp only [cond_false];omega,fun h=>by simp only [cond_false] at h ⊢;have:=ih.2 h;omega⟩
def grantV (l:List Xa) (n sc:Int) (g:ByteArray):Nat×Nat:=grantF l sc g (limN n l.length)
theorem vc (c:Xd) (n sc:Int) (g:ByteArray):Pu Tryz.prog 93 #[c.v,.int .i64 n,.int .i64 sc,.string g] (XC c) (.tuple #[.int .i64 ((grantV c.actsL n sc g).1:Nat),.bool (decide ((0:Int)<((grantV c.actsL n sc g).2:Nat)))]):=by
 refine ar Tryz.func93 Tryz.ntmps93 fun av bor w0=>?_
 refine aH XC.know fun ⟨hl,hm,hp,hcap⟩=>?_
 simp only [maxLen] at hm
 have hlim:=iM n c.acts.n
 repeat' (first|refine ag (hc:=jv c n) ?_|refine gs ?_|refine gs1 fun _=>?_|fail)
 rename_i b4
 refine am (ι:=Kth (limN n c.acts.n)) (fun i=>⟨[(2,.int .i64 sc),(3,.string g),(4,.pointer (some ⟨b4,0,none⟩)),(10,.int .i64 ((grantF c.actsL sc g i.k).1:Nat)),(11,.int .i64 ((grantF c.actsL sc g i.k).2:Nat)),(16,.int .i64 (limN n c.acts.n)),(17,.int .i64 i.k)],[cel b4 67 c.cells],XC c⟩) (fun i=>limN n c.acts.n-i.k) ⟨0,Nat.zero_le _⟩
  (ae al (aj _) fun _ h=>h) fun i=>?_
 have hik:=i.hk
 have hg:=(jn c.actsL sc g i.k).1
 repeat' (first|refine gs ?_|refine gs1 fun _=>?_|(refine gp ?_ ?_<;>intro hx_ this)|fail)
 · have hlt:i.k<limN n c.acts.n:=by omega
   have hltL:i.k<c.actsL.length:=by omega
   have hp':=hp aa
   obtain ⟨x,hx⟩:∃ x,c.actsL[i.k]?=some x:=⟨_,List.getElem?_eq_getElem hltL⟩
   have hstep:grantF c.actsL sc g (i.k+1)=bif gOk x sc g (grantF c.actsL sc g i.k).2 then (i.k,(grantF c.actsL sc g i.k).2+1) else grantF c.actsL sc g i.k:=by simp only [grantF,List.getD_eq_getElem?_getD,hx,Option.getD_some]
   repeat' (first|refine gs ?_|refine gs1 fun _=>?_|(refine aE (q:=i.k*20) ?_)|(refine aS (cs:=x.cells) (hF:=fun w h=>Acts.get h.1 hx) ?_)|(refine gp ?_ ?_<;>intro hx_ this)|fail)
   all_goals exact ⟨(⟨i.k+1,hlt⟩:Kth (limN n c.acts.n)),(by show limN n c.acts.n-(i.k+1)<limN n c.acts.n-i.k;omega),ae (by
    simp only [hstep,gOk, *,decide_true,decide_false,cond_true,cond_false,Bool.and_true,Bool.true_and,Bool.and_false,Bool.false_and,Bool.not_true,Bool.not_false,Bool.or_true,Bool.true_or,Bool.or_false,Bool.false_or]
    exact ⟨rfl,rfl,rfl,rfl,rfl,rfl,rfl,trivial⟩) (List.Sublist.cons _ (aj _)) fun _ h=>h⟩
 have hk:i.k=limN n c.acts.n:=by omega
 apply ab;apply dy;rfl;rfl;rfl
 simp only [grantV,←hl]
 rw [hk]
def epochO (l:List Xa) (n sc:Int) (g:ByteArray):Option Xa:=bif decide ((0:Int)<((grantV l n sc g).2:Nat)) then l[(grantV l n sc g).1]? else none
def EpochAt (o:Option Xa) (u:Value) (X:World→Prop):Prop:=∃ s:Xj,u=.tuple #[.int .i64 ((o.map (·.epoch)).getD 0),s.v,.bool o.isSome]∧∀ w,X w→Strs w s ((o.map (·.toL)).getD [])
theorem xR (c:Xd) (hc:Xt c.actsL) (n sc:Int) (g:ByteArray):Mk Tryz.prog 94 #[c.v,.int .i64 n,.int .i64 sc,.string g] (XC c) (EpochAt (epochO c.actsL n sc g)):=by
 refine cC Tryz.func94 Tryz.ntmps94 fun av bor w0=>?_
 refine aH XC.know fun ⟨hl,hm,hp,hcap⟩=>?_
 simp only [maxLen] at hm
 have hgl:=jn c.actsL sc g (limN n c.actsL.length)
 have hlim:=iM n c.actsL.length
 have hO:epochO c.actsL n sc g=bif decide ((0:Int)<((grantV c.actsL n sc g).2:Nat)) then c.actsL[(grantV c.actsL n sc g).1]? else none:=rfl
 have hgp:=vc c n sc g
 change (grantV c.actsL n sc g).2≤_∧(0<(grantV c.actsL n sc g).2→(grantV c.actsL n sc g).1<_) at hgl
 generalize grantV c.actsL n sc g=gv at *
 obtain ⟨k,nx⟩:=gv
 simp only at hgl hgp hO
 repeat' (first|refine ag (hc:=hgp) ?_|refine gs ?_|refine gs1 fun _=>?_|(refine gp ?_ ?_<;>intro hx_ this)|fail)
 · have hz:decide ((0:Int)<(nx:Nat))=false:=by simpa using hx_
   apply ab
   · apply oZ;rfl;rfl;rfl;rfl
   · rw [hO,hz]
     exact ⟨⟨none,0,0⟩,rfl,fun w _=>aJ w 1⟩
 · have hz:decide ((0:Int)<(nx:Nat))=true:=by simpa using hx_
   have hnx:=cI hz
   have hkl:k<c.actsL.length:=by have:=hgl.2 aa;omega
   have hp':=hp aa
   obtain ⟨x,hx⟩:∃ x,c.actsL[k]?=some x:=⟨_,List.getElem?_eq_getElem hkl⟩
   have hxm:x∈c.actsL:=List.mem_of_getElem? hx
   (refine bE ⟨[0,1,2,3,4,5,6,7,8,9,10,11],[(12,⟨[13,14,15],[]⟩)]⟩ (h:=?_))
   all_goals repeat' (first|((refine bm (hc:=eH x.to (strs x.toL) (hc.sm x hxm).to (jc _)) (hX:=fun w h=>(h.1.2 x hxm).1) fun v1 X1 h1=>?_;obtain ⟨s1,rfl,hn1,hw1⟩:=h1))|refine gd ?_|refine ax (hy:=by first|(apply aG (q:=k*20);rfl;rfl;omega;omega;assumption;omega)|(apply cN;rfl;assumption;rfl)|(apply de;rfl;exact fun w h=>(Acts.get h.1 hx).2.2 14 _ rfl)|(apply de;rfl;exact fun w h=>(Acts.get h.1 hx).2.2 9 _ rfl)) ?_|refine ay ?_ (h':=?_)|exact az|refine gs1 fun _=>?_|(refine gq ?_ ?_<;>intro hx_ this)|fail)
   repeat' (first|refine gs ?_|refine gs1 fun _=>?_|(refine gp ?_ ?_<;>intro hx_ this)|fail)
   apply ab
   · apply oZ;rfl;rfl;rfl;rfl
   · rw [hO,hz,cond_true,hx]
     exact ⟨s1,rfl,fun w h=>hw1 w h.1.2⟩
theorem gH {e n:Nat} {v:Value} {ss:List ByteArray}:Ct Tryz.prog 31 #[v] [orow e 1 v n (ss.map encB)] (fun _=>True) fun u R _=>∃ A c,u=.slice A (compB ss).length c∧R=[orow e 1 u (compB ss).length ((compB ss).map encB)]:=by
 have h:=compS_c.ct (e:=e) (n:=n) (v:=v) (ss:=ss.map bl)
 rw [pH ss]
 refine h.mono fun u R X' ⟨A,c,h1,h2⟩=>⟨A,c,?_,?_⟩
 · rw [h1];simp [compB]
 · rw [h2,ie,compB];simp
def circF (l:List Xa) (g:ByteArray):Nat→Option Xa
 | 0=>none
 | i+1=>bif decide ((l.getD i Xa.zero).kind=15)&&seqB (l.getD i Xa.zero).group g then some (l.getD i Xa.zero) else circF l g i
theorem mX {l:List Xa} {g:ByteArray}:∀ {k:Nat} {x:Xa},k≤l.length→circF l g k=some x→x∈l
 | 0,x,_,h=>by cases h
 | k+1,x,hk,h=>by
  simp only [circF] at h
  have h0:l.getD k Xa.zero∈l:=by
   rw [List.getD_eq_getElem?_getD,List.getElem?_eq_getElem (by omega)]
   exact List.getElem_mem aa
  cases hb:(decide ((l.getD k Xa.zero).kind=15)&&seqB (l.getD k Xa.zero).group g) with
  | true=>rw [hb] at h;simp only [cond_true,Option.some.injEq] at h;exact h▸h0
  | false=>rw [hb] at h;exact mX aa h
def listOf (c:Xd) (n sc:Int) (g:ByteArray) (toL:List ByteArray):List ByteArray :=
 bif decide (sc=1) then sortB (tieV c.actsL n).a else bif decide (sc=2) then ((circF c.actsL g (limN n c.actsL.length)).map (·.toL)).getD [] else bif decide (sc=3) then toL else []
def keepM (c:Xd) (bs:List ByteArray) (x:ByteArray):Bool:=!seqB x c.id&&!hasS bs x
def membersV (c:Xd) (n sc:Int) (g:ByteArray) (toL:List ByteArray):List ByteArray:=compB (sortB ((listOf c n sc g toL).filter (keepM c (sortB (tieV c.actsL n).b))))
structure FilS (m:Nat) where
 k:Nat
 hk:k≤m
 A:Option Addr
 c:Nat
def cutK (kl:List Xl) (q:Nat):List Xl:=kl.filter fun k=>decide (k.from_≤(q:Int))
def movN (l:List Xa):Nat:=(l.filter fun a=>decide (a.kind=18)).length
structure CutJ (kl:List Xl) (q:Nat) where
 k:Nat
 hk:k≤kl.length
 n:Nat
 hn:n=(cutK (kl.take k) q).length
 A:Option Addr
 c:Nat
 xs:List Value
 hxs:xs=((cutK (kl.take k) q).map Xl.cells).flatten
structure GenJ (l:List Xa) (q n:Nat) where
 k:Nat
 hk:k≤q
 g:Int
 hg:g=(n:Int)-1-(movN (l.take k):Nat)
def keyF (kl:List Xl) (i:Int):Nat→Option Xl
 | 0=>none
 | j+1=>bif decide ((kl.getD j Xl.zero).from_≤i) then some (kl.getD j Xl.zero) else keyF kl i j
def keyV (n:Nat) (kl:List Xl) (i:Int):Option Xl:=bif decide (i<0)||decide ((n:Int)<i) then none else keyF kl i kl.length
def keyOP (o:Option Xl):Value:=.tuple #[(o.getD Xl.zero).v,.bool o.isSome]
structure KeyI (kl:List Xl) (i:Int) where
 k:Nat
 hk:k≤kl.length
 hs:keyF kl i kl.length=keyF kl i k
theorem qe (c:Xd) (kl:List Xl) (i:Int):Pu Tryz.prog 91 #[c.v,.int .i64 i] (fun w=>c.at_ w∧Keyz w c.keys kl) (keyOP (keyV c.acts.n kl i)):=by
 refine ar Tryz.func91 Tryz.ntmps91 fun av bor w0=>?_
 refine aH (p:=c.keys.n=kl.length∧c.keys.n≤maxLen∧(0<kl.length→c.keys.p.isSome=true)) (fun w h=>Keyz.know w h.2) fun ⟨hkn,hkm,hkp⟩=>?_
 simp only [maxLen] at hkm
 cases hb:(decide (i<0)||decide ((c.acts.n:Int)<i)) with
 | true =>
  rw [show keyV c.acts.n kl i=none from by rw [keyV,hb];rfl]
  repeat' (first|refine gs ?_|refine gs1 fun _=>?_|(refine aM (cs:=Xl.zero.cells) (hf:=by rfl) ?_)|(refine gp ?_ ?_<;>intro hx_ this)|fail)
  all_goals first
   | exact ab (bC rfl rfl rfl aL (by rfl)) rfl
   | (exfalso;simp_all;done)
 | false =>
  have hb':=hb
  simp only [Bool.or_eq_false_iff,decide_eq_false_iff_not] at hb'
  obtain ⟨h0,h1⟩:=hb'
  rw [show keyV c.acts.n kl i=keyF kl i kl.length from by rw [keyV,hb];rfl]
  repeat' (first|refine aO ?_ (bj false rfl rfl (decide_eq_false h0))|refine iu (hab:=h1) ?_|refine gs ?_|refine gs1 fun _=>?_|(refine gp ?_ ?_<;>intro hx_ this)|fail)
  rename_i b2 b4
  refine am (ι:=KeyI kl i) (fun j=>⟨[(1,.int .i64 i),(2,.pointer (some ⟨b2,0,none⟩)),(4,.pointer (some ⟨b4,0,none⟩)),(6,.int .i64 ((j.k:Nat)-1))],[cel b4 137 Xl.zero.cells,cel b2 67 c.cells],fun w=>c.at_ w∧Keyz w c.keys kl⟩) (fun j=>j.k) ⟨c.keys.n,by omega,by rw [hkn]⟩ (ae al (aj _) fun _ h=>h) fun j=>?_
  obtain ⟨k,hk,hs⟩:=j
  simp only
  cases k with
  | zero =>
   rw [hs]
   clear hs
   repeat' (first|refine aO ?_ (fX false rfl rfl (decide_eq_false aa))|refine gs ?_|refine gs1 fun _=>?_|(refine aM (cs:=Xl.zero.cells) (hf:=by rfl) ?_)|(refine gp ?_ ?_<;>intro hx_ this)|fail)
   exact ab (bC rfl rfl rfl aL (by rfl)) rfl
  | succ k =>
   obtain ⟨y,hy⟩:∃ y,kl[k]?=some y:=⟨_,List.getElem?_eq_getElem aa⟩
   have hyD:kl.getD k Xl.zero=y:=by rw [List.getD_eq_getElem?_getD,hy];rfl
   have hkp':=hkp aa
   cases hle:decide (y.from_≤i) with
   | true =>
    rw [hs,show keyF kl i (k+1)=some y from by rw [keyF,hyD,hle];rfl]
    clear hs
    have hle':=cI hle
    repeat' (first|refine aO ?_ (fX true rfl rfl (decide_eq_true aa))|refine cg (q:=k*3) (u:=.int .i64 y.from_) (hF:=fun w h=>(Keyz.get h.2 hy).2.2 0 _ rfl) ?_|refine gs ?_|refine gs1 fun _=>?_|(refine aE (q:=k*3) ?_)|(refine dA ?_)|(refine aS (cs:=y.cells) (hF:=fun w h=>Keyz.get h.2 hy) ?_)|(refine gp ?_ ?_<;>intro hx_ this)|fail)
    all_goals first
     | exact ab (bC rfl rfl rfl aL (by rfl)) rfl
     | (exfalso;omega)
   | false =>
    have hs2:keyF kl i kl.length=keyF kl i k:=by rw [hs,keyF,hyD,hle];rfl
    repeat' (first|refine aO ?_ (fX true rfl rfl (decide_eq_true aa))|refine cg (q:=k*3) (u:=.int .i64 y.from_) (hF:=fun w h=>(Keyz.get h.2 hy).2.2 0 _ rfl) ?_|refine gs ?_|refine gs1 fun _=>?_|(refine aE (q:=k*3) ?_)|(refine dA ?_)|(refine gp ?_ ?_<;>intro hx_ this)|fail)
    all_goals first
     | exact ⟨(⟨k,by omega,hs2⟩:KeyI kl i),Nat.lt_succ_self k,ae ⟨rfl,rfl,rfl,(by show some (Value.int IntKind.i64 (((k+1:Nat):Int)-1-1))=some (Value.int IntKind.i64 ((k:Int)-1));rw [show ((k+1:Nat):Int)-1-1=(k:Int)-1 from by omega]),trivial⟩ (aj _) fun _ h=>h⟩
     | (exfalso;exact absurd (by assumption) (d1 hle))
end Go.Proofs.YtggionfjlgfihaaGreatDoor
namespace Go.Proofs.YtggionfjlgfihaaGreatDoor
open Go Go.Proofs Sy Go.Shelf
namespace Rf4
section
variable {N:Nat} {av bor:List Nat} {w0:World} {st:St} {ty:TypeId} {x y:Operand} {E:Env} {loc:List Xk} {X:World→Prop} {ops:Array Oper} {kk k:St→Prop} {pos:String} {af:Array Edge} {g:Option (Nat×Bool)} {rest:List Oper} {bb want:Bool} {n:Nat} {t t2:TypeId} {d:Option Tmp}
end
end Rf4
namespace Rf4
structure ExS (a e:Nat) where
 x:Nat
 b:Nat
 f:Nat
 hx:x<2305843009213693951
 hf:f≤e
 inv:x*b ^ f%2305843009213693951=a ^ e%2305843009213693951
end Rf4
end Go.Proofs.YtggionfjlgfihaaGreatDoor
namespace Go.Proofs.YtggionfjlgfihaaGreatDoor
open Go Go.Proofs Sy
def ItemTo (b:Xa) (u:Value) (X:World→Prop):Prop:=∃ s1 s2:Xj,u=(ofActI (b.re s1 s2)).v∧s1.n=b.to.n∧s2.n=b.wraps.n∧∀ w,X w→(b.re s1 s2).at_ w
set_option maxRecDepth 20000 in
theorem mD (a:Xa) (hr:a.Rng) (hs:a.Sm):Mk Tryz.prog 20 #[a.v] (Xa.at_ · a) (ItemTo a):=by
 refine cC Tryz.func20 Tryz.ntmps20 fun av bor w0=>?_
 repeat' (first|refine gs ?_|refine gs1 fun _=>?_|fail)
 refine bm (hc:=eH a.to (strs a.toL) hs.to (fun cs hcs=>by simp only [strs,List.mem_map] at hcs;obtain ⟨x,_,rfl⟩:=hcs;rfl)) fun v1 X1 h1=>?_
 obtain ⟨s1,rfl,hn1,hw1⟩:=h1
 repeat' (first|refine gs ?_|refine gs1 fun _=>?_|fail)
 refine bm (hc:=ju a.wraps (a.wrapsL.map Xu.cells) hs.wraps (fun cs hcs=>by simp only [List.mem_map] at hcs;obtain ⟨x,_,rfl⟩:=hcs;rfl)) (hX:=fun w h=>h.1.2) fun v2 X2 h2=>?_
 obtain ⟨s2,rfl,hn2,hw2⟩:=h2
 repeat' (first|refine gs ?_|refine gs1 fun _=>?_|(refine aM ?_)|fail)
 have e1:s1.n=a.to.n:=by rw [hn1,hr.to_len];simp [strs]
 have e2:s2.n=a.wraps.n:=by rw [hn2,hr.wraps_len];simp
 apply ab;refine bx rfl rfl aL ?_
 · rfl
 refine ⟨s1,s2,rfl,e1,e2,fun w h=>⟨?_,?_⟩⟩
 · exact hw1 w h.1.1.2
 · exact hw2 w h.1.2
theorem eV {a:Xa} (h:a.Rng) {s1 s2:Xj} (h1:s1.n=a.to.n) (h2:s2.n=a.wraps.n):(a.re s1 s2).Rng:=⟨h.ints,h.wints,h1.trans h.to_len,h2.trans h.wraps_len⟩
theorem ia {a:Xa} (h:a.Sm) {s1 s2:Xj} (h1:s1.n=a.to.n) (h2:s2.n=a.wraps.n):(a.re s1 s2).Sm:=⟨by show s1.n*16≤_;rw [h1];exact h.to,by show s2.n*64≤_;rw [h2];exact h.wraps,h.target⟩
theorem vM {a:Xa} (p:Int) {s1 s2:Xj} (h1:s1.n=a.to.n) (h2:s2.n=a.wraps.n):verV p (a.re s1 s2)=verV p a:=by
 have hr:=ew h1 h2
 have hc:coreV (a.re s1 s2)=coreV a:=rfl
 have he:(a.re s1 s2).e=a.e:=rfl
 have hs:(a.re s1 s2).s=a.s:=rfl
 simp only [verV,actCore,hr,hc,he,hs]
end Go.Proofs.YtggionfjlgfihaaGreatDoor
namespace Go.Proofs.YtggionfjlgfihaaGreatDoor
open Go Go.Proofs Sy
section
variable {P:Program} {N:Nat} {av bor:List Nat} {w0:World} {st:St} {ty:TypeId} {x y:Operand} {t t2:TypeId} {k:IntKind}
theorem Af {a b:Int} [hI:Xw P t k] (hx:ev st.env x=some (.int k a)) (hy:ev st.env y=some (.int k b)) (hab:b<a):Sy.Yields P N av bor w0 st (.binOp .gtr t x y t2) ty (.bool true):=by
 have h:=jA (P:=P) (N:=N) (av:=av) (bor:=bor) (w0:=w0) (st:=st) (ty:=ty) (t:=t) (t2:=t2) hx hy
 rwa [decide_eq_true hab] at h
theorem Ag {a b:Int} [hI:Xw P t k] (hx:ev st.env x=some (.int k a)) (hy:ev st.env y=some (.int k b)) (hab:¬ b<a):Sy.Yields P N av bor w0 st (.binOp .gtr t x y t2) ty (.bool false):=by
 have h:=jA (P:=P) (N:=N) (av:=av) (bor:=bor) (w0:=w0) (st:=st) (ty:=ty) (t:=t) (t2:=t2) hx hy
 rwa [decide_eq_false hab] at h
end
structure InsI (P:List Xc) (a b:Nat) where
 k:Nat
 h1:a+1≤k
 h2:k≤b∨k=a+1
 Q:List Xc
 hQ:Q.Perm P
structure InsJ (P:List Xc) (a k:Nat) where
 j:Nat
 h1:a≤j
 h2:j≤k
 Q:List Xc
 hQ:Q.Perm P
end Go.Proofs.YtggionfjlgfihaaGreatDoor
namespace Go.Proofs.YtggionfjlgfihaaGreatDoor
open Go Go.Proofs Sy
def leX (a b:ByteArray):Prop:=ltB b a=false
theorem uB {a b c:ByteArray} (h:leX a b) (k:leX b c):leX a c:=by
 rw [leX] at *
 cases hca:ltB c a with
 | false=>rfl
 | true =>
  cases hab:ltB a b with
  | true=>rw [fj hca hab] at k;cases k
  | false =>
   obtain rfl:=gT hab h
   rw [hca] at k
   cases k
theorem zG {a b:ByteArray} (h:cmpB a b<0):leX a b:=by
 rw [cmpB] at h
 cases hab:Op.bytesLess a.toList b.toList with
 | true=>exact uz (show ltB a b=true from hab)
 | false =>
  rw [hab] at h
  cases hs:seqB a b with
  | true=>rw [hs] at h;exact absurd h (by decide)
  | false=>rw [hs] at h;exact absurd h (by decide)
theorem zH {a b:ByteArray} (h:¬ cmpB a b<0):leX b a:=by
 rw [cmpB] at h
 show Op.bytesLess a.toList b.toList=false
 cases hab:Op.bytesLess a.toList b.toList with
 | true=>rw [hab] at h;exact absurd (show (-1:Int)<0 by decide) h
 | false=>rfl
namespace SrP
def rk (P:List Xc) (i:Nat):ByteArray:=(P.getD i Xc.zero).id
theorem rk_get {P:List Xc} {i:Nat} {x:Xc} (h:P[i]?=some x):rk P i=x.id:=by rw [rk,List.getD_eq_getElem?_getD,h];rfl
def Ord (P:List Xc) (k:Nat):Prop:=∀ i l,i<l→l<k→leX (rk P i) (rk P l)
def Ord1 (P:List Xc) (k j:Nat):Prop:=(∀ i l,i<l→l≤k→i≠j→l≠j→leX (rk P i) (rk P l))∧∀ l,j<l→l≤k→leX (rk P j) (rk P l)
theorem yU {P:List Xc} {k:Nat} (h:Ord P k):Ord1 P k k:=⟨fun i l h1 h2 _ h4=>h i l h1 aa,fun l h1 h2=>by omega⟩
theorem wT {P:List Xc} {k:Nat} (h:Ord1 P k 0):Ord P (k+1):=fun i l h1 h2=>by
 by_cases hi:i=0
 · subst hi
   exact h.2 l h1 aa
 · exact h.1 i l h1 aa hi aa
theorem wU {P:List Xc} {k j:Nat} (h:Ord1 P k j) (hj:j≤k) (h0:0<j) (hle:leX (rk P (j-1)) (rk P j)):Ord P (k+1):=fun i l h1 h2=>by
 by_cases hi:i=j
 · subst hi
   exact h.2 l h1 aa
 · by_cases hl:l=j
   · subst hl
     by_cases hi2:i=l-1
     · subst hi2
       exact hle
     · exact uB (h.1 i (l-1) aa aa hi aa) hle
   · exact h.1 i l h1 aa hi hl
theorem yQ {P:List Xc} {j:Nat} {x y:Xc} (h0:0<j) (hx:P[j]?=some x) (hy:P[j-1]?=some y) (i:Nat):rk ((P.set j y).set (j-1) x) i=if i=j-1 then x.id else if i=j then y.id else rk P i:=by
 obtain ⟨h1,_⟩:=List.getElem?_eq_some_iff.1 hx
 simp only [rk,List.getD_eq_getElem?_getD,List.getElem?_set,List.length_set]
 by_cases h2:i=j-1
 · rw [if_pos h2,if_pos h2.symm,if_pos (by omega)]
   rfl
 · rw [if_neg h2,if_neg (fun h=>h2 h.symm)]
   by_cases h3:i=j
   · rw [if_pos h3,if_pos h3.symm,if_pos h1]
     rfl
   · rw [if_neg h3,if_neg (fun h=>h3 h.symm)]
theorem up {P:List Xc} {k j:Nat} {x y:Xc} (h:Ord1 P k j) (h0:0<j) (hj:j≤k) (hx:P[j]?=some x) (hy:P[j-1]?=some y) (hle:leX x.id y.id):Ord1 ((P.set j y).set (j-1) x) k (j-1):=by
 have hr:=yQ h0 hx hy
 have ex:=rk_get hx
 have ey:=rk_get hy
 refine ⟨fun i l h1 h2 h3 h4=>?_,fun l h1 h2=>?_⟩
 · rw [hr i,hr l,if_neg h3,if_neg h4]
   by_cases hi:i=j
   · subst hi
     rw [if_pos rfl,if_neg aa,←ey]
     exact h.1 (i-1) l aa h2 aa aa
   · rw [if_neg hi]
     by_cases hl:l=j
     · subst hl
       rw [if_pos rfl,←ey]
       exact h.1 i (l-1) aa aa hi aa
     · rw [if_neg hl]
       exact h.1 i l h1 h2 hi hl
 · rw [hr (j-1),hr l,if_pos rfl,if_neg (by omega)]
   by_cases hl:l=j
   · rw [if_pos hl]
     exact hle
   · rw [if_neg hl,←ex]
     exact h.2 l aa h2
def SortAt (s:Xj) (P:List Xc) (u:Value) (R:List Xk) (X:World→Prop):Prop:=u=.tuple #[]∧∃ Q:List Xc,(Q.Perm P∧Ord Q Q.length)∧R=[postR s Q]
structure InsI (P:List Xc) where
 k:Nat
 h1:1≤k
 h2:k≤P.length∨k=1
 Q:List Xc
 hQ:Q.Perm P
 ho:Ord Q k
structure InsJ (P:List Xc) (k:Nat) where
 j:Nat
 h2:j≤k
 Q:List Xc
 hQ:Q.Perm P
 ho:Ord1 Q k j
theorem bY (s:Xj) (P:List Xc) (hs:s.n=P.length) (hm:s.n≤1000000) :
  Ct Tryz.prog 137 #[s.v,.int .i64 ((0:Nat):Int),.int .i64 (s.n:Nat),cmpF] [postR s P] (fun _=>True) (SortAt s P):=by
 refine bT Tryz.func137 Tryz.ntmps137 fun av bor w0=>?_
 refine bH (r:=postR s P) ap (p:=0<s.n→s.p.isSome=true) (fun w h hn=>bu h hn) fun hp=>?_
 repeat' (first|refine nA (q:=1) (hq:=by omega) ?_|refine gs ?_|(refine gp ?_ ?_<;>intro hx_ this)|fail)
 refine am (ι:=InsI P) (fun i=>⟨[(0,s.v),(1,.int .i64 ((0:Nat):Int)),(2,.int .i64 (s.n:Nat)),(3,cmpF),(8,.int .i64 (i.k:Nat))],[postR s i.Q],fun _=>True⟩) (fun i=>s.n-i.k) ⟨1,Nat.le_refl _,.inr rfl,P,List.Perm.refl _,fun i l h1 h2=>by omega⟩ (ae al (aj _) fun _ h=>h) fun i=>?_
 obtain ⟨k,h1,h2,Q,hQ,ho⟩:=i
 simp only
 have hl:=hQ.length_eq
 repeat' (first|refine gs ?_|(refine gp ?_ ?_<;>intro hx_ this)|fail)
 · have hkb:k<s.n:=by omega
   refine am (ι:=InsJ P k) (fun i=>⟨[(0,s.v),(1,.int .i64 ((0:Nat):Int)),(2,.int .i64 (s.n:Nat)),(3,cmpF),(8,.int .i64 (k:Nat)),(9,.int .i64 (i.j:Nat))],[postR s i.Q],fun _=>True⟩) (fun i=>i.j) ⟨k,Nat.le_refl _,Q,hQ,yU ho⟩ (ae al (aj _) fun _ h=>h) fun i=>?_
   obtain ⟨j,h4,Q2,hQ2,ho2⟩:=i
   simp only
   have hl2:=hQ2.length_eq
   have hp':=hp aa
   by_cases hja:0<j
   · obtain ⟨x,hx⟩:∃ x,Q2[j]?=some x:=⟨_,List.getElem?_eq_getElem aa⟩
     obtain ⟨y,hy⟩:∃ y,Q2[j-1]?=some y:=⟨_,List.getElem?_eq_getElem aa⟩
     have hcm:=dw x y
     have hlt:cmpB x.id y.id<0→leX x.id y.id:=zG
     have hge:¬ cmpB x.id y.id<0→leX y.id x.id:=zH
     generalize cmpB x.id y.id=z at *
     apply cw_seq
     apply cw_seq
     unfold cmpF
     (refine ao ⟨[0,1,2,3,4,5,6,7,9,10,11,12],[(8,⟨[],[(13,⟨[],[(14,⟨[15,16],[]⟩)]⟩)]⟩),(13,⟨[],[(8,⟨[],[(14,⟨[15,16],[]⟩)]⟩)]⟩)]⟩ [] (fun _=>True) (h:=?_))
     all_goals repeat' (first|refine ax (hy:=by first|(apply Af;rfl;rfl;omega)) ?_|(refine ag (hc:=hcm) ?_)|refine gd ?_|refine ax (hy:=by first|(apply aG (q:=j*11);rfl;rfl;omega;omega;assumption;(first|rfl|omega))|(apply aG (q:=(j-1)*11);rfl;rfl;omega;omega;assumption;(first|rfl|omega))) ?_|refine ay ?_ (h':=?_)|exact az|(refine ak (bq (i:=j) (P:=Q2) rfl ap aa hx) rfl rfl rfl ?_)|(refine ak (bq (i:=j-1) (P:=Q2) rfl ap aa hy) rfl rfl rfl ?_)|(refine gq ?_ ?_<;>intro hx_ this)|fail)
     all_goals
      repeat' (first|refine gs ?_|(refine gp ?_ ?_<;>intro hx_ this)|fail)
      · (refine ao ⟨[0,1,2,3,4,5,6,7,8,10,11,12],[(9,⟨[],[(13,⟨[14],[(15,⟨[16],[(17,⟨[],[]⟩)]⟩)]⟩)]⟩),(13,⟨[],[(9,⟨[14],[(15,⟨[16],[(17,⟨[],[]⟩)]⟩)]⟩)]⟩)]⟩ [] (fun _=>True) (h:=?_))
        all_goals repeat' (first|refine gd ?_|refine ax (hy:=by first|(apply aG (q:=j*11);rfl;rfl;omega;omega;assumption;(first|rfl|omega))|(apply aG (q:=(j-1)*11);rfl;rfl;omega;omega;assumption;(first|rfl|omega))) ?_|refine ay ?_ (h':=?_)|exact az|(refine ak (bq (i:=j) (P:=Q2) rfl ap aa hx) rfl rfl rfl ?_)|(refine ak (bq (i:=j-1) (P:=Q2) rfl ap aa hy) rfl rfl rfl ?_)|((refine bO (i:=j) (p:=y) rfl rfl aa (by first|omega|(simp only [List.length_set];omega)) (At.here _) rfl aq rfl ?_))|((refine bO (i:=j-1) (p:=x) rfl rfl aa (by first|omega|(simp only [List.length_set];omega)) (At.here _) rfl aq rfl ?_))|(refine gq ?_ ?_<;>intro hx_ this)|fail)
        all_goals
         repeat' (first|refine yy (q:=1) (hq:=by omega) ?_|refine gs ?_|(refine gp ?_ ?_<;>intro hx_ this)|fail)
         exact ⟨(⟨j-1,by omega,(Q2.set j y).set (j-1) x,(cU hx hy).trans hQ2,up ho2 hja h4 hx hy (hlt (by first|assumption|omega))⟩:InsJ P k),(by show j-1<j;omega),ae al (aj _) fun _ h=>h⟩
      · repeat' (first|refine nA (q:=1) (hq:=by omega) ?_|refine gs ?_|(refine gp ?_ ?_<;>intro hx_ this)|fail)
        exact ⟨(⟨k+1,by omega,by omega,Q2,hQ2,wU ho2 h4 hja (by rw [rk_get hx,rk_get hy];exact hge (by first|assumption|omega))⟩:InsI P),(by show s.n-(k+1)<s.n-k;omega),ae al (aj _) fun _ h=>h⟩
   · apply cw_seq
     apply cw_seq
     unfold cmpF
     (refine ao ⟨[0,1,2,3,4,5,6,7,9,10,11,12],[(8,⟨[],[(13,⟨[],[(14,⟨[15,16],[]⟩)]⟩)]⟩),(13,⟨[],[(8,⟨[],[(14,⟨[15,16],[]⟩)]⟩)]⟩)]⟩ [] (fun _=>True) (h:=?_))
     all_goals repeat' (first|refine ax (hy:=by first|(apply Ag;rfl;rfl;omega)) ?_|refine gd ?_|refine ay ?_ (h':=?_)|exact az|(refine gq ?_ ?_<;>intro hx_ this)|fail)
     all_goals
      repeat' (first|refine nA (q:=1) (hq:=by omega) ?_|refine gs ?_|(refine gp ?_ ?_<;>intro hx_ this)|fail)
      exact ⟨(⟨k+1,by omega,by omega,Q2,hQ2,by have e:j=0:=aa;subst e;exact wT ho2⟩:InsI P),(by show s.n-(k+1)<s.n-k;omega),ae al (aj _) fun _ h=>h⟩
 · exact aI (aA rfl) ⟨rfl,Q,⟨hQ,fun i l h5 h6=>ho i l h5 aa⟩,rfl⟩
theorem d4 (s:Xj) (P:List Xc) (hs:s.n=P.length) (h1:s.n≤19):Ct Tryz.prog 81 #[s.v,.int .i64 (s.n:Nat),cmpF] [postR s P] (fun _=>True) (SortAt s P):=by
 refine bT Tryz.func81 Tryz.ntmps81 fun av bor w0=>?_
 repeat' (first|refine gs ?_|fail)
 refine am (ι:=Unit) (fun _=>⟨[(0,s.v),(1,.int .i64 (s.n:Nat)),(2,cmpF),(6,.int .i64 20),(7,.int .i64 0),(8,.int .i64 20)],[postR s P],fun _=>True⟩) (fun _=>0) () (ae al (aj _) fun _ h=>h) fun _=>?_
 repeat' (first|refine gs ?_|(refine gp ?_ ?_<;>intro hx_ this)|fail)
 · exfalso;omega
 refine aZ (pre:=[postR s P]) (fr:=[]) (first:=#[]) (caps:=#[]) (hc:=bY s P hs aa) (hX:=fun _ _=>trivial) (h:=?_)
 rintro v R X' ⟨rfl,Q,hQ,rfl⟩
 repeat' (first|refine gs ?_|fail)
 refine am (ι:=Unit) (fun _=>⟨[(1,.int .i64 (s.n:Nat)),(6,.int .i64 20)],[postR s Q],fun _=>True⟩) (fun _=>0) () (ae al (aj _) fun _ h=>trivial) fun _=>?_
 repeat' (first|refine gs ?_|(refine gp ?_ ?_<;>intro hx_ this)|fail)
 · exfalso;omega
 exact aI (aA rfl) ⟨rfl,Q,hQ,rfl⟩
theorem sortStable_ct (s:Xj) (P:List Xc) (hs:s.n=P.length) (h1:s.n≤19):Ct Tryz.prog 34 #[s.v,cmpF] [postR s P] (fun _=>True) (SortAt s P):=by
 refine bT Tryz.func34 Tryz.ntmps34 fun av bor w0=>?_
 repeat' (first|refine gs ?_|fail)
 refine aZ (pre:=[postR s P]) (fr:=[]) (first:=#[]) (caps:=#[]) (hc:=d4 s P hs h1) (hX:=fun _ _=>trivial) (h:=?_)
 rintro v R X' ⟨rfl,Q,hQ,rfl⟩
 repeat' (first|refine gs ?_|fail)
 exact aI (aA rfl) ⟨rfl,Q,hQ,rfl⟩
end SrP
end Go.Proofs.YtggionfjlgfihaaGreatDoor
namespace Go.Proofs.YtggionfjlgfihaaGreatDoor
open Go Go.Proofs Sy
def numL:Nat→Nat→List Nat
 | 0,_=>[]
 | f+1,n=>bif decide (128≤n) then (128+n%128)::numL f (n/128) else [n]
theorem sw:∀ (f n:Nat),numD f (n:Int)=(numL f n).map fun (n:Nat)=>(n:Int)
 | 0,n=>rfl
 | f+1,n=>by
  rw [numD,numL]
  by_cases h:128≤n
  · have e1:lowD (n:Int)=((128+n%128:Nat):Int):=by
     rw [lowD,show (n:Int).tmod 128=((n%128:Nat):Int) from rfl,show (128:Int)+((n%128:Nat):Int)=((128+n%128:Nat):Int) from by omega,wrap8,Nat.mod_eq_of_lt (by omega)]
    rw [decide_eq_true (show (128:Int)≤(n:Int) by omega),decide_eq_true h,cond_true,cond_true,List.map_cons,e1,show (n:Int).tdiv 128=((n/128:Nat):Int) from rfl,sw f]
  · rw [decide_eq_false (show ¬ (128:Int)≤(n:Int) by omega),decide_eq_false h,cond_false,cond_false,wrap8,Nat.mod_eq_of_lt (by omega)]
    rfl
theorem su:∀ (f n:Nat),∀ x∈numL f n,x<256
 | 0,n,x,h=>(List.not_mem_nil h).elim
 | f+1,n,x,h=>by
  rw [numL] at h
  by_cases h1:128≤n
  · rw [decide_eq_true h1,cond_true] at h
    rcases List.mem_cons.1 h with rfl|h
    · omega
    · exact su f _ x h
  · rw [decide_eq_false h1,cond_false,List.mem_singleton] at h
    omega
theorem gw (n:Nat):nl (numV (n:Int))=numL 10 n:=by
 rw [numV,decide_eq_false aa,cond_false,sw,fi _ (su 10 n)]
theorem fK {n:Int} (h:0≤n):nl (numV n)=numL 10 n.toNat:=by rw [←gw,Int.toNat_of_nonneg h]
def textL (l:List Nat):List Nat:=numL 10 l.length++l
theorem iq (s:ByteArray):nl (textV s)=textL (nl s):=by
 rw [textV,d7,gw,textL,cj]
def boxL (b:Xx):List Nat:=textL (nl b.nonce)++textL (nl b.data)++textL (nl b.tag)
def coreL (a:Xa):List Nat :=
 textL [97,99,116]++(textL (nl a.author)++(numL 10 a.seq.toNat++(textL (nl a.prev)++(numL 10 a.kind.toNat++(numL 10 a.time.toNat++(textL (nl a.object)++(textL (nl a.target)++(numL 10 a.scope.toNat++(textL (nl a.group)++(numL 10 0++(textL (nl a.text)++(boxL a.body++(numL 10 a.epoch.toNat++(numL 10 0++(numL 10 a.n.toNat++numL 10 a.m.toNat)))))))))))))))
structure Xa.Pos (a:Xa):Prop where
 seq:0≤a.seq
 kind:0≤a.kind
 time:0≤a.time
 scope:0≤a.scope
 epoch:0≤a.epoch
 n:0≤a.n
 m:0≤a.m
 toL:a.toL=[]
 wrapsL:a.wrapsL=[]
theorem oi (a:Xa) (h:a.Pos):nl (coreV a)=coreL a:=by
 have e1:nl (⟨#[97,99,116]⟩:ByteArray)=[97,99,116]:=rfl
 have e2:nl ByteArray.empty=[]:=rfl
 simp only [coreV,core5,core4,core3,core2,core1,boxV,listV,h.toL,h.wrapsL,List.map_nil,List.take_nil,cats,List.length_nil,d7,iq,e1,e2,gw,fK h.seq,fK h.kind,fK h.time,fK h.scope,fK h.epoch,fK h.n,fK h.m,List.append_assoc,List.append_nil,coreL,boxL]
def hashL (m:List Nat):Nat:=numN (shaL m)
theorem nZ (xs:List ByteArray) (hs:(catB xs).size<2305843009213693952):hashN xs=hashL (xs.flatMap nl):=by
 rw [hashN,qN _ hs,rf,hashL]
def powF:Nat→Nat→Nat→Nat→Nat
 | 0,_,x,_=>x
 | f+1,e,x,s=>fc (bif decide (e%2=1) then x*s%2305843009213693951 else x) fun x'=>fc (s*s%2305843009213693951) fun s'=>fc (e/2) fun e'=>powF f e' x' s'
theorem sf (a e:Nat):∀ (f i:Nat),powF f (e/2 ^ i) (expF a e i).1 (expF a e i).2=(expF a e (i+f)).1
 | 0,i=>rfl
 | f+1,i=>by
  have ih:=sf a e f (i+1)
  rw [powF,lB,lB,lB,Nat.div_div_eq_div_mul,←Nat.pow_succ,show i+(f+1)=i+1+f by omega,←ih]
  rfl
def powL (a e:Nat):Nat:=powF (Lib.bitLen e) e 1 (a%2305843009213693951)
theorem od (a e:Nat):expV a e=powL a e:=by
 have h:=sf a e (Lib.bitLen e) 0
 rw [Nat.pow_zero,Nat.div_one,Nat.zero_add] at h
 exact h.symm
theorem lj {n:Nat} (h:n≤1000000):n<2305843009213693952:=by omega
def nonceL (S:Nat) (m:List Nat):Nat:=reduceN (hashL (textL [110,111,110,99,101]++(numL 10 S++textL m)))
theorem pA (S:Nat) (msg:ByteArray) (hl:(nl msg).length≤100000):nonceN (S:Int) msg=nonceL S (nl msg):=by
 have h1:=aD ⟨#[110,111,110,99,101]⟩
 have h2:=aw (S:Int)
 have h3:=aD msg
 have h5:(⟨#[110,111,110,99,101]⟩:ByteArray).size=5:=rfl
 rw [cj] at hl
 rw [nonceN,nonceL,nonceP,nZ _ (lj (by
  rw [eI]
  simp only [List.map_cons,List.map_nil,List.sum_cons,List.sum_nil]
  omega))]
 have e:nl (⟨#[110,111,110,99,101]⟩:ByteArray)=[110,111,110,99,101]:=rfl
 simp only [List.flatMap_cons,List.flatMap_nil,iq,gw,List.append_nil,e]
def chalL (r p:Nat) (m:List Nat):Nat:=hashL (textL [115,105,103,110]++(numL 10 r++(numL 10 p++textL m)))%2305843009213693950
theorem te (r p:Nat) (msg:ByteArray) (hl:(nl msg).length≤100000):chalN r p msg=chalL r p (nl msg):=by
 have h1:=aD ⟨#[115,105,103,110]⟩
 have h2:=aw (r:Int)
 have h4:=aw (p:Int)
 have h3:=aD msg
 have h5:(⟨#[115,105,103,110]⟩:ByteArray).size=4:=rfl
 rw [cj] at hl
 rw [chalN,chalL,chalP,nZ _ (lj (by
  rw [eI]
  simp only [List.map_cons,List.map_nil,List.sum_cons,List.sum_nil]
  omega))]
 have e:nl (⟨#[115,105,103,110]⟩:ByteArray)=[115,105,103,110]:=rfl
 simp only [List.flatMap_cons,List.flatMap_nil,iq,gw,List.append_nil,e]
theorem lF (a:Xa) (g g':Ei):coreV (a.sig g)=coreV (a.sig g'):=rfl
theorem sX {a:Xa} (hr:rightB a=true) {m:List Nat} (hm:nl (coreV a)=m) (hm0:m.length≠0) (hl:m.length≤100000) {E G:Nat} (he:a.e=(E:Nat)) (hs:a.s=(G:Nat)) {D:ByteArray} (h:shaL (0::(m++(numL 10 E++numL 10 G)))=nl D):digV a=D:=by
 subst hm
 have hsz:(coreV a).size=(nl (coreV a)).length:=(cj _).symm
 have e1:actCore a=coreV a:=by rw [actCore,hr,cond_true]
 have e2:actBytes a=coreV a++numV a.e++numV a.s:=by rw [actBytes,e1,cO,decide_eq_false aa,cond_false]
 have e3:bytesV a=numV 0++(coreV a++numV a.e++numV a.s):=by rw [bytesV,hr,cond_true,e2]
 have e4:nl (bytesV a)=0::(nl (coreV a)++(numL 10 E++numL 10 G)):=by
  rw [e3,d7,d7,d7,he,hs,gw,gw,List.append_assoc]
  rfl
 have e5:(bytesV a).size=(nl (coreV a)).length+(numL 10 E++numL 10 G).length+1:=by rw [←cj,e4,List.length_cons,List.length_append]
 have e6:∀ f n,(numL f n).length≤f:=fun f=>by
  induction f with
  | zero=>intro n;exact Nat.le_refl 0
  | succ f ih =>
   intro n
   rw [numL]
   cases decide (128≤n) with
   | true=>have:=ih (n/128);rw [cond_true,List.length_cons];omega
   | false=>rw [cond_false,List.length_singleton];omega
 have e7:(bytesV a).size≤1000000:=by
  have h1:=e6 10 E
  have h2:=e6 10 G
  rw [e5,List.length_append]
  omega
 rw [digV,cO,decide_eq_false aa,cond_false]
 apply rc
 rw [qN _ (lj e7),e4,h]
theorem xw {seed:ByteArray} {S P:Nat} (hsz:seed.size≤1000) (h1:reduceN (hashL (textL [107,101,121]++textL (nl seed)))=S) (h2:powL 37 S=P):keyOf seed=⟨(S:Nat),(P:Nat)⟩:=by
 have h3:=aD ⟨#[107,101,121]⟩
 have h4:=aD seed
 have h5:(⟨#[107,101,121]⟩:ByteArray).size=3:=rfl
 have e:nl (⟨#[107,101,121]⟩:ByteArray)=[107,101,121]:=rfl
 have hk:keyN seed=S:=by
  rw [←h1,keyN,keyP,nZ _ (lj (by
   rw [eI]
   simp only [List.map_cons,List.map_nil,List.sum_cons,List.sum_nil]
   omega))]
  simp only [List.flatMap_cons,List.flatMap_nil,iq,List.append_nil,e]
 rw [keyOf,hk,od,h2]
theorem zr {P:Nat} {D:ByteArray} (h:(hexL (shaL (textL [97,99,116,111,114]++numL 10 P))).take 16=nl D):idV (P:Int)=D:=by
 apply rc
 have h3:=aD ⟨#[97,99,116,111,114]⟩
 have h4:=aw (P:Int)
 have h5:(⟨#[97,99,116,111,114]⟩:ByteArray).size=5:=rfl
 have e:nl (⟨#[97,99,116,111,114]⟩:ByteArray)=[97,99,116,111,114]:=rfl
 rw [idV,fL,AW,qN _ (lj (by rw [idText,ByteArray.size_append];omega)),idText,d7,iq,gw,e,←h]
 rfl
theorem jd {k:El} {S P:Nat} (hrk:rightK k=true) (hk:k=⟨(S:Nat),(P:Nat)⟩) {a:Xa} (hr:rightB (a.sig Ei.zero)=true) {m:List Nat} (hm:nl (coreV (a.sig Ei.zero))=m) (hl:m.length≤100000) {K R E G:Nat} (h1:nonceL S m=K) (h2:powL 37 K=R) (h3:chalL R P m=E)
  (h4:(K+E*S%2305843009213693950)%2305843009213693950=G):actSignV k a=a.sig ⟨(E:Nat),(G:Nat)⟩:=by
 subst hm
 have e1:sigE k (coreV (a.sig Ei.zero))=E:=by
  rw [sigE,hk]
  show chalN (expV 37 (nonceN (S:Int) _)) ((P:Int)).toNat _=E
  rw [pA S _ hl,h1,od,h2,Int.toNat_natCast,te _ _ _ hl,h3]
 have e2:sigS k (coreV (a.sig Ei.zero))=G:=by
  rw [sigS,e1,hk]
  show (nonceN (S:Int) _+E*((S:Int)).toNat%2305843009213693950)%2305843009213693950=G
  rw [pA S _ hl,h1,Int.toNat_natCast,h4]
 rw [actSignV,hr,hrk,Bool.and_true,cond_true,signV,hrk,cond_true,e1,e2]
theorem yv {p:Int} {msg:ByteArray} {e s:Int} (h1:decide (p<1)=false) (h2:decide ((2305843009213693951:Int)≤p)=false) (h3:ordV e=true) (h4:ordV s=true)
  (h:(chalN (expV 37 s.toNat * expV p.toNat (2305843009213693950-e.toNat)%2305843009213693951) p.toNat msg:Int)=e):verN p msg e s=true:=by
 rw [verN,h1,h2,h3,h4]
 exact decide_eq_true h.symm
theorem yu {P E G d:Nat} {msg:ByteArray} {m:List Nat} (hm:nl msg=m) (hl:m.length≤100000) {x1 x2 R:Nat} (hP1:1≤P) (hP2:P<2305843009213693951) (hd:E+d=2305843009213693950) (hd0:0<d) (hG:G<2305843009213693950) (h1:powL 37 G=x1) (h2:powL P d=x2) (h3:x1*x2%2305843009213693951=R) (h4:chalL R P m=E) :
  verN (P:Int) msg (E:Int) (G:Int)=true:=by
 subst hm
 have e1:(2305843009213693950:Nat)-E=d:=by omega
 refine yv (decide_eq_false aa) (decide_eq_false aa) (by rw [ordV,decide_eq_true aa,decide_eq_true (by omega)];rfl) (by rw [ordV,decide_eq_true aa,decide_eq_true (by omega)];rfl) ?_
 rw [Int.toNat_natCast,Int.toNat_natCast,Int.toNat_natCast,e1,od,od,h1,h2,h3,te _ _ _ hl,h4]
def nkK:El:=⟨((361080046605472372:Nat):Int),((2287805972299522828:Nat):Int)⟩
theorem xm:keyOf ⟨#[97]⟩=nkK:=xw (by decide) (by decide +kernel) (by decide +kernel)
theorem eP:rightK nkK=true:=by rw [←xm];exact pL _
def nkI:ByteArray:=⟨#[97,57,100,101,51,99,52,56,49,98,48,50,97,99,54,53]⟩
theorem zT:idV ((2287805972299522828:Nat):Int)=nkI:=zr (by decide +kernel)
def nkU0:Xa:={ Xa.zero with author:=nkI,text:=⟨#[97,110,110]⟩,n:=((2287805972299522828:Nat):Int) }
def nkA0:Xa:=nkU0.sig ⟨((969070982370715422:Nat):Int),((1494031495678606698:Nat):Int)⟩
def nkM0:List Nat:=[3,97,99,116,16,97,57,100,101,51,99,52,56,49,98,48,50,97,99,54,53,0,0,0,0,0,0,0,0,0,3,97,110,110,0,0,0,0,0,140,198,184,175,145,237,250,223,31,0]
theorem Bp:nkU0.Pos:=⟨by decide,by decide,by decide,by decide,by decide,by decide,by decide,rfl,rfl⟩
theorem xi:nl (coreV (nkU0.sig Ei.zero))=nkM0:=(oi nkU0 Bp).trans (by decide +kernel)
theorem sx:nkM0.length=49:=by decide +kernel
theorem Bk:actSignV nkK nkU0=nkA0:=jd eP rfl (by decide +kernel) xi (by rw [sx];decide) (K:=575135974072219164) (R:=24374903102715755) (by decide +kernel) (by decide +kernel) (by decide +kernel) (by decide +kernel)
def nkD0:ByteArray:=⟨#[44,38,166,122,39,168,187,143,132,255,67,202,155,188,227,96,137,65,191,161,227,94,182,139,167,67,206,246,212,205,56,92]⟩
theorem xg:rightB nkA0=true:=by decide +kernel
theorem zS:digV nkA0=nkD0:=sX xg ((congrArg nl (lF nkU0 _ _)).trans xi) (by rw [sx];decide) (by rw [sx];decide) (E:=969070982370715422) (G:=1494031495678606698) rfl rfl (by decide +kernel)
theorem Bg:verN ((2287805972299522828:Nat):Int) (coreV nkA0) ((969070982370715422:Nat):Int) ((1494031495678606698:Nat):Int)=true:=yu (d:=1336772026842978528) (x1:=474056943505715079) (x2:=856046807767542642) (R:=24374903102715755) ((congrArg nl (lF nkU0 _ _)).trans xi) (by rw [sx];decide) (by decide) (by decide) (by decide) (by decide) (by decide) (by decide +kernel) (by decide +kernel) (by decide +kernel) (by decide +kernel)
def nkU1:Xa:={ Xa.zero with author:=nkI,seq:=1,kind:=1,prev:=nkD0,text:=⟨#[111,110,101]⟩ }
def nkA1:Xa:=nkU1.sig ⟨((1745971467665368206:Nat):Int),((249620231030421063:Nat):Int)⟩
def nkM1:List Nat:=[3,97,99,116,16,97,57,100,101,51,99,52,56,49,98,48,50,97,99,54,53,1,32,44,38,166,122,39,168,187,143,132,255,67,202,155,188,227,96,137,65,191,161,227,94,182,139,167,67,206,246,212,205,56,92,1,0,0,0,0,0,0,3,111,110,101,0,0,0,0,0,0,0]
theorem Bo:nkU1.Pos:=⟨by decide,by decide,by decide,by decide,by decide,by decide,by decide,rfl,rfl⟩
theorem zR:nl (coreV (nkU1.sig Ei.zero))=nkM1:=(oi nkU1 Bo).trans (by decide +kernel)
theorem xj:nkM1.length=73:=by decide +kernel
theorem Bj:actSignV nkK nkU1=nkA1:=jd eP rfl (by decide +kernel) zR (by rw [xj];decide) (K:=695578195445469381) (R:=1941076540844116606) (by decide +kernel) (by decide +kernel) (by decide +kernel) (by decide +kernel)
def nkD1:ByteArray:=⟨#[17,103,247,97,40,131,175,42,157,198,69,74,214,207,5,4,192,111,239,234,83,97,172,201,67,58,106,179,44,25,212,1]⟩
theorem Bl:rightB nkA1=true:=by decide +kernel
theorem Bs:digV nkA1=nkD1:=sX Bl ((congrArg nl (lF nkU1 _ _)).trans zR) (by rw [xj];decide) (by rw [xj];decide) (E:=1745971467665368206) (G:=249620231030421063) rfl rfl (by decide +kernel)
def nkU2:Xa:={ Xa.zero with author:=nkI,seq:=2,kind:=14,prev:=nkD1,object:=nkD1,text:=⟨#[116,119,111]⟩ }
def nkA2:Xa:=nkU2.sig ⟨((1131212179145954523:Nat):Int),((1686672710512934773:Nat):Int)⟩
def nkM2:List Nat:=[3,97,99,116,16,97,57,100,101,51,99,52,56,49,98,48,50,97,99,54,53,2,32,17,103,247,97,40,131,175,42,157,198,69,74,214,207,5,4,192,111,239,234,83,97,172,201,67,58,106,179,44,25,212,1,14,0,32,17,103,247,97,40,131,175,42,157,198,69,74,214,207,5,4,192,111,239,234,83,97,172,201,67,58,106,179,44,25,212,1,0,0,0,0,3,116,119,111,0,0,0,0,0,0,0]
theorem Bn:nkU2.Pos:=⟨by decide,by decide,by decide,by decide,by decide,by decide,by decide,rfl,rfl⟩
theorem Bq:nl (coreV (nkU2.sig Ei.zero))=nkM2:=(oi nkU2 Bn).trans (by decide +kernel)
theorem Br:nkM2.length=105:=by decide +kernel
theorem Bi:actSignV nkK nkU2=nkA2:=jd eP rfl (by decide +kernel) Bq (by rw [Br];decide) (K:=1068052025637179317) (R:=1150115755801198409) (by decide +kernel) (by decide +kernel) (by decide +kernel) (by decide +kernel)
theorem AJ:verV ((2287805972299522828:Nat):Int) nkA0=true:=by
 rw [verV,actCore,xg,cond_true,Bool.true_and]
 exact Bg
theorem Bt:seqB nkD0 nkD1=false:=by decide +kernel
def intD (n:Int):Value:=.int .i64 n
theorem va (s:Xj) (L:List Int) (hb:L.length≤1000000):Mk Tryz.prog 22 #[s.v] (fun w=>Ints w s L) (fun u X'=>∃ t:Xj,u=t.v∧∀ w,X' w→Ints w t L):=by
 refine cC Tryz.func22 Tryz.ntmps22 fun av bor w0=>?_
 refine aH (p:=s.n=L.length∧(s.p.isNone=true→L=[])) (fun w h=>⟨h.len_,fun hn=>by have:=h.none_nil hn;simpa using this⟩) fun ⟨hl,hnil⟩=>?_
 have h1:∀ cs∈L.map (fun n=>[intD n]),cs.all (·.oneCell')=true:=fun cs hcs=>by
  obtain ⟨x,_,rfl⟩:=List.mem_map.1 hcs
  rfl
 repeat' (first|refine ir ?_|refine ka fun _=>?_|refine gs ?_|refine gs1 fun _=>?_|(refine gp ?_ ?_<;>intro hx_ this)|fail)
 · refine ab (ai rfl rfl) ⟨⟨none,0,0⟩,rfl,fun w _=>?_⟩
   rw [hnil hx_]
   exact aJ w 1
 refine aC (size:=1) (z:=.int .i64 0) (news:=(L.map (fun n=>[intD n])).flatten) (q:=s.n) rfl rfl rfl rfl (fun _=>At.here _) (fun w G=>eL G.keep.now h1) ?_ ?_ rfl ?_ rfl ?_
 · omega
 · simp only [maxLen];omega
 · rfl
 intro A c
 repeat' (first|refine gs ?_|refine gs1 fun _=>?_|fail)
 refine ab (ai rfl rfl) ⟨⟨A,0+s.n,c⟩,rfl,fun w h=>?_⟩
 exact aV (h.2 _ ap) (by rw [List.length_map];omega) fun r hr=>by
  obtain ⟨x,_,rfl⟩:=List.mem_map.1 hr
  rfl
theorem zf (s:Xj) (L:List Int) (hb:L.length≤1000000):Mk Tryz.prog 5 #[s.v] (fun w=>Ints w s L) (fun u X'=>∃ t:Xj,u=.agg #[t.v,.slice none 0 0]∧∀ w,X' w→Ints w t L):=by
 refine cC Tryz.func5 Tryz.ntmps5 fun av bor w0=>?_
 repeat' (first|refine gs ?_|refine gs1 fun _=>?_|fail)
 refine bm (hc:=va s L hb) fun v X1 h1=>?_
 obtain ⟨t,rfl,hw⟩:=h1
 repeat' (first|refine gs ?_|refine gs1 fun _=>?_|(refine aM (cs:=[t.v,.slice none 0 0]) (hf:=by rfl) ?_)|(refine gp ?_ ?_<;>intro hx_ this)|fail)
 exact ab (bx rfl rfl aL (by rfl)) ⟨t,rfl,fun w h=>hw w h.1.2⟩
end Go.Proofs.YtggionfjlgfihaaGreatDoor
namespace Go.Proofs.YtggionfjlgfihaaGreatDoor
open Go Go.Proofs Sy Go.RowKit Go.Deep Go.ChangeShapes Go.WideShapes
theorem laidOut:laidOutB Tryz.prog=true:=by kernel_rfl
theorem gZ {H:Type} {enc:TypeId×Value→H} {P:Program} (hl:laidOutB P=true) {W W':World} {sp:Nat→Bool}:∀ (ts:List TypeId) (vs:List Value) (ds:List (DataW H)) (ps:List MemPlace),(∀ t∈ts,P.readableRec t=true∧t<P.types.size) →
  DataW.TrodAll enc P W 0 (fun _=>true) true ts vs ds ps→(∀ p∈ps,W.sameAt W' p)→(∀ p∈ps,sp p.block=true)→DataW.TrodAll enc P W' 0 sp true ts vs ds ps
 | [],vs,ds,ps,_,h,_,_=>by
  obtain ⟨rfl,rfl,rfl⟩:=trodAll_nil h
  exact trodAll_mk0
 | t::ts,vs,ds,ps,ht,h,hs,hp=>by
  obtain ⟨v,vs',d,ds',p,q,rfl,rfl,rfl,h1,h2⟩:=trodAll_cons h
  exact trodAll_cons_mk (WideElems.Trod_stays hl (ht t ap).1 (ht t ap).2 h1 (fun x hx=>hs x (List.mem_append_left _ hx)) (fun x hx=>hp x (List.mem_append_left _ hx)))
   (gZ hl ts vs' ds' q (fun u hu=>ht u (List.mem_cons_of_mem _ hu)) h2 (fun x hx=>hs x (List.mem_append_right _ hx)) (fun x hx=>hp x (List.mem_append_right _ hx)))
theorem uO {X:World→Prop} {w:World} (hX:X w) (hk:∀ w':World,(∀ k,k<w.heap.size→w'.heap[k]?=w.heap[k]?)→X w'):Xq [] (fps []) w [] X w :=
 ⟨Fr.refl _ _,fun k hk=>by simp at hk,by simp [fps],fun k hk=>by simp [fps] at hk,fun r hr=>by simp at hr,⟨fun k=>k<w.heap.size,fun k hk=>⟨hk,by simp [fps]⟩,hk⟩⟩
theorem qf {P:Program} {f:FuncId} {args:Array Value} {X:World→Prop} {v:Value} {w:World} (h:Pu P f args X v) (hX:X w) (hk:∀ w':World,(∀ k,k<w.heap.size→w'.heap[k]?=w.heap[k]?)→X w') :
  Calls P f args w fun e w'=>e=.returned v∧Below w.heap.size w w':=by
 unfold Pu at h
 exact (Ct.run h w [] (uO hX hk)).mono fun e w' ⟨u,R,X',he,⟨hu,hR⟩,G⟩=>⟨by rw [he,hu],G.fr.below⟩
theorem laidK:Rows.laid_agora_sum_constants (H:=Unit)=Lib.tabData .u32 kC:=by kernel_rfl
theorem laidI:Rows.laid_agora_sum_initial (H:=Unit)=Lib.tabData .u32 iniC:=by kernel_rfl
theorem lH {W:World} {name:String} {zs:List Int} {g:Nat} (h:Lib.TabIs Tryz.prog W name .u32 zs) (hg:Tryz.prog.globalNamed name=some g):CellsAt g (u32s zs) W:=fun j v hj=>by
 have hj':j<zs.length:=by have:=(List.getElem?_eq_some_iff.1 hj).1;simpa [u32s] using this
 rw [h.cell hg j hj']
 simp only [u32s,List.getElem?_map,List.getElem?_eq_getElem hj',Option.map_some,Option.some.injEq] at hj
 rw [List.getD_eq_getElem?_getD,List.getElem?_eq_getElem hj',←hj]
 rfl
theorem zu {W:World} (h:laidMet Tryz.prog [("agora/sum.constants",Rows.laid_agora_sum_constants),("agora/sum.initial",Rows.laid_agora_sum_initial)] W):Xf W:=by
 rw [laidK,laidI] at h
 have h1:=Lib.tabIs_of_head (g:=1) (t:=184) (e:=116) (n:=64) ac ac Tryz.underlying184 Tryz.underlying116 ac ac h
 obtain ⟨ps,⟨g',t',cs,fuel,p,q,hg',ht',hvar,hd,hrest,hpq⟩,_⟩:=h
 obtain ⟨g2,t2,cs2,fuel2,p2,q2,hg2,ht2,hvar2,hd2,_,_⟩:=hrest
 have h2:Lib.TabIs Tryz.prog W "agora/sum.initial" .u32 iniC:=by
  have e1:Tryz.prog.globalNamed "agora/sum.initial"=some 0:=by kernel_rfl
  have e2:(Tryz.prog.globals[0]?).map (·.type)=some 117:=by kernel_rfl
  obtain rfl:=Option.some.inj (e1.symm.trans hg2)
  obtain rfl:=Option.some.inj (e2.symm.trans ht2)
  unfold Lib.TabIs
  rw [hvar2,←Lib.cells_of_tab Tryz.underlying117 Tryz.underlying116 ac ac hd2]
 exact ⟨lH h2 ac,lH h1 ac⟩
def layRow (l:List Value):Obj→Obj
 | .cells _ t frozen=>.cells l.toArray t frozen
 | o=>o
noncomputable def laidWorld (os:Os):World :=
 { World.holding Tryz.prog os ⟨#[],#[],[]⟩ with heap:=((World.holding Tryz.prog os ⟨#[],#[],[]⟩).heap.modify 0 (layRow (u32s iniC))).modify 1 (layRow (u32s kC)) }
end Go.Proofs.YtggionfjlgfihaaGreatDoor
