/- Joined. -/
import Derived.Test.YtaolfiikahlmkaaGreatDoorX3
import Derived.Shelf.SlIter.Nil
import Derived.Shelf.SlIterI.Nil
import Derived.Shelf.SortM.Plain
import Derived.Shelf.SortM.SortNone
import Derived.Shelf.Slices.CompactS
import Derived.Test.YtaolfiikahlmkaaGreatDoorProg
import Derived.Shelf.Bits.Mul64
import Derived.Shelf.Strconv.Itoa0
import Derived.Shelf.Strings.OnBuilder
set_option linter.unusedVariables false
set_option linter.unusedSimpArgs false
set_option maxHeartbeats 16000000
namespace Go.Proofs.YtaolfiikahlmkaaGreatDoor
open Go Go.Proofs Sy
namespace SrG
section
variable {P:Program} {N:Nat} {av bor:List Nat} {w0:World} {st:St} {ty:TypeId} {x y:Operand} {t t2:TypeId} {k:IntKind}
theorem y_gtrT_g {a b:Int} [hI:TyInt P t k] (hx:ev st.env x=some (.int k a)) (hy:ev st.env y=some (.int k b)) (hab:b<a):Sy.Yields P N av bor w0 st (.binOp .gtr t x y t2) ty (.bool true):=by
 have h:=qI (P:=P) (N:=N) (av:=av) (bor:=bor) (w0:=w0) (st:=st) (ty:=ty) (t:=t) (t2:=t2) hx hy
 rwa [Zd hab] at h
theorem y_gtrF_g {a b:Int} [hI:TyInt P t k] (hx:ev st.env x=some (.int k a)) (hy:ev st.env y=some (.int k b)) (hab:¬ b<a):Sy.Yields P N av bor w0 st (.binOp .gtr t x y t2) ty (.bool false):=by
 have h:=qI (P:=P) (N:=N) (av:=av) (bor:=bor) (w0:=w0) (st:=st) (ty:=ty) (t:=t) (t2:=t2) hx hy
 rwa [Zc hab] at h
end
section
variable {N:Nat} {av bor:List Nat} {w0:World} {st:St} {ty:TypeId} {x y:Operand} {E:Env} {loc:List Res} {X:World→Prop} {ops:Array Oper} {kk k:St→Prop} {pos:String} {af:Array Edge} {g:Option (Nat×Bool)} {rest:List Oper} {bb want:Bool} {n:Nat} {t t2:TypeId} {d:Option Tmp}
theorem aJ [hI:TyInt Tryz.prog t .i64] {p q:Nat} (h:Sw Tryz.prog N av bor w0 ops rest ⟨(n,.int .i64 ((p+q:Nat):Int))::E,loc,X⟩ kk) (hx:ev E x=some (.int .i64 (p:Nat)):=by rfl) (hy:ev E y=some (.int .i64 (q:Nat)):=by rfl) (hq:p+q<9223372036854775808) (hg:gdB ops E g=some (bb,want):=by rfl) (hbb:bb=want:=by exact ao) (hd:Nat.blt n N=true:=by rfl) :
  Sw Tryz.prog N av bor w0 ops (⟨some n,.binOp .add t x y t2,ty,pos,af,g⟩::rest) ⟨E,loc,X⟩ kk:=de (c:=((p+q:Nat):Int)) hx hy (by rw [←Int.natCast_add];exact IntWalk.i64_in _ aa) hg hbb hd h
theorem aU [hI:TyInt Tryz.prog t .i64] {p q:Nat} (h:Sw Tryz.prog N av bor w0 ops rest ⟨(n,.int .i64 ((p-q:Nat):Int))::E,loc,X⟩ kk) (hx:ev E x=some (.int .i64 (p:Nat)):=by rfl) (hy:ev E y=some (.int .i64 (q:Nat)):=by rfl) (hq:q≤p∧p<9223372036854775808) (hg:gdB ops E g=some (bb,want):=by rfl) (hbb:bb=want:=by exact ao) (hd:Nat.blt n N=true:=by rfl) :
  Sw Tryz.prog N av bor w0 ops (⟨some n,.binOp .sub t x y t2,ty,pos,af,g⟩::rest) ⟨E,loc,X⟩ kk:=eJ (c:=((p-q:Nat):Int)) hx hy (by rw [show (p:Int)-(q:Int)=((p-q:Nat):Int) by omega];exact IntWalk.i64_in _ aa) hg hbb hd h
theorem FK (x:Nat):shrV .u64 (x:Int) 1=((x/2:Nat):Int):=by
 show (x:Int).fdiv (2 ^ (min (1:Int).toNat 64))=_
 rw [show (2:Int) ^ (min (1:Int).toNat 64)=((2:Nat):Int) from rfl,←Int.ofNat_fdiv]
theorem di {p:Nat} {x y:Operand} (h:Sw Tryz.prog N av bor w0 ops rest ⟨(n,.int .u64 ((p/2:Nat):Int))::E,loc,X⟩ k) (hx:ev E x=some (.int .u64 (p:Nat)):=by rfl) (hy:ev E y=some (.int .u64 1):=by rfl) (hg:gdB ops E g=some (bb,want):=by rfl) (hbb:bb=want:=by exact ao) (hd:Nat.blt n N=true:=by rfl) :
  Sw Tryz.prog N av bor w0 ops (⟨some n,.binOp .shr t x y t2,ty,pos,af,g⟩::rest) ⟨E,loc,X⟩ k:=tH hx hy (by decide) hg hbb hd (by rw [FK];exact h)
theorem wA {p:Nat} (h:p<9223372036854775808):IntKind.u64.wrap (p:Int)=(p:Int):=by
 simp [IntKind.wrap,IntKind.signed,IntKind.bits]
 omega
theorem sy_toU_g [h1:TyInt Tryz.prog t .i64] [h2:TyInt Tryz.prog t2 .u64] {p:Nat} {x:Operand} (h:Sw Tryz.prog N av bor w0 ops rest ⟨(n,.int .u64 (p:Nat))::E,loc,X⟩ k) (hx:ev E x=some (.int .i64 (p:Nat)):=by rfl) (hq:p<9223372036854775808) (hg:gdB ops E g=some (bb,want):=by rfl) (hbb:bb=want:=by exact ao) (hd:Nat.blt n N=true:=by rfl) :
  Sw Tryz.prog N av bor w0 ops (⟨some n,.convert t t2 x,ty,pos,af,g⟩::rest) ⟨E,loc,X⟩ k:=pC hx (wA hq) hg hbb hd h
theorem sy_toI_g [h1:TyInt Tryz.prog t .u64] [h2:TyInt Tryz.prog t2 .i64] {p:Nat} {x:Operand} (h:Sw Tryz.prog N av bor w0 ops rest ⟨(n,.int .i64 (p:Nat))::E,loc,X⟩ k) (hx:ev E x=some (.int .u64 (p:Nat)):=by rfl) (hq:p<9223372036854775808) (hg:gdB ops E g=some (bb,want):=by rfl) (hbb:bb=want:=by exact ao) (hd:Nat.blt n N=true:=by rfl) :
  Sw Tryz.prog N av bor w0 ops (⟨some n,.convert t t2 x,ty,pos,af,g⟩::rest) ⟨E,loc,X⟩ k:=pC hx (IntWalk.i64_in _ aa) hg hbb hd h
theorem sy_lssF_g {x y:Operand} {k':IntKind} {a b:Int} [hI:TyInt Tryz.prog t k'] (h:Sw Tryz.prog N av bor w0 ops rest ⟨(n,.bool false)::E,loc,X⟩ k) (hx:ev E x=some (.int k' a):=by rfl) (hy:ev E y=some (.int k' b):=by rfl) (hab:¬ a<b) (hg:gdB ops E g=some (bb,want):=by rfl) (hbb:bb=want:=by exact ao) (hd:Nat.blt n N=true:=by rfl) :
  Sw Tryz.prog N av bor w0 ops (⟨some n,.binOp .lss t x y t2,ty,pos,af,g⟩::rest) ⟨E,loc,X⟩ k:=bP (hx:=hx) (hy:=hy) (hg:=hg) (hbb:=hbb) (hd:=hd) (h:=by
   have e:∀ u,u=Value.bool false→Sw Tryz.prog N av bor w0 ops rest ⟨(n,u)::E,loc,X⟩ k:=fun u hu=>hu▸h
   exact e _ (by simp [hab]))
theorem sy_lssT_g {x y:Operand} {k':IntKind} {a b:Int} [hI:TyInt Tryz.prog t k'] (h:Sw Tryz.prog N av bor w0 ops rest ⟨(n,.bool true)::E,loc,X⟩ k) (hx:ev E x=some (.int k' a):=by rfl) (hy:ev E y=some (.int k' b):=by rfl) (hab:a<b:=by (first|decide|omega)) (hg:gdB ops E g=some (bb,want):=by rfl) (hbb:bb=want:=by exact ao) (hd:Nat.blt n N=true:=by rfl) :
  Sw Tryz.prog N av bor w0 ops (⟨some n,.binOp .lss t x y t2,ty,pos,af,g⟩::rest) ⟨E,loc,X⟩ k:=bP (hx:=hx) (hy:=hy) (hg:=hg) (hbb:=hbb) (hd:=hd) (h:=by
   have e:∀ u,u=Value.bool true→Sw Tryz.prog N av bor w0 ops rest ⟨(n,u)::E,loc,X⟩ k:=fun u hu=>hu▸h
   exact e _ (by simp [hab]))
theorem dZ [hI:TyInt Tryz.prog t .i64] {p q:Nat} (h:Sw Tryz.prog N av bor w0 ops rest ⟨(n,.int .i64 ((p*q:Nat):Int))::E,loc,X⟩ k) (hx:ev E x=some (.int .i64 (p:Nat)):=by rfl) (hy:ev E y=some (.int .i64 (q:Nat)):=by rfl) (hq:p*q<9223372036854775808) (hg:gdB ops E g=some (bb,want):=by rfl) (hbb:bb=want:=by exact ao) (hd:Nat.blt n N=true:=by rfl) :
  Sw Tryz.prog N av bor w0 ops (⟨some n,.binOp .mul t x y t2,ty,pos,af,g⟩::rest) ⟨E,loc,X⟩ k:=eK (c:=((p*q:Nat):Int)) hx hy (by rw [←Int.natCast_mul];exact IntWalk.i64_in _ aa) hg hbb hd h
end
structure BinI_g (lo hi:Nat) where
 i:Nat
 j:Nat
 h1:lo≤i
 h2:i≤j
 h3:j≤hi
structure MerI_g (a m b mid:Nat) where
 i:Nat
 j:Nat
 h1:i≤j
 h2:mid<m→mid+m≤i+b∧j≤mid
 h3:m≤mid→a≤i∧j≤m
def cmpB_g (x y:ByteArray):Int:=bif Op.bytesLess x.toList y.toList then -1 else bif !(Op.bytesLess x.toList y.toList||seqB x y) then 1 else 0
theorem uv (x:ByteArray):Pu Tryz.prog 142 #[.string x] (fun _=>True) (.bool false):=by
 refine ak (args:=[_]) _ Tryz.func142 rfl Tryz.ntmps142 rfl fun av bor w0=>?_
 have h:=cF x
 repeat' (first|refine gs ?_|(refine gp ?_ ?_<;>intro hx_ this)|fail)
 apply ad;apply ag;rfl;rfl
 rw [h]
 rfl
theorem gQ (x y:ByteArray):Pu Tryz.prog 84 #[.string x,.string y] (fun _=>True) (.int .i64 (cmpB_g x y)):=by
 refine ak (args:=[_,_]) _ Tryz.func84 rfl Tryz.ntmps84 rfl fun av bor w0=>?_
 repeat' (first|refine ab (hc:=uv _) ?_|refine gs ?_|(refine Db ?_)|(refine De ?_)|(refine gp ?_ ?_<;>intro hx_ this)|fail)
 (all_goals (apply ad;apply ag;rfl;rfl));all_goals first|rfl|(simp only [cmpB_g, *,Zt,Zr,Zf,Ze,Zh,Zg,Zk,Zj,Zn,Zl,Zs,Zm,Zq,Zi];done)|(simp_all [cmpB_g];done)
def cmpI (a b:Int):Int:=bif decide (a<b) then -1 else bif decide (b<a) then 1 else 0
theorem cmpI_self (a:Int):cmpI a a=0:=by simp [cmpI]
def cmp2 (a b:Int) (x y:ByteArray):Int:=bif decide (cmpI a b=0) then cmpB_g x y else cmpI a b
theorem yj (x:Int):Pu Tryz.prog 251 #[.int .i64 x] (fun _=>True) (.bool false):=by
 refine ak (args:=[_]) _ Tryz.func251 rfl Tryz.ntmps251 rfl fun av bor w0=>?_
 repeat' (first|refine ai (eF false rfl rfl (by simp)) rfl ao rfl ?_|refine gs ?_|(refine gp ?_ ?_<;>intro hx_ this)|fail)
 exact ad (ag rfl rfl) rfl
theorem il (x y:Int):Pu Tryz.prog 186 #[.int .i64 x,.int .i64 y] (fun _=>True) (.int .i64 (cmpI x y)):=by
 refine ak (args:=[_,_]) _ Tryz.func186 rfl Tryz.ntmps186 rfl fun av bor w0=>?_
 repeat' (first|refine ab (hc:=yj _) ?_|refine gs ?_|(refine gp ?_ ?_<;>intro hx_ this)|fail)
 (all_goals (apply ad;apply ag;rfl;rfl));all_goals first|rfl|(simp only [cmpI, *,Zt,Zr,Zf,Ze,Zh,Zg,Zk,Zj,Zn,Zl,Zs,Zm,Zq,Zi];done)|(simp_all [cmpI];done)
structure OrI (a b:Int) where
 k:Nat
 hk:k≤2
 ha:0<k→a=0
 hb:1<k→b=0
theorem um (s:SlV) (a b:Int):Pu Tryz.prog 185 #[s.v] (fun w=>Ints w s [a,b]) (.int .i64 (bif decide (a=0) then b else a)):=by
 refine ak (args:=[_]) _ Tryz.func185 rfl Tryz.ntmps185 rfl fun av bor w0=>?_
 refine aP (p:=s.n=2∧s.p.isSome=true) (fun w h=>⟨h.len_,h.some_ (by simp)⟩) fun ⟨hsn,hsp⟩=>?_
 repeat' (first|refine gs ?_|fail)
 refine aq (ι:=OrI a b) (fun i=>⟨[(3,.int .i64 0),(6,s.v),(7,.int .i64 (s.n:Nat)),(8,.int .i64 (i.k:Nat))],[],fun w=>Ints w s [a,b]⟩) (fun i=>2-i.k) ⟨0,Z4 _,fun h=>absurd h (by decide),fun h=>absurd h (by decide)⟩ (aj am (al _) fun _ h=>h) fun i=>?_
 obtain ⟨k,hk,ha,hb⟩:=i
 simp only
 by_cases hlt:k<2
 · have hget:∀ w,Ints w s [a,b]→CellAt w s.p k (.int .i64 ([a,b].getD k 0)):=fun w h=>Ints.get h hlt
   have hx:[a,b].getD k 0=a∧k=0∨[a,b].getD k 0=b∧k=1:=by
    rcases k with _|_|k
    · exact .inl ⟨rfl,rfl⟩
    · exact .inr ⟨rfl,rfl⟩
    · omega
   generalize [a,b].getD k 0=x at *
   by_cases h0:x=0
   · repeat' (first|refine ai (cd true rfl rfl (Zd aa)) rfl ao rfl ?_|refine ai (eF false rfl rfl (by simp [h0])) rfl ao rfl ?_|refine gs ?_|(refine aI (q:=k) ?_)|(refine dc (u:=.int .i64 x) (hF:=hget) ?_)|(refine gp ?_ ?_<;>intro hx_ this)|fail)
     exact ⟨(⟨k+1,hlt,fun _=>by rcases hx with h|h<;>first|omega|exact ha aa,fun _=>by rcases hx with h|h<;>omega⟩:OrI a b),(by show 2-(k+1)<2-k;omega),aj am (al _) fun _ h=>h⟩
   · repeat' (first|refine ai (cd true rfl rfl (Zd aa)) rfl ao rfl ?_|refine ai (eF true rfl rfl (by simp [h0])) rfl ao rfl ?_|refine gs ?_|(refine aI (q:=k) ?_)|(refine dc (u:=.int .i64 x) (hF:=hget) ?_)|(refine gp ?_ ?_<;>intro hx_ this)|fail)
     refine ad (ag rfl rfl) ?_
     rcases hx with ⟨h1,h2⟩|⟨h1,h2⟩
     · rw [←h1,Zc h0];rfl
     · rw [ha aa,←h1];rfl
 · repeat' (first|refine ai (cd false rfl rfl (Zc aa)) rfl ao rfl ?_|refine gs ?_|(refine gp ?_ ?_<;>intro hx_ this)|fail)
   refine ad (ag rfl rfl) ?_
   rw [ha aa,hb (by omega)]
   rfl
end SrG
end Go.Proofs.YtaolfiikahlmkaaGreatDoor
namespace Go.Proofs.YtaolfiikahlmkaaGreatDoor.Sy
open Go Go.RowKit
section
variable {P:Program} {N:Nat} {av bor:List Nat} {w0:World}
variable {loc0:List Res} {X0:World→Prop} {ops:Array Oper} {fuel:Nat} {listed:Array Bool} {E:Env} {loc:List Res} {X:World→Prop} {k:St→Prop} {K:Exit→St→Prop}
variable {n:Nat} {o:Op} {ty:TypeId} {pos:String} {af:Array Edge} {g:Option (Nat×Bool)} {v:Value} {bb want:Bool}
end
end Go.Proofs.YtaolfiikahlmkaaGreatDoor.Sy
namespace Go.Proofs
open Go.Shelf
def Tryz.len64_ren:Go.Shelf.Ren:=⟨fun|129=>172|n=>n,fun|53=>218|3=>3|4=>4|46=>156|5=>5|9=>9|n=>n,fun|n=>n⟩
theorem Tryz.len64:Go.Proofs.Lays.n129 Tryz.prog Tryz.len64_ren:={
 mixed:=by kernel_rfl
 f129:=Tryz.func172.trans (congrArg some (by kernel_rfl))
 t3:=Tryz.underlying3
 a3:=Tryz.isAgg3
 z3:=Tryz.sizeOf3
 v3:=Tryz.zeroValue3
 t4:=Tryz.underlying4
 a4:=Tryz.isAgg4
 z4:=Tryz.sizeOf4
 v4:=Tryz.zeroValue4
 t5:=Tryz.underlying5
 a5:=Tryz.isAgg5
 z5:=Tryz.sizeOf5
 v5:=Tryz.zeroValue5
 t9:=Tryz.underlying9
 a9:=Tryz.isAgg9
 z9:=Tryz.sizeOf9
 v9:=Tryz.zeroValue9
 t46:=Tryz.underlying156
 a46:=Tryz.isAgg156
 z46:=Tryz.sizeOf156
 v46:=Tryz.zeroValue156
 t53:=Tryz.underlying218
 a53:=Tryz.isAgg218
 z53:=Tryz.sizeOf218
 v53:=Tryz.zeroValue218 }
def Tryz.mul64_ren:Go.Shelf.Ren:=⟨fun|264=>266|n=>n,fun|53=>218|46=>156|n=>n,fun|n=>n⟩
theorem Tryz.mul64:Go.Proofs.Lays.n264 Tryz.prog Tryz.mul64_ren:={
 mixed:=by kernel_rfl
 f264:=Tryz.func266.trans (congrArg some (by kernel_rfl))
 t46:=Tryz.underlying156
 a46:=Tryz.isAgg156
 z46:=Tryz.sizeOf156
 v46:=Tryz.zeroValue156
 t53:=Tryz.underlying218
 a53:=Tryz.isAgg218
 z53:=Tryz.sizeOf218
 v53:=Tryz.zeroValue218 }
def Tryz.join_ren:Go.Shelf.Ren:=⟨fun|156=>223|165=>263|166=>264|169=>265|240=>289|241=>290|276=>308|277=>309|n=>n,fun|31=>39|9=>9|3=>3|4=>4|0=>0|20=>20|72=>282|76=>286|70=>280|37=>158|75=>285|127=>310|164=>321|5=>5|80=>288|n=>n,fun|n=>n⟩
theorem Tryz.join:Go.Proofs.Lays.n156 Tryz.prog Tryz.join_ren:={
 mixed:=by kernel_rfl
 f156:=Tryz.func223.trans (congrArg some (by kernel_rfl))
 f165:=Tryz.func263.trans (congrArg some (by kernel_rfl))
 f166:=Tryz.func264.trans (congrArg some (by kernel_rfl))
 f169:=Tryz.func265.trans (congrArg some (by kernel_rfl))
 f240:=Tryz.func289.trans (congrArg some (by kernel_rfl))
 f241:=Tryz.func290.trans (congrArg some (by kernel_rfl))
 f276:=Tryz.func308.trans (congrArg some (by kernel_rfl))
 f277:=Tryz.func309.trans (congrArg some (by kernel_rfl))
 t0:=Tryz.underlying0
 a0:=Tryz.isAgg0
 z0:=Tryz.sizeOf0
 v0:=Tryz.zeroValue0
 t3:=Tryz.underlying3
 a3:=Tryz.isAgg3
 z3:=Tryz.sizeOf3
 v3:=Tryz.zeroValue3
 t4:=Tryz.underlying4
 a4:=Tryz.isAgg4
 z4:=Tryz.sizeOf4
 v4:=Tryz.zeroValue4
 t9:=Tryz.underlying9
 a9:=Tryz.isAgg9
 z9:=Tryz.sizeOf9
 v9:=Tryz.zeroValue9
 t20:=Tryz.underlying20
 a20:=Tryz.isAgg20
 z20:=Tryz.sizeOf20
 v20:=Tryz.zeroValue20
 t31:=Tryz.underlying39
 a31:=Tryz.isAgg39
 z31:=Tryz.sizeOf39
 v31:=Tryz.zeroValue39
 t37:=Tryz.underlying158
 a37:=Tryz.isAgg158
 z37:=Tryz.sizeOf158
 v37:=Tryz.zeroValue158
 t70:=Tryz.underlying280
 a70:=Tryz.isAgg280
 z70:=Tryz.sizeOf280
 v70:=Tryz.zeroValue280
 t72:=Tryz.underlying282
 a72:=Tryz.isAgg282
 z72:=Tryz.sizeOf282
 v72:=Tryz.zeroValue282
 t75:=Tryz.underlying285
 a75:=Tryz.isAgg285
 z75:=Tryz.sizeOf285
 v75:=Tryz.zeroValue285
 t76:=Tryz.underlying286
 a76:=Tryz.isAgg286
 z76:=Tryz.sizeOf286
 v76:=Tryz.zeroValue286
 t127:=Tryz.underlying310
 a127:=Tryz.isAgg310
 z127:=Tryz.sizeOf310
 v127:=Tryz.zeroValue310
 t164:=Tryz.underlying321
 a164:=Tryz.isAgg321
 z164:=Tryz.sizeOf321
 v164:=Tryz.zeroValue321 }
end Go.Proofs
namespace Go.Proofs.YtaolfiikahlmkaaGreatDoor
open Go Go.Proofs Sy Go.Shelf
theorem mS {P:Program} {f:FuncId} {args:Array Value} {X:World→Prop} {v:Value} (h:∀ w,Calls P f args w fun e w'=>e=.returned v∧w'=w):Pu P f args X v:=by
 unfold Pu
 exact Ct.mk fun w av G=>(h w).mono fun e w' ⟨he,hw⟩=>⟨v,[],X,he,⟨rfl,rfl⟩,by subst hw;exact G⟩
theorem r5 (x:Nat) (hx:x<18446744073709551616):Pu Tryz.prog 172 #[.int .u64 (x:Int)] (fun _=>True) (.int .i64 (Lib.bitLen x)) :=
 mS fun w=>by
  have h:=Any.bits_Len64 Tryz.len64 (x:Int) w aa aa
  rw [ZZ] at h
  exact h
theorem rP (x y:Nat) (hx:x<18446744073709551616) (hy:y<18446744073709551616):Pu Tryz.prog 266 #[.int .u64 (x:Int),.int .u64 (y:Int)] (fun _=>True) (.tuple #[.int .u64 ((x*y/18446744073709551616:Nat):Int),.int .u64 ((x*y%18446744073709551616:Nat):Int)]) :=
 mS fun w=>Any.bits_Mul64 Tryz.mul64 x y hx hy w
theorem vU (d:Nat) (hd:d=8∨d=16):Pu Tryz.prog 310 #[.int .u64 ((2305843009213693952-d/8:Nat):Int)] (fun _=>True) (.int .i64 3):=by
 refine ak (args:=[_]) _ Tryz.func310 rfl Tryz.ntmps310 rfl fun av bor w0=>?_
 have h:=r5 (2305843009213693952-d/8) aa
 have e:Lib.bitLen (2305843009213693952-d/8)=61:=by rcases hd with rfl|rfl<;>kernel_rfl
 rw [e] at h
 repeat' (first|(refine ab (hc:=h) (hX:=fun w h=>h) ?_)|refine gs ?_|(refine gp ?_ ?_<;>intro hx_ this)|fail)
 apply ad;apply ag;rfl;rfl
 rfl
namespace Sy
section
variable {P:Program} {N:Nat} {av bor:List Nat} {w0:World} {st:St} {K:Exit→St→Prop}
theorem jT {ι:Type} {id:Nat} (M:ι→St) {x y:Code} (h1:Cw P N av bor w0 x st (blk id (thn (fun s=>∃ i,∀ a w,Ok N av bor w0 s a w→Ok N av bor w0 (M i) a w) K))) (h2:∀ i,Cw P N av bor w0 y (M i) K) :
  Cw P N av bor w0 x st (blk id (thn (fun s=>Cw P N av bor w0 y s K) K)):=qo (fun e s h=>by
 cases e with
 | normal =>
  obtain ⟨i,hi⟩:=h
  exact sR hi (h2 i)
 | exit id' =>
  by_cases e:id'=id
  · simp only [blk,ZO e] at h ⊢
    obtain ⟨i,hi⟩:=h
    exact sR hi (h2 i)
  · simp only [blk,ZP e] at h ⊢
    exact h
 | _=>exact h) h1
end
end Sy
theorem co (x:Int) (h:0≤x∧x<18446744073709551616):IntKind.u64.wrap x=x:=by
 rw [IntKind.wrap_u64]
 omega
theorem zq (x:Int):IntKind.u64.wrap x=x%18446744073709551616:=IntKind.wrap_u64 x
def Eqq (a b:Int):Prop:=a=b
def Hid (p:Prop):Prop:=p
theorem lu (a b c:Int):IntKind.u64.wrap (IntKind.u64.wrap (IntKind.u64.wrap a+b)-IntKind.u64.wrap c)=(a+b-c)%18446744073709551616:=by
 simp only [zq]
 omega
theorem nD {V M Q z:Nat} (h:V=M*Q+z) (hz:z<M):V/M=Q∧V%M=z:=by
 subst h
 exact ⟨by rw [Nat.mul_add_div aa,Nat.div_eq_of_lt hz,ZT],by rw [Nat.mul_add_mod,ZD hz]⟩
theorem and32 (a:Nat) (ha:a<18446744073709551616):bitsV .and .u64 (a:Int) 4294967295=((a%4294967296:Nat):Int):=by
 show IntKind.u64.wrap ((((BitVec.ofInt 64 (a:Int)) &&& (BitVec.ofInt 64 4294967295)).toNat:Nat):Int)=_
 have e:(BitVec.ofInt 64 4294967295).toNat=4294967295:=by decide
 rw [BitVec.toNat_and,e,Qm,Qp,ZD (show a<2 ^ 64 from ha),show (4294967295:Nat)=2 ^ 32-1 by decide,Nat.and_two_pow_sub_one_eq_mod,co _ (by omega)]
theorem shl3 (a:Nat):shlV .u64 (a:Int) 3=((a*8%18446744073709551616:Nat):Int):=by
 show IntKind.u64.wrap ((a:Int)*2 ^ (min (3:Int).toNat 64))=_
 rw [show (2:Int) ^ (min (3:Int).toNat 64)=8 by kernel_rfl,zq]
 omega
theorem oD (a:Nat) {c:Int} (p:Nat) (hp:(2:Int) ^ (min c.toNat 64)=(p:Int)):shrV .u64 (a:Int) c=((a/p:Nat):Int):=by
 show (a:Int).fdiv (2 ^ (min c.toNat 64))=_
 rw [hp,←Int.ofNat_fdiv]
theorem or3 (a b:Nat) (ha:a<2305843009213693952) (hb:b<8):bitsV .or .u64 ((a*8:Nat):Int) (b:Int)=((a*8+b:Nat):Int):=by
 show IntKind.u64.wrap ((((BitVec.ofInt 64 ((a*8:Nat):Int)) ||| (BitVec.ofInt 64 (b:Int))).toNat:Nat):Int)=_
 rw [Qm,Qm,BitVec.toNat_or,Qp,Qp,ZD (show a*8<2 ^ 64 by omega),ZD (show b<2 ^ 64 by omega)]
 have e:a*8 ||| b=a*8+b:=by
  have h:=Nat.shiftLeft_add_eq_or_of_lt (i:=3) (b:=b) hb a
  rw [Nat.shiftLeft_eq] at h
  exact h.symm
 rw [e,co _ (by omega)]
theorem oN (a b:Nat) (ha:a<18446744073709551616) (hb:0<b):IntKind.u64.wrap ((a:Int).tdiv (b:Int))=((a/b:Nat):Int):=by
 have h:(a:Int).tdiv (b:Int)=((a/b:Nat):Int):=by rw [Int.natCast_ediv,Qq (by omega)]
 have:=Nat.div_le_self a b
 rw [h]
 generalize a/b=c at *
 rw [co _ (by omega)]
theorem ju (a b:Nat):(a:Int).tmod (b:Int)=((a%b:Nat):Int):=by rw [Int.natCast_emod,Int.tmod_eq_emod_of_nonneg (by omega)]
theorem fj {u v p r:Nat} (isum:(p+1)*4294967295+r=u) (hu:u<18446744073709551608) (hv:v<4294967296) (h:4294967296≤p+1∨4294967296*r+v<(p+1)*4294967288):u*4294967296+v<(p+1)*18446744073709551608:=by
 rcases h with h|h
 · exact Nat.lt_of_lt_of_le (show u*4294967296+v<4294967296*18446744073709551608 by omega) (QB 18446744073709551608 h)
 · have e:(p+1)*18446744073709551608=(p+1)*4294967295*4294967296+(p+1)*4294967288:=by rw [Nat.mul_assoc,←Nat.mul_add]
   rw [e,←isum,QF,ZH]
   exact Nat.add_lt_add_left (by rw [Nat.mul_comm r];exact h) _
theorem jP {u v p r:Nat} (isum:(p+1)*4294967295+r=u) (hr:4294967296≤r+4294967295) (itop:p+1≤4294967297):p*18446744073709551608≤u*4294967296+v:=by
 have e:p*18446744073709551608=p*4294967295*4294967296+p*4294967288:=by rw [Nat.mul_assoc,←Nat.mul_add]
 have h1:p*4294967288≤4294967296*4294967296:=Nat.mul_le_mul aa (by decide)
 have hu':u=p*4294967295+(r+4294967295):=by
  rw [←isum,Nat.succ_mul,ZH,ZS 4294967295 r]
 rw [hu',QF,e,ZH]
 exact Nat.add_le_add_left (ZY h1 (ZY (QB 4294967296 hr) (Nat.le_add_right _ _))) _
structure DivIP (u v:Nat) where
 q:Nat
 r:Nat
 sum:q*4294967295+r=u
 big:u*4294967296+v<(q+1)*18446744073709551608
 top:q≤4294967297
 lim:r<4294967296
structure DivEP (u v:Nat) where
 q:Nat
 lo:q*18446744073709551608≤u*4294967296+v
 hi:u*4294967296+v<(q+1)*18446744073709551608
set_option maxRecDepth 20000 in
theorem div64P (hi lo:Nat) (hhi:hi<2305843009213693951) (hlo:lo<18446744073709551616) :
  Pu Tryz.prog 291 #[.int .u64 (hi:Int),.int .u64 (lo:Int),.int .u64 2305843009213693951] (fun _=>True)
   (.tuple #[.int .u64 (((hi*18446744073709551616+lo)/2305843009213693951:Nat):Int),.int .u64 (((hi*18446744073709551616+lo)%2305843009213693951:Nat):Int)]):=by
 refine ak (args:=[_,_,_]) _ Tryz.func291 rfl Tryz.ntmps291 rfl fun av bor w0=>?_
 have hz:=vU 8 (by decide)
 repeat' (first|(refine ab (hc:=hz) (hX:=fun w h=>h) ?_)|refine gs ?_|(refine gp ?_ ?_<;>intro hx_ this)|fail)
 · exfalso;omega
 · exfalso;omega
 · have h0:hi=0:=by omega
   subst h0
   have e1:IntKind.u64.wrap ((lo:Int).tdiv 2305843009213693951)=((lo/2305843009213693951:Nat):Int):=oN lo 2305843009213693951 hlo (by decide)
   have e2:(lo:Int).tmod 2305843009213693951=((lo%2305843009213693951:Nat):Int):=ju lo 2305843009213693951
   (refine ar ⟨[0,1,2,3,4,5,6,7],[]⟩ [] (fun _=>True) (h:=?_))
   all_goals repeat' (first|refine gd ?_|refine ay (hy:=by first|(apply lE (c:=((lo/2305843009213693951:Nat):Int));rfl;rfl;decide;exact e1)|(apply om (c:=((lo%2305843009213693951:Nat):Int));rfl;rfl;decide;exact e2)) ?_|refine aA ?_ (h':=?_)|exact aB|(refine gq ?_ ?_<;>intro hx_ this)|fail)
   all_goals
    repeat' (first|refine gs ?_|fail)
    apply ad;apply fi;rfl;rfl;rfl
    rw [Nat.zero_mul,ZU]
 · have e3:IntKind.u64.wrap 3=3:=by kernel_rfl
   have e61:IntKind.u64.wrap (64-3)=61:=by kernel_rfl
   have ey:shlV .u64 2305843009213693951 3=18446744073709551608:=by kernel_rfl
   have ey1:shrV .u64 18446744073709551608 32=4294967295:=by kernel_rfl
   have ey0:bitsV .and .u64 18446744073709551608 4294967295=4294967288:=by kernel_rfl
   have eh:shlV .u64 (hi:Int) 3=((hi*8:Nat):Int):=by rw [shl3,ZD (by omega)]
   have el:shrV .u64 (lo:Int) 61=((lo/2305843009213693952:Nat):Int):=oD lo _ ae
   have eo:bitsV .or .u64 ((hi*8:Nat):Int) ((lo/2305843009213693952:Nat):Int)=((hi*8+lo/2305843009213693952:Nat):Int):=or3 hi _ aa aa
   have e10:shlV .u64 (lo:Int) 3=((lo*8%18446744073709551616:Nat):Int):=shl3 lo
   have hU:(hi*18446744073709551616+lo)*8=(hi*8+lo/2305843009213693952)*18446744073709551616+lo*8%18446744073709551616:=by omega
   have hu:hi*8+lo/2305843009213693952<18446744073709551608:=by omega
   have hv:lo*8%18446744073709551616<18446744073709551616:=Qc _ (by decide)
   simp only [e3,e61,ey,ey1,ey0,eh,el,eo,e10]
   clear e3 e61 ey ey1 ey0 eh el eo e10
   generalize hi*8+lo/2305843009213693952=u at *
   generalize lo*8%18446744073709551616=v at *
   have e1:shrV .u64 (v:Int) 32=((v/4294967296:Nat):Int):=oD v _ ae
   have e0:bitsV .and .u64 (v:Int) 4294967295=((v%4294967296:Nat):Int):=and32 v hv
   obtain ⟨v1,v0,hv1,hv0,hvv,hv1l,hv0l⟩:∃ v1 v0:Nat,v/4294967296=v1∧v%4294967296=v0∧v=v1*4294967296+v0∧v1<4294967296∧v0<4294967296:=⟨_,_,rfl,rfl,by omega,by omega,by omega⟩
   simp only [e1,e0,hv1,hv0]
   clear e1 e0 hv1 hv0
   subst hvv
   obtain ⟨V,hV⟩:∃ V,hi*18446744073709551616+lo=V:=⟨_,rfl⟩
   rw [hV] at hU ⊢
   have hUh:Hid (V*8=u*18446744073709551616+(v1*4294967296+v0)):=hU
   clear hU hV hv hhi hlo
   have hq1:Eqq (IntKind.u64.wrap ((u:Int).tdiv 4294967295)) ((u/4294967295:Nat):Int):=oN u 4294967295 aa (by decide)
   repeat' (first|refine iM (hb:=by decide) (hc:=hq1) ?_|refine eK (hc:=co _ aa) (h:=?_)|refine eJ (hc:=co _ aa) (h:=?_)|refine gs ?_|(refine gp ?_ ?_<;>intro hx_ this)|fail)
   refine jT (ι:=DivEP u v1) (fun i=>⟨[(2,.int .u64 18446744073709551608),(8,.int .u64 3),(9,.int .u64 4294967295),(10,.int .u64 4294967288),(11,.int .u64 (u:Nat)),(13,.int .u64 (v1:Int)),(14,.int .u64 (v0:Int)),(15,.int .u64 (i.q:Nat))],[],fun _=>True⟩) ?_ fun i=>?_
   · refine aq (ι:=DivIP u v1) (fun i=>⟨[(2,.int .u64 18446744073709551608),(8,.int .u64 3),(9,.int .u64 4294967295),(10,.int .u64 4294967288),(11,.int .u64 (u:Nat)),(13,.int .u64 (v1:Int)),(14,.int .u64 (v0:Int)),(15,.int .u64 (i.q:Nat)),(16,.int .u64 (i.r:Nat))],[],fun _=>True⟩) (fun i=>4294967296-i.r) ⟨u/4294967295,u%4294967295,by omega,by omega,by omega,by omega⟩
      (aj ⟨rfl,rfl,rfl,rfl,rfl,rfl,rfl,rfl,by show some (Value.int .u64 ((u:Int)-((u/4294967295:Nat):Int)*4294967295))=some (Value.int .u64 ((u%4294967295:Nat):Int));congr 2;omega,trivial⟩ (Zu _) fun _ h=>h) fun i=>?_
     obtain ⟨q,r,isum,ibig,itop,ilim⟩:=i
     simp only
     repeat' (first|refine eK (hc:=co _ aa) (h:=?_)|refine eJ (hc:=co _ aa) (h:=?_)|refine de (hc:=co _ aa) (h:=?_)|refine gs ?_|(refine gp ?_ ?_<;>intro hx_ this)|fail)
     · cases q with
       | zero=>exfalso;omega
       | succ p =>
        have f2:u*4294967296+v1<(p+1)*18446744073709551608:=fj isum hu hv1l (Or.inl aa)
        have f3:((p+1:Nat):Int)-1=(p:Int):=by omega
        have f1:p*18446744073709551608≤u*4294967296+v1:=jP isum aa itop
        exact ⟨⟨p,f1,f2⟩,aj ⟨rfl,rfl,rfl,rfl,rfl,rfl,rfl,by show some (Value.int .u64 (((p+1:Nat):Int)-1))=some (Value.int .u64 (p:Int));rw [f3],trivial⟩ (Zu _) fun _ h=>h⟩
     · cases q with
       | zero=>exfalso;omega
       | succ p =>
        have f2:u*4294967296+v1<(p+1)*18446744073709551608:=fj isum hu hv1l (Or.inl aa)
        have f3:((p+1:Nat):Int)-1=(p:Int):=by omega
        have g1:p*4294967295+(r+4294967295)=u:=by rw [←isum,Nat.succ_mul,ZH,ZS 4294967295 r]
        have g3:p≤4294967297:=by omega
        have g4:r+4294967295<4294967296:=by omega
        have g5:4294967296-(r+4294967295)<4294967296-r:=by omega
        exact ⟨⟨p,r+4294967295,g1,f2,g3,g4⟩,g5,aj ⟨rfl,rfl,rfl,rfl,rfl,rfl,rfl,by show some (Value.int .u64 (((p+1:Nat):Int)-1))=some (Value.int .u64 (p:Int));rw [f3],rfl,trivial⟩ (Zu _) fun _ h=>h⟩
     · cases q with
       | zero=>exfalso;omega
       | succ p =>
        have f2:u*4294967296+v1<(p+1)*18446744073709551608:=fj isum hu hv1l (Or.inr aa)
        have f3:((p+1:Nat):Int)-1=(p:Int):=by omega
        have f1:p*18446744073709551608≤u*4294967296+v1:=jP isum aa itop
        exact ⟨⟨p,f1,f2⟩,aj ⟨rfl,rfl,rfl,rfl,rfl,rfl,rfl,by show some (Value.int .u64 (((p+1:Nat):Int)-1))=some (Value.int .u64 (p:Int));rw [f3],trivial⟩ (Zu _) fun _ h=>h⟩
     · cases q with
       | zero=>exfalso;omega
       | succ p =>
        have f2:u*4294967296+v1<(p+1)*18446744073709551608:=fj isum hu hv1l (Or.inr aa)
        have f3:((p+1:Nat):Int)-1=(p:Int):=by omega
        have g1:p*4294967295+(r+4294967295)=u:=by rw [←isum,Nat.succ_mul,ZH,ZS 4294967295 r]
        have g3:p≤4294967297:=by omega
        have g4:r+4294967295<4294967296:=by omega
        have g5:4294967296-(r+4294967295)<4294967296-r:=by omega
        exact ⟨⟨p,r+4294967295,g1,f2,g3,g4⟩,g5,aj ⟨rfl,rfl,rfl,rfl,rfl,rfl,rfl,by show some (Value.int .u64 (((p+1:Nat):Int)-1))=some (Value.int .u64 (p:Int));rw [f3],rfl,trivial⟩ (Zu _) fun _ h=>h⟩
     · exact ⟨⟨q,by omega,by omega⟩,aj am (Zu _) fun _ h=>h⟩
   · obtain ⟨q1,q1lo,q1hi⟩:=i
     simp only
     obtain ⟨x,hx,hxY⟩:∃ x:Nat,u*4294967296+v1=q1*18446744073709551608+x∧x<18446744073709551608:=⟨u*4294967296+v1-q1*18446744073709551608,by omega,by omega⟩
     have h17:Eqq (IntKind.u64.wrap (IntKind.u64.wrap (IntKind.u64.wrap ((u:Int)*4294967296)+(v1:Int))-IntKind.u64.wrap ((q1:Int)*18446744073709551608))) (x:Int):=by
      unfold Eqq
      rw [lu,show (u:Int)*4294967296+(v1:Int)-(q1:Int)*18446744073709551608=(x:Int) by omega]
      omega
     have hq0:Eqq (IntKind.u64.wrap ((x:Int).tdiv 4294967295)) ((x/4294967295:Nat):Int):=oN x 4294967295 aa (by decide)
     have hq1l:q1<4294967296:=by omega
     repeat' (first|refine eJ (hc:=h17) (h:=?_)|refine eK (hc:=rfl) (h:=?_)|refine de (hc:=rfl) (h:=?_)|refine gs ?_|(fail)|fail)
     clear h17
     repeat' (first|refine iM (hb:=by decide) (hc:=hq0) ?_|refine eK (hc:=co _ aa) (h:=?_)|refine eJ (hc:=co _ aa) (h:=?_)|refine gs ?_|(refine gp ?_ ?_<;>intro hx_ this)|fail)
     have hxh:Hid (u*4294967296+v1=q1*18446744073709551608+x):=hx
     clear hx q1lo q1hi hu
     refine jT (ι:=DivEP x v0) (fun i=>⟨[(2,.int .u64 18446744073709551608),(8,.int .u64 3),(14,.int .u64 (v0:Int)),(15,.int .u64 (q1:Nat)),(17,.int .u64 (x:Nat)),(18,.int .u64 (i.q:Nat))],[],fun _=>True⟩) ?_ fun i=>?_
     · refine aq (ι:=DivIP x v0) (fun i=>⟨[(2,.int .u64 18446744073709551608),(8,.int .u64 3),(9,.int .u64 4294967295),(10,.int .u64 4294967288),(14,.int .u64 (v0:Int)),(15,.int .u64 (q1:Nat)),(17,.int .u64 (x:Nat)),(18,.int .u64 (i.q:Nat)),(16,.int .u64 (i.r:Nat))],[],fun _=>True⟩) (fun i=>4294967296-i.r) ⟨x/4294967295,x%4294967295,by omega,by omega,by omega,by omega⟩
        (aj ⟨rfl,rfl,rfl,rfl,rfl,rfl,rfl,rfl,by show some (Value.int .u64 ((x:Int)-((x/4294967295:Nat):Int)*4294967295))=some (Value.int .u64 ((x%4294967295:Nat):Int));congr 2;omega,trivial⟩ (Zu _) fun _ h=>h) fun i=>?_
       obtain ⟨q,r,isum,ibig,itop,ilim⟩:=i
       simp only
       repeat' (first|refine eK (hc:=co _ aa) (h:=?_)|refine eJ (hc:=co _ aa) (h:=?_)|refine de (hc:=co _ aa) (h:=?_)|refine gs ?_|(refine gp ?_ ?_<;>intro hx_ this)|fail)
       · cases q with
         | zero=>exfalso;omega
         | succ p =>
          have f2:x*4294967296+v0<(p+1)*18446744073709551608:=fj isum hxY hv0l (Or.inl aa)
          have f3:((p+1:Nat):Int)-1=(p:Int):=by omega
          have f1:p*18446744073709551608≤x*4294967296+v0:=jP isum aa itop
          exact ⟨⟨p,f1,f2⟩,aj ⟨rfl,rfl,rfl,rfl,rfl,by show some (Value.int .u64 (((p+1:Nat):Int)-1))=some (Value.int .u64 (p:Int));rw [f3],trivial⟩ (Zu _) fun _ h=>h⟩
       · cases q with
         | zero=>exfalso;omega
         | succ p =>
          have f2:x*4294967296+v0<(p+1)*18446744073709551608:=fj isum hxY hv0l (Or.inl aa)
          have f3:((p+1:Nat):Int)-1=(p:Int):=by omega
          have g1:p*4294967295+(r+4294967295)=x:=by rw [←isum,Nat.succ_mul,ZH,ZS 4294967295 r]
          have g3:p≤4294967297:=by omega
          have g4:r+4294967295<4294967296:=by omega
          have g5:4294967296-(r+4294967295)<4294967296-r:=by omega
          exact ⟨⟨p,r+4294967295,g1,f2,g3,g4⟩,g5,aj ⟨rfl,rfl,rfl,rfl,rfl,rfl,rfl,by show some (Value.int .u64 (((p+1:Nat):Int)-1))=some (Value.int .u64 (p:Int));rw [f3],rfl,trivial⟩ (Zu _) fun _ h=>h⟩
       · cases q with
         | zero=>exfalso;omega
         | succ p =>
          have f2:x*4294967296+v0<(p+1)*18446744073709551608:=fj isum hxY hv0l (Or.inr aa)
          have f3:((p+1:Nat):Int)-1=(p:Int):=by omega
          have f1:p*18446744073709551608≤x*4294967296+v0:=jP isum aa itop
          exact ⟨⟨p,f1,f2⟩,aj ⟨rfl,rfl,rfl,rfl,rfl,by show some (Value.int .u64 (((p+1:Nat):Int)-1))=some (Value.int .u64 (p:Int));rw [f3],trivial⟩ (Zu _) fun _ h=>h⟩
       · cases q with
         | zero=>exfalso;omega
         | succ p =>
          have f2:x*4294967296+v0<(p+1)*18446744073709551608:=fj isum hxY hv0l (Or.inr aa)
          have f3:((p+1:Nat):Int)-1=(p:Int):=by omega
          have g1:p*4294967295+(r+4294967295)=x:=by rw [←isum,Nat.succ_mul,ZH,ZS 4294967295 r]
          have g3:p≤4294967297:=by omega
          have g4:r+4294967295<4294967296:=by omega
          have g5:4294967296-(r+4294967295)<4294967296-r:=by omega
          exact ⟨⟨p,r+4294967295,g1,f2,g3,g4⟩,g5,aj ⟨rfl,rfl,rfl,rfl,rfl,rfl,rfl,by show some (Value.int .u64 (((p+1:Nat):Int)-1))=some (Value.int .u64 (p:Int));rw [f3],rfl,trivial⟩ (Zu _) fun _ h=>h⟩
       · exact ⟨⟨q,by omega,by omega⟩,aj am (Zu _) fun _ h=>h⟩
     · obtain ⟨q0,q0lo,q0hi⟩:=i
       simp only
       obtain ⟨y,hy,hyY⟩:∃ y:Nat,x*4294967296+v0=q0*18446744073709551608+y∧y<18446744073709551608:=⟨x*4294967296+v0-q0*18446744073709551608,by omega,by omega⟩
       have h132:Eqq (IntKind.u64.wrap (IntKind.u64.wrap (IntKind.u64.wrap ((x:Int)*4294967296)+(v0:Int))-IntKind.u64.wrap ((q0:Int)*18446744073709551608))) (y:Int):=by
        unfold Eqq
        rw [lu,show (x:Int)*4294967296+(v0:Int)-(q0:Int)*18446744073709551608=(y:Int) by omega]
        omega
       have hq1:Eqq (IntKind.u64.wrap (IntKind.u64.wrap ((q1:Int)*4294967296)+(q0:Int))) ((q1:Int)*4294967296+(q0:Int)):=by unfold Eqq;rw [co ((q1:Int)*4294967296) aa,co _ (by omega)]
       repeat' (first|refine eJ (hc:=h132) (h:=?_)|refine gs ?_|(fail)|fail)
       have h3:Eqq (shrV .u64 (y:Int) 3) ((y/8:Nat):Int):=oD y 8 ae
       have hx:u*4294967296+v1=q1*18446744073709551608+x:=hxh
       have hU:V*8=u*18446744073709551616+(v1*4294967296+v0):=hUh
       obtain ⟨hA,hB⟩:=nD (V:=V) (M:=2305843009213693951) (Q:=q1*4294967296+q0) (z:=y/8) aa aa
       apply ad;apply fi;rfl;rfl;rfl
       unfold Eqq at h3 hq1
       rw [hA,hB,h3,hq1,Int.natCast_add,Int.natCast_mul]
       rfl
theorem fm {u v p r:Nat} (isum:(p+1)*4294967295+r=u) (hu:u<18446744073709551600) (hv:v<4294967296) (h:4294967296≤p+1∨4294967296*r+v<(p+1)*4294967280):u*4294967296+v<(p+1)*18446744073709551600:=by
 rcases h with h|h
 · exact Nat.lt_of_lt_of_le (show u*4294967296+v<4294967296*18446744073709551600 by omega) (QB 18446744073709551600 h)
 · have e:(p+1)*18446744073709551600=(p+1)*4294967295*4294967296+(p+1)*4294967280:=by rw [Nat.mul_assoc,←Nat.mul_add]
   rw [e,←isum,QF,ZH]
   exact Nat.add_lt_add_left (by rw [Nat.mul_comm r];exact h) _
theorem jQ {u v p r:Nat} (isum:(p+1)*4294967295+r=u) (hr:4294967296≤r+4294967295) (itop:p+1≤4294967297):p*18446744073709551600≤u*4294967296+v:=by
 have e:p*18446744073709551600=p*4294967295*4294967296+p*4294967280:=by rw [Nat.mul_assoc,←Nat.mul_add]
 have h1:p*4294967280≤4294967296*4294967296:=Nat.mul_le_mul aa (by decide)
 have hu':u=p*4294967295+(r+4294967295):=by
  rw [←isum,Nat.succ_mul,ZH,ZS 4294967295 r]
 rw [hu',QF,e,ZH]
 exact Nat.add_le_add_left (ZY h1 (ZY (QB 4294967296 hr) (Nat.le_add_right _ _))) _
structure DivIN (u v:Nat) where
 q:Nat
 r:Nat
 sum:q*4294967295+r=u
 big:u*4294967296+v<(q+1)*18446744073709551600
 top:q≤4294967297
 lim:r<4294967296
structure DivEN (u v:Nat) where
 q:Nat
 lo:q*18446744073709551600≤u*4294967296+v
 hi:u*4294967296+v<(q+1)*18446744073709551600
set_option maxRecDepth 20000 in
theorem div64N (hi lo:Nat) (hhi:hi<2305843009213693950) (hlo:lo<18446744073709551616) :
  Pu Tryz.prog 291 #[.int .u64 (hi:Int),.int .u64 (lo:Int),.int .u64 2305843009213693950] (fun _=>True)
   (.tuple #[.int .u64 (((hi*18446744073709551616+lo)/2305843009213693950:Nat):Int),.int .u64 (((hi*18446744073709551616+lo)%2305843009213693950:Nat):Int)]):=by
 refine ak (args:=[_,_,_]) _ Tryz.func291 rfl Tryz.ntmps291 rfl fun av bor w0=>?_
 have hz:=vU 16 (by decide)
 repeat' (first|(refine ab (hc:=hz) (hX:=fun w h=>h) ?_)|refine gs ?_|(refine gp ?_ ?_<;>intro hx_ this)|fail)
 · exfalso;omega
 · exfalso;omega
 · have h0:hi=0:=by omega
   subst h0
   have e1:IntKind.u64.wrap ((lo:Int).tdiv 2305843009213693950)=((lo/2305843009213693950:Nat):Int):=oN lo 2305843009213693950 hlo (by decide)
   have e2:(lo:Int).tmod 2305843009213693950=((lo%2305843009213693950:Nat):Int):=ju lo 2305843009213693950
   (refine ar ⟨[0,1,2,3,4,5,6,7],[]⟩ [] (fun _=>True) (h:=?_))
   all_goals repeat' (first|refine gd ?_|refine ay (hy:=by first|(apply lE (c:=((lo/2305843009213693950:Nat):Int));rfl;rfl;decide;exact e1)|(apply om (c:=((lo%2305843009213693950:Nat):Int));rfl;rfl;decide;exact e2)) ?_|refine aA ?_ (h':=?_)|exact aB|(refine gq ?_ ?_<;>intro hx_ this)|fail)
   all_goals
    repeat' (first|refine gs ?_|fail)
    apply ad;apply fi;rfl;rfl;rfl
    rw [Nat.zero_mul,ZU]
 · have e3:IntKind.u64.wrap 3=3:=by kernel_rfl
   have e61:IntKind.u64.wrap (64-3)=61:=by kernel_rfl
   have ey:shlV .u64 2305843009213693950 3=18446744073709551600:=by kernel_rfl
   have ey1:shrV .u64 18446744073709551600 32=4294967295:=by kernel_rfl
   have ey0:bitsV .and .u64 18446744073709551600 4294967295=4294967280:=by kernel_rfl
   have eh:shlV .u64 (hi:Int) 3=((hi*8:Nat):Int):=by rw [shl3,ZD (by omega)]
   have el:shrV .u64 (lo:Int) 61=((lo/2305843009213693952:Nat):Int):=oD lo _ ae
   have eo:bitsV .or .u64 ((hi*8:Nat):Int) ((lo/2305843009213693952:Nat):Int)=((hi*8+lo/2305843009213693952:Nat):Int):=or3 hi _ aa aa
   have e10:shlV .u64 (lo:Int) 3=((lo*8%18446744073709551616:Nat):Int):=shl3 lo
   have hU:(hi*18446744073709551616+lo)*8=(hi*8+lo/2305843009213693952)*18446744073709551616+lo*8%18446744073709551616:=by omega
   have hu:hi*8+lo/2305843009213693952<18446744073709551600:=by omega
   have hv:lo*8%18446744073709551616<18446744073709551616:=Qc _ (by decide)
   simp only [e3,e61,ey,ey1,ey0,eh,el,eo,e10]
   clear e3 e61 ey ey1 ey0 eh el eo e10
   generalize hi*8+lo/2305843009213693952=u at *
   generalize lo*8%18446744073709551616=v at *
   have e1:shrV .u64 (v:Int) 32=((v/4294967296:Nat):Int):=oD v _ ae
   have e0:bitsV .and .u64 (v:Int) 4294967295=((v%4294967296:Nat):Int):=and32 v hv
   obtain ⟨v1,v0,hv1,hv0,hvv,hv1l,hv0l⟩:∃ v1 v0:Nat,v/4294967296=v1∧v%4294967296=v0∧v=v1*4294967296+v0∧v1<4294967296∧v0<4294967296:=⟨_,_,rfl,rfl,by omega,by omega,by omega⟩
   simp only [e1,e0,hv1,hv0]
   clear e1 e0 hv1 hv0
   subst hvv
   obtain ⟨V,hV⟩:∃ V,hi*18446744073709551616+lo=V:=⟨_,rfl⟩
   rw [hV] at hU ⊢
   have hUh:Hid (V*8=u*18446744073709551616+(v1*4294967296+v0)):=hU
   clear hU hV hv hhi hlo
   have hq1:Eqq (IntKind.u64.wrap ((u:Int).tdiv 4294967295)) ((u/4294967295:Nat):Int):=oN u 4294967295 aa (by decide)
   repeat' (first|refine iM (hb:=by decide) (hc:=hq1) ?_|refine eK (hc:=co _ aa) (h:=?_)|refine eJ (hc:=co _ aa) (h:=?_)|refine gs ?_|(refine gp ?_ ?_<;>intro hx_ this)|fail)
   refine jT (ι:=DivEN u v1) (fun i=>⟨[(2,.int .u64 18446744073709551600),(8,.int .u64 3),(9,.int .u64 4294967295),(10,.int .u64 4294967280),(11,.int .u64 (u:Nat)),(13,.int .u64 (v1:Int)),(14,.int .u64 (v0:Int)),(15,.int .u64 (i.q:Nat))],[],fun _=>True⟩) ?_ fun i=>?_
   · refine aq (ι:=DivIN u v1) (fun i=>⟨[(2,.int .u64 18446744073709551600),(8,.int .u64 3),(9,.int .u64 4294967295),(10,.int .u64 4294967280),(11,.int .u64 (u:Nat)),(13,.int .u64 (v1:Int)),(14,.int .u64 (v0:Int)),(15,.int .u64 (i.q:Nat)),(16,.int .u64 (i.r:Nat))],[],fun _=>True⟩) (fun i=>4294967296-i.r) ⟨u/4294967295,u%4294967295,by omega,by omega,by omega,by omega⟩
      (aj ⟨rfl,rfl,rfl,rfl,rfl,rfl,rfl,rfl,by show some (Value.int .u64 ((u:Int)-((u/4294967295:Nat):Int)*4294967295))=some (Value.int .u64 ((u%4294967295:Nat):Int));congr 2;omega,trivial⟩ (Zu _) fun _ h=>h) fun i=>?_
     obtain ⟨q,r,isum,ibig,itop,ilim⟩:=i
     simp only
     repeat' (first|refine eK (hc:=co _ aa) (h:=?_)|refine eJ (hc:=co _ aa) (h:=?_)|refine de (hc:=co _ aa) (h:=?_)|refine gs ?_|(refine gp ?_ ?_<;>intro hx_ this)|fail)
     · cases q with
       | zero=>exfalso;omega
       | succ p =>
        have f2:u*4294967296+v1<(p+1)*18446744073709551600:=fm isum hu hv1l (Or.inl aa)
        have f3:((p+1:Nat):Int)-1=(p:Int):=by omega
        have f1:p*18446744073709551600≤u*4294967296+v1:=jQ isum aa itop
        exact ⟨⟨p,f1,f2⟩,aj ⟨rfl,rfl,rfl,rfl,rfl,rfl,rfl,by show some (Value.int .u64 (((p+1:Nat):Int)-1))=some (Value.int .u64 (p:Int));rw [f3],trivial⟩ (Zu _) fun _ h=>h⟩
     · cases q with
       | zero=>exfalso;omega
       | succ p =>
        have f2:u*4294967296+v1<(p+1)*18446744073709551600:=fm isum hu hv1l (Or.inl aa)
        have f3:((p+1:Nat):Int)-1=(p:Int):=by omega
        have g1:p*4294967295+(r+4294967295)=u:=by rw [←isum,Nat.succ_mul,ZH,ZS 4294967295 r]
        have g3:p≤4294967297:=by omega
        have g4:r+4294967295<4294967296:=by omega
        have g5:4294967296-(r+4294967295)<4294967296-r:=by omega
        exact ⟨⟨p,r+4294967295,g1,f2,g3,g4⟩,g5,aj ⟨rfl,rfl,rfl,rfl,rfl,rfl,rfl,by show some (Value.int .u64 (((p+1:Nat):Int)-1))=some (Value.int .u64 (p:Int));rw [f3],rfl,trivial⟩ (Zu _) fun _ h=>h⟩
     · cases q with
       | zero=>exfalso;omega
       | succ p =>
        have f2:u*4294967296+v1<(p+1)*18446744073709551600:=fm isum hu hv1l (Or.inr aa)
        have f3:((p+1:Nat):Int)-1=(p:Int):=by omega
        have f1:p*18446744073709551600≤u*4294967296+v1:=jQ isum aa itop
        exact ⟨⟨p,f1,f2⟩,aj ⟨rfl,rfl,rfl,rfl,rfl,rfl,rfl,by show some (Value.int .u64 (((p+1:Nat):Int)-1))=some (Value.int .u64 (p:Int));rw [f3],trivial⟩ (Zu _) fun _ h=>h⟩
     · cases q with
       | zero=>exfalso;omega
       | succ p =>
        have f2:u*4294967296+v1<(p+1)*18446744073709551600:=fm isum hu hv1l (Or.inr aa)
        have f3:((p+1:Nat):Int)-1=(p:Int):=by omega
        have g1:p*4294967295+(r+4294967295)=u:=by rw [←isum,Nat.succ_mul,ZH,ZS 4294967295 r]
        have g3:p≤4294967297:=by omega
        have g4:r+4294967295<4294967296:=by omega
        have g5:4294967296-(r+4294967295)<4294967296-r:=by omega
        exact ⟨⟨p,r+4294967295,g1,f2,g3,g4⟩,g5,aj ⟨rfl,rfl,rfl,rfl,rfl,rfl,rfl,by show some (Value.int .u64 (((p+1:Nat):Int)-1))=some (Value.int .u64 (p:Int));rw [f3],rfl,trivial⟩ (Zu _) fun _ h=>h⟩
     · exact ⟨⟨q,by omega,by omega⟩,aj am (Zu _) fun _ h=>h⟩
   · obtain ⟨q1,q1lo,q1hi⟩:=i
     simp only
     obtain ⟨x,hx,hxY⟩:∃ x:Nat,u*4294967296+v1=q1*18446744073709551600+x∧x<18446744073709551600:=⟨u*4294967296+v1-q1*18446744073709551600,by omega,by omega⟩
     have h17:Eqq (IntKind.u64.wrap (IntKind.u64.wrap (IntKind.u64.wrap ((u:Int)*4294967296)+(v1:Int))-IntKind.u64.wrap ((q1:Int)*18446744073709551600))) (x:Int):=by
      unfold Eqq
      rw [lu,show (u:Int)*4294967296+(v1:Int)-(q1:Int)*18446744073709551600=(x:Int) by omega]
      omega
     have hq0:Eqq (IntKind.u64.wrap ((x:Int).tdiv 4294967295)) ((x/4294967295:Nat):Int):=oN x 4294967295 aa (by decide)
     have hq1l:q1<4294967296:=by omega
     repeat' (first|refine eJ (hc:=h17) (h:=?_)|refine eK (hc:=rfl) (h:=?_)|refine de (hc:=rfl) (h:=?_)|refine gs ?_|(fail)|fail)
     clear h17
     repeat' (first|refine iM (hb:=by decide) (hc:=hq0) ?_|refine eK (hc:=co _ aa) (h:=?_)|refine eJ (hc:=co _ aa) (h:=?_)|refine gs ?_|(refine gp ?_ ?_<;>intro hx_ this)|fail)
     have hxh:Hid (u*4294967296+v1=q1*18446744073709551600+x):=hx
     clear hx q1lo q1hi hu
     refine jT (ι:=DivEN x v0) (fun i=>⟨[(2,.int .u64 18446744073709551600),(8,.int .u64 3),(14,.int .u64 (v0:Int)),(15,.int .u64 (q1:Nat)),(17,.int .u64 (x:Nat)),(18,.int .u64 (i.q:Nat))],[],fun _=>True⟩) ?_ fun i=>?_
     · refine aq (ι:=DivIN x v0) (fun i=>⟨[(2,.int .u64 18446744073709551600),(8,.int .u64 3),(9,.int .u64 4294967295),(10,.int .u64 4294967280),(14,.int .u64 (v0:Int)),(15,.int .u64 (q1:Nat)),(17,.int .u64 (x:Nat)),(18,.int .u64 (i.q:Nat)),(16,.int .u64 (i.r:Nat))],[],fun _=>True⟩) (fun i=>4294967296-i.r) ⟨x/4294967295,x%4294967295,by omega,by omega,by omega,by omega⟩
        (aj ⟨rfl,rfl,rfl,rfl,rfl,rfl,rfl,rfl,by show some (Value.int .u64 ((x:Int)-((x/4294967295:Nat):Int)*4294967295))=some (Value.int .u64 ((x%4294967295:Nat):Int));congr 2;omega,trivial⟩ (Zu _) fun _ h=>h) fun i=>?_
       obtain ⟨q,r,isum,ibig,itop,ilim⟩:=i
       simp only
       repeat' (first|refine eK (hc:=co _ aa) (h:=?_)|refine eJ (hc:=co _ aa) (h:=?_)|refine de (hc:=co _ aa) (h:=?_)|refine gs ?_|(refine gp ?_ ?_<;>intro hx_ this)|fail)
       · cases q with
         | zero=>exfalso;omega
         | succ p =>
          have f2:x*4294967296+v0<(p+1)*18446744073709551600:=fm isum hxY hv0l (Or.inl aa)
          have f3:((p+1:Nat):Int)-1=(p:Int):=by omega
          have f1:p*18446744073709551600≤x*4294967296+v0:=jQ isum aa itop
          exact ⟨⟨p,f1,f2⟩,aj ⟨rfl,rfl,rfl,rfl,rfl,by show some (Value.int .u64 (((p+1:Nat):Int)-1))=some (Value.int .u64 (p:Int));rw [f3],trivial⟩ (Zu _) fun _ h=>h⟩
       · cases q with
         | zero=>exfalso;omega
         | succ p =>
          have f2:x*4294967296+v0<(p+1)*18446744073709551600:=fm isum hxY hv0l (Or.inl aa)
          have f3:((p+1:Nat):Int)-1=(p:Int):=by omega
          have g1:p*4294967295+(r+4294967295)=x:=by rw [←isum,Nat.succ_mul,ZH,ZS 4294967295 r]
          have g3:p≤4294967297:=by omega
          have g4:r+4294967295<4294967296:=by omega
          have g5:4294967296-(r+4294967295)<4294967296-r:=by omega
          exact ⟨⟨p,r+4294967295,g1,f2,g3,g4⟩,g5,aj ⟨rfl,rfl,rfl,rfl,rfl,rfl,rfl,by show some (Value.int .u64 (((p+1:Nat):Int)-1))=some (Value.int .u64 (p:Int));rw [f3],rfl,trivial⟩ (Zu _) fun _ h=>h⟩
       · cases q with
         | zero=>exfalso;omega
         | succ p =>
          have f2:x*4294967296+v0<(p+1)*18446744073709551600:=fm isum hxY hv0l (Or.inr aa)
          have f3:((p+1:Nat):Int)-1=(p:Int):=by omega
          have f1:p*18446744073709551600≤x*4294967296+v0:=jQ isum aa itop
          exact ⟨⟨p,f1,f2⟩,aj ⟨rfl,rfl,rfl,rfl,rfl,by show some (Value.int .u64 (((p+1:Nat):Int)-1))=some (Value.int .u64 (p:Int));rw [f3],trivial⟩ (Zu _) fun _ h=>h⟩
       · cases q with
         | zero=>exfalso;omega
         | succ p =>
          have f2:x*4294967296+v0<(p+1)*18446744073709551600:=fm isum hxY hv0l (Or.inr aa)
          have f3:((p+1:Nat):Int)-1=(p:Int):=by omega
          have g1:p*4294967295+(r+4294967295)=x:=by rw [←isum,Nat.succ_mul,ZH,ZS 4294967295 r]
          have g3:p≤4294967297:=by omega
          have g4:r+4294967295<4294967296:=by omega
          have g5:4294967296-(r+4294967295)<4294967296-r:=by omega
          exact ⟨⟨p,r+4294967295,g1,f2,g3,g4⟩,g5,aj ⟨rfl,rfl,rfl,rfl,rfl,rfl,rfl,by show some (Value.int .u64 (((p+1:Nat):Int)-1))=some (Value.int .u64 (p:Int));rw [f3],rfl,trivial⟩ (Zu _) fun _ h=>h⟩
       · exact ⟨⟨q,by omega,by omega⟩,aj am (Zu _) fun _ h=>h⟩
     · obtain ⟨q0,q0lo,q0hi⟩:=i
       simp only
       obtain ⟨y,hy,hyY⟩:∃ y:Nat,x*4294967296+v0=q0*18446744073709551600+y∧y<18446744073709551600:=⟨x*4294967296+v0-q0*18446744073709551600,by omega,by omega⟩
       have h132:Eqq (IntKind.u64.wrap (IntKind.u64.wrap (IntKind.u64.wrap ((x:Int)*4294967296)+(v0:Int))-IntKind.u64.wrap ((q0:Int)*18446744073709551600))) (y:Int):=by
        unfold Eqq
        rw [lu,show (x:Int)*4294967296+(v0:Int)-(q0:Int)*18446744073709551600=(y:Int) by omega]
        omega
       have hq1:Eqq (IntKind.u64.wrap (IntKind.u64.wrap ((q1:Int)*4294967296)+(q0:Int))) ((q1:Int)*4294967296+(q0:Int)):=by unfold Eqq;rw [co ((q1:Int)*4294967296) aa,co _ (by omega)]
       repeat' (first|refine eJ (hc:=h132) (h:=?_)|refine gs ?_|(fail)|fail)
       have h3:Eqq (shrV .u64 (y:Int) 3) ((y/8:Nat):Int):=oD y 8 ae
       have hx:u*4294967296+v1=q1*18446744073709551600+x:=hxh
       have hU:V*8=u*18446744073709551616+(v1*4294967296+v0):=hUh
       obtain ⟨hA,hB⟩:=nD (V:=V) (M:=2305843009213693950) (Q:=q1*4294967296+q0) (z:=y/8) aa aa
       apply ad;apply fi;rfl;rfl;rfl
       unfold Eqq at h3 hq1
       rw [hA,hB,h3,hq1,Int.natCast_add,Int.natCast_mul]
       rfl
end Go.Proofs.YtaolfiikahlmkaaGreatDoor
namespace Go.Proofs.YtaolfiikahlmkaaGreatDoor
open Go Go.Proofs Sy Go.Shelf
theorem Bu (hi lo M:Nat):(hi%M*18446744073709551616+lo)%M=(hi*18446744073709551616+lo)%M:=by
 rw [Nat.add_mod,Nat.mul_mod,Nat.mod_mod,←Nat.mul_mod,←Nat.add_mod]
theorem rem64P (hi lo:Nat) (hlo:lo<18446744073709551616) :
  Pu Tryz.prog 267 #[.int .u64 (hi:Int),.int .u64 (lo:Int),.int .u64 2305843009213693951] (fun _=>True) (.int .u64 (((hi*18446744073709551616+lo)%2305843009213693951:Nat):Int)):=by
 refine ak (args:=[_,_,_]) _ Tryz.func267 rfl Tryz.ntmps267 rfl fun av bor w0=>?_
 have hr:Eqq ((hi:Int).tmod 2305843009213693951) ((hi%2305843009213693951:Nat):Int):=ju hi 2305843009213693951
 have hd:=div64P (hi%2305843009213693951) lo (Qc _ (by decide)) hlo
 rw [Bu] at hd
 repeat' (first|refine fo (hb:=by decide) (hc:=hr) ?_|(refine ab (hc:=hd) (hX:=fun w h=>h) ?_)|refine gs ?_|(refine gp ?_ ?_<;>intro hx_ this)|fail)
 apply ad;apply ag;rfl;rfl
 rfl
theorem rem64N (hi lo:Nat) (hlo:lo<18446744073709551616) :
  Pu Tryz.prog 267 #[.int .u64 (hi:Int),.int .u64 (lo:Int),.int .u64 2305843009213693950] (fun _=>True) (.int .u64 (((hi*18446744073709551616+lo)%2305843009213693950:Nat):Int)):=by
 refine ak (args:=[_,_,_]) _ Tryz.func267 rfl Tryz.ntmps267 rfl fun av bor w0=>?_
 have hr:Eqq ((hi:Int).tmod 2305843009213693950) ((hi%2305843009213693950:Nat):Int):=ju hi 2305843009213693950
 have hd:=div64N (hi%2305843009213693950) lo (Qc _ (by decide)) hlo
 rw [Bu] at hd
 repeat' (first|refine fo (hb:=by decide) (hc:=hr) ?_|(refine ab (hc:=hd) (hX:=fun w h=>h) ?_)|refine gs ?_|(refine gp ?_ ?_<;>intro hx_ this)|fail)
 apply ad;apply ag;rfl;rfl
 rfl
theorem dT (a m:Nat) (hm:0<m) (hm2:m<4611686018427387904):Pu Tryz.prog 224 #[.int .i64 (a:Int),.int .i64 (m:Int)] (fun _=>True) (.int .i64 ((a%m:Nat):Int)):=by
 refine ak (args:=[_,_]) _ Tryz.func224 rfl Tryz.ntmps224 rfl fun av bor w0=>?_
 have hr:Eqq ((a:Int).tmod (m:Int)) ((a%m:Nat):Int):=ju a m
 repeat' (first|refine fo (hb:=by omega) (hc:=hr) ?_|refine gs ?_|(refine gp ?_ ?_<;>intro hx_ this)|fail)
 · exfalso;omega
 · apply ad;apply ag;rfl;rfl
   rfl
theorem DW (a b:Nat):Pu Tryz.prog 226 #[.int .i64 (a:Int),.int .i64 (b:Int),.int .i64 2305843009213693951] (fun _=>True) (.int .i64 ((a*b%2305843009213693951:Nat):Int)):=by
 refine ak (args:=[_,_,_]) _ Tryz.func226 rfl Tryz.ntmps226 rfl fun av bor w0=>?_
 have h1:=dT a 2305843009213693951 (by decide) (by decide)
 have h2:=dT b 2305843009213693951 (by decide) (by decide)
 have hx:=Qc a (show 0<2305843009213693951 by decide)
 have hy:=Qc b (show 0<2305843009213693951 by decide)
 have hab:a*b%2305843009213693951=(a%2305843009213693951)*(b%2305843009213693951)%2305843009213693951:=Nat.mul_mod a b _
 rw [hab]
 generalize a%2305843009213693951=x at *
 generalize b%2305843009213693951=y at *
 have h3:=rP x y aa aa
 have h4:=rem64P (x*y/18446744073709551616) (x*y%18446744073709551616) (Qc _ (by decide))
 have e:x*y/18446744073709551616*18446744073709551616+x*y%18446744073709551616=x*y:=Nat.div_add_mod' _ _
 rw [e] at h4
 have cx:Eqq (IntKind.u64.wrap (x:Int)) (x:Int):=co _ aa
 have cy:Eqq (IntKind.u64.wrap (y:Int)) (y:Int):=co _ aa
 have hz:=Qc (x*y) (show 0<2305843009213693951 by decide)
 have cm:Eqq (IntKind.u64.wrap 2305843009213693951) 2305843009213693951:=by unfold Eqq;kernel_rfl
 generalize x*y%2305843009213693951=z at *
 have cz:Eqq (IntKind.i64.wrap (z:Int)) (z:Int):=IntWalk.i64_in _ aa
 unfold Eqq at cx cy cm cz
 rw [←cx,←cy] at h3
 rw [←cm] at h4
 repeat' (first|(refine ab (hc:=h1) (hX:=fun w h=>h) ?_)|(refine ab (hc:=h2) (hX:=fun w h=>h) ?_)|(refine ab (hc:=h3) (hX:=fun w h=>h) ?_)|(refine ab (hc:=h4) (hX:=fun w h=>h) ?_)|refine gs ?_|(refine gp ?_ ?_<;>intro hx_ this)|fail)
 apply ad;apply ag;rfl;rfl
 rfl
theorem EU (a b:Nat):Pu Tryz.prog 225 #[.int .i64 (a:Int),.int .i64 (b:Int),.int .i64 2305843009213693950] (fun _=>True) (.int .i64 (((a+b)%2305843009213693950:Nat):Int)):=by
 refine ak (args:=[_,_,_]) _ Tryz.func225 rfl Tryz.ntmps225 rfl fun av bor w0=>?_
 have h1:=dT a 2305843009213693950 (by decide) (by decide)
 have h2:=dT b 2305843009213693950 (by decide) (by decide)
 have h3:=dT (a%2305843009213693950+b%2305843009213693950) 2305843009213693950 (by decide) (by decide)
 rw [←Nat.add_mod] at h3
 have hs:Eqq (IntKind.i64.wrap (((a%2305843009213693950:Nat):Int)+((b%2305843009213693950:Nat):Int))) ((a%2305843009213693950+b%2305843009213693950:Nat):Int):=by
  have:=Qc a (show 0<2305843009213693950 by decide)
  have:=Qc b (show 0<2305843009213693950 by decide)
  generalize a%2305843009213693950=x at *
  generalize b%2305843009213693950=y at *
  unfold Eqq
  rw [Int.natCast_add]
  exact IntWalk.i64_in _ aa
 repeat' (first|refine de (hc:=hs) (h:=?_)|(refine ab (hc:=h1) (hX:=fun w h=>h) ?_)|(refine ab (hc:=h2) (hX:=fun w h=>h) ?_)|(refine ab (hc:=h3) (hX:=fun w h=>h) ?_)|refine gs ?_|(refine gp ?_ ?_<;>intro hx_ this)|fail)
 apply ad;apply ag;rfl;rfl
 rfl
theorem DX (a b:Nat):Pu Tryz.prog 226 #[.int .i64 (a:Int),.int .i64 (b:Int),.int .i64 2305843009213693950] (fun _=>True) (.int .i64 ((a*b%2305843009213693950:Nat):Int)):=by
 refine ak (args:=[_,_,_]) _ Tryz.func226 rfl Tryz.ntmps226 rfl fun av bor w0=>?_
 have h1:=dT a 2305843009213693950 (by decide) (by decide)
 have h2:=dT b 2305843009213693950 (by decide) (by decide)
 have hx:=Qc a (show 0<2305843009213693950 by decide)
 have hy:=Qc b (show 0<2305843009213693950 by decide)
 have hab:a*b%2305843009213693950=(a%2305843009213693950)*(b%2305843009213693950)%2305843009213693950:=Nat.mul_mod a b _
 rw [hab]
 generalize a%2305843009213693950=x at *
 generalize b%2305843009213693950=y at *
 have h3:=rP x y aa aa
 have h4:=rem64N (x*y/18446744073709551616) (x*y%18446744073709551616) (Qc _ (by decide))
 have e:x*y/18446744073709551616*18446744073709551616+x*y%18446744073709551616=x*y:=Nat.div_add_mod' _ _
 rw [e] at h4
 have cx:Eqq (IntKind.u64.wrap (x:Int)) (x:Int):=co _ aa
 have cy:Eqq (IntKind.u64.wrap (y:Int)) (y:Int):=co _ aa
 have hz:=Qc (x*y) (show 0<2305843009213693950 by decide)
 have cm:Eqq (IntKind.u64.wrap 2305843009213693950) 2305843009213693950:=by unfold Eqq;kernel_rfl
 generalize x*y%2305843009213693950=z at *
 have cz:Eqq (IntKind.i64.wrap (z:Int)) (z:Int):=IntWalk.i64_in _ aa
 unfold Eqq at cx cy cm cz
 rw [←cx,←cy] at h3
 rw [←cm] at h4
 repeat' (first|(refine ab (hc:=h1) (hX:=fun w h=>h) ?_)|(refine ab (hc:=h2) (hX:=fun w h=>h) ?_)|(refine ab (hc:=h3) (hX:=fun w h=>h) ?_)|(refine ab (hc:=h4) (hX:=fun w h=>h) ?_)|refine gs ?_|(refine gp ?_ ?_<;>intro hx_ this)|fail)
 apply ad;apply ag;rfl;rfl
 rfl
theorem uV (a b:Nat):Pu Tryz.prog 188 #[.int .i64 (a:Int),.int .i64 (b:Int)] (fun _=>True) (.int .i64 ((a*b%2305843009213693951:Nat):Int)):=by
 refine ak (args:=[_,_]) _ Tryz.func188 rfl Tryz.ntmps188 rfl fun av bor w0=>?_
 repeat' (first|(refine ab (hc:=DW a b) (hX:=fun w h=>h) ?_)|refine gs ?_|(refine gp ?_ ?_<;>intro hx_ this)|fail)
 apply ad;apply ag;rfl;rfl
 rfl
theorem EW (a b:Nat):Pu Tryz.prog 138 #[.int .i64 (a:Int),.int .i64 (b:Int)] (fun _=>True) (.int .i64 ((a*b%2305843009213693950:Nat):Int)):=by
 refine ak (args:=[_,_]) _ Tryz.func138 rfl Tryz.ntmps138 rfl fun av bor w0=>?_
 repeat' (first|(refine ab (hc:=DX a b) (hX:=fun w h=>h) ?_)|refine gs ?_|(refine gp ?_ ?_<;>intro hx_ this)|fail)
 apply ad;apply ag;rfl;rfl
 rfl
theorem EX (a b:Nat):Pu Tryz.prog 137 #[.int .i64 (a:Int),.int .i64 (b:Int)] (fun _=>True) (.int .i64 (((a+b)%2305843009213693950:Nat):Int)):=by
 refine ak (args:=[_,_]) _ Tryz.func137 rfl Tryz.ntmps137 rfl fun av bor w0=>?_
 repeat' (first|(refine ab (hc:=EU a b) (hX:=fun w h=>h) ?_)|refine gs ?_|(refine gp ?_ ?_<;>intro hx_ this)|fail)
 apply ad;apply ag;rfl;rfl
 rfl
def expF (a e:Nat):Nat→Nat×Nat
 | 0=>(1,a%2305843009213693951)
 | i+1=>(bif decide (e/2 ^ i%2=1) then (expF a e i).1*(expF a e i).2%2305843009213693951 else (expF a e i).1,(expF a e i).2*(expF a e i).2%2305843009213693951)
def expV (a e:Nat):Nat:=(expF a e (Lib.bitLen e)).1
theorem GH (e i:Nat) (hi:i≤64):shrV .i64 (e:Int) (i:Int)=((e/2 ^ i:Nat):Int):=by
 show (e:Int).fdiv (2 ^ (min (i:Int).toNat 64))=_
 rw [ZZ,Nat.min_eq_left hi,show (2:Int) ^ i=((2 ^ i:Nat):Int) by rw [Int.natCast_pow];rfl,←Int.ofNat_fdiv]
theorem GQ (x:Nat) (hx:x<9223372036854775808):bitsV .and .i64 (x:Int) 1=((x%2:Nat):Int):=by
 show IntKind.i64.wrap ((((BitVec.ofInt 64 (x:Int)) &&& (BitVec.ofInt 64 1)).toNat:Nat):Int)=_
 have e:(BitVec.ofInt 64 1).toNat=1:=by decide
 rw [BitVec.toNat_and,e,Qm,Qp,ZD (show x<2 ^ 64 by omega),Nat.and_one_is_mod]
 exact IntWalk.i64_in _ aa
theorem jW:∀ f x:Nat,Lib.bitLenAux f x≤f
 | 0,_=>ZX _
 | f+1,x=>by
  rw [Lib.bitLenAux]
  split
  · omega
  · have:=jW f (x/2)
    omega
theorem qk (a e:Nat) (he:e<9223372036854775808):Pu Tryz.prog 136 #[.int .i64 (a:Int),.int .i64 (e:Int)] (fun _=>True) (.int .i64 (expV a e:Nat)):=by
 refine ak (args:=[_,_]) _ Tryz.func136 rfl Tryz.ntmps136 rfl fun av bor w0=>?_
 have h1:=dT a 2305843009213693951 (by decide) (by decide)
 have h2:=r5 e aa
 have ce:Eqq (IntKind.u64.wrap (e:Int)) (e:Int):=co _ aa
 unfold Eqq at ce
 rw [←ce] at h2
 repeat' (first|(refine ab (hc:=h1) (hX:=fun w h=>h) ?_)|(refine ab (hc:=h2) (hX:=fun w h=>h) ?_)|refine gs ?_|(refine gp ?_ ?_<;>intro hx_ this)|fail)
 · exfalso;omega
 · have hbl:Lib.bitLen e≤64:=jW 64 e
   refine aq (ι:=Kth (Lib.bitLen e)) (fun i=>⟨[(1,.int .i64 (e:Int)),(5,.int .i64 ((expF a e i.k).1:Nat)),(6,.int .i64 ((expF a e i.k).2:Nat)),(16,.int .i64 (Lib.bitLen e:Nat)),(17,.int .i64 i.k)],[],fun _=>True⟩) (fun i=>Lib.bitLen e-i.k) ⟨0,Z4 _⟩ (aj am (Zu _) fun _ h=>h) fun i=>?_
   have hik:=i.hk
   have hm1:=uV (expF a e i.k).1 (expF a e i.k).2
   have hm2:=uV (expF a e i.k).2 (expF a e i.k).2
   have hb:bitsV .and .i64 (shrV .i64 (e:Int) ((i.k:Nat):Int)) 1=((e/2 ^ i.k%2:Nat):Int):=by
    rw [GH e i.k aa,GQ _ (Nat.lt_of_le_of_lt (Nat.div_le_self _ _) he)]
   have hs:expF a e (i.k+1)=(bif decide (e/2 ^ i.k%2=1) then (expF a e i.k).1*(expF a e i.k).2%2305843009213693951 else (expF a e i.k).1,(expF a e i.k).2*(expF a e i.k).2%2305843009213693951):=rfl
   generalize hp:expF a e i.k=p at *
   repeat' (first|(refine ab (hc:=hm1) (hX:=fun w h=>h) ?_)|(refine ab (hc:=hm2) (hX:=fun w h=>h) ?_)|refine gs ?_|(refine gp ?_ ?_<;>intro hx_ this)|fail)
   · have hc:e/2 ^ i.k%2=1:=by
      rw [hb] at hx_
      have:=aL hx_
      omega
     rw [Zd hc,Zf] at hs
     exact ⟨(⟨i.k+1,by omega⟩:Kth (Lib.bitLen e)),(by show Lib.bitLen e-(i.k+1)<Lib.bitLen e-i.k;omega),aj ⟨rfl,by rw [hs];rfl,by rw [hs];rfl,rfl,rfl,trivial⟩ (Zu _) fun _ h=>h⟩
   · have hc:¬ e/2 ^ i.k%2=1:=by
      rw [hb] at hx_
      have:=aX hx_
      omega
     rw [Zc hc,Ze] at hs
     exact ⟨(⟨i.k+1,by omega⟩:Kth (Lib.bitLen e)),(by show Lib.bitLen e-(i.k+1)<Lib.bitLen e-i.k;omega),aj ⟨rfl,by rw [hs];rfl,by rw [hs];rfl,rfl,rfl,trivial⟩ (Zu _) fun _ h=>h⟩
   · have hk:i.k=Lib.bitLen e:=by omega
     apply ad;apply ag;rfl;rfl
     rw [expV,←hk,hp]
end Go.Proofs.YtaolfiikahlmkaaGreatDoor
namespace Go.Proofs.YtaolfiikahlmkaaGreatDoor
open Go Go.Proofs Sy
def IsN (x:Int) (n:Nat):Prop:=x=(n:Int)∧n<4294967296
theorem wrap32 (n:Nat):IntKind.u32.wrap (n:Int)=((n%4294967296:Nat):Int):=by
 simp [IntKind.wrap,IntKind.signed,IntKind.bits]
theorem IsN.xor {x y:Int} {m n:Nat} (h:IsN x m) (k:IsN y n):IsN (bitsV .xor .u32 x y) (m ^^^ n):=by
 obtain ⟨rfl,hm⟩:=h
 obtain ⟨rfl,hn⟩:=k
 have hx:m ^^^ n<2 ^ 32:=Nat.xor_lt_two_pow hm hn
 refine ⟨?_,hx⟩
 show IntKind.u32.wrap ((((BitVec.ofInt 32 (m:Int)) ^^^ (BitVec.ofInt 32 (n:Int))).toNat:Nat):Int)=_
 rw [Qm,Qm,BitVec.toNat_xor,Qp,Qp,ZD (show m<2 ^ 32 from hm),ZD (show n<2 ^ 32 from hn),wrap32,ZD hx]
theorem IsN.and {x y:Int} {m n:Nat} (h:IsN x m) (k:IsN y n):IsN (bitsV .and .u32 x y) (m &&& n):=by
 obtain ⟨rfl,hm⟩:=h
 obtain ⟨rfl,hn⟩:=k
 have hx:m &&& n<2 ^ 32:=Nat.and_lt_two_pow m hn
 refine ⟨?_,hx⟩
 show IntKind.u32.wrap ((((BitVec.ofInt 32 (m:Int)) &&& (BitVec.ofInt 32 (n:Int))).toNat:Nat):Int)=_
 rw [Qm,Qm,BitVec.toNat_and,Qp,Qp,ZD (show m<2 ^ 32 from hm),ZD (show n<2 ^ 32 from hn),wrap32,ZD hx]
theorem IsN.or {x y:Int} {m n:Nat} (h:IsN x m) (k:IsN y n):IsN (bitsV .or .u32 x y) (m ||| n):=by
 obtain ⟨rfl,hm⟩:=h
 obtain ⟨rfl,hn⟩:=k
 have hx:m ||| n<2 ^ 32:=Nat.or_lt_two_pow hm hn
 refine ⟨?_,hx⟩
 show IntKind.u32.wrap ((((BitVec.ofInt 32 (m:Int)) ||| (BitVec.ofInt 32 (n:Int))).toNat:Nat):Int)=_
 rw [Qm,Qm,BitVec.toNat_or,Qp,Qp,ZD (show m<2 ^ 32 from hm),ZD (show n<2 ^ 32 from hn),wrap32,ZD hx]
theorem IsN.add {x y:Int} {m n:Nat} (h:IsN x m) (k:IsN y n):IsN (a32 x y) ((m+n)%4294967296):=by
 obtain ⟨rfl,hm⟩:=h
 obtain ⟨rfl,hn⟩:=k
 refine ⟨?_,Qc _ (by decide)⟩
 show IntKind.u32.wrap ((m:Int)+(n:Int))=_
 rw [←Int.natCast_add,wrap32]
theorem IsN.shl {x:Int} {m:Nat} (h:IsN x m) {c:Int} (p:Nat) (hp:(2:Int) ^ (min c.toNat 32)=(p:Int)):IsN (shlV .u32 x c) (m*p%4294967296):=by
 obtain ⟨rfl,hm⟩:=h
 refine ⟨?_,Qc _ (by decide)⟩
 show IntKind.u32.wrap ((m:Int)*2 ^ (min c.toNat 32))=_
 rw [hp,←Int.natCast_mul,wrap32]
theorem IsN.shr {x:Int} {m:Nat} (h:IsN x m) {c:Int} (p:Nat) (hp:(2:Int) ^ (min c.toNat 32)=(p:Int)):IsN (shrV .u32 x c) (m/p):=by
 obtain ⟨rfl,hm⟩:=h
 refine ⟨?_,Nat.lt_of_le_of_lt (Nat.div_le_self _ _) hm⟩
 show (m:Int).fdiv (2 ^ (min c.toNat 32))=_
 rw [hp,←Int.ofNat_fdiv]
def rot (p q m:Nat):Nat:=(m*p%4294967296) ||| (m/q)
theorem IsN.turn {x:Int} {m:Nat} (h:IsN x m) {r c:Int} (p q:Nat) (hc:bitsV .and .u64 (IntKind.u64.wrap (IntKind.i64.wrap (0-r))) 31=c) (hd:IntKind.u64.wrap (32-c)=r) (hp:(2:Int) ^ (min c.toNat 32)=(p:Int)) (hq:(2:Int) ^ (min r.toNat 32)=(q:Int)) :
  IsN (turnV x r) (rot p q m):=by
 unfold turnV rotlV
 rw [hc,hd]
 exact (h.shl p hp).or (h.shr q hq)
def s0N (m:Nat):Nat:=rot 33554432 128 m ^^^ rot 16384 262144 m ^^^ (m/8)
def s1N (m:Nat):Nat:=rot 32768 131072 m ^^^ rot 8192 524288 m ^^^ (m/1024)
def b1N (m:Nat):Nat:=rot 67108864 64 m ^^^ rot 2097152 2048 m ^^^ rot 128 33554432 m
def b0N (m:Nat):Nat:=rot 1073741824 4 m ^^^ rot 524288 8192 m ^^^ rot 1024 4194304 m
theorem IsN.s0 {x:Int} {m:Nat} (h:IsN x m):IsN (bitsV .xor .u32 (bitsV .xor .u32 (turnV x 7) (turnV x 18)) (shrV .u32 x 3)) (s0N m) :=
 ((h.turn (c:=25) _ _ ae ae ae ae).xor (h.turn (c:=14) _ _ ae ae ae ae)).xor (h.shr 8 ae)
theorem IsN.s1 {x:Int} {m:Nat} (h:IsN x m):IsN (bitsV .xor .u32 (bitsV .xor .u32 (turnV x 17) (turnV x 19)) (shrV .u32 x 10)) (s1N m) :=
 ((h.turn (c:=15) _ _ ae ae ae ae).xor (h.turn (c:=13) _ _ ae ae ae ae)).xor (h.shr 1024 ae)
theorem IsN.b1 {x:Int} {m:Nat} (h:IsN x m):IsN (x32 (x32 (turnV x 6) (turnV x 11)) (turnV x 25)) (b1N m) :=
 ((h.turn (c:=26) _ _ ae ae ae ae).xor (h.turn (c:=21) _ _ ae ae ae ae)).xor (h.turn (c:=7) _ _ ae ae ae ae)
theorem IsN.b0 {x:Int} {m:Nat} (h:IsN x m):IsN (x32 (x32 (turnV x 2) (turnV x 13)) (turnV x 22)) (b0N m) :=
 ((h.turn (c:=30) _ _ ae ae ae ae).xor (h.turn (c:=19) _ _ ae ae ae ae)).xor (h.turn (c:=10) _ _ ae ae ae ae)
def fc {α:Type} (n:Nat) (k:Nat→α):α:=match n with
 | 0=>k 0
 | m+1=>k (Nat.succ m)
theorem ny {α:Type} (n:Nat) (k:Nat→α):fc n k=k n:=by cases n<;>rfl
structure S8 where
 a:Nat
 b:Nat
 c:Nat
 d:Nat
 e:Nat
 f:Nat
 g:Nat
 h:Nat
structure RS (x:St8) (n:S8):Prop where
 a:IsN x.a n.a
 b:IsN x.b n.b
 c:IsN x.c n.c
 d:IsN x.d n.d
 e:IsN x.e n.e
 f:IsN x.f n.f
 g:IsN x.g n.g
 h:IsN x.h n.h
def t1N (h e f g k w:Nat):Nat:=((((h+b1N e)%4294967296+((e &&& f) ^^^ ((4294967295 ^^^ e) &&& g)))%4294967296+k)%4294967296+w)%4294967296
def t2N (a b c:Nat):Nat:=(b0N a+(((a &&& b) ^^^ (a &&& c)) ^^^ (b &&& c)))%4294967296
def roundN (s:S8) (k w:Nat):S8:=match s with
 | ⟨a,b,c,d,e,f,g,h⟩=>fc (t1N h e f g k w) fun t1=>fc ((t1+t2N a b c)%4294967296) fun x=>fc ((d+t1)%4294967296) fun y=>⟨x,a,b,c,y,e,f,g⟩
theorem RS.round {x:St8} {n:S8} (h:RS x n) {k w:Int} {k' w':Nat} (hk:IsN k k') (hw:IsN w w'):RS (roundV x k w) (roundN n k' w'):=by
 obtain ⟨a,b,c,d,e,f,g,hh⟩:=n
 obtain ⟨ha,hb,hc,hd,he,hf,hg,hh⟩:=h
 simp only [roundN,ny]
 have hm:IsN (if IntKind.u32.signed then -1 else IntKind.u32.max) 4294967295:=⟨by kernel_rfl,by decide⟩
 have h1:IsN (t1V x k w) (t1N _ e f g k' w'):=(((hh.add he.b1).add ((he.and hf).xor ((hm.xor he).and hg))).add hk).add hw
 have h2:IsN (t2V x) (t2N a b c):=ha.b0.add (((ha.and hb).xor (ha.and hc)).xor (hb.and hc))
 exact ⟨h1.add h2,ha,hb,hc,hd.add h1,he,hf,hg⟩
structure W16 where
 w0:Nat
 w1:Nat
 w2:Nat
 w3:Nat
 w4:Nat
 w5:Nat
 w6:Nat
 w7:Nat
 w8:Nat
 w9:Nat
 w10:Nat
 w11:Nat
 w12:Nat
 w13:Nat
 w14:Nat
 w15:Nat
def nextW (a b c d:Nat):Nat:=(((a+s0N b)%4294967296+c)%4294967296+s1N d)%4294967296
def W16.next (w:W16):W16:=match w with
 | ⟨a0,a1,a2,a3,a4,a5,a6,a7,a8,a9,a10,a11,a12,a13,a14,a15⟩=>fc (nextW a0 a1 a9 a14) fun x=>⟨a1,a2,a3,a4,a5,a6,a7,a8,a9,a10,a11,a12,a13,a14,a15,x⟩
def sN (f:Nat→Nat):Nat→Nat→Nat
 | 0,t=>f t
 | k+1,t=>if t=16+k then nextW (sN f k k) (sN f k (k+1)) (sN f k (k+9)) (sN f k (k+14)) else sN f k t
def winN (f:Nat→Nat) (t:Nat):W16:=⟨sN f t t,sN f t (t+1),sN f t (t+2),sN f t (t+3),sN f t (t+4),sN f t (t+5),sN f t (t+6),sN f t (t+7),sN f t (t+8),sN f t (t+9),sN f t (t+10),sN f t (t+11),sN f t (t+12),sN f t (t+13),sN f t (t+14),sN f t (t+15)⟩
theorem pN (f:Nat→Nat) {k t:Nat} (h:t≠16+k):sN f (k+1) t=sN f k t:=by rw [sN,ZP h]
theorem tT (f:Nat→Nat) (k:Nat):sN f (k+1) (16+k)=nextW (sN f k k) (sN f k (k+1)) (sN f k (k+9)) (sN f k (k+14)):=by rw [sN,ZO rfl]
theorem jp (f:Nat→Nat) {k t:Nat}:∀ j,t<16+k→sN f (k+j) t=sN f k t
 | 0,_=>rfl
 | j+1,h=>by
  rw [show k+(j+1)=(k+j)+1 from rfl,pN f (by omega)]
  exact jp f j h
theorem W16.next_eq (a0 a1 a2 a3 a4 a5 a6 a7 a8 a9 a10 a11 a12 a13 a14 a15:Nat):W16.next ⟨a0,a1,a2,a3,a4,a5,a6,a7,a8,a9,a10,a11,a12,a13,a14,a15⟩=⟨a1,a2,a3,a4,a5,a6,a7,a8,a9,a10,a11,a12,a13,a14,a15,nextW a0 a1 a9 a14⟩:=by rw [W16.next,ny]
theorem ot (f:Nat→Nat) (t:Nat):(winN f t).next=winN f (t+1):=by
 rw [winN,W16.next_eq,←tT,winN]
 have e:∀ j,j<15→sN f t (t+(j+1))=sN f (t+1) (t+1+j):=fun j hj=>by
  rw [pN f (by omega)];congr 1;omega
 have e15:sN f (t+1) (16+t)=sN f (t+1) (t+1+15):=by congr 1;omega
 rw [W16.mk.injEq]
 exact ⟨e 0 aa,e 1 aa,e 2 aa,e 3 aa,e 4 aa,e 5 aa,e 6 aa,e 7 aa,e 8 aa,e 9 aa,e 10 aa,e 11 aa,e 12 aa,e 13 aa,e 14 aa,e15⟩
theorem oF {s:ByteArray} {f:Nat→Nat} (h:∀ t,t<16→IsN (wordV s t) (f t)):∀ k,k≤48→∀ t,t<16+k→IsN ((w2 s k).getD t 0) (sN f k t)
 | 0,_,t,ht=>by
  have key:∀ i,i≤16→∀ t,t<i→(w1 s i).getD t 0=wordV s t:=fun i=>by
   induction i with
   | zero=>intro _ t ht;omega
   | succ i ih =>
    intro hi t ht
    rw [w1,Zo,List.getElem?_set]
    by_cases e:i=t
    · subst e
      rw [ZO rfl,ZO (by rw [px];omega)];rfl
    · rw [ZP e,←Zo]
      exact ih aa t aa
  rw [w2,key 16 aa t (by omega)]
  exact h t aa
 | k+1,hk,t,ht=>by
  have ih:=oF h k aa
  rw [w2,Zo,List.getElem?_set]
  by_cases e:16+k=t
  · subst e
    rw [ZO rfl,ZO (by rw [pw];omega),tT]
    have h0:=ih k aa
    have h1:=ih (16+k-15) aa
    have h9:=ih (16+k-7) aa
    have h14:=ih (16+k-2) aa
    rw [show 16+k-15=k+1 by omega] at h1
    rw [show 16+k-7=k+9 by omega] at h9
    rw [show 16+k-2=k+14 by omega] at h14
    have he:early (w2 s k) (16+k)=_:=rfl
    unfold early late
    rw [show 16+k-15=k+1 by omega,show 16+k-7=k+9 by omega,show 16+k-2=k+14 by omega]
    exact ((h0.add h1.s0).add h9).add h14.s1
  · rw [ZP e,←Zo,pN f (by omega)]
    exact ih t aa
def kN:List Nat:=kC.map Int.toNat
def stepN (p:S8×W16) (k:Nat):S8×W16:=match p with
 | (s,w)=>(roundN s k w.w0,w.next)
theorem qU (s:S8) (w:W16) (k:Nat):stepN (s,w) k=(roundN s k w.w0,w.next):=by unfold stepN;rfl
def roundsN (ks:List Nat) (s:S8) (w:W16):S8:=(ks.foldl stepN (s,w)).1
theorem xK {x:St8} {ws:List Int} {f:Nat→Nat} (hw:∀ t,t<64→IsN (ws.getD t 0) (sN f t t)):∀ (n t:Nat) (s:S8),t+n=64→RS (roundsV x ws t) s→RS (roundsV x ws 64) ((kN.drop t).foldl stepN (s,winN f t)).1:=by
 intro n
 have hl:kN.length=64:=by kernel_rfl
 have hk:∀ t,t<64→kC.getD t 0=((kN.getD t 0:Nat):Int)∧kN.getD t 0<4294967296:=by decide +kernel
 induction n with
 | zero =>
  intro t s ht h
  have e:t=64:=by omega
  subst e
  rw [Qw aa,List.foldl_nil]
  exact h
 | succ n ih =>
  intro t s ht h
  have hd:kN.drop t=kN[t]'(by omega)::kN.drop (t+1):=List.drop_eq_getElem_cons aa
  have e2:kN.getD t 0=kN[t]'(by omega):=by rw [Zo,Zb (by omega)];rfl
  have h1:=hk t aa
  rw [e2] at h1
  have hw0:(winN f t).w0=sN f t t:=by unfold winN;rfl
  have hr:roundsV x ws (t+1)=roundV (roundsV x ws t) (kC.getD t 0) (ws.getD t 0):=by rw [roundsV]
  rw [hd,QG,qU,ot,hw0]
  refine ih (t+1) _ aa ?_
  rw [hr]
  exact h.round h1 (hw t aa)
theorem tV {x:St8} {ws:List Int} {f:Nat→Nat} (hw:∀ t,t<64→IsN (ws.getD t 0) (sN f t t)) {s:S8} (h:RS x s):RS (roundsV x ws 64) (roundsN kN s (winN f 0)):=by
 have h1:=xK (x:=x) hw 64 0 s (ZU _) (by rw [roundsV];exact h)
 rw [List.drop_zero] at h1
 unfold roundsN
 exact h1
def addN (x y:S8):S8:=match x,y with
 | ⟨a,b,c,d,e,f,g,h⟩,⟨a',b',c',d',e',f',g',h'⟩=>fc ((a+a')%4294967296) fun a=>fc ((b+b')%4294967296) fun b=>fc ((c+c')%4294967296) fun c=>fc ((d+d')%4294967296) fun d=>fc ((e+e')%4294967296) fun e=>fc ((f+f')%4294967296) fun f=>fc ((g+g')%4294967296) fun g=>fc ((h+h')%4294967296) fun h=>⟨a,b,c,d,e,f,g,h⟩
def mixN (s:S8) (w:W16):S8:=addN s (roundsN kN s w)
theorem RS.add {x y:St8} {m n:S8} (h:RS x m) (h1:RS y n):RS ⟨a32 x.a y.a,a32 x.b y.b,a32 x.c y.c,a32 x.d y.d,a32 x.e y.e,a32 x.f y.f,a32 x.g y.g,a32 x.h y.h⟩ (addN m n):=by
 obtain ⟨a,b,c,d,e,f,g,hh⟩:=m
 obtain ⟨a',b',c',d',e',f',g',h'⟩:=n
 simp only [addN,ny]
 exact ⟨h.a.add h1.a,h.b.add h1.b,h.c.add h1.c,h.d.add h1.d,h.e.add h1.e,h.f.add h1.f,h.g.add h1.g,h.h.add h1.h⟩
theorem RS.mix {x:St8} {n:S8} (h:RS x n) {s:ByteArray} {f:Nat→Nat} (hs:∀ t,t<16→IsN (wordV s t) (f t)):RS (mixV x s) (mixN n (winN f 0)):=by
 have h1:=tV (x:=x) (ws:=schedV s) (f:=f) (fun t ht=>by
  have h2:=oF hs 48 aa t aa
  by_cases e:t≤48
  · have h3:=jp f (k:=t) (t:=t) (48-t) aa
    rw [show t+(48-t)=48 by omega] at h3
    rw [schedV]
    rwa [h3] at h2
  · have h3:=jp f (k:=48) (t:=t) (t-48) aa
    rw [show 48+(t-48)=t by omega] at h3
    rw [schedV,h3]
    exact h2) h
 unfold mixV mixN
 generalize roundsV x (schedV s) 64=y at h1 ⊢
 generalize roundsN kN n (winN f 0)=y' at h1 ⊢
 exact h.add h1
def nl (s:ByteArray):List Nat:=s.data.toList.map UInt8.toNat
theorem dw (s:ByteArray):(nl s).length=s.size:=by simp [nl]
theorem xY (a b:ByteArray):nl (a++b)=nl a++nl b:=by simp [nl,ByteArray.data_append]
theorem jE (s:ByteArray):∀ x∈nl s,x<256:=fun x hx=>by
 obtain ⟨b,_,rfl⟩:=QJ.1 hx
 exact b.toNat_lt
theorem iR (s:ByteArray) (a b:Nat):nl (s.extract a b)=((nl s).drop a).take (b-a):=by
 simp [nl,ByteArray.data_extract,Array.toList_extract,List.map_take,List.map_drop]
theorem F2 {a b:ByteArray} (h:nl a=nl b):a=b:=by
 apply ByteArray.ext
 apply Array.ext'
 have key:∀ l m:List UInt8,l.map UInt8.toNat=m.map UInt8.toNat→l=m:=fun l=>by
  induction l with
  | nil=>intro m h;cases m with|nil=>rfl|cons _ _=>cases h
  | cons a l ih =>
   intro m h
   cases m with
   | nil=>cases h
   | cons b m =>
    simp only [Z1,List.cons.injEq] at h
    rw [UInt8.toNat_inj.1 h.1,ih m h.2]
 exact key _ _ h
theorem kH (s:ByteArray):bytesI s=(nl s).map fun (n:Nat)=>(n:Int):=by simp [bytesI,nl,Function.comp_def]
def wdN (a b c d:Nat):Nat:=((a*16777216%4294967296 ||| (b*65536%4294967296)) ||| (c*256%4294967296)) ||| d
def fW (l:List Nat) (t:Nat):Nat:=wdN (l.getD (4*t) 0) (l.getD (4*t+1) 0) (l.getD (4*t+2) 0) (l.getD (4*t+3) 0)
theorem yC (s:ByteArray) (i j:Nat) (hj:j<4):byteAt (s.extract (4*(i:Int)).toNat (4*(i:Int)+4).toNat) j=(((nl s).getD (4*i+j) 0:Nat):Int):=by
 have h1:(4*(i:Int)).toNat=4*i:=by omega
 have h2:(4*(i:Int)+4).toNat=4*i+4:=by omega
 have h0:∀ (e:ByteArray) (k:Nat),byteAt e k=(((nl e).getD k 0:Nat):Int):=fun e k=>by
  simp only [byteAt,nl,Zo,Z7]
  cases e.data.toList[k]?<;>rfl
 rw [h1,h2,h0,iR,show 4*i+4-4*i=4 by omega,Zo,Zo,QH,ZO hj,List.getElem?_drop]
theorem fQ {l:List Nat} (h:∀ x∈l,x<256) (i:Nat):l.getD i 0<256:=by
 rw [Zo]
 cases hx:l[i]? with
 | none=>decide
 | some x=>exact h x (Z6 hx)
theorem CL (s:ByteArray) (i:Nat):IsN (wordV s i) (fW (nl s) i):=by
 have hb:∀ j,j<4→IsN (IntKind.u32.wrap (byteAt (s.extract (4*(i:Int)).toNat (4*(i:Int)+4).toNat) j)) ((nl s).getD (4*i+j) 0):=fun j hj=>by
  have h:=fQ (jE s) (4*i+j)
  rw [yC s i j hj,wrap32,ZD (by omega)]
  exact ⟨rfl,by omega⟩
 unfold wordV fW wdN
 exact ((((hb 0 aa).shl 16777216 ae).or ((hb 1 aa).shl 65536 ae)).or ((hb 2 aa).shl 256 ae)).or (hb 3 aa)
def rd1 {α:Type} (z:α) (l:List Nat) (k:Nat→List Nat→α):α:=match l with
 | a::b::c::d::r=>fc (wdN a b c d) fun w=>k w r
 | _=>z
theorem FY {α:Type} {z:α} {l:List Nat} {k:Nat→List Nat→α} (h:4≤l.length):rd1 z l k=k (fW l 0) (l.drop 4):=by
 match l,h with
 | a::b::c::d::r,_=>rw [rd1,ny];rfl
def blkN {α:Type} (z:α) (l:List Nat) (k:W16→List Nat→α):α :=
 rd1 z l fun w0 l=>rd1 z l fun w1 l=>rd1 z l fun w2 l=>rd1 z l fun w3 l=>rd1 z l fun w4 l=>rd1 z l fun w5 l=>rd1 z l fun w6 l=>rd1 z l fun w7 l =>
 rd1 z l fun w8 l=>rd1 z l fun w9 l=>rd1 z l fun w10 l=>rd1 z l fun w11 l=>rd1 z l fun w12 l=>rd1 z l fun w13 l=>rd1 z l fun w14 l=>rd1 z l fun w15 l =>
 k ⟨w0,w1,w2,w3,w4,w5,w6,w7,w8,w9,w10,w11,w12,w13,w14,w15⟩ l
theorem EA (l:List Nat) (m t:Nat):fW (l.drop (4*m)) t=fW l (m+t):=by
 have e:∀ j,(l.drop (4*m)).getD (4*t+j) 0=l.getD (4*(m+t)+j) 0:=fun j=>by
  rw [Zo,Zo,List.getElem?_drop,show 4*m+(4*t+j)=4*(m+t)+j by omega]
 have e0:=e 0
 simp only [ZT] at e0
 rw [fW,fW,e0,e 1,e 2,e 3]
theorem EN {α:Type} {z:α} {l:List Nat} {k:W16→List Nat→α} (h:64≤l.length):blkN z l k=k (winN (fW l) 0) (l.drop 64):=by
 have st:∀ (m:Nat) (k':Nat→List Nat→α),m<16→rd1 z (l.drop (4*m)) k'=k' (fW l m) (l.drop (4*(m+1))):=fun m k' hm=>by
  rw [FY (by rw [Qr];omega),EA,List.drop_drop]
  rfl
 have h0:l=l.drop (4*0):=rfl
 unfold blkN
 rw [h0,st 0 _ aa,st 1 _ aa,st 2 _ aa,st 3 _ aa,st 4 _ aa,st 5 _ aa,st 6 _ aa,st 7 _ aa,st 8 _ aa,st 9 _ aa,st 10 _ aa,st 11 _ aa,st 12 _ aa,st 13 _ aa,st 14 _ aa,st 15 _ (by omega)]
 rfl
def runN:Nat→S8→List Nat→S8
 | 0,x,_=>x
 | f+1,x,l=>blkN x l fun w r=>runN f (mixN x w) r
theorem gg {f:Nat} {x:S8} {l:List Nat} (h:64≤l.length):runN (f+1) x l=runN f (mixN x (winN (fW l) 0)) (l.drop 64):=EN h
theorem wc {l:List Nat} (t:Nat) (h:t<16):fW (l.take 64) t=fW l t:=by
 have e:∀ j,j<64→(l.take 64).getD j 0=l.getD j 0:=fun j hj=>by
  rw [Zo,Zo,QH,ZO hj]
 rw [fW,fW,e _ aa,e _ aa,e _ aa,e _ (by omega)]
theorem RS.blk {x:St8} {n:S8} (h:RS x n) (r:ByteArray) (hr:64≤r.size):RS (mixV x (r.extract 0 64)) (mixN n (winN (fW (nl r)) 0)) :=
 h.mix fun t ht=>by
  have h1:=CL (r.extract 0 64) t
  rw [iR,List.drop_zero] at h1
  rwa [wc t ht] at h1
theorem qc (r:ByteArray):nl (r.extract 64 r.size)=(nl r).drop 64:=by
 rw [iR,Qf (by rw [Qr,dw];omega)]
theorem oB (r:ByteArray) (h:64≤r.size):(r.extract 64 r.size).size=r.size-64:=by
 rw [←dw,qc,Qr,dw]
theorem oS:∀ (f:Nat) (x:St8) (n:S8) (r:ByteArray),RS x n→r.size/64≤f→RS (loopV f x r).1 (runN (r.size/64) n (nl r))∧nl (loopV f x r).2=(nl r).drop (64*(r.size/64))
 | 0,x,n,r,h,hf=>by
  have e:r.size/64=0:=by omega
  rw [e]
  exact ⟨h,rfl⟩
 | f+1,x,n,r,h,hf=>by
  by_cases hr:64≤r.size
  · have e:r.size/64=(r.size-64)/64+1:=by omega
    have hs:=oB r hr
    have ih:=oS f (mixV x (r.extract 0 64)) _ (r.extract 64 r.size) (h.blk r hr) (by rw [hs];omega)
    rw [hs,qc] at ih
    have e2:loopV (f+1) x r=loopV f (mixV x (r.extract 0 64)) (r.extract 64 r.size):=by rw [loopV,Zd aa,Zf]
    rw [e2,e,gg (by rw [dw];omega)]
    refine ⟨ih.1,?_⟩
    rw [ih.2,List.drop_drop]
    congr 1
    omega
  · have e:r.size/64=0:=by omega
    have e2:loopV (f+1) x r=(x,r):=by rw [loopV,Zc aa,Ze]
    rw [e,e2]
    exact ⟨h,rfl⟩
theorem oT:∀ (f:Nat) (x:St8) (n:S8) (r:ByteArray),RS x n→r.size%64=0→r.size/64≤f→RS (loopE f x r) (runN (r.size/64) n (nl r))
 | 0,x,n,r,h,_,hf=>by
  have e:r.size/64=0:=by omega
  rw [e]
  exact h
 | f+1,x,n,r,h,hm,hf=>by
  by_cases hr:r.size=0
  · have e:r.size/64=0:=by omega
    have e2:loopE (f+1) x r=x:=by rw [loopE,dF,Zd hr,Zf]
    rw [e,e2]
    exact h
  · have hs:=oB r aa
    have e:r.size/64=(r.size-64)/64+1:=by omega
    have ih:=oT f (mixV x (r.extract 0 64)) _ (r.extract 64 r.size) (h.blk r aa) (by rw [hs];omega) (by rw [hs];omega)
    rw [hs,qc] at ih
    have e2:loopE (f+1) x r=loopE f (mixV x (r.extract 0 64)) (r.extract 64 r.size):=by rw [loopE,dF,Zc hr,Ze]
    rw [e2,e,gg (by rw [dw];omega)]
    exact ih
theorem lO {f g:Nat→Nat} (h:∀ t,t<16→f t=g t):winN f 0=winN g 0:=by
 have e:∀ t,t<16→sN f 0 t=sN g 0 t:=fun t ht=>by rw [sN,sN];exact h t ht
 rw [winN,winN,W16.mk.injEq]
 exact ⟨e 0 aa,e 1 aa,e 2 aa,e 3 aa,e 4 aa,e 5 aa,e 6 aa,e 7 aa,e 8 aa,e 9 aa,e 10 aa,e 11 aa,e 12 aa,e 13 aa,e 14 aa,e 15 aa⟩
theorem yt {l e:List Nat} (h:64≤l.length) (t:Nat) (ht:t<16):fW (l++e) t=fW l t:=by
 have k:∀ j,j<64→(l++e).getD j 0=l.getD j 0:=fun j hj=>by
  rw [Zo,Zo,ZG (by omega)]
 rw [fW,fW,k _ aa,k _ aa,k _ aa,k _ (by omega)]
theorem kP (h:Nat) (e:List Nat):∀ (g:Nat) (x:S8) (l:List Nat),64*g≤l.length→runN (g+h) x (l++e)=runN h (runN g x l) (l.drop (64*g)++e)
 | 0,x,l,_=>by
  rw [ZU,Nat.mul_zero,List.drop_zero,runN]
 | g+1,x,l,hl=>by
  have ih:=kP h e g (mixN x (winN (fW l) 0)) (l.drop 64) (by rw [Qr];omega)
  rw [show g+1+h=(g+h)+1 by omega,gg (by rw [ZA];omega),lO (fun t ht=>yt aa t ht),List.drop_append_of_le_length aa,ih,gg aa,List.drop_drop]
  congr 3
  omega
def sizeN (n:Nat):List Nat:=[n*8/72057594037927936%256,n*8/281474976710656%256,n*8/1099511627776%256,n*8/4294967296%256,n*8/16777216%256,n*8/65536%256,n*8/256%256,n*8%256]
def padL (l:List Nat):List Nat:=l++(128::(List.replicate (padN (l.length+1)) 0++sizeN l.length))
def iniN:S8:=⟨1779033703,3144134277,1013904242,2773480762,1359893119,2600822924,528734635,1541459225⟩
def d4N (w:Nat):List Nat:=[w/16777216%256,w/65536%256,w/256%256,w%256]
def digN (s:S8):List Nat:=match s with
 | ⟨a,b,c,d,e,f,g,h⟩=>d4N a++(d4N b++(d4N c++(d4N d++(d4N e++(d4N f++(d4N g++d4N h))))))
def shaL (l:List Nat):List Nat:=digN (runN ((padL l).length/64) iniN (padL l))
theorem wrap8 (n:Nat):IntKind.u8.wrap (n:Int)=((n%256:Nat):Int):=by
 simp [IntKind.wrap,IntKind.signed,IntKind.bits]
theorem km (ns:List Nat) (h:∀ x∈ns,x<256):nl (ofInts (ns.map fun (n:Nat)=>(n:Int)))=ns:=by
 have key:∀ (ns:List Nat) (r:ByteArray),(∀ x∈ns,x<256)→nl ((ns.map fun (n:Nat)=>(n:Int)).foldl (fun r n=>r.push (UInt8.ofNat n.toNat)) r)=nl r++ns:=fun ns=>by
  induction ns with
  | nil=>intro r _;simp
  | cons a ns ih =>
   intro r h
   rw [Z1,QG,ih _ fun x hx=>h x (Zv _ hx)]
   have ha:=h a aw
   have:nl (r.push (UInt8.ofNat ((a:Int)).toNat))=nl r++[a]:=by
    simp [nl,ByteArray.data_push,ZD ha]
   rw [this,ZC]
   rfl
 have:=key ns ByteArray.empty h
 simpa [ofInts,nl] using this
theorem fR {x:Int} {n:Nat} (h:IsN x n):digB x=(d4N n).map fun (n:Nat)=>(n:Int):=by
 have h24:=(h.shr (c:=24) 16777216 ae).1
 have h16:=(h.shr (c:=16) 65536 ae).1
 have h8:=(h.shr (c:=8) 256 ae).1
 unfold digB d4N
 rw [h24,h16,h8,h.1,wrap8,wrap8,wrap8,wrap8]
 rfl
theorem GN (n:Nat):∀ x∈d4N n,x<256:=fun x hx=>by
 simp only [d4N,ZI,Qk,or_false] at hx
 rcases hx with rfl|rfl|rfl|rfl<;>exact Qc _ (by decide)
theorem Gv {x:St8} {n:S8} (h:RS x n):nl (ofInts (x.l.flatMap digB))=digN n:=by
 obtain ⟨a,b,c,d,e,f,g,hh⟩:=n
 have e1:x.l.flatMap digB=(digN ⟨a,b,c,d,e,f,g,hh⟩).map fun (n:Nat)=>(n:Int):=by
  simp only [St8.l,digN,List.flatMap_cons,List.flatMap_nil,ZJ,ZW,fR h.a,fR h.b,fR h.c,fR h.d,fR h.e,fR h.f,fR h.g,fR h.h]
 rw [e1]
 refine km _ fun x hx=>?_
 simp only [digN,Qy] at hx
 rcases hx with h|h|h|h|h|h|h|h<;>exact GN _ _ h
theorem qY (n:Nat) (hn:n<2305843009213693952):sizeB (n:Int) 8=(sizeN n).map fun (n:Nat)=>(n:Int):=by
 have hw:∀ m:Nat,m<18446744073709551616→IntKind.u64.wrap (m:Int)=(m:Int):=fun m hm=>by
  simp [IntKind.wrap,IntKind.signed,IntKind.bits]
  omega
 have h1:IntKind.u64.wrap (IntKind.u64.wrap (n:Int)*8)=((n*8:Nat):Int):=by
  rw [hw n aa,show (n:Int)*8=((n*8:Nat):Int) by omega,hw _ (by omega)]
 have hs:∀ (c:Int) (p:Nat),(2:Int) ^ (min c.toNat 64)=(p:Int)→shrV .u64 ((n*8:Nat):Int) c=((n*8/p:Nat):Int):=fun c p hp=>by
  show ((n*8:Nat):Int).fdiv (2 ^ (min c.toNat 64))=_
  rw [hp,←Int.ofNat_fdiv]
 unfold sizeB sizeN
 rw [h1,show List.range 8=[0,1,2,3,4,5,6,7] by rfl]
 simp only [Z1,List.map_nil]
 rw [hs _ 72057594037927936 ae,hs _ 281474976710656 ae,hs _ 1099511627776 ae,hs _ 4294967296 ae,hs _ 16777216 ae,hs _ 65536 ae,hs _ 256 ae,hs _ 1 ae,Nat.div_one]
 simp only [wrap8]
theorem Gu (s:ByteArray) (n:Nat) (hn:n<2305843009213693952):nl (endV s (n:Int))=nl s++(128::(List.replicate (padN (s.size+1)) 0++sizeN n)):=by
 have e:endL s++List.replicate (padN (s.size+1)) 0++sizeB (n:Int) 8=(nl s++(128::(List.replicate (padN (s.size+1)) 0++sizeN n))).map fun (n:Nat)=>(n:Int):=by
  rw [endL,kH,qY n hn]
  simp
 rw [endV,e]
 refine km _ fun x hx=>?_
 simp only [Qy,ZI,List.mem_replicate] at hx
 rcases hx with h|h|h|h
 · exact jE s x h
 · omega
 · omega
 · simp only [sizeN,ZI,Qk,or_false] at h
   rcases h with rfl|rfl|rfl|rfl|rfl|rfl|rfl|rfl<;>exact Qc _ (by decide)
theorem FL (s:ByteArray) (hs:s.size<2305843009213693952):nl (shaV s)=shaL (nl s):=by
 have hi:RS iniS iniN:=⟨⟨rfl,by decide⟩,⟨rfl,by decide⟩,⟨rfl,by decide⟩,⟨rfl,by decide⟩,⟨rfl,by decide⟩,⟨rfl,by decide⟩,⟨rfl,by decide⟩,⟨rfl,by decide⟩⟩
 obtain ⟨h1,h2⟩:=oS s.size iniS iniN s hi (Nat.div_le_self _ _)
 have h3:shaV s=ofInts ((loopE (endV (loopV s.size iniS s).2 s.size).size (loopV s.size iniS s).1 (endV (loopV s.size iniS s).2 s.size)).l.flatMap digB):=rfl
 rw [h3]
 generalize loopV s.size iniS s=p at h1 h2
 have he:=Gu p.2 s.size hs
 have hps:p.2.size=s.size%64:=by
  rw [←dw,h2,Qr,dw]
  omega
 have hlen:(endV p.2 s.size).size%64=0:=pb _ _
 have h4:=oT (endV p.2 s.size).size p.1 _ (endV p.2 s.size) h1 hlen (Nat.div_le_self _ _)
 rw [Gv h4,shaL]
 congr 1
 have hpad:padN (p.2.size+1)=padN ((nl s).length+1):=by
  rw [hps,dw,padN,padN]
  omega
 have hpl:padL (nl s)=nl s++(128::(List.replicate (padN ((nl s).length+1)) 0++sizeN s.size)):=by rw [padL,dw]
 have hll:(padL (nl s)).length/64=s.size/64+(endV p.2 s.size).size/64:=by
  have e1:(endV p.2 s.size).size=(s.size%64)+1+padN ((nl s).length+1)+8:=by
   rw [←dw,he,h2,hpad]
   simp only [ZA,ZB,List.length_replicate,Qr,dw,sizeN,ZR]
   omega
  have e2:(padL (nl s)).length=s.size+1+padN ((nl s).length+1)+8:=by
   rw [hpl]
   simp only [ZA,ZB,List.length_replicate,dw,sizeN,ZR]
   omega
  rw [e1,e2]
  rw [e1] at hlen
  omega
 rw [hll,hpl,kP _ _ _ _ _ (by rw [dw];omega),he,h2,hpad]
end Go.Proofs.YtaolfiikahlmkaaGreatDoor
namespace Go.Proofs.YtaolfiikahlmkaaGreatDoor.Sy
open Go Go.RowKit
theorem Gam.later {av bor:List Nat} {w0 w w':World} {loc:List Res} {X:World→Prop} (G:Gam av bor w0 loc X w) (hB:Below w.heap.size w w'):Gam av bor w0 loc X w' :=
 (Gam.more (r:=⟨[],fun _=>True⟩) G hB (fun _ _=>trivial) List.nodup_nil (fun i hi=>by cases hi)).drop (List.sublist_cons_self _ _)
section
variable {P:Program} {N:Nat} {av bor:List Nat} {w0:World} {ops:Array Oper} {rest:List Oper} {k:St→Prop} {E:Env} {loc:List Res} {X:World→Prop}
variable {ty:TypeId} {pos:String} {af:Array Edge} {g:Option (Nat×Bool)} {bb want:Bool}
theorem mB {n:Nat} {x:Operand} {xs:List Operand} {ats:Array TypeId} {f:FuncId} {args:List Value} {X1:World→Prop} {v:Value} (h:Sw P N av bor w0 ops rest ⟨(n,v)::E,loc,X⟩ k) (hx:ev E x=some (.func (.func f) #[] #[]):=by rfl) (ha:evs E xs=some args:=by rfl) (hg:gdB ops E g=some (bb,want):=by rfl) (hb:bb=want:=by exact ao) (hd:Nat.blt n N=true:=by rfl) (hf:FnBody P f:=by infer_instance) (hc:Pu P f args.toArray X1 v) (hX:∀ w,X w→(∀ r∈loc,r.F w)→X1 w) :
  Sw P N av bor w0 ops (⟨some n,.call ⟨.value x,xs.toArray,ats⟩,ty,pos,af,g⟩::rest) ⟨E,loc,X⟩ k:=Sw.mk fun a w ok=>by
 have hd':inB N (some n)=true:=by have h1:n<N:=Zx hd;simpa [inB] using h1
 simp only [wpList]
 rw [bA ok (o:=⟨some n,.call ⟨.value x,xs.toArray,ats⟩,ty,pos,af,g⟩) hg]
 subst hb
 simp only [Zz,ZN]
 left
 unfold Oper.wp
 have hr:(execOp a.eval ⟨some n,.call ⟨.value x,xs.toArray,ats⟩,ty,pos,af,g⟩).run P w=.ok (.enter f args.toArray) w:=by
  have e:=ij ok xs args ha
  have e1:xs.toArray.map a.eval=args.toArray:=by rw [List.map_toArray,e]
  simp only [execOp,resolve,ok.eval (st:=⟨E,loc,X⟩) hx,Deferred.ofValue,invoke,e1]
  simp only [Sem.run_bind,Sem.run_pure,Result.andThen_ok]
  have e2:(#[]:Array Value)++args.toArray++#[]=args.toArray:=by simp
  rw [e2]
  exact j8 _ w
 rw [hr]
 have G1:=ok.gam.giveAll
 have G0:=(Gam.start (pre:=[]) (fr:=[]) G1).imp (fun w h=>hX w h.1 h.2)
 unfold Pu at hc
 refine (Ct.run hc w _ G0).mono fun e w' ⟨u,R,X',he,⟨hu,hR⟩,G'⟩=>?_
 subst he
 subst hu
 have ok':Ok N av bor w0 ⟨E,loc,X⟩ a w':=ok.via fun M G=>Gam.later G G'.fr.below
 exact h.run _ _ (df (some n) _▸ok'.put hd' _)
end
end Go.Proofs.YtaolfiikahlmkaaGreatDoor.Sy
namespace Go.Proofs.YtaolfiikahlmkaaGreatDoor
open Go Go.Proofs Sy Go.Shelf Go.RowKit
def numF (l:List Nat):Nat→Nat
 | 0=>0
 | k+1=>numF l k*256+l.getD k 0
def numN (l:List Nat):Nat:=numF l 8/8
theorem jD (s:ByteArray):∀ k,numF (nl s) k<256 ^ k
 | 0=>by simp [numF]
 | k+1=>by
  have h1:=jD s k
  have h2:=fQ (jE s) k
  rw [numF,Nat.pow_succ]
  omega
theorem numF7 (s:ByteArray) {k:Nat} (hk:k<8):numF (nl s) k<72057594037927936:=by
 have h1:=jD s k
 have h2:256 ^ k≤256 ^ 7:=Nat.pow_le_pow_right (by decide) aa
 have h3:(256:Nat) ^ 7=72057594037927936:=by decide
 omega
theorem numF8 (s:ByteArray) {k:Nat} (hk:k<8):numF (nl s) k*256<18446744073709551616:=by
 have h1:=jD s k
 have h2:256 ^ k≤256 ^ 7:=Nat.pow_le_pow_right (by decide) aa
 have h3:(256:Nat) ^ 7=72057594037927936:=by decide
 omega
theorem shl8 (x:Nat) (h:x*256<18446744073709551616):shlV .u64 (x:Int) 8=((x*256:Nat):Int):=by
 show IntKind.u64.wrap ((x:Int)*2 ^ (min (8:Int).toNat 64))=_
 rw [show ((2:Int) ^ (min (8:Int).toNat 64))=256 from by kernel_rfl,co _ (by omega)]
 omega
theorem or8 (x b:Nat) (hb:b<256) (h:x<72057594037927936):bitsV .or .u64 ((x*256:Nat):Int) (b:Int)=((x*256+b:Nat):Int):=by
 have hx:x*256+b<18446744073709551616:=by omega
 have hy:x*256<18446744073709551616:=Nat.lt_of_le_of_lt (Nat.le_add_right _ _) hx
 have hz:b<18446744073709551616:=by omega
 have hw:IntKind.u64.wrap ((x*256+b:Nat):Int)=((x*256+b:Nat):Int):=co _ aa
 have e:x*256 ||| b=x*256+b:=by
  have:=Nat.shiftLeft_add_eq_or_of_lt (a:=x) (b:=b) (i:=8) hb
  rw [Nat.shiftLeft_eq] at this
  exact this.symm
 show IntKind.u64.wrap ((((BitVec.ofInt 64 ((x*256:Nat):Int)) ||| (BitVec.ofInt 64 (b:Int))).toNat:Nat):Int)=_
 rw [Qm,Qm,BitVec.toNat_or,Qp,Qp,ZD (show x*256<2 ^ 64 from hy),ZD (show b<2 ^ 64 from hz),e,hw]
theorem shr3 (x:Nat):shrV .u64 (x:Int) 3=((x/8:Nat):Int):=by
 show (x:Int).fdiv (2 ^ (min (3:Int).toNat 64))=_
 rw [show ((2:Int) ^ (min (3:Int).toNat 64))=((8:Nat):Int) from by kernel_rfl,←Int.ofNat_fdiv]
theorem qw (s:ByteArray) (k:Nat) (hk:k<s.size):byteAt s k=(((nl s).getD k 0:Nat):Int):=by
 simp only [byteAt,nl,Zo,Z7]
 have hl:k<s.data.toList.length:=by simpa using hk
 rw [Zb hl]
 rfl
theorem xp (s:ByteArray):Pu Tryz.prog 222 #[.string s] (fun _=>True) (.int .i64 (numN (nl s):Nat)):=by
 refine ak (args:=[_]) _ Tryz.func222 rfl Tryz.ntmps222 rfl fun av bor w0=>?_
 repeat' (first|refine gs ?_|(refine gp ?_ ?_<;>intro hx_ this)|fail)
 refine aq (ι:=Kth 8) (fun i=>⟨[(0,.string s),(3,.int .u64 (numF (nl s) i.k:Nat)),(5,.int .i64 i.k)],[],fun _=>True⟩) (fun i=>8-i.k) ⟨0,Z4 _⟩ (aj am (al _) fun _ h=>h) fun i=>?_
 have hik:=i.hk
 repeat' (first|refine gs ?_|(refine gp ?_ ?_<;>intro hx_ this)|fail)
 · have hlt:i.k<8:=by omega
   have hs:i.k<s.size:=by omega
   have hb:=fQ (jE s) i.k
   have hE:bitsV .or .u64 (shlV .u64 ((numF (nl s) i.k:Nat):Int) 8) (IntKind.u64.wrap (byteAt s (i.k:Int).toNat))=((numF (nl s) (i.k+1):Nat):Int):=by
    rw [shl8 _ (numF8 s hlt),show ((i.k:Int)).toNat=i.k from rfl,qw s _ hs,co _ aa,or8 _ _ hb (numF7 s hlt)]
    rfl
   exact ⟨⟨i.k+1,hlt⟩,(by show 8-(i.k+1)<8-i.k;omega),aj ⟨rfl,congrArg (fun z=>some (Value.int IntKind.u64 z)) hE,rfl,trivial⟩ (al _) fun _ h=>h⟩
 · have hlt:i.k<8:=by omega
   have hs:s.size≤i.k:=by omega
   have hE:shlV .u64 ((numF (nl s) i.k:Nat):Int) 8=((numF (nl s) (i.k+1):Nat):Int):=by
    rw [shl8 _ (numF8 s hlt),numF,Zo,List.getElem?_eq_none (by rw [dw];exact hs),Option.getD_none,ZT]
   exact ⟨⟨i.k+1,hlt⟩,(by show 8-(i.k+1)<8-i.k;omega),aj ⟨rfl,congrArg (fun z=>some (Value.int IntKind.u64 z)) hE,rfl,trivial⟩ (al _) fun _ h=>h⟩
 · have h8:i.k=8:=by omega
   apply ad;apply ag;rfl;rfl
   have hl:=jD s 8
   have hp:(256:Nat) ^ 8=18446744073709551616:=by decide
   rw [h8,shr3,IntWalk.i64_in _ (by omega)]
   rfl
theorem DT (s:ByteArray):numN (nl s)<2305843009213693952:=by
 have hl:=jD s 8
 have hp:(256:Nat) ^ 8=18446744073709551616:=by decide
 rw [numN]
 omega
def catB (l:List ByteArray):ByteArray:=l.foldr (fun a b=>a++b) ⟨#[]⟩
theorem Bs:∀ l:List ByteArray,nl (catB l)=l.flatMap nl
 | []=>rfl
 | a::l=>by
  show nl (a++catB l)=_
  rw [xY,Bs l,List.flatMap_cons]
def PartsAt (b T:Nat) (xs:List ByteArray) (w:World):Prop:=w.heap[b]?=some (.cells (xs.map Value.string).toArray T (0,0))
theorem rH {P:Program} {f:FuncId} {args:Array Value} {X:World→Prop} {v:Value} (h:∀ w,X w→Calls P f args w fun e w'=>e=.returned v∧Below w.heap.size w w'):Pu P f args X v:=by
 unfold Pu
 exact Ct.mk fun w av G=>(h w G.keep.now).mono fun e w' ⟨he,hw⟩=>⟨v,[],X,he,⟨rfl,rfl⟩,Gam.later G hw⟩
theorem joinX:Builder.Extra Tryz.prog Tryz.join_ren where
 sizeBuilder:=by kernel_rfl
 liesBuilder:=by kernel_rfl
 t5:=by kernel_rfl
 a5:=fun w=>by simp [isAgg,run_underlying (show Tryz.prog.underlying (Tryz.join_ren.t 5)=some (.int .u8) from by kernel_rfl)]
 z5:=fun w=>Sy.run_sizeOf (P:=Tryz.prog) (t:=Tryz.join_ren.t 5) (n:=1) ae w
 v5:=fun w=>dS (show zeroOf Tryz.prog (Tryz.join_ren.t 5)=some (.int .u8 0) from by kernel_rfl) w
 infoByte:=by kernel_rfl
 cellsByte:=by kernel_rfl
 sizeByte:=by kernel_rfl
 neB5:=by decide
theorem yg (l:List (List UInt8)):Lib.join l []=l.flatten:=by
 rw [Lib.join,List.intercalate]
 induction l with
 | nil=>rfl
 | cons a l ih =>
  cases l with
  | nil=>simp
  | cons b l=>simpa using ih
theorem Cg (xs:List ByteArray):(⟨(Lib.join (xs.map (·.data.toList)) (⟨#[]⟩:ByteArray).data.toList).toArray⟩:ByteArray)=catB xs:=by
 have e:(⟨#[]⟩:ByteArray).data.toList=[]:=rfl
 rw [e,yg]
 apply F2
 rw [Bs]
 simp [nl,List.map_flatten,List.flatMap_def,Function.comp_def]
 rfl
theorem pi (xs:List ByteArray):(catB xs).size=(xs.map ByteArray.size).sum:=by
 induction xs with
 | nil=>rfl
 | cons a l ih =>
  show (a++catB l).size=_
  rw [Za,ih,Z1,List.sum_cons]
theorem D9 (b T c:Nat) (xs:List ByteArray) (hc:xs.length≤c) (hn:xs.length≤1000) (hs:(catB xs).size≤1099511627776):Pu Tryz.prog 223 #[.slice (some ⟨b,0,none⟩) xs.length c,.string ⟨#[]⟩] (PartsAt b T xs) (.string (catB xs)) :=
 rH fun w h=>by
  have hcell:∀ (j:Nat) x,xs[j]?=some x→w.cell? ⟨b,0+j,none⟩=some (.string x):=fun j x hj=>by
   simp [World.cell?,show w.heap[b]?=_ from h,hj]
  have hl:(Lib.join (xs.map (·.data.toList)) (⟨#[]⟩:ByteArray).data.toList).length=(catB xs).size:=by
   rw [←Cg xs]
   simp [ByteArray.size]
  have:=Any.strings_Join Tryz.join joinX b 0 c xs ⟨#[]⟩ w hcell (QM.1 h).1 aa hc (by rw [hl];omega)
  rw [Cg xs] at this
  exact this
theorem qi (b T c:Nat) (xs:List ByteArray) (hc:xs.length≤c) (hn:xs.length≤1000) (hs:(catB xs).size≤1099511627776) :
  Pu Tryz.prog 134 #[.slice (some ⟨b,0,none⟩) xs.length c] (fun w=>PartsAt b T xs w∧Glob w) (.int .i64 (numN (nl (shaV (catB xs))):Nat)):=by
 refine ak (args:=[_]) _ Tryz.func134 rfl Tryz.ntmps134 rfl fun av bor w0=>?_
 repeat' (first|(refine ab (hc:=D9 b T c xs hc hn hs) (hX:=fun w h=>h.1) ?_)|(refine ab (hc:=pM (catB xs) hs) (hX:=fun w h=>h.2) ?_)|refine ab (hc:=xp (shaV (catB xs))) ?_|refine gs ?_|(refine gp ?_ ?_<;>intro hx_ this)|fail)
 apply ad;apply ag;rfl;rfl
 rfl
end Go.Proofs.YtaolfiikahlmkaaGreatDoor
namespace Go.Proofs.YtaolfiikahlmkaaGreatDoor
open Go Go.Proofs Sy
def hashN (xs:List ByteArray):Nat:=numN (nl (shaV (catB xs)))
theorem BM (xs:List ByteArray):hashN xs<2305843009213693952:=DT _
def reduceN (h:Nat):Nat:=1+h%2305843009213693949
theorem ug (h:Nat):reduceN h≤2305843009213693949:=by
 have:=Qc h (show 2305843009213693949>0 by decide)
 unfold reduceN
 omega
theorem xM (h:Nat) (hh:h<2305843009213693952):Pu Tryz.prog 133 #[.int .i64 (h:Int)] (fun _=>True) (.int .i64 (reduceN h:Nat)):=by
 refine ak (args:=[_]) _ Tryz.func133 rfl Tryz.ntmps133 rfl fun av bor w0=>?_
 repeat' (first|refine fo (c:=((h%2305843009213693949:Nat):Int)) (hc:=(Int.ofNat_tmod h 2305843009213693949).symm) (hb:=by decide) ?_|refine gs ?_|(refine gp ?_ ?_<;>intro hx_ this)|fail)
 apply ad;apply ag;rfl;rfl
 rfl
def chalP (r p:Nat) (msg:ByteArray):List ByteArray:=[textV ⟨#[115,105,103,110]⟩,numV (r:Int),numV (p:Int),textV msg]
def chalN (r p:Nat) (msg:ByteArray):Nat:=hashN (chalP r p msg)%2305843009213693950
theorem Cf (r p:Nat) (msg:ByteArray):chalN r p msg<2305843009213693950:=Qc _ (by decide)
theorem wk (r p:Nat) (msg:ByteArray) (hr:r<9223372036854775808) (hp:p<9223372036854775808) (hm:msg.size≤1000000000000) :
  Pu Tryz.prog 135 #[.int .i64 (r:Int),.int .i64 (p:Int),.string msg] Glob (.int .i64 (chalN r p msg:Nat)):=by
 refine ak (args:=[_,_,_]) _ Tryz.func135 rfl Tryz.ntmps135 rfl fun av bor w0=>?_
 have hsz:(catB (chalP r p msg)).size≤1099511627776:=by
  have h1:=az ⟨#[115,105,103,110]⟩
  have h2:=ap (r:Int)
  have h3:=ap (p:Int)
  have h4:=az msg
  have h5:(⟨#[115,105,103,110]⟩:ByteArray).size=4:=rfl
  rw [pi]
  simp only [chalP,Z1,List.map_nil,List.sum_cons,List.sum_nil]
  omega
 repeat' (first|refine fo (c:=((chalN r p msg:Nat):Int)) (hc:=(Int.ofNat_tmod (hashN (chalP r p msg)) 2305843009213693950).symm) (hb:=by decide) ?_|refine ab (hc:=ft _ (by first|omega|decide)) ?_|refine ab (hc:=eX _ aa) ?_|(refine mB (hc:=qi _ 9 4 (chalP r p msg) (show 4≤4 by decide) (show 4≤1000 by decide) hsz) (hX:=fun w h hr=>⟨hr _ aw,h⟩) ?_)|refine gs ?_|refine gs1 fun _=>?_|(refine gp ?_ ?_<;>intro hx_ this)|fail)
 apply ad;apply ag;rfl;rfl
 rfl
structure KyD where
 s:Int
 p:Int
def KyD.cells (k:KyD):List Value:=[.int .i64 k.s,.int .i64 k.p]
def KyD.v (k:KyD):Value:=.agg k.cells.toArray
def KyD.zero:KyD:=⟨0,0⟩
theorem we (a e:Nat):∀ i,(expF a e i).1<2305843009213693951
 | 0=>by show 1<2305843009213693951;decide
 | i+1=>by
  have ih:=we a e i
  show (bif decide (e/2 ^ i%2=1) then (expF a e i).1*(expF a e i).2%2305843009213693951 else (expF a e i).1)<_
  cases decide (e/2 ^ i%2=1) with
  | true=>exact Qc _ (by decide)
  | false=>exact ih
theorem wd (a e:Nat):expV a e<2305843009213693951:=we a e _
def ofK (s:Int):KyD:=bif decide (s<1)||decide (2305843009213693949<s) then KyD.zero else ⟨s,(expV 37 s.toNat:Nat)⟩
theorem ut {s:Int} (h1:1≤s) (h2:s≤2305843009213693949):ofK s=⟨s,(expV 37 s.toNat:Nat)⟩:=by
 rw [ofK,Zc aa,Zc (by omega)]
 rfl
theorem vP {s:Int} (h:s<1∨2305843009213693949<s):ofK s=KyD.zero:=by
 rw [ofK]
 rcases h with h|h
 · rw [Zd h];rfl
 · rw [Zd h,Zs];rfl
theorem xu (s:Int):Pu Tryz.prog 132 #[.int .i64 s] (fun _=>True) (ofK s).v:=by
 refine ak (args:=[_]) _ Tryz.func132 rfl Tryz.ntmps132 rfl fun av bor w0=>?_
 by_cases h:s<1∨2305843009213693949<s
 · rw [vP h]
   repeat' (first|refine gs ?_|refine gs1 fun _=>?_|(refine aD (cs:=KyD.zero.cells) (hf:=by rfl) ?_)|(refine gp ?_ ?_<;>intro hx_ this)|fail)
   all_goals first
    | (exfalso;omega)
    | exact ad (cL rfl rfl aW (by rfl)) rfl
 · have h1:1≤s:=by omega
   have h2:s≤2305843009213693949:=by omega
   obtain ⟨n,rfl⟩:=Int.eq_ofNat_of_zero_le (show 0≤s by omega)
   rw [ut h1 h2]
   have he:=qk 37 n aa
   repeat' (first|(refine ab (hc:=he) (hX:=fun w h=>trivial) ?_)|refine gs ?_|refine gs1 fun _=>?_|(refine aD (cs:=KyD.cells ⟨(n:Int),(expV 37 n:Nat)⟩) (hf:=by rfl) ?_)|(refine gp ?_ ?_<;>intro hx_ this)|fail)
   all_goals first
    | (exfalso;omega)
    | exact ad (cL rfl rfl aW (by rfl)) rfl
def eqKy (a b:KyD):Bool:=decide (a.s=b.s)&&decide (a.p=b.p)
theorem B0 {a b:KyD}:eqKy a b=true↔a=b:=by
 cases a;cases b
 simp only [eqKy,Zp,Zw,KyD.mk.injEq]
theorem gE (w:World) {cs:Array Value} {off:Nat} {v:Value} (h:cs[off]?=some v):(part 3 cs off).run Tryz.prog w=.ok v w:=by
 simp [part,isAgg,run_underlying Tryz.underlying3,h]
theorem sK (w:World) (d:Nat) (a b:Int):(Op.equalIn (d+1) 3 (.int .i64 a) (.int .i64 b)).run Tryz.prog w=.ok (decide (a=b)) w:=by
 rw [run_equalIn_int w d _ .i64 .i64 a b Tryz.underlying3]
 rfl
theorem AL (w:World) (d:Nat) (a b:KyD):(Op.equalIn (d+2) 27 a.v b.v).run Tryz.prog w=.ok (eqKy a b) w:=by
 have p0:∀ x:KyD,(part 3 x.cells.toArray 0).run Tryz.prog w=.ok (.int .i64 x.s) w:=fun x=>gE w rfl
 have p1:∀ x:KyD,(part 3 x.cells.toArray 1).run Tryz.prog w=.ok (.int .i64 x.p) w:=fun x=>gE w rfl
 unfold KyD.v
 rw [run_equalIn_agg _ _ _ _ _ ae ae]
 simp only [Program.fieldsOf,Tryz.underlying27]
 simp [Op.eqFields,p0,p1,sK]
 unfold eqKy
 by_cases h1:a.s=b.s<;>by_cases h2:a.p=b.p<;>simp [h1,h2]
section
variable {N:Nat} {av bor:List Nat} {w0:World} {x y:Operand} {t2:TypeId} {ty:TypeId} {st:St}
theorem Fo (a b:KyD) (hx:ev st.env x=some a.v) (hy:ev st.env y=some b.v):Sy.Yields Tryz.prog N av bor w0 st (.binOp .eql 27 x y t2) ty (.bool (eqKy a b)):=Sy.Yields.mk fun A w ok d pos af g=>by
 have h1:=run_eqGuard_agg (P:=Tryz.prog) w .eql 27 x y a.cells.toArray b.cells.toArray ae
 have h2:=run_eql_struct (P:=Tryz.prog) w 27 a.cells.toArray b.cells.toArray
 have h3:=AL w 9998 a b
 simp only [KyD.v] at hx hy h3
 simp [execOp,ok.eval hx,ok.eval hy,h1,h2,h3]
end
def rightK (k:KyD):Bool:=decide (1≤k.s)&&eqKy k (ofK k.s)
theorem jo (k:KyD):Pu Tryz.prog 76 #[k.v] (fun _=>True) (.bool (rightK k)):=by
 refine ak (args:=[_]) _ Tryz.func76 rfl Tryz.ntmps76 rfl fun av bor w0=>?_
 repeat' (first|refine gs ?_|refine gs1 fun _=>?_|(refine gp ?_ ?_<;>intro hx_ this)|fail)
 rename_i b
 (refine ar ⟨[0,1,2,3,4,5,6],[(7,⟨[8,9,10],[]⟩)]⟩ [cel b 27 k.cells] (fun _=>True) (h:=?_))
 all_goals repeat' (first|refine ab (hc:=xu k.s) ?_|refine gd ?_|refine ay (hy:=by first|(apply Fo k (ofK k.s);rfl;rfl)) ?_|refine aA ?_ (h':=?_)|exact aB|refine gs1 fun _=>?_|(refine gq ?_ ?_<;>intro hx_ this)|fail)
 all_goals
  repeat' (first|refine gs ?_|refine gs1 fun _=>?_|(refine gp ?_ ?_<;>intro hx_ this)|fail)
  apply ad;apply ag;rfl;rfl
  rw [rightK,hx_]
  rfl
theorem rightK_iff {k:KyD}:rightK k=true↔1≤k.s∧k.s≤2305843009213693949∧k.p=(expV 37 k.s.toNat:Nat):=by
 rw [rightK,Zp,Zw,B0]
 constructor
 · rintro ⟨h1,h2⟩
   have h3:k.s≤2305843009213693949:=by
    by_cases h:2305843009213693949<k.s
    · rw [vP (.inr h)] at h2
      rw [h2] at h1
      exact absurd h1 (by decide)
    · omega
   refine ⟨h1,h3,?_⟩
   rw [ut h1 h3] at h2
   rw [h2]
 · rintro ⟨h1,h2,h3⟩
   exact ⟨h1,by rw [ut h1 h2,←h3]⟩
def nonceP (s:Int) (msg:ByteArray):List ByteArray:=[textV ⟨#[110,111,110,99,101]⟩,numV s,textV msg]
def nonceN (s:Int) (msg:ByteArray):Nat:=reduceN (hashN (nonceP s msg))
structure SgD where
 e:Int
 s:Int
def SgD.cells (k:SgD):List Value:=[.int .i64 k.e,.int .i64 k.s]
def SgD.v (k:SgD):Value:=.agg k.cells.toArray
def SgD.zero:SgD:=⟨0,0⟩
def sigE (k:KyD) (msg:ByteArray):Nat:=chalN (expV 37 (nonceN k.s msg)) k.p.toNat msg
def sigS (k:KyD) (msg:ByteArray):Nat:=(nonceN k.s msg+sigE k msg*k.s.toNat%2305843009213693950)%2305843009213693950
def signV (k:KyD) (msg:ByteArray):SgD:=bif rightK k then ⟨(sigE k msg:Nat),(sigS k msg:Nat)⟩ else SgD.zero
theorem Dp (k:KyD) (msg:ByteArray) (hm:msg.size≤1000000000000):Pu Tryz.prog 77 #[k.v,.string msg] Glob (signV k msg).v:=by
 refine ak (args:=[_,_]) _ Tryz.func77 rfl Tryz.ntmps77 rfl fun av bor w0=>?_
 have hrk:=jo k
 cases hk:rightK k with
 | false =>
  rw [hk] at hrk
  rw [show signV k msg=SgD.zero from by rw [signV,hk];rfl]
  repeat' (first|(refine ab (hc:=hrk) (hX:=fun _ _=>trivial) ?_)|refine gs ?_|refine gs1 fun _=>?_|(refine aD (cs:=SgD.zero.cells) (hf:=by rfl) ?_)|(refine gp ?_ ?_<;>intro hx_ this)|fail)
  exact ad (cL rfl rfl aW (by rfl)) rfl
 | true =>
  rw [hk] at hrk
  rw [show signV k msg=⟨(sigE k msg:Nat),(sigS k msg:Nat)⟩ from by rw [signV,hk];rfl]
  obtain ⟨h1,h2,h3⟩:=rightK_iff.1 hk
  obtain ⟨s,p⟩:=k
  obtain ⟨n,rfl⟩:=Int.eq_ofNat_of_zero_le (show 0≤s by show 0≤s;have:1≤s:=h1;omega)
  have h3':p=(expV 37 n:Nat):=h3
  subst h3'
  have h2':(n:Int)≤2305843009213693949:=h2
  have hp:=wd 37 n
  have hsz:(catB (nonceP (n:Int) msg)).size≤1099511627776:=by
   have e1:=az ⟨#[110,111,110,99,101]⟩
   have e2:=ap (n:Int)
   have e4:=az msg
   have e5:(⟨#[110,111,110,99,101]⟩:ByteArray).size=5:=rfl
   rw [pi]
   simp only [nonceP,Z1,List.map_nil,List.sum_cons,List.sum_nil]
   omega
  have hno:nonceN (n:Int) msg<9223372036854775808:=by have:=ug (hashN (nonceP (n:Int) msg));unfold nonceN;omega
  have hha:=qi (T:=9) (c:=3) (xs:=nonceP (n:Int) msg)
  have hex:=qk 37 (nonceN (n:Int) msg) hno
  have hch:=wk (expV 37 (nonceN (n:Int) msg)) (expV 37 n) msg (by have:=wd 37 (nonceN (n:Int) msg);omega) aa hm
  repeat' (first|(refine ab (hc:=hrk) (hX:=fun _ _=>trivial) ?_)|refine gs ?_|refine gs1 fun _=>?_|(refine gp ?_ ?_<;>intro hx_ this)|fail)
  rename_i b2 b4
  (refine ar ⟨[1,2,4],[(0,⟨[],[(3,⟨[],[(5,⟨[],[(6,⟨[],[(7,⟨[],[(8,⟨[9],[]⟩)]⟩)]⟩)]⟩)]⟩)]⟩)]⟩ [cel b4 44 SgD.zero.cells,cel b2 27 (KyD.mk (n:Int) (expV 37 n:Nat)).cells] Glob (h:=?_))
  all_goals repeat' (first|refine ab (hc:=ft _ (by first|omega|decide)) ?_|refine ab (hc:=eX _ aa) ?_|(refine mB (hc:=qi _ 9 3 (nonceP (n:Int) msg) (show 3≤3 by decide) (show 3≤1000 by decide) hsz) (hX:=fun w h hr=>⟨hr _ aw,h⟩) ?_)|refine ab (hc:=xM (hashN (nonceP (n:Int) msg)) (BM _)) ?_|refine gd ?_|refine aA ?_ (h':=?_)|exact aB|(refine cQ fun _=>?_)|refine gs1 fun _=>?_|(refine gq ?_ ?_<;>intro hx_ this)|fail)
  repeat' (first|refine gs ?_|refine gs1 fun _=>?_|(refine gp ?_ ?_<;>intro hx_ this)|fail)
  (refine ar ⟨[0,2,3,4],[(1,⟨[],[(5,⟨[6],[]⟩)]⟩)]⟩ [cel b4 44 SgD.zero.cells,cel b2 27 (KyD.mk (n:Int) (expV 37 n:Nat)).cells] Glob (h:=?_))
  all_goals repeat' (first|(refine ab (hc:=hex) (hX:=fun _ _=>trivial) ?_)|(refine ab (hc:=hch) (hX:=fun _ h=>h) ?_)|refine gd ?_|refine aA ?_ (h':=?_)|exact aB|refine gs1 fun _=>?_|(refine gq ?_ ?_<;>intro hx_ this)|fail)
  have hm1:=EW (sigE ⟨(n:Int),(expV 37 n:Nat)⟩ msg) n
  have hm2:=EX (nonceN (n:Int) msg) (sigE ⟨(n:Int),(expV 37 n:Nat)⟩ msg*n%2305843009213693950)
  repeat' (first|(refine ab (hc:=hm1) (hX:=fun _ _=>trivial) ?_)|(refine ab (hc:=hm2) (hX:=fun _ _=>trivial) ?_)|refine gs ?_|refine gs1 fun _=>?_|(refine aD (cs:=SgD.cells ⟨(sigE ⟨(n:Int),(expV 37 n:Nat)⟩ msg:Nat),(sigS ⟨(n:Int),(expV 37 n:Nat)⟩ msg:Nat)⟩) (hf:=by rfl) ?_)|(refine gp ?_ ?_<;>intro hx_ this)|fail)
  exact ad (cL rfl rfl aW (by rfl)) rfl
def keyP (seed:ByteArray):List ByteArray:=[textV ⟨#[107,101,121]⟩,textV seed]
def keyN (seed:ByteArray):Nat:=reduceN (hashN (keyP seed))
def keyOf (seed:ByteArray):KyD:=⟨(keyN seed:Nat),(expV 37 (keyN seed):Nat)⟩
end Go.Proofs.YtaolfiikahlmkaaGreatDoor
