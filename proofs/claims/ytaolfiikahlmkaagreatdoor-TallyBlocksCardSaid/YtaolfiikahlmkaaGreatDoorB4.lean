/- Joined. -/
import Derived.Test.YtaolfiikahlmkaaGreatDoorB3
import Derived.Shelf.SlIter.Nil
import Derived.Shelf.SlIterI.Nil
import Derived.Shelf.SortM.Plain
import Derived.Shelf.SortM.SortNone
import Derived.Shelf.Slices.CompactS
import Derived.Test.YtaolfiikahlmkaaGreatDoorProg
import Derived.Shelf.Bits.Mul64
import Derived.Shelf.Strconv.Itoa0
import Derived.Shelf.Strings.OnBuilder
set_option linter.unusedVariables false
set_option linter.unusedSimpArgs false
set_option maxHeartbeats 16000000
namespace Go.Proofs.YtaolfiikahlmkaaGreatDoor
open Go Go.Proofs Sy Tryz
namespace SrG
section
variable {P:Program} {N:Nat} {av bor:List Nat} {w0:World} {st:St} {ty:TypeId} {x y:Operand} {t t2:TypeId} {k:IntKind}
theorem y_gtrT_g {a b:Int} [hI:Xs P t k] (hx:ev st.env x=some (.int k a)) (hy:ev st.env y=some (.int k b)) (hab:b<a):Sy.Yields P N av bor w0 st (.binOp .gtr t x y t2) ty (.bool true):=by
 have h:=lH (P:=P) (N:=N) (av:=av) (bor:=bor) (w0:=w0) (st:=st) (ty:=ty) (t:=t) (t2:=t2) hx hy
 rwa [Ze hab] at h
theorem y_gtrF_g {a b:Int} [hI:Xs P t k] (hx:ev st.env x=some (.int k a)) (hy:ev st.env y=some (.int k b)) (hab:¬ b<a):Sy.Yields P N av bor w0 st (.binOp .gtr t x y t2) ty (.bool false):=by
 have h:=lH (P:=P) (N:=N) (av:=av) (bor:=bor) (w0:=w0) (st:=st) (ty:=ty) (t:=t) (t2:=t2) hx hy
 rwa [Zd hab] at h
end
section
variable {N:Nat} {av bor:List Nat} {w0:World} {st:St} {ty:TypeId} {x y:Operand} {E:Env} {loc:List Xl} {X:World→Prop} {ops:Array Oper} {kk k:St→Prop} {pos:String} {af:Array Edge} {g:Option (Nat×Bool)} {rest:List Oper} {bb want:Bool} {n:Nat} {t t2:TypeId} {d:Option Tmp}
theorem aP [hI:Xs prog t .i64] {p q:Nat} (h:Sw prog N av bor w0 ops rest ⟨(n,.int .i64 ((p+q:Nat):Int))::E,loc,X⟩ kk) (hx:ev E x=some (.int .i64 (p:Nat)):=by rfl) (hy:ev E y=some (.int .i64 (q:Nat)):=by rfl) (hq:p+q<9223372036854775808) (hg:gdB ops E g=some (bb,want):=by rfl) (hbb:bb=want:=by exact aw) (hd:Nat.blt n N=true:=by rfl) :
  Sw prog N av bor w0 ops (⟨some n,.binOp .add t x y t2,ty,pos,af,g⟩::rest) ⟨E,loc,X⟩ kk:=ef (c:=((p+q:Nat):Int)) hx hy (by rw [←Int.natCast_add];exact IntWalk.i64_in _ aa) hg hbb hd h
theorem be [hI:Xs prog t .i64] {p q:Nat} (h:Sw prog N av bor w0 ops rest ⟨(n,.int .i64 ((p-q:Nat):Int))::E,loc,X⟩ kk) (hx:ev E x=some (.int .i64 (p:Nat)):=by rfl) (hy:ev E y=some (.int .i64 (q:Nat)):=by rfl) (hq:q≤p∧p<9223372036854775808) (hg:gdB ops E g=some (bb,want):=by rfl) (hbb:bb=want:=by exact aw) (hd:Nat.blt n N=true:=by rfl) :
  Sw prog N av bor w0 ops (⟨some n,.binOp .sub t x y t2,ty,pos,af,g⟩::rest) ⟨E,loc,X⟩ kk:=gS (c:=((p-q:Nat):Int)) hx hy (by rw [show (p:Int)-(q:Int)=((p-q:Nat):Int) by omega];exact IntWalk.i64_in _ aa) hg hbb hd h
theorem Jn (x:Nat):shrV .u64 (x:Int) 1=((x/2:Nat):Int):=by
 show (x:Int).fdiv (2 ^ (min (1:Int).toNat 64))=_
 rw [show (2:Int) ^ (min (1:Int).toNat 64)=((2:Nat):Int) from rfl,←Int.ofNat_fdiv]
theorem cY {p:Nat} {x y:Operand} (h:Sw prog N av bor w0 ops rest ⟨(n,.int .u64 ((p/2:Nat):Int))::E,loc,X⟩ k) (hx:ev E x=some (.int .u64 (p:Nat)):=by rfl) (hy:ev E y=some (.int .u64 1):=by rfl) (hg:gdB ops E g=some (bb,want):=by rfl) (hbb:bb=want:=by exact aw) (hd:Nat.blt n N=true:=by rfl) :
  Sw prog N av bor w0 ops (⟨some n,.binOp .shr t x y t2,ty,pos,af,g⟩::rest) ⟨E,loc,X⟩ k:=rm hx hy (by decide) hg hbb hd (by rw [Jn];exact h)
theorem zi {p:Nat} (h:p<9223372036854775808):IntKind.u64.wrap (p:Int)=(p:Int):=by
 simp [IntKind.wrap,IntKind.signed,IntKind.bits]
 omega
theorem sy_toU_g [h1:Xs prog t .i64] [h2:Xs prog t2 .u64] {p:Nat} {x:Operand} (h:Sw prog N av bor w0 ops rest ⟨(n,.int .u64 (p:Nat))::E,loc,X⟩ k) (hx:ev E x=some (.int .i64 (p:Nat)):=by rfl) (hq:p<9223372036854775808) (hg:gdB ops E g=some (bb,want):=by rfl) (hbb:bb=want:=by exact aw) (hd:Nat.blt n N=true:=by rfl) :
  Sw prog N av bor w0 ops (⟨some n,.convert t t2 x,ty,pos,af,g⟩::rest) ⟨E,loc,X⟩ k:=kQ hx (zi hq) hg hbb hd h
theorem sy_toI_g [h1:Xs prog t .u64] [h2:Xs prog t2 .i64] {p:Nat} {x:Operand} (h:Sw prog N av bor w0 ops rest ⟨(n,.int .i64 (p:Nat))::E,loc,X⟩ k) (hx:ev E x=some (.int .u64 (p:Nat)):=by rfl) (hq:p<9223372036854775808) (hg:gdB ops E g=some (bb,want):=by rfl) (hbb:bb=want:=by exact aw) (hd:Nat.blt n N=true:=by rfl) :
  Sw prog N av bor w0 ops (⟨some n,.convert t t2 x,ty,pos,af,g⟩::rest) ⟨E,loc,X⟩ k:=kQ hx (IntWalk.i64_in _ aa) hg hbb hd h
theorem sy_lssF_g {x y:Operand} {k':IntKind} {a b:Int} [hI:Xs prog t k'] (h:Sw prog N av bor w0 ops rest ⟨(n,.bool false)::E,loc,X⟩ k) (hx:ev E x=some (.int k' a):=by rfl) (hy:ev E y=some (.int k' b):=by rfl) (hab:¬ a<b:=by first|omega|decide) (hg:gdB ops E g=some (bb,want):=by rfl) (hbb:bb=want:=by exact aw) (hd:Nat.blt n N=true:=by rfl) :
  Sw prog N av bor w0 ops (⟨some n,.binOp .lss t x y t2,ty,pos,af,g⟩::rest) ⟨E,loc,X⟩ k:=eX (hx:=hx) (hy:=hy) (hg:=hg) (hbb:=hbb) (hd:=hd) (h:=by
   have e:∀ u,u=Value.bool false→Sw prog N av bor w0 ops rest ⟨(n,u)::E,loc,X⟩ k:=fun u hu=>hu▸h
   exact e _ (by simp [hab]))
theorem sy_lssT_g {x y:Operand} {k':IntKind} {a b:Int} [hI:Xs prog t k'] (h:Sw prog N av bor w0 ops rest ⟨(n,.bool true)::E,loc,X⟩ k) (hx:ev E x=some (.int k' a):=by rfl) (hy:ev E y=some (.int k' b):=by rfl) (hab:a<b:=by first|omega|decide) (hg:gdB ops E g=some (bb,want):=by rfl) (hbb:bb=want:=by exact aw) (hd:Nat.blt n N=true:=by rfl) :
  Sw prog N av bor w0 ops (⟨some n,.binOp .lss t x y t2,ty,pos,af,g⟩::rest) ⟨E,loc,X⟩ k:=eX (hx:=hx) (hy:=hy) (hg:=hg) (hbb:=hbb) (hd:=hd) (h:=by
   have e:∀ u,u=Value.bool true→Sw prog N av bor w0 ops rest ⟨(n,u)::E,loc,X⟩ k:=fun u hu=>hu▸h
   exact e _ (by simp [hab]))
theorem dZ [hI:Xs prog t .i64] {p q:Nat} (h:Sw prog N av bor w0 ops rest ⟨(n,.int .i64 ((p*q:Nat):Int))::E,loc,X⟩ k) (hx:ev E x=some (.int .i64 (p:Nat)):=by rfl) (hy:ev E y=some (.int .i64 (q:Nat)):=by rfl) (hq:p*q<9223372036854775808) (hg:gdB ops E g=some (bb,want):=by rfl) (hbb:bb=want:=by exact aw) (hd:Nat.blt n N=true:=by rfl) :
  Sw prog N av bor w0 ops (⟨some n,.binOp .mul t x y t2,ty,pos,af,g⟩::rest) ⟨E,loc,X⟩ k:=gm (c:=((p*q:Nat):Int)) hx hy (by rw [←Int.natCast_mul];exact IntWalk.i64_in _ aa) hg hbb hd h
end
structure BinI_g (lo hi:Nat) where
 i:Nat
 j:Nat
 h1:lo≤i
 h2:i≤j
 h3:j≤hi
structure MerI_g (a m b mid:Nat) where
 i:Nat
 j:Nat
 h1:i≤j
 h2:mid<m→mid+m≤i+b∧j≤mid
 h3:m≤mid→a≤i∧j≤m
def cmpB_g (x y:ByteArray):Int:=bif Op.bytesLess x.toList y.toList then -1 else bif !(Op.bytesLess x.toList y.toList||seqB x y) then 1 else 0
theorem wA (x:ByteArray):Pu prog 142 #[.string x] (fun _=>True) (.bool false):=by
 refine ax func142 ntmps142 fun av bor w0=>?_
 have h:=bP x
 repeat' (first|refine gs ?_|fail)
 apply ab;apply ag;rfl;rfl
 rw [h]
 rfl
theorem ic (x y:ByteArray):Pu prog 84 #[.string x,.string y] (fun _=>True) (.int .i64 (cmpB_g x y)):=by
 refine ax func84 ntmps84 fun av bor w0=>?_
 repeat' (first|refine ae (hc:=wA _) ?_|refine gs ?_|(refine xJ ?_)|(refine xK ?_)|(refine gp ?_ ?_<;>intro hx_ this)|fail)
 (all_goals (apply ab;apply ag;rfl;rfl));all_goals first|(simp only [cmpB_g, *,Za,Zg,Zf];done)|(simp_all [cmpB_g];done)
def cmpI (a b:Int):Int:=bif decide (a<b) then -1 else bif decide (b<a) then 1 else 0
theorem cmpI_self (a:Int):cmpI a a=0:=by simp [cmpI]
def cmp2 (a b:Int) (x y:ByteArray):Int:=bif decide (cmpI a b=0) then cmpB_g x y else cmpI a b
theorem Ba (x:Int):Pu prog 251 #[.int .i64 x] (fun _=>True) (.bool false):=by
 refine ax func251 ntmps251 fun av bor w0=>?_
 repeat' (first|refine aT ?_ (eO false rfl rfl (by simp))|refine gs ?_|fail)
 exact ab (ag rfl rfl) rfl
theorem iE (x y:Int):Pu prog 186 #[.int .i64 x,.int .i64 y] (fun _=>True) (.int .i64 (cmpI x y)):=by
 refine ax func186 ntmps186 fun av bor w0=>?_
 repeat' (first|refine ae (hc:=Ba _) ?_|refine gs ?_|(refine gp ?_ ?_<;>intro hx_ this)|fail)
 (all_goals (apply ab;apply ag;rfl;rfl));all_goals (simp only [cmpI, *,Za,Zg,Zf];done)
structure OrI (a b:Int) where
 k:Nat
 hk:k≤2
 ha:0<k→a=0
 hb:1<k→b=0
theorem wr (s:Xk) (a b:Int):Pu prog 185 #[s.v] (fun w=>Ints w s [a,b]) (.int .i64 (bif decide (a=0) then b else a)):=by
 refine ax func185 ntmps185 fun av bor w0=>?_
 refine aQ (p:=s.n=2∧s.p.isSome=true) (fun w h=>⟨h.len_,h.some_ (by simp)⟩) fun ⟨hsn,hsp⟩=>?_
 repeat' (first|refine gs ?_|fail)
 refine aq (ι:=OrI a b) (fun i=>⟨[(3,.int .i64 0),(6,s.v),(7,.int .i64 (s.n:Nat)),(8,.int .i64 (i.k:Nat))],[],fun w=>Ints w s [a,b]⟩) (fun i=>2-i.k) ⟨0,Z2 _,fun h=>absurd h (by decide),fun h=>absurd h (by decide)⟩ (ai am (ak _) fun _ h=>h) fun i=>?_
 obtain ⟨k,hk,ha,hb⟩:=i
 simp only
 by_cases hlt:k<2
 · have hget:∀ w,Ints w s [a,b]→CellAt w s.p k (.int .i64 ([a,b].getD k 0)):=fun w h=>Ints.get h hlt
   have hx:[a,b].getD k 0=a∧k=0∨[a,b].getD k 0=b∧k=1:=by
    rcases k with _|_|k
    · exact .inl ⟨rfl,rfl⟩
    · exact .inr ⟨rfl,rfl⟩
    · omega
   generalize [a,b].getD k 0=x at *
   by_cases h0:x=0
   · repeat' (first|refine aT ?_ (bZ true rfl rfl (Ze aa))|refine aT ?_ (eO false rfl rfl (by simp [h0]))|refine gs ?_|(refine aD (q:=k) ?_)|(refine cB (u:=.int .i64 x) (hF:=hget) ?_)|fail)
     exact ⟨(⟨k+1,hlt,fun _=>by rcases hx with h|h<;>omega,fun _=>by rcases hx with h|h<;>omega⟩:OrI a b),(by show 2-(k+1)<2-k;omega),ai am (ak _) fun _ h=>h⟩
   · repeat' (first|refine aT ?_ (bZ true rfl rfl (Ze aa))|refine aT ?_ (eO true rfl rfl (by simp [h0]))|refine gs ?_|(refine aD (q:=k) ?_)|(refine cB (u:=.int .i64 x) (hF:=hget) ?_)|fail)
     refine ab (ag rfl rfl) ?_
     rcases hx with ⟨h1,h2⟩|⟨h1,h2⟩
     · rw [←h1,Zd h0];rfl
     · rw [ha aa,←h1];rfl
 · repeat' (first|refine aT ?_ (bZ false rfl rfl (Zd aa))|refine gs ?_|fail)
   refine ab (ag rfl rfl) ?_
   rw [ha aa,hb (by omega)]
   rfl
end SrG
end Go.Proofs.YtaolfiikahlmkaaGreatDoor
namespace Go.Proofs.YtaolfiikahlmkaaGreatDoor.Sy
open Go Go.RowKit
section
variable {P:Program} {N:Nat} {av bor:List Nat} {w0:World}
variable {loc0:List Xl} {X0:World→Prop} {ops:Array Oper} {fuel:Nat} {listed:Array Bool} {E:Env} {loc:List Xl} {X:World→Prop} {k:St→Prop} {K:Exit→St→Prop}
variable {n:Nat} {o:Op} {ty:TypeId} {pos:String} {af:Array Edge} {g:Option (Nat×Bool)} {v:Value} {bb want:Bool}
theorem dA (i:Nat) (h:Aw P N av bor w0 loc0 X0 ops fuel (listed.setIfInBounds i true) ⟨(n,v)::E,loc,X⟩ k) (hi:ops[i]?=some ⟨some n,o,ty,pos,af,g⟩:=by rfl) (hs:Region.noSelect ops=true:=by kernel_rfl) (hf:Region.free .any ops listed i=true:=by kernel_rfl) (hr:(Region.ready .any ops listed).contains i=true:=by kernel_rfl) (hsub:∀ w,Xq av bor w0 loc X w→Xq av bor w0 loc0 X0 w:=by exact fu) (hy:Sy.Yields P N av bor w0 ⟨E,loc0,X0⟩ o ty v:=by (first|(apply q7;rfl)|(apply jE;rfl)|(apply fO;rfl)|(apply xr;rfl;(first|exact ZS _|(simp only [Nat.reduceAdd];rfl)))|(apply py;rfl;(repeat (first|exact ao|apply Zu));rfl)|(apply mC;rfl;(repeat (first|exact ao|apply Zu));rfl)|(apply jC;rfl;(first|with_reducible rfl|with_reducible assumption|with_reducible exact Zm|with_reducible exact Zo);rfl)|(apply jD;rfl;(first|with_reducible rfl|with_reducible assumption|with_reducible exact Zm|with_reducible exact Zo);rfl)|(apply xo;rfl)|(apply lI;rfl;rfl)|(apply sO;rfl;rfl)|(apply sQ;rfl;rfl)|(apply xp;rfl;rfl)|(apply lH;rfl;rfl)|(apply sR;rfl;rfl)|(apply kJ;rfl;rfl)|(apply mP;rfl;rfl)|(apply q6;rfl)|(apply xq;rfl)|(apply iJ;rfl;rfl)|(apply mV;rfl;rfl;(first|exact IntWalk.i64_in _ (by omega)|rfl))|(apply mO;rfl;rfl;(first|exact IntWalk.i64_in _ (by omega)|rfl))|(apply pT;rfl;rfl)|(apply FZ;rfl;rfl)|(apply sK;rfl;rfl)|(apply mT;rfl;rfl)|(apply qZ;rfl)|(apply xn;rfl;rfl;(first|decide|exact cO _ _ rfl _ _|exact dW _ rfl _|omega))|(apply sL;rfl;rfl;(first|decide|exact cO _ _ rfl _ _|exact dW _ rfl _|omega))|(apply pS;rfl;rfl)|(apply fR;rfl;rfl;decide;decide;rfl))) (hg:gdB ops E g=some (bb,want):=by rfl) (hb:bb=want:=by exact aw) (hd:Nat.blt n N=true:=by rfl):Aw P N av bor w0 loc0 X0 ops (fuel+1) listed ⟨E,loc,X⟩ k:=br i h hi hs hf hr hsub hy hg hb hd
theorem eV {A:Prop} (h:A) (hsub:∀ w,Xq av bor w0 loc X w→Xq av bor w0 loc0 X0 w:=by exact fu):(∀ w,Xq av bor w0 loc X w→Xq av bor w0 loc0 X0 w)∧A:=ei h hsub
end
end Go.Proofs.YtaolfiikahlmkaaGreatDoor.Sy
namespace Go.Proofs
open Go.Shelf
def Tryz.len64_ren:Go.Shelf.Ren:=⟨fun|129=>172|n=>n,fun|53=>218|3=>3|4=>4|46=>156|5=>5|9=>9|n=>n,fun|n=>n⟩
theorem Tryz.len64:Go.Proofs.Lays.n129 Tryz.prog Tryz.len64_ren:={
 mixed:=by kernel_rfl
 f129:=Tryz.func172.trans (congrArg some (by kernel_rfl))
 t3:=Tryz.underlying3
 a3:=Tryz.isAgg3
 z3:=Tryz.sizeOf3
 v3:=Tryz.zeroValue3
 t4:=Tryz.underlying4
 a4:=Tryz.isAgg4
 z4:=Tryz.sizeOf4
 v4:=Tryz.zeroValue4
 t5:=Tryz.underlying5
 a5:=Tryz.isAgg5
 z5:=Tryz.sizeOf5
 v5:=Tryz.zeroValue5
 t9:=Tryz.underlying9
 a9:=Tryz.isAgg9
 z9:=Tryz.sizeOf9
 v9:=Tryz.zeroValue9
 t46:=Tryz.underlying156
 a46:=Tryz.isAgg156
 z46:=Tryz.sizeOf156
 v46:=Tryz.zeroValue156
 t53:=Tryz.underlying218
 a53:=Tryz.isAgg218
 z53:=Tryz.sizeOf218
 v53:=Tryz.zeroValue218 }
def Tryz.mul64_ren:Go.Shelf.Ren:=⟨fun|264=>266|n=>n,fun|53=>218|46=>156|n=>n,fun|n=>n⟩
theorem Tryz.mul64:Go.Proofs.Lays.n264 Tryz.prog Tryz.mul64_ren:={
 mixed:=by kernel_rfl
 f264:=Tryz.func266.trans (congrArg some (by kernel_rfl))
 t46:=Tryz.underlying156
 a46:=Tryz.isAgg156
 z46:=Tryz.sizeOf156
 v46:=Tryz.zeroValue156
 t53:=Tryz.underlying218
 a53:=Tryz.isAgg218
 z53:=Tryz.sizeOf218
 v53:=Tryz.zeroValue218 }
def Tryz.join_ren:Go.Shelf.Ren:=⟨fun|156=>223|165=>263|166=>264|169=>265|240=>289|241=>290|276=>308|277=>309|n=>n,fun|31=>39|9=>9|3=>3|4=>4|0=>0|20=>20|72=>282|76=>286|70=>280|37=>158|75=>285|127=>310|164=>321|5=>5|80=>288|n=>n,fun|n=>n⟩
theorem Tryz.join:Go.Proofs.Lays.n156 Tryz.prog Tryz.join_ren:={
 mixed:=by kernel_rfl
 f156:=Tryz.func223.trans (congrArg some (by kernel_rfl))
 f165:=Tryz.func263.trans (congrArg some (by kernel_rfl))
 f166:=Tryz.func264.trans (congrArg some (by kernel_rfl))
 f169:=Tryz.func265.trans (congrArg some (by kernel_rfl))
 f240:=Tryz.func289.trans (congrArg some (by kernel_rfl))
 f241:=Tryz.func290.trans (congrArg some (by kernel_rfl))
 f276:=Tryz.func308.trans (congrArg some (by kernel_rfl))
 f277:=Tryz.func309.trans (congrArg some (by kernel_rfl))
 t0:=Tryz.underlying0
 a0:=Tryz.isAgg0
 z0:=Tryz.sizeOf0
 v0:=Tryz.zeroValue0
 t3:=Tryz.underlying3
 a3:=Tryz.isAgg3
 z3:=Tryz.sizeOf3
 v3:=Tryz.zeroValue3
 t4:=Tryz.underlying4
 a4:=Tryz.isAgg4
 z4:=Tryz.sizeOf4
 v4:=Tryz.zeroValue4
 t9:=Tryz.underlying9
 a9:=Tryz.isAgg9
 z9:=Tryz.sizeOf9
 v9:=Tryz.zeroValue9
 t20:=Tryz.underlying20
 a20:=Tryz.isAgg20
 z20:=Tryz.sizeOf20
 v20:=Tryz.zeroValue20
 t31:=Tryz.underlying39
 a31:=Tryz.isAgg39
 z31:=Tryz.sizeOf39
 v31:=Tryz.zeroValue39
 t37:=Tryz.underlying158
 a37:=Tryz.isAgg158
 z37:=Tryz.sizeOf158
 v37:=Tryz.zeroValue158
 t70:=Tryz.underlying280
 a70:=Tryz.isAgg280
 z70:=Tryz.sizeOf280
 v70:=Tryz.zeroValue280
 t72:=Tryz.underlying282
 a72:=Tryz.isAgg282
 z72:=Tryz.sizeOf282
 v72:=Tryz.zeroValue282
 t75:=Tryz.underlying285
 a75:=Tryz.isAgg285
 z75:=Tryz.sizeOf285
 v75:=Tryz.zeroValue285
 t76:=Tryz.underlying286
 a76:=Tryz.isAgg286
 z76:=Tryz.sizeOf286
 v76:=Tryz.zeroValue286
 t127:=Tryz.underlying310
 a127:=Tryz.isAgg310
 z127:=Tryz.sizeOf310
 v127:=Tryz.zeroValue310
 t164:=Tryz.underlying321
 a164:=Tryz.isAgg321
 z164:=Tryz.sizeOf321
 v164:=Tryz.zeroValue321 }
end Go.Proofs
namespace Go.Proofs.YtaolfiikahlmkaaGreatDoor
open Go Go.Proofs Sy Go.Shelf Tryz
theorem om {P:Program} {f:FuncId} {args:Array Value} {X:World→Prop} {v:Value} (h:∀ w,Calls P f args w fun e w'=>e=.returned v∧w'=w):Pu P f args X v:=by
 unfold Pu
 exact Ct.mk fun w av G=>(h w).mono fun e w' ⟨he,hw⟩=>⟨v,[],X,he,⟨rfl,rfl⟩,by subst hw;exact G⟩
theorem uJ (x:Nat) (hx:x<18446744073709551616):Pu prog 172 #[.int .u64 (x:Int)] (fun _=>True) (.int .i64 (Lib.bitLen x)) :=
 om fun w=>by
  have h:=Any.bits_Len64 Tryz.len64 (x:Int) w aa aa
  rw [ZX] at h
  exact h
theorem uw (x y:Nat) (hx:x<18446744073709551616) (hy:y<18446744073709551616):Pu prog 266 #[.int .u64 (x:Int),.int .u64 (y:Int)] (fun _=>True) (.tuple #[.int .u64 ((x*y/18446744073709551616:Nat):Int),.int .u64 ((x*y%18446744073709551616:Nat):Int)]) :=
 om fun w=>Any.bits_Mul64 Tryz.mul64 x y hx hy w
theorem yA (d:Nat) (hd:d=8∨d=16):Pu prog 310 #[.int .u64 ((2305843009213693952-d/8:Nat):Int)] (fun _=>True) (.int .i64 3):=by
 refine ax func310 ntmps310 fun av bor w0=>?_
 have h:=uJ (2305843009213693952-d/8) aa
 have e:Lib.bitLen (2305843009213693952-d/8)=61:=by rcases hd with rfl|rfl<;>kernel_rfl
 rw [e] at h
 repeat' (first|(refine ae (hc:=h) ?_)|refine gs ?_|fail)
 apply ab;apply ag;rfl;rfl
 rfl
namespace Sy
section
variable {P:Program} {N:Nat} {av bor:List Nat} {w0:World} {st:St} {K:Exit→St→Prop}
theorem vg {ι:Type} {id:Nat} (M:ι→St) {x y:Code} (h1:Cw P N av bor w0 x st (blk id (thn (fun s=>∃ i,∀ a w,Ok N av bor w0 s a w→Ok N av bor w0 (M i) a w) K))) (h2:∀ i,Cw P N av bor w0 y (M i) K) :
  Cw P N av bor w0 x st (blk id (thn (fun s=>Cw P N av bor w0 y s K) K)):=sd (fun e s h=>by
 cases e with
 | normal =>
  obtain ⟨i,hi⟩:=h
  exact mf hi (h2 i)
 | exit id' =>
  by_cases e:id'=id
  · simp only [blk,ZN e] at h ⊢
    obtain ⟨i,hi⟩:=h
    exact mf hi (h2 i)
  · simp only [blk,ZO e] at h ⊢
    exact h
 | _=>exact h) h1
end
end Sy
theorem cT (x:Int) (h:0≤x∧x<18446744073709551616):IntKind.u64.wrap x=x:=by
 rw [IntKind.wrap_u64]
 omega
theorem Cf (x:Int):IntKind.u64.wrap x=x%18446744073709551616:=IntKind.wrap_u64 x
def Eqq (a b:Int):Prop:=a=b
def Hid (p:Prop):Prop:=p
theorem xv (a b c:Int):IntKind.u64.wrap (IntKind.u64.wrap (IntKind.u64.wrap a+b)-IntKind.u64.wrap c)=(a+b-c)%18446744073709551616:=by
 simp only [Cf]
 omega
theorem wO {V M Q z:Nat} (h:V=M*Q+z) (hz:z<M):V/M=Q∧V%M=z:=by
 subst h
 exact ⟨by rw [Nat.mul_add_div aa,Nat.div_eq_of_lt hz,ZR],by rw [Nat.mul_add_mod,ZC hz]⟩
theorem and32 (a:Nat) (ha:a<18446744073709551616):bitsV .and .u64 (a:Int) 4294967295=((a%4294967296:Nat):Int):=by
 show IntKind.u64.wrap ((((BitVec.ofInt 64 (a:Int)) &&& (BitVec.ofInt 64 4294967295)).toNat:Nat):Int)=_
 have e:(BitVec.ofInt 64 4294967295).toNat=4294967295:=by decide
 rw [BitVec.toNat_and,e,Qk,Qn,ZC (show a<2 ^ 64 from ha),show (4294967295:Nat)=2 ^ 32-1 by decide,Nat.and_two_pow_sub_one_eq_mod,cT _ (by omega)]
theorem shl3 (a:Nat):shlV .u64 (a:Int) 3=((a*8%18446744073709551616:Nat):Int):=by
 show IntKind.u64.wrap ((a:Int)*2 ^ (min (3:Int).toNat 64))=_
 rw [show (2:Int) ^ (min (3:Int).toNat 64)=8 by kernel_rfl,Cf]
 omega
theorem Dr (a:Nat) {c:Int} (p:Nat) (hp:(2:Int) ^ (min c.toNat 64)=(p:Int)):shrV .u64 (a:Int) c=((a/p:Nat):Int):=by
 show (a:Int).fdiv (2 ^ (min c.toNat 64))=_
 rw [hp,←Int.ofNat_fdiv]
theorem or3 (a b:Nat) (ha:a<2305843009213693952) (hb:b<8):bitsV .or .u64 ((a*8:Nat):Int) (b:Int)=((a*8+b:Nat):Int):=by
 show IntKind.u64.wrap ((((BitVec.ofInt 64 ((a*8:Nat):Int)) ||| (BitVec.ofInt 64 (b:Int))).toNat:Nat):Int)=_
 rw [Qk,Qk,BitVec.toNat_or,Qn,Qn,ZC (show a*8<2 ^ 64 by omega),ZC (show b<2 ^ 64 by omega)]
 have e:a*8 ||| b=a*8+b:=by
  have h:=Nat.shiftLeft_add_eq_or_of_lt (i:=3) (b:=b) hb a
  rw [Nat.shiftLeft_eq] at h
  exact h.symm
 rw [e,cT _ (by omega)]
theorem DG (a b:Nat) (ha:a<18446744073709551616) (hb:0<b):IntKind.u64.wrap ((a:Int).tdiv (b:Int))=((a/b:Nat):Int):=by
 have h:(a:Int).tdiv (b:Int)=((a/b:Nat):Int):=by rw [Int.natCast_ediv,Qo (by omega)]
 have:=Nat.div_le_self a b
 rw [h]
 generalize a/b=c at *
 rw [cT _ (by omega)]
theorem lP (a b:Nat):(a:Int).tmod (b:Int)=((a%b:Nat):Int):=by rw [Int.natCast_emod,Int.tmod_eq_emod_of_nonneg (by omega)]
theorem yN {Y Y0 u v:Nat} (hY:Y=4294967295*4294967296+Y0) (hv:v<4294967296):u*4294967296+v<(u/4294967295+1)*Y :=
 Nat.lt_of_lt_of_le (show u*4294967296+v<(u/4294967295+1)*18446744069414584320 by omega) (Nat.mul_le_mul_left _ aa)
theorem yO {Y Y0 u v p r:Nat} (hY:Y=4294967295*4294967296+Y0) (isum:(p+1)*4294967295+r=u) (hu:u<Y) (hv:v<4294967296) (h:4294967296≤p+1∨4294967296*r+v<(p+1)*Y0):u*4294967296+v<(p+1)*Y:=by
 rcases h with h|h
 · exact Nat.lt_of_lt_of_le (show u*4294967296+v<4294967296*Y by omega) (Qz Y h)
 · have e:(p+1)*Y=(p+1)*4294967295*4294967296+(p+1)*Y0:=by rw [hY,Nat.mul_assoc,←Nat.mul_add]
   rw [e,←isum,QD,ZG]
   exact Nat.add_lt_add_left (by rw [Nat.mul_comm r];exact h) _
theorem yM {Y Y0 u v p r:Nat} (hY:Y=4294967295*4294967296+Y0) (h0:Y0<4294967289) (isum:(p+1)*4294967295+r=u) (hr:4294967296≤r+4294967295) (itop:p+1≤4294967297):p*Y≤u*4294967296+v:=by
 have e:p*Y=p*4294967295*4294967296+p*Y0:=by rw [hY,Nat.mul_assoc,←Nat.mul_add]
 have h1:p*Y0≤4294967296*4294967296:=Nat.mul_le_mul aa aa
 have hu':u=p*4294967295+(r+4294967295):=by
  rw [←isum,Nat.succ_mul,ZG,Nat.add_comm 4294967295 r]
 rw [hu',QD,e,ZG]
 exact Nat.add_le_add_left (ZW h1 (ZW (Qz 4294967296 hr) (Nat.le_add_right _ _))) _
theorem vc {q Y0:Nat} (h:q≤4294967297) (h0:Y0<4294967289):(0:Int)≤(q:Int)*(Y0:Int)∧(q:Int)*(Y0:Int)<18446744073709551616∧(1≤q∨(q:Int)*(Y0:Int)=0):=by
 have:=Nat.mul_le_mul h (show Y0≤4294967288 by omega)
 rw [←Int.natCast_mul]
 refine ⟨by omega,by omega,?_⟩
 cases q with
 | zero=>exact Or.inr (by rw [Nat.zero_mul];rfl)
 | succ p=>exact Or.inl aa
structure DivI (Y u v:Nat) where
 q:Nat
 r:Nat
 sum:q*4294967295+r=u
 big:u*4294967296+v<(q+1)*Y
 top:q≤4294967297
 lim:r<4294967296
structure DivE (Y u v:Nat) where
 q:Nat
 lo:q*Y≤u*4294967296+v
 hi:u*4294967296+v<(q+1)*Y
set_option maxRecDepth 20000 in
theorem div64 {M Y Y0:Nat} (hM:M<2305843009213693952∧2305843009213693949<M) (hYM:Y=M*8) (hY:Y=4294967295*4294967296+Y0) (hz:Pu prog 310 #[.int .u64 (M:Int)] (fun _=>True) (.int .i64 3))
  (ey:shlV .u64 (M:Int) 3=(Y:Int)) (ey1:shrV .u64 (Y:Int) 32=4294967295) (ey0:bitsV .and .u64 (Y:Int) 4294967295=(Y0:Int)) (hi lo:Nat) (hhi:hi<M) (hlo:lo<18446744073709551616) :
  Pu prog 291 #[.int .u64 (hi:Int),.int .u64 (lo:Int),.int .u64 (M:Int)] (fun _=>True)
   (.tuple #[.int .u64 (((hi*18446744073709551616+lo)/M:Nat):Int),.int .u64 (((hi*18446744073709551616+lo)%M:Nat):Int)]):=by
 refine ax func291 ntmps291 fun av bor w0=>?_
 repeat' (first|(refine ae (hc:=hz) ?_)|refine gs ?_|(refine gp ?_ ?_<;>intro hx_ this)|fail)
 · exfalso;omega
 · exfalso;omega
 · have h0:hi=0:=by omega
   subst h0
   have e1:IntKind.u64.wrap ((lo:Int).tdiv (M:Int))=((lo/M:Nat):Int):=DG lo M hlo aa
   have e2:(lo:Int).tmod (M:Int)=((lo%M:Nat):Int):=lP lo M
   have hMz:(M:Int)≠0:=by omega
   (refine ap ⟨[0,1,2,3,4,5,6,7],[]⟩ [] (fun _=>True) (h:=?_))
   all_goals repeat' (first|refine gd ?_|refine ay (hy:=by first|(apply pQ (c:=((lo/M:Nat):Int));rfl;rfl;exact hMz;exact e1)|(apply sM (c:=((lo%M:Nat):Int));rfl;rfl;exact hMz;exact e2)) ?_|fail)
   all_goals
    repeat' (first|refine gs ?_|fail)
    apply ab;apply gF;rfl;rfl;rfl
    rw [Nat.zero_mul,ZS]
 · have e3:IntKind.u64.wrap 3=3:=by kernel_rfl
   have e61:IntKind.u64.wrap (64-3)=61:=by kernel_rfl
   have eh:shlV .u64 (hi:Int) 3=((hi*8:Nat):Int):=by rw [shl3,ZC (by omega)]
   have el:shrV .u64 (lo:Int) 61=((lo/2305843009213693952:Nat):Int):=Dr lo _ aj
   have eo:bitsV .or .u64 ((hi*8:Nat):Int) ((lo/2305843009213693952:Nat):Int)=((hi*8+lo/2305843009213693952:Nat):Int):=or3 hi _ aa aa
   have e10:shlV .u64 (lo:Int) 3=((lo*8%18446744073709551616:Nat):Int):=shl3 lo
   have hU:(hi*18446744073709551616+lo)*8=(hi*8+lo/2305843009213693952)*18446744073709551616+lo*8%18446744073709551616:=by omega
   have hu:hi*8+lo/2305843009213693952<Y:=by omega
   have hv:lo*8%18446744073709551616<18446744073709551616:=Qa _ (by decide)
   simp only [e3,e61,ey,ey1,ey0,eh,el,eo,e10]
   clear e3 e61 ey ey1 ey0 eh el eo e10 hz
   generalize hi*8+lo/2305843009213693952=u at *
   generalize lo*8%18446744073709551616=v at *
   have e1:shrV .u64 (v:Int) 32=((v/4294967296:Nat):Int):=Dr v _ aj
   have e0:bitsV .and .u64 (v:Int) 4294967295=((v%4294967296:Nat):Int):=and32 v hv
   obtain ⟨v1,v0,hv1,hv0,hvv,hv1l,hv0l⟩:∃ v1 v0:Nat,v/4294967296=v1∧v%4294967296=v0∧v=v1*4294967296+v0∧v1<4294967296∧v0<4294967296:=⟨_,_,rfl,rfl,by omega,by omega,by omega⟩
   simp only [e1,e0,hv1,hv0]
   clear e1 e0 hv1 hv0
   subst hvv
   obtain ⟨V,hV⟩:∃ V,hi*18446744073709551616+lo=V:=⟨_,rfl⟩
   rw [hV] at hU ⊢
   have hUh:Hid (V*8=u*18446744073709551616+(v1*4294967296+v0)):=hU
   clear hU hV hv hhi hlo
   have hq1:Eqq (IntKind.u64.wrap ((u:Int).tdiv 4294967295)) ((u/4294967295:Nat):Int):=DG u 4294967295 aa (by decide)
   have h00:Y0<4294967289:=by omega
   repeat' (first|refine nN (hb:=by decide) (hc:=hq1) ?_|refine gm (hc:=cT _ aa) (h:=?_)|refine gS (hc:=cT _ aa) (h:=?_)|refine gs ?_|fail)
   refine vg (ι:=DivE Y u v1) (fun i=>⟨[(2,.int .u64 (Y:Nat)),(8,.int .u64 3),(9,.int .u64 4294967295),(10,.int .u64 (Y0:Nat)),(11,.int .u64 (u:Nat)),(13,.int .u64 (v1:Int)),(14,.int .u64 (v0:Int)),(15,.int .u64 (i.q:Nat))],[],fun _=>True⟩) ?_ fun i=>?_
   · refine aq (ι:=DivI Y u v1) (fun i=>⟨[(2,.int .u64 (Y:Nat)),(8,.int .u64 3),(9,.int .u64 4294967295),(10,.int .u64 (Y0:Nat)),(11,.int .u64 (u:Nat)),(13,.int .u64 (v1:Int)),(14,.int .u64 (v0:Int)),(15,.int .u64 (i.q:Nat)),(16,.int .u64 (i.r:Nat))],[],fun _=>True⟩) (fun i=>4294967296-i.r) ⟨u/4294967295,u%4294967295,by omega,yN hY hv1l,by omega,by omega⟩
      (ai ⟨rfl,rfl,rfl,rfl,rfl,rfl,rfl,rfl,by show some (Value.int .u64 ((u:Int)-((u/4294967295:Nat):Int)*4294967295))=some (Value.int .u64 ((u%4294967295:Nat):Int));congr 2;omega,trivial⟩ (Zt _) fun _ h=>h) fun i=>?_
     obtain ⟨q,r,isum,ibig,itop,ilim⟩:=i
     simp only
     obtain ⟨hq0_,hq1_,hq2_⟩:=vc itop h00
     repeat' (first|refine gm (hc:=cT _ aa) (h:=?_)|refine gS (hc:=cT _ aa) (h:=?_)|refine ef (hc:=cT _ aa) (h:=?_)|refine gs ?_|(refine gp ?_ ?_<;>intro hx_ this)|fail)
     rotate_right
     · have e:q*Y=q*(4294967295*4294967296)+q*Y0:=by rw [hY,Nat.mul_add]
       exact ⟨⟨q,by omega,ibig⟩,ai am (Zt _) fun _ h=>h⟩
     all_goals
      cases q with
      | zero=>exfalso;omega
      | succ p =>
       have f2:u*4294967296+v1<(p+1)*Y:=yO hY isum hu hv1l (by first|exact Or.inl aa|exact Or.inr aa)
       have f3:((p+1:Nat):Int)-1=(p:Int):=by omega
       first
       | exact ⟨⟨p,yM hY h00 isum aa itop,f2⟩,ai ⟨rfl,rfl,rfl,rfl,rfl,rfl,rfl,by show some (Value.int .u64 (((p+1:Nat):Int)-1))=some (Value.int .u64 (p:Int));rw [f3],trivial⟩ (Zt _) fun _ h=>h⟩
       | exact ⟨⟨p,r+4294967295,by rw [←isum,Nat.succ_mul,ZG,Nat.add_comm 4294967295 r],f2,by omega,by omega⟩,show 4294967296-(r+4294967295)<4294967296-r by omega,ai ⟨rfl,rfl,rfl,rfl,rfl,rfl,rfl,by show some (Value.int .u64 (((p+1:Nat):Int)-1))=some (Value.int .u64 (p:Int));rw [f3],rfl,trivial⟩ (Zt _) fun _ h=>h⟩
   · obtain ⟨q1,q1lo,q1hi⟩:=i
     simp only
     have hs:=QD q1 1 Y
     obtain ⟨x,hx,hxY⟩:∃ x:Nat,u*4294967296+v1=q1*Y+x∧x<Y:=⟨u*4294967296+v1-q1*Y,by omega,by omega⟩
     have h17:Eqq (IntKind.u64.wrap (IntKind.u64.wrap (IntKind.u64.wrap ((u:Int)*4294967296)+(v1:Int))-IntKind.u64.wrap ((q1:Int)*(Y:Int)))) (x:Int):=by
      unfold Eqq
      rw [xv,show (u:Int)*4294967296+(v1:Int)-(q1:Int)*(Y:Int)=(x:Int) by omega]
      omega
     have hq0:Eqq (IntKind.u64.wrap ((x:Int).tdiv 4294967295)) ((x/4294967295:Nat):Int):=DG x 4294967295 aa (by decide)
     have hq1l:q1<4294967296:=Nat.lt_of_mul_lt_mul_right (a:=Y) (show q1*Y<4294967296*Y by omega)
     repeat' (first|refine gS (hc:=h17) (h:=?_)|refine gm (hc:=rfl) (h:=?_)|refine ef (hc:=rfl) (h:=?_)|refine gs ?_|fail)
     clear h17
     repeat' (first|refine nN (hb:=by decide) (hc:=hq0) ?_|refine gm (hc:=cT _ aa) (h:=?_)|refine gS (hc:=cT _ aa) (h:=?_)|refine gs ?_|fail)
     have hxh:Hid (u*4294967296+v1=q1*Y+x):=hx
     clear hx q1lo q1hi hu hs
     refine vg (ι:=DivE Y x v0) (fun i=>⟨[(2,.int .u64 (Y:Nat)),(8,.int .u64 3),(14,.int .u64 (v0:Int)),(15,.int .u64 (q1:Nat)),(17,.int .u64 (x:Nat)),(18,.int .u64 (i.q:Nat))],[],fun _=>True⟩) ?_ fun i=>?_
     · refine aq (ι:=DivI Y x v0) (fun i=>⟨[(2,.int .u64 (Y:Nat)),(8,.int .u64 3),(9,.int .u64 4294967295),(10,.int .u64 (Y0:Nat)),(14,.int .u64 (v0:Int)),(15,.int .u64 (q1:Nat)),(17,.int .u64 (x:Nat)),(18,.int .u64 (i.q:Nat)),(16,.int .u64 (i.r:Nat))],[],fun _=>True⟩) (fun i=>4294967296-i.r) ⟨x/4294967295,x%4294967295,by omega,yN hY hv0l,by omega,by omega⟩
        (ai ⟨rfl,rfl,rfl,rfl,rfl,rfl,rfl,rfl,by show some (Value.int .u64 ((x:Int)-((x/4294967295:Nat):Int)*4294967295))=some (Value.int .u64 ((x%4294967295:Nat):Int));congr 2;omega,trivial⟩ (Zt _) fun _ h=>h) fun i=>?_
       obtain ⟨q,r,isum,ibig,itop,ilim⟩:=i
       simp only
       obtain ⟨hq0_,hq1_,hq2_⟩:=vc itop h00
       repeat' (first|refine gm (hc:=cT _ aa) (h:=?_)|refine gS (hc:=cT _ aa) (h:=?_)|refine ef (hc:=cT _ aa) (h:=?_)|refine gs ?_|(refine gp ?_ ?_<;>intro hx_ this)|fail)
       rotate_right
       · have e:q*Y=q*(4294967295*4294967296)+q*Y0:=by rw [hY,Nat.mul_add]
         exact ⟨⟨q,by omega,ibig⟩,ai am (Zt _) fun _ h=>h⟩
       all_goals
        cases q with
        | zero=>exfalso;omega
        | succ p =>
         have f2:x*4294967296+v0<(p+1)*Y:=yO hY isum hxY hv0l (by first|exact Or.inl aa|exact Or.inr aa)
         have f3:((p+1:Nat):Int)-1=(p:Int):=by omega
         first
         | exact ⟨⟨p,yM hY h00 isum aa itop,f2⟩,ai ⟨rfl,rfl,rfl,rfl,rfl,by show some (Value.int .u64 (((p+1:Nat):Int)-1))=some (Value.int .u64 (p:Int));rw [f3],trivial⟩ (Zt _) fun _ h=>h⟩
         | exact ⟨⟨p,r+4294967295,by rw [←isum,Nat.succ_mul,ZG,Nat.add_comm 4294967295 r],f2,by omega,by omega⟩,show 4294967296-(r+4294967295)<4294967296-r by omega,ai ⟨rfl,rfl,rfl,rfl,rfl,rfl,rfl,by show some (Value.int .u64 (((p+1:Nat):Int)-1))=some (Value.int .u64 (p:Int));rw [f3],rfl,trivial⟩ (Zt _) fun _ h=>h⟩
     · obtain ⟨q0,q0lo,q0hi⟩:=i
       simp only
       have hs:=QD q0 1 Y
       obtain ⟨y,hy,hyY⟩:∃ y:Nat,x*4294967296+v0=q0*Y+y∧y<Y:=⟨x*4294967296+v0-q0*Y,by omega,by omega⟩
       have h132:Eqq (IntKind.u64.wrap (IntKind.u64.wrap (IntKind.u64.wrap ((x:Int)*4294967296)+(v0:Int))-IntKind.u64.wrap ((q0:Int)*(Y:Int)))) (y:Int):=by
        unfold Eqq
        rw [xv,show (x:Int)*4294967296+(v0:Int)-(q0:Int)*(Y:Int)=(y:Int) by omega]
        omega
       have hq0l:q0<4294967296:=Nat.lt_of_mul_lt_mul_right (a:=Y) (show q0*Y<4294967296*Y by omega)
       have hq1:Eqq (IntKind.u64.wrap (IntKind.u64.wrap ((q1:Int)*4294967296)+(q0:Int))) ((q1:Int)*4294967296+(q0:Int)):=by unfold Eqq;rw [cT ((q1:Int)*4294967296) aa,cT _ (by omega)]
       repeat' (first|refine gS (hc:=h132) (h:=?_)|refine gs ?_|fail)
       have h3:Eqq (shrV .u64 (y:Int) 3) ((y/8:Nat):Int):=Dr y 8 aj
       have hx:u*4294967296+v1=q1*Y+x:=hxh
       have hU:V*8=u*18446744073709551616+(v1*4294967296+v0):=hUh
       have a1 (q:Nat):q*Y=M*q*8:=by rw [hYM,←Nat.mul_assoc,Nat.mul_comm q]
       have a2:=a1 q1
       have a3:=a1 q0
       have a4:M*(q1*4294967296+q0)=M*q1*4294967296+M*q0:=by rw [Nat.mul_add,←Nat.mul_assoc]
       obtain ⟨hA,hB⟩:=wO (V:=V) (M:=M) (Q:=q1*4294967296+q0) (z:=y/8) aa aa
       apply ab;apply gF;rfl;rfl;rfl
       unfold Eqq at h3 hq1
       rw [hA,hB,h3,hq1,Int.natCast_add,Int.natCast_mul]
       rfl
theorem div64P (hi lo:Nat) (hhi:hi<2305843009213693951) (hlo:lo<18446744073709551616) :
  Pu prog 291 #[.int .u64 (hi:Int),.int .u64 (lo:Int),.int .u64 2305843009213693951] (fun _=>True)
   (.tuple #[.int .u64 (((hi*18446744073709551616+lo)/2305843009213693951:Nat):Int),.int .u64 (((hi*18446744073709551616+lo)%2305843009213693951:Nat):Int)]) :=
 div64 (M:=2305843009213693951) (Y:=18446744073709551608) (Y0:=4294967288) (by decide) rfl rfl (yA 8 (by decide)) aj aj aj hi lo hhi hlo
theorem div64N (hi lo:Nat) (hhi:hi<2305843009213693950) (hlo:lo<18446744073709551616) :
  Pu prog 291 #[.int .u64 (hi:Int),.int .u64 (lo:Int),.int .u64 2305843009213693950] (fun _=>True)
   (.tuple #[.int .u64 (((hi*18446744073709551616+lo)/2305843009213693950:Nat):Int),.int .u64 (((hi*18446744073709551616+lo)%2305843009213693950:Nat):Int)]) :=
 div64 (M:=2305843009213693950) (Y:=18446744073709551600) (Y0:=4294967280) (by decide) rfl rfl (yA 16 (by decide)) aj aj aj hi lo hhi hlo
end Go.Proofs.YtaolfiikahlmkaaGreatDoor
namespace Go.Proofs.YtaolfiikahlmkaaGreatDoor
open Go Go.Proofs Sy Go.Shelf Tryz
theorem EF (hi lo M:Nat):(hi%M*18446744073709551616+lo)%M=(hi*18446744073709551616+lo)%M:=by
 rw [Nat.add_mod,Nat.mul_mod,Nat.mod_mod,←Nat.mul_mod,←Nat.add_mod]
theorem rem64P (hi lo:Nat) (hlo:lo<18446744073709551616) :
  Pu prog 267 #[.int .u64 (hi:Int),.int .u64 (lo:Int),.int .u64 2305843009213693951] (fun _=>True) (.int .u64 (((hi*18446744073709551616+lo)%2305843009213693951:Nat):Int)):=by
 refine ax func267 ntmps267 fun av bor w0=>?_
 have hr:Eqq ((hi:Int).tmod 2305843009213693951) ((hi%2305843009213693951:Nat):Int):=lP hi 2305843009213693951
 have hd:=div64P (hi%2305843009213693951) lo (Qa _ (by decide)) hlo
 rw [EF] at hd
 repeat' (first|refine fw (hb:=by decide) (hc:=hr) ?_|(refine ae (hc:=hd) ?_)|refine gs ?_|fail)
 apply ab;apply ag;rfl;rfl
 rfl
theorem rem64N (hi lo:Nat) (hlo:lo<18446744073709551616) :
  Pu prog 267 #[.int .u64 (hi:Int),.int .u64 (lo:Int),.int .u64 2305843009213693950] (fun _=>True) (.int .u64 (((hi*18446744073709551616+lo)%2305843009213693950:Nat):Int)):=by
 refine ax func267 ntmps267 fun av bor w0=>?_
 have hr:Eqq ((hi:Int).tmod 2305843009213693950) ((hi%2305843009213693950:Nat):Int):=lP hi 2305843009213693950
 have hd:=div64N (hi%2305843009213693950) lo (Qa _ (by decide)) hlo
 rw [EF] at hd
 repeat' (first|refine fw (hb:=by decide) (hc:=hr) ?_|(refine ae (hc:=hd) ?_)|refine gs ?_|fail)
 apply ab;apply ag;rfl;rfl
 rfl
theorem dR (a m:Nat) (hm:0<m) (hm2:m<4611686018427387904):Pu prog 224 #[.int .i64 (a:Int),.int .i64 (m:Int)] (fun _=>True) (.int .i64 ((a%m:Nat):Int)):=by
 refine ax func224 ntmps224 fun av bor w0=>?_
 have hr:Eqq ((a:Int).tmod (m:Int)) ((a%m:Nat):Int):=lP a m
 repeat' (first|refine fw (hb:=by omega) (hc:=hr) ?_|refine gs ?_|(refine gp ?_ ?_<;>intro hx_ this)|fail)
 · exfalso;omega
 · apply ab;apply ag;rfl;rfl
   rfl
theorem Hz (a b:Nat):Pu prog 226 #[.int .i64 (a:Int),.int .i64 (b:Int),.int .i64 2305843009213693951] (fun _=>True) (.int .i64 ((a*b%2305843009213693951:Nat):Int)):=by
 refine ax func226 ntmps226 fun av bor w0=>?_
 have h1:=dR a 2305843009213693951 (by decide) (by decide)
 have h2:=dR b 2305843009213693951 (by decide) (by decide)
 have hx:=Qa a (show 0<2305843009213693951 by decide)
 have hy:=Qa b (show 0<2305843009213693951 by decide)
 have hab:a*b%2305843009213693951=(a%2305843009213693951)*(b%2305843009213693951)%2305843009213693951:=Nat.mul_mod a b _
 rw [hab]
 generalize a%2305843009213693951=x at *
 generalize b%2305843009213693951=y at *
 have h3:=uw x y aa aa
 have h4:=rem64P (x*y/18446744073709551616) (x*y%18446744073709551616) (Qa _ (by decide))
 have e:x*y/18446744073709551616*18446744073709551616+x*y%18446744073709551616=x*y:=Nat.div_add_mod' _ _
 rw [e] at h4
 have cx:Eqq (IntKind.u64.wrap (x:Int)) (x:Int):=cT _ aa
 have cy:Eqq (IntKind.u64.wrap (y:Int)) (y:Int):=cT _ aa
 have hz:=Qa (x*y) (show 0<2305843009213693951 by decide)
 have cm:Eqq (IntKind.u64.wrap 2305843009213693951) 2305843009213693951:=by unfold Eqq;kernel_rfl
 generalize x*y%2305843009213693951=z at *
 have cz:Eqq (IntKind.i64.wrap (z:Int)) (z:Int):=IntWalk.i64_in _ aa
 unfold Eqq at cx cy cm cz
 rw [←cx,←cy] at h3
 rw [←cm] at h4
 repeat' (first|(refine ae (hc:=h1) ?_)|(refine ae (hc:=h2) ?_)|(refine ae (hc:=h3) ?_)|(refine ae (hc:=h4) ?_)|refine gs ?_|fail)
 apply ab;apply ag;rfl;rfl
 rfl
theorem Ir (a b:Nat):Pu prog 225 #[.int .i64 (a:Int),.int .i64 (b:Int),.int .i64 2305843009213693950] (fun _=>True) (.int .i64 (((a+b)%2305843009213693950:Nat):Int)):=by
 refine ax func225 ntmps225 fun av bor w0=>?_
 have h1:=dR a 2305843009213693950 (by decide) (by decide)
 have h2:=dR b 2305843009213693950 (by decide) (by decide)
 have h3:=dR (a%2305843009213693950+b%2305843009213693950) 2305843009213693950 (by decide) (by decide)
 rw [←Nat.add_mod] at h3
 have hs:Eqq (IntKind.i64.wrap (((a%2305843009213693950:Nat):Int)+((b%2305843009213693950:Nat):Int))) ((a%2305843009213693950+b%2305843009213693950:Nat):Int):=by
  have:=Qa a (show 0<2305843009213693950 by decide)
  have:=Qa b (show 0<2305843009213693950 by decide)
  generalize a%2305843009213693950=x at *
  generalize b%2305843009213693950=y at *
  unfold Eqq
  rw [Int.natCast_add]
  exact IntWalk.i64_in _ aa
 repeat' (first|refine ef (hc:=hs) (h:=?_)|(refine ae (hc:=h1) ?_)|(refine ae (hc:=h2) ?_)|(refine ae (hc:=h3) ?_)|refine gs ?_|fail)
 apply ab;apply ag;rfl;rfl
 rfl
theorem HA (a b:Nat):Pu prog 226 #[.int .i64 (a:Int),.int .i64 (b:Int),.int .i64 2305843009213693950] (fun _=>True) (.int .i64 ((a*b%2305843009213693950:Nat):Int)):=by
 refine ax func226 ntmps226 fun av bor w0=>?_
 have h1:=dR a 2305843009213693950 (by decide) (by decide)
 have h2:=dR b 2305843009213693950 (by decide) (by decide)
 have hx:=Qa a (show 0<2305843009213693950 by decide)
 have hy:=Qa b (show 0<2305843009213693950 by decide)
 have hab:a*b%2305843009213693950=(a%2305843009213693950)*(b%2305843009213693950)%2305843009213693950:=Nat.mul_mod a b _
 rw [hab]
 generalize a%2305843009213693950=x at *
 generalize b%2305843009213693950=y at *
 have h3:=uw x y aa aa
 have h4:=rem64N (x*y/18446744073709551616) (x*y%18446744073709551616) (Qa _ (by decide))
 have e:x*y/18446744073709551616*18446744073709551616+x*y%18446744073709551616=x*y:=Nat.div_add_mod' _ _
 rw [e] at h4
 have cx:Eqq (IntKind.u64.wrap (x:Int)) (x:Int):=cT _ aa
 have cy:Eqq (IntKind.u64.wrap (y:Int)) (y:Int):=cT _ aa
 have hz:=Qa (x*y) (show 0<2305843009213693950 by decide)
 have cm:Eqq (IntKind.u64.wrap 2305843009213693950) 2305843009213693950:=by unfold Eqq;kernel_rfl
 generalize x*y%2305843009213693950=z at *
 have cz:Eqq (IntKind.i64.wrap (z:Int)) (z:Int):=IntWalk.i64_in _ aa
 unfold Eqq at cx cy cm cz
 rw [←cx,←cy] at h3
 rw [←cm] at h4
 repeat' (first|(refine ae (hc:=h1) ?_)|(refine ae (hc:=h2) ?_)|(refine ae (hc:=h3) ?_)|(refine ae (hc:=h4) ?_)|refine gs ?_|fail)
 apply ab;apply ag;rfl;rfl
 rfl
theorem xl (a b:Nat):Pu prog 188 #[.int .i64 (a:Int),.int .i64 (b:Int)] (fun _=>True) (.int .i64 ((a*b%2305843009213693951:Nat):Int)):=by
 refine ax func188 ntmps188 fun av bor w0=>?_
 repeat' (first|(refine ae (hc:=Hz a b) ?_)|refine gs ?_|fail)
 apply ab;apply ag;rfl;rfl
 rfl
theorem Iu (a b:Nat):Pu prog 138 #[.int .i64 (a:Int),.int .i64 (b:Int)] (fun _=>True) (.int .i64 ((a*b%2305843009213693950:Nat):Int)):=by
 refine ax func138 ntmps138 fun av bor w0=>?_
 repeat' (first|(refine ae (hc:=HA a b) ?_)|refine gs ?_|fail)
 apply ab;apply ag;rfl;rfl
 rfl
theorem Iv (a b:Nat):Pu prog 137 #[.int .i64 (a:Int),.int .i64 (b:Int)] (fun _=>True) (.int .i64 (((a+b)%2305843009213693950:Nat):Int)):=by
 refine ax func137 ntmps137 fun av bor w0=>?_
 repeat' (first|(refine ae (hc:=Ir a b) ?_)|refine gs ?_|fail)
 apply ab;apply ag;rfl;rfl
 rfl
def expF (a e:Nat):Nat→Nat×Nat
 | 0=>(1,a%2305843009213693951)
 | i+1=>(bif decide (e/2 ^ i%2=1) then (expF a e i).1*(expF a e i).2%2305843009213693951 else (expF a e i).1,(expF a e i).2*(expF a e i).2%2305843009213693951)
def expV (a e:Nat):Nat:=(expF a e (Lib.bitLen e)).1
theorem Kl (e i:Nat) (hi:i≤64):shrV .i64 (e:Int) (i:Int)=((e/2 ^ i:Nat):Int):=by
 show (e:Int).fdiv (2 ^ (min (i:Int).toNat 64))=_
 rw [ZX,Nat.min_eq_left hi,show (2:Int) ^ i=((2 ^ i:Nat):Int) by rw [Int.natCast_pow];rfl,←Int.ofNat_fdiv]
theorem Ks (x:Nat) (hx:x<9223372036854775808):bitsV .and .i64 (x:Int) 1=((x%2:Nat):Int):=by
 show IntKind.i64.wrap ((((BitVec.ofInt 64 (x:Int)) &&& (BitVec.ofInt 64 1)).toNat:Nat):Int)=_
 have e:(BitVec.ofInt 64 1).toNat=1:=by decide
 rw [BitVec.toNat_and,e,Qk,Qn,ZC (show x<2 ^ 64 by omega),Nat.and_one_is_mod]
 exact IntWalk.i64_in _ aa
theorem kA:∀ f x:Nat,Lib.bitLenAux f x≤f
 | 0,_=>ZV _
 | f+1,x=>by
  rw [Lib.bitLenAux]
  split
  · omega
  · have:=kA f (x/2)
    omega
theorem r5 (a e:Nat) (he:e<9223372036854775808):Pu prog 136 #[.int .i64 (a:Int),.int .i64 (e:Int)] (fun _=>True) (.int .i64 (expV a e:Nat)):=by
 refine ax func136 ntmps136 fun av bor w0=>?_
 have h1:=dR a 2305843009213693951 (by decide) (by decide)
 have h2:=uJ e aa
 have ce:Eqq (IntKind.u64.wrap (e:Int)) (e:Int):=cT _ aa
 unfold Eqq at ce
 rw [←ce] at h2
 repeat' (first|(refine ae (hc:=h1) ?_)|(refine ae (hc:=h2) ?_)|refine gs ?_|(refine gp ?_ ?_<;>intro hx_ this)|fail)
 · exfalso;omega
 · have hbl:Lib.bitLen e≤64:=kA 64 e
   refine aq (ι:=Kth (Lib.bitLen e)) (fun i=>⟨[(1,.int .i64 (e:Int)),(5,.int .i64 ((expF a e i.k).1:Nat)),(6,.int .i64 ((expF a e i.k).2:Nat)),(16,.int .i64 (Lib.bitLen e:Nat)),(17,.int .i64 i.k)],[],fun _=>True⟩) (fun i=>Lib.bitLen e-i.k) ⟨0,Z2 _⟩ (ai am (Zt _) fun _ h=>h) fun i=>?_
   have hik:=i.hk
   have hm1:=xl (expF a e i.k).1 (expF a e i.k).2
   have hm2:=xl (expF a e i.k).2 (expF a e i.k).2
   have hb:bitsV .and .i64 (shrV .i64 (e:Int) ((i.k:Nat):Int)) 1=((e/2 ^ i.k%2:Nat):Int):=by
    rw [Kl e i.k aa,Ks _ (Nat.lt_of_le_of_lt (Nat.div_le_self _ _) he)]
   have hs:expF a e (i.k+1)=(bif decide (e/2 ^ i.k%2=1) then (expF a e i.k).1*(expF a e i.k).2%2305843009213693951 else (expF a e i.k).1,(expF a e i.k).2*(expF a e i.k).2%2305843009213693951):=rfl
   generalize hp:expF a e i.k=p at *
   repeat' (first|(refine ae (hc:=hm1) ?_)|(refine ae (hc:=hm2) ?_)|refine gs ?_|(refine gp ?_ ?_<;>intro hx_ this)|fail)
   · have hc:e/2 ^ i.k%2=1:=by
      rw [hb] at hx_
      have:=bA hx_
      omega
     rw [Ze hc,Zg] at hs
     exact ⟨(⟨i.k+1,by omega⟩:Kth (Lib.bitLen e)),(by show Lib.bitLen e-(i.k+1)<Lib.bitLen e-i.k;omega),ai ⟨rfl,by rw [hs];rfl,by rw [hs];rfl,rfl,rfl,trivial⟩ (Zt _) fun _ h=>h⟩
   · have hc:¬ e/2 ^ i.k%2=1:=by
      rw [hb] at hx_
      have:=cw hx_
      omega
     rw [Zd hc,Zf] at hs
     exact ⟨(⟨i.k+1,by omega⟩:Kth (Lib.bitLen e)),(by show Lib.bitLen e-(i.k+1)<Lib.bitLen e-i.k;omega),ai ⟨rfl,by rw [hs];rfl,by rw [hs];rfl,rfl,rfl,trivial⟩ (Zt _) fun _ h=>h⟩
   · have hk:i.k=Lib.bitLen e:=by omega
     apply ab;apply ag;rfl;rfl
     rw [expV,←hk,hp]
end Go.Proofs.YtaolfiikahlmkaaGreatDoor
namespace Go.Proofs.YtaolfiikahlmkaaGreatDoor
open Go Go.Proofs Sy
def IsN (x:Int) (n:Nat):Prop:=x=(n:Int)∧n<4294967296
theorem wrap32 (n:Nat):IntKind.u32.wrap (n:Int)=((n%4294967296:Nat):Int):=by
 simp [IntKind.wrap,IntKind.signed,IntKind.bits]
theorem IsN.xor {x y:Int} {m n:Nat} (h:IsN x m) (k:IsN y n):IsN (bitsV .xor .u32 x y) (m ^^^ n):=by
 obtain ⟨rfl,hm⟩:=h
 obtain ⟨rfl,hn⟩:=k
 have hx:m ^^^ n<2 ^ 32:=Nat.xor_lt_two_pow hm hn
 refine ⟨?_,hx⟩
 show IntKind.u32.wrap ((((BitVec.ofInt 32 (m:Int)) ^^^ (BitVec.ofInt 32 (n:Int))).toNat:Nat):Int)=_
 rw [Qk,Qk,BitVec.toNat_xor,Qn,Qn,ZC (show m<2 ^ 32 from hm),ZC (show n<2 ^ 32 from hn),wrap32,ZC hx]
theorem IsN.and {x y:Int} {m n:Nat} (h:IsN x m) (k:IsN y n):IsN (bitsV .and .u32 x y) (m &&& n):=by
 obtain ⟨rfl,hm⟩:=h
 obtain ⟨rfl,hn⟩:=k
 have hx:m &&& n<2 ^ 32:=Nat.and_lt_two_pow m hn
 refine ⟨?_,hx⟩
 show IntKind.u32.wrap ((((BitVec.ofInt 32 (m:Int)) &&& (BitVec.ofInt 32 (n:Int))).toNat:Nat):Int)=_
 rw [Qk,Qk,BitVec.toNat_and,Qn,Qn,ZC (show m<2 ^ 32 from hm),ZC (show n<2 ^ 32 from hn),wrap32,ZC hx]
theorem IsN.or {x y:Int} {m n:Nat} (h:IsN x m) (k:IsN y n):IsN (bitsV .or .u32 x y) (m ||| n):=by
 obtain ⟨rfl,hm⟩:=h
 obtain ⟨rfl,hn⟩:=k
 have hx:m ||| n<2 ^ 32:=Nat.or_lt_two_pow hm hn
 refine ⟨?_,hx⟩
 show IntKind.u32.wrap ((((BitVec.ofInt 32 (m:Int)) ||| (BitVec.ofInt 32 (n:Int))).toNat:Nat):Int)=_
 rw [Qk,Qk,BitVec.toNat_or,Qn,Qn,ZC (show m<2 ^ 32 from hm),ZC (show n<2 ^ 32 from hn),wrap32,ZC hx]
theorem IsN.add {x y:Int} {m n:Nat} (h:IsN x m) (k:IsN y n):IsN (a32 x y) ((m+n)%4294967296):=by
 obtain ⟨rfl,hm⟩:=h
 obtain ⟨rfl,hn⟩:=k
 refine ⟨?_,Qa _ (by decide)⟩
 show IntKind.u32.wrap ((m:Int)+(n:Int))=_
 rw [←Int.natCast_add,wrap32]
theorem IsN.shl {x:Int} {m:Nat} (h:IsN x m) {c:Int} (p:Nat) (hp:(2:Int) ^ (min c.toNat 32)=(p:Int)):IsN (shlV .u32 x c) (m*p%4294967296):=by
 obtain ⟨rfl,hm⟩:=h
 refine ⟨?_,Qa _ (by decide)⟩
 show IntKind.u32.wrap ((m:Int)*2 ^ (min c.toNat 32))=_
 rw [hp,←Int.natCast_mul,wrap32]
theorem IsN.shr {x:Int} {m:Nat} (h:IsN x m) {c:Int} (p:Nat) (hp:(2:Int) ^ (min c.toNat 32)=(p:Int)):IsN (shrV .u32 x c) (m/p):=by
 obtain ⟨rfl,hm⟩:=h
 refine ⟨?_,Nat.lt_of_le_of_lt (Nat.div_le_self _ _) hm⟩
 show (m:Int).fdiv (2 ^ (min c.toNat 32))=_
 rw [hp,←Int.ofNat_fdiv]
def rot (p q m:Nat):Nat:=(m*p%4294967296) ||| (m/q)
theorem IsN.turn {x:Int} {m:Nat} (h:IsN x m) {r c:Int} (p q:Nat) (hc:bitsV .and .u64 (IntKind.u64.wrap (IntKind.i64.wrap (0-r))) 31=c) (hd:IntKind.u64.wrap (32-c)=r) (hp:(2:Int) ^ (min c.toNat 32)=(p:Int)) (hq:(2:Int) ^ (min r.toNat 32)=(q:Int)) :
  IsN (turnV x r) (rot p q m):=by
 unfold turnV rotlV
 rw [hc,hd]
 exact (h.shl p hp).or (h.shr q hq)
def s0N (m:Nat):Nat:=rot 33554432 128 m ^^^ rot 16384 262144 m ^^^ (m/8)
def s1N (m:Nat):Nat:=rot 32768 131072 m ^^^ rot 8192 524288 m ^^^ (m/1024)
def b1N (m:Nat):Nat:=rot 67108864 64 m ^^^ rot 2097152 2048 m ^^^ rot 128 33554432 m
def b0N (m:Nat):Nat:=rot 1073741824 4 m ^^^ rot 524288 8192 m ^^^ rot 1024 4194304 m
theorem IsN.s0 {x:Int} {m:Nat} (h:IsN x m):IsN (bitsV .xor .u32 (bitsV .xor .u32 (turnV x 7) (turnV x 18)) (shrV .u32 x 3)) (s0N m) :=
 ((h.turn (c:=25) _ _ aj aj aj aj).xor (h.turn (c:=14) _ _ aj aj aj aj)).xor (h.shr 8 aj)
theorem IsN.s1 {x:Int} {m:Nat} (h:IsN x m):IsN (bitsV .xor .u32 (bitsV .xor .u32 (turnV x 17) (turnV x 19)) (shrV .u32 x 10)) (s1N m) :=
 ((h.turn (c:=15) _ _ aj aj aj aj).xor (h.turn (c:=13) _ _ aj aj aj aj)).xor (h.shr 1024 aj)
theorem IsN.b1 {x:Int} {m:Nat} (h:IsN x m):IsN (x32 (x32 (turnV x 6) (turnV x 11)) (turnV x 25)) (b1N m) :=
 ((h.turn (c:=26) _ _ aj aj aj aj).xor (h.turn (c:=21) _ _ aj aj aj aj)).xor (h.turn (c:=7) _ _ aj aj aj aj)
theorem IsN.b0 {x:Int} {m:Nat} (h:IsN x m):IsN (x32 (x32 (turnV x 2) (turnV x 13)) (turnV x 22)) (b0N m) :=
 ((h.turn (c:=30) _ _ aj aj aj aj).xor (h.turn (c:=19) _ _ aj aj aj aj)).xor (h.turn (c:=10) _ _ aj aj aj aj)
def fc {α:Type} (n:Nat) (k:Nat→α):α:=match n with
 | 0=>k 0
 | m+1=>k (Nat.succ m)
theorem oX {α:Type} (n:Nat) (k:Nat→α):fc n k=k n:=by cases n<;>rfl
structure S8 where
 a:Nat
 b:Nat
 c:Nat
 d:Nat
 e:Nat
 f:Nat
 g:Nat
 h:Nat
structure RS (x:St8) (n:S8):Prop where
 a:IsN x.a n.a
 b:IsN x.b n.b
 c:IsN x.c n.c
 d:IsN x.d n.d
 e:IsN x.e n.e
 f:IsN x.f n.f
 g:IsN x.g n.g
 h:IsN x.h n.h
def t1N (h e f g k w:Nat):Nat:=((((h+b1N e)%4294967296+((e &&& f) ^^^ ((4294967295 ^^^ e) &&& g)))%4294967296+k)%4294967296+w)%4294967296
def t2N (a b c:Nat):Nat:=(b0N a+(((a &&& b) ^^^ (a &&& c)) ^^^ (b &&& c)))%4294967296
def roundN (s:S8) (k w:Nat):S8:=match s with
 | ⟨a,b,c,d,e,f,g,h⟩=>fc (t1N h e f g k w) fun t1=>fc ((t1+t2N a b c)%4294967296) fun x=>fc ((d+t1)%4294967296) fun y=>⟨x,a,b,c,y,e,f,g⟩
theorem RS.round {x:St8} {n:S8} (h:RS x n) {k w:Int} {k' w':Nat} (hk:IsN k k') (hw:IsN w w'):RS (roundV x k w) (roundN n k' w'):=by
 obtain ⟨a,b,c,d,e,f,g,hh⟩:=n
 obtain ⟨ha,hb,hc,hd,he,hf,hg,hh⟩:=h
 simp only [roundN,oX]
 have hm:IsN (if IntKind.u32.signed then -1 else IntKind.u32.max) 4294967295:=⟨by kernel_rfl,by decide⟩
 have h1:IsN (t1V x k w) (t1N _ e f g k' w'):=(((hh.add he.b1).add ((he.and hf).xor ((hm.xor he).and hg))).add hk).add hw
 have h2:IsN (t2V x) (t2N a b c):=ha.b0.add (((ha.and hb).xor (ha.and hc)).xor (hb.and hc))
 exact ⟨h1.add h2,ha,hb,hc,hd.add h1,he,hf,hg⟩
structure W16 where
 w0:Nat
 w1:Nat
 w2:Nat
 w3:Nat
 w4:Nat
 w5:Nat
 w6:Nat
 w7:Nat
 w8:Nat
 w9:Nat
 w10:Nat
 w11:Nat
 w12:Nat
 w13:Nat
 w14:Nat
 w15:Nat
def nextW (a b c d:Nat):Nat:=(((a+s0N b)%4294967296+c)%4294967296+s1N d)%4294967296
def W16.next (w:W16):W16:=match w with
 | ⟨a0,a1,a2,a3,a4,a5,a6,a7,a8,a9,a10,a11,a12,a13,a14,a15⟩=>fc (nextW a0 a1 a9 a14) fun x=>⟨a1,a2,a3,a4,a5,a6,a7,a8,a9,a10,a11,a12,a13,a14,a15,x⟩
def sN (f:Nat→Nat):Nat→Nat→Nat
 | 0,t=>f t
 | k+1,t=>if t=16+k then nextW (sN f k k) (sN f k (k+1)) (sN f k (k+9)) (sN f k (k+14)) else sN f k t
def winN (f:Nat→Nat) (t:Nat):W16:=⟨sN f t t,sN f t (t+1),sN f t (t+2),sN f t (t+3),sN f t (t+4),sN f t (t+5),sN f t (t+6),sN f t (t+7),sN f t (t+8),sN f t (t+9),sN f t (t+10),sN f t (t+11),sN f t (t+12),sN f t (t+13),sN f t (t+14),sN f t (t+15)⟩
theorem rD (f:Nat→Nat) {k t:Nat} (h:t≠16+k):sN f (k+1) t=sN f k t:=by rw [sN,ZO h]
theorem vX (f:Nat→Nat) (k:Nat):sN f (k+1) (16+k)=nextW (sN f k k) (sN f k (k+1)) (sN f k (k+9)) (sN f k (k+14)):=by rw [sN,ZN rfl]
theorem jO (f:Nat→Nat) {k t:Nat}:∀ j,t<16+k→sN f (k+j) t=sN f k t
 | 0,_=>rfl
 | j+1,h=>by
  rw [show k+(j+1)=(k+j)+1 from rfl,rD f (by omega)]
  exact jO f j h
theorem W16.next_eq (a0 a1 a2 a3 a4 a5 a6 a7 a8 a9 a10 a11 a12 a13 a14 a15:Nat):W16.next ⟨a0,a1,a2,a3,a4,a5,a6,a7,a8,a9,a10,a11,a12,a13,a14,a15⟩=⟨a1,a2,a3,a4,a5,a6,a7,a8,a9,a10,a11,a12,a13,a14,a15,nextW a0 a1 a9 a14⟩:=by rw [W16.next,oX]
theorem pU (f:Nat→Nat) (t:Nat):(winN f t).next=winN f (t+1):=by
 rw [winN,W16.next_eq,←vX,winN]
 have e:∀ j,j<15→sN f t (t+(j+1))=sN f (t+1) (t+1+j):=fun j hj=>by
  rw [rD f (by omega)];congr 1;omega
 have e15:sN f (t+1) (16+t)=sN f (t+1) (t+1+15):=by congr 1;omega
 rw [W16.mk.injEq]
 exact ⟨e 0 aa,e 1 aa,e 2 aa,e 3 aa,e 4 aa,e 5 aa,e 6 aa,e 7 aa,e 8 aa,e 9 aa,e 10 aa,e 11 aa,e 12 aa,e 13 aa,e 14 aa,e15⟩
theorem qe {s:ByteArray} {f:Nat→Nat} (h:∀ t,t<16→IsN (wordV s t) (f t)):∀ k,k≤48→∀ t,t<16+k→IsN ((w2 s k).getD t 0) (sN f k t)
 | 0,_,t,ht=>by
  have key:∀ i,i≤16→∀ t,t<i→(w1 s i).getD t 0=wordV s t:=fun i=>by
   induction i with
   | zero=>intro _ t ht;omega
   | succ i ih =>
    intro hi t ht
    rw [w1,Zp,List.getElem?_set]
    by_cases e:i=t
    · subst e
      rw [ZN rfl,ZN (by rw [rc];omega)];rfl
    · rw [ZO e,←Zp]
      exact ih aa t aa
  rw [w2,key 16 aa t (by omega)]
  exact h t aa
 | k+1,hk,t,ht=>by
  have ih:=qe h k aa
  rw [w2,Zp,List.getElem?_set]
  by_cases e:16+k=t
  · subst e
    rw [ZN rfl,ZN (by rw [ra];omega),vX]
    have h0:=ih k aa
    have h1:=ih (16+k-15) aa
    have h9:=ih (16+k-7) aa
    have h14:=ih (16+k-2) aa
    rw [show 16+k-15=k+1 by omega] at h1
    rw [show 16+k-7=k+9 by omega] at h9
    rw [show 16+k-2=k+14 by omega] at h14
    have he:early (w2 s k) (16+k)=_:=rfl
    unfold early late
    rw [show 16+k-15=k+1 by omega,show 16+k-7=k+9 by omega,show 16+k-2=k+14 by omega]
    exact ((h0.add h1.s0).add h9).add h14.s1
  · rw [ZO e,←Zp,rD f (by omega)]
    exact ih t aa
def kN:List Nat:=kC.map Int.toNat
def stepN (p:S8×W16) (k:Nat):S8×W16:=match p with
 | (s,w)=>(roundN s k w.w0,w.next)
theorem tq (s:S8) (w:W16) (k:Nat):stepN (s,w) k=(roundN s k w.w0,w.next):=by unfold stepN;rfl
def roundsN (ks:List Nat) (s:S8) (w:W16):S8:=(ks.foldl stepN (s,w)).1
theorem AD {x:St8} {ws:List Int} {f:Nat→Nat} (hw:∀ t,t<64→IsN (ws.getD t 0) (sN f t t)):∀ (n t:Nat) (s:S8),t+n=64→RS (roundsV x ws t) s→RS (roundsV x ws 64) ((kN.drop t).foldl stepN (s,winN f t)).1:=by
 intro n
 have hl:kN.length=64:=by kernel_rfl
 have hk:∀ t,t<64→kC.getD t 0=((kN.getD t 0:Nat):Int)∧kN.getD t 0<4294967296:=by decide +kernel
 induction n with
 | zero =>
  intro t s ht h
  have e:t=64:=by omega
  subst e
  rw [Qu aa,List.foldl_nil]
  exact h
 | succ n ih =>
  intro t s ht h
  have hd:kN.drop t=kN[t]'(by omega)::kN.drop (t+1):=List.drop_eq_getElem_cons aa
  have e2:kN.getD t 0=kN[t]'(by omega):=by rw [Zp,Zc (by omega)];rfl
  have h1:=hk t aa
  rw [e2] at h1
  have hw0:(winN f t).w0=sN f t t:=by unfold winN;rfl
  have hr:roundsV x ws (t+1)=roundV (roundsV x ws t) (kC.getD t 0) (ws.getD t 0):=by rw [roundsV]
  rw [hd,QE,tq,pU,hw0]
  refine ih (t+1) _ aa ?_
  rw [hr]
  exact h.round h1 (hw t aa)
theorem vZ {x:St8} {ws:List Int} {f:Nat→Nat} (hw:∀ t,t<64→IsN (ws.getD t 0) (sN f t t)) {s:S8} (h:RS x s):RS (roundsV x ws 64) (roundsN kN s (winN f 0)):=by
 have h1:=AD (x:=x) hw 64 0 s (ZS _) (by rw [roundsV];exact h)
 rw [List.drop_zero] at h1
 unfold roundsN
 exact h1
def addN (x y:S8):S8:=match x,y with
 | ⟨a,b,c,d,e,f,g,h⟩,⟨a',b',c',d',e',f',g',h'⟩=>fc ((a+a')%4294967296) fun a=>fc ((b+b')%4294967296) fun b=>fc ((c+c')%4294967296) fun c=>fc ((d+d')%4294967296) fun d=>fc ((e+e')%4294967296) fun e=>fc ((f+f')%4294967296) fun f=>fc ((g+g')%4294967296) fun g=>fc ((h+h')%4294967296) fun h=>⟨a,b,c,d,e,f,g,h⟩
def mixN (s:S8) (w:W16):S8:=addN s (roundsN kN s w)
theorem RS.add {x y:St8} {m n:S8} (h:RS x m) (h1:RS y n):RS ⟨a32 x.a y.a,a32 x.b y.b,a32 x.c y.c,a32 x.d y.d,a32 x.e y.e,a32 x.f y.f,a32 x.g y.g,a32 x.h y.h⟩ (addN m n):=by
 obtain ⟨a,b,c,d,e,f,g,hh⟩:=m
 obtain ⟨a',b',c',d',e',f',g',h'⟩:=n
 simp only [addN,oX]
 exact ⟨h.a.add h1.a,h.b.add h1.b,h.c.add h1.c,h.d.add h1.d,h.e.add h1.e,h.f.add h1.f,h.g.add h1.g,h.h.add h1.h⟩
theorem RS.mix {x:St8} {n:S8} (h:RS x n) {s:ByteArray} {f:Nat→Nat} (hs:∀ t,t<16→IsN (wordV s t) (f t)):RS (mixV x s) (mixN n (winN f 0)):=by
 have h1:=vZ (x:=x) (ws:=schedV s) (f:=f) (fun t ht=>by
  have h2:=qe hs 48 aa t aa
  by_cases e:t≤48
  · have h3:=jO f (k:=t) (t:=t) (48-t) aa
    rw [show t+(48-t)=48 by omega] at h3
    rw [schedV]
    rwa [h3] at h2
  · have h3:=jO f (k:=48) (t:=t) (t-48) aa
    rw [show 48+(t-48)=t by omega] at h3
    rw [schedV,h3]
    exact h2) h
 unfold mixV mixN
 generalize roundsV x (schedV s) 64=y at h1 ⊢
 generalize roundsN kN n (winN f 0)=y' at h1 ⊢
 exact h.add h1
def nl (s:ByteArray):List Nat:=s.data.toList.map UInt8.toNat
theorem dj (s:ByteArray):(nl s).length=s.size:=by simp [nl]
theorem AU (a b:ByteArray):nl (a++b)=nl a++nl b:=by simp [nl,ByteArray.data_append]
theorem j5 (s:ByteArray):∀ x∈nl s,x<256:=fun x hx=>by
 obtain ⟨b,_,rfl⟩:=QH.1 hx
 exact b.toNat_lt
theorem jt (s:ByteArray) (a b:Nat):nl (s.extract a b)=((nl s).drop a).take (b-a):=by
 simp [nl,ByteArray.data_extract,Array.toList_extract,List.map_take,List.map_drop]
theorem JH {a b:ByteArray} (h:nl a=nl b):a=b:=by
 apply ByteArray.ext
 apply Array.ext'
 have key:∀ l m:List UInt8,l.map UInt8.toNat=m.map UInt8.toNat→l=m:=fun l=>by
  induction l with
  | nil=>intro m h;cases m with|nil=>rfl|cons _ _=>cases h
  | cons a l ih =>
   intro m h
   cases m with
   | nil=>cases h
   | cons b m =>
    simp only [ZZ,List.cons.injEq] at h
    rw [UInt8.toNat_inj.1 h.1,ih m h.2]
 exact key _ _ h
theorem lD (s:ByteArray):bytesI s=(nl s).map fun (n:Nat)=>(n:Int):=by simp [bytesI,nl,Function.comp_def]
def wdN (a b c d:Nat):Nat:=((a*16777216%4294967296 ||| (b*65536%4294967296)) ||| (c*256%4294967296)) ||| d
def fW (l:List Nat) (t:Nat):Nat:=wdN (l.getD (4*t) 0) (l.getD (4*t+1) 0) (l.getD (4*t+2) 0) (l.getD (4*t+3) 0)
theorem BE (s:ByteArray) (i j:Nat) (hj:j<4):byteAt (s.extract (4*(i:Int)).toNat (4*(i:Int)+4).toNat) j=(((nl s).getD (4*i+j) 0:Nat):Int):=by
 have h1:(4*(i:Int)).toNat=4*i:=by omega
 have h2:(4*(i:Int)+4).toNat=4*i+4:=by omega
 have h0:∀ (e:ByteArray) (k:Nat),byteAt e k=(((nl e).getD k 0:Nat):Int):=fun e k=>by
  simp only [byteAt,nl,Zp,Z5]
  cases e.data.toList[k]?<;>rfl
 rw [h1,h2,h0,jt,show 4*i+4-4*i=4 by omega,Zp,Zp,QF,ZN hj,List.getElem?_drop]
theorem fZ {l:List Nat} (h:∀ x∈l,x<256) (i:Nat):l.getD i 0<256:=by
 rw [Zp]
 cases hx:l[i]? with
 | none=>decide
 | some x=>exact h x (Z4 hx)
theorem F2 (s:ByteArray) (i:Nat):IsN (wordV s i) (fW (nl s) i):=by
 have hb:∀ j,j<4→IsN (IntKind.u32.wrap (byteAt (s.extract (4*(i:Int)).toNat (4*(i:Int)+4).toNat) j)) ((nl s).getD (4*i+j) 0):=fun j hj=>by
  have h:=fZ (j5 s) (4*i+j)
  rw [BE s i j hj,wrap32,ZC (by omega)]
  exact ⟨rfl,by omega⟩
 unfold wordV fW wdN
 exact ((((hb 0 aa).shl 16777216 aj).or ((hb 1 aa).shl 65536 aj)).or ((hb 2 aa).shl 256 aj)).or (hb 3 aa)
def rd1 {α:Type} (z:α) (l:List Nat) (k:Nat→List Nat→α):α:=match l with
 | a::b::c::d::r=>fc (wdN a b c d) fun w=>k w r
 | _=>z
theorem JC {α:Type} {z:α} {l:List Nat} {k:Nat→List Nat→α} (h:4≤l.length):rd1 z l k=k (fW l 0) (l.drop 4):=by
 match l,h with
 | a::b::c::d::r,_=>rw [rd1,oX];rfl
def blkN {α:Type} (z:α) (l:List Nat) (k:W16→List Nat→α):α :=
 rd1 z l fun w0 l=>rd1 z l fun w1 l=>rd1 z l fun w2 l=>rd1 z l fun w3 l=>rd1 z l fun w4 l=>rd1 z l fun w5 l=>rd1 z l fun w6 l=>rd1 z l fun w7 l =>
 rd1 z l fun w8 l=>rd1 z l fun w9 l=>rd1 z l fun w10 l=>rd1 z l fun w11 l=>rd1 z l fun w12 l=>rd1 z l fun w13 l=>rd1 z l fun w14 l=>rd1 z l fun w15 l =>
 k ⟨w0,w1,w2,w3,w4,w5,w6,w7,w8,w9,w10,w11,w12,w13,w14,w15⟩ l
theorem Ia (l:List Nat) (m t:Nat):fW (l.drop (4*m)) t=fW l (m+t):=by
 have e:∀ j,(l.drop (4*m)).getD (4*t+j) 0=l.getD (4*(m+t)+j) 0:=fun j=>by
  rw [Zp,Zp,List.getElem?_drop,show 4*m+(4*t+j)=4*(m+t)+j by omega]
 have e0:=e 0
 simp only [ZR] at e0
 rw [fW,fW,e0,e 1,e 2,e 3]
theorem Io {α:Type} {z:α} {l:List Nat} {k:W16→List Nat→α} (h:64≤l.length):blkN z l k=k (winN (fW l) 0) (l.drop 64):=by
 have st:∀ (m:Nat) (k':Nat→List Nat→α),m<16→rd1 z (l.drop (4*m)) k'=k' (fW l m) (l.drop (4*(m+1))):=fun m k' hm=>by
  rw [JC (by rw [Qp];omega),Ia,List.drop_drop]
  rfl
 have h0:l=l.drop (4*0):=rfl
 unfold blkN
 rw [h0,st 0 _ aa,st 1 _ aa,st 2 _ aa,st 3 _ aa,st 4 _ aa,st 5 _ aa,st 6 _ aa,st 7 _ aa,st 8 _ aa,st 9 _ aa,st 10 _ aa,st 11 _ aa,st 12 _ aa,st 13 _ aa,st 14 _ aa,st 15 _ (by omega)]
 rfl
def runN:Nat→S8→List Nat→S8
 | 0,x,_=>x
 | f+1,x,l=>blkN x l fun w r=>runN f (mixN x w) r
theorem gD {f:Nat} {x:S8} {l:List Nat} (h:64≤l.length):runN (f+1) x l=runN f (mixN x (winN (fW l) 0)) (l.drop 64):=Io h
theorem yJ {l:List Nat} (t:Nat) (h:t<16):fW (l.take 64) t=fW l t:=by
 have e:∀ j,j<64→(l.take 64).getD j 0=l.getD j 0:=fun j hj=>by
  rw [Zp,Zp,QF,ZN hj]
 rw [fW,fW,e _ aa,e _ aa,e _ aa,e _ (by omega)]
theorem RS.blk {x:St8} {n:S8} (h:RS x n) (r:ByteArray) (hr:64≤r.size):RS (mixV x (r.extract 0 64)) (mixN n (winN (fW (nl r)) 0)) :=
 h.mix fun t ht=>by
  have h1:=F2 (r.extract 0 64) t
  rw [jt,List.drop_zero] at h1
  rwa [yJ t ht] at h1
theorem rV (r:ByteArray):nl (r.extract 64 r.size)=(nl r).drop 64:=by
 rw [jt,Qd (by rw [Qp,dj];omega)]
theorem p9 (r:ByteArray) (h:64≤r.size):(r.extract 64 r.size).size=r.size-64:=by
 rw [←dj,rV,Qp,dj]
theorem qz:∀ (f:Nat) (x:St8) (n:S8) (r:ByteArray),RS x n→r.size/64≤f→RS (loopV f x r).1 (runN (r.size/64) n (nl r))∧nl (loopV f x r).2=(nl r).drop (64*(r.size/64))
 | 0,x,n,r,h,hf=>by
  have e:r.size/64=0:=by omega
  rw [e]
  exact ⟨h,rfl⟩
 | f+1,x,n,r,h,hf=>by
  by_cases hr:64≤r.size
  · have e:r.size/64=(r.size-64)/64+1:=by omega
    have hs:=p9 r hr
    have ih:=qz f (mixV x (r.extract 0 64)) _ (r.extract 64 r.size) (h.blk r hr) (by rw [hs];omega)
    rw [hs,rV] at ih
    have e2:loopV (f+1) x r=loopV f (mixV x (r.extract 0 64)) (r.extract 64 r.size):=by rw [loopV,Ze aa,Zg]
    rw [e2,e,gD (by rw [dj];omega)]
    refine ⟨ih.1,?_⟩
    rw [ih.2,List.drop_drop]
    congr 1
    omega
  · have e:r.size/64=0:=by omega
    have e2:loopV (f+1) x r=(x,r):=by rw [loopV,Zd aa,Zf]
    rw [e,e2]
    exact ⟨h,rfl⟩
theorem qA:∀ (f:Nat) (x:St8) (n:S8) (r:ByteArray),RS x n→r.size%64=0→r.size/64≤f→RS (loopE f x r) (runN (r.size/64) n (nl r))
 | 0,x,n,r,h,_,hf=>by
  have e:r.size/64=0:=by omega
  rw [e]
  exact h
 | f+1,x,n,r,h,hm,hf=>by
  by_cases hr:r.size=0
  · have e:r.size/64=0:=by omega
    have e2:loopE (f+1) x r=x:=by rw [loopE,dv,Ze hr,Zg]
    rw [e,e2]
    exact h
  · have hs:=p9 r aa
    have e:r.size/64=(r.size-64)/64+1:=by omega
    have ih:=qA f (mixV x (r.extract 0 64)) _ (r.extract 64 r.size) (h.blk r aa) (by rw [hs];omega) (by rw [hs];omega)
    rw [hs,rV] at ih
    have e2:loopE (f+1) x r=loopE f (mixV x (r.extract 0 64)) (r.extract 64 r.size):=by rw [loopE,dv,Zd hr,Zf]
    rw [e2,e,gD (by rw [dj];omega)]
    exact ih
theorem mY {f g:Nat→Nat} (h:∀ t,t<16→f t=g t):winN f 0=winN g 0:=by
 have e:∀ t,t<16→sN f 0 t=sN g 0 t:=fun t ht=>by rw [sN,sN];exact h t ht
 rw [winN,winN,W16.mk.injEq]
 exact ⟨e 0 aa,e 1 aa,e 2 aa,e 3 aa,e 4 aa,e 5 aa,e 6 aa,e 7 aa,e 8 aa,e 9 aa,e 10 aa,e 11 aa,e 12 aa,e 13 aa,e 14 aa,e 15 aa⟩
theorem Bp {l e:List Nat} (h:64≤l.length) (t:Nat) (ht:t<16):fW (l++e) t=fW l t:=by
 have k:∀ j,j<64→(l++e).getD j 0=l.getD j 0:=fun j hj=>by
  rw [Zp,Zp,ZF (by omega)]
 rw [fW,fW,k _ aa,k _ aa,k _ aa,k _ (by omega)]
theorem lO (h:Nat) (e:List Nat):∀ (g:Nat) (x:S8) (l:List Nat),64*g≤l.length→runN (g+h) x (l++e)=runN h (runN g x l) (l.drop (64*g)++e)
 | 0,x,l,_=>by
  rw [ZS,Nat.mul_zero,List.drop_zero,runN]
 | g+1,x,l,hl=>by
  have ih:=lO h e g (mixN x (winN (fW l) 0)) (l.drop 64) (by rw [Qp];omega)
  rw [show g+1+h=(g+h)+1 by omega,gD (by rw [Zz];omega),mY (fun t ht=>Bp aa t ht),List.drop_append_of_le_length aa,ih,gD aa,List.drop_drop]
  congr 3
  omega
def sizeN (n:Nat):List Nat:=[n*8/72057594037927936%256,n*8/281474976710656%256,n*8/1099511627776%256,n*8/4294967296%256,n*8/16777216%256,n*8/65536%256,n*8/256%256,n*8%256]
def padL (l:List Nat):List Nat:=l++(128::(List.replicate (padN (l.length+1)) 0++sizeN l.length))
def iniN:S8:=⟨1779033703,3144134277,1013904242,2773480762,1359893119,2600822924,528734635,1541459225⟩
def d4N (w:Nat):List Nat:=[w/16777216%256,w/65536%256,w/256%256,w%256]
def digN (s:S8):List Nat:=match s with
 | ⟨a,b,c,d,e,f,g,h⟩=>d4N a++(d4N b++(d4N c++(d4N d++(d4N e++(d4N f++(d4N g++d4N h))))))
def shaL (l:List Nat):List Nat:=digN (runN ((padL l).length/64) iniN (padL l))
theorem wrap8 (n:Nat):IntKind.u8.wrap (n:Int)=((n%256:Nat):Int):=by
 simp [IntKind.wrap,IntKind.signed,IntKind.bits]
theorem lf (ns:List Nat) (h:∀ x∈ns,x<256):nl (ofInts (ns.map fun (n:Nat)=>(n:Int)))=ns:=by
 have key:∀ (ns:List Nat) (r:ByteArray),(∀ x∈ns,x<256)→nl ((ns.map fun (n:Nat)=>(n:Int)).foldl (fun r n=>r.push (UInt8.ofNat n.toNat)) r)=nl r++ns:=fun ns=>by
  induction ns with
  | nil=>intro r _;simp
  | cons a ns ih =>
   intro r h
   rw [ZZ,QE,ih _ fun x hx=>h x (Zu _ hx)]
   have ha:=h a ao
   have:nl (r.push (UInt8.ofNat ((a:Int)).toNat))=nl r++[a]:=by
    simp [nl,ByteArray.data_push,ZC ha]
   rw [this,ZB]
   rfl
 have:=key ns ByteArray.empty h
 simpa [ofInts,nl] using this
theorem f0 {x:Int} {n:Nat} (h:IsN x n):digB x=(d4N n).map fun (n:Nat)=>(n:Int):=by
 have h24:=(h.shr (c:=24) 16777216 aj).1
 have h16:=(h.shr (c:=16) 65536 aj).1
 have h8:=(h.shr (c:=8) 256 aj).1
 unfold digB d4N
 rw [h24,h16,h8,h.1,wrap8,wrap8,wrap8,wrap8]
 rfl
theorem Kq (n:Nat):∀ x∈d4N n,x<256:=fun x hx=>by
 simp only [d4N,ZH,Qi,or_false] at hx
 rcases hx with rfl|rfl|rfl|rfl<;>exact Qa _ (by decide)
theorem J2 {x:St8} {n:S8} (h:RS x n):nl (ofInts (x.l.flatMap digB))=digN n:=by
 obtain ⟨a,b,c,d,e,f,g,hh⟩:=n
 have e1:x.l.flatMap digB=(digN ⟨a,b,c,d,e,f,g,hh⟩).map fun (n:Nat)=>(n:Int):=by
  simp only [St8.l,digN,List.flatMap_cons,List.flatMap_nil,ZI,ZU,f0 h.a,f0 h.b,f0 h.c,f0 h.d,f0 h.e,f0 h.f,f0 h.g,f0 h.h]
 rw [e1]
 refine lf _ fun x hx=>?_
 simp only [digN,Qw] at hx
 rcases hx with h|h|h|h|h|h|h|h<;>exact Kq _ _ h
theorem tu (n:Nat) (hn:n<2305843009213693952):sizeB (n:Int) 8=(sizeN n).map fun (n:Nat)=>(n:Int):=by
 have hw:∀ m:Nat,m<18446744073709551616→IntKind.u64.wrap (m:Int)=(m:Int):=fun m hm=>by
  simp [IntKind.wrap,IntKind.signed,IntKind.bits]
  omega
 have h1:IntKind.u64.wrap (IntKind.u64.wrap (n:Int)*8)=((n*8:Nat):Int):=by
  rw [hw n aa,show (n:Int)*8=((n*8:Nat):Int) by omega,hw _ (by omega)]
 have hs:∀ (c:Int) (p:Nat),(2:Int) ^ (min c.toNat 64)=(p:Int)→shrV .u64 ((n*8:Nat):Int) c=((n*8/p:Nat):Int):=fun c p hp=>by
  show ((n*8:Nat):Int).fdiv (2 ^ (min c.toNat 64))=_
  rw [hp,←Int.ofNat_fdiv]
 unfold sizeB sizeN
 rw [h1,show List.range 8=[0,1,2,3,4,5,6,7] by rfl]
 simp only [ZZ,List.map_nil]
 rw [hs _ 72057594037927936 aj,hs _ 281474976710656 aj,hs _ 1099511627776 aj,hs _ 4294967296 aj,hs _ 16777216 aj,hs _ 65536 aj,hs _ 256 aj,hs _ 1 aj,Nat.div_one]
 simp only [wrap8]
theorem J1 (s:ByteArray) (n:Nat) (hn:n<2305843009213693952):nl (endV s (n:Int))=nl s++(128::(List.replicate (padN (s.size+1)) 0++sizeN n)):=by
 have e:endL s++List.replicate (padN (s.size+1)) 0++sizeB (n:Int) 8=(nl s++(128::(List.replicate (padN (s.size+1)) 0++sizeN n))).map fun (n:Nat)=>(n:Int):=by
  rw [endL,lD,tu n hn]
  simp
 rw [endV,e]
 refine lf _ fun x hx=>?_
 simp only [Qw,ZH,List.mem_replicate] at hx
 rcases hx with h|h|h|h
 · exact j5 s x h
 · omega
 · omega
 · simp only [sizeN,ZH,Qi,or_false] at h
   rcases h with rfl|rfl|rfl|rfl|rfl|rfl|rfl|rfl<;>exact Qa _ (by decide)
theorem Jo (s:ByteArray) (hs:s.size<2305843009213693952):nl (shaV s)=shaL (nl s):=by
 have hi:RS iniS iniN:=⟨⟨rfl,by decide⟩,⟨rfl,by decide⟩,⟨rfl,by decide⟩,⟨rfl,by decide⟩,⟨rfl,by decide⟩,⟨rfl,by decide⟩,⟨rfl,by decide⟩,⟨rfl,by decide⟩⟩
 obtain ⟨h1,h2⟩:=qz s.size iniS iniN s hi (Nat.div_le_self _ _)
 have h3:shaV s=ofInts ((loopE (endV (loopV s.size iniS s).2 s.size).size (loopV s.size iniS s).1 (endV (loopV s.size iniS s).2 s.size)).l.flatMap digB):=rfl
 rw [h3]
 generalize loopV s.size iniS s=p at h1 h2
 have he:=J1 p.2 s.size hs
 have hps:p.2.size=s.size%64:=by
  rw [←dj,h2,Qp,dj]
  omega
 have hlen:(endV p.2 s.size).size%64=0:=qN _ _
 have h4:=qA (endV p.2 s.size).size p.1 _ (endV p.2 s.size) h1 hlen (Nat.div_le_self _ _)
 rw [J2 h4,shaL]
 congr 1
 have hpad:padN (p.2.size+1)=padN ((nl s).length+1):=by
  rw [hps,dj,padN,padN]
  omega
 have hpl:padL (nl s)=nl s++(128::(List.replicate (padN ((nl s).length+1)) 0++sizeN s.size)):=by rw [padL,dj]
 have hll:(padL (nl s)).length/64=s.size/64+(endV p.2 s.size).size/64:=by
  have e1:(endV p.2 s.size).size=(s.size%64)+1+padN ((nl s).length+1)+8:=by
   rw [←dj,he,h2,hpad]
   simp only [Zz,ZA,List.length_replicate,Qp,dj,sizeN,ZQ]
   omega
  have e2:(padL (nl s)).length=s.size+1+padN ((nl s).length+1)+8:=by
   rw [hpl]
   simp only [Zz,ZA,List.length_replicate,dj,sizeN,ZQ]
   omega
  rw [e1,e2]
  rw [e1] at hlen
  omega
 rw [hll,hpl,lO _ _ _ _ _ (by rw [dj];omega),he,h2,hpad]
end Go.Proofs.YtaolfiikahlmkaaGreatDoor
namespace Go.Proofs.YtaolfiikahlmkaaGreatDoor.Sy
open Go Go.RowKit
theorem Xq.later {av bor:List Nat} {w0 w w':World} {loc:List Xl} {X:World→Prop} (G:Xq av bor w0 loc X w) (hB:Below w.heap.size w w'):Xq av bor w0 loc X w' :=
 (Xq.more (r:=⟨[],fun _=>True⟩) G hB (fun _ _=>trivial) List.nodup_nil (fun i hi=>by cases hi)).drop (List.sublist_cons_self _ _)
section
variable {P:Program} {N:Nat} {av bor:List Nat} {w0:World} {ops:Array Oper} {rest:List Oper} {k:St→Prop} {E:Env} {loc:List Xl} {X:World→Prop}
variable {ty:TypeId} {pos:String} {af:Array Edge} {g:Option (Nat×Bool)} {bb want:Bool}
theorem nT {n:Nat} {x:Operand} {xs:List Operand} {ats:Array TypeId} {f:FuncId} {args:List Value} {X1:World→Prop} {v:Value} (h:Sw P N av bor w0 ops rest ⟨(n,v)::E,loc,X⟩ k) (hx:ev E x=some (.func (.func f) #[] #[]):=by rfl) (ha:evs E xs=some args:=by rfl) (hg:gdB ops E g=some (bb,want):=by rfl) (hb:bb=want:=by exact aw) (hd:Nat.blt n N=true:=by rfl) (hf:Xv P f:=by first|infer_instance|exact ⟨aj⟩) (hc:Pu P f args.toArray X1 v) (hX:∀ w,X w→(∀ r∈loc,r.F w)→X1 w) :
  Sw P N av bor w0 ops (⟨some n,.call ⟨.value x,xs.toArray,ats⟩,ty,pos,af,g⟩::rest) ⟨E,loc,X⟩ k:=Sw.mk fun a w ok=>by
 have hd':inB N (some n)=true:=by have h1:n<N:=Zw hd;simpa [inB] using h1
 simp only [wpList]
 rw [bC ok (o:=⟨some n,.call ⟨.value x,xs.toArray,ats⟩,ty,pos,af,g⟩) hg]
 subst hb
 simp only [Zy,ZM]
 left
 unfold Oper.wp
 have hr:(execOp a.eval ⟨some n,.call ⟨.value x,xs.toArray,ats⟩,ty,pos,af,g⟩).run P w=.ok (.enter f args.toArray) w:=by
  have e:=gK ok xs args ha
  have e1:xs.toArray.map a.eval=args.toArray:=by rw [List.map_toArray,e]
  simp only [execOp,resolve,ok.eval (st:=⟨E,loc,X⟩) hx,Deferred.ofValue,invoke,e1]
  simp only [Sem.run_bind,Sem.run_pure,Result.andThen_ok]
  have e2:(#[]:Array Value)++args.toArray++#[]=args.toArray:=by simp
  rw [e2]
  exact kW _ w
 rw [hr]
 have G1:=ok.gam.giveAll
 have G0:=(Xq.start (pre:=[]) (fr:=[]) G1).imp (fun w h=>hX w h.1 h.2)
 unfold Pu at hc
 refine (Ct.run hc w _ G0).mono fun e w' ⟨u,R,X',he,⟨hu,hR⟩,G'⟩=>?_
 subst he
 subst hu
 have ok':Ok N av bor w0 ⟨E,loc,X⟩ a w':=ok.via fun M G=>Xq.later G G'.fr.below
 exact h.run _ _ (cV (some n) _▸ok'.put hd' _)
end
end Go.Proofs.YtaolfiikahlmkaaGreatDoor.Sy
namespace Go.Proofs.YtaolfiikahlmkaaGreatDoor
open Go Go.Proofs Sy Go.Shelf Go.RowKit Tryz
def numF (l:List Nat):Nat→Nat
 | 0=>0
 | k+1=>numF l k*256+l.getD k 0
def numN (l:List Nat):Nat:=numF l 8/8
theorem j4 (s:ByteArray):∀ k,numF (nl s) k<256 ^ k
 | 0=>by simp [numF]
 | k+1=>by
  have h1:=j4 s k
  have h2:=fZ (j5 s) k
  rw [numF,Nat.pow_succ]
  omega
theorem numF7 (s:ByteArray) {k:Nat} (hk:k<8):numF (nl s) k<72057594037927936:=by
 have h1:=j4 s k
 have h2:256 ^ k≤256 ^ 7:=Nat.pow_le_pow_right (by decide) aa
 have h3:(256:Nat) ^ 7=72057594037927936:=by decide
 omega
theorem numF8 (s:ByteArray) {k:Nat} (hk:k<8):numF (nl s) k*256<18446744073709551616:=by
 have h1:=j4 s k
 have h2:256 ^ k≤256 ^ 7:=Nat.pow_le_pow_right (by decide) aa
 have h3:(256:Nat) ^ 7=72057594037927936:=by decide
 omega
theorem shl8 (x:Nat) (h:x*256<18446744073709551616):shlV .u64 (x:Int) 8=((x*256:Nat):Int):=by
 show IntKind.u64.wrap ((x:Int)*2 ^ (min (8:Int).toNat 64))=_
 rw [show ((2:Int) ^ (min (8:Int).toNat 64))=256 from by kernel_rfl,cT _ (by omega)]
 omega
theorem or8 (x b:Nat) (hb:b<256) (h:x<72057594037927936):bitsV .or .u64 ((x*256:Nat):Int) (b:Int)=((x*256+b:Nat):Int):=by
 have hx:x*256+b<18446744073709551616:=by omega
 have hy:x*256<18446744073709551616:=Nat.lt_of_le_of_lt (Nat.le_add_right _ _) hx
 have hz:b<18446744073709551616:=by omega
 have hw:IntKind.u64.wrap ((x*256+b:Nat):Int)=((x*256+b:Nat):Int):=cT _ aa
 have e:x*256 ||| b=x*256+b:=by
  have:=Nat.shiftLeft_add_eq_or_of_lt (a:=x) (b:=b) (i:=8) hb
  rw [Nat.shiftLeft_eq] at this
  exact this.symm
 show IntKind.u64.wrap ((((BitVec.ofInt 64 ((x*256:Nat):Int)) ||| (BitVec.ofInt 64 (b:Int))).toNat:Nat):Int)=_
 rw [Qk,Qk,BitVec.toNat_or,Qn,Qn,ZC (show x*256<2 ^ 64 from hy),ZC (show b<2 ^ 64 from hz),e,hw]
theorem shr3 (x:Nat):shrV .u64 (x:Int) 3=((x/8:Nat):Int):=by
 show (x:Int).fdiv (2 ^ (min (3:Int).toNat 64))=_
 rw [show ((2:Int) ^ (min (3:Int).toNat 64))=((8:Nat):Int) from by kernel_rfl,←Int.ofNat_fdiv]
theorem su (s:ByteArray) (k:Nat) (hk:k<s.size):byteAt s k=(((nl s).getD k 0:Nat):Int):=by
 simp only [byteAt,nl,Zp,Z5]
 have hl:k<s.data.toList.length:=by simpa using hk
 rw [Zc hl]
 rfl
theorem Ad (s:ByteArray):Pu prog 222 #[.string s] (fun _=>True) (.int .i64 (numN (nl s):Nat)):=by
 refine ax func222 ntmps222 fun av bor w0=>?_
 repeat' (first|refine gs ?_|fail)
 refine aq (ι:=Kth 8) (fun i=>⟨[(0,.string s),(3,.int .u64 (numF (nl s) i.k:Nat)),(5,.int .i64 i.k)],[],fun _=>True⟩) (fun i=>8-i.k) ⟨0,Z2 _⟩ (ai am (ak _) fun _ h=>h) fun i=>?_
 have hik:=i.hk
 repeat' (first|refine gs ?_|(refine gp ?_ ?_<;>intro hx_ this)|fail)
 · have hlt:i.k<8:=by omega
   have hs:i.k<s.size:=by omega
   have hb:=fZ (j5 s) i.k
   have hE:bitsV .or .u64 (shlV .u64 ((numF (nl s) i.k:Nat):Int) 8) (IntKind.u64.wrap (byteAt s (i.k:Int).toNat))=((numF (nl s) (i.k+1):Nat):Int):=by
    rw [shl8 _ (numF8 s hlt),show ((i.k:Int)).toNat=i.k from rfl,su s _ hs,cT _ aa,or8 _ _ hb (numF7 s hlt)]
    rfl
   exact ⟨⟨i.k+1,hlt⟩,(by show 8-(i.k+1)<8-i.k;omega),ai ⟨rfl,congrArg (fun z=>some (Value.int IntKind.u64 z)) hE,rfl,trivial⟩ (ak _) fun _ h=>h⟩
 · have hlt:i.k<8:=by omega
   have hs:s.size≤i.k:=by omega
   have hE:shlV .u64 ((numF (nl s) i.k:Nat):Int) 8=((numF (nl s) (i.k+1):Nat):Int):=by
    rw [shl8 _ (numF8 s hlt),numF,Zp,List.getElem?_eq_none (by rw [dj];exact hs),Option.getD_none,ZR]
   exact ⟨⟨i.k+1,hlt⟩,(by show 8-(i.k+1)<8-i.k;omega),ai ⟨rfl,congrArg (fun z=>some (Value.int IntKind.u64 z)) hE,rfl,trivial⟩ (ak _) fun _ h=>h⟩
 · have h8:i.k=8:=by omega
   apply ab;apply ag;rfl;rfl
   have hl:=j4 s 8
   have hp:(256:Nat) ^ 8=18446744073709551616:=by decide
   rw [h8,shr3,IntWalk.i64_in _ (by omega)]
   rfl
theorem Hw (s:ByteArray):numN (nl s)<2305843009213693952:=by
 have hl:=j4 s 8
 have hp:(256:Nat) ^ 8=18446744073709551616:=by decide
 rw [numN]
 omega
def catB (l:List ByteArray):ByteArray:=l.foldr (fun a b=>a++b) ⟨#[]⟩
theorem EB:∀ l:List ByteArray,nl (catB l)=l.flatMap nl
 | []=>rfl
 | a::l=>by
  show nl (a++catB l)=_
  rw [AU,EB l,List.flatMap_cons]
def PartsAt (b T:Nat) (xs:List ByteArray) (w:World):Prop:=w.heap[b]?=some (.cells (xs.map Value.string).toArray T (0,0))
theorem uj {P:Program} {f:FuncId} {args:Array Value} {X:World→Prop} {v:Value} (h:∀ w,X w→Calls P f args w fun e w'=>e=.returned v∧Below w.heap.size w w'):Pu P f args X v:=by
 unfold Pu
 exact Ct.mk fun w av G=>(h w G.keep.now).mono fun e w' ⟨he,hw⟩=>⟨v,[],X,he,⟨rfl,rfl⟩,Xq.later G hw⟩
theorem joinX:Builder.Extra prog Tryz.join_ren where
 sizeBuilder:=by kernel_rfl
 liesBuilder:=by kernel_rfl
 t5:=by kernel_rfl
 a5:=fun w=>by simp [isAgg,run_underlying (show prog.underlying (Tryz.join_ren.t 5)=some (.int .u8) from by kernel_rfl)]
 z5:=fun w=>Sy.run_sizeOf (P:=prog) (t:=Tryz.join_ren.t 5) (n:=1) aj w
 v5:=fun w=>dQ (show zeroOf prog (Tryz.join_ren.t 5)=some (.int .u8 0) from by kernel_rfl) w
 infoByte:=by kernel_rfl
 cellsByte:=by kernel_rfl
 sizeByte:=by kernel_rfl
 neB5:=by decide
theorem A8 (l:List (List UInt8)):Lib.join l []=l.flatten:=by
 rw [Lib.join,List.intercalate]
 induction l with
 | nil=>rfl
 | cons a l ih =>
  cases l with
  | nil=>simp
  | cons b l=>simpa using ih
theorem Fv (xs:List ByteArray):(⟨(Lib.join (xs.map (·.data.toList)) (⟨#[]⟩:ByteArray).data.toList).toArray⟩:ByteArray)=catB xs:=by
 have e:(⟨#[]⟩:ByteArray).data.toList=[]:=rfl
 rw [e,A8]
 apply JH
 rw [EB]
 simp [nl,List.map_flatten,List.flatMap_def,Function.comp_def]
 rfl
theorem qT (xs:List ByteArray):(catB xs).size=(xs.map ByteArray.size).sum:=by
 induction xs with
 | nil=>rfl
 | cons a l ih =>
  show (a++catB l).size=_
  rw [Zb,ih,ZZ,List.sum_cons]
theorem HK (b T c:Nat) (xs:List ByteArray) (hc:xs.length≤c) (hn:xs.length≤1000) (hs:(catB xs).size≤1099511627776):Pu prog 223 #[.slice (some ⟨b,0,none⟩) xs.length c,.string ⟨#[]⟩] (PartsAt b T xs) (.string (catB xs)) :=
 uj fun w h=>by
  have hcell:∀ (j:Nat) x,xs[j]?=some x→w.cell? ⟨b,0+j,none⟩=some (.string x):=fun j x hj=>by
   simp [World.cell?,show w.heap[b]?=_ from h,hj]
  have hl:(Lib.join (xs.map (·.data.toList)) (⟨#[]⟩:ByteArray).data.toList).length=(catB xs).size:=by
   rw [←Fv xs]
   simp [ByteArray.size]
  have:=Any.strings_Join Tryz.join joinX b 0 c xs ⟨#[]⟩ w hcell (QJ.1 h).1 aa hc (by rw [hl];omega)
  rw [Fv xs] at this
  exact this
theorem rZ (b T c:Nat) (xs:List ByteArray) (hc:xs.length≤c) (hn:xs.length≤1000) (hs:(catB xs).size≤1099511627776) :
  Pu prog 134 #[.slice (some ⟨b,0,none⟩) xs.length c] (fun w=>PartsAt b T xs w∧Xe w) (.int .i64 (numN (nl (shaV (catB xs))):Nat)):=by
 refine ax func134 ntmps134 fun av bor w0=>?_
 repeat' (first|(refine ae (hc:=HK b T c xs hc hn hs) ?_)|(refine ae (hc:=rC (catB xs) hs) ?_)|refine ae (hc:=Ad (shaV (catB xs))) ?_|refine gs ?_|fail)
 apply ab;apply ag;rfl;rfl
 rfl
end Go.Proofs.YtaolfiikahlmkaaGreatDoor
namespace Go.Proofs.YtaolfiikahlmkaaGreatDoor
open Go Go.Proofs Sy Tryz
def hashN (xs:List ByteArray):Nat:=numN (nl (shaV (catB xs)))
theorem EZ (xs:List ByteArray):hashN xs<2305843009213693952:=Hw _
def reduceN (h:Nat):Nat:=1+h%2305843009213693949
theorem wi (h:Nat):reduceN h≤2305843009213693949:=by
 have:=Qa h (show 2305843009213693949>0 by decide)
 unfold reduceN
 omega
theorem AG (h:Nat) (hh:h<2305843009213693952):Pu prog 133 #[.int .i64 (h:Int)] (fun _=>True) (.int .i64 (reduceN h:Nat)):=by
 refine ax func133 ntmps133 fun av bor w0=>?_
 repeat' (first|refine fw (c:=((h%2305843009213693949:Nat):Int)) (hc:=(Int.ofNat_tmod h 2305843009213693949).symm) (hb:=by decide) ?_|refine gs ?_|fail)
 apply ab;apply ag;rfl;rfl
 rfl
def chalP (r p:Nat) (msg:ByteArray):List ByteArray:=[textV ⟨#[115,105,103,110]⟩,numV (r:Int),numV (p:Int),textV msg]
def chalN (r p:Nat) (msg:ByteArray):Nat:=hashN (chalP r p msg)%2305843009213693950
theorem Fu (r p:Nat) (msg:ByteArray):chalN r p msg<2305843009213693950:=Qa _ (by decide)
theorem yS (r p:Nat) (msg:ByteArray) (hr:r<9223372036854775808) (hp:p<9223372036854775808) (hm:msg.size≤1000000000000) :
  Pu prog 135 #[.int .i64 (r:Int),.int .i64 (p:Int),.string msg] Xe (.int .i64 (chalN r p msg:Nat)):=by
 refine ax func135 ntmps135 fun av bor w0=>?_
 have hsz:(catB (chalP r p msg)).size≤1099511627776:=by
  have h1:=aC ⟨#[115,105,103,110]⟩
  have h2:=ar (r:Int)
  have h3:=ar (p:Int)
  have h4:=aC msg
  have h5:(⟨#[115,105,103,110]⟩:ByteArray).size=4:=rfl
  rw [qT]
  simp only [chalP,ZZ,List.map_nil,List.sum_cons,List.sum_nil]
  omega
 repeat' (first|refine fw (c:=((chalN r p msg:Nat):Int)) (hc:=(Int.ofNat_tmod (hashN (chalP r p msg)) 2305843009213693950).symm) (hb:=by decide) ?_|refine ae (hc:=fy _ (by first|omega|decide)) ?_|refine ae (hc:=fb _ aa) ?_|(refine nT (hc:=rZ _ 9 4 (chalP r p msg) (show 4≤4 by decide) (show 4≤1000 by decide) hsz) (hX:=fun w h hr=>⟨hr _ ao,h⟩) ?_)|refine gs ?_|refine gs1 fun _=>?_|fail)
 apply ab;apply ag;rfl;rfl
 rfl
structure Ed where
 s:Int
 p:Int
def Ed.cells (k:Ed):List Value:=[.int .i64 k.s,.int .i64 k.p]
def Ed.v (k:Ed):Value:=.agg k.cells.toArray
def Ed.zero:Ed:=⟨0,0⟩
theorem yL (a e:Nat):∀ i,(expF a e i).1<2305843009213693951
 | 0=>by show 1<2305843009213693951;decide
 | i+1=>by
  have ih:=yL a e i
  show (bif decide (e/2 ^ i%2=1) then (expF a e i).1*(expF a e i).2%2305843009213693951 else (expF a e i).1)<_
  cases decide (e/2 ^ i%2=1) with
  | true=>exact Qa _ (by decide)
  | false=>exact ih
theorem yK (a e:Nat):expV a e<2305843009213693951:=yL a e _
def ofK (s:Int):Ed:=bif decide (s<1)||decide (2305843009213693949<s) then Ed.zero else ⟨s,(expV 37 s.toNat:Nat)⟩
theorem wz {s:Int} (h1:1≤s) (h2:s≤2305843009213693949):ofK s=⟨s,(expV 37 s.toNat:Nat)⟩:=by
 rw [ofK,Zd aa,Zd (by omega)]
 rfl
theorem yq {s:Int} (h:s<1∨2305843009213693949<s):ofK s=Ed.zero:=by
 rw [ofK]
 rcases h with h|h
 · rw [Ze h];rfl
 · rw [Ze h,Bool.or_true];rfl
theorem Am (s:Int):Pu prog 132 #[.int .i64 s] (fun _=>True) (ofK s).v:=by
 refine ax func132 ntmps132 fun av bor w0=>?_
 by_cases h:s<1∨2305843009213693949<s
 · rw [yq h]
   repeat' (first|refine gs ?_|refine gs1 fun _=>?_|(refine aG (cs:=Ed.zero.cells) (hf:=by rfl) ?_)|(refine gp ?_ ?_<;>intro hx_ this)|fail)
   all_goals first
    | (exfalso;omega)
    | exact ab (bV rfl rfl aM (by rfl)) rfl
 · have h1:1≤s:=by omega
   have h2:s≤2305843009213693949:=by omega
   obtain ⟨n,rfl⟩:=Int.eq_ofNat_of_zero_le (show 0≤s by omega)
   rw [wz h1 h2]
   have he:=r5 37 n aa
   repeat' (first|(refine ae (hc:=he) (hX:=fun w h=>trivial) ?_)|refine gs ?_|refine gs1 fun _=>?_|(refine aG (cs:=Ed.cells ⟨(n:Int),(expV 37 n:Nat)⟩) (hf:=by rfl) ?_)|(refine gp ?_ ?_<;>intro hx_ this)|fail)
   all_goals first
    | (exfalso;omega)
    | exact ab (bV rfl rfl aM (by rfl)) rfl
def eqKy (a b:Ed):Bool:=decide (a.s=b.s)&&decide (a.p=b.p)
theorem Fg {a b:Ed}:eqKy a b=true↔a=b:=by
 cases a;cases b
 simp only [eqKy,Zq,Zv,Ed.mk.injEq]
theorem gV (w:World) {cs:Array Value} {off:Nat} {v:Value} (h:cs[off]?=some v):(part 3 cs off).run prog w=.ok v w:=by
 simp [part,isAgg,run_underlying underlying3,h]
theorem u9 (w:World) (d:Nat) (a b:Int):(Op.equalIn (d+1) 3 (.int .i64 a) (.int .i64 b)).run prog w=.ok (decide (a=b)) w:=by
 rw [run_equalIn_int w d _ .i64 .i64 a b underlying3]
 rfl
theorem Dx (w:World) (d:Nat) (a b:Ed):(Op.equalIn (d+2) 27 a.v b.v).run prog w=.ok (eqKy a b) w:=by
 have p0:∀ x:Ed,(part 3 x.cells.toArray 0).run prog w=.ok (.int .i64 x.s) w:=fun x=>gV w rfl
 have p1:∀ x:Ed,(part 3 x.cells.toArray 1).run prog w=.ok (.int .i64 x.p) w:=fun x=>gV w rfl
 unfold Ed.v
 rw [run_equalIn_agg _ _ _ _ _ aj aj]
 simp only [Program.fieldsOf,underlying27]
 simp [Op.eqFields,p0,p1,u9]
 unfold eqKy
 by_cases h1:a.s=b.s<;>by_cases h2:a.p=b.p<;>simp [h1,h2]
section
variable {N:Nat} {av bor:List Nat} {w0:World} {x y:Operand} {t2:TypeId} {ty:TypeId} {st:St}
theorem IY (a b:Ed) (hx:ev st.env x=some a.v) (hy:ev st.env y=some b.v):Sy.Yields prog N av bor w0 st (.binOp .eql 27 x y t2) ty (.bool (eqKy a b)):=Sy.Yields.mk fun A w ok d pos af g=>by
 have h1:=run_eqGuard_agg (P:=prog) w .eql 27 x y a.cells.toArray b.cells.toArray aj
 have h2:=run_eql_struct (P:=prog) w 27 a.cells.toArray b.cells.toArray
 have h3:=Dx w 9998 a b
 simp only [Ed.v] at hx hy h3
 simp [execOp,ok.eval hx,ok.eval hy,h1,h2,h3]
end
def rightK (k:Ed):Bool:=decide (1≤k.s)&&eqKy k (ofK k.s)
theorem jN (k:Ed):Pu prog 76 #[k.v] (fun _=>True) (.bool (rightK k)):=by
 refine ax func76 ntmps76 fun av bor w0=>?_
 repeat' (first|refine gs ?_|refine gs1 fun _=>?_|fail)
 rename_i b
 (refine ap ⟨[0,1,2,3,4,5,6],[(7,⟨[8,9,10],[]⟩)]⟩ [cel b 27 k.cells] (fun _=>True) (h:=?_))
 all_goals repeat' (first|refine ae (hc:=Am k.s) ?_|refine gd ?_|refine ay (hy:=by (apply IY k (ofK k.s);rfl;rfl)) ?_|refine az ?_ (h':=?_)|exact aA|(refine gq ?_ ?_<;>intro hx_ this)|fail)
 all_goals
  repeat' (first|refine gs ?_|fail)
  apply ab;apply ag;rfl;rfl
  rw [rightK,hx_]
  rfl
theorem rightK_iff {k:Ed}:rightK k=true↔1≤k.s∧k.s≤2305843009213693949∧k.p=(expV 37 k.s.toNat:Nat):=by
 rw [rightK,Zq,Zv,Fg]
 constructor
 · rintro ⟨h1,h2⟩
   have h3:k.s≤2305843009213693949:=by
    by_cases h:2305843009213693949<k.s
    · rw [yq (.inr h)] at h2
      rw [h2] at h1
      exact absurd h1 (by decide)
    · omega
   refine ⟨h1,h3,?_⟩
   rw [wz h1 h3] at h2
   rw [h2]
 · rintro ⟨h1,h2,h3⟩
   exact ⟨h1,by rw [wz h1 h2,←h3]⟩
def nonceP (s:Int) (msg:ByteArray):List ByteArray:=[textV ⟨#[110,111,110,99,101]⟩,numV s,textV msg]
def nonceN (s:Int) (msg:ByteArray):Nat:=reduceN (hashN (nonceP s msg))
structure Eo where
 e:Int
 s:Int
def Eo.cells (k:Eo):List Value:=[.int .i64 k.e,.int .i64 k.s]
def Eo.v (k:Eo):Value:=.agg k.cells.toArray
def Eo.zero:Eo:=⟨0,0⟩
def sigE (k:Ed) (msg:ByteArray):Nat:=chalN (expV 37 (nonceN k.s msg)) k.p.toNat msg
def sigS (k:Ed) (msg:ByteArray):Nat:=(nonceN k.s msg+sigE k msg*k.s.toNat%2305843009213693950)%2305843009213693950
def signV (k:Ed) (msg:ByteArray):Eo:=bif rightK k then ⟨(sigE k msg:Nat),(sigS k msg:Nat)⟩ else Eo.zero
theorem GS (k:Ed) (msg:ByteArray) (hm:msg.size≤1000000000000):Pu prog 77 #[k.v,.string msg] Xe (signV k msg).v:=by
 refine ax func77 ntmps77 fun av bor w0=>?_
 have hrk:=jN k
 cases hk:rightK k with
 | false =>
  rw [hk] at hrk
  rw [show signV k msg=Eo.zero from by rw [signV,hk];rfl]
  repeat' (first|(refine ae (hc:=hrk) ?_)|refine gs ?_|refine gs1 fun _=>?_|(refine aG (cs:=Eo.zero.cells) (hf:=by rfl) ?_)|fail)
  exact ab (bV rfl rfl aM (by rfl)) rfl
 | true =>
  rw [hk] at hrk
  rw [show signV k msg=⟨(sigE k msg:Nat),(sigS k msg:Nat)⟩ from by rw [signV,hk];rfl]
  obtain ⟨h1,h2,h3⟩:=rightK_iff.1 hk
  obtain ⟨s,p⟩:=k
  obtain ⟨n,rfl⟩:=Int.eq_ofNat_of_zero_le (show 0≤s by show 0≤s;have:1≤s:=h1;omega)
  have h3':p=(expV 37 n:Nat):=h3
  subst h3'
  have h2':(n:Int)≤2305843009213693949:=h2
  have hp:=yK 37 n
  have hsz:(catB (nonceP (n:Int) msg)).size≤1099511627776:=by
   have e1:=aC ⟨#[110,111,110,99,101]⟩
   have e2:=ar (n:Int)
   have e4:=aC msg
   have e5:(⟨#[110,111,110,99,101]⟩:ByteArray).size=5:=rfl
   rw [qT]
   simp only [nonceP,ZZ,List.map_nil,List.sum_cons,List.sum_nil]
   omega
  have hno:nonceN (n:Int) msg<9223372036854775808:=by have:=wi (hashN (nonceP (n:Int) msg));unfold nonceN;omega
  have hha:=rZ (T:=9) (c:=3) (xs:=nonceP (n:Int) msg)
  have hex:=r5 37 (nonceN (n:Int) msg) hno
  have hch:=yS (expV 37 (nonceN (n:Int) msg)) (expV 37 n) msg (by have:=yK 37 (nonceN (n:Int) msg);omega) aa hm
  repeat' (first|(refine ae (hc:=hrk) ?_)|refine gs ?_|refine gs1 fun _=>?_|fail)
  rename_i b2 b4
  (refine ap ⟨[1,2,4],[(0,⟨[],[(3,⟨[],[(5,⟨[],[(6,⟨[],[(7,⟨[],[(8,⟨[9],[]⟩)]⟩)]⟩)]⟩)]⟩)]⟩)]⟩ [cel b4 44 Eo.zero.cells,cel b2 27 (Ed.mk (n:Int) (expV 37 n:Nat)).cells] Xe (h:=?_))
  all_goals repeat' (first|refine ae (hc:=fy _ (by first|omega|decide)) ?_|refine ae (hc:=fb _ aa) ?_|(refine nT (hc:=rZ _ 9 3 (nonceP (n:Int) msg) (show 3≤3 by decide) (show 3≤1000 by decide) hsz) (hX:=fun w h hr=>⟨hr _ ao,h⟩) ?_)|refine ae (hc:=AG (hashN (nonceP (n:Int) msg)) (EZ _)) ?_|refine gd ?_|refine az ?_ (h':=?_)|exact aA|(refine eC fun _=>?_)|fail)
  repeat' (first|refine gs ?_|fail)
  (refine ap ⟨[0,2,3,4],[(1,⟨[],[(5,⟨[6],[]⟩)]⟩)]⟩ [cel b4 44 Eo.zero.cells,cel b2 27 (Ed.mk (n:Int) (expV 37 n:Nat)).cells] Xe (h:=?_))
  all_goals repeat' (first|(refine ae (hc:=hex) ?_)|(refine ae (hc:=hch) ?_)|refine gd ?_|refine az ?_ (h':=?_)|exact aA|fail)
  have hm1:=Iu (sigE ⟨(n:Int),(expV 37 n:Nat)⟩ msg) n
  have hm2:=Iv (nonceN (n:Int) msg) (sigE ⟨(n:Int),(expV 37 n:Nat)⟩ msg*n%2305843009213693950)
  repeat' (first|(refine ae (hc:=hm1) ?_)|(refine ae (hc:=hm2) ?_)|refine gs ?_|(refine aG (cs:=Eo.cells ⟨(sigE ⟨(n:Int),(expV 37 n:Nat)⟩ msg:Nat),(sigS ⟨(n:Int),(expV 37 n:Nat)⟩ msg:Nat)⟩) (hf:=by rfl) ?_)|fail)
  exact ab (bV rfl rfl aM (by rfl)) rfl
def keyP (seed:ByteArray):List ByteArray:=[textV ⟨#[107,101,121]⟩,textV seed]
def keyN (seed:ByteArray):Nat:=reduceN (hashN (keyP seed))
def keyOf (seed:ByteArray):Ed:=⟨(keyN seed:Nat),(expV 37 (keyN seed):Nat)⟩
def hexDg:ByteArray:=⟨#[48,49,50,51,52,53,54,55,56,57,97,98,99,100,101,102]⟩
def hexB (s:ByteArray) (i:Nat):List Int:=[byteAt hexDg (shrV .u8 (byteAt s i) 4).toNat,byteAt hexDg (bitsV .and .u8 (byteAt s i) 15).toNat]
def hexF (s:ByteArray) (n:Nat):List Int:=(List.range n).flatMap (hexB s)
def hexV (s:ByteArray):ByteArray:=ofInts (hexF s s.size)
theorem qI (s:ByteArray) (n:Nat):hexF s (n+1)=hexF s n++hexB s n:=by
 rw [hexF,List.range_succ,QO]
 simp [hexF]
theorem Hx:∀ b:Nat,b<256→(0≤shrV .u8 (b:Int) 4∧shrV .u8 (b:Int) 4<16)∧(0≤bitsV .and .u8 (b:Int) 15∧bitsV .and .u8 (b:Int) 15<16):=by decide +kernel
theorem BF (s:ByteArray) (i:Nat):∃ b:Nat,b<256∧byteAt s i=(b:Int):=⟨(s.data.toList.getD i 0).toNat,UInt8.toNat_lt _,rfl⟩
def hexN (d:Nat):Nat:=if d<10 then 48+d else 87+d
def hexL (l:List Nat):List Nat:=l.flatMap fun b=>[hexN (b/16),hexN (b%16)]
theorem HO:∀ b:Nat,b<256→byteAt hexDg (shrV .u8 (b:Int) 4).toNat=(hexN (b/16):Nat)∧byteAt hexDg (bitsV .and .u8 (b:Int) 15).toNat=(hexN (b%16):Nat):=by decide +kernel
structure HexI where
 k:Nat
 hk:k≤32
 A:Option Addr
 c:Nat
theorem JQ (s:ByteArray) (hs:s.size=32):Pu prog 111 #[.string s] (fun _=>True) (.string (hexV s)):=by
 refine ax func111 ntmps111 fun av bor w0=>?_
 repeat' (first|refine gm (c:=64) (hc:=by rw [hs];rfl) (h:=?_)|refine gs ?_|(refine iQ (c:=64) (hm:=rfl) (hm2:=rfl) fun q=>?_)|fail)
 refine aq (ι:=HexI) (fun i=>⟨[(0,.string s),(3,.slice i.A (2*i.k) i.c),(10,.int .i64 s.size),(11,.int .i64 i.k)],[orow 5 1 (.slice i.A (2*i.k) i.c) (2*i.k) (u8s (hexF s i.k))],fun _=>True⟩) (fun i=>32-i.k) ⟨0,Z2 _,_,_⟩
  (ai am (ak _) fun _ h=>h) fun i=>?_
 have hik:=i.hk
 repeat' (first|refine gs ?_|(refine gp ?_ ?_<;>intro hx_ this)|fail)
 · have hlt:i.k<32:=by omega
   obtain ⟨b,hb,hbe⟩:=BF s i.k
   obtain ⟨⟨n1,n2⟩,n3,n4⟩:=Hx b hb
   rw [←hbe] at n1 n2 n3 n4
   (refine ap ⟨[0,1,2,3,4,5,6,7,8,9,10],[(11,⟨[],[(12,⟨[13],[]⟩)]⟩)]⟩ [] (fun _=>True) (h:=?_))
   all_goals repeat' (first|refine gd ?_|refine ay (hy:=by (apply vu;rfl;rfl;(first|omega|assumption);(first|omega|assumption))) ?_|refine az ?_ (h':=?_)|exact aA|refine eC (len:=2) (vs:=u8s (hexB s i.k)) fun _=>?_|(refine jv ?_;refine aL (size:=1) (z:=.int .u8 0) (news:=u8s (hexB s i.k)) (q:=2) rfl rfl rfl rfl (fun _=>At.there _ (At.here _)) (fun w G=>bN G ao rfl rfl 2) aa (by simp only [maxLen];omega) rfl ?_ rfl ?_;(with_reducible rfl);intro A2 c2)|fail)
   rw [←cd,←qI]
   repeat' (first|refine gs ?_|fail)
   exact ⟨⟨i.k+1,hlt,A2,c2⟩,(by show 32-(i.k+1)<32-i.k;omega),ai am (List.sublist_cons_self _ _) fun _ h=>h⟩
 · have hk:i.k=s.size:=by omega
   repeat' (first|refine gs ?_|(refine eS (ns:=hexF s i.k) (hm:=by exact aM) ?_)|fail)
   apply ab;apply ag;rfl;rfl
   rw [hk]
   rfl
theorem yD (d:Nat) (h:d<16):hexN d<256:=by
 unfold hexN
 split<;>omega
theorem HP {l:List Nat} (h:∀ x∈l,x<256):∀ x∈hexL l,x<256:=fun x hx=>by
 rw [hexL,List.mem_flatMap] at hx
 obtain ⟨b,hb,hx⟩:=hx
 have hb':=h b hb
 rcases ZH.1 hx with rfl|hx
 · exact yD _ aa
 · rw [Z3] at hx
   subst hx
   exact yD _ (Qa _ (by decide))
theorem yE (s:ByteArray):∀ n,n≤s.size→hexF s n=(hexL ((nl s).take n)).map fun (n:Nat)=>(n:Int)
 | 0,_=>rfl
 | n+1,h=>by
  have hn:n<(nl s).length:=by rw [dj];omega
  have hb:=fZ (j5 s) n
  have he:(nl s)[n]=(nl s).getD n 0:=by rw [Zp,Zc hn];rfl
  rw [qI,yE s n aa,List.take_succ_eq_append_getElem hn,hexL,hexL,QO,ZU]
  congr 1
  obtain ⟨h1,h2⟩:=HO _ hb
  rw [hexB,su s n aa,h1,h2,he]
  rfl
theorem Bd (s:ByteArray):(hexV s).size=2*s.size:=by
 rw [←dj,hexV,yE s s.size (ZV _),Qd (by rw [dj];exact ZV _),lf _ (HP (j5 s)),hexL]
 rw [←dj]
 generalize nl s=l
 induction l with
 | nil=>rfl
 | cons a l ih=>rw [List.flatMap_cons,Zz,ih];simp only [ZA,ZQ];omega
def idText (p:Int):ByteArray:=textV ⟨#[97,99,116,111,114]⟩++numV p
def idV (p:Int):ByteArray:=(hexV (shaV (idText p))).extract 0 16
theorem jz (p:Int) (hp:p<9223372036854775808):Pu prog 63 #[.int .i64 p] Xe (.string (idV p)):=by
 refine ax func63 ntmps63 fun av bor w0=>?_
 have h1:=aC ⟨#[97,99,116,111,114]⟩
 have h2:=ar p
 have h5:(⟨#[97,99,116,111,114]⟩:ByteArray).size=5:=rfl
 have hsz:(idText p).size≤1099511627776:=by rw [idText,Zb];omega
 have hhx:=Bd (shaV (idText p))
 rw [kT] at hhx
 repeat' (first|refine ae (hc:=fy _ aa) ?_|refine ae (hc:=fb _ hp) ?_|(refine ae (hc:=rC (idText p) hsz) ?_)|(refine ae (hc:=JQ (shaV (idText p)) (kT _)) ?_)|refine gs ?_|(refine nP ?_)|(refine GE (h1:=by omega) ?_)|fail)
 apply ab;apply ag;rfl;rfl
 rfl
def Xa.sig (a:Xa) (g:Eo):Xa:={ a with e:=g.e,s:=g.s }
def actSignV (k:Ed) (a:Xa):Xa:=bif rightB (a.sig Eo.zero)&&rightK k then a.sig (signV k (coreV (a.sig Eo.zero))) else Xa.zero
theorem xZ {a:Xa} (h:a.Rng) {g:Eo} (h1:g.e<9223372036854775808) (h2:g.s<9223372036854775808):(a.sig g).Rng:=by
 obtain ⟨⟨i1,i2,i3,i4,i5,i6,i7,i8,i9⟩,h2',h3,h4⟩:=h
 exact ⟨⟨i1,i2,i3,i4,i5,i6,i7,h1,h2⟩,h2',h3,h4⟩
theorem qc (k:Ed) (msg:ByteArray):(signV k msg).e<9223372036854775808∧(signV k msg).s<9223372036854775808:=by
 rw [signV]
 cases rightK k with
 | false=>exact ⟨(show (0:Int)<9223372036854775808 by decide),(show (0:Int)<9223372036854775808 by decide)⟩
 | true =>
  have h1:=Fu (expV 37 (nonceN k.s msg)) k.p.toNat msg
  have h2:=Qa (nonceN k.s msg+sigE k msg*k.s.toNat%2305843009213693950) (show 2305843009213693950>0 by decide)
  refine ⟨?_,?_⟩
  · show ((sigE k msg:Nat):Int)<_
    unfold sigE
    omega
  · show ((sigS k msg:Nat):Int)<_
    unfold sigS
    omega
def ActTo (b:Xa) (u:Value) (X:World→Prop):Prop:=∃ s1 s2:Xk,u=(b.re s1 s2).v∧s1.n=b.to.n∧s2.n=b.wraps.n∧∀ w,X w→(b.re s1 s2).at_ w
set_option maxRecDepth 20000 in
theorem xj (k:Ed) (a:Xa) (hr:a.Rng) (hs:a.Sm):Mk prog 36 #[k.v,a.v] (fun w=>a.at_ w∧Xe w) (ActTo (actSignV k a)):=by
 refine dm func36 ntmps36 fun av bor w0=>?_
 have hr0:(a.sig Eo.zero).Rng:=xZ hr (by decide) (by decide)
 have hri:=dX (a.sig Eo.zero)
 have hrk:=jN k
 cases hb:rightB (a.sig Eo.zero) with
 | false =>
  rw [hb] at hri
  rw [show actSignV k a=Xa.zero from by rw [actSignV,hb];rfl]
  repeat' (first|(refine ae (hc:=hri) ?_)|refine gs ?_|refine gs1 fun _=>?_|(refine aG (cs:=Eo.zero.cells) (hf:=by rfl) ?_)|(refine dP (a.sig Eo.zero).cells (h:=?_))|(refine aG (cs:=Xa.zero.cells) (hf:=by rfl) ?_)|fail)
  refine ab (bV rfl rfl aM (by rfl)) ⟨⟨none,0,0⟩,⟨none,0,0⟩,rfl,rfl,rfl,fun w _=>⟨bz w 1,bz w 5⟩⟩
 | true =>
  rw [hb] at hri
  cases hk:rightK k with
  | false =>
   rw [hk] at hrk
   rw [show actSignV k a=Xa.zero from by rw [actSignV,hb,hk];rfl]
   repeat' (first|(refine ae (hc:=hri) ?_)|(refine ae (hc:=hrk) ?_)|refine gs ?_|refine gs1 fun _=>?_|(refine aG (cs:=Eo.zero.cells) (hf:=by rfl) ?_)|(refine dP (a.sig Eo.zero).cells (h:=?_))|(refine aG (cs:=Xa.zero.cells) (hf:=by rfl) ?_)|fail)
   refine ab (bV rfl rfl aM (by rfl)) ⟨⟨none,0,0⟩,⟨none,0,0⟩,rfl,rfl,rfl,fun w _=>⟨bz w 1,bz w 5⟩⟩
  | true =>
   rw [hk] at hrk
   rw [show actSignV k a=a.sig (signV k (coreV (a.sig Eo.zero))) from by rw [actSignV,hb,hk];rfl]
   have hco:=se (a.sig Eo.zero) (fun h=>df hr0 h)
   rw [hb] at hco
   have hcs:=fV (df hr0 hb)
   have hsi:=GS k (coreV (a.sig Eo.zero)) aa
   generalize hg:signV k (coreV (a.sig Eo.zero))=g at *
   repeat' (first|(refine ae (hc:=hri) ?_)|(refine ae (hc:=hrk) ?_)|refine gs ?_|refine gs1 fun _=>?_|(refine aG (cs:=Eo.zero.cells) (hf:=by rfl) ?_)|(refine dP (a.sig Eo.zero).cells (h:=?_))|fail)
   rename_i b2 b3 b4
   (refine ap ⟨[0],[(1,⟨[],[(2,⟨[],[(3,⟨[4],[(5,⟨[],[]⟩)]⟩)]⟩)]⟩)]⟩ [cel b2 27 k.cells] (fun w=>a.at_ w∧Xe w) (h:=?_))
   all_goals repeat' (first|(refine ae (hc:=hco) ?_)|(refine ae (hc:=hsi) ?_)|refine gd ?_|refine az ?_ (h':=?_)|exact aA|(refine dP (a.sig g).cells (h:=?_))|fail)
   repeat' (first|refine gs ?_|fail)
   refine bF (hc:=iZ a.to (strs a.toL) hs.to (fun cs hcs=>by simp only [strs,QH] at hcs;obtain ⟨x,_,rfl⟩:=hcs;rfl)) (hX:=fun w h=>h.1.1) fun v1 X1 h1=>?_
   obtain ⟨s1,rfl,hn1,hw1⟩:=h1
   repeat' (first|refine gs ?_|fail)
   refine bF (hc:=lB a.wraps (a.wrapsL.map Xy.cells) hs.wraps (fun cs hcs=>by simp only [QH] at hcs;obtain ⟨x,_,rfl⟩:=hcs;rfl)) (hX:=fun w h=>h.1.1.2) fun v2 X2 h2=>?_
   obtain ⟨s2,rfl,hn2,hw2⟩:=h2
   repeat' (first|refine gs ?_|fail)
   refine ab (bV rfl rfl aM (by rfl)) ⟨s1,s2,rfl,?_,?_,fun w h=>⟨hw1 w h.1.1.2,hw2 w h.1.2⟩⟩
   · show s1.n=a.to.n
     rw [hn1,hr.to_len]
     simp [strs]
   · show s2.n=a.wraps.n
     rw [hn2,hr.wraps_len]
     simp
def postK (k:Int):Bool:=decide (k=1)||decide (k=2)||decide (k=3)
theorem oo (k:Int):Pu prog 108 #[.int .i64 k] (fun _=>True) (.bool (postK k)):=by
 refine ax func108 ntmps108 fun av bor w0=>?_
 repeat' (first|refine gs ?_|(refine gp ?_ ?_<;>intro hx_ this)|fail)
 all_goals
  apply ab;apply ag;rfl;rfl
  simp only [postK, *,Za,Zg,Zf]
theorem hasS_iff {l:List ByteArray} {x:ByteArray}:hasS l x=true↔x∈l:=by
 rw [hasS,List.any_eq_true]
 constructor
 · rintro ⟨y,hy,h⟩
   rw [seqB_iff.1 h];exact hy
 · intro h
   exact ⟨x,h,bP x⟩
theorem hasS_false {l:List ByteArray} {x:ByteArray}:hasS l x=false↔x∉l:=by
 rw [←ZD,hasS_iff]
def ChBox (c:Xb) (b:Nat) (w:World):Prop:=w.heap[b]?=some (.cells c.cells.toArray 35 (0,0))
theorem ChBox.cell {c:Xb} {b:Nat} {w:World} (h:ChBox c b w):∀ j v,c.cells[j]?=some v→w.cell? ⟨b,j,none⟩=some v:=fun j v hj=>by
 simp [World.cell?,show w.heap[b]?=_ from h,hj]
end Go.Proofs.YtaolfiikahlmkaaGreatDoor
