/- Joined. -/
import Derived.Test.YtamfbppnlomgfaaGreatDoorG3
import Derived.Shelf.Bits.Mul64
import Derived.Shelf.Strconv.Itoa0
import Derived.Shelf.Strings.OnBuilder
import Derived.Shelf.Slices.CompactS
import Derived.Lib.RowBridge
set_option linter.unusedVariables false
set_option linter.unusedSimpArgs false
set_option maxHeartbeats 16000000
namespace Go.Proofs.YtamfbppnlomgfaaGreatDoor
open Go Go.Proofs Sy Go.Shelf Tryz
theorem iO {P:Program} {f:FuncId} {args:Array Value} {X:World→Prop} {v:Value} (h:∀ w,Calls P f args w fun e w'=>e=.returned v∧w'=w):Pu P f args X v:=by
 unfold Pu
 exact Ct.mk fun w av G=>(h w).mono fun e w' ⟨he,hw⟩=>⟨v,[],X,he,⟨rfl,rfl⟩,by subst hw;exact G⟩
theorem lL (x:Nat) (hx:x<18446744073709551616):Pu prog 54 #[.int .u64 (x:Int)] (fun _=>True) (.int .i64 (Lib.bitLen x)) :=
 iO fun w=>by
  have h:=Any.bits_Len64 Tryz.len64 (x:Int) w ab ab
  rw [ZP] at h
  exact h
theorem lG (x y:Nat) (hx:x<18446744073709551616) (hy:y<18446744073709551616):Pu prog 143 #[.int .u64 (x:Int),.int .u64 (y:Int)] (fun _=>True) (.tuple #[.int .u64 ((x*y/18446744073709551616:Nat):Int),.int .u64 ((x*y%18446744073709551616:Nat):Int)]) :=
 iO fun w=>Any.bits_Mul64 Tryz.mul64 x y hx hy w
theorem nU (d:Nat) (hd:d=8∨d=16):Pu prog 208 #[.int .u64 ((2305843009213693952-d/8:Nat):Int)] (fun _=>True) (.int .i64 3):=by
 refine ax func208 ntmps208 fun av bor w0=>?_
 have h:=lL (2305843009213693952-d/8) ab
 have e:Lib.bitLen (2305843009213693952-d/8)=61:=by rcases hd with rfl|rfl<;>kernel_rfl
 rw [e] at h
 repeat' (first|(refine ae (hc:=h) ?_)|refine gs ?_|(refine gp ?_ ?_<;>intro hx_ this)|fail)
 apply aa;apply ai;rfl;rfl
 rfl
namespace Sy
section
variable {P:Program} {N:Nat} {av bor:List Nat} {w0:World} {st:St} {K:Exit→St→Prop}
theorem me {ι:Type} {id:Nat} (M:ι→St) {x y:Code} (h1:Cw P N av bor w0 x st (blk id (thn (fun s=>∃ i,∀ a w,Ok N av bor w0 s a w→Ok N av bor w0 (M i) a w) K))) (h2:∀ i,Cw P N av bor w0 y (M i) K) :
  Cw P N av bor w0 x st (blk id (thn (fun s=>Cw P N av bor w0 y s K) K)):=ou (fun e s h=>by
 cases e with
 | normal =>
  obtain ⟨i,hi⟩:=h
  exact md hi (h2 i)
 | exit id' =>
  by_cases e:id'=id
  · simp only [blk,ZG e] at h ⊢
    obtain ⟨i,hi⟩:=h
    exact md hi (h2 i)
  · simp only [blk,ZH e] at h ⊢
    exact h
 | _=>exact h) h1
end
end Sy
theorem br (x:Int) (h:0≤x∧x<18446744073709551616):IntKind.u64.wrap x=x:=by
 rw [IntKind.wrap_u64]
 omega
theorem ql (x:Int):IntKind.u64.wrap x=x%18446744073709551616:=IntKind.wrap_u64 x
def Eqq (a b:Int):Prop:=a=b
def Hid (p:Prop):Prop:=p
theorem ny (a b c:Int):IntKind.u64.wrap (IntKind.u64.wrap (IntKind.u64.wrap a+b)-IntKind.u64.wrap c)=(a+b-c)%18446744073709551616:=by
 simp only [ql]
 omega
theorem m9 {V M Q z:Nat} (h:V=M*Q+z) (hz:z<M):V/M=Q∧V%M=z:=by
 subst h
 exact ⟨by rw [Nat.mul_add_div ab,Nat.div_eq_of_lt hz,ZK],by rw [Nat.mul_add_mod,Zz hz]⟩
theorem and32 (a:Nat) (ha:a<18446744073709551616):bitsV .and .u64 (a:Int) 4294967295=((a%4294967296:Nat):Int):=by
 show IntKind.u64.wrap ((((BitVec.ofInt 64 (a:Int)) &&& (BitVec.ofInt 64 4294967295)).toNat:Nat):Int)=_
 have e:(BitVec.ofInt 64 4294967295).toNat=4294967295:=by decide
 rw [BitVec.toNat_and,e,Qa,Qd,Zz (show a<2 ^ 64 from ha),show (4294967295:Nat)=2 ^ 32-1 by decide,Nat.and_two_pow_sub_one_eq_mod,br _ (by omega)]
theorem shl3 (a:Nat):shlV .u64 (a:Int) 3=((a*8%18446744073709551616:Nat):Int):=by
 show IntKind.u64.wrap ((a:Int)*2 ^ (min (3:Int).toNat 64))=_
 rw [show (2:Int) ^ (min (3:Int).toNat 64)=8 by kernel_rfl,ql]
 omega
theorem qz (a:Nat) {c:Int} (p:Nat) (hp:(2:Int) ^ (min c.toNat 64)=(p:Int)):shrV .u64 (a:Int) c=((a/p:Nat):Int):=by
 show (a:Int).fdiv (2 ^ (min c.toNat 64))=_
 rw [hp,←Int.ofNat_fdiv]
theorem or3 (a b:Nat) (ha:a<2305843009213693952) (hb:b<8):bitsV .or .u64 ((a*8:Nat):Int) (b:Int)=((a*8+b:Nat):Int):=by
 show IntKind.u64.wrap ((((BitVec.ofInt 64 ((a*8:Nat):Int)) ||| (BitVec.ofInt 64 (b:Int))).toNat:Nat):Int)=_
 rw [Qa,Qa,BitVec.toNat_or,Qd,Qd,Zz (show a*8<2 ^ 64 by omega),Zz (show b<2 ^ 64 by omega)]
 have e:a*8 ||| b=a*8+b:=by
  have h:=Nat.shiftLeft_add_eq_or_of_lt (i:=3) (b:=b) hb a
  rw [Nat.shiftLeft_eq] at h
  exact h.symm
 rw [e,br _ (by omega)]
theorem qL (a b:Nat) (ha:a<18446744073709551616) (hb:0<b):IntKind.u64.wrap ((a:Int).tdiv (b:Int))=((a/b:Nat):Int):=by
 have h:(a:Int).tdiv (b:Int)=((a/b:Nat):Int):=by rw [Int.natCast_ediv,Qe (by omega)]
 have:=Nat.div_le_self a b
 rw [h]
 generalize a/b=c at *
 rw [br _ (by omega)]
theorem nF (a b:Nat):(a:Int).tmod (b:Int)=((a%b:Nat):Int):=by rw [Int.natCast_emod,Int.tmod_eq_emod_of_nonneg (by omega)]
theorem oq {Y Y0 u v:Nat} (hY:Y=4294967295*4294967296+Y0) (hv:v<4294967296):u*4294967296+v<(u/4294967295+1)*Y :=
 Nat.lt_of_lt_of_le (show u*4294967296+v<(u/4294967295+1)*18446744069414584320 by omega) (Nat.mul_le_mul_left _ ab)
theorem ot {Y Y0 u v p r:Nat} (hY:Y=4294967295*4294967296+Y0) (isum:(p+1)*4294967295+r=u) (hu:u<Y) (hv:v<4294967296) (h:4294967296≤p+1∨4294967296*r+v<(p+1)*Y0):u*4294967296+v<(p+1)*Y:=by
 rcases h with h|h
 · exact Nat.lt_of_lt_of_le (show u*4294967296+v<4294967296*Y by omega) (Nat.mul_le_mul_right Y h)
 · have e:(p+1)*Y=(p+1)*4294967295*4294967296+(p+1)*Y0:=by rw [hY,Nat.mul_assoc,←Nat.mul_add]
   rw [e,←isum,Qp,ZB]
   exact Nat.add_lt_add_left (by rw [Nat.mul_comm r];exact h) _
theorem oo {Y Y0 u v p r:Nat} (hY:Y=4294967295*4294967296+Y0) (h0:Y0<4294967289) (isum:(p+1)*4294967295+r=u) (hr:4294967296≤r+4294967295) (itop:p+1≤4294967297):p*Y≤u*4294967296+v:=by
 have e:p*Y=p*4294967295*4294967296+p*Y0:=by rw [hY,Nat.mul_assoc,←Nat.mul_add]
 have h1:p*Y0≤4294967296*4294967296:=Nat.mul_le_mul ab ab
 have hu':u=p*4294967295+(r+4294967295):=by
  rw [←isum,Nat.succ_mul,ZB,Nat.add_comm 4294967295 r]
 rw [hu',Qp,e,ZB]
 exact Nat.add_le_add_left (ZO h1 (ZO (Nat.mul_le_mul_right 4294967296 hr) (Nat.le_add_right _ _))) _
theorem l8 {q Y0:Nat} (h:q≤4294967297) (h0:Y0<4294967289):(0:Int)≤(q:Int)*(Y0:Int)∧(q:Int)*(Y0:Int)<18446744073709551616∧(1≤q∨(q:Int)*(Y0:Int)=0):=by
 have:=Nat.mul_le_mul h (show Y0≤4294967288 by omega)
 rw [←Int.natCast_mul]
 refine ⟨by omega,by omega,?_⟩
 cases q with
 | zero=>exact Or.inr (by rw [Nat.zero_mul];rfl)
 | succ p=>exact Or.inl ab
structure DivI (Y u v:Nat) where
 q:Nat
 r:Nat
 sum:q*4294967295+r=u
 big:u*4294967296+v<(q+1)*Y
 top:q≤4294967297
 lim:r<4294967296
structure DivE (Y u v:Nat) where
 q:Nat
 lo:q*Y≤u*4294967296+v
 hi:u*4294967296+v<(q+1)*Y
set_option maxRecDepth 20000 in
theorem div64 {M Y Y0:Nat} (hM:M<2305843009213693952∧2305843009213693949<M) (hYM:Y=M*8) (hY:Y=4294967295*4294967296+Y0) (hz:Pu prog 208 #[.int .u64 (M:Int)] (fun _=>True) (.int .i64 3))
  (ey:shlV .u64 (M:Int) 3=(Y:Int)) (ey1:shrV .u64 (Y:Int) 32=4294967295) (ey0:bitsV .and .u64 (Y:Int) 4294967295=(Y0:Int)) (hi lo:Nat) (hhi:hi<M) (hlo:lo<18446744073709551616) :
  Pu prog 188 #[.int .u64 (hi:Int),.int .u64 (lo:Int),.int .u64 (M:Int)] (fun _=>True)
   (.tuple #[.int .u64 (((hi*18446744073709551616+lo)/M:Nat):Int),.int .u64 (((hi*18446744073709551616+lo)%M:Nat):Int)]):=by
 refine ax func188 ntmps188 fun av bor w0=>?_
 repeat' (first|(refine ae (hc:=hz) ?_)|refine gs ?_|(refine gp ?_ ?_<;>intro hx_ this)|fail)
 · exfalso;omega
 · exfalso;omega
 · have h0:hi=0:=by omega
   subst h0
   have e1:IntKind.u64.wrap ((lo:Int).tdiv (M:Int))=((lo/M:Nat):Int):=qL lo M hlo ab
   have e2:(lo:Int).tmod (M:Int)=((lo%M:Nat):Int):=nF lo M
   have hMz:(M:Int)≠0:=by omega
   (refine aw_draw ⟨[0,1,2,3,4,5,6,7],[]⟩ [] (fun _=>True) (h:=?_))
   all_goals repeat' (first|refine gd ?_|refine aH (hy:=by first|(apply tB (c:=((lo/M:Nat):Int));rfl;rfl;exact hMz;exact e1)|(apply tA (c:=((lo%M:Nat):Int));rfl;rfl;exact hMz;exact e2)) ?_|refine aE ?_ (h':=?_)|exact aF|(refine gq ?_ ?_<;>intro hx_ this)|fail)
   all_goals
    repeat' (first|refine gs ?_|fail)
    apply aa;apply bg;rfl;rfl;rfl
    rw [Nat.zero_mul,ZL]
 · have e3:IntKind.u64.wrap 3=3:=by kernel_rfl
   have e61:IntKind.u64.wrap (64-3)=61:=by kernel_rfl
   have eh:shlV .u64 (hi:Int) 3=((hi*8:Nat):Int):=by rw [shl3,Zz (by omega)]
   have el:shrV .u64 (lo:Int) 61=((lo/2305843009213693952:Nat):Int):=qz lo _ ac
   have eo:bitsV .or .u64 ((hi*8:Nat):Int) ((lo/2305843009213693952:Nat):Int)=((hi*8+lo/2305843009213693952:Nat):Int):=or3 hi _ ab ab
   have e10:shlV .u64 (lo:Int) 3=((lo*8%18446744073709551616:Nat):Int):=shl3 lo
   have hU:(hi*18446744073709551616+lo)*8=(hi*8+lo/2305843009213693952)*18446744073709551616+lo*8%18446744073709551616:=by omega
   have hu:hi*8+lo/2305843009213693952<Y:=by omega
   have hv:lo*8%18446744073709551616<18446744073709551616:=Z1 _ (by decide)
   simp only [e3,e61,ey,ey1,ey0,eh,el,eo,e10]
   clear e3 e61 ey ey1 ey0 eh el eo e10 hz
   generalize hi*8+lo/2305843009213693952=u at *
   generalize lo*8%18446744073709551616=v at *
   have e1:shrV .u64 (v:Int) 32=((v/4294967296:Nat):Int):=qz v _ ac
   have e0:bitsV .and .u64 (v:Int) 4294967295=((v%4294967296:Nat):Int):=and32 v hv
   obtain ⟨v1,v0,hv1,hv0,hvv,hv1l,hv0l⟩:∃ v1 v0:Nat,v/4294967296=v1∧v%4294967296=v0∧v=v1*4294967296+v0∧v1<4294967296∧v0<4294967296:=⟨_,_,rfl,rfl,by omega,by omega,by omega⟩
   simp only [e1,e0,hv1,hv0]
   clear e1 e0 hv1 hv0
   subst hvv
   obtain ⟨V,hV⟩:∃ V,hi*18446744073709551616+lo=V:=⟨_,rfl⟩
   rw [hV] at hU ⊢
   have hUh:Hid (V*8=u*18446744073709551616+(v1*4294967296+v0)):=hU
   clear hU hV hv hhi hlo
   have hq1:Eqq (IntKind.u64.wrap ((u:Int).tdiv 4294967295)) ((u/4294967295:Nat):Int):=qL u 4294967295 ab (by decide)
   have h00:Y0<4294967289:=by omega
   repeat' (first|refine mA (hb:=by decide) (hc:=hq1) ?_|refine fC (hc:=br _ ab) ?_|refine fA (hc:=br _ ab) ?_|refine gs ?_|(refine gp ?_ ?_<;>intro hx_ this)|fail)
   refine me (ι:=DivE Y u v1) (fun i=>⟨[(2,.int .u64 (Y:Nat)),(8,.int .u64 3),(9,.int .u64 4294967295),(10,.int .u64 (Y0:Nat)),(11,.int .u64 (u:Nat)),(13,.int .u64 (v1:Int)),(14,.int .u64 (v0:Int)),(15,.int .u64 (i.q:Nat))],[],fun _=>True⟩) ?_ fun i=>?_
   · refine az (ι:=DivI Y u v1) (fun i=>⟨[(2,.int .u64 (Y:Nat)),(8,.int .u64 3),(9,.int .u64 4294967295),(10,.int .u64 (Y0:Nat)),(11,.int .u64 (u:Nat)),(13,.int .u64 (v1:Int)),(14,.int .u64 (v0:Int)),(15,.int .u64 (i.q:Nat)),(16,.int .u64 (i.r:Nat))],[],fun _=>True⟩) (fun i=>4294967296-i.r) ⟨u/4294967295,u%4294967295,by omega,oq hY hv1l,by omega,by omega⟩
      (ak ⟨rfl,rfl,rfl,rfl,rfl,rfl,rfl,rfl,by show some (Value.int .u64 ((u:Int)-((u/4294967295:Nat):Int)*4294967295))=some (Value.int .u64 ((u%4294967295:Nat):Int));congr 2;omega,trivial⟩ (Zq _) fun _ h=>h) fun i=>?_
     obtain ⟨q,r,isum,ibig,itop,ilim⟩:=i
     simp only
     obtain ⟨hq0_,hq1_,hq2_⟩:=l8 itop h00
     repeat' (first|refine fC (hc:=br _ ab) ?_|refine fA (hc:=br _ ab) ?_|refine dw (hc:=br _ ab) ?_|refine gs ?_|(refine gp ?_ ?_<;>intro hx_ this)|fail)
     rotate_right
     · have e:q*Y=q*(4294967295*4294967296)+q*Y0:=by rw [hY,Nat.mul_add]
       exact ⟨⟨q,by omega,ibig⟩,ak aw (Zq _) fun _ h=>h⟩
     all_goals
      cases q with
      | zero=>exfalso;omega
      | succ p =>
       have f2:u*4294967296+v1<(p+1)*Y:=ot hY isum hu hv1l (by first|exact Or.inl ab|exact Or.inr ab)
       have f3:((p+1:Nat):Int)-1=(p:Int):=by omega
       first
       | exact ⟨⟨p,oo hY h00 isum ab itop,f2⟩,ak ⟨rfl,rfl,rfl,rfl,rfl,rfl,rfl,by show some (Value.int .u64 (((p+1:Nat):Int)-1))=some (Value.int .u64 (p:Int));rw [f3],trivial⟩ (Zq _) fun _ h=>h⟩
       | exact ⟨⟨p,r+4294967295,by rw [←isum,Nat.succ_mul,ZB,Nat.add_comm 4294967295 r],f2,by omega,by omega⟩,show 4294967296-(r+4294967295)<4294967296-r by omega,ak ⟨rfl,rfl,rfl,rfl,rfl,rfl,rfl,by show some (Value.int .u64 (((p+1:Nat):Int)-1))=some (Value.int .u64 (p:Int));rw [f3],rfl,trivial⟩ (Zq _) fun _ h=>h⟩
   · obtain ⟨q1,q1lo,q1hi⟩:=i
     simp only
     have hs:=Qp q1 1 Y
     obtain ⟨x,hx,hxY⟩:∃ x:Nat,u*4294967296+v1=q1*Y+x∧x<Y:=⟨u*4294967296+v1-q1*Y,by omega,by omega⟩
     have h17:Eqq (IntKind.u64.wrap (IntKind.u64.wrap (IntKind.u64.wrap ((u:Int)*4294967296)+(v1:Int))-IntKind.u64.wrap ((q1:Int)*(Y:Int)))) (x:Int):=by
      unfold Eqq
      rw [ny,show (u:Int)*4294967296+(v1:Int)-(q1:Int)*(Y:Int)=(x:Int) by omega]
      omega
     have hq0:Eqq (IntKind.u64.wrap ((x:Int).tdiv 4294967295)) ((x/4294967295:Nat):Int):=qL x 4294967295 ab (by decide)
     have hq1l:q1<4294967296:=Nat.lt_of_mul_lt_mul_right (a:=Y) (show q1*Y<4294967296*Y by omega)
     repeat' (first|refine fA (hc:=h17) ?_|refine fC (hc:=rfl) ?_|refine dw (hc:=rfl) ?_|refine gs ?_|(fail)|fail)
     clear h17
     repeat' (first|refine mA (hb:=by decide) (hc:=hq0) ?_|refine fC (hc:=br _ ab) ?_|refine fA (hc:=br _ ab) ?_|refine gs ?_|(refine gp ?_ ?_<;>intro hx_ this)|fail)
     have hxh:Hid (u*4294967296+v1=q1*Y+x):=hx
     clear hx q1lo q1hi hu hs
     refine me (ι:=DivE Y x v0) (fun i=>⟨[(2,.int .u64 (Y:Nat)),(8,.int .u64 3),(14,.int .u64 (v0:Int)),(15,.int .u64 (q1:Nat)),(17,.int .u64 (x:Nat)),(18,.int .u64 (i.q:Nat))],[],fun _=>True⟩) ?_ fun i=>?_
     · refine az (ι:=DivI Y x v0) (fun i=>⟨[(2,.int .u64 (Y:Nat)),(8,.int .u64 3),(9,.int .u64 4294967295),(10,.int .u64 (Y0:Nat)),(14,.int .u64 (v0:Int)),(15,.int .u64 (q1:Nat)),(17,.int .u64 (x:Nat)),(18,.int .u64 (i.q:Nat)),(16,.int .u64 (i.r:Nat))],[],fun _=>True⟩) (fun i=>4294967296-i.r) ⟨x/4294967295,x%4294967295,by omega,oq hY hv0l,by omega,by omega⟩
        (ak ⟨rfl,rfl,rfl,rfl,rfl,rfl,rfl,rfl,by show some (Value.int .u64 ((x:Int)-((x/4294967295:Nat):Int)*4294967295))=some (Value.int .u64 ((x%4294967295:Nat):Int));congr 2;omega,trivial⟩ (Zq _) fun _ h=>h) fun i=>?_
       obtain ⟨q,r,isum,ibig,itop,ilim⟩:=i
       simp only
       obtain ⟨hq0_,hq1_,hq2_⟩:=l8 itop h00
       repeat' (first|refine fC (hc:=br _ ab) ?_|refine fA (hc:=br _ ab) ?_|refine dw (hc:=br _ ab) ?_|refine gs ?_|(refine gp ?_ ?_<;>intro hx_ this)|fail)
       rotate_right
       · have e:q*Y=q*(4294967295*4294967296)+q*Y0:=by rw [hY,Nat.mul_add]
         exact ⟨⟨q,by omega,ibig⟩,ak aw (Zq _) fun _ h=>h⟩
       all_goals
        cases q with
        | zero=>exfalso;omega
        | succ p =>
         have f2:x*4294967296+v0<(p+1)*Y:=ot hY isum hxY hv0l (by first|exact Or.inl ab|exact Or.inr ab)
         have f3:((p+1:Nat):Int)-1=(p:Int):=by omega
         first
         | exact ⟨⟨p,oo hY h00 isum ab itop,f2⟩,ak ⟨rfl,rfl,rfl,rfl,rfl,by show some (Value.int .u64 (((p+1:Nat):Int)-1))=some (Value.int .u64 (p:Int));rw [f3],trivial⟩ (Zq _) fun _ h=>h⟩
         | exact ⟨⟨p,r+4294967295,by rw [←isum,Nat.succ_mul,ZB,Nat.add_comm 4294967295 r],f2,by omega,by omega⟩,show 4294967296-(r+4294967295)<4294967296-r by omega,ak ⟨rfl,rfl,rfl,rfl,rfl,rfl,rfl,by show some (Value.int .u64 (((p+1:Nat):Int)-1))=some (Value.int .u64 (p:Int));rw [f3],rfl,trivial⟩ (Zq _) fun _ h=>h⟩
     · obtain ⟨q0,q0lo,q0hi⟩:=i
       simp only
       have hs:=Qp q0 1 Y
       obtain ⟨y,hy,hyY⟩:∃ y:Nat,x*4294967296+v0=q0*Y+y∧y<Y:=⟨x*4294967296+v0-q0*Y,by omega,by omega⟩
       have h132:Eqq (IntKind.u64.wrap (IntKind.u64.wrap (IntKind.u64.wrap ((x:Int)*4294967296)+(v0:Int))-IntKind.u64.wrap ((q0:Int)*(Y:Int)))) (y:Int):=by
        unfold Eqq
        rw [ny,show (x:Int)*4294967296+(v0:Int)-(q0:Int)*(Y:Int)=(y:Int) by omega]
        omega
       have hq0l:q0<4294967296:=Nat.lt_of_mul_lt_mul_right (a:=Y) (show q0*Y<4294967296*Y by omega)
       have hq1:Eqq (IntKind.u64.wrap (IntKind.u64.wrap ((q1:Int)*4294967296)+(q0:Int))) ((q1:Int)*4294967296+(q0:Int)):=by unfold Eqq;rw [br ((q1:Int)*4294967296) ab,br _ (by omega)]
       repeat' (first|refine fA (hc:=h132) ?_|refine gs ?_|(fail)|fail)
       have h3:Eqq (shrV .u64 (y:Int) 3) ((y/8:Nat):Int):=qz y 8 ac
       have hx:u*4294967296+v1=q1*Y+x:=hxh
       have hU:V*8=u*18446744073709551616+(v1*4294967296+v0):=hUh
       have a1 (q:Nat):q*Y=M*q*8:=by rw [hYM,←Nat.mul_assoc,Nat.mul_comm q]
       have a2:=a1 q1
       have a3:=a1 q0
       have a4:M*(q1*4294967296+q0)=M*q1*4294967296+M*q0:=by rw [Nat.mul_add,←Nat.mul_assoc]
       obtain ⟨hA,hB⟩:=m9 (V:=V) (M:=M) (Q:=q1*4294967296+q0) (z:=y/8) ab ab
       apply aa;apply bg;rfl;rfl;rfl
       unfold Eqq at h3 hq1
       rw [hA,hB,h3,hq1,Int.natCast_add,Int.natCast_mul]
       rfl
theorem div64P (hi lo:Nat) (hhi:hi<2305843009213693951) (hlo:lo<18446744073709551616) :
  Pu prog 188 #[.int .u64 (hi:Int),.int .u64 (lo:Int),.int .u64 2305843009213693951] (fun _=>True)
   (.tuple #[.int .u64 (((hi*18446744073709551616+lo)/2305843009213693951:Nat):Int),.int .u64 (((hi*18446744073709551616+lo)%2305843009213693951:Nat):Int)]) :=
 div64 (M:=2305843009213693951) (Y:=18446744073709551608) (Y0:=4294967288) (by decide) rfl rfl (nU 8 (by decide)) ac ac ac hi lo hhi hlo
theorem div64N (hi lo:Nat) (hhi:hi<2305843009213693950) (hlo:lo<18446744073709551616) :
  Pu prog 188 #[.int .u64 (hi:Int),.int .u64 (lo:Int),.int .u64 2305843009213693950] (fun _=>True)
   (.tuple #[.int .u64 (((hi*18446744073709551616+lo)/2305843009213693950:Nat):Int),.int .u64 (((hi*18446744073709551616+lo)%2305843009213693950:Nat):Int)]) :=
 div64 (M:=2305843009213693950) (Y:=18446744073709551600) (Y0:=4294967280) (by decide) rfl rfl (nU 16 (by decide)) ac ac ac hi lo hhi hlo
end Go.Proofs.YtamfbppnlomgfaaGreatDoor
namespace Go.Proofs.YtamfbppnlomgfaaGreatDoor
open Go Go.Proofs Sy Go.Shelf Tryz
theorem qX (hi lo M:Nat):(hi%M*18446744073709551616+lo)%M=(hi*18446744073709551616+lo)%M:=by
 rw [Nat.add_mod,Nat.mul_mod,Nat.mod_mod,←Nat.mul_mod,←Nat.add_mod]
theorem rem64P (hi lo:Nat) (hlo:lo<18446744073709551616) :
  Pu prog 144 #[.int .u64 (hi:Int),.int .u64 (lo:Int),.int .u64 2305843009213693951] (fun _=>True) (.int .u64 (((hi*18446744073709551616+lo)%2305843009213693951:Nat):Int)):=by
 refine ax func144 ntmps144 fun av bor w0=>?_
 have hr:Eqq ((hi:Int).tmod 2305843009213693951) ((hi%2305843009213693951:Nat):Int):=nF hi 2305843009213693951
 have hd:=div64P (hi%2305843009213693951) lo (Z1 _ (by decide)) hlo
 rw [qX] at hd
 repeat' (first|refine eI (hb:=by decide) (hc:=hr) ?_|(refine ae (hc:=hd) ?_)|refine gs ?_|(refine gp ?_ ?_<;>intro hx_ this)|fail)
 apply aa;apply ai;rfl;rfl
 rfl
theorem rem64N (hi lo:Nat) (hlo:lo<18446744073709551616) :
  Pu prog 144 #[.int .u64 (hi:Int),.int .u64 (lo:Int),.int .u64 2305843009213693950] (fun _=>True) (.int .u64 (((hi*18446744073709551616+lo)%2305843009213693950:Nat):Int)):=by
 refine ax func144 ntmps144 fun av bor w0=>?_
 have hr:Eqq ((hi:Int).tmod 2305843009213693950) ((hi%2305843009213693950:Nat):Int):=nF hi 2305843009213693950
 have hd:=div64N (hi%2305843009213693950) lo (Z1 _ (by decide)) hlo
 rw [qX] at hd
 repeat' (first|refine eI (hb:=by decide) (hc:=hr) ?_|(refine ae (hc:=hd) ?_)|refine gs ?_|(refine gp ?_ ?_<;>intro hx_ this)|fail)
 apply aa;apply ai;rfl;rfl
 rfl
theorem cf (a m:Nat) (hm:0<m) (hm2:m<4611686018427387904):Pu prog 53 #[.int .i64 (a:Int),.int .i64 (m:Int)] (fun _=>True) (.int .i64 ((a%m:Nat):Int)):=by
 refine ax func53 ntmps53 fun av bor w0=>?_
 have hr:Eqq ((a:Int).tmod (m:Int)) ((a%m:Nat):Int):=nF a m
 repeat' (first|refine eI (hb:=by omega) (hc:=hr) ?_|refine gs ?_|(refine gp ?_ ?_<;>intro hx_ this)|fail)
 · exfalso;omega
 · apply aa;apply ai;rfl;rfl
   rfl
theorem sF (a b:Nat):Pu prog 93 #[.int .i64 (a:Int),.int .i64 (b:Int),.int .i64 2305843009213693951] (fun _=>True) (.int .i64 ((a*b%2305843009213693951:Nat):Int)):=by
 refine ax func93 ntmps93 fun av bor w0=>?_
 have h1:=cf a 2305843009213693951 (by decide) (by decide)
 have h2:=cf b 2305843009213693951 (by decide) (by decide)
 have hx:=Z1 a (show 0<2305843009213693951 by decide)
 have hy:=Z1 b (show 0<2305843009213693951 by decide)
 have hab:a*b%2305843009213693951=(a%2305843009213693951)*(b%2305843009213693951)%2305843009213693951:=Nat.mul_mod a b _
 rw [hab]
 generalize a%2305843009213693951=x at *
 generalize b%2305843009213693951=y at *
 have h3:=lG x y ab ab
 have h4:=rem64P (x*y/18446744073709551616) (x*y%18446744073709551616) (Z1 _ (by decide))
 have e:x*y/18446744073709551616*18446744073709551616+x*y%18446744073709551616=x*y:=Nat.div_add_mod' _ _
 rw [e] at h4
 have cx:Eqq (IntKind.u64.wrap (x:Int)) (x:Int):=br _ ab
 have cy:Eqq (IntKind.u64.wrap (y:Int)) (y:Int):=br _ ab
 have hz:=Z1 (x*y) (show 0<2305843009213693951 by decide)
 have cm:Eqq (IntKind.u64.wrap 2305843009213693951) 2305843009213693951:=by unfold Eqq;kernel_rfl
 generalize x*y%2305843009213693951=z at *
 have cz:Eqq (IntKind.i64.wrap (z:Int)) (z:Int):=IntWalk.i64_in _ ab
 unfold Eqq at cx cy cm cz
 rw [←cx,←cy] at h3
 rw [←cm] at h4
 repeat' (first|(refine ae (hc:=h1) ?_)|(refine ae (hc:=h2) ?_)|(refine ae (hc:=h3) ?_)|(refine ae (hc:=h4) ?_)|refine gs ?_|(refine gp ?_ ?_<;>intro hx_ this)|fail)
 apply aa;apply ai;rfl;rfl
 rfl
theorem tu (a b:Nat):Pu prog 134 #[.int .i64 (a:Int),.int .i64 (b:Int),.int .i64 2305843009213693950] (fun _=>True) (.int .i64 (((a+b)%2305843009213693950:Nat):Int)):=by
 refine ax func134 ntmps134 fun av bor w0=>?_
 have h1:=cf a 2305843009213693950 (by decide) (by decide)
 have h2:=cf b 2305843009213693950 (by decide) (by decide)
 have h3:=cf (a%2305843009213693950+b%2305843009213693950) 2305843009213693950 (by decide) (by decide)
 rw [←Nat.add_mod] at h3
 have hs:Eqq (IntKind.i64.wrap (((a%2305843009213693950:Nat):Int)+((b%2305843009213693950:Nat):Int))) ((a%2305843009213693950+b%2305843009213693950:Nat):Int):=by
  have:=Z1 a (show 0<2305843009213693950 by decide)
  have:=Z1 b (show 0<2305843009213693950 by decide)
  generalize a%2305843009213693950=x at *
  generalize b%2305843009213693950=y at *
  unfold Eqq
  rw [Int.natCast_add]
  exact IntWalk.i64_in _ ab
 repeat' (first|refine dw (hc:=hs) ?_|(refine ae (hc:=h1) ?_)|(refine ae (hc:=h2) ?_)|(refine ae (hc:=h3) ?_)|refine gs ?_|(refine gp ?_ ?_<;>intro hx_ this)|fail)
 apply aa;apply ai;rfl;rfl
 rfl
theorem sG (a b:Nat):Pu prog 93 #[.int .i64 (a:Int),.int .i64 (b:Int),.int .i64 2305843009213693950] (fun _=>True) (.int .i64 ((a*b%2305843009213693950:Nat):Int)):=by
 refine ax func93 ntmps93 fun av bor w0=>?_
 have h1:=cf a 2305843009213693950 (by decide) (by decide)
 have h2:=cf b 2305843009213693950 (by decide) (by decide)
 have hx:=Z1 a (show 0<2305843009213693950 by decide)
 have hy:=Z1 b (show 0<2305843009213693950 by decide)
 have hab:a*b%2305843009213693950=(a%2305843009213693950)*(b%2305843009213693950)%2305843009213693950:=Nat.mul_mod a b _
 rw [hab]
 generalize a%2305843009213693950=x at *
 generalize b%2305843009213693950=y at *
 have h3:=lG x y ab ab
 have h4:=rem64N (x*y/18446744073709551616) (x*y%18446744073709551616) (Z1 _ (by decide))
 have e:x*y/18446744073709551616*18446744073709551616+x*y%18446744073709551616=x*y:=Nat.div_add_mod' _ _
 rw [e] at h4
 have cx:Eqq (IntKind.u64.wrap (x:Int)) (x:Int):=br _ ab
 have cy:Eqq (IntKind.u64.wrap (y:Int)) (y:Int):=br _ ab
 have hz:=Z1 (x*y) (show 0<2305843009213693950 by decide)
 have cm:Eqq (IntKind.u64.wrap 2305843009213693950) 2305843009213693950:=by unfold Eqq;kernel_rfl
 generalize x*y%2305843009213693950=z at *
 have cz:Eqq (IntKind.i64.wrap (z:Int)) (z:Int):=IntWalk.i64_in _ ab
 unfold Eqq at cx cy cm cz
 rw [←cx,←cy] at h3
 rw [←cm] at h4
 repeat' (first|(refine ae (hc:=h1) ?_)|(refine ae (hc:=h2) ?_)|(refine ae (hc:=h3) ?_)|(refine ae (hc:=h4) ?_)|refine gs ?_|(refine gp ?_ ?_<;>intro hx_ this)|fail)
 apply aa;apply ai;rfl;rfl
 rfl
theorem nj (a b:Nat):Pu prog 55 #[.int .i64 (a:Int),.int .i64 (b:Int)] (fun _=>True) (.int .i64 ((a*b%2305843009213693951:Nat):Int)):=by
 refine ax func55 ntmps55 fun av bor w0=>?_
 repeat' (first|(refine ae (hc:=sF a b) ?_)|refine gs ?_|(refine gp ?_ ?_<;>intro hx_ this)|fail)
 apply aa;apply ai;rfl;rfl
 rfl
theorem tw (a b:Nat):Pu prog 80 #[.int .i64 (a:Int),.int .i64 (b:Int)] (fun _=>True) (.int .i64 ((a*b%2305843009213693950:Nat):Int)):=by
 refine ax func80 ntmps80 fun av bor w0=>?_
 repeat' (first|(refine ae (hc:=sG a b) ?_)|refine gs ?_|(refine gp ?_ ?_<;>intro hx_ this)|fail)
 apply aa;apply ai;rfl;rfl
 rfl
theorem tz (a b:Nat):Pu prog 79 #[.int .i64 (a:Int),.int .i64 (b:Int)] (fun _=>True) (.int .i64 (((a+b)%2305843009213693950:Nat):Int)):=by
 refine ax func79 ntmps79 fun av bor w0=>?_
 repeat' (first|(refine ae (hc:=tu a b) ?_)|refine gs ?_|(refine gp ?_ ?_<;>intro hx_ this)|fail)
 apply aa;apply ai;rfl;rfl
 rfl
def expF (a e:Nat):Nat→Nat×Nat
 | 0=>(1,a%2305843009213693951)
 | i+1=>(bif decide (e/2 ^ i%2=1) then (expF a e i).1*(expF a e i).2%2305843009213693951 else (expF a e i).1,(expF a e i).2*(expF a e i).2%2305843009213693951)
def expV (a e:Nat):Nat:=(expF a e (Lib.bitLen e)).1
theorem uG (e i:Nat) (hi:i≤64):shrV .i64 (e:Int) (i:Int)=((e/2 ^ i:Nat):Int):=by
 show (e:Int).fdiv (2 ^ (min (i:Int).toNat 64))=_
 rw [ZP,Nat.min_eq_left hi,show (2:Int) ^ i=((2 ^ i:Nat):Int) by rw [Int.natCast_pow];rfl,←Int.ofNat_fdiv]
theorem ve (x:Nat) (hx:x<9223372036854775808):bitsV .and .i64 (x:Int) 1=((x%2:Nat):Int):=by
 show IntKind.i64.wrap ((((BitVec.ofInt 64 (x:Int)) &&& (BitVec.ofInt 64 1)).toNat:Nat):Int)=_
 have e:(BitVec.ofInt 64 1).toNat=1:=by decide
 rw [BitVec.toNat_and,e,Qa,Qd,Zz (show x<2 ^ 64 by omega),Nat.and_one_is_mod]
 exact IntWalk.i64_in _ ab
theorem gn:∀ f x:Nat,Lib.bitLenAux f x≤f
 | 0,_=>ZN _
 | f+1,x=>by
  rw [Lib.bitLenAux]
  split
  · omega
  · have:=gn f (x/2)
    omega
theorem eT (a e:Nat) (he:e<9223372036854775808):Pu prog 21 #[.int .i64 (a:Int),.int .i64 (e:Int)] (fun _=>True) (.int .i64 (expV a e:Nat)):=by
 refine ax func21 ntmps21 fun av bor w0=>?_
 have h1:=cf a 2305843009213693951 (by decide) (by decide)
 have h2:=lL e ab
 have ce:Eqq (IntKind.u64.wrap (e:Int)) (e:Int):=br _ ab
 unfold Eqq at ce
 rw [←ce] at h2
 repeat' (first|(refine ae (hc:=h1) ?_)|(refine ae (hc:=h2) ?_)|refine gs ?_|(refine gp ?_ ?_<;>intro hx_ this)|fail)
 · exfalso;omega
 · have hbl:Lib.bitLen e≤64:=gn 64 e
   refine az (ι:=Kth (Lib.bitLen e)) (fun i=>⟨[(1,.int .i64 (e:Int)),(5,.int .i64 ((expF a e i.k).1:Nat)),(6,.int .i64 ((expF a e i.k).2:Nat)),(16,.int .i64 (Lib.bitLen e:Nat)),(17,.int .i64 i.k)],[],fun _=>True⟩) (fun i=>Lib.bitLen e-i.k) ⟨0,ZU _⟩ (ak aw (Zq _) fun _ h=>h) fun i=>?_
   have hik:=i.hk
   have hm1:=nj (expF a e i.k).1 (expF a e i.k).2
   have hm2:=nj (expF a e i.k).2 (expF a e i.k).2
   have hb:bitsV .and .i64 (shrV .i64 (e:Int) ((i.k:Nat):Int)) 1=((e/2 ^ i.k%2:Nat):Int):=by
    rw [uG e i.k ab,ve _ (Nat.lt_of_le_of_lt (Nat.div_le_self _ _) he)]
   have hs:expF a e (i.k+1)=(bif decide (e/2 ^ i.k%2=1) then (expF a e i.k).1*(expF a e i.k).2%2305843009213693951 else (expF a e i.k).1,(expF a e i.k).2*(expF a e i.k).2%2305843009213693951):=rfl
   generalize hp:expF a e i.k=p at *
   repeat' (first|(refine ae (hc:=hm1) ?_)|(refine ae (hc:=hm2) ?_)|refine gs ?_|(refine gp ?_ ?_<;>intro hx_ this)|fail)
   · have hc:e/2 ^ i.k%2=1:=by
      rw [hb] at hx_
      have:=bC hx_
      omega
     rw [Ze hc,Zg] at hs
     exact ⟨(⟨i.k+1,by omega⟩:Kth (Lib.bitLen e)),(by show Lib.bitLen e-(i.k+1)<Lib.bitLen e-i.k;omega),ak ⟨rfl,by rw [hs];rfl,by rw [hs];rfl,rfl,rfl,trivial⟩ (Zq _) fun _ h=>h⟩
   · have hc:¬ e/2 ^ i.k%2=1:=by
      rw [hb] at hx_
      have:=cq hx_
      omega
     rw [Zd hc,Zf] at hs
     exact ⟨(⟨i.k+1,by omega⟩:Kth (Lib.bitLen e)),(by show Lib.bitLen e-(i.k+1)<Lib.bitLen e-i.k;omega),ak ⟨rfl,by rw [hs];rfl,by rw [hs];rfl,rfl,rfl,trivial⟩ (Zq _) fun _ h=>h⟩
   · have hk:i.k=Lib.bitLen e:=by omega
     apply aa;apply ai;rfl;rfl
     rw [expV,←hk,hp]
end Go.Proofs.YtamfbppnlomgfaaGreatDoor
namespace Go.Proofs.YtamfbppnlomgfaaGreatDoor
open Go Go.Proofs Sy
def IsN (x:Int) (n:Nat):Prop:=x=(n:Int)∧n<4294967296
theorem wrap32 (n:Nat):IntKind.u32.wrap (n:Int)=((n%4294967296:Nat):Int):=by
 simp [IntKind.wrap,IntKind.signed,IntKind.bits]
theorem IsN.xor {x y:Int} {m n:Nat} (h:IsN x m) (k:IsN y n):IsN (bitsV .xor .u32 x y) (m ^^^ n):=by
 obtain ⟨rfl,hm⟩:=h
 obtain ⟨rfl,hn⟩:=k
 have hx:m ^^^ n<2 ^ 32:=Nat.xor_lt_two_pow hm hn
 refine ⟨?_,hx⟩
 show IntKind.u32.wrap ((((BitVec.ofInt 32 (m:Int)) ^^^ (BitVec.ofInt 32 (n:Int))).toNat:Nat):Int)=_
 rw [Qa,Qa,BitVec.toNat_xor,Qd,Qd,Zz (show m<2 ^ 32 from hm),Zz (show n<2 ^ 32 from hn),wrap32,Zz hx]
theorem IsN.and {x y:Int} {m n:Nat} (h:IsN x m) (k:IsN y n):IsN (bitsV .and .u32 x y) (m &&& n):=by
 obtain ⟨rfl,hm⟩:=h
 obtain ⟨rfl,hn⟩:=k
 have hx:m &&& n<2 ^ 32:=Nat.and_lt_two_pow m hn
 refine ⟨?_,hx⟩
 show IntKind.u32.wrap ((((BitVec.ofInt 32 (m:Int)) &&& (BitVec.ofInt 32 (n:Int))).toNat:Nat):Int)=_
 rw [Qa,Qa,BitVec.toNat_and,Qd,Qd,Zz (show m<2 ^ 32 from hm),Zz (show n<2 ^ 32 from hn),wrap32,Zz hx]
theorem IsN.or {x y:Int} {m n:Nat} (h:IsN x m) (k:IsN y n):IsN (bitsV .or .u32 x y) (m ||| n):=by
 obtain ⟨rfl,hm⟩:=h
 obtain ⟨rfl,hn⟩:=k
 have hx:m ||| n<2 ^ 32:=Nat.or_lt_two_pow hm hn
 refine ⟨?_,hx⟩
 show IntKind.u32.wrap ((((BitVec.ofInt 32 (m:Int)) ||| (BitVec.ofInt 32 (n:Int))).toNat:Nat):Int)=_
 rw [Qa,Qa,BitVec.toNat_or,Qd,Qd,Zz (show m<2 ^ 32 from hm),Zz (show n<2 ^ 32 from hn),wrap32,Zz hx]
theorem IsN.add {x y:Int} {m n:Nat} (h:IsN x m) (k:IsN y n):IsN (a32 x y) ((m+n)%4294967296):=by
 obtain ⟨rfl,hm⟩:=h
 obtain ⟨rfl,hn⟩:=k
 refine ⟨?_,Z1 _ (by decide)⟩
 show IntKind.u32.wrap ((m:Int)+(n:Int))=_
 rw [←Int.natCast_add,wrap32]
theorem IsN.shl {x:Int} {m:Nat} (h:IsN x m) {c:Int} (p:Nat) (hp:(2:Int) ^ (min c.toNat 32)=(p:Int)):IsN (shlV .u32 x c) (m*p%4294967296):=by
 obtain ⟨rfl,hm⟩:=h
 refine ⟨?_,Z1 _ (by decide)⟩
 show IntKind.u32.wrap ((m:Int)*2 ^ (min c.toNat 32))=_
 rw [hp,←Int.natCast_mul,wrap32]
theorem IsN.shr {x:Int} {m:Nat} (h:IsN x m) {c:Int} (p:Nat) (hp:(2:Int) ^ (min c.toNat 32)=(p:Int)):IsN (shrV .u32 x c) (m/p):=by
 obtain ⟨rfl,hm⟩:=h
 refine ⟨?_,Nat.lt_of_le_of_lt (Nat.div_le_self _ _) hm⟩
 show (m:Int).fdiv (2 ^ (min c.toNat 32))=_
 rw [hp,←Int.ofNat_fdiv]
def rot (p q m:Nat):Nat:=(m*p%4294967296) ||| (m/q)
theorem IsN.turn {x:Int} {m:Nat} (h:IsN x m) {r c:Int} (p q:Nat) (hc:bitsV .and .u64 (IntKind.u64.wrap (IntKind.i64.wrap (0-r))) 31=c) (hd:IntKind.u64.wrap (32-c)=r) (hp:(2:Int) ^ (min c.toNat 32)=(p:Int)) (hq:(2:Int) ^ (min r.toNat 32)=(q:Int)) :
  IsN (turnV x r) (rot p q m):=by
 unfold turnV rotlV
 rw [hc,hd]
 exact (h.shl p hp).or (h.shr q hq)
def s0N (m:Nat):Nat:=rot 33554432 128 m ^^^ rot 16384 262144 m ^^^ (m/8)
def s1N (m:Nat):Nat:=rot 32768 131072 m ^^^ rot 8192 524288 m ^^^ (m/1024)
def b1N (m:Nat):Nat:=rot 67108864 64 m ^^^ rot 2097152 2048 m ^^^ rot 128 33554432 m
def b0N (m:Nat):Nat:=rot 1073741824 4 m ^^^ rot 524288 8192 m ^^^ rot 1024 4194304 m
theorem IsN.s0 {x:Int} {m:Nat} (h:IsN x m):IsN (bitsV .xor .u32 (bitsV .xor .u32 (turnV x 7) (turnV x 18)) (shrV .u32 x 3)) (s0N m) :=
 ((h.turn (c:=25) _ _ ac ac ac ac).xor (h.turn (c:=14) _ _ ac ac ac ac)).xor (h.shr 8 ac)
theorem IsN.s1 {x:Int} {m:Nat} (h:IsN x m):IsN (bitsV .xor .u32 (bitsV .xor .u32 (turnV x 17) (turnV x 19)) (shrV .u32 x 10)) (s1N m) :=
 ((h.turn (c:=15) _ _ ac ac ac ac).xor (h.turn (c:=13) _ _ ac ac ac ac)).xor (h.shr 1024 ac)
theorem IsN.b1 {x:Int} {m:Nat} (h:IsN x m):IsN (x32 (x32 (turnV x 6) (turnV x 11)) (turnV x 25)) (b1N m) :=
 ((h.turn (c:=26) _ _ ac ac ac ac).xor (h.turn (c:=21) _ _ ac ac ac ac)).xor (h.turn (c:=7) _ _ ac ac ac ac)
theorem IsN.b0 {x:Int} {m:Nat} (h:IsN x m):IsN (x32 (x32 (turnV x 2) (turnV x 13)) (turnV x 22)) (b0N m) :=
 ((h.turn (c:=30) _ _ ac ac ac ac).xor (h.turn (c:=19) _ _ ac ac ac ac)).xor (h.turn (c:=10) _ _ ac ac ac ac)
def fc {α:Type} (n:Nat) (k:Nat→α):α:=match n with
 | 0=>k 0
 | m+1=>k (Nat.succ m)
theorem jj {α:Type} (n:Nat) (k:Nat→α):fc n k=k n:=by cases n<;>rfl
structure S8 where
 a:Nat
 b:Nat
 c:Nat
 d:Nat
 e:Nat
 f:Nat
 g:Nat
 h:Nat
structure RS (x:St8) (n:S8):Prop where
 a:IsN x.a n.a
 b:IsN x.b n.b
 c:IsN x.c n.c
 d:IsN x.d n.d
 e:IsN x.e n.e
 f:IsN x.f n.f
 g:IsN x.g n.g
 h:IsN x.h n.h
def t1N (h e f g k w:Nat):Nat:=((((h+b1N e)%4294967296+((e &&& f) ^^^ ((4294967295 ^^^ e) &&& g)))%4294967296+k)%4294967296+w)%4294967296
def t2N (a b c:Nat):Nat:=(b0N a+(((a &&& b) ^^^ (a &&& c)) ^^^ (b &&& c)))%4294967296
def roundN (s:S8) (k w:Nat):S8:=match s with
 | ⟨a,b,c,d,e,f,g,h⟩=>fc (t1N h e f g k w) fun t1=>fc ((t1+t2N a b c)%4294967296) fun x=>fc ((d+t1)%4294967296) fun y=>⟨x,a,b,c,y,e,f,g⟩
theorem RS.round {x:St8} {n:S8} (h:RS x n) {k w:Int} {k' w':Nat} (hk:IsN k k') (hw:IsN w w'):RS (roundV x k w) (roundN n k' w'):=by
 obtain ⟨a,b,c,d,e,f,g,hh⟩:=n
 obtain ⟨ha,hb,hc,hd,he,hf,hg,hh⟩:=h
 simp only [roundN,jj]
 have hm:IsN (if IntKind.u32.signed then -1 else IntKind.u32.max) 4294967295:=⟨by kernel_rfl,by decide⟩
 have h1:IsN (t1V x k w) (t1N _ e f g k' w'):=(((hh.add he.b1).add ((he.and hf).xor ((hm.xor he).and hg))).add hk).add hw
 have h2:IsN (t2V x) (t2N a b c):=ha.b0.add (((ha.and hb).xor (ha.and hc)).xor (hb.and hc))
 exact ⟨h1.add h2,ha,hb,hc,hd.add h1,he,hf,hg⟩
structure W16 where
 w0:Nat
 w1:Nat
 w2:Nat
 w3:Nat
 w4:Nat
 w5:Nat
 w6:Nat
 w7:Nat
 w8:Nat
 w9:Nat
 w10:Nat
 w11:Nat
 w12:Nat
 w13:Nat
 w14:Nat
 w15:Nat
def nextW (a b c d:Nat):Nat:=(((a+s0N b)%4294967296+c)%4294967296+s1N d)%4294967296
def W16.next (w:W16):W16:=match w with
 | ⟨a0,a1,a2,a3,a4,a5,a6,a7,a8,a9,a10,a11,a12,a13,a14,a15⟩=>fc (nextW a0 a1 a9 a14) fun x=>⟨a1,a2,a3,a4,a5,a6,a7,a8,a9,a10,a11,a12,a13,a14,a15,x⟩
def sN (f:Nat→Nat):Nat→Nat→Nat
 | 0,t=>f t
 | k+1,t=>if t=16+k then nextW (sN f k k) (sN f k (k+1)) (sN f k (k+9)) (sN f k (k+14)) else sN f k t
def winN (f:Nat→Nat) (t:Nat):W16:=⟨sN f t t,sN f t (t+1),sN f t (t+2),sN f t (t+3),sN f t (t+4),sN f t (t+5),sN f t (t+6),sN f t (t+7),sN f t (t+8),sN f t (t+9),sN f t (t+10),sN f t (t+11),sN f t (t+12),sN f t (t+13),sN f t (t+14),sN f t (t+15)⟩
theorem mK (f:Nat→Nat) {k t:Nat} (h:t≠16+k):sN f (k+1) t=sN f k t:=by rw [sN,ZH h]
theorem qC (f:Nat→Nat) (k:Nat):sN f (k+1) (16+k)=nextW (sN f k k) (sN f k (k+1)) (sN f k (k+9)) (sN f k (k+14)):=by rw [sN,ZG rfl]
theorem kw (f:Nat→Nat) {k t:Nat}:∀ j,t<16+k→sN f (k+j) t=sN f k t
 | 0,_=>rfl
 | j+1,h=>by
  rw [show k+(j+1)=(k+j)+1 from rfl,mK f (by omega)]
  exact kw f j h
theorem W16.next_eq (a0 a1 a2 a3 a4 a5 a6 a7 a8 a9 a10 a11 a12 a13 a14 a15:Nat):W16.next ⟨a0,a1,a2,a3,a4,a5,a6,a7,a8,a9,a10,a11,a12,a13,a14,a15⟩=⟨a1,a2,a3,a4,a5,a6,a7,a8,a9,a10,a11,a12,a13,a14,a15,nextW a0 a1 a9 a14⟩:=by rw [W16.next,jj]
theorem oB (f:Nat→Nat) (t:Nat):(winN f t).next=winN f (t+1):=by
 rw [winN,W16.next_eq,←qC,winN]
 have e:∀ j,j<15→sN f t (t+(j+1))=sN f (t+1) (t+1+j):=fun j hj=>by
  rw [mK f (by omega)];congr 1;omega
 have e15:sN f (t+1) (16+t)=sN f (t+1) (t+1+15):=by congr 1;omega
 rw [W16.mk.injEq]
 exact ⟨e 0 ab,e 1 ab,e 2 ab,e 3 ab,e 4 ab,e 5 ab,e 6 ab,e 7 ab,e 8 ab,e 9 ab,e 10 ab,e 11 ab,e 12 ab,e 13 ab,e 14 ab,e15⟩
theorem jG {s:ByteArray} {f:Nat→Nat} (h:∀ t,t<16→IsN (wordV s t) (f t)):∀ k,k≤48→∀ t,t<16+k→IsN ((w2 s k).getD t 0) (sN f k t)
 | 0,_,t,ht=>by
  have key:∀ i,i≤16→∀ t,t<i→(w1 s i).getD t 0=wordV s t:=fun i=>by
   induction i with
   | zero=>intro _ t ht;omega
   | succ i ih =>
    intro hi t ht
    rw [w1,Zl,List.getElem?_set]
    by_cases e:i=t
    · subst e
      rw [ZG rfl,ZG (by rw [km];omega)];rfl
    · rw [ZH e,←Zl]
      exact ih ab t ab
  rw [w2,key 16 ab t (by omega)]
  exact h t ab
 | k+1,hk,t,ht=>by
  have ih:=jG h k ab
  rw [w2,Zl,List.getElem?_set]
  by_cases e:16+k=t
  · subst e
    rw [ZG rfl,ZG (by rw [kj];omega),qC]
    have h0:=ih k ab
    have h1:=ih (16+k-15) ab
    have h9:=ih (16+k-7) ab
    have h14:=ih (16+k-2) ab
    rw [show 16+k-15=k+1 by omega] at h1
    rw [show 16+k-7=k+9 by omega] at h9
    rw [show 16+k-2=k+14 by omega] at h14
    have he:early (w2 s k) (16+k)=_:=rfl
    unfold early late
    rw [show 16+k-15=k+1 by omega,show 16+k-7=k+9 by omega,show 16+k-2=k+14 by omega]
    exact ((h0.add h1.s0).add h9).add h14.s1
  · rw [ZH e,←Zl,mK f (by omega)]
    exact ih t ab
def kN:List Nat:=kC.map Int.toNat
def stepN (p:S8×W16) (k:Nat):S8×W16:=match p with
 | (s,w)=>(roundN s k w.w0,w.next)
theorem qw (s:S8) (w:W16) (k:Nat):stepN (s,w) k=(roundN s k w.w0,w.next):=by unfold stepN;rfl
def roundsN (ks:List Nat) (s:S8) (w:W16):S8:=(ks.foldl stepN (s,w)).1
theorem o0 {x:St8} {ws:List Int} {f:Nat→Nat} (hw:∀ t,t<64→IsN (ws.getD t 0) (sN f t t)):∀ (n t:Nat) (s:S8),t+n=64→RS (roundsV x ws t) s→RS (roundsV x ws 64) ((kN.drop t).foldl stepN (s,winN f t)).1:=by
 intro n
 have hl:kN.length=64:=by kernel_rfl
 have hk:∀ t,t<64→kC.getD t 0=((kN.getD t 0:Nat):Int)∧kN.getD t 0<4294967296:=by decide +kernel
 induction n with
 | zero =>
  intro t s ht h
  have e:t=64:=by omega
  subst e
  rw [List.drop_of_length_le ab,List.foldl_nil]
  exact h
 | succ n ih =>
  intro t s ht h
  have hd:kN.drop t=kN[t]'(by omega)::kN.drop (t+1):=List.drop_eq_getElem_cons ab
  have e2:kN.getD t 0=kN[t]'(by omega):=by rw [Zl,Zc (by omega)];rfl
  have h1:=hk t ab
  rw [e2] at h1
  have hw0:(winN f t).w0=sN f t t:=by unfold winN;rfl
  have hr:roundsV x ws (t+1)=roundV (roundsV x ws t) (kC.getD t 0) (ws.getD t 0):=by rw [roundsV]
  rw [hd,Qq,qw,oB,hw0]
  refine ih (t+1) _ ab ?_
  rw [hr]
  exact h.round h1 (hw t ab)
theorem mL {x:St8} {ws:List Int} {f:Nat→Nat} (hw:∀ t,t<64→IsN (ws.getD t 0) (sN f t t)) {s:S8} (h:RS x s):RS (roundsV x ws 64) (roundsN kN s (winN f 0)):=by
 have h1:=o0 (x:=x) hw 64 0 s (ZL _) (by rw [roundsV];exact h)
 rw [List.drop_zero] at h1
 unfold roundsN
 exact h1
def addN (x y:S8):S8:=match x,y with
 | ⟨a,b,c,d,e,f,g,h⟩,⟨a',b',c',d',e',f',g',h'⟩=>fc ((a+a')%4294967296) fun a=>fc ((b+b')%4294967296) fun b=>fc ((c+c')%4294967296) fun c=>fc ((d+d')%4294967296) fun d=>fc ((e+e')%4294967296) fun e=>fc ((f+f')%4294967296) fun f=>fc ((g+g')%4294967296) fun g=>fc ((h+h')%4294967296) fun h=>⟨a,b,c,d,e,f,g,h⟩
def mixN (s:S8) (w:W16):S8:=addN s (roundsN kN s w)
theorem RS.add {x y:St8} {m n:S8} (h:RS x m) (h1:RS y n):RS ⟨a32 x.a y.a,a32 x.b y.b,a32 x.c y.c,a32 x.d y.d,a32 x.e y.e,a32 x.f y.f,a32 x.g y.g,a32 x.h y.h⟩ (addN m n):=by
 obtain ⟨a,b,c,d,e,f,g,hh⟩:=m
 obtain ⟨a',b',c',d',e',f',g',h'⟩:=n
 simp only [addN,jj]
 exact ⟨h.a.add h1.a,h.b.add h1.b,h.c.add h1.c,h.d.add h1.d,h.e.add h1.e,h.f.add h1.f,h.g.add h1.g,h.h.add h1.h⟩
theorem RS.mix {x:St8} {n:S8} (h:RS x n) {s:ByteArray} {f:Nat→Nat} (hs:∀ t,t<16→IsN (wordV s t) (f t)):RS (mixV x s) (mixN n (winN f 0)):=by
 have h1:=mL (x:=x) (ws:=schedV s) (f:=f) (fun t ht=>by
  have h2:=jG hs 48 ab t ab
  by_cases e:t≤48
  · have h3:=kw f (k:=t) (t:=t) (48-t) ab
    rw [show t+(48-t)=48 by omega] at h3
    rw [schedV]
    rwa [h3] at h2
  · have h3:=kw f (k:=48) (t:=t) (t-48) ab
    rw [show 48+(t-48)=t by omega] at h3
    rw [schedV,h3]
    exact h2) h
 unfold mixV mixN
 generalize roundsV x (schedV s) 64=y at h1 ⊢
 generalize roundsN kN n (winN f 0)=y' at h1 ⊢
 exact h.add h1
def nl (s:ByteArray):List Nat:=s.data.toList.map UInt8.toNat
theorem aZ (s:ByteArray):(nl s).length=s.size:=by simp [nl]
theorem bH (a b:ByteArray):nl (a++b)=nl a++nl b:=by simp [nl,ByteArray.data_append]
theorem iS (s:ByteArray):∀ x∈nl s,x<256:=fun x hx=>by
 obtain ⟨b,_,rfl⟩:=Qt.1 hx
 exact b.toNat_lt
theorem ew (s:ByteArray) (a b:Nat):nl (s.extract a b)=((nl s).drop a).take (b-a):=by
 simp [nl,ByteArray.data_extract,Array.toList_extract,List.map_take,List.map_drop]
theorem gF {a b:ByteArray} (h:nl a=nl b):a=b:=by
 apply ByteArray.ext
 apply Array.ext'
 have key:∀ l m:List UInt8,l.map UInt8.toNat=m.map UInt8.toNat→l=m:=fun l=>by
  induction l with
  | nil=>intro m h;cases m with|nil=>rfl|cons _ _=>cases h
  | cons a l ih =>
   intro m h
   cases m with
   | nil=>cases h
   | cons b m =>
    simp only [ZR,List.cons.injEq] at h
    rw [UInt8.toNat_inj.1 h.1,ih m h.2]
 exact key _ _ h
theorem pL (s:ByteArray):bytesI s=(nl s).map fun (n:Nat)=>(n:Int):=by simp [bytesI,nl,Function.comp_def]
def wdN (a b c d:Nat):Nat:=((a*16777216%4294967296 ||| (b*65536%4294967296)) ||| (c*256%4294967296)) ||| d
def fW (l:List Nat) (t:Nat):Nat:=wdN (l.getD (4*t) 0) (l.getD (4*t+1) 0) (l.getD (4*t+2) 0) (l.getD (4*t+3) 0)
theorem pM (s:ByteArray) (i j:Nat) (hj:j<4):byteAt (s.extract (4*(i:Int)).toNat (4*(i:Int)+4).toNat) j=(((nl s).getD (4*i+j) 0:Nat):Int):=by
 have h1:(4*(i:Int)).toNat=4*i:=by omega
 have h2:(4*(i:Int)+4).toNat=4*i+4:=by omega
 have h0:∀ (e:ByteArray) (k:Nat),byteAt e k=(((nl e).getD k 0:Nat):Int):=fun e k=>by
  simp only [byteAt,nl,Zl,ZX]
  cases e.data.toList[k]?<;>rfl
 rw [h1,h2,h0,ew,show 4*i+4-4*i=4 by omega,Zl,Zl,Qr,ZG hj,List.getElem?_drop]
theorem iu {l:List Nat} (h:∀ x∈l,x<256) (i:Nat):l.getD i 0<256:=by
 rw [Zl]
 cases hx:l[i]? with
 | none=>decide
 | some x=>exact h x (ZW hx)
theorem r4 (s:ByteArray) (i:Nat):IsN (wordV s i) (fW (nl s) i):=by
 have hb:∀ j,j<4→IsN (IntKind.u32.wrap (byteAt (s.extract (4*(i:Int)).toNat (4*(i:Int)+4).toNat) j)) ((nl s).getD (4*i+j) 0):=fun j hj=>by
  have h:=iu (iS s) (4*i+j)
  rw [pM s i j hj,wrap32,Zz (by omega)]
  exact ⟨rfl,by omega⟩
 unfold wordV fW wdN
 exact ((((hb 0 ab).shl 16777216 ac).or ((hb 1 ab).shl 65536 ac)).or ((hb 2 ab).shl 256 ac)).or (hb 3 ab)
def rd1 {α:Type} (z:α) (l:List Nat) (k:Nat→List Nat→α):α:=match l with
 | a::b::c::d::r=>fc (wdN a b c d) fun w=>k w r
 | _=>z
theorem uc {α:Type} {z:α} {l:List Nat} {k:Nat→List Nat→α} (h:4≤l.length):rd1 z l k=k (fW l 0) (l.drop 4):=by
 match l,h with
 | a::b::c::d::r,_=>rw [rd1,jj];rfl
def blkN {α:Type} (z:α) (l:List Nat) (k:W16→List Nat→α):α :=
 rd1 z l fun w0 l=>rd1 z l fun w1 l=>rd1 z l fun w2 l=>rd1 z l fun w3 l=>rd1 z l fun w4 l=>rd1 z l fun w5 l=>rd1 z l fun w6 l=>rd1 z l fun w7 l =>
 rd1 z l fun w8 l=>rd1 z l fun w9 l=>rd1 z l fun w10 l=>rd1 z l fun w11 l=>rd1 z l fun w12 l=>rd1 z l fun w13 l=>rd1 z l fun w14 l=>rd1 z l fun w15 l =>
 k ⟨w0,w1,w2,w3,w4,w5,w6,w7,w8,w9,w10,w11,w12,w13,w14,w15⟩ l
theorem tc (l:List Nat) (m t:Nat):fW (l.drop (4*m)) t=fW l (m+t):=by
 have e:∀ j,(l.drop (4*m)).getD (4*t+j) 0=l.getD (4*(m+t)+j) 0:=fun j=>by
  rw [Zl,Zl,List.getElem?_drop,show 4*m+(4*t+j)=4*(m+t)+j by omega]
 have e0:=e 0
 simp only [ZK] at e0
 rw [fW,fW,e0,e 1,e 2,e 3]
theorem tn {α:Type} {z:α} {l:List Nat} {k:W16→List Nat→α} (h:64≤l.length):blkN z l k=k (winN (fW l) 0) (l.drop 64):=by
 have st:∀ (m:Nat) (k':Nat→List Nat→α),m<16→rd1 z (l.drop (4*m)) k'=k' (fW l m) (l.drop (4*(m+1))):=fun m k' hm=>by
  rw [uc (by rw [Qf];omega),tc,List.drop_drop]
  rfl
 have h0:l=l.drop (4*0):=rfl
 unfold blkN
 rw [h0,st 0 _ ab,st 1 _ ab,st 2 _ ab,st 3 _ ab,st 4 _ ab,st 5 _ ab,st 6 _ ab,st 7 _ ab,st 8 _ ab,st 9 _ ab,st 10 _ ab,st 11 _ ab,st 12 _ ab,st 13 _ ab,st 14 _ ab,st 15 _ (by omega)]
 rfl
def runN:Nat→S8→List Nat→S8
 | 0,x,_=>x
 | f+1,x,l=>blkN x l fun w r=>runN f (mixN x w) r
theorem fe {f:Nat} {x:S8} {l:List Nat} (h:64≤l.length):runN (f+1) x l=runN f (mixN x (winN (fW l) 0)) (l.drop 64):=tn h
theorem tb {l:List Nat} (t:Nat) (h:t<16):fW (l.take 64) t=fW l t:=by
 have e:∀ j,j<64→(l.take 64).getD j 0=l.getD j 0:=fun j hj=>by
  rw [Zl,Zl,Qr,ZG hj]
 rw [fW,fW,e _ ab,e _ ab,e _ ab,e _ (by omega)]
theorem RS.blk {x:St8} {n:S8} (h:RS x n) (r:ByteArray) (hr:64≤r.size):RS (mixV x (r.extract 0 64)) (mixN n (winN (fW (nl r)) 0)) :=
 h.mix fun t ht=>by
  have h1:=r4 (r.extract 0 64) t
  rw [ew,List.drop_zero] at h1
  rwa [tb t ht] at h1
theorem kF (r:ByteArray):nl (r.extract 64 r.size)=(nl r).drop 64:=by
 rw [ew,Z4 (by rw [Qf,aZ];omega)]
theorem jE (r:ByteArray) (h:64≤r.size):(r.extract 64 r.size).size=r.size-64:=by
 rw [←aZ,kF,Qf,aZ]
theorem jP:∀ (f:Nat) (x:St8) (n:S8) (r:ByteArray),RS x n→r.size/64≤f→RS (loopV f x r).1 (runN (r.size/64) n (nl r))∧nl (loopV f x r).2=(nl r).drop (64*(r.size/64))
 | 0,x,n,r,h,hf=>by
  have e:r.size/64=0:=by omega
  rw [e]
  exact ⟨h,rfl⟩
 | f+1,x,n,r,h,hf=>by
  by_cases hr:64≤r.size
  · have e:r.size/64=(r.size-64)/64+1:=by omega
    have hs:=jE r hr
    have ih:=jP f (mixV x (r.extract 0 64)) _ (r.extract 64 r.size) (h.blk r hr) (by rw [hs];omega)
    rw [hs,kF] at ih
    have e2:loopV (f+1) x r=loopV f (mixV x (r.extract 0 64)) (r.extract 64 r.size):=by rw [loopV,Ze ab,Zg]
    rw [e2,e,fe (by rw [aZ];omega)]
    refine ⟨ih.1,?_⟩
    rw [ih.2,List.drop_drop]
    congr 1
    omega
  · have e:r.size/64=0:=by omega
    have e2:loopV (f+1) x r=(x,r):=by rw [loopV,Zd ab,Zf]
    rw [e,e2]
    exact ⟨h,rfl⟩
theorem jQ:∀ (f:Nat) (x:St8) (n:S8) (r:ByteArray),RS x n→r.size%64=0→r.size/64≤f→RS (loopE f x r) (runN (r.size/64) n (nl r))
 | 0,x,n,r,h,_,hf=>by
  have e:r.size/64=0:=by omega
  rw [e]
  exact h
 | f+1,x,n,r,h,hm,hf=>by
  by_cases hr:r.size=0
  · have e:r.size/64=0:=by omega
    have e2:loopE (f+1) x r=x:=by rw [loopE,bt,Ze hr,Zg]
    rw [e,e2]
    exact h
  · have hs:=jE r ab
    have e:r.size/64=(r.size-64)/64+1:=by omega
    have ih:=jQ f (mixV x (r.extract 0 64)) _ (r.extract 64 r.size) (h.blk r ab) (by rw [hs];omega) (by rw [hs];omega)
    rw [hs,kF] at ih
    have e2:loopE (f+1) x r=loopE f (mixV x (r.extract 0 64)) (r.extract 64 r.size):=by rw [loopE,bt,Zd hr,Zf]
    rw [e2,e,fe (by rw [aZ];omega)]
    exact ih
theorem my {f g:Nat→Nat} (h:∀ t,t<16→f t=g t):winN f 0=winN g 0:=by
 have e:∀ t,t<16→sN f 0 t=sN g 0 t:=fun t ht=>by rw [sN,sN];exact h t ht
 rw [winN,winN,W16.mk.injEq]
 exact ⟨e 0 ab,e 1 ab,e 2 ab,e 3 ab,e 4 ab,e 5 ab,e 6 ab,e 7 ab,e 8 ab,e 9 ab,e 10 ab,e 11 ab,e 12 ab,e 13 ab,e 14 ab,e 15 ab⟩
theorem pE {l e:List Nat} (h:64≤l.length) (t:Nat) (ht:t<16):fW (l++e) t=fW l t:=by
 have k:∀ j,j<64→(l++e).getD j 0=l.getD j 0:=fun j hj=>by
  rw [Zl,Zl,List.getElem?_append_left (by omega)]
 rw [fW,fW,k _ ab,k _ ab,k _ ab,k _ (by omega)]
theorem gW (h:Nat) (e:List Nat):∀ (g:Nat) (x:S8) (l:List Nat),64*g≤l.length→runN (g+h) x (l++e)=runN h (runN g x l) (l.drop (64*g)++e)
 | 0,x,l,_=>by
  rw [ZL,Nat.mul_zero,List.drop_zero,runN]
 | g+1,x,l,hl=>by
  have ih:=gW h e g (mixN x (winN (fW l) 0)) (l.drop 64) (by rw [Qf];omega)
  rw [show g+1+h=(g+h)+1 by omega,fe (by rw [Zw];omega),my (fun t ht=>pE ab t ht),List.drop_append_of_le_length ab,ih,fe ab,List.drop_drop]
  congr 3
  omega
def sizeN (n:Nat):List Nat:=[n*8/72057594037927936%256,n*8/281474976710656%256,n*8/1099511627776%256,n*8/4294967296%256,n*8/16777216%256,n*8/65536%256,n*8/256%256,n*8%256]
def padL (l:List Nat):List Nat:=l++(128::(List.replicate (padN (l.length+1)) 0++sizeN l.length))
def iniN:S8:=⟨1779033703,3144134277,1013904242,2773480762,1359893119,2600822924,528734635,1541459225⟩
def d4N (w:Nat):List Nat:=[w/16777216%256,w/65536%256,w/256%256,w%256]
def digN (s:S8):List Nat:=match s with
 | ⟨a,b,c,d,e,f,g,h⟩=>d4N a++(d4N b++(d4N c++(d4N d++(d4N e++(d4N f++(d4N g++d4N h))))))
def shaL (l:List Nat):List Nat:=digN (runN ((padL l).length/64) iniN (padL l))
theorem wrap8 (n:Nat):IntKind.u8.wrap (n:Int)=((n%256:Nat):Int):=by
 simp [IntKind.wrap,IntKind.signed,IntKind.bits]
theorem dU (ns:List Nat) (h:∀ x∈ns,x<256):nl (ofInts (ns.map fun (n:Nat)=>(n:Int)))=ns:=by
 have key:∀ (ns:List Nat) (r:ByteArray),(∀ x∈ns,x<256)→nl ((ns.map fun (n:Nat)=>(n:Int)).foldl (fun r n=>r.push (UInt8.ofNat n.toNat)) r)=nl r++ns:=fun ns=>by
  induction ns with
  | nil=>intro r _;simp
  | cons a ns ih =>
   intro r h
   rw [ZR,Qq,ih _ fun x hx=>h x (Zr _ hx)]
   have ha:=h a aC
   have:nl (r.push (UInt8.ofNat ((a:Int)).toNat))=nl r++[a]:=by
    simp [nl,ByteArray.data_push,Zz ha]
   rw [this,Zy]
   rfl
 have:=key ns ByteArray.empty h
 simpa [ofInts,nl] using this
theorem dF {x:Int} {n:Nat} (h:IsN x n):digB x=(d4N n).map fun (n:Nat)=>(n:Int):=by
 have h24:=(h.shr (c:=24) 16777216 ac).1
 have h16:=(h.shr (c:=16) 65536 ac).1
 have h8:=(h.shr (c:=8) 256 ac).1
 unfold digB d4N
 rw [h24,h16,h8,h.1,wrap8,wrap8,wrap8,wrap8]
 rfl
theorem vb (n:Nat):∀ x∈d4N n,x<256:=fun x hx=>by
 simp only [d4N,ZC,Z8,or_false] at hx
 rcases hx with rfl|rfl|rfl|rfl<;>exact Z1 _ (by decide)
theorem uu {x:St8} {n:S8} (h:RS x n):nl (ofInts (x.l.flatMap digB))=digN n:=by
 obtain ⟨a,b,c,d,e,f,g,hh⟩:=n
 have e1:x.l.flatMap digB=(digN ⟨a,b,c,d,e,f,g,hh⟩).map fun (n:Nat)=>(n:Int):=by
  simp only [St8.l,digN,List.flatMap_cons,List.flatMap_nil,ZD,ZM,dF h.a,dF h.b,dF h.c,dF h.d,dF h.e,dF h.f,dF h.g,dF h.h]
 rw [e1]
 refine dU _ fun x hx=>?_
 simp only [digN,Qk] at hx
 rcases hx with h|h|h|h|h|h|h|h<;>exact vb _ _ h
theorem qy (n:Nat) (hn:n<2305843009213693952):sizeB (n:Int) 8=(sizeN n).map fun (n:Nat)=>(n:Int):=by
 have hw:∀ m:Nat,m<18446744073709551616→IntKind.u64.wrap (m:Int)=(m:Int):=fun m hm=>by
  simp [IntKind.wrap,IntKind.signed,IntKind.bits]
  omega
 have h1:IntKind.u64.wrap (IntKind.u64.wrap (n:Int)*8)=((n*8:Nat):Int):=by
  rw [hw n ab,show (n:Int)*8=((n*8:Nat):Int) by omega,hw _ (by omega)]
 have hs:∀ (c:Int) (p:Nat),(2:Int) ^ (min c.toNat 64)=(p:Int)→shrV .u64 ((n*8:Nat):Int) c=((n*8/p:Nat):Int):=fun c p hp=>by
  show ((n*8:Nat):Int).fdiv (2 ^ (min c.toNat 64))=_
  rw [hp,←Int.ofNat_fdiv]
 unfold sizeB sizeN
 rw [h1,show List.range 8=[0,1,2,3,4,5,6,7] by rfl]
 simp only [ZR,List.map_nil]
 rw [hs _ 72057594037927936 ac,hs _ 281474976710656 ac,hs _ 1099511627776 ac,hs _ 4294967296 ac,hs _ 16777216 ac,hs _ 65536 ac,hs _ 256 ac,hs _ 1 ac,Nat.div_one]
 simp only [wrap8]
theorem ut (s:ByteArray) (n:Nat) (hn:n<2305843009213693952):nl (endV s (n:Int))=nl s++(128::(List.replicate (padN (s.size+1)) 0++sizeN n)):=by
 have e:endL s++List.replicate (padN (s.size+1)) 0++sizeB (n:Int) 8=(nl s++(128::(List.replicate (padN (s.size+1)) 0++sizeN n))).map fun (n:Nat)=>(n:Int):=by
  rw [endL,pL,qy n hn]
  simp
 rw [endV,e]
 refine dU _ fun x hx=>?_
 simp only [Qk,ZC,List.mem_replicate] at hx
 rcases hx with h|h|h|h
 · exact iS s x h
 · omega
 · omega
 · simp only [sizeN,ZC,Z8,or_false] at h
   rcases h with rfl|rfl|rfl|rfl|rfl|rfl|rfl|rfl<;>exact Z1 _ (by decide)
theorem gA (s:ByteArray) (hs:s.size<2305843009213693952):nl (shaV s)=shaL (nl s):=by
 have hi:RS iniS iniN:=⟨⟨rfl,by decide⟩,⟨rfl,by decide⟩,⟨rfl,by decide⟩,⟨rfl,by decide⟩,⟨rfl,by decide⟩,⟨rfl,by decide⟩,⟨rfl,by decide⟩,⟨rfl,by decide⟩⟩
 obtain ⟨h1,h2⟩:=jP s.size iniS iniN s hi (Nat.div_le_self _ _)
 have h3:shaV s=ofInts ((loopE (endV (loopV s.size iniS s).2 s.size).size (loopV s.size iniS s).1 (endV (loopV s.size iniS s).2 s.size)).l.flatMap digB):=rfl
 rw [h3]
 generalize loopV s.size iniS s=p at h1 h2
 have he:=ut p.2 s.size hs
 have hps:p.2.size=s.size%64:=by
  rw [←aZ,h2,Qf,aZ]
  omega
 have hlen:(endV p.2 s.size).size%64=0:=j1 _ _
 have h4:=jQ (endV p.2 s.size).size p.1 _ (endV p.2 s.size) h1 hlen (Nat.div_le_self _ _)
 rw [uu h4,shaL]
 congr 1
 have hpad:padN (p.2.size+1)=padN ((nl s).length+1):=by
  rw [hps,aZ,padN,padN]
  omega
 have hpl:padL (nl s)=nl s++(128::(List.replicate (padN ((nl s).length+1)) 0++sizeN s.size)):=by rw [padL,aZ]
 have hll:(padL (nl s)).length/64=s.size/64+(endV p.2 s.size).size/64:=by
  have e1:(endV p.2 s.size).size=(s.size%64)+1+padN ((nl s).length+1)+8:=by
   rw [←aZ,he,h2,hpad]
   simp only [Zw,Zx,List.length_replicate,Qf,aZ,sizeN,ZJ]
   omega
  have e2:(padL (nl s)).length=s.size+1+padN ((nl s).length+1)+8:=by
   rw [hpl]
   simp only [Zw,Zx,List.length_replicate,aZ,sizeN,ZJ]
   omega
  rw [e1,e2]
  rw [e1] at hlen
  omega
 rw [hll,hpl,gW _ _ _ _ _ (by rw [aZ];omega),he,h2,hpad]
end Go.Proofs.YtamfbppnlomgfaaGreatDoor
namespace Go.Proofs.YtamfbppnlomgfaaGreatDoor.Sy
open Go Go.RowKit
theorem Xn.later {av bor:List Nat} {w0 w w':World} {loc:List Xi} {X:World→Prop} (G:Xn av bor w0 loc X w) (hB:Below w.heap.size w w'):Xn av bor w0 loc X w' :=
 (Xn.more (r:=⟨[],fun _=>True⟩) G hB (fun _ _=>trivial) List.nodup_nil (fun i hi=>by cases hi)).drop (List.sublist_cons_self _ _)
section
variable {P:Program} {N:Nat} {av bor:List Nat} {w0:World} {ops:Array Oper} {rest:List Oper} {k:St→Prop} {E:Env} {loc:List Xi} {X:World→Prop}
variable {ty:TypeId} {pos:String} {af:Array Edge} {g:Option (Nat×Bool)} {bb want:Bool}
theorem db {n:Nat} {x:Operand} {xs:List Operand} {ats:Array TypeId} {f:FuncId} {args:List Value} {X1:World→Prop} {v:Value} (h:Sw P N av bor w0 ops rest ⟨(n,v)::E,loc,X⟩ k) (hx:ev E x=some (.func (.func f) #[] #[]):=by rfl) (ha:evs E xs=some args:=by rfl) (hg:gdB ops E g=some (bb,want):=by rfl) (hb:bb=want:=by exact ay) (hd:Nat.blt n N=true:=by rfl) (hf:Xz P f:=by first|infer_instance|exact ⟨ac⟩) (hc:Pu P f args.toArray X1 v) (hX:∀ w,X w→(∀ r∈loc,r.F w)→X1 w) :
  Sw P N av bor w0 ops (⟨some n,.call ⟨.value x,xs.toArray,ats⟩,ty,pos,af,g⟩::rest) ⟨E,loc,X⟩ k:=Sw.mk fun a w ok=>by
 have hd':inB N (some n)=true:=by have h1:n<N:=Zt hd;simpa [inB] using h1
 simp only [wpList]
 rw [aM ok (o:=⟨some n,.call ⟨.value x,xs.toArray,ats⟩,ty,pos,af,g⟩) hg]
 subst hb
 simp only [Zv,ZF]
 left
 unfold Oper.wp
 have hr:(execOp a.eval ⟨some n,.call ⟨.value x,xs.toArray,ats⟩,ty,pos,af,g⟩).run P w=.ok (.enter f args.toArray) w:=by
  have e:=eU ok xs args ha
  have e1:xs.toArray.map a.eval=args.toArray:=by rw [List.map_toArray,e]
  simp only [execOp,resolve,ok.eval (st:=⟨E,loc,X⟩) hx,Deferred.ofValue,invoke,e1]
  simp only [Sem.run_bind,Sem.run_pure,Result.andThen_ok]
  have e2:(#[]:Array Value)++args.toArray++#[]=args.toArray:=by simp
  rw [e2]
  exact gE _ w
 rw [hr]
 have G1:=ok.gam.giveAll
 have G0:=(Xn.start (pre:=[]) (fr:=[]) G1).imp (fun w h=>hX w h.1 h.2)
 unfold Pu at hc
 refine (Ct.run hc w _ G0).mono fun e w' ⟨u,R,X',he,⟨hu,hR⟩,G'⟩=>?_
 subst he
 subst hu
 have ok':Ok N av bor w0 ⟨E,loc,X⟩ a w':=ok.via fun M G=>Xn.later G G'.fr.below
 exact h.run _ _ (bw (some n) _▸ok'.put hd' _)
end
end Go.Proofs.YtamfbppnlomgfaaGreatDoor.Sy
namespace Go.Proofs.YtamfbppnlomgfaaGreatDoor
open Go Go.Proofs Sy Go.Shelf Go.RowKit Tryz
def numF (l:List Nat):Nat→Nat
 | 0=>0
 | k+1=>numF l k*256+l.getD k 0
def numN (l:List Nat):Nat:=numF l 8/8
theorem fX (s:ByteArray):∀ k,numF (nl s) k<256 ^ k
 | 0=>by simp [numF]
 | k+1=>by
  have h1:=fX s k
  have h2:=iu (iS s) k
  rw [numF,Nat.pow_succ]
  omega
theorem numF7 (s:ByteArray) {k:Nat} (hk:k<8):numF (nl s) k<72057594037927936:=by
 have h1:=fX s k
 have h2:256 ^ k≤256 ^ 7:=Nat.pow_le_pow_right (by decide) ab
 have h3:(256:Nat) ^ 7=72057594037927936:=by decide
 omega
theorem numF8 (s:ByteArray) {k:Nat} (hk:k<8):numF (nl s) k*256<18446744073709551616:=by
 have h1:=fX s k
 have h2:256 ^ k≤256 ^ 7:=Nat.pow_le_pow_right (by decide) ab
 have h3:(256:Nat) ^ 7=72057594037927936:=by decide
 omega
theorem shl8 (x:Nat) (h:x*256<18446744073709551616):shlV .u64 (x:Int) 8=((x*256:Nat):Int):=by
 show IntKind.u64.wrap ((x:Int)*2 ^ (min (8:Int).toNat 64))=_
 rw [show ((2:Int) ^ (min (8:Int).toNat 64))=256 from by kernel_rfl,br _ (by omega)]
 omega
theorem or8 (x b:Nat) (hb:b<256) (h:x<72057594037927936):bitsV .or .u64 ((x*256:Nat):Int) (b:Int)=((x*256+b:Nat):Int):=by
 have hx:x*256+b<18446744073709551616:=by omega
 have hy:x*256<18446744073709551616:=Nat.lt_of_le_of_lt (Nat.le_add_right _ _) hx
 have hz:b<18446744073709551616:=by omega
 have hw:IntKind.u64.wrap ((x*256+b:Nat):Int)=((x*256+b:Nat):Int):=br _ ab
 have e:x*256 ||| b=x*256+b:=by
  have:=Nat.shiftLeft_add_eq_or_of_lt (a:=x) (b:=b) (i:=8) hb
  rw [Nat.shiftLeft_eq] at this
  exact this.symm
 show IntKind.u64.wrap ((((BitVec.ofInt 64 ((x*256:Nat):Int)) ||| (BitVec.ofInt 64 (b:Int))).toNat:Nat):Int)=_
 rw [Qa,Qa,BitVec.toNat_or,Qd,Qd,Zz (show x*256<2 ^ 64 from hy),Zz (show b<2 ^ 64 from hz),e,hw]
theorem shr3 (x:Nat):shrV .u64 (x:Int) 3=((x/8:Nat):Int):=by
 show (x:Int).fdiv (2 ^ (min (3:Int).toNat 64))=_
 rw [show ((2:Int) ^ (min (3:Int).toNat 64))=((8:Nat):Int) from by kernel_rfl,←Int.ofNat_fdiv]
theorem oy (s:ByteArray) (k:Nat) (hk:k<s.size):byteAt s k=(((nl s).getD k 0:Nat):Int):=by
 simp only [byteAt,nl,Zl,ZX]
 have hl:k<s.data.toList.length:=by simpa using hk
 rw [Zc hl]
 rfl
theorem jB (s:ByteArray):Pu prog 56 #[.string s] (fun _=>True) (.int .i64 (numN (nl s):Nat)):=by
 refine ax func56 ntmps56 fun av bor w0=>?_
 repeat' (first|refine gs ?_|(refine gp ?_ ?_<;>intro hx_ this)|fail)
 refine az (ι:=Kth 8) (fun i=>⟨[(0,.string s),(3,.int .u64 (numF (nl s) i.k:Nat)),(5,.int .i64 i.k)],[],fun _=>True⟩) (fun i=>8-i.k) ⟨0,ZU _⟩ (ak aw (aj _) fun _ h=>h) fun i=>?_
 have hik:=i.hk
 repeat' (first|refine gs ?_|(refine gp ?_ ?_<;>intro hx_ this)|fail)
 · have hlt:i.k<8:=by omega
   have hs:i.k<s.size:=by omega
   have hb:=iu (iS s) i.k
   have hE:bitsV .or .u64 (shlV .u64 ((numF (nl s) i.k:Nat):Int) 8) (IntKind.u64.wrap (byteAt s (i.k:Int).toNat))=((numF (nl s) (i.k+1):Nat):Int):=by
    rw [shl8 _ (numF8 s hlt),show ((i.k:Int)).toNat=i.k from rfl,oy s _ hs,br _ ab,or8 _ _ hb (numF7 s hlt)]
    rfl
   exact ⟨⟨i.k+1,hlt⟩,(by show 8-(i.k+1)<8-i.k;omega),ak ⟨rfl,congrArg (fun z=>some (Value.int IntKind.u64 z)) hE,rfl,trivial⟩ (aj _) fun _ h=>h⟩
 · have hlt:i.k<8:=by omega
   have hs:s.size≤i.k:=by omega
   have hE:shlV .u64 ((numF (nl s) i.k:Nat):Int) 8=((numF (nl s) (i.k+1):Nat):Int):=by
    rw [shl8 _ (numF8 s hlt),numF,Zl,List.getElem?_eq_none (by rw [aZ];exact hs),Option.getD_none,ZK]
   exact ⟨⟨i.k+1,hlt⟩,(by show 8-(i.k+1)<8-i.k;omega),ak ⟨rfl,congrArg (fun z=>some (Value.int IntKind.u64 z)) hE,rfl,trivial⟩ (aj _) fun _ h=>h⟩
 · have h8:i.k=8:=by omega
   apply aa;apply ai;rfl;rfl
   have hl:=fX s 8
   have hp:(256:Nat) ^ 8=18446744073709551616:=by decide
   rw [h8,shr3,IntWalk.i64_in _ (by omega)]
   rfl
theorem nI (s:ByteArray):numN (nl s)<2305843009213693952:=by
 have hl:=fX s 8
 have hp:(256:Nat) ^ 8=18446744073709551616:=by decide
 rw [numN]
 omega
def catB (l:List ByteArray):ByteArray:=l.foldr (fun a b=>a++b) ⟨#[]⟩
theorem mU:∀ l:List ByteArray,nl (catB l)=l.flatMap nl
 | []=>rfl
 | a::l=>by
  show nl (a++catB l)=_
  rw [bH,mU l,List.flatMap_cons]
def PartsAt (b T:Nat) (xs:List ByteArray) (w:World):Prop:=w.heap[b]?=some (.cells (xs.map Value.string).toArray T (0,0))
theorem lz {P:Program} {f:FuncId} {args:Array Value} {X:World→Prop} {v:Value} (h:∀ w,X w→Calls P f args w fun e w'=>e=.returned v∧Below w.heap.size w w'):Pu P f args X v:=by
 unfold Pu
 exact Ct.mk fun w av G=>(h w G.keep.now).mono fun e w' ⟨he,hw⟩=>⟨v,[],X,he,⟨rfl,rfl⟩,Xn.later G hw⟩
theorem joinX:Builder.Extra prog Tryz.join_ren where
 sizeBuilder:=by kernel_rfl
 liesBuilder:=by kernel_rfl
 t5:=by kernel_rfl
 a5:=fun w=>by simp [isAgg,run_underlying (show prog.underlying (Tryz.join_ren.t 5)=some (.int .u8) from by kernel_rfl)]
 z5:=fun w=>Sy.run_sizeOf (P:=prog) (t:=Tryz.join_ren.t 5) (n:=1) ac w
 v5:=fun w=>cb (show zeroOf prog (Tryz.join_ren.t 5)=some (.int .u8 0) from by kernel_rfl) w
 infoByte:=by kernel_rfl
 cellsByte:=by kernel_rfl
 sizeByte:=by kernel_rfl
 neB5:=by decide
theorem pg (l:List (List UInt8)):Lib.join l []=l.flatten:=by
 rw [Lib.join,List.intercalate]
 induction l with
 | nil=>rfl
 | cons a l ih =>
  cases l with
  | nil=>simp
  | cons b l=>simpa using ih
theorem rJ (xs:List ByteArray):(⟨(Lib.join (xs.map (·.data.toList)) (⟨#[]⟩:ByteArray).data.toList).toArray⟩:ByteArray)=catB xs:=by
 have e:(⟨#[]⟩:ByteArray).data.toList=[]:=rfl
 rw [e,pg]
 apply gF
 rw [mU]
 simp [nl,List.map_flatten,List.flatMap_def,Function.comp_def]
 rfl
theorem dt (xs:List ByteArray):(catB xs).size=(xs.map ByteArray.size).sum:=by
 induction xs with
 | nil=>rfl
 | cons a l ih =>
  show (a++catB l).size=_
  rw [Zb,ih,ZR,List.sum_cons]
theorem sH (b T c:Nat) (xs:List ByteArray) (hc:xs.length≤c) (hn:xs.length≤1000) (hs:(catB xs).size≤1099511627776):Pu prog 57 #[.slice (some ⟨b,0,none⟩) xs.length c,.string ⟨#[]⟩] (PartsAt b T xs) (.string (catB xs)) :=
 lz fun w h=>by
  have hcell:∀ (j:Nat) x,xs[j]?=some x→w.cell? ⟨b,0+j,none⟩=some (.string x):=fun j x hj=>by
   simp [World.cell?,show w.heap[b]?=_ from h,hj]
  have hl:(Lib.join (xs.map (·.data.toList)) (⟨#[]⟩:ByteArray).data.toList).length=(catB xs).size:=by
   rw [←rJ xs]
   simp [ByteArray.size]
  have:=Any.strings_Join Tryz.join joinX b 0 c xs ⟨#[]⟩ w hcell (Qv.1 h).1 ab hc (by rw [hl];omega)
  rw [rJ xs] at this
  exact this
theorem ir (b T c:Nat) (xs:List ByteArray) (hc:xs.length≤c) (hn:xs.length≤1000) (hs:(catB xs).size≤1099511627776) :
  Pu prog 23 #[.slice (some ⟨b,0,none⟩) xs.length c] (fun w=>PartsAt b T xs w∧Xc w) (.int .i64 (numN (nl (shaV (catB xs))):Nat)):=by
 refine ax func23 ntmps23 fun av bor w0=>?_
 repeat' (first|(refine ae (hc:=sH b T c xs hc hn hs) ?_)|(refine ae (hc:=gy (catB xs) hs) ?_)|refine ae (hc:=jB (shaV (catB xs))) ?_|refine gs ?_|(refine gp ?_ ?_<;>intro hx_ this)|fail)
 apply aa;apply ai;rfl;rfl
 rfl
end Go.Proofs.YtamfbppnlomgfaaGreatDoor
namespace Go.Proofs.YtamfbppnlomgfaaGreatDoor
open Go Go.Proofs Sy Tryz
def hashN (xs:List ByteArray):Nat:=numN (nl (shaV (catB xs)))
theorem lQ (xs:List ByteArray):hashN xs<2305843009213693952:=nI _
def reduceN (h:Nat):Nat:=1+h%2305843009213693949
theorem gX (h:Nat):1≤reduceN h:=Nat.le_add_right _ _
theorem fG (h:Nat):reduceN h≤2305843009213693949:=by
 have:=Z1 h (show 2305843009213693949>0 by decide)
 unfold reduceN
 omega
theorem jK (h:Nat) (hh:h<2305843009213693952):Pu prog 22 #[.int .i64 (h:Int)] (fun _=>True) (.int .i64 (reduceN h:Nat)):=by
 refine ax func22 ntmps22 fun av bor w0=>?_
 repeat' (first|refine eI (c:=((h%2305843009213693949:Nat):Int)) (hc:=(Int.ofNat_tmod h 2305843009213693949).symm) (hb:=by decide) ?_|refine gs ?_|(refine gp ?_ ?_<;>intro hx_ this)|fail)
 apply aa;apply ai;rfl;rfl
 rfl
def chalP (r p:Nat) (msg:ByteArray):List ByteArray:=[textV ⟨#[115,105,103,110]⟩,numV (r:Int),numV (p:Int),textV msg]
def chalN (r p:Nat) (msg:ByteArray):Nat:=hashN (chalP r p msg)%2305843009213693950
theorem ow (r p:Nat) (msg:ByteArray) (hr:r<9223372036854775808) (hp:p<9223372036854775808) (hm:msg.size≤1000000000000) :
  Pu prog 78 #[.int .i64 (r:Int),.int .i64 (p:Int),.string msg] Xc (.int .i64 (chalN r p msg:Nat)):=by
 refine ax func78 ntmps78 fun av bor w0=>?_
 have hsz:(catB (chalP r p msg)).size≤1099511627776:=by
  have h1:=aq ⟨#[115,105,103,110]⟩
  have h2:=ar (r:Int)
  have h3:=ar (p:Int)
  have h4:=aq msg
  have h5:(⟨#[115,105,103,110]⟩:ByteArray).size=4:=rfl
  rw [dt]
  simp only [chalP,ZR,List.map_nil,List.sum_cons,List.sum_nil]
  omega
 repeat' (first|refine eI (c:=((chalN r p msg:Nat):Int)) (hc:=(Int.ofNat_tmod (hashN (chalP r p msg)) 2305843009213693950).symm) (hb:=by decide) ?_|refine ae (hc:=bD _ (by first|omega|decide)) ?_|refine ae (hc:=bF _ ab) ?_|(refine db (hc:=ir _ 9 4 (chalP r p msg) (show 4≤4 by decide) (show 4≤1000 by decide) hsz) (hX:=fun w h hr=>⟨hr _ aC,h⟩) ?_)|refine gs ?_|refine gs1 fun _=>?_|(refine gp ?_ ?_<;>intro hx_ this)|fail)
 apply aa;apply ai;rfl;rfl
 rfl
structure X9 where
 s:Int
 p:Int
def X9.cells (k:X9):List Value:=[.int .i64 k.s,.int .i64 k.p]
def X9.v (k:X9):Value:=.agg k.cells.toArray
def X9.zero:X9:=⟨0,0⟩
theorem on (a e:Nat):∀ i,(expF a e i).1<2305843009213693951
 | 0=>by show 1<2305843009213693951;decide
 | i+1=>by
  have ih:=on a e i
  show (bif decide (e/2 ^ i%2=1) then (expF a e i).1*(expF a e i).2%2305843009213693951 else (expF a e i).1)<_
  cases decide (e/2 ^ i%2=1) with
  | true=>exact Z1 _ (by decide)
  | false=>exact ih
theorem kO (a e:Nat):expV a e<2305843009213693951:=on a e _
def ofK (s:Int):X9:=bif decide (s<1)||decide (2305843009213693949<s) then X9.zero else ⟨s,(expV 37 s.toNat:Nat)⟩
theorem eu {s:Int} (h1:1≤s) (h2:s≤2305843009213693949):ofK s=⟨s,(expV 37 s.toNat:Nat)⟩:=by
 rw [ofK,Zd ab,Zd (by omega)]
 rfl
theorem im {s:Int} (h:s<1∨2305843009213693949<s):ofK s=X9.zero:=by
 rw [ofK]
 rcases h with h|h
 · rw [Ze h];rfl
 · rw [Ze h,Bool.or_true];rfl
theorem fb (s:Int):Pu prog 8 #[.int .i64 s] (fun _=>True) (ofK s).v:=by
 refine ax func8 ntmps8 fun av bor w0=>?_
 by_cases h:s<1∨2305843009213693949<s
 · rw [im h]
   repeat' (first|refine gs ?_|refine gs1 fun _=>?_|(refine aI (cs:=X9.zero.cells) (hf:=by rfl) ?_)|(refine gp ?_ ?_<;>intro hx_ this)|fail)
   all_goals first
    | (exfalso;omega)
    | exact aa (aP rfl rfl aB (by rfl)) rfl
 · have h1:1≤s:=by omega
   have h2:s≤2305843009213693949:=by omega
   obtain ⟨n,rfl⟩:=Int.eq_ofNat_of_zero_le (show 0≤s by omega)
   rw [eu h1 h2]
   have he:=eT 37 n ab
   repeat' (first|(refine ae (hc:=he) (hX:=fun w h=>trivial) ?_)|refine gs ?_|refine gs1 fun _=>?_|(refine aI (cs:=X9.cells ⟨(n:Int),(expV 37 n:Nat)⟩) (hf:=by rfl) ?_)|(refine gp ?_ ?_<;>intro hx_ this)|fail)
   all_goals first
    | (exfalso;omega)
    | exact aa (aP rfl rfl aB (by rfl)) rfl
def eqKy (a b:X9):Bool:=decide (a.s=b.s)&&decide (a.p=b.p)
theorem rF {a b:X9}:eqKy a b=true↔a=b:=by
 cases a;cases b
 simp only [eqKy,Zm,Zs,X9.mk.injEq]
theorem ek (w:World) {cs:Array Value} {off:Nat} {v:Value} (h:cs[off]?=some v):(part 3 cs off).run prog w=.ok v w:=by
 simp [part,isAgg,run_underlying underlying3,h]
theorem l4 (w:World) (d:Nat) (a b:Int):(Op.equalIn (d+1) 3 (.int .i64 a) (.int .i64 b)).run prog w=.ok (decide (a=b)) w:=by
 rw [run_equalIn_int w d _ .i64 .i64 a b underlying3]
 rfl
theorem qE (w:World) (d:Nat) (a b:X9):(Op.equalIn (d+2) 44 a.v b.v).run prog w=.ok (eqKy a b) w:=by
 have p0:∀ x:X9,(part 3 x.cells.toArray 0).run prog w=.ok (.int .i64 x.s) w:=fun x=>ek w rfl
 have p1:∀ x:X9,(part 3 x.cells.toArray 1).run prog w=.ok (.int .i64 x.p) w:=fun x=>ek w rfl
 unfold X9.v
 rw [run_equalIn_agg _ _ _ _ _ ac ac]
 simp only [Program.fieldsOf,underlying44]
 simp [Op.eqFields,p0,p1,l4]
 unfold eqKy
 by_cases h1:a.s=b.s<;>by_cases h2:a.p=b.p<;>simp [h1,h2]
section
variable {N:Nat} {av bor:List Nat} {w0:World} {x y:Operand} {t2:TypeId} {ty:TypeId} {st:St}
theorem tS (a b:X9) (hx:ev st.env x=some a.v) (hy:ev st.env y=some b.v):Sy.Yields prog N av bor w0 st (.binOp .eql 44 x y t2) ty (.bool (eqKy a b)):=Sy.Yields.mk fun A w ok d pos af g=>by
 have h1:=run_eqGuard_agg (P:=prog) w .eql 44 x y a.cells.toArray b.cells.toArray ac
 have h2:=run_eql_struct (P:=prog) w 44 a.cells.toArray b.cells.toArray
 have h3:=qE w 9998 a b
 simp only [X9.v] at hx hy h3
 simp [execOp,ok.eval hx,ok.eval hy,h1,h2,h3]
end
def rightK (k:X9):Bool:=decide (1≤k.s)&&eqKy k (ofK k.s)
theorem de (k:X9):Pu prog 35 #[k.v] (fun _=>True) (.bool (rightK k)):=by
 refine ax func35 ntmps35 fun av bor w0=>?_
 repeat' (first|refine gs ?_|refine gs1 fun _=>?_|(refine gp ?_ ?_<;>intro hx_ this)|fail)
 rename_i b
 (refine aw_draw ⟨[0,1,2,3,4,5,6],[(7,⟨[8,9,10],[]⟩)]⟩ [cel b 44 k.cells] (fun _=>True) (h:=?_))
 all_goals repeat' (first|refine ae (hc:=fb k.s) ?_|refine gd ?_|refine aH (hy:=by first|(apply tS k (ofK k.s);rfl;rfl)) ?_|refine aE ?_ (h':=?_)|exact aF|refine gs1 fun _=>?_|(refine gq ?_ ?_<;>intro hx_ this)|fail)
 all_goals
  repeat' (first|refine gs ?_|refine gs1 fun _=>?_|(refine gp ?_ ?_<;>intro hx_ this)|fail)
  apply aa;apply ai;rfl;rfl
  rw [rightK,hx_]
  rfl
theorem rightK_iff {k:X9}:rightK k=true↔1≤k.s∧k.s≤2305843009213693949∧k.p=(expV 37 k.s.toNat:Nat):=by
 rw [rightK,Zm,Zs,rF]
 constructor
 · rintro ⟨h1,h2⟩
   have h3:k.s≤2305843009213693949:=by
    by_cases h:2305843009213693949<k.s
    · rw [im (.inr h)] at h2
      rw [h2] at h1
      exact absurd h1 (by decide)
    · omega
   refine ⟨h1,h3,?_⟩
   rw [eu h1 h3] at h2
   rw [h2]
 · rintro ⟨h1,h2,h3⟩
   exact ⟨h1,by rw [eu h1 h2,←h3]⟩
def nonceP (s:Int) (msg:ByteArray):List ByteArray:=[textV ⟨#[110,111,110,99,101]⟩,numV s,textV msg]
def nonceN (s:Int) (msg:ByteArray):Nat:=reduceN (hashN (nonceP s msg))
structure Xy where
 e:Int
 s:Int
def Xy.cells (k:Xy):List Value:=[.int .i64 k.e,.int .i64 k.s]
def Xy.v (k:Xy):Value:=.agg k.cells.toArray
def Xy.zero:Xy:=⟨0,0⟩
def sigE (k:X9) (msg:ByteArray):Nat:=chalN (expV 37 (nonceN k.s msg)) k.p.toNat msg
def sigS (k:X9) (msg:ByteArray):Nat:=(nonceN k.s msg+sigE k msg*k.s.toNat%2305843009213693950)%2305843009213693950
def signV (k:X9) (msg:ByteArray):Xy:=bif rightK k then ⟨(sigE k msg:Nat),(sigS k msg:Nat)⟩ else Xy.zero
theorem sj (k:X9) (msg:ByteArray) (hm:msg.size≤1000000000000):Pu prog 36 #[k.v,.string msg] Xc (signV k msg).v:=by
 refine ax func36 ntmps36 fun av bor w0=>?_
 have hrk:=de k
 cases hk:rightK k with
 | false =>
  rw [hk] at hrk
  rw [show signV k msg=Xy.zero from by rw [signV,hk];rfl]
  repeat' (first|(refine ae (hc:=hrk) ?_)|refine gs ?_|refine gs1 fun _=>?_|(refine aI (cs:=Xy.zero.cells) (hf:=by rfl) ?_)|(refine gp ?_ ?_<;>intro hx_ this)|fail)
  exact aa (aP rfl rfl aB (by rfl)) rfl
 | true =>
  rw [hk] at hrk
  rw [show signV k msg=⟨(sigE k msg:Nat),(sigS k msg:Nat)⟩ from by rw [signV,hk];rfl]
  obtain ⟨h1,h2,h3⟩:=rightK_iff.1 hk
  obtain ⟨s,p⟩:=k
  obtain ⟨n,rfl⟩:=Int.eq_ofNat_of_zero_le (show 0≤s by show 0≤s;have:1≤s:=h1;omega)
  have h3':p=(expV 37 n:Nat):=h3
  subst h3'
  have h2':(n:Int)≤2305843009213693949:=h2
  have hp:=kO 37 n
  have hsz:(catB (nonceP (n:Int) msg)).size≤1099511627776:=by
   have e1:=aq ⟨#[110,111,110,99,101]⟩
   have e2:=ar (n:Int)
   have e4:=aq msg
   have e5:(⟨#[110,111,110,99,101]⟩:ByteArray).size=5:=rfl
   rw [dt]
   simp only [nonceP,ZR,List.map_nil,List.sum_cons,List.sum_nil]
   omega
  have hno:nonceN (n:Int) msg<9223372036854775808:=by have:=fG (hashN (nonceP (n:Int) msg));unfold nonceN;omega
  have hha:=ir (T:=9) (c:=3) (xs:=nonceP (n:Int) msg)
  have hex:=eT 37 (nonceN (n:Int) msg) hno
  have hch:=ow (expV 37 (nonceN (n:Int) msg)) (expV 37 n) msg (by have:=kO 37 (nonceN (n:Int) msg);omega) ab hm
  repeat' (first|(refine ae (hc:=hrk) ?_)|refine gs ?_|refine gs1 fun _=>?_|(refine gp ?_ ?_<;>intro hx_ this)|fail)
  rename_i b2 b4
  (refine aw_draw ⟨[1,2,4],[(0,⟨[],[(3,⟨[],[(5,⟨[],[(6,⟨[],[(7,⟨[],[(8,⟨[9],[]⟩)]⟩)]⟩)]⟩)]⟩)]⟩)]⟩ [cel b4 34 Xy.zero.cells,cel b2 44 (X9.mk (n:Int) (expV 37 n:Nat)).cells] Xc (h:=?_))
  all_goals repeat' (first|refine ae (hc:=bD _ (by first|omega|decide)) ?_|refine ae (hc:=bF _ ab) ?_|(refine db (hc:=ir _ 9 3 (nonceP (n:Int) msg) (show 3≤3 by decide) (show 3≤1000 by decide) hsz) (hX:=fun w h hr=>⟨hr _ aC,h⟩) ?_)|refine ae (hc:=jK (hashN (nonceP (n:Int) msg)) (lQ _)) ?_|refine gd ?_|refine aE ?_ (h':=?_)|exact aF|(refine dK fun _=>?_)|refine gs1 fun _=>?_|(refine gq ?_ ?_<;>intro hx_ this)|fail)
  repeat' (first|refine gs ?_|refine gs1 fun _=>?_|(refine gp ?_ ?_<;>intro hx_ this)|fail)
  (refine aw_draw ⟨[0,2,3,4],[(1,⟨[],[(5,⟨[6],[]⟩)]⟩)]⟩ [cel b4 34 Xy.zero.cells,cel b2 44 (X9.mk (n:Int) (expV 37 n:Nat)).cells] Xc (h:=?_))
  all_goals repeat' (first|(refine ae (hc:=hex) ?_)|(refine ae (hc:=hch) ?_)|refine gd ?_|refine aE ?_ (h':=?_)|exact aF|refine gs1 fun _=>?_|(refine gq ?_ ?_<;>intro hx_ this)|fail)
  have hm1:=tw (sigE ⟨(n:Int),(expV 37 n:Nat)⟩ msg) n
  have hm2:=tz (nonceN (n:Int) msg) (sigE ⟨(n:Int),(expV 37 n:Nat)⟩ msg*n%2305843009213693950)
  repeat' (first|(refine ae (hc:=hm1) ?_)|(refine ae (hc:=hm2) ?_)|refine gs ?_|refine gs1 fun _=>?_|(refine aI (cs:=Xy.cells ⟨(sigE ⟨(n:Int),(expV 37 n:Nat)⟩ msg:Nat),(sigS ⟨(n:Int),(expV 37 n:Nat)⟩ msg:Nat)⟩) (hf:=by rfl) ?_)|(refine gp ?_ ?_<;>intro hx_ this)|fail)
  exact aa (aP rfl rfl aB (by rfl)) rfl
def keyP (seed:ByteArray):List ByteArray:=[textV ⟨#[107,101,121]⟩,textV seed]
def keyN (seed:ByteArray):Nat:=reduceN (hashN (keyP seed))
def keyOf (seed:ByteArray):X9:=⟨(keyN seed:Nat),(expV 37 (keyN seed):Nat)⟩
theorem lM (seed:ByteArray):rightK (keyOf seed)=true:=by
 have h1:=gX (hashN (keyP seed))
 have h2:=fG (hashN (keyP seed))
 refine rightK_iff.2 ⟨?_,?_,rfl⟩
 · show (1:Int)≤((reduceN (hashN (keyP seed)):Nat):Int);omega
 · show ((reduceN (hashN (keyP seed)):Nat):Int)≤2305843009213693949;omega
theorem iI (seed:ByteArray) (hm:seed.size≤1000000000000):Pu prog 9 #[.string seed] Xc (keyOf seed).v:=by
 refine ax func9 ntmps9 fun av bor w0=>?_
 have h1:=gX (hashN (keyP seed))
 have h2:=fG (hashN (keyP seed))
 have hk:ofK ((keyN seed:Nat):Int)=keyOf seed:=eu (by show (1:Int)≤((reduceN (hashN (keyP seed)):Nat):Int);omega) (by show ((reduceN (hashN (keyP seed)):Nat):Int)≤2305843009213693949;omega)
 have hof:=fb ((keyN seed:Nat):Int)
 rw [hk] at hof
 have hsz:(catB (keyP seed)).size≤1099511627776:=by
  have e1:=aq ⟨#[107,101,121]⟩
  have e4:=aq seed
  have e5:(⟨#[107,101,121]⟩:ByteArray).size=3:=rfl
  rw [dt]
  simp only [keyP,ZR,List.map_nil,List.sum_cons,List.sum_nil]
  omega
 repeat' (first|refine ae (hc:=bD _ (by first|omega|decide)) ?_|(refine db (hc:=ir _ 9 2 (keyP seed) (show 2≤2 by decide) (show 2≤1000 by decide) hsz) (hX:=fun w h hr=>⟨hr _ aC,h⟩) ?_)|refine ae (hc:=jK (hashN (keyP seed)) (lQ _)) ?_|(refine ae (hc:=hof) ?_)|refine gs ?_|refine gs1 fun _=>?_|(refine gp ?_ ?_<;>intro hx_ this)|fail)
 exact aa (aP rfl rfl aB (by rfl)) rfl
def hexDg:ByteArray:=⟨#[48,49,50,51,52,53,54,55,56,57,97,98,99,100,101,102]⟩
def hexB (s:ByteArray) (i:Nat):List Int:=[byteAt hexDg (shrV .u8 (byteAt s i) 4).toNat,byteAt hexDg (bitsV .and .u8 (byteAt s i) 15).toNat]
def hexF (s:ByteArray) (n:Nat):List Int:=(List.range n).flatMap (hexB s)
def hexV (s:ByteArray):ByteArray:=ofInts (hexF s s.size)
theorem jT (s:ByteArray) (n:Nat):hexF s (n+1)=hexF s n++hexB s n:=by
 rw [hexF,List.range_succ,Qy]
 simp [hexF]
theorem sC:∀ b:Nat,b<256→(0≤shrV .u8 (b:Int) 4∧shrV .u8 (b:Int) 4<16)∧(0≤bitsV .and .u8 (b:Int) 15∧bitsV .and .u8 (b:Int) 15<16):=by decide +kernel
theorem pN (s:ByteArray) (i:Nat):∃ b:Nat,b<256∧byteAt s i=(b:Int):=⟨(s.data.toList.getD i 0).toNat,UInt8.toNat_lt _,rfl⟩
def hexN (d:Nat):Nat:=if d<10 then 48+d else 87+d
def hexL (l:List Nat):List Nat:=l.flatMap fun b=>[hexN (b/16),hexN (b%16)]
theorem sI:∀ b:Nat,b<256→byteAt hexDg (shrV .u8 (b:Int) 4).toNat=(hexN (b/16):Nat)∧byteAt hexDg (bitsV .and .u8 (b:Int) 15).toNat=(hexN (b%16):Nat):=by decide +kernel
structure HexI where
 k:Nat
 hk:k≤32
 A:Option Addr
 c:Nat
theorem uj (s:ByteArray) (hs:s.size=32):Pu prog 29 #[.string s] (fun _=>True) (.string (hexV s)):=by
 refine ax func29 ntmps29 fun av bor w0=>?_
 repeat' (first|refine fC (c:=64) (hc:=by rw [hs];rfl) ?_|refine gs ?_|refine gs1 fun _=>?_|(refine fO (c:=64) (hm:=rfl) (hm2:=rfl) fun q=>?_)|(refine gp ?_ ?_<;>intro hx_ this)|fail)
 refine az (ι:=HexI) (fun i=>⟨[(0,.string s),(3,.slice i.A (2*i.k) i.c),(10,.int .i64 s.size),(11,.int .i64 i.k)],[orow 5 1 (.slice i.A (2*i.k) i.c) (2*i.k) (u8s (hexF s i.k))],fun _=>True⟩) (fun i=>32-i.k) ⟨0,ZU _,_,_⟩
  (ak aw (aj _) fun _ h=>h) fun i=>?_
 have hik:=i.hk
 repeat' (first|refine gs ?_|refine gs1 fun _=>?_|(refine gp ?_ ?_<;>intro hx_ this)|fail)
 · have hlt:i.k<32:=by omega
   obtain ⟨b,hb,hbe⟩:=pN s i.k
   obtain ⟨⟨n1,n2⟩,n3,n4⟩:=sC b hb
   rw [←hbe] at n1 n2 n3 n4
   (refine aw_draw ⟨[0,1,2,3,4,5,6,7,8,9,10],[(11,⟨[],[(12,⟨[13],[]⟩)]⟩)]⟩ [] (fun _=>True) (h:=?_))
   all_goals repeat' (first|refine gd ?_|refine aH (hy:=by first|(apply j7;rfl;rfl;(first|omega|assumption);(first|omega|assumption))) ?_|refine aE ?_ (h':=?_)|exact aF|refine dK (len:=2) (vs:=u8s (hexB s i.k)) fun _=>?_|(refine ga ?_;refine aD (size:=1) (z:=.int .u8 0) (news:=u8s (hexB s i.k)) (q:=2) rfl rfl rfl rfl (fun _=>At.there _ (At.here _)) (fun w G=>aR G aC rfl rfl 2) ab (by simp only [maxLen];omega) rfl ?_ rfl ?_;(first|with_reducible rfl|with_reducible assumption|with_reducible exact Zj|with_reducible exact Zk);intro A2 c2)|refine gs1 fun _=>?_|(refine gq ?_ ?_<;>intro hx_ this)|fail)
   rw [←bp,←jT]
   repeat' (first|refine gs ?_|refine gs1 fun _=>?_|(refine gp ?_ ?_<;>intro hx_ this)|fail)
   exact ⟨⟨i.k+1,hlt,A2,c2⟩,(by show 32-(i.k+1)<32-i.k;omega),ak aw (List.sublist_cons_self _ _) fun _ h=>h⟩
 · have hk:i.k=s.size:=by omega
   repeat' (first|refine gs ?_|refine gs1 fun _=>?_|(refine fE (ns:=hexF s i.k) (hm:=by exact aB) ?_)|(refine gp ?_ ?_<;>intro hx_ this)|fail)
   apply aa;apply ai;rfl;rfl
   rw [hk]
   rfl
theorem nY (d:Nat) (h:d<16):hexN d<256:=by
 unfold hexN
 split<;>omega
theorem nZ {l:List Nat} (h:∀ x∈l,x<256):∀ x∈hexL l,x<256:=fun x hx=>by
 rw [hexL,List.mem_flatMap] at hx
 obtain ⟨b,hb,hx⟩:=hx
 have hb':=h b hb
 rcases ZC.1 hx with rfl|hx
 · exact nY _ ab
 · rw [ZV] at hx
   subst hx
   exact nY _ (Z1 _ (by decide))
theorem kL (s:ByteArray):∀ n,n≤s.size→hexF s n=(hexL ((nl s).take n)).map fun (n:Nat)=>(n:Int)
 | 0,_=>rfl
 | n+1,h=>by
  have hn:n<(nl s).length:=by rw [aZ];omega
  have hb:=iu (iS s) n
  have he:(nl s)[n]=(nl s).getD n 0:=by rw [Zl,Zc hn];rfl
  rw [jT,kL s n ab,List.take_succ_eq_append_getElem hn,hexL,hexL,Qy,ZM]
  congr 1
  obtain ⟨h1,h2⟩:=sI _ hb
  rw [hexB,oy s n ab,h1,h2,he]
  rfl
theorem uk (s:ByteArray):nl (hexV s)=hexL (nl s):=by
 rw [hexV,kL s s.size (ZN _),Z4 (by rw [aZ];exact ZN _)]
 exact dU _ (nZ (iS s))
theorem pm (s:ByteArray):(hexV s).size=2*s.size:=by
 rw [←aZ,hexV,kL s s.size (ZN _),Z4 (by rw [aZ];exact ZN _),dU _ (nZ (iS s)),hexL]
 rw [←aZ]
 generalize nl s=l
 induction l with
 | nil=>rfl
 | cons a l ih=>rw [List.flatMap_cons,Zw,ih];simp only [Zx,ZJ];omega
def idText (p:Int):ByteArray:=textV ⟨#[97,99,116,111,114]⟩++numV p
def idV (p:Int):ByteArray:=(hexV (shaV (idText p))).extract 0 16
theorem cQ (p:Int) (hp:p<9223372036854775808):Pu prog 12 #[.int .i64 p] Xc (.string (idV p)):=by
 refine ax func12 ntmps12 fun av bor w0=>?_
 have h1:=aq ⟨#[97,99,116,111,114]⟩
 have h2:=ar p
 have h5:(⟨#[97,99,116,111,114]⟩:ByteArray).size=5:=rfl
 have hsz:(idText p).size≤1099511627776:=by rw [idText,Zb];omega
 have hhx:=pm (shaV (idText p))
 rw [dS] at hhx
 repeat' (first|refine ae (hc:=bD _ (by first|omega|decide)) ?_|refine ae (hc:=bF _ hp) ?_|(refine ae (hc:=gy (idText p) hsz) ?_)|(refine ae (hc:=uj (shaV (idText p)) (dS _)) ?_)|refine gs ?_|(refine mD ?_)|(refine nA (h1:=by omega) ?_)|(refine gp ?_ ?_<;>intro hx_ this)|fail)
 apply aa;apply ai;rfl;rfl
 rfl
def Xa.sig (a:Xa) (g:Xy):Xa:={ a with e:=g.e,s:=g.s }
def actSignV (k:X9) (a:Xa):Xa:=bif rightB (a.sig Xy.zero)&&rightK k then a.sig (signV k (coreV (a.sig Xy.zero))) else Xa.zero
theorem sy {a:Xa} (h:a.Rng) {g:Xy} (h1:g.e<9223372036854775808) (h2:g.s<9223372036854775808):(a.sig g).Rng:=by
 obtain ⟨⟨i1,i2,i3,i4,i5,i6,i7,i8,i9⟩,h2',h3,h4⟩:=h
 exact ⟨⟨i1,i2,i3,i4,i5,i6,i7,h1,h2⟩,h2',h3,h4⟩
def ActTo (b:Xa) (u:Value) (X:World→Prop):Prop:=∃ s1 s2:Xh,u=(b.re s1 s2).v∧s1.n=b.to.n∧s2.n=b.wraps.n∧∀ w,X w→(b.re s1 s2).at_ w
set_option maxRecDepth 20000 in
theorem eC (k:X9) (a:Xa) (hr:a.Rng) (hs:a.Sm):Mk prog 14 #[k.v,a.v] (fun w=>a.at_ w∧Xc w) (ActTo (actSignV k a)):=by
 refine cF func14 ntmps14 fun av bor w0=>?_
 have hr0:(a.sig Xy.zero).Rng:=sy hr (by decide) (by decide)
 have hri:=bL (a.sig Xy.zero)
 have hrk:=de k
 cases hb:rightB (a.sig Xy.zero) with
 | false =>
  rw [hb] at hri
  rw [show actSignV k a=Xa.zero from by rw [actSignV,hb];rfl]
  repeat' (first|(refine ae (hc:=hri) ?_)|refine gs ?_|refine gs1 fun _=>?_|(refine aI (cs:=Xy.zero.cells) (hf:=by rfl) ?_)|(refine cT (a.sig Xy.zero).cells (h:=?_))|(refine aI (cs:=Xa.zero.cells) (hf:=by rfl) ?_)|(refine gp ?_ ?_<;>intro hx_ this)|fail)
  refine aa (aP rfl rfl aB (by rfl)) ⟨⟨none,0,0⟩,⟨none,0,0⟩,rfl,rfl,rfl,fun w _=>⟨aG w 1,aG w 5⟩⟩
 | true =>
  rw [hb] at hri
  cases hk:rightK k with
  | false =>
   rw [hk] at hrk
   rw [show actSignV k a=Xa.zero from by rw [actSignV,hb,hk];rfl]
   repeat' (first|(refine ae (hc:=hri) ?_)|(refine ae (hc:=hrk) ?_)|refine gs ?_|refine gs1 fun _=>?_|(refine aI (cs:=Xy.zero.cells) (hf:=by rfl) ?_)|(refine cT (a.sig Xy.zero).cells (h:=?_))|(refine aI (cs:=Xa.zero.cells) (hf:=by rfl) ?_)|(refine gp ?_ ?_<;>intro hx_ this)|fail)
   refine aa (aP rfl rfl aB (by rfl)) ⟨⟨none,0,0⟩,⟨none,0,0⟩,rfl,rfl,rfl,fun w _=>⟨aG w 1,aG w 5⟩⟩
  | true =>
   rw [hk] at hrk
   rw [show actSignV k a=a.sig (signV k (coreV (a.sig Xy.zero))) from by rw [actSignV,hb,hk];rfl]
   have hco:=kR (a.sig Xy.zero) (fun h=>co hr0 h)
   rw [hb] at hco
   have hcs:=eB (co hr0 hb)
   have hsi:=sj k (coreV (a.sig Xy.zero)) ab
   generalize hg:signV k (coreV (a.sig Xy.zero))=g at *
   repeat' (first|(refine ae (hc:=hri) ?_)|(refine ae (hc:=hrk) ?_)|refine gs ?_|refine gs1 fun _=>?_|(refine aI (cs:=Xy.zero.cells) (hf:=by rfl) ?_)|(refine cT (a.sig Xy.zero).cells (h:=?_))|(refine gp ?_ ?_<;>intro hx_ this)|fail)
   rename_i b2 b3 b4
   (refine aw_draw ⟨[0],[(1,⟨[],[(2,⟨[],[(3,⟨[4],[(5,⟨[],[]⟩)]⟩)]⟩)]⟩)]⟩ [cel b2 44 k.cells] (fun w=>a.at_ w∧Xc w) (h:=?_))
   all_goals repeat' (first|(refine ae (hc:=hco) ?_)|(refine ae (hc:=hsi) ?_)|refine gd ?_|refine aE ?_ (h':=?_)|exact aF|(refine cT (a.sig g).cells (h:=?_))|refine gs1 fun _=>?_|(refine gq ?_ ?_<;>intro hx_ this)|fail)
   repeat' (first|refine gs ?_|refine gs1 fun _=>?_|(refine gp ?_ ?_<;>intro hx_ this)|fail)
   refine aU (hc:=dr a.to (strs a.toL) hs.to (fun cs hcs=>by simp only [strs,Qt] at hcs;obtain ⟨x,_,rfl⟩:=hcs;rfl)) (hX:=fun w h=>h.1.1) fun v1 X1 h1=>?_
   obtain ⟨s1,rfl,hn1,hw1⟩:=h1
   repeat' (first|refine gs ?_|refine gs1 fun _=>?_|(refine gp ?_ ?_<;>intro hx_ this)|fail)
   refine aU (hc:=gN a.wraps (a.wrapsL.map Xk.cells) hs.wraps (fun cs hcs=>by simp only [Qt] at hcs;obtain ⟨x,_,rfl⟩:=hcs;rfl)) (hX:=fun w h=>h.1.1.2) fun v2 X2 h2=>?_
   obtain ⟨s2,rfl,hn2,hw2⟩:=h2
   repeat' (first|refine gs ?_|refine gs1 fun _=>?_|(refine gp ?_ ?_<;>intro hx_ this)|fail)
   refine aa (aP rfl rfl aB (by rfl)) ⟨s1,s2,rfl,?_,?_,fun w h=>⟨hw1 w h.1.1.2,hw2 w h.1.2⟩⟩
   · show s1.n=a.to.n
     rw [hn1,hr.to_len]
     simp [strs]
   · show s2.n=a.wraps.n
     rw [hn2,hr.wraps_len]
     simp
def numL:Nat→Nat→List Nat
 | 0,_=>[]
 | f+1,n=>bif decide (128≤n) then (128+n%128)::numL f (n/128) else [n]
theorem nK:∀ (f n:Nat),numD f (n:Int)=(numL f n).map fun (n:Nat)=>(n:Int)
 | 0,n=>rfl
 | f+1,n=>by
  rw [numD,numL]
  by_cases h:128≤n
  · have e1:lowD (n:Int)=((128+n%128:Nat):Int):=by
     rw [lowD,show (n:Int).tmod 128=((n%128:Nat):Int) from rfl,show (128:Int)+((n%128:Nat):Int)=((128+n%128:Nat):Int) from by omega,wrap8,Zz (by omega)]
    rw [Ze (show (128:Int)≤(n:Int) by omega),Ze h,Zg,Zg,ZR,e1,show (n:Int).tdiv 128=((n/128:Nat):Int) from rfl,nK f]
  · rw [Zd (show ¬ (128:Int)≤(n:Int) by omega),Zd h,Zf,Zf,wrap8,Zz (by omega)]
    rfl
theorem nJ:∀ (f n:Nat),∀ x∈numL f n,x<256
 | 0,n,x,h=>(Z8 h).elim
 | f+1,n,x,h=>by
  rw [numL] at h
  by_cases h1:128≤n
  · rw [Ze h1,Zg] at h
    rcases ZC.1 h with rfl|h
    · omega
    · exact nJ f _ x h
  · rw [Zd h1,Zf,ZV] at h
    omega
theorem dM (n:Nat):nl (numV (n:Int))=numL 10 n:=by
 rw [numV,Zd ab,Zf,nK,dU _ (nJ 10 n)]
theorem dj {n:Int} (h:0≤n):nl (numV n)=numL 10 n.toNat:=by rw [←dM,Int.toNat_of_nonneg h]
def textL (l:List Nat):List Nat:=numL 10 l.length++l
theorem dz (s:ByteArray):nl (textV s)=textL (nl s):=by
 rw [textV,bH,dM,textL,aZ]
def boxL (b:Xo):List Nat:=textL (nl b.nonce)++textL (nl b.data)++textL (nl b.tag)
structure Xa.Pos (a:Xa):Prop where
 seq:0≤a.seq
 kind:0≤a.kind
 time:0≤a.time
 scope:0≤a.scope
 epoch:0≤a.epoch
 n:0≤a.n
 m:0≤a.m
 toL:a.toL=[]
 wrapsL:a.wrapsL=[]
def hashL (m:List Nat):Nat:=numN (shaL m)
theorem kM (xs:List ByteArray) (hs:(catB xs).size<2305843009213693952):hashN xs=hashL (xs.flatMap nl):=by
 rw [hashN,gA _ hs,mU,hashL]
def powF:Nat→Nat→Nat→Nat→Nat
 | 0,_,x,_=>x
 | f+1,e,x,s=>fc (bif decide (e%2=1) then x*s%2305843009213693951 else x) fun x'=>fc (s*s%2305843009213693951) fun s'=>fc (e/2) fun e'=>powF f e' x' s'
theorem nG (a e:Nat):∀ (f i:Nat),powF f (e/2 ^ i) (expF a e i).1 (expF a e i).2=(expF a e (i+f)).1
 | 0,i=>rfl
 | f+1,i=>by
  have ih:=nG a e f (i+1)
  rw [powF,jj,jj,jj,Nat.div_div_eq_div_mul,←Nat.pow_succ,show i+(f+1)=i+1+f by omega,←ih]
  rfl
def powL (a e:Nat):Nat:=powF (Lib.bitLen e) e 1 (a%2305843009213693951)
theorem dO (a e:Nat):expV a e=powL a e:=by
 have h:=nG a e (Lib.bitLen e) 0
 rw [Nat.pow_zero,Nat.div_one,ZL] at h
 exact h.symm
theorem iY {n:Nat} (h:n≤1000000):n<2305843009213693952:=by omega
def nonceL (S:Nat) (m:List Nat):Nat:=reduceN (hashL (textL [110,111,110,99,101]++(numL 10 S++textL m)))
theorem lF (S:Nat) (msg:ByteArray) (hl:(nl msg).length≤100000):nonceN (S:Int) msg=nonceL S (nl msg):=by
 have h1:=aq ⟨#[110,111,110,99,101]⟩
 have h2:=ar (S:Int)
 have h3:=aq msg
 have h5:(⟨#[110,111,110,99,101]⟩:ByteArray).size=5:=rfl
 rw [aZ] at hl
 rw [nonceN,nonceL,nonceP,kM _ (iY (by
  rw [dt]
  simp only [ZR,List.map_nil,List.sum_cons,List.sum_nil]
  omega))]
 have e:nl (⟨#[110,111,110,99,101]⟩:ByteArray)=[110,111,110,99,101]:=rfl
 simp only [List.flatMap_cons,List.flatMap_nil,dz,dM,ZD,e]
def chalL (r p:Nat) (m:List Nat):Nat:=hashL (textL [115,105,103,110]++(numL 10 r++(numL 10 p++textL m)))%2305843009213693950
theorem ox (r p:Nat) (msg:ByteArray) (hl:(nl msg).length≤100000):chalN r p msg=chalL r p (nl msg):=by
 have h1:=aq ⟨#[115,105,103,110]⟩
 have h2:=ar (r:Int)
 have h4:=ar (p:Int)
 have h3:=aq msg
 have h5:(⟨#[115,105,103,110]⟩:ByteArray).size=4:=rfl
 rw [aZ] at hl
 rw [chalN,chalL,chalP,kM _ (iY (by
  rw [dt]
  simp only [ZR,List.map_nil,List.sum_cons,List.sum_nil]
  omega))]
 have e:nl (⟨#[115,105,103,110]⟩:ByteArray)=[115,105,103,110]:=rfl
 simp only [List.flatMap_cons,List.flatMap_nil,dz,dM,ZD,e]
theorem gj (a:Xa) (g g':Xy):coreV (a.sig g)=coreV (a.sig g'):=rfl
theorem kP {a:Xa} (hr:rightB a=true) {m:List Nat} (hm:nl (coreV a)=m) (hm0:m.length≠0) (hl:m.length≤100000) {E G:Nat} (he:a.e=(E:Nat)) (hs:a.s=(G:Nat)) {D:ByteArray} (h:shaL (0::(m++(numL 10 E++numL 10 G)))=nl D):digV a=D:=by
 subst hm
 have hsz:(coreV a).size=(nl (coreV a)).length:=(aZ _).symm
 have e1:actCore a=coreV a:=by rw [actCore,hr,Zg]
 have e2:actBytes a=coreV a++numV a.e++numV a.s:=by rw [actBytes,e1,bt,Zd ab,Zf]
 have e3:bytesV a=numV 0++(coreV a++numV a.e++numV a.s):=by rw [bytesV,hr,Zg,e2]
 have e4:nl (bytesV a)=0::(nl (coreV a)++(numL 10 E++numL 10 G)):=by
  rw [e3,bH,bH,bH,he,hs,dM,dM,Zy]
  rfl
 have e5:(bytesV a).size=(nl (coreV a)).length+(numL 10 E++numL 10 G).length+1:=by rw [←aZ,e4,Zx,Zw]
 have e6:∀ f n,(numL f n).length≤f:=fun f=>by
  induction f with
  | zero=>intro n;exact ZN 0
  | succ f ih =>
   intro n
   rw [numL]
   cases decide (128≤n) with
   | true=>have:=ih (n/128);rw [Zg,Zx];omega
   | false=>rw [Zf,List.length_singleton];omega
 have e7:(bytesV a).size≤1000000:=by
  have h1:=e6 10 E
  have h2:=e6 10 G
  rw [e5,Zw]
  omega
 rw [digV,bt,Zd ab,Zf]
 apply gF
 rw [gA _ (iY e7),e4,h]
theorem lN {seed:ByteArray} {S P:Nat} (hsz:seed.size≤1000) (h1:reduceN (hashL (textL [107,101,121]++textL (nl seed)))=S) (h2:powL 37 S=P):keyOf seed=⟨(S:Nat),(P:Nat)⟩:=by
 have h3:=aq ⟨#[107,101,121]⟩
 have h4:=aq seed
 have h5:(⟨#[107,101,121]⟩:ByteArray).size=3:=rfl
 have e:nl (⟨#[107,101,121]⟩:ByteArray)=[107,101,121]:=rfl
 have hk:keyN seed=S:=by
  rw [←h1,keyN,keyP,kM _ (iY (by
   rw [dt]
   simp only [ZR,List.map_nil,List.sum_cons,List.sum_nil]
   omega))]
  simp only [List.flatMap_cons,List.flatMap_nil,dz,ZD,e]
 rw [keyOf,hk,dO,h2]
theorem nW {P:Nat} {D:ByteArray} (h:(hexL (shaL (textL [97,99,116,111,114]++numL 10 P))).take 16=nl D):idV (P:Int)=D:=by
 apply gF
 have h3:=aq ⟨#[97,99,116,111,114]⟩
 have h4:=ar (P:Int)
 have h5:(⟨#[97,99,116,111,114]⟩:ByteArray).size=5:=rfl
 have e:nl (⟨#[97,99,116,111,114]⟩:ByteArray)=[97,99,116,111,114]:=rfl
 rw [idV,ew,uk,gA _ (iY (by rw [idText,Zb];omega)),idText,bH,dz,dM,e,←h]
 rfl
theorem fd {k:X9} {S P:Nat} (hrk:rightK k=true) (hk:k=⟨(S:Nat),(P:Nat)⟩) {a:Xa} (hr:rightB (a.sig Xy.zero)=true) {m:List Nat} (hm:nl (coreV (a.sig Xy.zero))=m) (hl:m.length≤100000) {K R E G:Nat} (h1:nonceL S m=K) (h2:powL 37 K=R) (h3:chalL R P m=E)
  (h4:(K+E*S%2305843009213693950)%2305843009213693950=G):actSignV k a=a.sig ⟨(E:Nat),(G:Nat)⟩:=by
 subst hm
 have e1:sigE k (coreV (a.sig Xy.zero))=E:=by
  rw [sigE,hk]
  show chalN (expV 37 (nonceN (S:Int) _)) ((P:Int)).toNat _=E
  rw [lF S _ hl,h1,dO,h2,ZP,ox _ _ _ hl,h3]
 have e2:sigS k (coreV (a.sig Xy.zero))=G:=by
  rw [sigS,e1,hk]
  show (nonceN (S:Int) _+E*((S:Int)).toNat%2305843009213693950)%2305843009213693950=G
  rw [lF S _ hl,h1,ZP,h4]
 rw [actSignV,hr,hrk,Bool.and_true,Zg,signV,hrk,Zg,e1,e2]
def ordV (n:Int):Bool:=decide (0≤n)&&decide (n<2305843009213693950)
theorem jd (n:Int):Pu prog 161 #[.int .i64 n] (fun _=>True) (.bool (ordV n)):=by
 refine ax func161 ntmps161 fun av bor w0=>?_
 repeat' (first|refine gs ?_|(refine gp ?_ ?_<;>intro hx_ this)|fail)
 (all_goals (apply aa;apply ai;rfl;rfl));all_goals first|rfl|(simp only [ordV, *,Za,Zg,Zf];done)|(simp_all [ordV];done)
end Go.Proofs.YtamfbppnlomgfaaGreatDoor
namespace Go.Proofs.YtamfbppnlomgfaaGreatDoor
open Go Go.Proofs Sy
section
variable {P:Program} {N:Nat} {av bor:List Nat} {w0:World} {x y:Operand} {t t2:TypeId} {ty:TypeId} {st:St} {k:IntKind} {a b:Int}
theorem bR [hI:Xx P t k] (v:Bool) (hx:ev st.env x=some (.int k a)) (hy:ev st.env y=some (.int k b)) (hv:decide (a<b)=v):Sy.Yields P N av bor w0 st (.binOp .lss t x y t2) ty (.bool v):=hv▸np hx hy
theorem cY [hI:Xx P t k] (v:Bool) (hx:ev st.env x=some (.int k a)) (hy:ev st.env y=some (.int k b)) (hv:decide (b≤a)=v):Sy.Yields P N av bor w0 st (.binOp .geq t x y t2) ty (.bool v):=hv▸nt hx hy
theorem dZ [hI:Xx P t k] (v:Bool) (hx:ev st.env x=some (.int k a)) (hy:ev st.env y=some (.int k b)) (hv:decide (a=b)=v):Sy.Yields P N av bor w0 st (.binOp .eql t x y t2) ty (.bool v):=hv▸jw hx hy
theorem bG [hI:Xx P t k] (v:Bool) (hx:ev st.env x=some (.int k a)) (hy:ev st.env y=some (.int k b)) (hv:(!decide (a=b))=v):Sy.Yields P N av bor w0 st (.binOp .neq t x y t2) ty (.bool v):=hv▸nm hx hy
theorem dd [hI:Xv P t] {a b:ByteArray} (v:Bool) (hx:ev st.env x=some (.string a)) (hy:ev st.env y=some (.string b)) (hv:seqB a b=v):Sy.Yields P N av bor w0 st (.binOp .eql t x y t2) ty (.bool v):=hv▸ka hx hy
theorem dX {a b:ByteArray} (v:Bool) (hx:ev st.env x=some (.string a)) (hy:ev st.env y=some (.string b)) (hv:(!seqB a b)=v):Sy.Yields P N av bor w0 st (.binOp .neq t x y t2) ty (.bool v):=hv▸j8 hx hy
end
end Go.Proofs.YtamfbppnlomgfaaGreatDoor
namespace Go.Proofs.YtamfbppnlomgfaaGreatDoor
open Go Go.Proofs Sy Tryz
def verN (p:Int) (msg:ByteArray) (e s:Int):Bool :=
 bif decide (p<1)||decide (2305843009213693951≤p)||!ordV e||!ordV s then false
 else decide (e=(chalN (expV 37 s.toNat * expV p.toNat (2305843009213693950-e.toNat)%2305843009213693951) p.toNat msg:Nat))
theorem oD (p:Int) (msg:ByteArray) (e s:Int) (hm:msg.size≤1000000000000):Pu prog 104 #[.int .i64 p,.string msg,(Xy.v ⟨e,s⟩)] Xc (.bool (verN p msg e s)):=by
 refine ax func104 ntmps104 fun av bor w0=>?_
 have hoe:=jd e
 have hos:=jd s
 cases hbad:(decide (p<1)||decide (2305843009213693951≤p)||!ordV e||!ordV s) with
 | true =>
  rw [show verN p msg e s=false from by rw [verN,hbad];rfl]
  repeat' (first|(refine ae (hc:=hoe) ?_)|(refine ae (hc:=hos) ?_)|refine gs ?_|refine gs1 fun _=>?_|(refine gp ?_ ?_<;>intro hx_ this)|fail)
  all_goals first
   | (apply aa;apply ai;rfl;rfl;rfl)
   | (exfalso;simp_all;done)
 | false =>
  have hb:=hbad
  simp only [Z9,Z2,Bool.not_eq_false'] at hb
  obtain ⟨⟨⟨h1,h2⟩,h3⟩,h4⟩:=hb
  have h3':=h3
  have h4':=h4
  simp only [ordV,Zm,Zs] at h3' h4'
  rw [h3] at hoe
  rw [h4] at hos
  obtain ⟨pn,rfl⟩:∃ n:Nat,p=(n:Int):=⟨p.toNat,by omega⟩
  obtain ⟨en,rfl⟩:∃ n:Nat,e=(n:Int):=⟨e.toNat,by omega⟩
  obtain ⟨sn,rfl⟩:∃ n:Nat,s=(n:Int):=⟨s.toNat,by omega⟩
  obtain ⟨d,hd⟩:∃ d,2305843009213693950-en=d:=⟨_,rfl⟩
  have hsub:IntKind.i64.wrap ((2305843009213693950:Int)-(en:Int))=(d:Int):=by
   rw [show (2305843009213693950:Int)-(en:Int)=(d:Int) from by omega]
   exact IntWalk.i64_in _ ab
  have he1:=eT 37 sn ab
  have he2:=eT pn d ab
  obtain ⟨x1,hx1⟩:∃ x,expV 37 sn=x:=⟨_,rfl⟩
  obtain ⟨x2,hx2⟩:∃ x,expV pn d=x:=⟨_,rfl⟩
  rw [hx1] at he1
  rw [hx2] at he2
  have hmu:=nj x1 x2
  obtain ⟨r,hr⟩:∃ r,x1*x2%2305843009213693951=r:=⟨_,rfl⟩
  have hrl:r<2305843009213693951:=by rw [←hr];exact Z1 _ (by decide)
  rw [hr] at hmu
  have hch:=ow r pn msg ab ab hm
  have hV:verN (pn:Int) msg (en:Int) (sn:Int)=decide (((en:Nat):Int)=(chalN r pn msg:Nat)):=by
   rw [verN,hbad,Zf,ZP,ZP,ZP,hd,hx1,hx2,hr]
  rw [hV]
  have hbg:¬ (2305843009213693951:Int)≤(pn:Int):=h2
  have hbl:¬ (pn:Int)<1:=h1
  clear hbad hV hr hx1 hx2 hd
  generalize hcn:chalN r pn msg=cn at hch
  repeat' (first|refine aL ?_ (bR false rfl rfl (Zd hbl))|refine aL ?_ (cY false rfl rfl (Zd hbg))|(refine ae (hc:=hoe) ?_)|(refine ae (hc:=hos) ?_)|refine gs ?_|refine gs1 fun _=>?_|(refine gp ?_ ?_<;>intro hx_ this)|fail)
  rename_i bs
  (refine aw_draw ⟨[0,1,3,4,5,6],[(2,⟨[],[(7,⟨[],[(8,⟨[9],[]⟩)]⟩)]⟩)]⟩ [cel bs 34 (Xy.cells ⟨(en:Int),(sn:Int)⟩)] Xc (h:=?_))
  all_goals repeat' (first|refine aH (hy:=by first|(apply nk (c:=(d:Int));rfl;rfl;exact hsub)) ?_|(refine ae (hc:=he1) (hX:=fun _ h=>by first|trivial|exact h) ?_)|(refine ae (hc:=he2) (hX:=fun _ h=>by first|trivial|exact h) ?_)|(refine ae (hc:=hmu) (hX:=fun _ h=>by first|trivial|exact h) ?_)|refine gd ?_|refine aE ?_ (h':=?_)|exact aF|refine gs1 fun _=>?_|(refine gq ?_ ?_<;>intro hx_ this)|fail)
  all_goals
   repeat' (first|refine gs ?_|refine gs1 fun _=>?_|(refine gp ?_ ?_<;>intro hx_ this)|fail)
   (refine aw_draw ⟨[0,1,2,3,4],[(5,⟨[6,7],[]⟩)]⟩ [cel bs 34 (Xy.cells ⟨(en:Int),(sn:Int)⟩)] Xc (h:=?_))
   all_goals repeat' (first|(refine ae (hc:=hch) ?_)|refine gd ?_|refine aE ?_ (h':=?_)|exact aF|refine gs1 fun _=>?_|(refine gq ?_ ?_<;>intro hx_ this)|fail)
   all_goals
    repeat' (first|refine gs ?_|refine gs1 fun _=>?_|(refine gp ?_ ?_<;>intro hx_ this)|fail)
    exact aa (ai rfl rfl) rfl
def verV (p:Int) (a:Xa):Bool:=rightB a&&verN p (actCore a) a.e a.s
theorem k7 (p:Int) (a:Xa) (hr:a.Rng):Pu prog 62 #[.int .i64 p,a.v] (fun w=>a.at_ w∧Xc w) (.bool (verV p a)):=by
 refine ax func62 ntmps62 fun av bor w0=>?_
 have hri:=bL a
 cases hR:rightB a with
 | false =>
  rw [hR] at hri
  rw [show verV p a=false from by rw [verV,hR];rfl]
  repeat' (first|refine gs ?_|refine gs1 fun _=>?_|(refine gp ?_ ?_<;>intro hx_ this)|fail)
  rename_i b3
  (refine aw_draw ⟨[0],[(1,⟨[2,3,4,6,7],[(5,⟨[],[(8,⟨[9,10],[]⟩)]⟩)]⟩)]⟩ [cel b3 36 a.cells] (fun w=>a.at_ w∧Xc w) (h:=?_))
  all_goals repeat' (first|(refine ae (hc:=hri) ?_)|refine gd ?_|refine aE ?_ (h':=?_)|exact aF|refine gs1 fun _=>?_|(refine gq ?_ ?_<;>intro hx_ this)|fail)
  all_goals
   repeat' (first|refine gs ?_|refine gs1 fun _=>?_|(refine gp ?_ ?_<;>intro hx_ this)|fail)
   exact aa (ai rfl rfl) rfl
 | true =>
  rw [hR] at hri
  have hco:=kR a (co hr)
  have hsz:=eB (co hr hR)
  rw [hR,Zg] at hco
  have hve:=oD p (coreV a) a.e a.s ab
  have hV:verV p a=verN p (coreV a) a.e a.s:=by rw [verV,actCore,hR];rfl
  rw [hV]
  generalize verN p (coreV a) a.e a.s=V at *
  repeat' (first|refine gs ?_|refine gs1 fun _=>?_|(refine gp ?_ ?_<;>intro hx_ this)|fail)
  rename_i b3
  (refine aw_draw ⟨[0],[(1,⟨[2,3,4,6,7],[(5,⟨[],[(8,⟨[9,10],[]⟩)]⟩)]⟩)]⟩ [cel b3 36 a.cells] (fun w=>a.at_ w∧Xc w) (h:=?_))
  all_goals repeat' (first|(refine ae (hc:=hri) ?_)|(refine ae (hc:=hco) ?_)|(refine ae (hc:=hve) ?_)|refine gd ?_|refine aH (hy:=by first|(apply bS (vs:=Xy.cells ⟨a.e,a.s⟩);rfl;exact .head _;rfl;rfl)) ?_|refine aE ?_ (h':=?_)|exact aF|refine gs1 fun _=>?_|(refine gq ?_ ?_<;>intro hx_ this)|fail)
  all_goals
   repeat' (first|refine gs ?_|refine gs1 fun _=>?_|(refine gp ?_ ?_<;>intro hx_ this)|fail)
   exact aa (ai rfl rfl) rfl
theorem r6 {p:Int} {msg:ByteArray} {e s:Int} (h1:decide (p<1)=false) (h2:decide ((2305843009213693951:Int)≤p)=false) (h3:ordV e=true) (h4:ordV s=true)
  (h:(chalN (expV 37 s.toNat * expV p.toNat (2305843009213693950-e.toNat)%2305843009213693951) p.toNat msg:Int)=e):verN p msg e s=true:=by
 rw [verN,h1,h2,h3,h4]
 exact Ze h.symm
theorem r5 {P E G d:Nat} {msg:ByteArray} {m:List Nat} (hm:nl msg=m) (hl:m.length≤100000) {x1 x2 R:Nat} (hP1:1≤P) (hP2:P<2305843009213693951) (hd:E+d=2305843009213693950) (hd0:0<d) (hG:G<2305843009213693950) (h1:powL 37 G=x1) (h2:powL P d=x2) (h3:x1*x2%2305843009213693951=R) (h4:chalL R P m=E) :
  verN (P:Int) msg (E:Int) (G:Int)=true:=by
 subst hm
 have e1:(2305843009213693950:Nat)-E=d:=by omega
 refine r6 (Zd ab) (Zd ab) (by rw [ordV,Ze ab,Ze (by omega)];rfl) (by rw [ordV,Ze ab,Ze (by omega)];rfl) ?_
 rw [ZP,ZP,ZP,e1,dO,dO,h1,h2,h3,ox _ _ _ hl,h4]
end Go.Proofs.YtamfbppnlomgfaaGreatDoor
namespace Go.Proofs.YtamfbppnlomgfaaGreatDoor
open Go Go.Proofs Sy
structure Xg where
 from_:Int
 public_:Int
 home:Int
def Xg.cells (k:Xg):List Value:=[.int .i64 k.from_,.int .i64 k.public_,.int .i64 k.home]
def Xg.v (k:Xg):Value:=.agg k.cells.toArray
def Xg.zero:Xg:=⟨0,0,0⟩
def Keyz (w:World) (s:Xh) (l:List Xg):Prop:=Xd w 3 s (l.map Xg.cells)
theorem Keyz.know {s:Xh} {l:List Xg}:∀ w,Keyz w s l→s.n=l.length∧s.n≤maxLen∧(0<l.length→s.p.isSome=true):=fun w h =>
 ⟨by simpa using Xd.len h,ZO (Xd.cap h) (Xd.max h),fun hl=>(Xd.row h 0 l[0].cells (by simp [Zc hl])).2.1⟩
theorem Keyz.get {w:World} {s:Xh} {l:List Xg} (h:Keyz w s l) {i:Nat} {x:Xg} (hx:l[i]?=some x):x.cells.length=3∧s.p.isSome=true∧∀ j u,x.cells[j]?=some u→CellAt w s.p (i*3+j) u:=Xd.row h i _ (by simp [hx])
namespace Sy
section
variable {P:Program} {N:Nat} {av bor:List Nat} {w0:World} {ops:Array Oper} {rest:List Oper} {E:Env} {loc:List Xi} {X:World→Prop} {k:St→Prop} {ty:TypeId} {pos:String} {af:Array Edge} {g:Option (Nat×Bool)} {bb want:Bool}
end
end Sy
end Go.Proofs.YtamfbppnlomgfaaGreatDoor
namespace Go.Proofs.YtamfbppnlomgfaaGreatDoor
open Go Go.Proofs Sy Tryz
def keyF (kl:List Xg) (i:Int):Nat→Option Xg
 | 0=>none
 | j+1=>bif decide ((kl.getD j Xg.zero).from_≤i) then some (kl.getD j Xg.zero) else keyF kl i j
def keyV (n:Nat) (kl:List Xg) (i:Int):Option Xg:=bif decide (i<0)||decide ((n:Int)<i) then none else keyF kl i kl.length
def keyOP (o:Option Xg):Value:=.tuple #[(o.getD Xg.zero).v,.bool o.isSome]
structure KeyI (kl:List Xg) (i:Int) where
 k:Nat
 hk:k≤kl.length
 hs:keyF kl i kl.length=keyF kl i k
theorem dG (c:Xb) (kl:List Xg) (i:Int):Pu prog 7 #[c.v,.int .i64 i] (fun w=>c.at_ w∧Keyz w c.keys kl) (keyOP (keyV c.acts.n kl i)):=by
 refine ax func7 ntmps7 fun av bor w0=>?_
 refine aK (p:=c.keys.n=kl.length∧c.keys.n≤maxLen∧(0<kl.length→c.keys.p.isSome=true)) (fun w h=>Keyz.know w h.2) fun ⟨hkn,hkm,hkp⟩=>?_
 simp only [maxLen] at hkm
 cases hb:(decide (i<0)||decide ((c.acts.n:Int)<i)) with
 | true =>
  rw [show keyV c.acts.n kl i=none from by rw [keyV,hb];rfl]
  repeat' (first|refine gs ?_|refine gs1 fun _=>?_|(refine aI (cs:=Xg.zero.cells) (hf:=by rfl) ?_)|(refine gp ?_ ?_<;>intro hx_ this)|fail)
  all_goals first
   | exact aa (bn rfl rfl rfl aB (by rfl)) rfl
   | (exfalso;simp_all;done)
 | false =>
  have hb':=hb
  simp only [Z9,Z2] at hb'
  obtain ⟨h0,h1⟩:=hb'
  rw [show keyV c.acts.n kl i=keyF kl i kl.length from by rw [keyV,hb];rfl]
  repeat' (first|refine aL ?_ (bR false rfl rfl (Zd h0))|refine ij (hab:=h1) ?_|refine gs ?_|refine gs1 fun _=>?_|(refine gp ?_ ?_<;>intro hx_ this)|fail)
  rename_i b2 b4
  refine az (ι:=KeyI kl i) (fun j=>⟨[(1,.int .i64 i),(2,.pointer (some ⟨b2,0,none⟩)),(4,.pointer (some ⟨b4,0,none⟩)),(6,.int .i64 ((j.k:Nat)-1))],[cel b4 40 Xg.zero.cells,cel b2 26 c.cells],fun w=>c.at_ w∧Keyz w c.keys kl⟩) (fun j=>j.k) ⟨c.keys.n,by omega,by rw [hkn]⟩ (ak aw (aj _) fun _ h=>h) fun j=>?_
  obtain ⟨k,hk,hs⟩:=j
  simp only
  cases k with
  | zero =>
   rw [hs]
   clear hs
   repeat' (first|refine aL ?_ (cY false rfl rfl (Zd ab))|refine gs ?_|refine gs1 fun _=>?_|(refine aI (cs:=Xg.zero.cells) (hf:=by rfl) ?_)|(refine gp ?_ ?_<;>intro hx_ this)|fail)
   exact aa (bn rfl rfl rfl aB (by rfl)) rfl
  | succ k =>
   obtain ⟨y,hy⟩:∃ y,kl[k]?=some y:=⟨_,Zc ab⟩
   have hyD:kl.getD k Xg.zero=y:=by rw [Zl,hy];rfl
   have hkp':=hkp ab
   cases hle:decide (y.from_≤i) with
   | true =>
    rw [hs,show keyF kl i (k+1)=some y from by rw [keyF,hyD,hle];rfl]
    clear hs
    have hle':=bC hle
    repeat' (first|refine aL ?_ (cY true rfl rfl (Ze ab))|refine bm (q:=k*3) (u:=.int .i64 y.from_) (hF:=fun w h=>(Keyz.get h.2 hy).2.2 0 _ rfl) ?_|refine gs ?_|refine gs1 fun _=>?_|(refine aA (q:=k*3) ?_)|(refine cH ?_)|(refine aO (cs:=y.cells) (hF:=fun w h=>Keyz.get h.2 hy) ?_)|(refine gp ?_ ?_<;>intro hx_ this)|fail)
    all_goals first
     | exact aa (bn rfl rfl rfl aB (by rfl)) rfl
     | (exfalso;omega)
   | false =>
    have hs2:keyF kl i kl.length=keyF kl i k:=by rw [hs,keyF,hyD,hle];rfl
    repeat' (first|refine aL ?_ (cY true rfl rfl (Ze ab))|refine bm (q:=k*3) (u:=.int .i64 y.from_) (hF:=fun w h=>(Keyz.get h.2 hy).2.2 0 _ rfl) ?_|refine gs ?_|refine gs1 fun _=>?_|(refine aA (q:=k*3) ?_)|(refine cH ?_)|(refine gp ?_ ?_<;>intro hx_ this)|fail)
    all_goals first
     | exact ⟨(⟨k,by omega,hs2⟩:KeyI kl i),Nat.lt_succ_self k,ak ⟨rfl,rfl,rfl,(by show some (Value.int IntKind.i64 (((k+1:Nat):Int)-1-1))=some (Value.int IntKind.i64 ((k:Int)-1));rw [show ((k+1:Nat):Int)-1-1=(k:Int)-1 from by omega]),trivial⟩ (aj _) fun _ h=>h⟩
     | (exfalso;exact absurd (by assumption) (cq hle))
theorem pi (s:Xh) (l:List ByteArray) (x:ByteArray):Pu prog 139 #[s.v,.string x] (fun w=>Strs w s l) (.int .i64 (idxS l x)):=by
 refine ax func139 ntmps139 fun av bor w0=>?_
 refine aK (p:=s.n=l.length∧s.n≤maxLen∧(0<l.length→s.p.isSome=true)) (fun w h=>⟨h.len_,ZO (Xd.cap h) (Xd.max h),h.some_⟩) fun ⟨hl,hm,hp⟩=>?_
 simp only [maxLen] at hm
 repeat' (first|refine gs ?_|fail)
 refine az (ι:=Ec l.length (fun k=>seqB x (l.getD k .empty))) (fun i=>⟨[(0,s.v),(1,.string x),(7,.int .i64 s.n),(8,.int .i64 i.k)],[],fun w=>Strs w s l⟩) (fun i=>l.length-i.k) (Ec.zero _ _) (ak aw (aj _) fun _ h=>h) fun i=>?_
 have hik:=i.hk
 repeat' (first|refine gs ?_|(refine gp ?_ ?_<;>intro hx_ this)|fail)
 · have hlt:i.k<l.length:=by omega
   have hp':=hp ab
   repeat' (first|refine gs ?_|(refine aA (q:=i.k) ?_)|(refine bm (hF:=fun w h=>Strs.get h hlt) ?_)|(refine gp ?_ ?_<;>intro hx_ this)|fail)
   · apply aa;apply ai;rfl;rfl
     rw [mZ i hlt (by assumption)]
   · exact ⟨i.next hlt (by assumption),(by show l.length-(i.k+1)<l.length-i.k;omega),ak aw (aj _) fun _ h=>h⟩
 · apply aa;apply ai;rfl;rfl
   rw [pk i (by omega)]
theorem dm (s:Xh) (l:List ByteArray) (x:ByteArray):Pu prog 85 #[s.v,.string x] (fun w=>Strs w s l) (.bool (hasS l x)):=by
 refine ax func85 ntmps85 fun av bor w0=>?_
 repeat' (first|refine ae (hc:=pi s l x) ?_|refine gs ?_|fail)
 apply aa;apply ai;rfl;rfl
 rw [rf]
end Go.Proofs.YtamfbppnlomgfaaGreatDoor
namespace Go.Proofs.YtamfbppnlomgfaaGreatDoor
open Go Go.Proofs Sy Go.Shelf Go.Maps Go.Sort
theorem compS_c:CompC Tryz.prog 87 encStr [] Lib.compact where
 some_:=fun blk off cap ss w h1 h2 h3=>Any.slices_Compact_string Tryz.compS blk off cap ss w h1 h2 h3
 none_:=fun p cap w=>Any.slices_Compact_string_empty Tryz.compS p cap w
 len:=fun ss=>Lib.compact_length_le ss
end Go.Proofs.YtamfbppnlomgfaaGreatDoor
