/- Joined. -/
import Derived.Test.YtaolfiikahlmkaaGreatDoorZ13
import Derived.Laws.StructEq
set_option linter.unusedVariables false
set_option linter.unusedSimpArgs false
set_option maxHeartbeats 16000000
namespace Go.Proofs.YtaolfiikahlmkaaGreatDoor
open Go Go.Proofs Sy Go.Shelf
namespace Rf4
theorem GM (m x:Nat) (hm:m≤64):shrV .u64 (x:Int) (m:Int)=((x/2 ^ m:Nat):Int):=by
 show (x:Int).fdiv (2 ^ (min (m:Int).toNat 64))=_
 rw [ZZ,Nat.min_eq_left hm,show (2:Int) ^ m=((2 ^ m:Nat):Int) by rw [Int.natCast_pow];rfl,←Int.ofNat_fdiv]
theorem iP {p:Nat} (h:p<18446744073709551616):IntKind.u64.wrap (p:Int)=(p:Int):=by
 simp [IntKind.wrap,IntKind.signed,IntKind.bits]
 omega
theorem GU (m x:Nat) (hm:m≤62) (hx:x<18446744073709551616):bitsV .and .u64 (x:Int) (((2 ^ m-1:Nat)):Int)=((x%2 ^ m:Nat):Int):=by
 show IntKind.u64.wrap ((((BitVec.ofInt 64 (x:Int)) &&& (BitVec.ofInt 64 (((2 ^ m-1:Nat)):Int))).toNat:Nat):Int)=_
 have h1:2 ^ m≤2 ^ 62:=Nat.pow_le_pow_right (by decide) hm
 have h2:0<2 ^ m:=Nat.two_pow_pos m
 rw [BitVec.toNat_and,Qm,Qm,Qp,Qp,ZD (show x<2 ^ 64 by omega),ZD (show 2 ^ m-1<2 ^ 64 by omega),Nat.and_two_pow_sub_one_eq_mod]
 exact iP (by have:=Qc x h2;omega)
theorem GO (m x:Nat) (hm:m≤64) (hx:x*2 ^ m<18446744073709551616):shlV .u64 (x:Int) (m:Int)=((x*2 ^ m:Nat):Int):=by
 show IntKind.u64.wrap ((x:Int)*2 ^ (min (m:Int).toNat 64))=_
 rw [ZZ,Nat.min_eq_left hm,show (x:Int)*(2:Int) ^ m=((x*2 ^ m:Nat):Int) by rw [Int.natCast_mul,Int.natCast_pow];rfl]
 exact iP hx
section
variable {N:Nat} {av bor:List Nat} {w0:World} {st:St} {ty:TypeId} {x y:Operand} {E:Env} {loc:List Res} {X:World→Prop} {ops:Array Oper} {kk k:St→Prop} {pos:String} {af:Array Edge} {g:Option (Nat×Bool)} {rest:List Oper} {bb want:Bool} {n:Nat} {t t2:TypeId} {d:Option Tmp}
theorem qd {k':IntKind} (m r:Nat) {p:Nat} (hx:ev E x=some (.int .u64 (p:Nat)):=by rfl) (hy:ev E y=some (.int k' (m:Int)):=by rfl) (hm:m≤64∧p/2 ^ m=r) (hg:gdB ops E g=some (bb,want):=by rfl) (hbb:bb=want:=by exact am) (hd:Nat.blt n N=true:=by rfl) (h:Sw Tryz.prog N av bor w0 ops rest ⟨(n,.int .u64 (r:Nat))::E,loc,X⟩ k) :
  Sw Tryz.prog N av bor w0 ops (⟨some n,.binOp .shr t x y t2,ty,pos,af,g⟩::rest) ⟨E,loc,X⟩ k:=ui hx hy aa hg hbb hd (by rw [GM m p hm.1,hm.2];exact h)
theorem qf (m r:Nat) {p:Nat} (hx:ev E x=some (.int .u64 (p:Nat)):=by rfl) (hy:ev E y=some (.int .u64 ((2 ^ m-1:Nat):Int)):=by rfl) (hm:m≤62∧p<18446744073709551616∧p%2 ^ m=r) (hg:gdB ops E g=some (bb,want):=by rfl) (hbb:bb=want:=by exact am) (hd:Nat.blt n N=true:=by rfl) (h:Sw Tryz.prog N av bor w0 ops rest ⟨(n,.int .u64 (r:Nat))::E,loc,X⟩ k) :
  Sw Tryz.prog N av bor w0 ops (⟨some n,.binOp .and t x y t2,ty,pos,af,g⟩::rest) ⟨E,loc,X⟩ k:=ai (rq hx hy) hg hbb hd (by rw [GU m p hm.1 hm.2.1,hm.2.2];exact h)
theorem Dv {k':IntKind} (m r:Nat) {p:Nat} (hx:ev E x=some (.int .u64 (p:Nat)):=by rfl) (hy:ev E y=some (.int k' (m:Int)):=by rfl) (hm:m≤64∧p*2 ^ m<18446744073709551616∧p*2 ^ m=r) (hg:gdB ops E g=some (bb,want):=by rfl) (hbb:bb=want:=by exact am) (hd:Nat.blt n N=true:=by rfl) (h:Sw Tryz.prog N av bor w0 ops rest ⟨(n,.int .u64 (r:Nat))::E,loc,X⟩ k) :
  Sw Tryz.prog N av bor w0 ops (⟨some n,.binOp .shl t x y t2,ty,pos,af,g⟩::rest) ⟨E,loc,X⟩ k:=AO hx hy aa hg hbb hd (by rw [GO m p hm.1 hm.2.1,hm.2.2];exact h)
theorem vM [hI:TyInt Tryz.prog t .u64] {p q:Nat} (h:Sw Tryz.prog N av bor w0 ops rest ⟨(n,.int .u64 ((p*q:Nat):Int))::E,loc,X⟩ k) (hx:ev E x=some (.int .u64 (p:Nat)):=by rfl) (hy:ev E y=some (.int .u64 (q:Nat)):=by rfl) (hq:p*q<18446744073709551616) (hg:gdB ops E g=some (bb,want):=by rfl) (hbb:bb=want:=by exact am) (hd:Nat.blt n N=true:=by rfl) :
  Sw Tryz.prog N av bor w0 ops (⟨some n,.binOp .mul t x y t2,ty,pos,af,g⟩::rest) ⟨E,loc,X⟩ k:=eI (c:=((p*q:Nat):Int)) hx hy (by rw [←Int.natCast_mul];exact iP hq) hg hbb hd h
theorem vO [hI:TyInt Tryz.prog t .u64] {p q:Nat} (h:Sw Tryz.prog N av bor w0 ops rest ⟨(n,.int .u64 ((p+q:Nat):Int))::E,loc,X⟩ k) (hx:ev E x=some (.int .u64 (p:Nat)):=by rfl) (hy:ev E y=some (.int .u64 (q:Nat)):=by rfl) (hq:p+q<18446744073709551616) (hg:gdB ops E g=some (bb,want):=by rfl) (hbb:bb=want:=by exact am) (hd:Nat.blt n N=true:=by rfl) :
  Sw Tryz.prog N av bor w0 ops (⟨some n,.binOp .add t x y t2,ty,pos,af,g⟩::rest) ⟨E,loc,X⟩ k:=co (c:=((p+q:Nat):Int)) hx hy (by rw [←Int.natCast_add];exact iP hq) hg hbb hd h
end
theorem F4 {P:Program} {fn:Func} {N t u r:Nat} {s:St} {v x y:Value} (hr:fn.results=#[.tmp t,.tmp u,.tmp r]) (h:Sy.look s.env t=some v) (h':Sy.look s.env u=some x) (h2:Sy.look s.env r=some y):Res1 P fn N s (.tuple #[v,x,y]):=fun av bor w0 a w ok=>by
 have h3:=ok.env t v h
 have h4:=ok.env u x h'
 have h5:=ok.env r y h2
 simp [results,hr,h3,h4,h5]
theorem kH (a m:Nat) (hm:0<m) (hm2:m<4611686018427387904):Pu Tryz.prog 279 #[.int .i64 (a:Int),.int .i64 (m:Int)] (fun _=>True) (.int .i64 ((a%m:Nat):Int)):=by
 refine ak (args:=[_,_]) _ Tryz.func279 rfl Tryz.ntmps279 rfl fun av bor w0=>?_
 have hr:Eqq ((a:Int).tmod (m:Int)) ((a%m:Nat):Int):=jN a m
 repeat' (first|refine fo (hb:=by omega) (hc:=hr) ?_|refine gs ?_|(refine gp ?_ ?_<;>intro hx_ this)|fail)
 · exfalso;omega
 · apply ad;apply ag;rfl;rfl
   rfl
theorem sF (a b x1 x0 y1 y0:Nat) (ha:a<2305843009213693952) (hb:b<2305843009213693952) (h1:a/2 ^ 31=x1) (h0:a%2 ^ 31=x0) (g1:b/2 ^ 31=y1) (g0:b%2 ^ 31=y0) (hm:x1*y1<1152921504606846976) (hp:x1*y0<4611686018427387904) (hq:x0*y1<4611686018427387904) (hr:x0*y0<4611686018427387904) :
  Pu Tryz.prog 278 #[.int .i64 (a:Int),.int .i64 (b:Int)] (fun _=>True) (.tuple #[.int .u64 ((x1*y1:Nat):Int),.int .u64 ((x1*y0+x0*y1:Nat):Int),.int .u64 ((x0*y0:Nat):Int)]):=by
 refine ak (args:=[_,_]) _ Tryz.func278 rfl Tryz.ntmps278 rfl fun av bor w0=>?_
 repeat' (first|refine SrG.sy_toU_g (hq:=by omega) (h:=?_)|refine qd 31 x1 (hm:=by omega) (h:=?_)|refine qd 31 y1 (hm:=by omega) (h:=?_)|refine qf 31 x0 (hm:=by omega) (h:=?_)|refine qf 31 y0 (hm:=by omega) (h:=?_)|refine vM (hq:=by omega) ?_|refine vO (hq:=by omega) ?_|refine gs ?_|(refine gp ?_ ?_<;>intro hx_ this)|fail)
 exact ad (F4 rfl rfl rfl rfl) rfl
theorem mulR {x y x1 x0 y1 y0:Nat} (h1:x/2 ^ 31=x1) (h0:x%2 ^ 31=x0) (g1:y/2 ^ 31=y1) (g0:y%2 ^ 31=y0) :
  x*y%2305843009213693951=(2*(x1*y1)+(x1*y0+x0*y1)/2 ^ 30+(x1*y0+x0*y1)%2 ^ 30*2 ^ 31+x0*y0)%2305843009213693951:=by
 have hx:x=x1*2147483648+x0:=by omega
 have hy:y=y1*2147483648+y0:=by omega
 have e:x*y=x1*y1*4611686018427387904+(x1*y0+x0*y1)*2147483648+x0*y0:=by
  rw [hx,hy,QE,Nat.mul_add,Nat.mul_add,Nat.mul_mul_mul_comm,Nat.mul_right_comm x1 _ y0,←Nat.mul_assoc x0,QE (x1*y0)]
  omega
 rw [e]
 generalize x1*y1=H
 generalize x1*y0+x0*y1=M
 generalize x0*y0=L
 have:H*4611686018427387904+M*2147483648+L=(2*H+M/2 ^ 30+M%2 ^ 30*2 ^ 31+L)+2305843009213693951*(2*H+M/2 ^ 30):=by omega
 rw [this,Nat.add_mul_mod_self_left]
theorem kG (a b:Nat):Pu Tryz.prog 236 #[.int .i64 (a:Int),.int .i64 (b:Int)] (fun _=>True) (.int .i64 ((a*b%2305843009213693951:Nat):Int)):=by
 refine ak (args:=[_,_]) _ Tryz.func236 rfl Tryz.ntmps236 rfl fun av bor w0=>?_
 have c1:=kH a 2305843009213693951 (by decide) (by decide)
 have c2:=kH b 2305843009213693951 (by decide) (by decide)
 have hx:=Qc a (show 0<2305843009213693951 by decide)
 have hy:=Qc b (show 0<2305843009213693951 by decide)
 have hab:a*b%2305843009213693951=(a%2305843009213693951)*(b%2305843009213693951)%2305843009213693951:=Nat.mul_mod a b _
 rw [hab]
 generalize a%2305843009213693951=x at *
 generalize b%2305843009213693951=y at *
 obtain ⟨x1,h1⟩:∃ x1,x/2 ^ 31=x1:=⟨_,rfl⟩
 obtain ⟨x0,h0⟩:∃ x0,x%2 ^ 31=x0:=⟨_,rfl⟩
 obtain ⟨y1,g1⟩:∃ y1,y/2 ^ 31=y1:=⟨_,rfl⟩
 obtain ⟨y0,g0⟩:∃ y0,y%2 ^ 31=y0:=⟨_,rfl⟩
 have b1:x1≤1073741823:=by omega
 have b0:x0≤2147483647:=by omega
 have d1:y1≤1073741823:=by omega
 have d0:y0≤2147483647:=by omega
 have m1:x1*y1≤1073741823*1073741823:=Nat.mul_le_mul b1 d1
 have m2:x1*y0≤1073741823*2147483647:=Nat.mul_le_mul b1 d0
 have m3:x0*y1≤2147483647*1073741823:=Nat.mul_le_mul b0 d1
 have m4:x0*y0≤2147483647*2147483647:=Nat.mul_le_mul b0 d0
 have c3:=sF x y x1 x0 y1 y0 aa aa h1 h0 g1 g0 aa aa aa aa
 rw [mulR h1 h0 g1 g0]
 generalize x1*y1=H at *
 generalize hM:x1*y0+x0*y1=M at *
 have hM2:M≤1073741823*2147483647+2147483647*1073741823:=by omega
 generalize x0*y0=L at *
 obtain ⟨p,hp⟩:∃ p,M/2 ^ 30=p:=⟨_,rfl⟩
 obtain ⟨q,hq⟩:∃ q,M%2 ^ 30=q:=⟨_,rfl⟩
 obtain ⟨r,hr⟩:∃ r,q*2 ^ 31=r:=⟨_,rfl⟩
 rw [hp,hq,hr]
 have hrm:Eqq (((2*H+p+r+L:Nat):Int).tmod 2305843009213693951) (((2*H+p+r+L)%2305843009213693951:Nat):Int):=jN (2*H+p+r+L) 2305843009213693951
 have hz:=Qc (2*H+p+r+L) (show 0<2305843009213693951 by decide)
 repeat' (first|refine SrG.sy_toI_g (hq:=by omega) (h:=?_)|refine qd 30 p (hm:=by omega) (h:=?_)|refine qf 30 q (hm:=by omega) (h:=?_)|refine Dv 31 r (hm:=by omega) (h:=?_)|refine vM (p:=2) (hq:=by omega) ?_|refine vO (hq:=by omega) ?_|refine fo (hb:=by decide) (hc:=hrm) ?_|(refine ab (hc:=c1) (hX:=fun w h=>h) ?_)|(refine ab (hc:=c2) (hX:=fun w h=>h) ?_)|(refine ab (hc:=c3) (hX:=fun w h=>h) ?_)|refine gs ?_|(refine gp ?_ ?_<;>intro hx_ this)|fail)
 apply ad;apply ag;rfl;rfl
 rfl
end Rf4
namespace Rf4
theorem quo2 (a:Nat) (ha:a<9223372036854775808):IntKind.i64.wrap ((a:Int).tdiv 2)=((a/2:Nat):Int):=by
 rw [show (2:Int)=((2:Nat):Int) from rfl,Qq aa,←Int.natCast_ediv]
 exact IntWalk.i64_in _ aa
structure ExS (a e:Nat) where
 x:Nat
 b:Nat
 f:Nat
 hx:x<2305843009213693951
 hf:f≤e
 inv:x*b ^ f%2305843009213693951=a ^ e%2305843009213693951
theorem Br (b h M:Nat):(b*b%M) ^ h%M=b ^ (h+h)%M:=by
 rw [←Nat.pow_mod,Nat.mul_pow,←Nat.pow_add]
theorem Eo {x b f M:Nat} (h:f%2=1):(x*b%M)*(b*b%M) ^ (f/2)%M=x*b ^ f%M:=by
 have hf:f=1+(f/2+f/2):=by omega
 conv=>rhs;rw [hf,Nat.pow_add,Nat.pow_one,←Nat.mul_assoc]
 rw [Nat.mul_mod (x*b%M),Nat.mod_mod,Br,←Nat.mul_mod]
theorem B3 {x b f M:Nat} (h:¬ f%2=1):x*(b*b%M) ^ (f/2)%M=x*b ^ f%M:=by
 have hf:f=f/2+f/2:=by omega
 conv=>rhs;rw [hf]
 rw [Nat.mul_mod,Br,←Nat.mul_mod]
theorem yl (a e:Nat) (he:e<9223372036854775808):Pu Tryz.prog 237 #[.int .i64 (a:Int),.int .i64 (e:Int)] (fun _=>True) (.int .i64 ((a ^ e%2305843009213693951:Nat):Int)):=by
 refine ak (args:=[_,_]) _ Tryz.func237 rfl Tryz.ntmps237 rfl fun av bor w0=>?_
 have c1:=kH a 2305843009213693951 (by decide) (by decide)
 repeat' (first|(refine ab (hc:=c1) (hX:=fun w h=>h) ?_)|refine gs ?_|(refine gp ?_ ?_<;>intro hx_ this)|fail)
 · exfalso;omega
 · refine ar (ι:=ExS a e) (fun i=>⟨[(1,.int .i64 (i.f:Nat)),(5,.int .i64 (i.x:Nat)),(6,.int .i64 (i.b:Nat))],[],fun _=>True⟩) (fun i=>i.f) ⟨1,a%2305843009213693951,e,by decide,ZX _,by rw [Nat.one_mul,←Nat.pow_mod]⟩ (aj qZq9 (Zu _) fun _ h=>h) fun i=>?_
   obtain ⟨x,b,f,hx,hf,inv⟩:=i
   simp only
   have hm1:=kG x b
   have hm2:=kG b b
   have hr:Eqq ((f:Int).tmod 2) ((f%2:Nat):Int):=jN f 2
   have hq:Eqq (IntKind.i64.wrap ((f:Int).tdiv 2)) ((f/2:Nat):Int):=quo2 f aa
   repeat' (first|refine fo (hb:=by decide) (hc:=hr) ?_|refine jj (hb:=by decide) (hc:=hq) ?_|(refine ab (hc:=hm1) (hX:=fun w h=>h) ?_)|(refine ab (hc:=hm2) (hX:=fun w h=>h) ?_)|refine gs ?_|(refine gp ?_ ?_<;>intro hx_ this)|fail)
   · have hc:f%2=1:=by
      have:=aG hx_
      omega
     exact ⟨(⟨x*b%2305843009213693951,b*b%2305843009213693951,f/2,Qc _ (by decide),by omega,(Eo hc).trans inv⟩:ExS a e),(by show f/2<f;omega),aj qZq9 (Zu _) fun _ h=>h⟩
   · have hc:¬ f%2=1:=by
      have:=aQ hx_
      omega
     exact ⟨(⟨x,b*b%2305843009213693951,f/2,hx,by omega,(B3 hc).trans inv⟩:ExS a e),(by show f/2<f;omega),aj qZq9 (Zu _) fun _ h=>h⟩
   · have hk:f=0:=by omega
     apply ad;apply ag;rfl;rfl
     rw [←inv,hk,Nat.pow_zero,Nat.mul_one,ZD hx]
end Rf4
namespace Rf4
theorem j1:∀ f x:Nat,x<2 ^ f→x<2 ^ Lib.bitLenAux f x
 | 0,x,h=>h
 | f+1,x,h=>by
  rw [Lib.bitLenAux]
  split
  · rename_i h0
    rw [h0]
    decide
  · have h1:=j1 f (x/2) (by rw [Nat.pow_succ] at h;omega)
    rw [Nat.pow_add]
    omega
theorem tC (a e:Nat):∀ i,(expF a e i).1=a ^ (e%2 ^ i)%2305843009213693951∧(expF a e i).2=a ^ 2 ^ i%2305843009213693951
 | 0=>by
  refine ⟨?_,?_⟩
  · show 1=_
    rw [Nat.pow_zero,Nat.mod_one,Nat.pow_zero]
  · show a%_=_
    rw [Nat.pow_zero,Nat.pow_one]
 | i+1=>by
  obtain ⟨h1,h2⟩:=tC a e i
  refine ⟨?_,?_⟩
  · show (bif decide (e/2 ^ i%2=1) then (expF a e i).1*(expF a e i).2%2305843009213693951 else (expF a e i).1)=_
    rw [Nat.mod_pow_succ,h1,h2]
    by_cases h:e/2 ^ i%2=1
    · rw [Zd h,Zf,h,Nat.mul_one,Nat.pow_add,←Nat.mul_mod]
    · have h0:e/2 ^ i%2=0:=by omega
      rw [Zc h,Ze,h0,Nat.mul_zero,ZT]
  · show (expF a e i).2*(expF a e i).2%2305843009213693951=_
    rw [h2,←Nat.mul_mod,←Nat.pow_add,Nat.pow_succ,Nat.mul_two]
theorem Cl (a e:Nat) (he:e<9223372036854775808):expV a e=a ^ e%2305843009213693951:=by
 have h:e<2 ^ Lib.bitLen e:=j1 64 e aa
 rw [expV,(tC a e _).1,ZD h]
theorem nC (a e:Nat) (he:e<9223372036854775808):Pu Tryz.prog 237 #[.int .i64 (a:Int),.int .i64 (e:Int)] (fun _=>True) (.int .i64 (expV a e:Nat)):=by
 rw [Cl a e he]
 exact yl a e he
def numS (s:ByteArray) (k:Nat):Nat:=bif decide (k=8) then numN (nl s) else numF (nl s) k
theorem qH {s:ByteArray} {k:Nat} (h:k<8):numS s k=numF (nl s) k:=by rw [numS,Zc aa,Ze]
theorem kv {n:Nat} (h:n<9223372036854775808):IntKind.i64.wrap (n:Int)=(n:Int):=IntWalk.i64_in _ aa
theorem stepA {s:ByteArray} {k:Nat} (h:k<7) {b:Int} (hb:b=(((nl s).getD k 0:Nat):Int)):IntKind.i64.wrap (IntKind.i64.wrap (256*((numS s k:Nat):Int))+b)=((numS s (k+1):Nat):Int):=by
 have h1:=numF7 s (show k<8 by omega)
 have h2:=numF7 s (show k+1<8 by omega)
 rw [qH aa,qH aa,hb]
 rw [numF] at h2 ⊢
 generalize numF (nl s) k=x at *
 generalize (nl s).getD k 0=y at *
 rw [show (256:Int)*(x:Int)=((256*x:Nat):Int) by omega,kv aa,←Int.natCast_add,kv (by omega)]
 omega
theorem stepB {s:ByteArray} {b:Int} (hb:b=(((nl s).getD 7 0:Nat):Int)):IntKind.i64.wrap (IntKind.i64.wrap (32*((numS s 7:Nat):Int))+IntKind.i64.wrap (b.tdiv 8))=((numS s 8:Nat):Int):=by
 have h1:=numF7 s (show 7<8 by omega)
 have h2:=fT (jZ s) 7
 have e8:numS s 8=(numF (nl s) 7*256+(nl s).getD 7 0)/8:=rfl
 rw [e8,qH aa,hb]
 generalize numF (nl s) 7=x at *
 generalize (nl s).getD 7 0=y at *
 rw [show (32:Int)*(x:Int)=((32*x:Nat):Int) by omega,kv aa,show ((y:Int)).tdiv 8=((y/8:Nat):Int) by rw [Qq (by omega)];omega,kv aa,←Int.natCast_add,kv (by omega)]
 omega
theorem byteIn {s:ByteArray} {k:Nat} (h:k<s.size):IntKind.i64.wrap (byteAt s (k:Int).toNat)=(((nl s).getD k 0:Nat):Int):=by
 have h2:=fT (jZ s) k
 rw [show ((k:Int)).toNat=k from rfl,q8 s _ h,kv (by omega)]
theorem byteOut {s:ByteArray} {k:Nat} (h:s.size≤k):(0:Int)=(((nl s).getD k 0:Nat):Int):=by
 rw [Zo,List.getElem?_eq_none (by rw [dr];exact h),Option.getD_none]
 rfl
theorem sG (s:ByteArray):Pu Tryz.prog 277 #[.string s] (fun _=>True) (.int .i64 (numN (nl s):Nat)):=by
 refine ak (args:=[_]) _ Tryz.func277 rfl Tryz.ntmps277 rfl fun av bor w0=>?_
 repeat' (first|refine gs ?_|(refine gp ?_ ?_<;>intro hx_ this)|fail)
 refine ar (ι:=Kth 8) (fun i=>⟨[(0,.string s),(3,.int .i64 ((numS s i.k:Nat):Int)),(4,.int .i64 i.k)],[],fun _=>True⟩) (fun i=>8-i.k) ⟨0,Z4 _⟩ (aj qZq9 (al _) fun _ h=>h) fun i=>?_
 have hik:=i.hk
 repeat' (first|refine jj (hb:=by decide) (hc:=rfl) ?_|refine gs ?_|(refine gp ?_ ?_<;>intro hx_ this)|fail)
 · exact ⟨⟨i.k+1,by omega⟩,(by show 8-(i.k+1)<8-i.k;omega),aj ⟨rfl,congrArg (fun z=>some (Value.int IntKind.i64 z)) (stepA aa (byteIn aa)),rfl,trivial⟩ (al _) fun _ h=>h⟩
 · have e7:i.k=7:=by omega
   obtain ⟨k,hk⟩:=i
   simp only at e7
   subst e7
   have hE:=@stepB s _ (byteIn (k:=7) aa)
   exact ⟨⟨8,by omega⟩,(by show 8-8<8-7;omega),aj ⟨rfl,congrArg (fun z=>some (Value.int IntKind.i64 z)) hE,rfl,trivial⟩ (al _) fun _ h=>h⟩
 · exact ⟨⟨i.k+1,by omega⟩,(by show 8-(i.k+1)<8-i.k;omega),aj ⟨rfl,congrArg (fun z=>some (Value.int IntKind.i64 z)) (stepA aa (byteOut aa)),rfl,trivial⟩ (al _) fun _ h=>h⟩
 · have e7:i.k=7:=by omega
   obtain ⟨k,hk⟩:=i
   simp only at e7
   subst e7
   have hE:=@stepB s _ (byteOut (k:=7) aa)
   exact ⟨⟨8,by omega⟩,(by show 8-8<8-7;omega),aj ⟨rfl,congrArg (fun z=>some (Value.int IntKind.i64 z)) hE,rfl,trivial⟩ (al _) fun _ h=>h⟩
 · have h8:i.k=8:=by omega
   apply ad;apply ag;rfl;rfl
   rw [h8]
   rfl
end Rf4
namespace Rf4
theorem uB (s:ByteArray) (hs:s.size≤1099511627776):Pu Tryz.prog 235 #[.string s] (fun _=>True) (.int .i64 (numN (nl (shaV s)):Nat)):=by
 refine ak (args:=[_]) _ Tryz.func235 rfl Tryz.ntmps235 rfl fun av bor w0=>?_
 repeat' (first|refine ab (hc:=pu _ hs) ?_|refine ab (hc:=sG _) ?_|refine gs ?_|(refine gp ?_ ?_<;>intro hx_ this)|fail)
 exact ad (ag rfl rfl) rfl
theorem uF (r p:Nat) (msg:ByteArray) (hr:r<9223372036854775808) (hp:p<9223372036854775808) (hm:msg.size≤1000000000000) :
  Pu Tryz.prog 151 #[.int .i64 (r:Int),.int .i64 (p:Int),.string msg] (fun _=>True) (.int .i64 (chalN r p msg:Nat)):=by
 refine ak (args:=[_,_,_]) _ Tryz.func151 rfl Tryz.ntmps151 rfl fun av bor w0=>?_
 have h1:=aB ⟨#[115,105,103,110]⟩
 have h2:=ap (r:Int)
 have h3:=ap (p:Int)
 have h4:=aB msg
 have h5:(⟨#[115,105,103,110]⟩:ByteArray).size=4:=rfl
 have ec:catB (chalP r p msg)=textV ⟨#[115,105,103,110]⟩++numV (r:Int)++numV (p:Int)++textV msg:=by
  show textV ⟨#[115,105,103,110]⟩++(numV (r:Int)++(numV (p:Int)++(textV msg++ByteArray.empty)))=_
  rw [Qj,Zy,Zy]
 have hsz:(catB (chalP r p msg)).size≤1099511627776:=by
  rw [ec]
  simp only [Za]
  omega
 have ch:=uB (catB (chalP r p msg)) hsz
 have c1:=cX ⟨#[115,105,103,110]⟩ (by decide)
 rw [ec] at ch
 have hrm:Eqq (((numN (nl (shaV (textV ⟨#[115,105,103,110]⟩++numV (r:Int)++numV (p:Int)++textV msg))):Nat):Int).tmod 2305843009213693950) ((chalN r p msg:Nat):Int):=by
  rw [chalN,hashN,ec]
  exact jN _ 2305843009213693950
 repeat' (first|refine nd (hb:=by ((try simp only [Za]);omega)) ?_|refine fo (hb:=by decide) (hc:=hrm) ?_|(refine ab (hc:=c1) (hX:=fun _ _=>trivial) ?_)|refine ab (hc:=cX _ aa) ?_|refine ab (hc:=cw _ aa) ?_|(refine ab (hc:=ch) (hX:=fun _ _=>trivial) ?_)|refine gs ?_|(refine gp ?_ ?_<;>intro hx_ this)|fail)
 all_goals first
  | exact ad (ag rfl rfl) rfl
section
variable {P:Program} {N:Nat} {av bor:List Nat} {w0:World} {st:St} {ty:TypeId} {x y:Operand} {t t2:TypeId}
theorem y_subM [hI:TyInt P t .i64] {p q:Nat} (hx:ev st.env x=some (.int .i64 (p:Nat))) (hy:ev st.env y=some (.int .i64 (q:Nat))) (hq:q≤p∧p<9223372036854775808):Sy.Yields P N av bor w0 st (.binOp .sub t x y t2) ty (.int .i64 ((p-q:Nat):Int)) :=
 oW hx hy (by rw [show (p:Int)-(q:Int)=((p-q:Nat):Int) by omega];exact IntWalk.i64_in _ aa)
end
theorem qy (p e s:Nat) (he:e≤2305843009213693950) (hs:s≤2305843009213693950) :
  Pu Tryz.prog 152 #[.int .i64 (p:Int),SgD.v ⟨(e:Int),(s:Int)⟩] (fun _=>True) (.int .i64 ((expV 37 s*expV p (2305843009213693950-e)%2305843009213693951:Nat):Int)):=by
 refine ak (args:=[_,_]) _ Tryz.func152 rfl Tryz.ntmps152 rfl fun av bor w0=>?_
 have c1:=nC 37 s aa
 have c2:=nC p (2305843009213693950-e) aa
 have c3:=kG (expV 37 s) (expV p (2305843009213693950-e))
 repeat' (first|refine gs ?_|refine gs1 fun _=>?_|(refine gp ?_ ?_<;>intro hx_ this)|fail)
 (refine bo ⟨[0,1,3,4,5,6],[(2,⟨[],[(7,⟨[],[(8,⟨[9],[]⟩)]⟩)]⟩)]⟩ (h:=?_))
 all_goals repeat' (first|refine ay (hy:=by first|(apply y_subM (p:=2305843009213693950);rfl;rfl;omega)) ?_|(refine ab (hc:=c1) (hX:=fun _ _=>trivial) ?_)|(refine ab (hc:=c2) (hX:=fun _ _=>trivial) ?_)|(refine ab (hc:=c3) (hX:=fun _ _=>trivial) ?_)|refine gd ?_|refine az ?_ (h':=?_)|exact aA|refine gs1 fun _=>?_|(refine gq ?_ ?_<;>intro hx_ this)|fail)
 all_goals
  repeat' (first|refine gs ?_|refine gs1 fun _=>?_|(refine gp ?_ ?_<;>intro hx_ this)|fail)
  exact ad (ag rfl rfl) rfl
def ranB (p e s:Int):Bool:=!(decide (p<1)||decide (2305843009213693951≤p)||!ordV e||!ordV s)
theorem uJ {p e s:Int}:ranB p e s=(decide (1≤p)&&(decide (p<2305843009213693951)&&(decide (0≤e)&&(decide (e<2305843009213693950)&&(decide (0≤s)&&decide (s<2305843009213693950)))))):=by
 rw [ranB,ordV,ordV]
 have e1:decide (p<1)=!decide (1≤p):=by by_cases h:1≤p<;>simp [h]<;>omega
 have e2:decide (2305843009213693951≤p)=!decide (p<2305843009213693951):=by by_cases h:p<2305843009213693951<;>simp [h]<;>omega
 rw [e1,e2]
 cases decide (1≤p)<;>cases decide (p<2305843009213693951)<;>cases decide (0≤e)<;>cases decide (e<2305843009213693950)<;>cases decide (0≤s)<;>cases decide (s<2305843009213693950)<;>rfl
theorem qv (p e s:Int):Pu Tryz.prog 150 #[.int .i64 p,SgD.v ⟨e,s⟩] (fun _=>True) (.bool (ranB p e s)):=by
 refine ak (args:=[_,_]) _ Tryz.func150 rfl Tryz.ntmps150 rfl fun av bor w0=>?_
 rw [uJ]
 repeat' (first|refine gs ?_|refine gs1 fun _=>?_|(refine gp ?_ ?_<;>intro hx_ this)|fail)
 all_goals refine ad (ag rfl rfl) ?_
 all_goals simp_all
 all_goals (intros;omega)
theorem refVerify_pu (p:Int) (msg:ByteArray) (e s:Int) (hm:msg.size≤1000000000000):Pu Tryz.prog 87 #[.int .i64 p,.string msg,SgD.v ⟨e,s⟩] (fun _=>True) (.bool (verN p msg e s)):=by
 refine ak (args:=[_,_,_]) _ Tryz.func87 rfl Tryz.ntmps87 rfl fun av bor w0=>?_
 have hrg:=qv p e s
 cases hbad:(decide (p<1)||decide (2305843009213693951≤p)||!ordV e||!ordV s) with
 | true =>
  rw [show ranB p e s=false from by rw [ranB,hbad];rfl] at hrg
  rw [show verN p msg e s=false from by rw [verN,hbad];rfl]
  repeat' (first|(refine ab (hc:=hrg) (hX:=fun _ _=>trivial) ?_)|refine gs ?_|refine gs1 fun _=>?_|(refine gp ?_ ?_<;>intro hx_ this)|fail)
  exact ad (ag rfl rfl) rfl
 | false =>
  have hb:=hbad
  simp only [Ql,Qd,Bool.not_eq_false'] at hb
  obtain ⟨⟨⟨h1,h2⟩,h3⟩,h4⟩:=hb
  simp only [ordV,Zp,Zw] at h3 h4
  rw [show ranB p e s=true from by rw [ranB,hbad];rfl] at hrg
  obtain ⟨pn,rfl⟩:∃ n:Nat,p=(n:Int):=⟨p.toNat,by omega⟩
  obtain ⟨en,rfl⟩:∃ n:Nat,e=(n:Int):=⟨e.toNat,by omega⟩
  obtain ⟨sn,rfl⟩:∃ n:Nat,s=(n:Int):=⟨s.toNat,by omega⟩
  have c1:=qy pn en sn aa aa
  obtain ⟨r,hr⟩:∃ r,expV 37 sn*expV pn (2305843009213693950-en)%2305843009213693951=r:=⟨_,rfl⟩
  have hrl:r<2305843009213693951:=by rw [←hr];exact Qc _ (by decide)
  have hV:verN (pn:Int) msg (en:Int) (sn:Int)=decide (((en:Nat):Int)=(chalN r pn msg:Nat)):=by
   rw [verN,hbad,Ze,ZZ,ZZ,ZZ,hr]
  rw [hr] at c1
  rw [hV,show decide (((en:Nat):Int)=(chalN r pn msg:Nat))=decide (((chalN r pn msg:Nat):Int)=(en:Nat)) from by by_cases h:((en:Nat):Int)=(chalN r pn msg:Nat)<;>simp [h,eq_comm]]
  have c2:=uF r pn msg aa aa hm
  clear hbad hV hr
  generalize chalN r pn msg=cn at *
  repeat' (first|(refine ab (hc:=hrg) (hX:=fun _ _=>trivial) ?_)|refine gs ?_|refine gs1 fun _=>?_|(refine gp ?_ ?_<;>intro hx_ this)|fail)
  (refine bo ⟨[0,1,3,4,6,7],[(2,⟨[],[(5,⟨[8,9],[]⟩)]⟩)]⟩ (h:=?_))
  all_goals repeat' (first|(refine ab (hc:=c1) (hX:=fun _ _=>trivial) ?_)|(refine ab (hc:=c2) (hX:=fun _ _=>trivial) ?_)|refine gd ?_|refine az ?_ (h':=?_)|exact aA|refine gs1 fun _=>?_|(refine gq ?_ ?_<;>intro hx_ this)|fail)
  all_goals
   repeat' (first|refine gs ?_|refine gs1 fun _=>?_|(refine gp ?_ ?_<;>intro hx_ this)|fail)
   exact ad (ag rfl rfl) rfl
end Rf4
end Go.Proofs.YtaolfiikahlmkaaGreatDoor
namespace Go.Proofs.YtaolfiikahlmkaaGreatDoor
open Go Go.Proofs Sy
theorem ut (a:ActD):sameZ a=actZ a:=by
 rw [sameZ,actZ]
 simp only [ActD.zero,Zh]
 cases decide ((a.to.n:Int)=0)<;>cases decide ((a.wraps.n:Int)=0)<;>(simp [Bool.and_comm,Bool.and_left_comm,Bool.and_assoc];try rfl)
set_option maxRecDepth 20000 in
theorem uD (d:DecD):Pu Tryz.prog 145 #[d.v,DecD.zero.v] (fun _=>True) (.bool (decZ d)):=by
 refine ak (args:=[_,_]) _ Tryz.func145 rfl Tryz.ntmps145 rfl fun av bor w0=>?_
 repeat' (first|refine gs ?_|refine gs1 fun _=>?_|(refine gp ?_ ?_<;>intro hx_ this)|fail)
 · refine ad (ag rfl rfl) ?_
   have h0:DecD.zero.to.n=0:=rfl
   rw [h0] at hx_
   simp_all [decZ]
 rename_i b1 b2
 have n1:d.to.n=0:=by
  have h0:DecD.zero.to.n=0:=rfl
  rw [h0] at hx_
  simpa using hx_
 refine ar (ι:=Unit) (fun _=>⟨[(2,.pointer (some ⟨b1,0,none⟩)),(3,.pointer (some ⟨b2,0,none⟩)),(5,.int .i64 0)],[cel b2 58 DecD.zero.cells,cel b1 58 d.cells],fun _=>True⟩) (fun _=>0) () (aj qZq9 (al _) fun _ h=>h) fun _=>?_
 repeat' (first|refine gs ?_|refine gs1 fun _=>?_|(refine kx (a:=d.e) (b:=d.s) (c:=0) (e:=0) ?_)|(refine aw ?_)|(refine aw (vs:=[.int .i64 d.e,.int .i64 d.s]) (hv:=rfl) ?_)|(refine aw (vs:=[.int .i64 0,.int .i64 0]) (hv:=rfl) ?_)|(refine gp ?_ ?_<;>intro hx_ this)|fail)
 · exact absurd this (by rw [n1];decide)
 all_goals (
  refine ad (ag rfl rfl) ?_
  have q1:decide ((d.to.n:Int)=0)=true:=by rw [n1];rfl
  rw [decZ,q1]
  clear q1 n1
  first
   | rfl
   | (simp_all only [Zg,Zj,Zk,Zt,Zr,Zh];done)
   | (simp_all;done)
   | skip)
 all_goals simp_all [DecD.zero]
theorem zl:actZ ActD.zero=true:=by decide +kernel
theorem qW:claimEq ClaimD.zero ClaimD.zero=true:=by decide +kernel
theorem oV:ballotEq BallotD.zero BallotD.zero=true:=by decide +kernel
theorem yZ:decZ DecD.zero=true:=by decide +kernel
set_option maxRecDepth 20000 in
theorem jO (i:ItemD) (hs:i.Str):Pu Tryz.prog 86 #[i.v] (fun w=>i.at_ w) (.bool (rightIt i)):=by
 refine ak (args:=[_]) _ Tryz.func86 rfl Tryz.ntmps86 rfl fun av bor w0=>?_
 have c1:=uz i.act
 rw [ut] at c1
 have c2:=lu i.act hs.act
 have c3:=uD i.dec
 have c4:=oP i.claim hs.claim
 have c5:=sE i.ballot hs.ballot
 have c6:=oO i.dec hs.dec
 by_cases h0:i.kind=0
 · have e:rightIt i=(rightB i.act&&(claimEq i.claim ClaimD.zero&&(ballotEq i.ballot BallotD.zero&&decZ i.dec))):=by simp [rightIt,rightK2,restI,sameIZ,h0,zl]
   rw [e]
   repeat' (first|refine aP (hab:=by omega) ?_|refine aL (hab:=by omega) ?_|(refine ab (hc:=c1) (hX:=fun _ _=>trivial) ?_)|(refine ab (hc:=c2) (hX:=fun w h=>h.1) ?_)|(refine ab (hc:=c3) (hX:=fun _ _=>trivial) ?_)|(refine ab (hc:=c4) (hX:=fun _ _=>trivial) ?_)|(refine ab (hc:=c5) (hX:=fun _ _=>trivial) ?_)|(refine ab (hc:=c6) (hX:=fun w h=>h.2) ?_)|refine gs ?_|refine gs1 fun _=>?_|(refine eS (a:=i.claim) (b:=ClaimD.zero) ?_)|(refine eC (a:=i.ballot) (b:=BallotD.zero) ?_)|(refine aF (cs:=ActD.zero.cells) (hf:=by rfl) ?_)|(refine aF (cs:=ClaimD.zero.cells) (hf:=by rfl) ?_)|(refine aF (cs:=BallotD.zero.cells) (hf:=by rfl) ?_)|(refine aF (cs:=DecD.zero.cells) (hf:=by rfl) ?_)|(refine aw (vs:=i.act.cells) (hv:=rfl) ?_)|(refine aw (vs:=i.claim.cells) (hv:=rfl) ?_)|(refine aw (vs:=i.ballot.cells) (hv:=rfl) ?_)|(refine aw (vs:=i.dec.cells) (hv:=rfl) ?_)|(refine gp ?_ ?_<;>intro hx_ this)|fail)
   all_goals first
    | exact ad (ag rfl rfl) rfl
    | (refine ad (ag rfl rfl) ?_;simp_all;done)
 by_cases h1:i.kind=1
 · have e:rightIt i=(claimR i.claim&&(actZ i.act&&(ballotEq i.ballot BallotD.zero&&decZ i.dec))):=by simp [rightIt,rightK2,restI,sameIZ,h1,qW]
   rw [e]
   repeat' (first|refine aP (hab:=by omega) ?_|refine aL (hab:=by omega) ?_|(refine ab (hc:=c1) (hX:=fun _ _=>trivial) ?_)|(refine ab (hc:=c2) (hX:=fun w h=>h.1) ?_)|(refine ab (hc:=c3) (hX:=fun _ _=>trivial) ?_)|(refine ab (hc:=c4) (hX:=fun _ _=>trivial) ?_)|(refine ab (hc:=c5) (hX:=fun _ _=>trivial) ?_)|(refine ab (hc:=c6) (hX:=fun w h=>h.2) ?_)|refine gs ?_|refine gs1 fun _=>?_|(refine eS (a:=i.claim) (b:=ClaimD.zero) ?_)|(refine eC (a:=i.ballot) (b:=BallotD.zero) ?_)|(refine aF (cs:=ActD.zero.cells) (hf:=by rfl) ?_)|(refine aF (cs:=ClaimD.zero.cells) (hf:=by rfl) ?_)|(refine aF (cs:=BallotD.zero.cells) (hf:=by rfl) ?_)|(refine aF (cs:=DecD.zero.cells) (hf:=by rfl) ?_)|(refine aw (vs:=i.act.cells) (hv:=rfl) ?_)|(refine aw (vs:=i.claim.cells) (hv:=rfl) ?_)|(refine aw (vs:=i.ballot.cells) (hv:=rfl) ?_)|(refine aw (vs:=i.dec.cells) (hv:=rfl) ?_)|(refine gp ?_ ?_<;>intro hx_ this)|fail)
   all_goals first
    | exact ad (ag rfl rfl) rfl
    | (refine ad (ag rfl rfl) ?_;simp_all;done)
 by_cases h2:i.kind=2
 · have e:rightIt i=(ballotR i.ballot&&(actZ i.act&&(claimEq i.claim ClaimD.zero&&decZ i.dec))):=by simp [rightIt,rightK2,restI,sameIZ,h2,oV]
   rw [e]
   repeat' (first|refine aP (hab:=by omega) ?_|refine aL (hab:=by omega) ?_|(refine ab (hc:=c1) (hX:=fun _ _=>trivial) ?_)|(refine ab (hc:=c2) (hX:=fun w h=>h.1) ?_)|(refine ab (hc:=c3) (hX:=fun _ _=>trivial) ?_)|(refine ab (hc:=c4) (hX:=fun _ _=>trivial) ?_)|(refine ab (hc:=c5) (hX:=fun _ _=>trivial) ?_)|(refine ab (hc:=c6) (hX:=fun w h=>h.2) ?_)|refine gs ?_|refine gs1 fun _=>?_|(refine eS (a:=i.claim) (b:=ClaimD.zero) ?_)|(refine eC (a:=i.ballot) (b:=BallotD.zero) ?_)|(refine aF (cs:=ActD.zero.cells) (hf:=by rfl) ?_)|(refine aF (cs:=ClaimD.zero.cells) (hf:=by rfl) ?_)|(refine aF (cs:=BallotD.zero.cells) (hf:=by rfl) ?_)|(refine aF (cs:=DecD.zero.cells) (hf:=by rfl) ?_)|(refine aw (vs:=i.act.cells) (hv:=rfl) ?_)|(refine aw (vs:=i.claim.cells) (hv:=rfl) ?_)|(refine aw (vs:=i.ballot.cells) (hv:=rfl) ?_)|(refine aw (vs:=i.dec.cells) (hv:=rfl) ?_)|(refine gp ?_ ?_<;>intro hx_ this)|fail)
   all_goals first
    | exact ad (ag rfl rfl) rfl
    | (refine ad (ag rfl rfl) ?_;simp_all;done)
 by_cases h3:i.kind=3
 · have e:rightIt i=(decR i.dec&&(actZ i.act&&(claimEq i.claim ClaimD.zero&&ballotEq i.ballot BallotD.zero))):=by simp [rightIt,rightK2,restI,sameIZ,h3,yZ]
   rw [e]
   repeat' (first|refine aP (hab:=by omega) ?_|refine aL (hab:=by omega) ?_|(refine ab (hc:=c1) (hX:=fun _ _=>trivial) ?_)|(refine ab (hc:=c2) (hX:=fun w h=>h.1) ?_)|(refine ab (hc:=c3) (hX:=fun _ _=>trivial) ?_)|(refine ab (hc:=c4) (hX:=fun _ _=>trivial) ?_)|(refine ab (hc:=c5) (hX:=fun _ _=>trivial) ?_)|(refine ab (hc:=c6) (hX:=fun w h=>h.2) ?_)|refine gs ?_|refine gs1 fun _=>?_|(refine eS (a:=i.claim) (b:=ClaimD.zero) ?_)|(refine eC (a:=i.ballot) (b:=BallotD.zero) ?_)|(refine aF (cs:=ActD.zero.cells) (hf:=by rfl) ?_)|(refine aF (cs:=ClaimD.zero.cells) (hf:=by rfl) ?_)|(refine aF (cs:=BallotD.zero.cells) (hf:=by rfl) ?_)|(refine aF (cs:=DecD.zero.cells) (hf:=by rfl) ?_)|(refine aw (vs:=i.act.cells) (hv:=rfl) ?_)|(refine aw (vs:=i.claim.cells) (hv:=rfl) ?_)|(refine aw (vs:=i.ballot.cells) (hv:=rfl) ?_)|(refine aw (vs:=i.dec.cells) (hv:=rfl) ?_)|(refine gp ?_ ?_<;>intro hx_ this)|fail)
   all_goals first
    | exact ad (ag rfl rfl) rfl
    | (refine ad (ag rfl rfl) ?_;simp_all;done)
 have e:rightIt i=false:=by simp [rightIt,rightK2,h0,h1,h2,h3]
 rw [e]
 repeat' (first|refine aP (hab:=by omega) ?_|refine aL (hab:=by omega) ?_|(refine ab (hc:=c1) (hX:=fun _ _=>trivial) ?_)|(refine ab (hc:=c2) (hX:=fun w h=>h.1) ?_)|(refine ab (hc:=c3) (hX:=fun _ _=>trivial) ?_)|(refine ab (hc:=c4) (hX:=fun _ _=>trivial) ?_)|(refine ab (hc:=c5) (hX:=fun _ _=>trivial) ?_)|(refine ab (hc:=c6) (hX:=fun w h=>h.2) ?_)|refine gs ?_|refine gs1 fun _=>?_|(refine eS (a:=i.claim) (b:=ClaimD.zero) ?_)|(refine eC (a:=i.ballot) (b:=BallotD.zero) ?_)|(refine aF (cs:=ActD.zero.cells) (hf:=by rfl) ?_)|(refine aF (cs:=ClaimD.zero.cells) (hf:=by rfl) ?_)|(refine aF (cs:=BallotD.zero.cells) (hf:=by rfl) ?_)|(refine aF (cs:=DecD.zero.cells) (hf:=by rfl) ?_)|(refine aw (vs:=i.act.cells) (hv:=rfl) ?_)|(refine aw (vs:=i.claim.cells) (hv:=rfl) ?_)|(refine aw (vs:=i.ballot.cells) (hv:=rfl) ?_)|(refine aw (vs:=i.dec.cells) (hv:=rfl) ?_)|(refine gp ?_ ?_<;>intro hx_ this)|fail)
 all_goals first
  | exact ad (ag rfl rfl) rfl
  | (refine ad (ag rfl rfl) ?_;simp_all;done)
set_option maxRecDepth 20000 in
theorem qz (i:ItemD) (hs:i.Str) (hdn:i.dec.to.n=i.dec.toL.length):Pu Tryz.prog 90 #[i.v] (fun w=>i.at_ w) (.string (bytesIt i)):=by
 have hr:=hs.rng
 have c1:=jO i hs
 have hsz:=@iL i hr hdn
 have hnk:=ap i.kind
 cases hB:rightIt i with
 | false =>
  rw [hB] at c1
  rw [bytesIt,hB]
  refine ak (args:=[_]) _ Tryz.func90 rfl Tryz.ntmps90 rfl fun av bor w0=>?_
  repeat' (first|(refine ab (hc:=c1) (hX:=fun w h=>h) ?_)|refine gs ?_|refine gs1 fun _=>?_|(refine gp ?_ ?_<;>intro hx_ this)|fail)
  exact ad (ag rfl rfl) rfl
 | true =>
 rw [hB] at c1
 have hsz:=hsz hB
 rw [bytesIt,hB,Zf]
 refine ak (args:=[_]) _ Tryz.func90 rfl Tryz.ntmps90 rfl fun av bor w0=>?_
 rcases de hB with ⟨hk,hR⟩|⟨hk,hR⟩|⟨hk,hR⟩|⟨hk,hR⟩
 · have c2:=nE i.act hs.act (dl hr) ⟨hr.ints.2.2.2.2.2.2.2.1,hr.ints.2.2.2.2.2.2.2.2⟩
   have c3:=cw i.kind aa
   have hb:bodyIt i=actBytes i.act:=by rw [bodyIt,hk];rfl
   rw [hb] at hsz ⊢
   repeat' (first|refine aP (hab:=by omega) ?_|refine aL (hab:=by omega) ?_|(refine ab (hc:=c1) (hX:=fun w h=>h) ?_)|(refine ab (hc:=c3) (hX:=fun _ _=>trivial) ?_)|(refine ab (hc:=c2) (hX:=fun w h=>h.1) ?_)|refine gs ?_|refine gs1 fun _=>?_|(refine aw (vs:=i.act.cells) (hv:=rfl) ?_)|(refine gp ?_ ?_<;>intro hx_ this)|fail)
   refine ai (dt rfl rfl aa) rfl am rfl ?_
   repeat' (first|refine gs ?_|refine gs1 fun _=>?_|(refine gp ?_ ?_<;>intro hx_ this)|fail)
   all_goals exact ad (ag rfl rfl) rfl
 · obtain ⟨hl,hm⟩:=ja hR
   have c3:=cw i.kind aa
   have e1:=fY hm
   have e2:=dE i.claim.e i.claim.s
   have hb:bodyIt i=coreCl i.claim++numsV [i.claim.e,i.claim.s]:=by rw [bodyIt,hk];rfl
   rw [hb]
   repeat' (first|refine aP (hab:=by omega) ?_|refine aL (hab:=by omega) ?_|(refine ab (hc:=c1) (hX:=fun w h=>h) ?_)|(refine ab (hc:=c3) (hX:=fun _ _=>trivial) ?_)|refine gs ?_|refine gs1 fun _=>?_|(refine gp ?_ ?_<;>intro hx_ this)|fail)
   (refine bo ⟨[0,1,2,5,6,7],[(3,⟨[4],[(8,⟨[9,10],[]⟩)]⟩)]⟩ (h:=?_))
   all_goals repeat' (first|refine ab (hc:=qx _ hl hm) ?_|refine ab (hc:=jl _ _ hl.e hl.s) ?_|refine gd ?_|refine ay (hy:=by first|(apply dt;rfl;rfl;(try simp only [Za]);omega)|(apply cC (vs:=i.claim.cells);rfl;exact .head _;rfl;rfl)|(apply cC (vs:=[.int .i64 i.claim.e,.int .i64 i.claim.s]);rfl;exact .head _;rfl;rfl)) ?_|refine az ?_ (h':=?_)|exact aA|refine gs1 fun _=>?_|(refine gq ?_ ?_<;>intro hx_ this)|fail)
   all_goals
    repeat' (first|refine gs ?_|refine gs1 fun _=>?_|(refine gp ?_ ?_<;>intro hx_ this)|fail)
    refine ad (ag rfl rfl) ?_
    simp only [Zy]
 · obtain ⟨hl,hm⟩:=fO hR
   have c3:=cw i.kind aa
   have e1:=eH hm
   have e2:=dE i.ballot.e i.ballot.s
   have hb:bodyIt i=coreBa i.ballot++numsV [i.ballot.e,i.ballot.s]:=by rw [bodyIt,hk];rfl
   rw [hb]
   repeat' (first|refine aP (hab:=by omega) ?_|refine aL (hab:=by omega) ?_|(refine ab (hc:=c1) (hX:=fun w h=>h) ?_)|(refine ab (hc:=c3) (hX:=fun _ _=>trivial) ?_)|refine gs ?_|refine gs1 fun _=>?_|(refine gp ?_ ?_<;>intro hx_ this)|fail)
   (refine bo ⟨[0,1,2,5,6,7],[(3,⟨[4],[(8,⟨[9,10],[]⟩)]⟩)]⟩ (h:=?_))
   all_goals repeat' (first|refine ab (hc:=jT _ hl hm) ?_|refine ab (hc:=jl _ _ hl.e hl.s) ?_|refine gd ?_|refine ay (hy:=by first|(apply dt;rfl;rfl;(try simp only [Za]);omega)|(apply cC (vs:=i.ballot.cells);rfl;exact .head _;rfl;rfl)|(apply cC (vs:=[.int .i64 i.ballot.e,.int .i64 i.ballot.s]);rfl;exact .head _;rfl;rfl)) ?_|refine az ?_ (h':=?_)|exact aA|refine gs1 fun _=>?_|(refine gq ?_ ?_<;>intro hx_ this)|fail)
   all_goals
    repeat' (first|refine gs ?_|refine gs1 fun _=>?_|(refine gp ?_ ?_<;>intro hx_ this)|fail)
    refine ad (ag rfl rfl) ?_
    simp only [Zy]
 · obtain ⟨hl,hm⟩:=kg hdn hR
   have c3:=cw i.kind aa
   have e1:=eG hm
   have e2:=dE i.dec.e i.dec.s
   have c4:=jS i.dec hl hm
   have hb:bodyIt i=coreDe i.dec++numsV [i.dec.e,i.dec.s]:=by rw [bodyIt,hk];rfl
   rw [hb]
   repeat' (first|refine aP (hab:=by omega) ?_|refine aL (hab:=by omega) ?_|(refine ab (hc:=c1) (hX:=fun w h=>h) ?_)|(refine ab (hc:=c3) (hX:=fun _ _=>trivial) ?_)|refine gs ?_|refine gs1 fun _=>?_|(refine gp ?_ ?_<;>intro hx_ this)|fail)
   (refine bo ⟨[0,1,2,5,6,7],[(3,⟨[4],[(8,⟨[9,10],[]⟩)]⟩)]⟩ (h:=?_))
   all_goals repeat' (first|(refine ab (hc:=c4) (hX:=fun w h=>h.2) ?_)|refine ab (hc:=jl _ _ hl.e hl.s) ?_|refine gd ?_|refine ay (hy:=by first|(apply dt;rfl;rfl;(try simp only [Za]);omega)|(apply cC (vs:=i.dec.cells);rfl;exact .head _;rfl;rfl)|(apply cC (vs:=[.int .i64 i.dec.e,.int .i64 i.dec.s]);rfl;exact .head _;rfl;rfl)) ?_|refine az ?_ (h':=?_)|exact aA|refine gs1 fun _=>?_|(refine gq ?_ ?_<;>intro hx_ this)|fail)
   all_goals
    repeat' (first|refine gs ?_|refine gs1 fun _=>?_|(refine gp ?_ ?_<;>intro hx_ this)|fail)
    refine ad (ag rfl rfl) ?_
    simp only [Zy]
theorem jd (i:ItemD) (hs:i.Str) (hdn:i.dec.to.n=i.dec.toL.length):Pu Tryz.prog 47 #[i.v] (fun w=>i.at_ w) (.string (digIt i)):=by
 have c1:=qz i hs hdn
 have hsz:=@kn i hs.rng hdn
 have c2:=pu (bytesIt i) aa
 rw [digIt]
 cases hB:seqB (bytesIt i) ⟨#[]⟩ with
 | true =>
  refine ak (args:=[_]) _ Tryz.func47 rfl Tryz.ntmps47 rfl fun av bor w0=>?_
  repeat' (first|(refine ab (hc:=c1) (hX:=fun w h=>h) ?_)|(refine ab (hc:=c2) (hX:=fun _ _=>trivial) ?_)|refine gs ?_|refine gs1 fun _=>?_|(refine gp ?_ ?_<;>intro hx_ this)|fail)
  all_goals first
   | (rw [hB] at hx_;exact absurd hx_ (by decide))
   | (refine ad (ag rfl rfl) ?_;simp only [Zf,Ze];done)
 | false =>
  refine ak (args:=[_]) _ Tryz.func47 rfl Tryz.ntmps47 rfl fun av bor w0=>?_
  repeat' (first|(refine ab (hc:=c1) (hX:=fun w h=>h) ?_)|(refine ab (hc:=c2) (hX:=fun _ _=>trivial) ?_)|refine gs ?_|refine gs1 fun _=>?_|(refine gp ?_ ?_<;>intro hx_ this)|fail)
  all_goals first
   | (rw [hB] at hx_;exact absurd hx_ (by decide))
   | (refine ad (ag rfl rfl) ?_;simp only [Zf,Ze];done)
theorem lW (x:BallotD) (hl:x.Lt) (hs:x.Sm):Pu Tryz.prog 88 #[x.v] (fun _=>True) (.string (msgB x)):=by
 refine ak (args:=[_]) _ Tryz.func88 rfl Tryz.ntmps88 rfl fun av bor w0=>?_
 have c1:=cX nameB (by decide)
 have c2:=jT x hl hs
 have h1:=eH hs
 have h2:=aB nameB
 have h3:nameB.size≤20:=by decide
 have e:msgB x=textV nameB++coreBa x:=by rw [msgB,db,dB,Qj]
 rw [e]
 repeat' (first|refine gs ?_|refine gs1 fun _=>?_|(refine gp ?_ ?_<;>intro hx_ this)|fail)
 (refine bo ⟨[1],[(0,⟨[],[(2,⟨[3,4],[]⟩)]⟩)]⟩ (h:=?_))
 all_goals repeat' (first|(refine ab (hc:=c1) (hX:=fun _ _=>trivial) ?_)|(refine ab (hc:=c2) (hX:=fun _ _=>trivial) ?_)|refine gd ?_|refine ay (hy:=by first|(apply dt;rfl;rfl;(try simp only [Za]);omega)) ?_|refine az ?_ (h':=?_)|exact aA|refine gs1 fun _=>?_|(refine gq ?_ ?_<;>intro hx_ this)|fail)
 all_goals
  repeat' (first|refine gs ?_|refine gs1 fun _=>?_|(refine gp ?_ ?_<;>intro hx_ this)|fail)
  exact ad (ag rfl rfl) rfl
theorem jP (x:DecD) (hl:x.Lt) (hs:x.Sm):Pu Tryz.prog 89 #[x.v] (fun w=>x.at_ w) (.string (msgD x)):=by
 refine ak (args:=[_]) _ Tryz.func89 rfl Tryz.ntmps89 rfl fun av bor w0=>?_
 have c1:=cX nameD (by decide)
 have c2:=jS x hl hs
 have h1:=eG hs
 have h2:=aB nameD
 have h3:nameD.size≤20:=by decide
 have e:msgD x=textV nameD++coreDe x:=by rw [msgD,db,dB,Qj]
 rw [e]
 repeat' (first|refine gs ?_|refine gs1 fun _=>?_|(refine gp ?_ ?_<;>intro hx_ this)|fail)
 (refine bo ⟨[1],[(0,⟨[],[(2,⟨[3,4],[]⟩)]⟩)]⟩ (h:=?_))
 all_goals repeat' (first|(refine ab (hc:=c1) (hX:=fun _ _=>trivial) ?_)|(refine ab (hc:=c2) (hX:=fun w h=>h) ?_)|refine gd ?_|refine ay (hy:=by first|(apply dt;rfl;rfl;(try simp only [Za]);omega)) ?_|refine az ?_ (h':=?_)|exact aA|refine gs1 fun _=>?_|(refine gq ?_ ?_<;>intro hx_ this)|fail)
 all_goals
  repeat' (first|refine gs ?_|refine gs1 fun _=>?_|(refine gp ?_ ?_<;>intro hx_ this)|fail)
  exact ad (ag rfl rfl) rfl
set_option maxRecDepth 20000 in
theorem qu (s:SlV) (L:List Int) (i:ItemD) (hs:i.Str) (hdn:i.dec.to.n=i.dec.toL.length):Pu Tryz.prog 46 #[s.v,i.v] (fun w=>Ints w s L∧i.at_ w) (.bool (signedIt L i)):=by
 refine ak (args:=[_,_]) _ Tryz.func46 rfl Tryz.ntmps46 rfl fun av bor w0=>?_
 refine aM (p:=s.n=L.length∧s.n≤maxLen∧(0<L.length→s.p.isSome=true)) (fun w h=>⟨h.1.len_,ZY (RowsD.cap h.1) (RowsD.max h.1),h.1.some_⟩) fun ⟨hsn,hsm,hsp⟩=>?_
 simp only [maxLen] at hsm
 have hri:=jO i hs
 cases hrB:rightIt i with
 | false =>
  rw [hrB] at hri
  rw [show signedIt L i=false from by rw [signedIt,hrB];rfl]
  repeat' (first|(refine ab (hc:=hri) (hX:=fun w h=>h.2) ?_)|refine gs ?_|refine gs1 fun _=>?_|(refine gp ?_ ?_<;>intro hx_ this)|fail)
  exact ad (ag rfl rfl) rfl
 | true =>
 rw [hrB] at hri
 have hk:=de hrB
 by_cases h2:i.kind=2
 · rcases hk with h|h|h|h
   all_goals first|(exfalso;omega)|skip
   have h1:=h.2
   clear h
   obtain ⟨hl,hz⟩:=fO h1
   have hlo:0≤i.ballot.server:=(cu (by have:=h1;simp only [ballotR,Zp] at this;exact this.1)).1
   have hms:=ix (nm:=nameB) (by decide) (ZY (eH hz) (by decide))
   have hsg:=fun p:Int=>Rf4.refVerify_pu p (msgB i.ballot) i.ballot.e i.ballot.s (ZY hms (by decide))
   have hcm:=lW i.ballot hl hz
   by_cases hlt:i.ballot.server<(L.length:Nat)
   · have hsp':=hsp aa
     have e:signedIt L i=sgnB (L.getD i.ballot.server.toNat 0) i.ballot:=by rw [signedIt,hrB,Zd h2,Zf,Zd hlt,Zg,Zg]
     rw [e]
     have hget:∀ w,Ints w s L∧i.at_ w→CellAt w s.p i.ballot.server.toNat (.int .i64 (L.getD i.ballot.server.toNat 0)):=fun w h=>Ints.get h.1 aa
     have hsg1:Pu Tryz.prog 87 _ _ (.bool (sgnB (L.getD i.ballot.server.toNat 0) i.ballot)):=hsg (L.getD i.ballot.server.toNat 0)
     generalize L.getD i.ballot.server.toNat 0=pk at *
     repeat' (first|refine aP (hab:=by omega) ?_|refine aL (hab:=by omega) ?_|(refine ab (hc:=hri) (hX:=fun w h=>h.2) ?_)|refine gs ?_|refine gs1 fun _=>?_|(refine gp ?_ ?_<;>intro hx_ this)|fail)
     rename_i b3
     (refine aq ⟨[0,1,2,3,4,5,6,7,8,9,10,11,12,13,14,16,17,18],[(15,⟨[],[(19,⟨[20,21],[]⟩)]⟩)]⟩ [cel b3 60 i.cells] (fun w=>Ints w s L∧i.at_ w) (h:=?_))
     all_goals repeat' (first|refine ay (hsub:=by exact aK) (hy:=by first|(apply cf true;rfl;rfl;exact Zd aa)) ?_|(refine ab (hc:=hcm) (hX:=fun _ _=>trivial) ?_)|(refine ab (hc:=hsg1) (hX:=fun _ _=>trivial) ?_)|refine gdz ?_|refine ay (hsub:=by exact aK) (hy:=by first|(apply aC (q:=i.ballot.server.toNat);rfl;rfl;omega;omega;assumption;omega)|(apply dR (q:=i.ballot.server.toNat) (u:=.int .i64 pk);rfl;exact hget)|(apply cC (vs:=i.ballot.cells);rfl;exact .head _;rfl;rfl)|(apply cC (vs:=SgD.cells ⟨i.ballot.e,i.ballot.s⟩);rfl;exact .head _;rfl;rfl)) ?_|refine az ?_ (h':=?_)|exact aA|refine gs1 fun _=>?_|(refine gq ?_ ?_<;>intro hx_ this)|fail)
     all_goals
      repeat' (first|refine gs ?_|refine gs1 fun _=>?_|(refine gp ?_ ?_<;>intro hx_ this)|fail)
      exact ad (ag rfl rfl) rfl
   · have e:signedIt L i=false:=by rw [signedIt,hrB,Zd h2,Zf,Zc hlt];rfl
     rw [e]
     repeat' (first|refine aP (hab:=by omega) ?_|refine aL (hab:=by omega) ?_|(refine ab (hc:=hri) (hX:=fun w h=>h.2) ?_)|refine gs ?_|refine gs1 fun _=>?_|(refine gp ?_ ?_<;>intro hx_ this)|fail)
     rename_i b3
     (refine aq ⟨[0,1,2,3,4,5,6,7,8,9,10,11,12,13,14,16,17,18],[(15,⟨[],[(19,⟨[20,21],[]⟩)]⟩)]⟩ [cel b3 60 i.cells] (fun w=>Ints w s L∧i.at_ w) (h:=?_))
     all_goals repeat' (first|refine ay (hsub:=by exact aK) (hy:=by first|(apply cf false;rfl;rfl;exact Zc aa)) ?_|refine gdz ?_|refine az ?_ (h':=?_)|exact aA|refine gs1 fun _=>?_|(refine gq ?_ ?_<;>intro hx_ this)|fail)
     all_goals
      repeat' (first|refine gs ?_|refine gs1 fun _=>?_|(refine gp ?_ ?_<;>intro hx_ this)|fail)
      exact ad (ag rfl rfl) rfl
 by_cases h3:i.kind=3
 · rcases hk with h|h|h|h
   all_goals first|(exfalso;omega)|skip
   have h1:=h.2
   clear h
   obtain ⟨hl,hz⟩:=kg hdn h1
   have hlo:0≤i.dec.server:=(cu (by have:=h1;simp only [decR,Zp] at this;exact this.1)).1
   have hms:=ix (nm:=nameD) (by decide) (ZY (eG hz) (by decide))
   have hsg:=fun p:Int=>Rf4.refVerify_pu p (msgD i.dec) i.dec.e i.dec.s (ZY hms (by decide))
   have hcm:=jP i.dec hl hz
   by_cases hlt:i.dec.server<(L.length:Nat)
   · have hsp':=hsp aa
     have e:signedIt L i=sgnD (L.getD i.dec.server.toNat 0) i.dec:=by rw [signedIt,hrB,Zc h2,Ze,Zd h3,Zf,Zd hlt,Zg,Zg]
     rw [e]
     have hget:∀ w,Ints w s L∧i.at_ w→CellAt w s.p i.dec.server.toNat (.int .i64 (L.getD i.dec.server.toNat 0)):=fun w h=>Ints.get h.1 aa
     have hsg1:Pu Tryz.prog 87 _ _ (.bool (sgnD (L.getD i.dec.server.toNat 0) i.dec)):=hsg (L.getD i.dec.server.toNat 0)
     generalize L.getD i.dec.server.toNat 0=pk at *
     repeat' (first|refine aP (hab:=by omega) ?_|refine aL (hab:=by omega) ?_|(refine ab (hc:=hri) (hX:=fun w h=>h.2) ?_)|refine gs ?_|refine gs1 fun _=>?_|(refine gp ?_ ?_<;>intro hx_ this)|fail)
     rename_i b3
     (refine aq ⟨[0,1,2,3,4,5,6,7,8,9,10,11,12,13,14,16,17,18],[(15,⟨[],[(19,⟨[20,21],[]⟩)]⟩)]⟩ [cel b3 60 i.cells] (fun w=>Ints w s L∧i.at_ w) (h:=?_))
     all_goals repeat' (first|refine ay (hsub:=by exact aK) (hy:=by first|(apply cf true;rfl;rfl;exact Zd aa)) ?_|(refine ab (hc:=hcm) (hX:=fun w h=>h.2.2) ?_)|(refine ab (hc:=hsg1) (hX:=fun _ _=>trivial) ?_)|refine gdz ?_|refine ay (hsub:=by exact aK) (hy:=by first|(apply aC (q:=i.dec.server.toNat);rfl;rfl;omega;omega;assumption;omega)|(apply dR (q:=i.dec.server.toNat) (u:=.int .i64 pk);rfl;exact hget)|(apply cC (vs:=i.dec.cells);rfl;exact .head _;rfl;rfl)|(apply cC (vs:=SgD.cells ⟨i.dec.e,i.dec.s⟩);rfl;exact .head _;rfl;rfl)) ?_|refine az ?_ (h':=?_)|exact aA|refine gs1 fun _=>?_|(refine gq ?_ ?_<;>intro hx_ this)|fail)
     all_goals
      repeat' (first|refine gs ?_|refine gs1 fun _=>?_|(refine gp ?_ ?_<;>intro hx_ this)|fail)
      exact ad (ag rfl rfl) rfl
   · have e:signedIt L i=false:=by rw [signedIt,hrB,Zc h2,Ze,Zd h3,Zf,Zc hlt];rfl
     rw [e]
     repeat' (first|refine aP (hab:=by omega) ?_|refine aL (hab:=by omega) ?_|(refine ab (hc:=hri) (hX:=fun w h=>h.2) ?_)|refine gs ?_|refine gs1 fun _=>?_|(refine gp ?_ ?_<;>intro hx_ this)|fail)
     rename_i b3
     (refine aq ⟨[0,1,2,3,4,5,6,7,8,9,10,11,12,13,14,16,17,18],[(15,⟨[],[(19,⟨[20,21],[]⟩)]⟩)]⟩ [cel b3 60 i.cells] (fun w=>Ints w s L∧i.at_ w) (h:=?_))
     all_goals repeat' (first|refine ay (hsub:=by exact aK) (hy:=by first|(apply cf false;rfl;rfl;exact Zc aa)) ?_|refine gdz ?_|refine az ?_ (h':=?_)|exact aA|refine gs1 fun _=>?_|(refine gq ?_ ?_<;>intro hx_ this)|fail)
     all_goals
      repeat' (first|refine gs ?_|refine gs1 fun _=>?_|(refine gp ?_ ?_<;>intro hx_ this)|fail)
      exact ad (ag rfl rfl) rfl
 have e:signedIt L i=true:=by rw [signedIt,hrB,Zc h2,Zc h3];rfl
 rw [e]
 repeat' (first|refine aL (hab:=by omega) ?_|(refine ab (hc:=hri) (hX:=fun w h=>h.2) ?_)|refine gs ?_|refine gs1 fun _=>?_|(refine gp ?_ ?_<;>intro hx_ this)|fail)
 exact ad (ag rfl rfl) rfl
def badSv (L:List Int) (k:Nat):Bool:=decide (L.getD k 0<1)||decide (2305843009213693950<L.getD k 0)
def badKn (L:List Int) (I:List ItemD) (k:Nat):Bool:=!signedIt L (I.getD k ItemD.zero)||(decide (0<k)&&!ltB (digIt (I.getD (k-1) ItemD.zero)) (digIt (I.getD k ItemD.zero)))
def rightKn (L:List Int) (I:List ItemD):Bool:=decide (L.length≤20)&&(allB L.length (badSv L)&&allB I.length (badKn L I))
section
variable {P:Program} {N:Nat} {av bor:List Nat} {w0:World} {st:St} {ty:TypeId} {x y:Operand} {t t2:TypeId}
theorem CX {a b:ByteArray} (hx:ev st.env x=some (.string a)) (hy:ev st.env y=some (.string b)) (hab:ltB a b=false):Sy.Yields P N av bor w0 st (.binOp .geq t x y t2) ty (.bool true):=by
 have h:=tX (P:=P) (N:=N) (av:=av) (bor:=bor) (w0:=w0) (t:=t) (t2:=t2) (ty:=ty) hx hy
 rw [show Op.bytesLess a.toList b.toList=false from hab] at h
 exact h
end
set_option maxRecDepth 20000 in
theorem jQ (ks ki:SlV) (L:List Int) (I:List ItemD) (hs:∀ i∈I,i.Str) (hdn:∀ i∈I,i.dec.to.n=i.dec.toL.length) :
  Pu Tryz.prog 10 #[.agg #[ks.v,ki.v]] (fun w=>Ints w ks L∧Items w ki I) (.bool (rightKn L I)):=by
 refine ak (args:=[_]) _ Tryz.func10 rfl Tryz.ntmps10 rfl fun av bor w0=>?_
 refine aM (p:=(ks.n=L.length∧ks.n≤maxLen∧(0<L.length→ks.p.isSome=true))∧(ki.n=I.length∧ki.n≤maxLen∧(0<I.length→ki.p.isSome=true))) (fun w h=>⟨⟨h.1.len_,ZY (RowsD.cap h.1) (RowsD.max h.1),h.1.some_⟩,h.2.len_,h.2.max_,h.2.some_⟩) fun ⟨⟨hn,hm,hp⟩,hin,him,hip⟩=>?_
 simp only [maxLen] at hm him
 repeat' (first|refine gs ?_|refine gs1 fun _=>?_|(refine gp ?_ ?_<;>intro hx_ this)|fail)
 · refine ad (ag rfl rfl) ?_
   rw [rightKn,Zc (by omega)]
   rfl
 rename_i b
 have h20:L.length≤20:=by omega
 rw [rightKn,Zd h20,Zg]
 refine ar (ι:=Upto L.length (badSv L)) (fun i=>⟨[(1,.pointer (some ⟨b,0,none⟩)),(3,.int .i64 (i.k:Nat))],[cel b 25 [ks.v,ki.v]],fun w=>Ints w ks L∧Items w ki I⟩) (fun i=>L.length-i.k) (Upto.zero _ _) (aj qZq9 (al _) fun _ h=>h) fun i=>?_
 have hik:=i.hk
 by_cases hlt:i.k<L.length
 · have hks:=hp aa
   repeat' (first|refine gs ?_|refine gs1 fun _=>?_|(refine aO (q:=i.k) ?_)|(refine cU (q:=i.k) (u:=.int .i64 (L.getD i.k 0)) (hF:=fun w h=>Ints.get h.1 hlt) ?_)|(refine gp ?_ ?_<;>intro hx_ this)|fail)
   all_goals first
    | (exfalso;omega)
    | (refine ad (ag rfl rfl) ?_;rw [cM (k:=i.k) hlt (by simp only [badSv, *,Zt,Zr,Zf,Ze,Zh,Zg,Zk,Zj,Zn,Zl,Zs,Zm,Zq,Zi]),Zj];done)
    | exact ⟨i.next hlt (by simp only [badSv, *,Zt,Zr,Zf,Ze,Zh,Zg,Zk,Zj,Zn,Zl,Zs,Zm,Zq,Zi]),(by show L.length-(i.k+1)<L.length-i.k;omega),aj qZq9 (al _) fun _ h=>h⟩
 · rw [i.all hlt,Zg]
   repeat' (first|refine SrG.sy_lssF_g (hab:=by omega) (h:=?_)|refine gs ?_|refine gs1 fun _=>?_|(refine gp ?_ ?_<;>intro hx_ this)|fail)
   refine ar (ι:=Upto I.length (badKn L I)) (fun j=>⟨[(1,.pointer (some ⟨b,0,none⟩)),(4,.int .i64 (j.k:Nat))],[cel b 25 [ks.v,ki.v]],fun w=>Ints w ks L∧Items w ki I⟩) (fun j=>I.length-j.k) (Upto.zero _ _) (aj qZq9 (al _) fun _ h=>h) fun j=>?_
   have hjk:=j.hk
   by_cases hlj:j.k<I.length
   · have hki:=hip aa
     obtain ⟨x,hx⟩:∃ x,I[j.k]?=some x:=⟨_,Zb hlj⟩
     have hxm:=Z6 hx
     have hxD:I.getD j.k ItemD.zero=x:=by rw [Zo,hx];rfl
     have hsg:=qu ks L x (hs x hxm) (hdn x hxm)
     have hdx:=jd x (hs x hxm) (hdn x hxm)
     cases hsB:signedIt L x with
     | false =>
      rw [hsB] at hsg
      have hbad:badKn L I j.k=true:=by rw [badKn,hxD,hsB];rfl
      repeat' (first|refine SrG.sy_lssT_g (hab:=by omega) (h:=?_)|refine gs ?_|refine gs1 fun _=>?_|(refine gp ?_ ?_<;>intro hx_ this)|fail)
      (refine aq ⟨[0,1,2,3,4,5,6],[(7,⟨[8],[]⟩)]⟩ [cel b 25 [ks.v,ki.v]] (fun w=>Ints w ks L∧Items w ki I) (h:=?_))
      all_goals repeat' (first|(refine ab (hc:=hsg) (hX:=fun w h=>⟨h.1,h.2.2 x hxm⟩) ?_)|refine gdz ?_|refine ay (hsub:=by exact aK) (hy:=by first|(apply aC (q:=j.k*49);rfl;rfl;omega;omega;assumption;omega)|(apply fZ (cs:=x.cells);rfl;exact (fun w h=>Items.get h.2 hx))) ?_|refine az ?_ (h':=?_)|exact aA|refine gs1 fun _=>?_|(refine gq ?_ ?_<;>intro hx_ this)|fail)
      all_goals
       repeat' (first|refine gs ?_|refine gs1 fun _=>?_|(refine gp ?_ ?_<;>intro hx_ this)|fail)
       all_goals (refine ad (ag rfl rfl) ?_;rw [cM hlj hbad])
     | true =>
      rw [hsB] at hsg
      by_cases h0:0<j.k
      · obtain ⟨y,hy⟩:∃ y,I[j.k-1]?=some y:=⟨_,Zb aa⟩
        have hym:=Z6 hy
        have hyD:I.getD (j.k-1) ItemD.zero=y:=by rw [Zo,hy];rfl
        have hdy:=jd y (hs y hym) (hdn y hym)
        have hbq:badKn L I j.k=!ltB (digIt y) (digIt x):=by rw [badKn,hxD,hyD,hsB,Zd h0];rfl
        generalize digIt x=dx at *
        generalize digIt y=dy at *
        cases hlB:ltB dy dx with
        | true =>
         have hok:badKn L I j.k=false:=by rw [hbq,hlB];rfl
         repeat' (first|refine SrG.sy_lssT_g (hab:=by omega) (h:=?_)|refine gs ?_|refine gs1 fun _=>?_|(refine gp ?_ ?_<;>intro hx_ this)|fail)
         (refine aq ⟨[0,1,2,3,4,5,6],[(7,⟨[8],[]⟩)]⟩ [cel b 25 [ks.v,ki.v]] (fun w=>Ints w ks L∧Items w ki I) (h:=?_))
         all_goals repeat' (first|(refine ab (hc:=hsg) (hX:=fun w h=>⟨h.1,h.2.2 x hxm⟩) ?_)|refine gdz ?_|refine ay (hsub:=by exact aK) (hy:=by first|(apply aC (q:=j.k*49);rfl;rfl;omega;omega;assumption;omega)|(apply fZ (cs:=x.cells);rfl;exact (fun w h=>Items.get h.2 hx))) ?_|refine az ?_ (h':=?_)|exact aA|refine gs1 fun _=>?_|(refine gq ?_ ?_<;>intro hx_ this)|fail)
         all_goals
          repeat' (first|refine gs ?_|refine gs1 fun _=>?_|(refine gp ?_ ?_<;>intro hx_ this)|fail)
          (refine aq ⟨[0,1,2,3,4,5,6,7,8,10,11,12,13,14],[(9,⟨[],[(15,⟨[16,17],[]⟩)]⟩)]⟩ [cel b 25 [ks.v,ki.v]] (fun w=>Ints w ks L∧Items w ki I) (h:=?_))
          all_goals repeat' (first|refine ay (hsub:=by exact aK) (hy:=by first|(apply SrG.y_gtrT_g;rfl;rfl;omega)|(apply Rf4.y_subM (q:=1);rfl;rfl;omega)|(apply CY;rfl;rfl;exact hlB)) ?_|(refine ab (hc:=hdy) (hX:=fun w h=>h.2.2 y hym) ?_)|(refine ab (hc:=hdx) (hX:=fun w h=>h.2.2 x hxm) ?_)|refine gdz ?_|refine ay (hsub:=by exact aK) (hy:=by first|(apply aC (q:=(j.k-1)*49);rfl;rfl;omega;omega;assumption;omega)|(apply aC (q:=j.k*49);rfl;rfl;omega;omega;assumption;omega)|(apply fZ (cs:=y.cells);rfl;exact (fun w h=>Items.get h.2 hy))|(apply fZ (cs:=x.cells);rfl;exact (fun w h=>Items.get h.2 hx))) ?_|refine az ?_ (h':=?_)|exact aA|refine gs1 fun _=>?_|(refine gq ?_ ?_<;>intro hx_ this)|fail)
          all_goals
           repeat' (first|refine gs ?_|refine gs1 fun _=>?_|(refine gp ?_ ?_<;>intro hx_ this)|fail)
           all_goals exact ⟨j.next hlj hok,(by show I.length-(j.k+1)<I.length-j.k;omega),aj qZq9 (al _) fun _ h=>h⟩
        | false =>
         have hbad:badKn L I j.k=true:=by rw [hbq,hlB];rfl
         repeat' (first|refine SrG.sy_lssT_g (hab:=by omega) (h:=?_)|refine gs ?_|refine gs1 fun _=>?_|(refine gp ?_ ?_<;>intro hx_ this)|fail)
         (refine aq ⟨[0,1,2,3,4,5,6],[(7,⟨[8],[]⟩)]⟩ [cel b 25 [ks.v,ki.v]] (fun w=>Ints w ks L∧Items w ki I) (h:=?_))
         all_goals repeat' (first|(refine ab (hc:=hsg) (hX:=fun w h=>⟨h.1,h.2.2 x hxm⟩) ?_)|refine gdz ?_|refine ay (hsub:=by exact aK) (hy:=by first|(apply aC (q:=j.k*49);rfl;rfl;omega;omega;assumption;omega)|(apply fZ (cs:=x.cells);rfl;exact (fun w h=>Items.get h.2 hx))) ?_|refine az ?_ (h':=?_)|exact aA|refine gs1 fun _=>?_|(refine gq ?_ ?_<;>intro hx_ this)|fail)
         all_goals
          repeat' (first|refine gs ?_|refine gs1 fun _=>?_|(refine gp ?_ ?_<;>intro hx_ this)|fail)
          (refine aq ⟨[0,1,2,3,4,5,6,7,8,10,11,12,13,14],[(9,⟨[],[(15,⟨[16,17],[]⟩)]⟩)]⟩ [cel b 25 [ks.v,ki.v]] (fun w=>Ints w ks L∧Items w ki I) (h:=?_))
          all_goals repeat' (first|refine ay (hsub:=by exact aK) (hy:=by first|(apply SrG.y_gtrT_g;rfl;rfl;omega)|(apply Rf4.y_subM (q:=1);rfl;rfl;omega)|(apply CX;rfl;rfl;exact hlB)) ?_|(refine ab (hc:=hdy) (hX:=fun w h=>h.2.2 y hym) ?_)|(refine ab (hc:=hdx) (hX:=fun w h=>h.2.2 x hxm) ?_)|refine gdz ?_|refine ay (hsub:=by exact aK) (hy:=by first|(apply aC (q:=(j.k-1)*49);rfl;rfl;omega;omega;assumption;omega)|(apply aC (q:=j.k*49);rfl;rfl;omega;omega;assumption;omega)|(apply fZ (cs:=y.cells);rfl;exact (fun w h=>Items.get h.2 hy))|(apply fZ (cs:=x.cells);rfl;exact (fun w h=>Items.get h.2 hx))) ?_|refine az ?_ (h':=?_)|exact aA|refine gs1 fun _=>?_|(refine gq ?_ ?_<;>intro hx_ this)|fail)
          all_goals
           repeat' (first|refine gs ?_|refine gs1 fun _=>?_|(refine gp ?_ ?_<;>intro hx_ this)|fail)
           all_goals (refine ad (ag rfl rfl) ?_;rw [cM hlj hbad])
      · have hok:badKn L I j.k=false:=by rw [badKn,hxD,hsB,Zc h0];rfl
        repeat' (first|refine SrG.sy_lssT_g (hab:=by omega) (h:=?_)|refine gs ?_|refine gs1 fun _=>?_|(refine gp ?_ ?_<;>intro hx_ this)|fail)
        (refine aq ⟨[0,1,2,3,4,5,6],[(7,⟨[8],[]⟩)]⟩ [cel b 25 [ks.v,ki.v]] (fun w=>Ints w ks L∧Items w ki I) (h:=?_))
        all_goals repeat' (first|(refine ab (hc:=hsg) (hX:=fun w h=>⟨h.1,h.2.2 x hxm⟩) ?_)|refine gdz ?_|refine ay (hsub:=by exact aK) (hy:=by first|(apply aC (q:=j.k*49);rfl;rfl;omega;omega;assumption;omega)|(apply fZ (cs:=x.cells);rfl;exact (fun w h=>Items.get h.2 hx))) ?_|refine az ?_ (h':=?_)|exact aA|refine gs1 fun _=>?_|(refine gq ?_ ?_<;>intro hx_ this)|fail)
        all_goals
         repeat' (first|refine gs ?_|refine gs1 fun _=>?_|(refine gp ?_ ?_<;>intro hx_ this)|fail)
         (refine aq ⟨[0,1,2,3,4,5,6,7,8,10,11,12,13,14],[(9,⟨[],[(15,⟨[16,17],[]⟩)]⟩)]⟩ [cel b 25 [ks.v,ki.v]] (fun w=>Ints w ks L∧Items w ki I) (h:=?_))
         all_goals repeat' (first|refine ay (hsub:=by exact aK) (hy:=by first|(apply SrG.y_gtrF_g;rfl;rfl;omega)) ?_|refine gdz ?_|refine az ?_ (h':=?_)|exact aA|refine gs1 fun _=>?_|(refine gq ?_ ?_<;>intro hx_ this)|fail)
         all_goals
          repeat' (first|refine gs ?_|refine gs1 fun _=>?_|(refine gp ?_ ?_<;>intro hx_ this)|fail)
          all_goals exact ⟨j.next hlj hok,(by show I.length-(j.k+1)<I.length-j.k;omega),aj qZq9 (al _) fun _ h=>h⟩
   · rw [j.all hlj]
     repeat' (first|refine SrG.sy_lssF_g (hab:=by omega) (h:=?_)|refine gs ?_|refine gs1 fun _=>?_|(refine gp ?_ ?_<;>intro hx_ this)|fail)
     all_goals first
      | exact ad (ag rfl rfl) rfl
theorem vl {l:List ByteArray} (h:∀ k (hk:k+1<l.length),ltB (l[k]'(by omega)) l[k+1]=true):Asc l:=by
 have key:∀ d i (hj:i+d+1<l.length),ltB (l[i]'(by omega)) l[i+d+1]=true:=by
  intro d
  induction d with
  | zero=>exact fun i hj=>h i hj
  | succ d ih =>
   intro i hj
   exact fF (ih i aa) (h (i+d+1) hj)
 refine List.pairwise_iff_getElem.2 fun i j hi hj hij=>?_
 obtain ⟨d,rfl⟩:∃ d,j=i+d+1:=⟨j-i-1,by omega⟩
 exact key d i hj
theorem iq {L:List Int} {I:List ItemD} (h:rightKn L I=true):∀ i∈I,signedIt L i=true:=fun i hi=>by
 rw [rightKn,Zp,Zp] at h
 obtain ⟨k,hk⟩:=QO.1 hi
 obtain ⟨hlt,e⟩:=QJ.1 hk
 have h1:=mo h.2.2 hlt
 have e2:I.getD k ItemD.zero=i:=by rw [Zo,hk];rfl
 rw [badKn,e2,Ql,Bool.not_eq_false'] at h1
 exact h1.1
theorem r3 {L:List Int} {I:List ItemD} (h:rightKn L I=true):Asc (I.map digIt):=by
 rw [rightKn,Zp,Zp] at h
 refine vl fun k hk=>?_
 rw [ZF] at hk
 have h1:=mo h.2.2 hk
 rw [badKn,Ql] at h1
 have h2:=h1.2
 rw [Zd aa,Zg,Bool.not_eq_false',Zo,Zo,Nat.add_sub_cancel,Zb hk,Zb (show k<I.length by omega)] at h2
 rw [List.getElem_map,List.getElem_map]
 exact h2
theorem Gg {L:List Int} {I:List ItemD} (h:rightKn L I=true) (hl:I.length≤100) (hr:∀ i∈I,i.act.Rng) (hs:∀ i∈I,i.act.Sm) (hd:∀ i∈I,i.dec.to.n=i.dec.toL.length):KnR L I where
 sv:=by
  rw [rightKn,Zp] at h
  exact aG h.1
 len:=hl
 rng:=hr
 sm:=hs
 dn:=hd
 right:=fun i hi=>by
  have h1:=iq h i hi
  rw [signedIt,Zp] at h1
  exact h1.1
 asc:=r3 h
theorem CQ (ks ki:SlV) (L:List Int) (I:List ItemD) (it:ItemD) (hdn:it.dec.to.n=it.dec.toL.length) (hs:signedIt L it=false) :
  Pu Tryz.prog 35 #[.agg #[ks.v,ki.v],it.v] (fun w=>((Ints w ks L∧Items w ki I)∧it.at_ w)∧Glob w) (.tuple #[.agg #[ks.v,ki.v],.bool false]):=by
 refine ak (args:=[_,_]) _ Tryz.func35 rfl Tryz.ntmps35 rfl fun av bor w0=>?_
 have hR:=dM it
 have hS:=ik ks L it hdn
 rw [hs] at hS
 repeat' (first|(refine ab (hc:=hR) (hX:=fun w h=>h.1.2) ?_)|(refine ab (hc:=hS) (hX:=fun w h=>⟨⟨h.1.1.1,h.1.2⟩,h.2⟩) ?_)|refine gs ?_|refine gs1 fun _=>?_|(refine gp ?_ ?_<;>intro hx_ this)|fail)
 all_goals first
  | exact ad (fi rfl rfl rfl bz (by rfl)) rfl
structure DupI (p:Nat) where
 k:Nat
 hk:k≤p
 at0:Int
theorem zj (ks ki:SlV) (L:List Int) (I:List ItemD) (it:ItemD) (hr:∀ i∈I,i.act.Rng) (hd:∀ i∈I,i.dec.to.n=i.dec.toL.length) (hit:it.act.Rng) (hdn:it.dec.to.n=it.dec.toL.length) (hI:I.length≤1000) (hs:signedIt L it=true)
  (p:Nat) (x0:ItemD) (hp:I[p]?=some x0) (he:digIt x0=digIt it) (hno:∀ (j:Nat) (y:ItemD),j<p→I[j]?=some y→seqB (digIt y) (digIt it)=false) :
  Pu Tryz.prog 35 #[.agg #[ks.v,ki.v],it.v] (fun w=>((Ints w ks L∧Items w ki I)∧it.at_ w)∧Glob w) (.tuple #[.agg #[ks.v,ki.v],.bool false]):=by
 refine ak (args:=[_,_]) _ Tryz.func35 rfl Tryz.ntmps35 rfl fun av bor w0=>?_
 have hR:=dM it
 have hS:=ik ks L it hdn
 rw [hs] at hS
 have hri:rightIt it=true:=by
  rw [signedIt,Zp] at hs
  exact hs.1
 rw [hri] at hR
 have hD0:=dw it hit hdn
 have hD:=fun x (hx:x∈I)=>dw x (hr x hx) (hd x hx)
 have hplt:=(QJ.1 hp).1
 refine aM (p:=ki.n=I.length∧ki.n≤maxLen∧(0<I.length→ki.p.isSome=true)) (fun w h=>⟨h.1.1.2.len_,h.1.1.2.max_,h.1.1.2.some_⟩) fun ⟨hkn,hkm,hkp⟩=>?_
 simp only [maxLen] at hkm
 have hkp':=hkp aa
 generalize digIt it=d at *
 clear hs hri hr hd hit hdn
 repeat' (first|(refine ab (hc:=hR) (hX:=fun w h=>h.1.2) ?_)|(refine ab (hc:=hS) (hX:=fun w h=>⟨⟨h.1.1.1,h.1.2⟩,h.2⟩) ?_)|(refine ab (hc:=hD0) (hX:=fun w h=>⟨h.1.2,h.2⟩) ?_)|refine gs ?_|refine gs1 fun _=>?_|(refine gp ?_ ?_<;>intro hx_ this)|fail)
 rename_i b2 b3 b4
 refine ar (ι:=DupI p) (fun i=>⟨[(2,.pointer (some ⟨b2,0,none⟩)),(3,.pointer (some ⟨b3,0,none⟩)),(4,.pointer (some ⟨b4,0,none⟩)),(6,.string d),(7,.int .i64 i.at0),(29,ki.v),(30,.int .i64 (ki.n:Nat)),(31,.int .i64 (i.k:Nat))],[cel b4 25 [.slice none 0 0,.slice none 0 0],cel b3 60 it.cells,cel b2 25 [ks.v,ki.v]],fun w=>((Ints w ks L∧Items w ki I)∧it.at_ w)∧Glob w⟩) (fun i=>p-i.k) ⟨0,Z4 _,(ki.n:Nat)⟩ (aj qZq9 (al _) fun _ h=>h) fun i=>?_
 obtain ⟨k,hk,at0⟩:=i
 simp only
 obtain ⟨x,hx⟩:∃ x,I[k]?=some x:=⟨_,Zb aa⟩
 have hxm:=Z6 hx
 have hDx:=hD x hxm
 by_cases hkp2:k=p
 · obtain rfl:x=x0:=by rw [hkp2,hp] at hx;exact (Option.some.inj hx).symm
   rw [he] at hDx
   have hdd:seqB d d=true:=cW _
   repeat' (first|refine ai (cf true rfl rfl (Zd aa)) rfl am rfl ?_|refine ai (dA true rfl rfl hdd) rfl am rfl ?_|(refine ab (hc:=hDx) (hX:=fun w h=>⟨h.1.1.2.2 x hxm,h.2⟩) ?_)|refine gs ?_|refine gs1 fun _=>?_|(refine aO (q:=k*49) ?_)|(refine ca (cs:=x.cells) (hF:=fun w h=>h.1.1.2.get hx) ?_)|(refine gp ?_ ?_<;>intro hx_ this)|fail)
   all_goals first
    | exact ad (fi rfl rfl rfl bz (by rfl)) rfl
 · have hne:=hno k x aa hx
   cases hg:gtB (digIt x) d
   all_goals
    repeat' (first|refine ai (cf true rfl rfl (Zd aa)) rfl am rfl ?_|refine ai (dA false rfl rfl hne) rfl am rfl ?_|refine ai (mc _ rfl rfl hg) rfl am rfl ?_|(refine ab (hc:=hDx) (hX:=fun w h=>⟨h.1.1.2.2 x hxm,h.2⟩) ?_)|refine gs ?_|refine gs1 fun _=>?_|(refine aO (q:=k*49) ?_)|(refine ca (cs:=x.cells) (hF:=fun w h=>h.1.1.2.get hx) ?_)|(refine gp ?_ ?_<;>intro hx_ this)|fail)
   all_goals first
    | exact ⟨(⟨k+1,by omega,at0⟩:DupI p),(by show p-(k+1)<p-k;omega),aj qZq9 (.cons _ (al _)) fun _ h=>h⟩
    | exact ⟨(⟨k+1,by omega,(k:Nat)⟩:DupI p),(by show p-(k+1)<p-k;omega),aj qZq9 (.cons _ (al _)) fun _ h=>h⟩
def canAdd (L:List Int) (I:List ItemD) (it:ItemD):Bool:=signedIt L it&&!(I.any fun x=>seqB (digIt x) (digIt it))
def addK (L:List Int) (I:List ItemD) (it:ItemD):List ItemD:=bif canAdd L I it then addV digIt it I else I
theorem sW {P:Program} {f:FuncId} {args:Array Value} {X:World→Prop} {v:Value} {Φ:Value→(World→Prop)→Prop} (h:Pu P f args X v) (hi:∀ X',Φ v X'):Mk P f args X Φ:=by
 unfold Pu at h
 unfold Mk
 exact h.mono fun u R X' ⟨h1,h2⟩=>⟨h1▸hi X',h2⟩
theorem yW {I:List ItemD} {d:ByteArray}:(∃ x∈I,digIt x=d)→∃ (p:Nat) (x0:ItemD),I[p]?=some x0∧digIt x0=d∧∀ (j:Nat) (y:ItemD),j<p→I[j]?=some y→seqB (digIt y) d=false:=by
 induction I with
 | nil=>rintro ⟨x,hx,_⟩;cases hx
 | cons a I ih =>
  rintro ⟨x,hx,e⟩
  by_cases ha:digIt a=d
  · exact ⟨0,a,rfl,ha,fun j y hj=>absurd hj (Nat.not_lt_zero _)⟩
  · rcases ZI.1 hx with rfl|hx
    · exact absurd e ha
    · obtain ⟨p,x0,h1,h2,h3⟩:=ih ⟨x,hx,e⟩
      refine ⟨p+1,x0,h1,h2,fun j y hj hy=>?_⟩
      cases j with
      | zero =>
       obtain rfl:a=y:=by simpa using hy
       cases hs:seqB (digIt a) d with
       | false=>rfl
       | true=>exact absurd (seqB_iff.1 hs) ha
      | succ j=>exact h3 j y aa hy
theorem rj (ks ki:SlV) {L:List Int} {I:List ItemD} (h:KnR L I) (it:ItemD) (hit:it.act.Rng) (hdn:it.dec.to.n=it.dec.toL.length) :
  Mk Tryz.prog 35 #[.agg #[ks.v,ki.v],it.v] (fun w=>((Ints w ks L∧Items w ki I)∧it.at_ w)∧Glob w)
   (fun u X'=>∃ s:SlV,u=.tuple #[.agg #[ks.v,s.v],.bool (canAdd L I it)]∧∀ w,(Items w ki I∧X' w)→Items w s (addK L I it)):=by
 have hlen:=h.len
 cases hs:signedIt L it with
 | false =>
  have e:canAdd L I it=false:=by rw [canAdd,hs];rfl
  rw [addK,e]
  exact sW (CQ ks ki L I it hdn hs) fun X'=>⟨ki,rfl,fun w h=>h.1⟩
 | true =>
  cases hn:I.any fun x=>seqB (digIt x) (digIt it) with
  | true =>
   have e:canAdd L I it=false:=by rw [canAdd,hs,hn];rfl
   rw [addK,e]
   obtain ⟨x,hx,hx2⟩:=List.any_eq_true.1 hn
   obtain ⟨p,x0,h1,h2,h3⟩:=yW ⟨x,hx,seqB_iff.1 hx2⟩
   exact sW (zj ks ki L I it h.rng h.dn hit hdn aa hs p x0 h1 h2 h3) fun X'=>⟨ki,rfl,fun w h=>h.1⟩
  | false =>
   have e:canAdd L I it=true:=by rw [canAdd,hs,hn];rfl
   rw [addK,e]
   have hri:rightIt it=true:=by
    rw [signedIt,Zp] at hs
    exact hs.1
   have hR:=dM it
   have hS:=ik ks L it hdn
   rw [hri] at hR
   rw [hs] at hS
   exact mi (E3 (fun w=>Ints w ks L) ks ki I it rightIt digIt hR hS (dw it hit hdn) (fun x hx=>dw x (h.rng x hx) (h.dn x hx)) aa fun x hx=>by
    cases hb:seqB (digIt x) (digIt it) with
    | false=>rfl
    | true=>exact absurd (List.any_eq_true.2 ⟨x,hx,hb⟩) (by rw [hn];decide)) fun u X' ⟨s,h1,h2⟩=>⟨s,h1,fun w h=>h2 w h.2⟩
theorem Ca {a b:ByteArray} (h:gtB a b=true):ltB b a=true:=by
 rw [gtB,Bool.not_eq_true',Ql] at h
 cases hh:ltB b a with
 | true=>rfl
 | false =>
  have:=kP (a:=a) (b:=b) h.1 hh
  rw [this,cW] at h
  exact absurd h.2 (by decide)
theorem yL {a b:ByteArray} (h:gtB a b=false) (hn:a≠b):ltB a b=true:=by
 rw [gtB,Bool.not_eq_false',Bool.or_eq_true] at h
 rcases h with h|h
 · exact h
 · exact absurd (seqB_iff.1 h) hn
theorem lg (dI:ItemD→ByteArray) (it:ItemD) (I:List ItemD):(addV dI it I).Perm (it::I):=by
 rw [addV]
 refine List.perm_middle.trans ?_
 rw [Qs]
theorem lN (dI:ItemD→ByteArray) {it:ItemD} (I:List ItemD) {q:ItemD→Bool} (h:q it=false):(addV dI it I).filter q=I.filter q:=by
 rw [addV,Qv,List.filter_cons_of_neg (by rw [h];decide),←Qv,Qs]
theorem CP (dI:ItemD→ByteArray) (it:ItemD) (I:List ItemD) (h:Asc (I.map dI)) (hn:∀ x∈I,dI x≠dI it):Asc ((addV dI it I).map dI):=by
 obtain ⟨p,hp⟩:∃ p,addAt dI (dI it) I I.length=p:=⟨_,rfl⟩
 have hlow:∀ (j:Nat) (x:ItemD),j<p→I[j]?=some x→ltB (dI x) (dI it)=true:=fun j x hj hx=>by
  refine yL ?_ (hn x (Z6 hx))
  rw [addAt,Qh] at hp
  obtain ⟨hlt,e⟩:=QJ.1 hx
  cases hf:I.findIdx? fun x=>gtB (dI x) (dI it) with
  | none =>
   have:=List.findIdx?_eq_none_iff.1 hf x (Z6 hx)
   exact this
  | some q =>
   rw [hf] at hp
   obtain ⟨h1,h2,h3⟩:=QC.1 hf
   have:=h3 j (by rw [Qe] at hp;omega)
   rw [e] at this
   simpa using this
 have hhigh:∀ (j:Nat) (x:ItemD),p≤j→I[j]?=some x→ltB (dI it) (dI x)=true:=fun j x hj hx=>by
  rw [addAt,Qh] at hp
  obtain ⟨hlt,e⟩:=QJ.1 hx
  cases hf:I.findIdx? fun x=>gtB (dI x) (dI it) with
  | none =>
   rw [hf,Option.getD_none] at hp
   omega
  | some q =>
   rw [hf,Qe] at hp
   subst hp
   obtain ⟨h1,h2,h3⟩:=QC.1 hf
   have h4:=Ca h2
   rcases Nat.lt_or_eq_of_le hj with h5|h5
   · exact fF h4 (mn h h5 (by rw [Z7,Zb h1];rfl) (by rw [Z7,hx];rfl))
   · subst h5
     rw [e] at h4
     exact h4
 rw [addV,hp,ZW,Z1]
 refine List.pairwise_append.2 ⟨ml h ((List.take_sublist _ _).map dI),List.pairwise_cons.2 ⟨fun y hy=>?_,ml h ((List.drop_sublist _ _).map dI)⟩,fun x hx y hy=>?_⟩
 · obtain ⟨z,hz,rfl⟩:=QI.1 hy
   obtain ⟨j,hj⟩:=QO.1 hz
   rw [List.getElem?_drop] at hj
   exact hhigh _ z aa hj
 · obtain ⟨z,hz,rfl⟩:=QI.1 hx
   obtain ⟨j,hj⟩:=QO.1 hz
   rw [QG] at hj
   split at hj
   · rename_i hjp
     have h1:=hlow j z hjp hj
     rcases ZI.1 hy with rfl|hy
     · exact h1
     · obtain ⟨u,hu,rfl⟩:=QI.1 hy
       obtain ⟨k,hk⟩:=QO.1 hu
       rw [List.getElem?_drop] at hk
       exact fF h1 (hhigh _ u aa hk)
   · cases hj
theorem oA {L:List Int} {I:List ItemD} {it:ItemD} (h:canAdd L I it=true):signedIt L it=true∧rightIt it=true∧∀ x∈I,digIt x≠digIt it:=by
 rw [canAdd,Zp,Bool.not_eq_true'] at h
 refine ⟨h.1,?_,fun x hx e=>?_⟩
 · have h1:=h.1
   rw [signedIt,Zp] at h1
   exact h1.1
 · rw [List.any_eq_true.2 ⟨x,hx,seqB_iff.2 e⟩] at h
   exact absurd h.2 (by decide)
theorem nU {L:List Int} {I:List ItemD} (h:KnR L I) {it:ItemD} (hit:it.act.Rng) (hsm:it.act.Sm) (hdn:it.dec.to.n=it.dec.toL.length) (hl:I.length<100):KnR L (addK L I it):=by
 rw [addK]
 cases hc:canAdd L I it with
 | false=>exact h
 | true =>
  obtain ⟨h1,h2,h3⟩:=oA hc
  have hp:=lg digIt it I
  have hm:∀ i∈addV digIt it I,i=it∨i∈I:=fun i hi=>ZI.1 (hp.subset hi)
  show KnR L (addV digIt it I)
  refine ⟨h.sv,by rw [hp.length_eq,ZB];omega,fun i hi=>?_,fun i hi=>?_,fun i hi=>?_,fun i hi=>?_,CP digIt it I h.asc h3⟩
  · rcases hm i hi with rfl|hi
    · exact hit
    · exact h.rng i hi
  · rcases hm i hi with rfl|hi
    · exact hsm
    · exact h.sm i hi
  · rcases hm i hi with rfl|hi
    · exact hdn
    · exact h.dn i hi
  · rcases hm i hi with rfl|hi
    · exact h2
    · exact h.right i hi
theorem sP (n:Nat) (I:List ItemD) (au:ByteArray) {it:ItemD} (hk:it.kind=0):OfWK n (addV digIt it I) au=OfWK n I au:=by
 have h1:claimsV (addV digIt it I) au=claimsV I au:=by
  rw [claimsV,claimsV,selC,selC,lN]
  rw [selBC,wantC,hk]
  rfl
 have h2:∀ g,selB2 au g rightIt (addV digIt it I)=selB2 au g rightIt I:=fun g=>by
  rw [selB2,selB2,lN]
  rw [selBB,wantB,hk]
  rfl
 have h3:∀ g,wonK n (addV digIt it I) au g=wonK n I au g:=fun g=>by rw [wonK,wonK,h1,h2]
 have h4:genB n (addV digIt it I) au=genB n I au:=by
  rw [genB,genB,h1]
  congr 1
  funext g
  exact h3 g
 rw [OfWK,OfWK,h4]
 congr 1
 funext g
 rw [h3]
theorem rP {I:List ItemD} {au:ByteArray} {it:ItemD}:(selA au rightIt (addV digIt it I)).Perm (bif selB au rightIt it then it.act::selA au rightIt I else selA au rightIt I):=by
 have h:=((lg digIt it I).filter (selB au rightIt)).map ItemD.act
 cases hs:selB au rightIt it with
 | true =>
  rw [List.filter_cons_of_pos hs,Z1] at h
  exact h
 | false =>
  rw [List.filter_cons_of_neg (by rw [hs];decide)] at h
  exact h
def lastK (kl:List KeyD):Int:=(kl.getD (kl.length-1) KeyD.zero).public_
theorem Bq {L:List Int} {I I':List ItemD} {au:ByteArray} {c n:ChainD} {kl kl':List KeyD} (hW:OfWK L.length I' au=OfWK L.length I au) (hA:(selA au rightIt I').Perm (selA au rightIt I)) (q:QK L I au c kl) (q':QK L I' au n kl'):SameC n c∧kl'=kl:=by
 obtain ⟨A,sa,sk,st,f,p,r,rfl,rfl⟩:=q
 obtain ⟨A',sa',sk',st',f',p',r',rfl,rfl⟩:=q'
 rw [hW] at r'
 have r2:=fM (OfWK L.length I au) ((p'.trans hA).trans p.symm) r'
 obtain ⟨rfl,rfl⟩:=yy r2 r
 exact ⟨⟨rfl,rfl,rfl,rfl,rfl⟩,rfl⟩
theorem GL {n:Nat} {I:List ItemD} {au:ByteArray}:∀ g c,(OfWK n I au).won g=some c→g<(OfWK n I au).B:=fun g c hw=>(fb hw).1
theorem BL {W:OfW} {st:ChS} {f:Bool} (r:OfRes W st f) (h:0<st.acts.length):∃ b,oneA (firstL W)=some b∧st=finS W b:=by
 rw [OfRes] at r
 cases ho:oneA (firstL W) with
 | none =>
  rw [ho] at r
  rw [r.1] at h
  exact absurd h (by decide)
 | some b =>
  rw [ho] at r
  exact ⟨b,rfl,r.1⟩
theorem D6 {L:List Int} {I:List ItemD} (h:KnR L I) {it:ItemD} {au:ByteArray} {c n:ChainD} {kl kl':List KeyD} (hk:it.kind=0) (hs:selB au rightIt it=true) (q:QK L I au c kl) (q':QK L (addV digIt it I) au n kl')
  (h0:0<c.actsL.length) (h1:it.act.seq=(c.actsL.length:Int)) (h2:it.act.prev=c.prev) (hcn:c.acts.n=c.actsL.length) :
  bif !c.fork&&(fitsV c it.act (idxV c.actsL it.act.object)&&verV (lastK kl) it.act) then
   c.fork=false∧n.id=c.id∧∃ M K,n.actsL=c.actsL++it.act::M∧kl'=(kl++bif decide (it.act.kind=18) then [⟨((c.actsL.length+1:Nat):Int),it.act.n,it.act.m⟩] else [])++K∧(∀ k∈K,(c.actsL.length:Int)+1≤k.from_) ∧
    (M=[]→n.gen=c.gen→K=[]∧n.prev=digV it.act)
  else SameC n c∧kl'=kl:=by
 obtain ⟨A,sa,sk,st,f,p,r,rfl,rfl⟩:=q
 obtain ⟨A',sa',sk',st',f',p',r',rfl,rfl⟩:=q'
 rw [sP _ I au hk] at r'
 have hsel:=rP (I:=I) (au:=au) (it:=it)
 rw [hs,Zf] at hsel
 have r2:=fM (OfWK L.length I au) ((p'.trans hsel).trans (p.symm.cons it.act)) r'
 obtain ⟨b,hb,hst⟩:=BL r h0
 have hx:=EM (EP h p) GL hb r r2 h1 h2
 have hc:candB ((OfWK L.length I au).at A) st it.act=(fitsV (⟨au,sa,sk,st.prev,(st.gen:Nat),f,st.acts⟩:ChainD) it.act (idxV st.acts it.act.object)&&verV (lastK st.keys) it.act):=by
  have e:fitsV (st.ch au) it.act (idxV st.acts it.act.object)=fitsV (⟨au,sa,sk,st.prev,(st.gen:Nat),f,st.acts⟩:ChainD) it.act (idxV st.acts it.act.object):=kT rfl hcn.symm rfl rfl
  rw [←e]
  rfl
 rw [hc] at hx
 show bif !f&&(fitsV (⟨au,sa,sk,st.prev,(st.gen:Nat),f,st.acts⟩:ChainD) it.act (idxV st.acts it.act.object)&&verV (lastK st.keys) it.act) then _ else _
 cases hb2:!f&&(fitsV (⟨au,sa,sk,st.prev,(st.gen:Nat),f,st.acts⟩:ChainD) it.act (idxV st.acts it.act.object)&&verV (lastK st.keys) it.act) with
 | false =>
  rw [hb2,Ze] at hx
  obtain ⟨rfl,rfl⟩:=hx
  exact ⟨⟨rfl,rfl,rfl,rfl,rfl⟩,rfl⟩
 | true =>
  rw [hb2,Zf] at hx
  obtain ⟨hf,m,hm⟩:=hx
  obtain ⟨M,K,e1,e2,e3⟩:=vT (W:=(OfWK L.length I au).at (it.act::A)) m (addS st it.act)
  have el:((addS st it.act).acts.length:Int)=(st.acts.length:Int)+1:=by simp [addS]
  refine ⟨hf,rfl,M,K,?_,?_,fun k hk2=>?_,fun hM hg=>?_⟩
  · show st'.acts=_
    rw [hm,e1]
    simp [addS]
  · rw [hm,e2]
    congr 1
    show (bif decide (it.act.kind=18) then st.keys++[_] else st.keys)=_
    cases decide (it.act.kind=18)<;>simp
  · have:=e3 k hk2
    show (st.acts.length:Int)+1≤k.from_
    omega
  · have hgr:=io (W:=(OfWK L.length I au).at (it.act::A)) m (addS st it.act)
    have hg2:st'.gen=st.gen:=by have:((st'.gen:Nat):Int)=(st.gen:Nat):=hg;omega
    have hg3:(addS st it.act).gen=st.gen:=rfl
    rw [hm] at hg2
    rw [hM,ZJ] at e1
    have hfix:runS ((OfWK L.length I au).at (it.act::A)) m (addS st it.act)=addS st it.act:=by
     rcases hgr with hgr|hgr|⟨_,g,cc,g1,g2,_⟩
     · exact hgr
     · rw [e1] at hgr;omega
     · omega
    rw [hfix] at e2 hm
    refine ⟨?_,by rw [hm];rfl⟩
    have:=congrArg List.length e2
    rw [ZA] at this
    exact Z8 aa
def ItemTo (b:ActD) (u:Value) (X:World→Prop):Prop:=∃ s1 s2:SlV,u=(ofActI (b.re s1 s2)).v∧s1.n=b.to.n∧s2.n=b.wraps.n∧∀ w,X w→(b.re s1 s2).at_ w
set_option maxRecDepth 20000 in
theorem kJ (a:ActD) (hr:a.Rng) (hs:a.Sm):Mk Tryz.prog 19 #[a.v] (ActD.at_ · a) (ItemTo a):=by
 refine bZ (args:=[_]) _ Tryz.func19 rfl Tryz.ntmps19 rfl fun av bor w0=>?_
 repeat' (first|refine gs ?_|refine gs1 fun _=>?_|fail)
 refine bS (hc:=iZ a.to (strs a.toL) hs.to (fun cs hcs=>by simp only [strs,QI] at hcs;obtain ⟨x,_,rfl⟩:=hcs;rfl)) (hX:=fun w h=>h.1) fun v1 X1 h1=>?_
 obtain ⟨s1,rfl,hn1,hw1⟩:=h1
 repeat' (first|refine gs ?_|refine gs1 fun _=>?_|fail)
 refine bS (hc:=k7 a.wraps (a.wrapsL.map WrapD.cells) hs.wraps (fun cs hcs=>by simp only [QI] at hcs;obtain ⟨x,_,rfl⟩:=hcs;rfl)) (hX:=fun w h=>h.1.2) fun v2 X2 h2=>?_
 obtain ⟨s2,rfl,hn2,hw2⟩:=h2
 repeat' (first|refine gs ?_|refine gs1 fun _=>?_|(refine aF ?_)|fail)
 have e1:s1.n=a.to.n:=by rw [hn1,hr.to_len];simp [strs]
 have e2:s2.n=a.wraps.n:=by rw [hn2,hr.wraps_len];simp
 apply ad;refine cB rfl rfl bz ?_
 · rfl
 refine ⟨s1,s2,rfl,e1,e2,fun w h=>⟨?_,?_⟩⟩
 · exact hw1 w h.1.1.2
 · exact hw2 w h.1.2
theorem fw {a:ActD} (h:a.Rng) {s1 s2:SlV} (h1:s1.n=a.to.n) (h2:s2.n=a.wraps.n):(a.re s1 s2).Rng:=⟨h.ints,h.wints,h1.trans h.to_len,h2.trans h.wraps_len⟩
theorem kz {a:ActD} (h:a.Sm) {s1 s2:SlV} (h1:s1.n=a.to.n) (h2:s2.n=a.wraps.n):(a.re s1 s2).Sm:=⟨by show s1.n*16≤_;rw [h1];exact h.to,by show s2.n*64≤_;rw [h2];exact h.wraps,h.target⟩
theorem yP (c:ChainD) (a:ActD) (o:Option Nat) {s1 s2:SlV} (h1:s1.n=a.to.n) (h2:s2.n=a.wraps.n):fitsV c (a.re s1 s2) o=fitsV c a o:=by
 rw [fitsV,fitsV,nz h1 h2]
 rfl
def draftX (c:ChainD) (x:ActD):ActD:={ x with author:=c.id,seq:=(c.acts.n:Int),prev:=c.prev }
theorem A8 {k:KyD} {a:ActD} (h:rightB (actSignV k a)=true):rightK k=true∧actSignV k a=a.sig (signV k (coreV (a.sig SgD.zero))):=by
 rw [actSignV] at h ⊢
 cases hb:rightB (a.sig SgD.zero)&&rightK k with
 | false =>
  rw [hb,Ze] at h
  exact absurd h (by decide +kernel)
 | true =>
  rw [Zp] at hb
  exact ⟨hb.2,rfl⟩
theorem g8 {L:List Int} {I:List ItemD} {au:ByteArray} {c:ChainD} {kl:List KeyD} (q:QK L I au c kl):c.id=au:=by
 obtain ⟨A,sa,sk,st,f,p,r,rfl,rfl⟩:=q
 rfl
theorem pW {L:List Int} {I:List ItemD} {au:ByteArray} {c:ChainD} {kl:List KeyD} (q:QK L I au c kl) {k:KyD} {x:ActD} {s3 s4:SlV} (e3:s3.n=(actSignV k (draftX c x)).to.n) (e4:s4.n=(actSignV k (draftX c x)).wraps.n)
  (ha:canAdd L I (ofActI ((actSignV k (draftX c x)).re s3 s4))=true):rightK k=true∧rightB (actSignV k (draftX c x))=true∧actSignV k (draftX c x)=(draftX c x).sig (signV k (coreV ((draftX c x).sig SgD.zero)))∧selB au rightIt (ofActI ((actSignV k (draftX c x)).re s3 s4))=true:=by
 obtain ⟨h1,h2,h3⟩:=oA ha
 have hr:rightB (actSignV k (draftX c x))=true:=by
  have:=lq (i:=ofActI ((actSignV k (draftX c x)).re s3 s4)) rfl h2
  rw [←nz e3 e4]
  exact this
 obtain ⟨h4,h5⟩:=A8 hr
 refine ⟨h4,hr,h5,?_⟩
 rw [selB,h2,Zh,wantA]
 show (true&&seqB (actSignV k (draftX c x)).author au)=true
 rw [Zg,h5]
 show seqB c.id au=true
 rw [g8 q]
 exact cW _
structure SignD (L:List Int) (I:List ItemD) (c n:ChainD) (k:KyD) (x b:ActD):Prop where
 right:rightB b=true
 sig:b=(draftX c x).sig (signV k (coreV ((draftX c x).sig SgD.zero)))
 fits:fitsV c b (idxV c.actsL b.object)=true
 acts:n.actsL.map ActD.can=c.actsL.map ActD.can++[b.can]
 len:n.actsL.length=c.actsL.length+1
theorem up {L:List Int} {I:List ItemD} (h:KnR L I) {au:ByteArray} {c n:ChainD} {kl kl':List KeyD} (q:QK L I au c kl) (h0:0<c.actsL.length) (hcn:c.acts.n=c.actsL.length) {k:KyD} {x:ActD} {s3 s4:SlV}
  (e3:s3.n=(actSignV k (draftX c x)).to.n) (e4:s4.n=(actSignV k (draftX c x)).wraps.n) (q':QK L (addK L I (ofActI ((actSignV k (draftX c x)).re s3 s4))) au n kl') (hl:n.actsL.length=c.actsL.length+1) :
  SignD L I c n k x (actSignV k (draftX c x))∧canAdd L I (ofActI ((actSignV k (draftX c x)).re s3 s4))=true:=by
 cases ha:canAdd L I (ofActI ((actSignV k (draftX c x)).re s3 s4)) with
 | false =>
  rw [addK,ha] at q'
  have:=congrArg List.length (Bq rfl (Qn _) q q').1.acts
  simp at this
  omega
 | true =>
  obtain ⟨g1,g2,g3,g4⟩:=pW q e3 e4 ha
  rw [addK,ha] at q'
  have h1:(actSignV k (draftX c x)).seq=(c.actsL.length:Int):=by rw [g3,←hcn];rfl
  have h2:(actSignV k (draftX c x)).prev=c.prev:=by rw [g3];rfl
  have hx:=D6 h (it:=ofActI ((actSignV k (draftX c x)).re s3 s4)) rfl g4 q q' h0 h1 h2 hcn
  have hf2:fitsV c (ofActI ((actSignV k (draftX c x)).re s3 s4)).act (idxV c.actsL (ofActI ((actSignV k (draftX c x)).re s3 s4)).act.object)=fitsV c (actSignV k (draftX c x)) (idxV c.actsL (actSignV k (draftX c x)).object):=by
   rw [show (ofActI ((actSignV k (draftX c x)).re s3 s4)).act=(actSignV k (draftX c x)).re s3 s4 from rfl,yP c _ _ e3 e4]
   rfl
  cases hb:!c.fork&&(fitsV c (ofActI ((actSignV k (draftX c x)).re s3 s4)).act (idxV c.actsL (ofActI ((actSignV k (draftX c x)).re s3 s4)).act.object)&&verV (lastK kl) (ofActI ((actSignV k (draftX c x)).re s3 s4)).act) with
  | false =>
   rw [hb,Ze] at hx
   have:=congrArg List.length hx.1.acts
   simp at this
   omega
  | true =>
   rw [hb,Zf] at hx
   obtain ⟨_,x2,M,K,x3,x4,x5,x6⟩:=hx
   have hM:M=[]:=by
    refine Z8 ?_
    have:=congrArg List.length x3
    simp at this
    omega
   subst hM
   rw [Zp,Zp,hf2] at hb
   refine ⟨⟨g2,g3,hb.2.1,?_,hl⟩,rfl⟩
   rw [x3,ZW]
   show _++[((actSignV k (draftX c x)).re s3 s4).can]=_
   rw [CC _ e3 e4]
theorem Ck (W:OfW) (b:ActD):0<(finS W b).acts.length:=by
 have h:(begS b).acts.length=1:=rfl
 rcases io (W:=W) (W.L.length+W.B) (begS b) with e|e|e
 · rw [finS,e,h];decide
 · rw [finS];omega
 · rw [finS];have:=e.1;omega
theorem yQ {W:OfW} {A:List ActD} {a:ActD} (h:a.kind≠0):firstL (W.at (a::A))=firstL (W.at A):=by
 show ((a::A).filter (posB 0 ⟨#[]⟩)).filter (firstB (W.at A))=(A.filter (posB 0 ⟨#[]⟩)).filter (firstB (W.at A))
 rw [List.filter_filter,List.filter_filter,List.filter_cons_of_neg]
 simp [firstB,h]
theorem Bp {L:List Int} {I:List ItemD} {it:ItemD} {au:ByteArray} {c n:ChainD} {kl kl':List KeyD} (hk:it.kind=0) (hn:it.act.kind≠0) (q:QK L I au c kl) (hc:c.actsL=[]) (q':QK L (addK L I it) au n kl'):n.actsL=[]:=by
 obtain ⟨A,sa,sk,st,f,p,r,rfl,rfl⟩:=q
 obtain ⟨A',sa',sk',st',f',p',r',rfl,rfl⟩:=q'
 change st.acts=[] at hc
 show st'.acts=[]
 have hnone:oneA (firstL ((OfWK L.length I au).at A))=none:=by
  rw [OfRes] at r
  cases ho:oneA (firstL ((OfWK L.length I au).at A)) with
  | none=>rfl
  | some b =>
   rw [ho] at r
   have:=Ck ((OfWK L.length I au).at A) b
   rw [←r.1,hc] at this
   exact absurd this (by decide)
 cases ha:canAdd L I it with
 | false =>
  rw [addK,ha,Ze] at p' r'
  have r2:=fM (OfWK L.length I au) (p'.trans p.symm) r'
  rw [OfRes,hnone] at r2
  rw [r2.1]
 | true =>
  rw [addK,ha,Zf] at p' r'
  rw [sP _ I au hk] at r'
  have hsel:=rP (I:=I) (au:=au) (it:=it)
  cases hs:selB au rightIt it with
  | true =>
   rw [hs,Zf] at hsel
   have r2:=fM (OfWK L.length I au) ((p'.trans hsel).trans (p.symm.cons it.act)) r'
   rw [OfRes,yQ hn,hnone] at r2
   rw [r2.1]
  | false =>
   rw [hs,Ze] at hsel
   have r2:=fM (OfWK L.length I au) ((p'.trans hsel).trans p.symm) r'
   rw [OfRes,hnone] at r2
   rw [r2.1]
theorem ir {P:Program} {fn:Func} {N t u r ty ty2 n n2:Nat} {s:St} {b b2 T T2:Nat} {cs cs2:List Value} {x:Value} [hI:TyAgg P ty n] [hI2:TyAgg P ty2 n2] (hr:fn.results=#[.cell t ty,.cell u ty2,.tmp r]) (h:Sy.look s.env t=some (.pointer (some ⟨b,0,none⟩))) (h':Sy.look s.env u=some (.pointer (some ⟨b2,0,none⟩))) (h'':Sy.look s.env r=some x) (hm:cel b T cs∈s.loc) (hn:cs.length=n) (hm2:cel b2 T2 cs2∈s.loc) (hn2:cs2.length=n2) :
  Res1 P fn N s (.tuple #[.agg cs.toArray,.agg cs2.toArray,x]):=fun av bor w0 a w ok=>by
 obtain ⟨D,h1,h2,h3⟩:=cV hI.out
 obtain ⟨D2,g1,g2,g3⟩:=cV hI2.out
 have ht:=ok.env t _ h
 have hu:=ok.env u _ h'
 have hx:=ok.env r _ h''
 have l1:(loadVar ty ⟨b,0,none⟩).run P w=.ok (.agg cs.toArray) w:=by
  cases D<;>simp at h2
  · exact run_loadVar_row w b T ty cs.toArray (0,0) _ (eO ok hm) h1 rfl (by rw [h3];simp [hn])
  · exact run_loadVar_row w b T ty cs.toArray (0,0) _ (eO ok hm) h1 rfl (by rw [h3];simp [hn])
 have l2:(loadVar ty2 ⟨b2,0,none⟩).run P w=.ok (.agg cs2.toArray) w:=by
  cases D2<;>simp at g2
  · exact run_loadVar_row w b2 T2 ty2 cs2.toArray (0,0) _ (eO ok hm2) g1 rfl (by rw [g3];simp [hn2])
  · exact run_loadVar_row w b2 T2 ty2 cs2.toArray (0,0) _ (eO ok hm2) g1 rfl (by rw [g3];simp [hn2])
 simp [results,hr,ht,hu,hx,asAddr,l1,l2]
def sgA (k:KyD) (c:ChainD) (x:ActD):ActD:=actSignV k (draftX c { x with time:=1 })
structure AddW (L:List Int) (I:List ItemD) (ki:SlV) (b:ActD) where
 s3:SlV
 s4:SlV
 s:SlV
 bk:Nat
 Y:World→Prop
 e3:s3.n=b.to.n
 e4:s4.n=b.wraps.n
 hw:∀ w,(Items w ki I∧Y w)→Items w s (addK L I (ofActI (b.re s3 s4)))
end Go.Proofs.YtaolfiikahlmkaaGreatDoor

namespace Go.Proofs.YtaolfiikahlmkaaGreatDoor
open Go Go.Proofs Sy
structure ListD where
 actor:ByteArray
 reason:ByteArray
 by_:ByteArray
 until_:Int
structure EntD where
 l:ListD
 at_:Int
def eqLD (a b:ListD):Bool:=seqB a.actor b.actor&&(seqB a.reason b.reason&&(seqB a.by_ b.by_&&decide (a.until_=b.until_)))
def eqED (a b:EntD):Bool:=eqLD a.l b.l&&decide (a.at_=b.at_)
theorem Cn {a b:ListD}:eqLD a b=true↔a=b:=by
 cases a;cases b
 simp only [eqLD,Zp,seqB_iff,Zw,ListD.mk.injEq]
theorem eqED_iff {a b:EntD}:eqED a b=true↔a=b:=by
 cases a;cases b
 simp only [eqED,Zp,Cn,Zw,EntD.mk.injEq]
section
variable {N:Nat} {av bor:List Nat} {w0:World} {ops:Array Oper} {rest:List Oper} {k:St→Prop} {E:Env} {loc:List Res} {X:World→Prop} {x y:Operand} {t2:TypeId}
variable {n:Nat} {ty:TypeId} {pos:String} {af:Array Edge} {g:Option (Nat×Bool)} {bb want:Bool} {st:St}
end
def betV (a b:EntD):Bool:=bif !decide (a.l.until_=b.l.until_) then decide (b.l.until_<a.l.until_) else bif !seqB a.l.by_ b.l.by_ then ltB a.l.by_ b.l.by_ else decide (b.at_<a.at_)
end Go.Proofs.YtaolfiikahlmkaaGreatDoor
namespace Go.Proofs.YtaolfiikahlmkaaGreatDoor
open Go Go.Proofs Sy Go.Shelf Go.Maps Go.Sort
def hasL (l:List ListD) (a:ByteArray):Option ListD:=l.find? fun e=>seqB e.actor a
end Go.Proofs.YtaolfiikahlmkaaGreatDoor
namespace Go.Proofs.YtaolfiikahlmkaaGreatDoor
open Go Go.Proofs Sy Go.Sort
def entA (k:ByteArray) (l:List ActD) (j:Nat):EntD:=⟨⟨(l.getD j ActD.zero).target,(l.getD j ActD.zero).text,k,(l.getD j ActD.zero).n⟩,j⟩
def foundF (l:List ActD):Nat→List Nat
 | 0=>[]
 | i+1=>bif decide ((l.getD i ActD.zero).kind=23) then foundF l i++[i] else bif decide ((l.getD i ActD.zero).kind=6) then (match idxV l (l.getD i ActD.zero).object with|some j=>(foundF l i).erase j|none=>foundF l i) else foundF l i
def entsV (l:List ChainD) (k:ByteArray):List EntD:=match findC l k with
 | some c=>(foundF c.actsL c.actsL.length).map (entA k c.actsL)
 | none=>[]
def hasK (ks:List ByteArray) (k:ByteArray):Bool:=ks.any fun y=>KeyT.eqb k y
def bestStep (now:Int) (b:List (ByteArray×EntD)) (e:EntD):List (ByteArray×EntD) :=
 bif decide (e.l.until_≤now) then b else
  match mget b e.l.actor with
  | none=>mput b e.l.actor e
  | some old=>bif (!eqED e old)&&betV e old then mput b e.l.actor e else b
def bestF (l:List ChainD) (now:Int) (ks:List ByteArray):Nat→List ByteArray×List (ByteArray×EntD)
 | 0=>([],[])
 | i+1=>bif hasK (bestF l now ks i).1 (ks.getD i .empty) then bestF l now ks i else (sput (bestF l now ks i).1 (ks.getD i .empty),(entsV l (ks.getD i .empty)).foldl (bestStep now) (bestF l now ks i).2)
def ListD.zero:ListD:=⟨⟨#[]⟩,⟨#[]⟩,⟨#[]⟩,0⟩
def EntD.zero:EntD:=⟨ListD.zero,0⟩
def ofV (l:List ChainD) (ks:List ByteArray) (now:Int):List ListD:=(sortB ((bestF l now ks ks.length).2.map (·.1))).map fun a=>((mget (bestF l now ks ks.length).2 a).getD EntD.zero).l
section
variable {N:Nat} {av bor:List Nat} {w0:World} {ops:Array Oper} {rest:List Oper} {k:St→Prop} {E:Env} {loc:List Res} {X:World→Prop} {x:Operand} {st:St}
variable {n:Nat} {ty:TypeId} {pos:String} {af:Array Edge} {g:Option (Nat×Bool)} {bb want:Bool}
end
theorem sY {β:Type}:∀ {b:List (ByteArray×β)} {a:ByteArray},a∈b.map (·.1)→∃ e,mget b a=some e
 | [],a,h=>by cases h
 | (k',v')::r,a,h=>by
  simp only [mget]
  cases hk:KeyT.eqb a k' with
  | true=>exact ⟨v',rfl⟩
  | false =>
   simp only [Z1,ZI] at h
   rcases h with rfl|h
   · rw [(KeyT.eqb_iff a a).2 rfl] at hk;cases hk
   · exact sY h
structure BBnd (m:Nat) (b:List (ByteArray×EntD)):Prop where
 len:b.length≤m
 size:∀ p∈b,p.1.size≤maxLen
end Go.Proofs.YtaolfiikahlmkaaGreatDoor
namespace Go.Proofs.YtaolfiikahlmkaaGreatDoor
open Go Go.Proofs Sy
theorem iN {a b:EntD}:betV a b=true↔b.l.until_<a.l.until_∨(a.l.until_=b.l.until_∧(ltB a.l.by_ b.l.by_=true∨(a.l.by_=b.l.by_∧b.at_<a.at_))):=by
 unfold betV
 by_cases h:a.l.until_=b.l.until_
 · rw [Zd h]
   simp only [Zn,Ze]
   cases hs:seqB a.l.by_ b.l.by_ with
   | true =>
    have e:=seqB_iff.1 hs
    simp only [Zn,Ze,Zw]
    constructor
    · intro h1;exact .inr ⟨h,.inr ⟨e,h1⟩⟩
    · rintro (h1|⟨_,h1|h1⟩)
      · omega
      · rw [e,dF] at h1;cases h1
      · exact h1.2
   | false =>
    have e:=seqB_ne.1 hs
    simp only [Zl,Zf]
    constructor
    · intro h1;exact .inr ⟨h,.inl h1⟩
    · rintro (h1|⟨_,h1|h1⟩)
      · omega
      · exact h1
      · exact absurd h1.1 e
 · rw [Zc h]
   simp only [Zl,Zf,Zw]
   constructor
   · intro h1;exact .inl h1
   · rintro (h1|h1)
     · exact h1
     · exact absurd h1.1 h
theorem vj {a b:EntD} (h:betV a b=true) (k:betV b a=true):False:=by
 rw [iN] at h k
 rcases h with h|⟨h,h2⟩
 · rcases k with k|⟨k,_⟩<;>omega
 · rcases k with k|⟨k,k2⟩
   · omega
   · rcases h2 with h2|⟨h2,h3⟩
     · rcases k2 with k2|⟨k2,_⟩
       · rw [kQ h2] at k2;cases k2
       · rw [k2,dF] at h2;cases h2
     · rcases k2 with k2|⟨k2,k3⟩
       · rw [h2,dF] at k2;cases k2
       · omega
theorem vg {a b c:EntD} (h:betV a b=true) (k:betV b c=true):betV a c=true:=by
 rw [iN] at *
 rcases h with h|⟨h,h2⟩
 · rcases k with k|⟨k,_⟩<;>exact .inl aa
 · rcases k with k|⟨k,k2⟩
   · exact .inl aa
   · refine .inr ⟨by omega,?_⟩
     rcases h2 with h2|⟨h2,h3⟩
     · rcases k2 with k2|⟨k2,_⟩
       · exact .inl (fF h2 k2)
       · exact .inl (k2▸h2)
     · rcases k2 with k2|⟨k2,k3⟩
       · exact .inl (h2▸k2)
       · exact .inr ⟨h2.trans k2,by omega⟩
theorem vi {a b:EntD} (h:¬ betV a b=true) (k:¬ betV b a=true):a.l.by_=b.l.by_∧a.at_=b.at_:=by
 rw [iN] at *
 simp only [not_or,not_and] at h k
 have hu:a.l.until_=b.l.until_:=by omega
 have h2:=h.2 hu
 have k2:=k.2 hu.symm
 have e:a.l.by_=b.l.by_:=kP (by simpa using h2.1) (by simpa using k2.1)
 exact ⟨e,by have:=h2.2 e;have:=k2.2 e.symm;omega⟩
theorem jv {l:List ChainD} {k:ByteArray} {e:EntD} (h:e∈entsV l k):∃ c j,findC l k=some c∧j∈foundF c.actsL c.actsL.length∧e=entA k c.actsL j:=by
 unfold entsV at h
 cases hf:findC l k with
 | none=>rw [hf] at h;cases h
 | some c =>
  rw [hf] at h
  obtain ⟨j,hj,rfl⟩:=QI.1 h
  exact ⟨c,j,rfl,hj,rfl⟩
theorem Cq {l:List ChainD} {k:ByteArray} {e:EntD} (h:e∈entsV l k):e.l.by_=k:=by
 obtain ⟨c,j,_,_,rfl⟩:=jv h
 rfl
theorem Cp {l:List ChainD} {k k':ByteArray} {e e':EntD} (h:e∈entsV l k) (h':e'∈entsV l k') (hb:e.l.by_=e'.l.by_) (ha:e.at_=e'.at_):e=e':=by
 have hk:k=k':=by rw [←Cq h,←Cq h',hb]
 subst hk
 obtain ⟨c,j,hc,_,rfl⟩:=jv h
 obtain ⟨c',j',hc',_,rfl⟩:=jv h'
 rw [hc] at hc'
 cases hc'
 have:(j:Int)=(j':Int):=ha
 rw [show j=j' by omega]
def Best (S:EntD→Prop) (a:ByteArray) (e:EntD):Prop:=S e∧e.l.actor=a∧∀ e',S e'→e'.l.actor=a→e'=e∨betV e e'=true
theorem Best.uniq {S:EntD→Prop} {a:ByteArray} {e e':EntD} (h:Best S a e) (h':Best S a e'):e=e':=by
 rcases h.2.2 e' h'.1 h'.2.1 with h1|h1
 · exact h1.symm
 · rcases h'.2.2 e h.1 h.2.1 with h2|h2
   · exact h2
   · exact (vj h1 h2).elim
theorem kM {β:Type}:∀ (b:List (ByteArray×β)) (k a:ByteArray) (v:β),mget (mput b k v) a=if a=k then some v else mget b a
 | [],k,a,v=>by
  by_cases h:a=k
  · simp only [mput,mget,(KeyT.eqb_iff a k).2 h,Zf,ZO h]
  · have:KeyT.eqb a k=false:=by rw [←ZE,KeyT.eqb_iff];exact h
    simp only [mput,mget,this,Ze,ZP h]
 | (k',v')::r,k,a,v=>by
  have ih:=kM r k a v
  simp only [mput]
  cases hk:KeyT.eqb k k' with
  | true =>
   have e:=(KeyT.eqb_iff k k').1 hk
   subst e
   by_cases h:a=k
   · simp only [Zf,mget,(KeyT.eqb_iff a k).2 h,ZO h]
   · have:KeyT.eqb a k=false:=by rw [←ZE,KeyT.eqb_iff];exact h
     simp only [Zf,mget,this,Ze,ZP h]
  | false =>
   simp only [Ze,mget]
   cases ha:KeyT.eqb a k' with
   | true =>
    have e:=(KeyT.eqb_iff a k').1 ha
    subst e
    have hne:¬ a=k:=fun e=>by rw [e,(KeyT.eqb_iff k k).2 rfl] at hk;cases hk
    simp only [Zf,ZP hne]
   | false=>simp only [Ze,ih]
theorem ta {β:Type}:∀ (b:List (ByteArray×β)) (k a:ByteArray) (v:β),a∈(mput b k v).map (·.1)↔a=k∨a∈b.map (·.1)
 | [],k,a,v=>by simp [mput]
 | (k',v')::r,k,a,v=>by
  have ih:=ta r k a v
  simp only [mput]
  cases hk:KeyT.eqb k k' with
  | true =>
   have e:=(KeyT.eqb_iff k k').1 hk
   subst e
   simp
  | false =>
   simp only [Ze,Z1,ZI,ih]
   constructor
   · rintro (h|h|h)
     · exact .inr (.inl h)
     · exact .inl h
     · exact .inr (.inr h)
   · rintro (h|h|h)
     · exact .inr (.inl h)
     · exact .inl h
     · exact .inr (.inr h)
theorem nL {β:Type}:∀ (b:List (ByteArray×β)) (k:ByteArray) (v:β),(b.map (·.1)).Nodup→((mput b k v).map (·.1)).Nodup
 | [],k,v,_=>by simp [mput]
 | (k',v')::r,k,v,h=>by
  simp only [Z1,List.nodup_cons] at h
  have ih:=nL r k v h.2
  simp only [mput]
  cases hk:KeyT.eqb k k' with
  | true =>
   have e:=(KeyT.eqb_iff k k').1 hk
   subst e
   simp only [Zf,Z1,List.nodup_cons]
   exact h
  | false =>
   simp only [Ze,Z1,List.nodup_cons]
   refine ⟨fun hm=>?_,ih⟩
   rcases (ta r k k' v).1 hm with e|e
   · rw [e,(KeyT.eqb_iff k k).2 rfl] at hk;cases hk
   · exact h.1 e
theorem pC {β:Type}:∀ {b:List (ByteArray×β)} {a:ByteArray} {e:β},mget b a=some e→a∈b.map (·.1)
 | [],a,e,h=>by cases h
 | (k',v')::r,a,e,h=>by
  simp only [mget] at h
  cases hk:KeyT.eqb a k' with
  | true=>rw [(KeyT.eqb_iff a k').1 hk];simp
  | false=>rw [hk] at h;simp only [Z1,ZI];exact .inr (pC h)
structure Inv (l:List ChainD) (S:EntD→Prop) (b:List (ByteArray×EntD)):Prop where
 wf:∀ e,S e→∃ k,e∈entsV l k
 nodup:(b.map (·.1)).Nodup
 best:∀ a e,mget b a=some e→Best S a e
 all:∀ e,S e→∃ e',mget b e.l.actor=some e'
theorem Inv.congr {l:List ChainD} {S S':EntD→Prop} {b:List (ByteArray×EntD)} (h:Inv l S b) (hs:∀ e,S e↔S' e):Inv l S' b:=by
 have:S=S':=funext fun e=>propext (hs e)
 subst this
 exact h
theorem B1 {l:List ChainD} {S:EntD→Prop} {b:List (ByteArray×EntD)} {now:Int} {e:EntD} {k:ByteArray} (h:Inv l S b) (he:e∈entsV l k):Inv l (fun x=>S x∨(x=e∧now<e.l.until_)) (bestStep now b e):=by
 unfold bestStep
 by_cases hu:e.l.until_≤now
 · rw [Zd hu,Zf]
   exact h.congr fun x=>⟨.inl,fun hx=>hx.elim id fun hx=>by omega⟩
 · rw [Zc hu,Ze]
   have hu':now<e.l.until_:=by omega
   have hS:(fun x=>S x∨(x=e∧now<e.l.until_))=fun x=>S x∨x=e:=funext fun x=>propext ⟨fun hx=>hx.imp id And.left,fun hx=>hx.imp id fun hx=>⟨hx,hu'⟩⟩
   rw [hS]
   have hwf:∀ x,S x∨x=e→∃ k,x∈entsV l k:=fun x hx=>hx.elim (h.wf x) fun hx=>⟨k,hx▸he⟩
   have put:(∀ x,S x→x.l.actor=e.l.actor→x=e∨betV e x=true)→Inv l (fun x=>S x∨x=e) (mput b e.l.actor e):=fun hb=>by
    refine ⟨hwf,nL b _ _ h.nodup,fun a x hx=>?_,fun x hx=>?_⟩
    · rw [kM] at hx
      by_cases ha:a=e.l.actor
      · rw [ZO ha] at hx
        cases hx
        refine ⟨.inr rfl,ha.symm,fun e' h1 h2=>?_⟩
        rcases h1 with h1|h1
        · exact hb e' h1 (h2.trans ha)
        · exact .inl h1
      · rw [ZP ha] at hx
        have h1:=h.best a x hx
        refine ⟨.inl h1.1,h1.2.1,fun e' h2 h3=>?_⟩
        rcases h2 with h2|h2
        · exact h1.2.2 e' h2 h3
        · subst h2;exact absurd h3.symm ha
    · rw [kM]
      by_cases ha:x.l.actor=e.l.actor
      · rw [ZO ha];exact ⟨_,rfl⟩
      · rw [ZP ha]
        rcases hx with hx|hx
        · exact h.all x hx
        · subst hx;exact absurd rfl ha
   cases ho:mget b e.l.actor with
   | none =>
    refine put fun x hx ha=>?_
    obtain ⟨e',h1⟩:=h.all x hx
    rw [ha,ho] at h1
    cases h1
   | some old =>
    have hbo:=h.best _ _ ho
    simp only
    cases hc:((!eqED e old)&&betV e old) with
    | true =>
     have hb:=(Zp _ _).mp hc
     refine put fun x hx ha=>?_
     rcases hbo.2.2 x hx ha with h1|h1
     · rw [h1];exact .inr hb.2
     · exact .inr (vg hb.2 h1)
    | false =>
     simp only [Ze]
     have hoe:old=e∨betV old e=true:=by
      by_cases h1:betV old e=true
      · exact .inr h1
      · by_cases h2:betV e old=true
        · rw [h2,Zh] at hc
          have:eqED e old=true:=by simpa using hc
          exact .inl (eqED_iff.1 this).symm
        · obtain ⟨k',hk'⟩:=h.wf old hbo.1
          have h3:=vi h1 h2
          exact .inl (Cp hk' he h3.1 h3.2)
     refine ⟨hwf,h.nodup,fun a x hx=>?_,fun x hx=>?_⟩
     · have h1:=h.best a x hx
       refine ⟨.inl h1.1,h1.2.1,fun e' h2 h3=>?_⟩
       rcases h2 with h2|h2
       · exact h1.2.2 e' h2 h3
       · subst h2
         rw [←h3,ho] at hx
         cases hx
         rcases hoe with h4|h4
         · exact .inl h4.symm
         · exact .inr h4
     · rcases hx with hx|hx
       · exact h.all x hx
       · subst hx;exact ⟨old,ho⟩
theorem tk {l:List ChainD} {now:Int} {k:ByteArray}:∀ (E:List EntD) {S:EntD→Prop} {b:List (ByteArray×EntD)},Inv l S b→(∀ e∈E,e∈entsV l k)→Inv l (fun x=>S x∨(x∈E∧now<x.l.until_)) (E.foldl (bestStep now) b)
 | [],S,b,h,_=>h.congr fun x=>⟨.inl,fun hx=>hx.elim id fun hx=>by cases hx.1⟩
 | e::E,S,b,h,he=>by
  have h1:=B1 (now:=now) h (he e ax)
  have h2:=tk (now:=now) E h1 fun x hx=>he x (Zv _ hx)
  refine h2.congr fun x=>?_
  simp only [ZI]
  constructor
  · rintro ((h|⟨rfl,h⟩)|⟨h,h'⟩)
    · exact .inl h
    · exact .inr ⟨.inl rfl,h⟩
    · exact .inr ⟨.inr h,h'⟩
  · rintro (h|⟨rfl|h,h'⟩)
    · exact .inl (.inl h)
    · exact .inl (.inr ⟨rfl,h'⟩)
    · exact .inr ⟨h,h'⟩
def Cand (l:List ChainD) (ks:List ByteArray) (now:Int) (e:EntD):Prop:=(∃ k∈ks,e∈entsV l k)∧now<e.l.until_
theorem hasK_iff {ks:List ByteArray} {k:ByteArray}:hasK ks k=true↔k∈ks:=by
 rw [hasK,List.any_eq_true]
 constructor
 · rintro ⟨y,hy,h⟩
   rw [(KeyT.eqb_iff k y).1 h];exact hy
 · intro h
   exact ⟨k,h,(KeyT.eqb_iff k k).2 rfl⟩
theorem yA {ks:List ByteArray} {k a:ByteArray}:a∈sput ks k↔a=k∨a∈ks:=by
 induction ks with
 | nil=>simp [sput]
 | cons y ks ih =>
  simp only [sput]
  cases hk:KeyT.eqb k y with
  | true=>rw [(KeyT.eqb_iff k y).1 hk];simp
  | false =>
   simp only [Ze,ZI,ih]
   constructor
   · rintro (h|h|h)
     · exact .inr (.inl h)
     · exact .inl h
     · exact .inr (.inr h)
   · rintro (h|h|h)
     · exact .inr (.inl h)
     · exact .inl h
     · exact .inr (.inr h)
theorem tn (l:List ChainD) (now:Int) (ks:List ByteArray):∀ i,i≤ks.length→(∀ k,k∈(bestF l now ks i).1↔k∈ks.take i)∧Inv l (Cand l (ks.take i) now) (bestF l now ks i).2
 | 0,_=>⟨fun k=>(by simp [bestF]),{ wf:=fun e h=>(by obtain ⟨⟨k,hk,_⟩,_⟩:=h;simp at hk),nodup:=(by simp [bestF]),best:=fun a e h=>(by cases h),all:=fun e h=>(by obtain ⟨⟨k,hk,_⟩,_⟩:=h;simp at hk) }⟩
 | i+1,hi=>by
  obtain ⟨ih1,ih2⟩:=tn l now ks i aa
  have hx:ks.getD i .empty=ks[i]:=by rw [Zo,Zb (by omega)];rfl
  have ht:ks.take (i+1)=ks.take i++[ks[i]]:=by rw [Qg,Zb (by omega)];rfl
  simp only [bestF,hx,ht]
  generalize ks[i]=k0 at *
  cases hh:hasK (bestF l now ks i).1 k0 with
  | true =>
   have hin:k0∈ks.take i:=(ih1 k0).1 (hasK_iff.1 hh)
   simp only [Zf]
   refine ⟨fun k=>?_,ih2.congr fun e=>?_⟩
   · rw [ih1,Qy,Z5]
     exact ⟨.inl,fun h=>h.elim id fun h=>h▸hin⟩
   · unfold Cand
     simp only [Qy,Z5]
     exact ⟨fun ⟨⟨k,h1,h2⟩,h3⟩=>⟨⟨k,.inl h1,h2⟩,h3⟩,fun ⟨⟨k,h1,h2⟩,h3⟩=>⟨⟨k,h1.elim id fun h=>h▸hin,h2⟩,h3⟩⟩
  | false =>
   simp only [Ze]
   refine ⟨fun k=>?_,(tk (now:=now) (k:=k0) (entsV l k0) ih2 fun e he=>he).congr fun e=>?_⟩
   · rw [yA,ih1,Qy,Z5]
     exact Or.comm
   · unfold Cand
     simp only [Qy,Z5]
     constructor
     · rintro (⟨⟨k,h1,h2⟩,h3⟩|⟨h2,h3⟩)
       · exact ⟨⟨k,.inl h1,h2⟩,h3⟩
       · exact ⟨⟨k0,.inr rfl,h2⟩,h3⟩
     · rintro ⟨⟨k,h1|rfl,h2⟩,h3⟩
       · exact .inl ⟨⟨k,h1,h2⟩,h3⟩
       · exact .inr ⟨h2,h3⟩
theorem B2 (l:List ChainD) (now:Int) (ks:List ByteArray):Inv l (Cand l ks now) (bestF l now ks ks.length).2:=by
 have:=(tn l now ks ks.length (ZX _)).2
 rwa [Qh] at this
def Lst (l:List ChainD) (ks:List ByteArray) (now:Int) (x:ListD):Prop:=∃ e,Best (Cand l ks now) x.actor e∧e.l=x
theorem mem_ofV {l:List ChainD} {ks:List ByteArray} {now:Int} {x:ListD}:x∈ofV l ks now↔Lst l ks now x:=by
 have hI:=B2 l now ks
 unfold ofV
 rw [QI]
 constructor
 · rintro ⟨a,ha,rfl⟩
   obtain ⟨e,he⟩:=sY (mem_sortB.1 ha)
   have hb:=hI.best a e he
   rw [he]
   refine ⟨e,?_,rfl⟩
   show Best _ e.l.actor e
   rw [hb.2.1]
   exact hb
 · rintro ⟨e,hb,rfl⟩
   obtain ⟨e',he'⟩:=hI.all e hb.1
   have hb':=hI.best _ e' he'
   have:e=e':=hb.uniq hb'
   subst this
   exact ⟨e.l.actor,mem_sortB.2 (pC he'),by rw [he'];rfl⟩
theorem Lst.uniq {l:List ChainD} {ks:List ByteArray} {now:Int} {x y:ListD} (hx:Lst l ks now x) (hy:Lst l ks now y) (h:x.actor=y.actor):x=y:=by
 obtain ⟨e,he,rfl⟩:=hx
 obtain ⟨e',he',rfl⟩:=hy
 rw [h] at he
 rw [he.uniq he']
theorem hasL_iff {l:List ChainD} {ks:List ByteArray} {now:Int} {x:ListD} {a:ByteArray}:hasL (ofV l ks now) a=some x↔Lst l ks now x∧x.actor=a:=by
 constructor
 · intro h
   have h1:=List.find?_some h
   exact ⟨mem_ofV.1 (List.mem_of_find?_eq_some h),seqB_iff.1 h1⟩
 · rintro ⟨h,rfl⟩
   cases hf:hasL (ofV l ks now) x.actor with
   | none =>
    rw [hasL,List.find?_eq_none] at hf
    exact absurd (cW x.actor) (hf x (mem_ofV.2 h))
   | some y =>
    have h1:=mem_ofV.1 (List.mem_of_find?_eq_some hf)
    have h2:=List.find?_some hf
    rw [h.uniq h1 (seqB_iff.1 h2).symm]
theorem listed {l:List ChainD} {ks:List ByteArray} {now:Int} {e:EntD} (h:Cand l ks now e):∃ x,Lst l ks now x∧x.actor=e.l.actor∧e.l.until_≤x.until_∧(x.until_=e.l.until_→ltB e.l.by_ x.by_=false):=by
 have hI:=B2 l now ks
 obtain ⟨e',he'⟩:=hI.all e h
 have hb:=hI.best _ e' he'
 refine ⟨e'.l,⟨e',by rw [hb.2.1];exact hb,rfl⟩,hb.2.1,?_,fun hu=>?_⟩
 · rcases hb.2.2 e h rfl with h1|h1
   · rw [h1];exact Int.le_refl _
   · rw [iN] at h1;omega
 · rcases hb.2.2 e h rfl with h1|h1
   · rw [h1];exact dF _
   · rw [iN] at h1
     rcases h1 with h1|⟨_,h1|h1⟩
     · omega
     · exact kQ h1
     · rw [h1.1];exact dF _
theorem Lst.after {l:List ChainD} {ks:List ByteArray} {now:Int} {x:ListD} (h:Lst l ks now x):now<x.until_:=by
 obtain ⟨e,he,rfl⟩:=h
 exact he.1.2
structure OneMore (l l':List ChainD) (ks:List ByteArray) (id:ByteArray) (e0:EntD):Prop where
 mem:id∈ks
 far:∀ k,k≠id→entsV l' k=entsV l k
 own:entsV l' id=entsV l id++[e0]
theorem OneMore.cand {l l':List ChainD} {ks:List ByteArray} {id:ByteArray} {e0:EntD} (h:OneMore l l' ks id e0) {now:Int} {e:EntD}:Cand l' ks now e↔Cand l ks now e∨(e=e0∧now<e0.l.until_):=by
 constructor
 · rintro ⟨⟨k,hk,he⟩,hu⟩
   by_cases hki:k=id
   · subst hki
     rw [h.own] at he
     rcases Qy.1 he with he|he
     · exact .inl ⟨⟨k,hk,he⟩,hu⟩
     · rw [Z5.1 he] at hu ⊢
       exact .inr ⟨rfl,hu⟩
   · rw [h.far k hki] at he
     exact .inl ⟨⟨k,hk,he⟩,hu⟩
 · rintro (⟨⟨k,hk,he⟩,hu⟩|⟨rfl,hu⟩)
   · by_cases hki:k=id
     · subst hki
       exact ⟨⟨k,hk,by rw [h.own];exact QB _ he⟩,hu⟩
     · exact ⟨⟨k,hk,by rw [h.far k hki];exact he⟩,hu⟩
   · exact ⟨⟨id,h.mem,by rw [h.own];exact Qt _ (Z5.2 rfl)⟩,hu⟩
theorem oy {l:List ChainD} {ks:List ByteArray} {now:Int} {e:EntD} (h:Cand l ks now e):∃ x,hasL (ofV l ks now) e.l.actor=some x∧e.l.until_≤x.until_:=by
 obtain ⟨x,h1,h2,h3,_⟩:=listed h
 exact ⟨x,hasL_iff.2 ⟨h1,h2⟩,h3⟩
theorem OneMore.first {l l':List ChainD} {ks:List ByteArray} {id:ByteArray} {e0:EntD} (h:OneMore l l' ks id e0) {now:Int} (h0:0≤e0.l.until_) :
  (hasL (ofV l' ks now) e0.l.actor).isSome=((hasL (ofV l ks now) e0.l.actor).isSome||decide (now<e0.l.until_)) ∧
  ∀ x,hasL (ofV l' ks now) e0.l.actor=some x→e0.l.until_≤x.until_∧((hasL (ofV l ks now) e0.l.actor).getD ListD.zero).until_≤x.until_:=by
 have hold:∀ y,hasL (ofV l ks now) e0.l.actor=some y→∃ x,hasL (ofV l' ks now) e0.l.actor=some x∧y.until_≤x.until_:=fun y hy=>by
  obtain ⟨⟨e,he,rfl⟩,ha⟩:=hasL_iff.1 hy
  obtain ⟨x,hx,hu⟩:=oy (h.cand.2 (.inl he.1))
  rw [ha] at hx
  exact ⟨x,hx,hu⟩
 have hnew:now<e0.l.until_→∃ x,hasL (ofV l' ks now) e0.l.actor=some x∧e0.l.until_≤x.until_:=fun hu=>oy (h.cand.2 (.inr ⟨rfl,hu⟩))
 constructor
 · cases hw:hasL (ofV l ks now) e0.l.actor with
   | some y =>
    obtain ⟨x,hx,_⟩:=hold y hw
    rw [hx]
    rfl
   | none =>
    by_cases hu:now<e0.l.until_
    · obtain ⟨x,hx,_⟩:=hnew hu
      rw [hx,Zd hu]
      rfl
    · rw [Zc hu]
      cases hx:hasL (ofV l' ks now) e0.l.actor with
      | none=>rfl
      | some x =>
       obtain ⟨⟨e,he,rfl⟩,ha⟩:=hasL_iff.1 hx
       rcases h.cand.1 he.1 with h1|⟨_,h1⟩
       · obtain ⟨y,hy,_⟩:=oy h1
         rw [ha,hw] at hy
         cases hy
       · exact absurd h1 hu
 · intro x hx
   have hafter:now<x.until_:=(hasL_iff.1 hx).1.after
   have h1:e0.l.until_≤x.until_:=by
    by_cases hu:now<e0.l.until_
    · obtain ⟨x',hx',hu'⟩:=hnew hu
      rw [hx] at hx'
      cases hx'
      exact hu'
    · omega
   refine ⟨h1,?_⟩
   cases hw:hasL (ofV l ks now) e0.l.actor with
   | none=>exact Int.le_trans h0 h1
   | some y =>
    obtain ⟨x',hx',hu'⟩:=hold y hw
    rw [hx] at hx'
    cases hx'
    exact hu'
end Go.Proofs.YtaolfiikahlmkaaGreatDoor
